import Derived.Test.YthdfpbemdaabaaaDoorTQ
set_option linter.unusedVariables false
set_option linter.unusedSimpArgs false
namespace Go.Proofs.YthdfpbemdaabaaaDoor.D
open Go Go.RowKit Go.Proofs.YthdfpbemdaabaaaDoorW.PrintWords Go.Proofs.YthdfpbemdaabaaaDoorW.PrintLast Go.Proofs.YthdfpbemdaabaaaDoorW.PrintMore
theorem blkAt2 (W : World) (o : Obj) {n : Nat} (h : W.heap.size = n) : (W.alloc o).heap[n]? = some o := h ▸ blk_new W o
set_option maxHeartbeats 4000000 in
set_option maxRecDepth 100000 in
theorem norm0 (w : World) : Calls Tryd.prog 57 #[.agg #[.int .i64 0, .slice none 0 0]] w fun e w' => e = .returned (.agg #[.int .i64 0, .slice none 0 0]) ∧ Below w.heap.size w w' := by
  go_enter Tryd.func57, Tryd.ntmps57
  go_wp2
  refine wp_loop_rounds 1 ?_
  rw [rounds_succ]
  go_wp2
  refine wp_loop_rounds 1 ?_
  rw [rounds_succ]
  go_wp2
  have hx := blk_alloc (blkAt2 (w.alloc (.cells #[.int .i64 0, .slice none 0 0] 35)) (.cells #[.int .i64 0, .slice none 0 0] 35) (n := w.heap.size + 1) (by simp)) (.cells #[.int .i64 0, .slice none 0 0] 35)
  ((try simp only [Exit.inBlock, Exit.then]); refine bodyPost_ret (results_cell_row rfl _ _ (w.heap.size + 1) 35 #[.int .i64 0, .slice none 0 0] (0, 0) _ rfl hx Tryd.underlying35 rfl (by kernel_rfl)) rfl ?_)
  exact ⟨rfl, below_alloc (below_alloc (below_alloc (Below.refl _ _) _) _) _⟩
set_option maxHeartbeats 4000000 in
set_option maxRecDepth 100000 in
theorem right0 (w : World) : Calls Tryd.prog 56 #[.agg #[.int .i64 0, .slice none 0 0]] w fun e w' => e = .returned (.bool true) ∧ Below w.heap.size w w' := by
  go_enter Tryd.func56, Tryd.ntmps56
  go_wp2
  refine wp_loop_rounds 1 ?_
  rw [rounds_succ]
  go_wp2
  go_ret
  exact ⟨rfl, below_alloc (Below.refl _ _) _⟩
set_option maxHeartbeats 4000000 in
set_option maxRecDepth 100000 in
theorem equal0 (w : World) : Calls Tryd.prog 53 #[.slice none 0 0, .slice none 0 0] w fun e w' => e = .returned (.bool true) ∧ Below w.heap.size w w' := by
  go_enter Tryd.func53, Tryd.ntmps53
  go_wp2
  refine wp_loop_rounds 1 ?_
  rw [rounds_succ]
  go_wp2
  go_ret
  exact ⟨rfl, Below.refl _ _⟩
set_option maxHeartbeats 4000000 in
set_option maxRecDepth 100000 in
theorem nrm0 (w : World) : Calls Tryd.prog 52 #[.agg #[.int .i64 0, .slice none 0 0]] w fun e w' => e = .returned (.tuple #[.agg #[.int .i64 0, .slice none 0 0], .int .i64 0]) ∧ Below w.heap.size w w' := by
  have HA := Aside0.mk (blk_alloc (blk_new w (.cells #[.int .i64 0, .slice none 0 0] 35)) (.cells #[.int .i64 0, .slice none 0 0] 35))
  have HC := Aside0.mk (blkAt2 (w.alloc (.cells #[.int .i64 0, .slice none 0 0] 35)) (.cells #[.int .i64 0, .slice none 0 0] 35) (n := w.heap.size + 1) (by simp))
  have HB := Aside0.mk (below_alloc (below_alloc (Below.refl w.heap.size w) (.cells #[.int .i64 0, .slice none 0 0] 35)) (.cells #[.int .i64 0, .slice none 0 0] 35))
  have HR := Aside0.mk (right0 ((w.alloc (.cells #[.int .i64 0, .slice none 0 0] 35)).alloc (.cells #[.int .i64 0, .slice none 0 0] 35)))
  go_enter Tryd.func52, Tryd.ntmps52
  go_wp2_with fail
  refine HR.out.mono ?_
  rintro e w2 ⟨rfl, hb2⟩
  have A2 := Aside0.mk (blk_below HA.out hb2)
  have C2 := Aside0.mk (blk_below HC.out hb2)
  have B2 := Aside0.mk (HB.out.trans (hb2.mono HB.out.size))
  have a0 : w2.cell? ⟨w.heap.size, 0, none⟩ = some (.int .i64 0) := (blk_cell A2.out 0).trans rfl
  have a1 : w2.cell? ⟨w.heap.size, 1, none⟩ = some (.slice none 0 0) := (blk_cell A2.out 1).trans rfl
  have HN := Aside0.mk (norm0 w2)
  clear hb2 HR
  go_wp2_with fail
  refine HN.out.mono ?_
  rintro e w3 ⟨rfl, hb3⟩
  have C3 := Aside0.mk (blk_below C2.out hb3)
  have B3 := Aside0.mk (B2.out.trans (hb3.mono B2.out.size))
  have c0 : w3.cell? ⟨w.heap.size + 1, 0, none⟩ = some (.int .i64 0) := (blk_cell C3.out 0).trans rfl
  have c1 : w3.cell? ⟨w.heap.size + 1, 1, none⟩ = some (.slice none 0 0) := (blk_cell C3.out 1).trans rfl
  have f0 := blk_frozen C3.out 0
  have f1 := blk_frozen C3.out 1
  clear hb3 a0 a1
  go_wp2
  have hx := blk_put (blk_put C3.out 0 (.int .i64 0) rfl) 1 (.slice none 0 0) rfl
  ((try simp only [Exit.inBlock, Exit.then]); refine bodyPost_ret (results_ct rfl _ _ (w.heap.size + 1) 35 #[.int .i64 0, .slice none 0 0] (0, 0) _ rfl hx Tryd.underlying35 rfl (by kernel_rfl)) rfl ?_)
  exact ⟨rfl, (B3.out.setCell (p := ⟨w.heap.size + 1, 0, none⟩) (by simp) _).setCell (p := ⟨w.heap.size + 1, 1, none⟩) (by simp) _⟩
set_option maxHeartbeats 4000000 in
set_option maxRecDepth 100000 in
theorem canon0 (w : World) : Calls Tryd.prog 49 #[.agg #[.int .i64 0, .slice none 0 0]] w fun e w' => e = .returned (.bool true) ∧ Below w.heap.size w w' := by
  have HA := Aside0.mk (blk_new w (.cells #[.int .i64 0, .slice none 0 0] 35))
  have HB := Aside0.mk (below_alloc (Below.refl w.heap.size w) (.cells #[.int .i64 0, .slice none 0 0] 35))
  have HR := Aside0.mk (nrm0 (w.alloc (.cells #[.int .i64 0, .slice none 0 0] 35)))
  go_enter Tryd.func49, Tryd.ntmps49
  go_wp2_with fail
  refine HR.out.mono ?_
  rintro e w2 ⟨rfl, hb2⟩
  have A2 := Aside0.mk (blk_alloc (blk_below HA.out hb2) (.cells #[.int .i64 0, .slice none 0 0] 35))
  have B2 := Aside0.mk (below_alloc (HB.out.trans (hb2.mono HB.out.size)) (.cells #[.int .i64 0, .slice none 0 0] 35))
  have a0 : (w2.alloc (.cells #[.int .i64 0, .slice none 0 0] 35)).cell? ⟨w.heap.size, 0, none⟩ = some (.int .i64 0) := (blk_cell A2.out 0).trans rfl
  have a1 : (w2.alloc (.cells #[.int .i64 0, .slice none 0 0] 35)).cell? ⟨w.heap.size, 1, none⟩ = some (.slice none 0 0) := (blk_cell A2.out 1).trans rfl
  have HE := Aside0.mk (equal0 (w2.alloc (.cells #[.int .i64 0, .slice none 0 0] 35)))
  clear hb2 HR
  go_wp2_with fail
  refine HE.out.mono ?_
  rintro e w3 ⟨rfl, hb3⟩
  have B3 := Aside0.mk (B2.out.trans (hb3.mono B2.out.size))
  clear hb3
  go_wp2
  go_ret
  exact ⟨rfl, B3.out⟩
set_option maxHeartbeats 4000000 in
set_option maxRecDepth 100000 in
theorem levels0 (b : Nat) (w : World) (hb : w.heap[b]? = some (.cells #[.int .i64 0, .slice none 0 0] 35 (0, 0))) : Calls Tryd.prog 44 #[.slice (some ⟨b, 0, none⟩) 1 1] w fun e w' => e = .returned (.bool true) ∧ Below w.heap.size w w' := by
  have b0 : w.cell? ⟨b, 0, none⟩ = some (.int .i64 0) := (blk_cell hb 0).trans rfl
  have b1 : w.cell? ⟨b, 1, none⟩ = some (.slice none 0 0) := (blk_cell hb 1).trans rfl
  have HB := Aside0.mk (below_alloc (Below.refl w.heap.size w) (.cells #[.int .i64 0, .slice none 0 0] 35))
  have HC := Aside0.mk (canon0 (w.alloc (.cells #[.int .i64 0, .slice none 0 0] 35)))
  clear hb
  go_enter Tryd.func44, Tryd.ntmps44
  go_wp2
  refine wp_loop_rounds 2 ?_
  rw [rounds_succ]
  go_wp2_with fail
  refine HC.out.mono ?_
  rintro e w2 ⟨rfl, hb2⟩
  have B2 := Aside0.mk (HB.out.trans (hb2.mono HB.out.size))
  clear hb2
  go_wp2_with fail
  try rw [rounds_succ]
  go_wp2
  go_ret
  exact ⟨rfl, B2.out⟩
end Go.Proofs.YthdfpbemdaabaaaDoor.D
