/- The terms that the law makes, as values. -/
import Derived.Test.YthdfpbemdaabaaaDoorTI
set_option linter.unusedVariables false
set_option linter.unusedSimpArgs false
namespace Go.Proofs.YthdfpbemdaabaaaDoor.D
open Go Go.RowKit Go.Proofs.YthdfpbemdaabaaaDoorW.PrintWords Go.Proofs.YthdfpbemdaabaaaDoorW.PrintLast Go.Proofs.YthdfpbemdaabaaaDoorW.PrintMore
theorem blkAt3 (W : World) (o : Obj) {n : Nat} (h : W.heap.size = n) : (W.alloc o).heap[n]? = some o := h ▸ blk_new W o
set_option maxHeartbeats 4000000 in
set_option maxRecDepth 100000 in
theorem tvar_calls (n : Int) (w : World) : Calls Tryd.prog 5 #[.int .i64 n] w fun e w' => e = .returned (.agg #[.int .i64 1, .int .i64 n, .bool false, .string ⟨#[]⟩, .slice none 0 0, .slice none 0 0]) ∧ Below w.heap.size w w' := by
  have K := Aside0.mk (blk_new w (.cells #[.int .i64 0, .int .i64 0, .bool false, .string ⟨#[]⟩, .slice none 0 0, .slice none 0 0] 26))
  have f0 := blk_frozen K.out 0
  have f1 := blk_frozen K.out 1
  have f2 := blk_frozen K.out 2
  have f3 := blk_frozen K.out 3
  have f4 := blk_frozen K.out 4
  have f5 := blk_frozen K.out 5
  have c0 := (blk_cell K.out 0).trans (rfl : _ = some (Value.int .i64 0))
  have c1 := (blk_cell K.out 1).trans (rfl : _ = some (Value.int .i64 0))
  have c2 := (blk_cell K.out 2).trans (rfl : _ = some (Value.bool false))
  have c3 := (blk_cell K.out 3).trans (rfl : _ = some (Value.string ⟨#[]⟩))
  have c4 := (blk_cell K.out 4).trans (rfl : _ = some (Value.slice none 0 0))
  have c5 := (blk_cell K.out 5).trans (rfl : _ = some (Value.slice none 0 0))
  go_enter Tryd.func5, Tryd.ntmps5
  go_wp2
  ((try simp only [Exit.inBlock, Exit.then]); refine bodyPost_ret (results_cell_row rfl _ _ w.heap.size 26 #[.int .i64 1, .int .i64 n, .bool false, .string ⟨#[]⟩, .slice none 0 0, .slice none 0 0] (0, 0) _ rfl (blk_new w _) Tryd.underlying26 rfl (by kernel_rfl)) rfl ?_)
  exact ⟨rfl, below_alloc (Below.refl _ _) _⟩
set_option maxHeartbeats 4000000 in
set_option maxRecDepth 100000 in
theorem tset_calls (w : World) : Calls Tryd.prog 6 #[.int .i64 0] w fun e w' => ∃ b, e = .returned (.agg #[.int .i64 2, .int .i64 0, .bool false, .string ⟨#[]⟩, .slice (some ⟨b, 0, none⟩) 1 1, .slice none 0 0]) ∧ w'.heap[b]? = some (.cells #[.int .i64 0, .slice none 0 0] 35 (0, 0)) ∧ Below w.heap.size w w' := by
  have K := Aside0.mk (blk_alloc (blk_new w (.cells #[.int .i64 0, .int .i64 0, .bool false, .string ⟨#[]⟩, .slice none 0 0, .slice none 0 0] 26)) (.cells #[.int .i64 0, .slice none 0 0] 35))
  have f0 := blk_frozen K.out 0
  have f1 := blk_frozen K.out 1
  have f2 := blk_frozen K.out 2
  have f3 := blk_frozen K.out 3
  have f4 := blk_frozen K.out 4
  have f5 := blk_frozen K.out 5
  have c0 := (blk_cell K.out 0).trans (rfl : _ = some (Value.int .i64 0))
  have c1 := (blk_cell K.out 1).trans (rfl : _ = some (Value.int .i64 0))
  have c2 := (blk_cell K.out 2).trans (rfl : _ = some (Value.bool false))
  have c3 := (blk_cell K.out 3).trans (rfl : _ = some (Value.string ⟨#[]⟩))
  have c4 := (blk_cell K.out 4).trans (rfl : _ = some (Value.slice none 0 0))
  have c5 := (blk_cell K.out 5).trans (rfl : _ = some (Value.slice none 0 0))
  go_enter Tryd.func6, Tryd.ntmps6
  go_wp2
  ((try simp only [Exit.inBlock, Exit.then]); refine bodyPost_ret (results_cell_row rfl _ _ w.heap.size 26 #[.int .i64 2, .int .i64 0, .bool false, .string ⟨#[]⟩, .slice (some ⟨w.heap.size + 1, 0, none⟩) 1 1, .slice none 0 0] (0, 0) _ rfl (blk_alloc (blk_new w _) _) Tryd.underlying26 rfl (by kernel_rfl)) rfl ?_)
  exact ⟨w.heap.size + 1, rfl, blkAt3 _ _ (by simp), below_alloc (below_alloc (Below.refl _ _) _) _⟩
theorem TmV.sl' {W : World} {t : Tm} {lv kv : Value} (h : TmV W t lv kv) : ∃ a n c a' n' c', lv = .slice a n c ∧ kv = .slice a' n' c' := by
  cases t with
  | v n => obtain ⟨rfl, rfl⟩ := h; exact ⟨_, _, _, _, _, _, rfl, rfl⟩
  | s => obtain ⟨rfl, b, rfl, _⟩ := h; exact ⟨_, _, _, _, _, _, rfl, rfl⟩
  | l hb x y => obtain ⟨rfl, b, _, _, _, _, rfl, _⟩ := h; exact ⟨_, _, _, _, _, _, rfl, rfl⟩
set_option maxHeartbeats 4000000 in
set_option maxRecDepth 100000 in
theorem tlam_calls (x y : Tm) (lx kx ly ky : Value) (w : World) (hx : TmV w x lx kx) (hy : TmV w y ly ky) : Calls Tryd.prog 10 #[x.val lx kx, y.val ly ky] w fun e w' => ∃ lv kv, e = .returned ((Tm.l false x y).val lv kv) ∧ TmV w' (.l false x y) lv kv ∧ Below w.heap.size w w' := by
  obtain ⟨ax, nx, cx, ax', nx', cx', rfl, rfl⟩ := hx.sl'
  obtain ⟨ay, ny, cy, ay', ny', cy', rfl, rfl⟩ := hy.sl'
  have HX := Aside0.mk hx
  have HY := Aside0.mk hy
  clear hx hy
  show Calls Tryd.prog 10 #[.agg #[.int .i64 x.f, .int .i64 x.n, .bool x.h, .string ⟨#[]⟩, .slice ax nx cx, .slice ax' nx' cx'], .agg #[.int .i64 y.f, .int .i64 y.n, .bool y.h, .string ⟨#[]⟩, .slice ay ny cy, .slice ay' ny' cy']] w _
  go_enter Tryd.func10, Tryd.ntmps10
  go_wp2
  ((try simp only [Exit.inBlock, Exit.then]); refine bodyPost_ret (results_cell_row rfl _ _ (w.heap.size + 1 + 1) 26 #[.int .i64 4, .int .i64 0, .bool false, .string ⟨#[]⟩, .slice none 0 0, .slice (some ⟨w.heap.size + 1 + 1 + 1, 0, none⟩) 2 2] (0, 0) _ rfl (blk_alloc (blkAt3 _ _ (by simp)) _) Tryd.underlying26 rfl (by kernel_rfl)) rfl ?_)
  exact ⟨_, _, rfl, ⟨rfl, w.heap.size + 1 + 1 + 1, _, _, _, _, rfl, blkAt3 _ _ (by simp), (((HX.out.alloc _).alloc _).alloc _).alloc _, (((HY.out.alloc _).alloc _).alloc _).alloc _⟩, below_alloc (below_alloc (below_alloc (below_alloc (Below.refl _ _) _) _) _) _⟩
end Go.Proofs.YthdfpbemdaabaaaDoor.D
