/- The writer's levels and terms. -/
import Derived.Test.YthdfpbemdaabaaaDoorTW
set_option linter.unusedVariables false
set_option linter.unusedSimpArgs false
namespace Go.Proofs.YthdfpbemdaabaaaDoor.D
open Go Go.RowKit Go.Proofs.YthdfpbemdaabaaaDoorW.PrintWords Go.Proofs.YthdfpbemdaabaaaDoorW.PrintLast Go.Proofs.YthdfpbemdaabaaaDoorW.PrintMore
set_option maxHeartbeats 4000000 in
set_option maxRecDepth 100000 in
theorem levs_calls (B G b : Nat) (bs : List Int) (w : World) (h : Ws B G bs w) (hB : B ≤ w.heap.size) (hl : bs.length ≤ 90000) (hb : w.heap[b]? = some (.cells #[.int .i64 0, .slice none 0 0] 35 (0, 0))) :
    Calls Tryd.prog 33 #[.pointer (some ⟨G, 0, none⟩), .slice (some ⟨b, 0, none⟩) 1 1] w fun e w' => e = .returned (.tuple #[]) ∧ Wr B G w (bs ++ [0] ++ [0]) w' := by
  have HB := Aside0.mk hB
  have HL := Aside0.mk hl
  have h1 := h.below (below_alloc (Below.refl _ _) (.cells #[.int .i64 0, .slice none 0 0] 35))
  have H1 := Aside0.mk h1
  have HK := Aside0.mk (blk_new w (.cells #[.int .i64 0, .slice none 0 0] 35))
  have N1 := Aside0.mk (show Calls Tryd.prog 32 #[.pointer (some ⟨G, 0, none⟩), .int .i64 0] (w.alloc (.cells #[.int .i64 0, .slice none 0 0] 35)) fun e w' => e = .returned (.tuple #[]) ∧ Wr B G (w.alloc (.cells #[.int .i64 0, .slice none 0 0] 35)) (bs ++ [0]) w' from
    num_calls B G bs 0 (by decide) _ h1 (by simp; omega) (by omega))
  have c0 : w.cell? ⟨b, 0, none⟩ = some (.int .i64 0) := (blk_cell hb 0).trans rfl
  have c1 : w.cell? ⟨b, 1, none⟩ = some (.slice none 0 0) := (blk_cell hb 1).trans rfl
  clear h hB hl h1 hb
  go_enter Tryd.func33, Tryd.ntmps33
  go_wp2
  refine wp_loop_rounds 2 ?_
  rw [rounds_succ]
  go_wp2_with fail
  refine N1.out.mono ?_
  rintro e w2 ⟨rfl, hP⟩
  have P2 := Aside0.mk (hP.al HB.out)
  have K2 := Aside0.mk (keepW H1.out hP HK.out (by decide) (by decide))
  have d1 : w2.cell? ⟨w.heap.size, 1, none⟩ = some (.slice none 0 0) := (blk_cell K2.out 1).trans rfl
  have N2 := Aside0.mk (show Calls Tryd.prog 32 #[.pointer (some ⟨G, 0, none⟩), .int .i64 0] w2 fun e w' => e = .returned (.tuple #[]) ∧ Wr B G w2 (bs ++ [0] ++ [0]) w' from
    num_calls B G (bs ++ [0]) 0 (by decide) w2 hP.is (by have := P2.out.bel.size; have := HB.out; omega) (by have := HL.out; simp; omega))
  clear hP
  go_wp2_with fail
  refine N2.out.mono ?_
  rintro e w3 ⟨rfl, hP⟩
  have P3 := Aside0.mk (P2.out.trans hP)
  have K3 := Aside0.mk (keepW P2.out.is hP K2.out (by decide) (by decide))
  have d2 : w3.cell? ⟨w.heap.size, 1, none⟩ = some (.slice none 0 0) := (blk_cell K3.out 1).trans rfl
  clear hP
  go_wp2
  refine wp_loop_rounds 1 ?_
  rw [rounds_succ]
  go_wp2
  rw [rounds_succ]
  go_wp2
  go_end0
  exact ⟨rfl, P3.out⟩
end Go.Proofs.YthdfpbemdaabaaaDoor.D
