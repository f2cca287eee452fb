/- A term that the law makes is right. -/
import Derived.Test.YthdfpbemdaabaaaDoorTA
import Derived.Test.YthdfpbemdaabaaaDoorTZ
set_option linter.unusedVariables false
set_option linter.unusedSimpArgs false
namespace Go.Proofs.YthdfpbemdaabaaaDoor.D
open Go Go.RowKit Go.Proofs.YthdfpbemdaabaaaDoorW.PrintWords Go.Proofs.YthdfpbemdaabaaaDoorW.PrintLast Go.Proofs.YthdfpbemdaabaaaDoorW.PrintMore
set_option maxHeartbeats 4000000 in
set_option maxRecDepth 100000 in
theorem tcheck_calls (t : Tm) (h1 : sz t ≤ 20000) (h2 : 1 + ht t ≤ 500) (h3 : okA t) (w : World) (lv kv : Value) (hT : TmV w t lv kv) :
    Calls Tryd.prog 14 #[t.val lv kv] w fun e w' => e = .returned (.int .i64 0) ∧ Below w.heap.size w w' := by
  obtain ⟨a, n, c, a', n', c', rfl, rfl⟩ := hT.sl
  have K := Aside0.mk (blk_alloc (blk_new w (.cells #[.int .i64 t.f, .int .i64 t.n, .bool t.h, .string ⟨#[]⟩, .slice a n c, .slice a' n' c'] 26)) (.cells #[.int .i64 0] 60))
  have V := Aside0.mk ((hT.alloc (.cells #[.int .i64 t.f, .int .i64 t.n, .bool t.h, .string ⟨#[]⟩, .slice a n c, .slice a' n' c'] 26)).alloc (.cells #[.int .i64 0] 60))
  have G := Aside0.mk (blkAt2 (w.alloc (.cells #[.int .i64 t.f, .int .i64 t.n, .bool t.h, .string ⟨#[]⟩, .slice a n c, .slice a' n' c'] 26)) (.cells #[.int .i64 0] 60) (n := w.heap.size + 1) (by simp))
  have B := Aside0.mk (below_alloc (below_alloc (Below.refl w.heap.size w) (.cells #[.int .i64 t.f, .int .i64 t.n, .bool t.h, .string ⟨#[]⟩, .slice a n c, .slice a' n' c'] 26)) (.cells #[.int .i64 0] 60))
  have F := Aside0.mk (fits_calls t w.heap.size (w.heap.size + 1) 0 1 _ _ _ V.out (by omega) (by simp; omega) G.out (by omega) h2)
  have c0 := (blk_cell K.out 0).trans (rfl : _ = some (Value.int .i64 t.f))
  have c1 := (blk_cell K.out 1).trans (rfl : _ = some (Value.int .i64 t.n))
  have c2 := (blk_cell K.out 2).trans (rfl : _ = some (Value.bool t.h))
  have c3 := (blk_cell K.out 3).trans (rfl : _ = some (Value.string ⟨#[]⟩))
  have c4 := (blk_cell K.out 4).trans (rfl : _ = some (Value.slice a n c))
  have c5 := (blk_cell K.out 5).trans (rfl : _ = some (Value.slice a' n' c'))
  have H3 := Aside0.mk h3
  clear h1 h2 h3 hT
  show Calls Tryd.prog 14 #[.agg #[.int .i64 t.f, .int .i64 t.n, .bool t.h, .string ⟨#[]⟩, .slice a n c, .slice a' n' c']] w _
  go_enter Tryd.func14, Tryd.ntmps14
  go_wp2_with fail
  refine (show Calls Tryd.prog 28 #[.pointer (some ⟨w.heap.size + 1, 0, none⟩), .agg #[.int .i64 t.f, .int .i64 t.n, .bool t.h, .string ⟨#[]⟩, .slice a n c, .slice a' n' c'], .int .i64 1] _ _ from F.out).mono ?_
  rintro e w2 ⟨rfl, hP⟩
  have K2 := Aside0.mk (keepG G.out hP K.out (by decide) (by decide))
  have V2 := Aside0.mk (V.out.gs G.out hP)
  have B2 := Aside0.mk (B.out.trans hP.bel)
  have A2 := Aside0.mk (all_calls t H3.out w2 _ _ V2.out)
  clear hP c0 c1 c2 c3 c4 c5
  have c0 := (blk_cell K2.out 0).trans (rfl : _ = some (Value.int .i64 t.f))
  have c1 := (blk_cell K2.out 1).trans (rfl : _ = some (Value.int .i64 t.n))
  have c2 := (blk_cell K2.out 2).trans (rfl : _ = some (Value.bool t.h))
  have c3 := (blk_cell K2.out 3).trans (rfl : _ = some (Value.string ⟨#[]⟩))
  have c4 := (blk_cell K2.out 4).trans (rfl : _ = some (Value.slice a n c))
  have c5 := (blk_cell K2.out 5).trans (rfl : _ = some (Value.slice a' n' c'))
  go_wp2_with fail
  refine (show Calls Tryd.prog 29 #[.agg #[.int .i64 t.f, .int .i64 t.n, .bool t.h, .string ⟨#[]⟩, .slice a n c, .slice a' n' c'], .func (.func 30) #[] #[], .func (.func 31) #[] #[]] _ _ from A2.out).mono ?_
  rintro e w3 ⟨rfl, hb3⟩
  have B3 := Aside0.mk (B2.out.trans (hb3.mono B2.out.size))
  clear hb3
  go_wp2
  go_ret
  exact ⟨rfl, B3.out⟩
end Go.Proofs.YthdfpbemdaabaaaDoor.D
