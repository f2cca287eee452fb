/- The text of a term that the law makes. -/
import Derived.Test.YthdfpbemdaabaaaDoorTM
import Derived.Test.YthdfpbemdaabaaaDoorTE
import Derived.Test.YthdfpbemdaabaaaDoorTS
set_option linter.unusedVariables false
set_option linter.unusedSimpArgs false
namespace Go.Proofs.YthdfpbemdaabaaaDoor.D
open Go Go.RowKit Go.Proofs.YthdfpbemdaabaaaDoorW.PrintWords Go.Proofs.YthdfpbemdaabaaaDoorW.PrintLast Go.Proofs.YthdfpbemdaabaaaDoorW.PrintMore
set_option maxHeartbeats 4000000 in
set_option maxRecDepth 100000 in
theorem pterm_calls (t : Tm) (l : List UInt8) (hl : Lib.byteCells l = strs (txt t 0)) (h0 : l ≠ []) (hn : l.length ≤ 8000000) (h1 : sz t ≤ 20000) (h2 : 1 + ht t ≤ 500) (h3 : okA t) (h4 : okW t) (h5 : wl t ≤ 80000) (h6 : okT t 0) (w : World) (lv kv : Value) (hT : TmV w t lv kv) :
    Calls Tryd.prog 9 #[t.val lv kv] w fun e w' => e = .returned (.string ⟨l.toArray⟩) ∧ Below w.heap.size w w' := by
  obtain ⟨a, n, c, a', n', c', rfl, rfl⟩ := hT.sl
  have K := Aside0.mk (blk_new w (.cells #[.int .i64 t.f, .int .i64 t.n, .bool t.h, .string ⟨#[]⟩, .slice a n c, .slice a' n' c'] 26))
  have V := Aside0.mk (hT.alloc (.cells #[.int .i64 t.f, .int .i64 t.n, .bool t.h, .string ⟨#[]⟩, .slice a n c, .slice a' n' c'] 26))
  have B := Aside0.mk (below_alloc (Below.refl w.heap.size w) (.cells #[.int .i64 t.f, .int .i64 t.n, .bool t.h, .string ⟨#[]⟩, .slice a n c, .slice a' n' c'] 26))
  have C := Aside0.mk (bterm_calls t h1 h2 h3 h4 h5 _ _ _ V.out)
  have W := Aside0.mk (term_calls t 0 h6)
  have HL := Aside0.mk hl
  have H0 := Aside0.mk h0
  have HN := Aside0.mk (show (strs (txt t 0)).length ≤ 8000000 by rw [← hl, Lib.byteCells_length]; exact hn)
  clear h1 h2 h3 h4 h5 h6 hT hl h0 hn
  show Calls Tryd.prog 9 #[.agg #[.int .i64 t.f, .int .i64 t.n, .bool t.h, .string ⟨#[]⟩, .slice a n c, .slice a' n' c']] w _
  go_enter Tryd.func9, Tryd.ntmps9
  go_wp2_with fail
  refine (show Calls Tryd.prog 11 #[.agg #[.int .i64 t.f, .int .i64 t.n, .bool t.h, .string ⟨#[]⟩, .slice a n c, .slice a' n' c']] _ _ from C.out).mono ?_
  rintro e w2 ⟨v, rfl, hb2⟩
  have K2 := Aside0.mk (blk_alloc (blk_below K.out hb2) (.cells #[.pointer none, .slice none 0 0] 45))
  have V2 := Aside0.mk ((V.out.below hb2).alloc (.cells #[.pointer none, .slice none 0 0] 45))
  have B2 := Aside0.mk (B.out.trans (hb2.mono B.out.size))
  have IS := Aside0.mk (Lib.fresh_isBuilder 45 5 w2)
  have T2 := Aside0.mk (W.out w2.heap.size w2.heap.size [] _ _ _ V2.out IS.out (by simp) (by have := HN.out; simp; omega))
  clear hb2
  have c0 := (blk_cell K2.out 0).trans (rfl : _ = some (Value.int .i64 t.f))
  have c1 := (blk_cell K2.out 1).trans (rfl : _ = some (Value.int .i64 t.n))
  have c2 := (blk_cell K2.out 2).trans (rfl : _ = some (Value.bool t.h))
  have c3 := (blk_cell K2.out 3).trans (rfl : _ = some (Value.string ⟨#[]⟩))
  have c4 := (blk_cell K2.out 4).trans (rfl : _ = some (Value.slice a n c))
  have c5 := (blk_cell K2.out 5).trans (rfl : _ = some (Value.slice a' n' c'))
  go_wp2_with fail
  refine (show Calls Tryd.prog 12 #[.pointer (some ⟨w2.heap.size, 0, none⟩), .agg #[.int .i64 t.f, .int .i64 t.n, .bool t.h, .string ⟨#[]⟩, .slice a n c, .slice a' n' c'], .int .i64 0] _ _ from T2.out).mono ?_
  rintro e w3 ⟨rfl, hP⟩
  have B3 := Aside0.mk (B2.out.trans ((below_alloc (Below.refl w2.heap.size w2) (.cells #[.pointer none, .slice none 0 0] 45)).trans hP.bel |>.mono B2.out.size))
  have S3 := Aside0.mk (string_calls w2.heap.size w2.heap.size l w3 (by rw [HL.out]; exact hP.is) H0.out)
  clear hP
  go_wp2_with fail
  refine S3.out.mono ?_
  rintro e w4 ⟨rfl, hb4⟩
  have B4 := Aside0.mk (B3.out.trans (hb4.mono B2.out.size))
  clear hb4
  go_wp2
  go_ret
  exact ⟨rfl, B4.out⟩
end Go.Proofs.YthdfpbemdaabaaaDoor.D
