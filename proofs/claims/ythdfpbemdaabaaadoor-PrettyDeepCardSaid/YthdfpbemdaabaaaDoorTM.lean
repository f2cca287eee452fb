/- The bytes of a term that the law makes: there are some. -/
import Derived.Test.YthdfpbemdaabaaaDoorTK
set_option linter.unusedVariables false
set_option linter.unusedSimpArgs false
namespace Go.Proofs.YthdfpbemdaabaaaDoor.D
open Go Go.RowKit Go.Proofs.YthdfpbemdaabaaaDoorW.PrintWords Go.Proofs.YthdfpbemdaabaaaDoorW.PrintLast Go.Proofs.YthdfpbemdaabaaaDoorW.PrintMore
set_option maxHeartbeats 4000000 in
set_option maxRecDepth 100000 in
theorem bterm_calls (t : Tm) (h1 : sz t ≤ 20000) (h2 : 1 + ht t ≤ 500) (h3 : okA t) (h4 : okW t) (h5 : wl t ≤ 80000) (w : World) (lv kv : Value) (hT : TmV w t lv kv) :
    Calls Tryd.prog 11 #[t.val lv kv] w fun e w' => ∃ v, e = .returned (.tuple #[v, .int .i64 0]) ∧ Below w.heap.size w w' := by
  obtain ⟨a, n, c, a', n', c', rfl, rfl⟩ := hT.sl
  have K := Aside0.mk (blk_new w (.cells #[.int .i64 t.f, .int .i64 t.n, .bool t.h, .string ⟨#[]⟩, .slice a n c, .slice a' n' c'] 26))
  have V := Aside0.mk (hT.alloc (.cells #[.int .i64 t.f, .int .i64 t.n, .bool t.h, .string ⟨#[]⟩, .slice a n c, .slice a' n' c'] 26))
  have B := Aside0.mk (below_alloc (Below.refl w.heap.size w) (.cells #[.int .i64 t.f, .int .i64 t.n, .bool t.h, .string ⟨#[]⟩, .slice a n c, .slice a' n' c'] 26))
  have C := Aside0.mk (tcheck_calls t h1 h2 h3 _ _ _ V.out)
  have W := Aside0.mk (wterm_calls t h4)
  have H5 := Aside0.mk h5
  clear h1 h2 h3 h4 h5 hT
  show Calls Tryd.prog 11 #[.agg #[.int .i64 t.f, .int .i64 t.n, .bool t.h, .string ⟨#[]⟩, .slice a n c, .slice a' n' c']] w _
  go_enter Tryd.func11, Tryd.ntmps11
  go_wp2_with fail
  refine (show Calls Tryd.prog 14 #[.agg #[.int .i64 t.f, .int .i64 t.n, .bool t.h, .string ⟨#[]⟩, .slice a n c, .slice a' n' c']] _ _ from C.out).mono ?_
  rintro e w2 ⟨rfl, hb2⟩
  have K2 := Aside0.mk (blk_alloc (blk_below K.out hb2) (.cells #[.slice none 0 0] 51))
  have V2 := Aside0.mk ((V.out.below hb2).alloc (.cells #[.slice none 0 0] 51))
  have B2 := Aside0.mk (B.out.trans (hb2.mono B.out.size))
  have WS := Aside0.mk (show Ws w.heap.size w2.heap.size [] (w2.alloc (.cells #[.slice none 0 0] 51)) from ⟨by have := B2.out.size; omega, _, blk_new w2 _, Kd.R_nil _ _ _ _ _⟩)
  have T2 := Aside0.mk (W.out w.heap.size w2.heap.size [] _ _ _ V2.out WS.out (by have := B2.out.size; simp; omega) (by have := H5.out; simp; omega))
  clear hb2
  have c0 := (blk_cell K2.out 0).trans (rfl : _ = some (Value.int .i64 t.f))
  have c1 := (blk_cell K2.out 1).trans (rfl : _ = some (Value.int .i64 t.n))
  have c2 := (blk_cell K2.out 2).trans (rfl : _ = some (Value.bool t.h))
  have c3 := (blk_cell K2.out 3).trans (rfl : _ = some (Value.string ⟨#[]⟩))
  have c4 := (blk_cell K2.out 4).trans (rfl : _ = some (Value.slice a n c))
  have c5 := (blk_cell K2.out 5).trans (rfl : _ = some (Value.slice a' n' c'))
  go_wp2_with fail
  refine (show Calls Tryd.prog 15 #[.pointer (some ⟨w2.heap.size, 0, none⟩), .agg #[.int .i64 t.f, .int .i64 t.n, .bool t.h, .string ⟨#[]⟩, .slice a n c, .slice a' n' c']] _ _ from T2.out).mono ?_
  rintro e w3 ⟨rfl, cs, hcs, hP⟩
  have B3 := Aside0.mk ((below_alloc B2.out _).trans hP.bel)
  have T3 := Aside0.mk (told_calls w.heap.size w2.heap.size ([] ++ cs) w3 hP.is (by have := H5.out; simp; omega))
  clear hP hcs
  go_wp2_with fail
  refine T3.out.mono ?_
  rintro e w4 ⟨v, rfl, rfl⟩
  go_wp2
  ((try simp only [Exit.inBlock, Exit.then]); refine bodyPost_ret (results_tmp2 (fn := Tryd.f11) (t := 2) (u := 3) rfl _ _ _) rfl ?_)
  exact ⟨_, rfl, B3.out⟩
end Go.Proofs.YthdfpbemdaabaaaDoor.D
