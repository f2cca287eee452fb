/- All parts of such a term have their form. -/
import Derived.Test.YthdfpbemdaabaaaDoorTF
import Derived.Test.YthdfpbemdaabaaaDoorTY
set_option linter.unusedVariables false
set_option linter.unusedSimpArgs false
namespace Go.Proofs.YthdfpbemdaabaaaDoor.D
open Go Go.RowKit Go.Proofs.YthdfpbemdaabaaaDoorW.PrintWords Go.Proofs.YthdfpbemdaabaaaDoorW.PrintLast Go.Proofs.YthdfpbemdaabaaaDoorW.PrintMore
def AC (t : Tm) : Prop := ∀ (w : World) (lv kv : Value), TmV w t lv kv → Calls Tryd.prog 29 #[t.val lv kv, .func (.func 30) #[] #[], .func (.func 31) #[] #[]] w fun e w' => e = .returned (.bool true) ∧ Below w.heap.size w w'
set_option maxHeartbeats 4000000 in
set_option maxRecDepth 100000 in
theorem all_v (n : Nat) (hn : n < 100) : AC (.v n) := by
  intro w lv kv hT
  obtain ⟨rfl, rfl⟩ := hT
  have HK := Aside0.mk (blk_new w (.cells #[.int .i64 1, .int .i64 (n : Int), .bool false, .string ⟨#[]⟩, .slice none 0 0, .slice none 0 0] 26))
  have HB := Aside0.mk (below_alloc (Below.refl w.heap.size w) (.cells #[.int .i64 1, .int .i64 (n : Int), .bool false, .string ⟨#[]⟩, .slice none 0 0, .slice none 0 0] 26))
  have HF := Aside0.mk (formed_v n hn (w.alloc (.cells #[.int .i64 1, .int .i64 (n : Int), .bool false, .string ⟨#[]⟩, .slice none 0 0, .slice none 0 0] 26)))
  show Calls Tryd.prog 29 #[.agg #[.int .i64 1, .int .i64 (n : Int), .bool false, .string ⟨#[]⟩, .slice none 0 0, .slice none 0 0], .func (.func 30) #[] #[], .func (.func 31) #[] #[]] w _
  go_enter Tryd.func29, Tryd.ntmps29
  go_wp2_with fail
  refine HF.out.mono ?_
  rintro e w2 ⟨rfl, hb2⟩
  have K2 := Aside0.mk (blk_below HK.out hb2)
  have B2 := Aside0.mk (HB.out.trans (hb2.mono HB.out.size))
  clear hb2
  have c0 := (blk_cell K2.out 0)
  have c1 := (blk_cell K2.out 1)
  have c2 := (blk_cell K2.out 2)
  have c3 := (blk_cell K2.out 3)
  have c4 := (blk_cell K2.out 4)
  have c5 := (blk_cell K2.out 5)
  simp at c0 c1 c2 c3 c4 c5
  go_wp2_with fail
  refine (parts_nil _ _ _ _ _ w2).mono ?_
  rintro e w3 ⟨rfl, hb3⟩
  have B3 := Aside0.mk (B2.out.trans (hb3.mono B2.out.size))
  clear hb3
  go_wp2
  refine wp_loop_rounds 1 ?_
  rw [rounds_succ]
  go_wp2
  go_ret
  exact ⟨rfl, B3.out⟩
set_option maxHeartbeats 4000000 in
set_option maxRecDepth 100000 in
theorem all_s : AC .s := by
  intro w lv kv hT
  obtain ⟨rfl, b, rfl, hb⟩ := hT
  have HK := Aside0.mk (blk_new w (.cells #[.int .i64 2, .int .i64 0, .bool false, .string ⟨#[]⟩, .slice (some ⟨b, 0, none⟩) 1 1, .slice none 0 0] 26))
  have HB := Aside0.mk (below_alloc (Below.refl w.heap.size w) (.cells #[.int .i64 2, .int .i64 0, .bool false, .string ⟨#[]⟩, .slice (some ⟨b, 0, none⟩) 1 1, .slice none 0 0] 26))
  have HF := Aside0.mk (formed_s b (w.alloc (.cells #[.int .i64 2, .int .i64 0, .bool false, .string ⟨#[]⟩, .slice (some ⟨b, 0, none⟩) 1 1, .slice none 0 0] 26)) (blk_alloc hb _))
  show Calls Tryd.prog 29 #[.agg #[.int .i64 2, .int .i64 0, .bool false, .string ⟨#[]⟩, .slice (some ⟨b, 0, none⟩) 1 1, .slice none 0 0], .func (.func 30) #[] #[], .func (.func 31) #[] #[]] w _
  go_enter Tryd.func29, Tryd.ntmps29
  go_wp2_with fail
  refine HF.out.mono ?_
  rintro e w2 ⟨rfl, hb2⟩
  have K2 := Aside0.mk (blk_below HK.out hb2)
  have B2 := Aside0.mk (HB.out.trans (hb2.mono HB.out.size))
  clear hb2
  have c0 := (blk_cell K2.out 0)
  have c1 := (blk_cell K2.out 1)
  have c2 := (blk_cell K2.out 2)
  have c3 := (blk_cell K2.out 3)
  have c4 := (blk_cell K2.out 4)
  have c5 := (blk_cell K2.out 5)
  simp at c0 c1 c2 c3 c4 c5
  go_wp2_with fail
  refine (parts_nil _ _ _ _ _ w2).mono ?_
  rintro e w3 ⟨rfl, hb3⟩
  have B3 := Aside0.mk (B2.out.trans (hb3.mono B2.out.size))
  clear hb3
  go_wp2
  refine wp_loop_rounds 1 ?_
  rw [rounds_succ]
  go_wp2
  go_ret
  exact ⟨rfl, B3.out⟩
set_option maxHeartbeats 8000000 in
set_option maxRecDepth 100000 in
theorem all_l (hb : Bool) (x y : Tm) (hx : AC x) (hy : AC y) : AC (.l hb x y) := by
  intro w lv kv hT
  obtain ⟨rfl, b, lx, kx, ly, ky, rfl, hbl, hvx, hvy⟩ := hT
  obtain ⟨ax, nx, cx, ax', nx', cx', rfl, rfl⟩ := hvx.sl
  obtain ⟨ay, ny, cy, ay', ny', cy', rfl, rfl⟩ := hvy.sl
  have HX := Aside0.mk hx
  have HY := Aside0.mk hy
  have HK := Aside0.mk (blk_new w (.cells #[.int .i64 4, .int .i64 0, .bool hb, .string ⟨#[]⟩, .slice none 0 0, .slice (some ⟨b, 0, none⟩) 2 2] 26))
  have HL := Aside0.mk (blk_alloc hbl (.cells #[.int .i64 4, .int .i64 0, .bool hb, .string ⟨#[]⟩, .slice none 0 0, .slice (some ⟨b, 0, none⟩) 2 2] 26))
  have X1 := Aside0.mk (hvx.alloc (.cells #[.int .i64 4, .int .i64 0, .bool hb, .string ⟨#[]⟩, .slice none 0 0, .slice (some ⟨b, 0, none⟩) 2 2] 26))
  have Y1 := Aside0.mk (hvy.alloc (.cells #[.int .i64 4, .int .i64 0, .bool hb, .string ⟨#[]⟩, .slice none 0 0, .slice (some ⟨b, 0, none⟩) 2 2] 26))
  have HB := Aside0.mk (below_alloc (Below.refl w.heap.size w) (.cells #[.int .i64 4, .int .i64 0, .bool hb, .string ⟨#[]⟩, .slice none 0 0, .slice (some ⟨b, 0, none⟩) 2 2] 26))
  have HF := Aside0.mk (formed_l hb b (w.alloc (.cells #[.int .i64 4, .int .i64 0, .bool hb, .string ⟨#[]⟩, .slice none 0 0, .slice (some ⟨b, 0, none⟩) 2 2] 26)))
  clear hx hy hbl hvx hvy
  show Calls Tryd.prog 29 #[.agg #[.int .i64 4, .int .i64 0, .bool hb, .string ⟨#[]⟩, .slice none 0 0, .slice (some ⟨b, 0, none⟩) 2 2], .func (.func 30) #[] #[], .func (.func 31) #[] #[]] w _
  go_enter Tryd.func29, Tryd.ntmps29
  go_wp2_with fail
  refine HF.out.mono ?_
  rintro e w2 ⟨rfl, hb2⟩
  have K2 := Aside0.mk (blk_below HK.out hb2)
  have L2 := Aside0.mk (blk_below HL.out hb2)
  have X2 := Aside0.mk (X1.out.below hb2)
  have Y2 := Aside0.mk (Y1.out.below hb2)
  have B2 := Aside0.mk (HB.out.trans (hb2.mono HB.out.size))
  clear hb2
  have c0 := (blk_cell K2.out 0)
  have c1 := (blk_cell K2.out 1)
  have c2 := (blk_cell K2.out 2)
  have c3 := (blk_cell K2.out 3)
  have c4 := (blk_cell K2.out 4)
  have c5 := (blk_cell K2.out 5)
  simp at c0 c1 c2 c3 c4 c5
  go_wp2_with fail
  refine (parts_two _ _ _ _ _ b w2).mono ?_
  rintro e w3 ⟨rfl, hb3⟩
  have L3 := Aside0.mk (blk_below L2.out hb3)
  have X3 := Aside0.mk (X2.out.below hb3)
  have Y3 := Aside0.mk (Y2.out.below hb3)
  have B3 := Aside0.mk (B2.out.trans (hb3.mono B2.out.size))
  clear hb3 c0 c1 c2 c3 c4 c5
  have b0 : w3.cell? ⟨b, 0, none⟩ = some (.int .i64 x.f) := (blk_cell L3.out 0).trans rfl
  have b1 : w3.cell? ⟨b, 1, none⟩ = some (.int .i64 x.n) := (blk_cell L3.out 1).trans rfl
  have b2 : w3.cell? ⟨b, 2, none⟩ = some (.bool x.h) := (blk_cell L3.out 2).trans rfl
  have b3 : w3.cell? ⟨b, 3, none⟩ = some (.string ⟨#[]⟩) := (blk_cell L3.out 3).trans rfl
  have b4 : w3.cell? ⟨b, 4, none⟩ = some (.slice ax nx cx) := (blk_cell L3.out 4).trans rfl
  have b5 : w3.cell? ⟨b, 5, none⟩ = some (.slice ax' nx' cx') := (blk_cell L3.out 5).trans rfl
  have T3 := Aside0.mk (HX.out (w3.alloc (.cells #[.int .i64 x.f, .int .i64 x.n, .bool x.h, .string ⟨#[]⟩, (.slice ax nx cx), (.slice ax' nx' cx')] 26)) _ _ (X3.out.alloc _))
  go_wp2
  refine wp_loop_rounds 3 ?_
  rw [rounds_succ]
  go_wp2_with fail
  refine (show Calls Tryd.prog 29 #[.agg #[.int .i64 x.f, .int .i64 x.n, .bool x.h, .string ⟨#[]⟩, .slice ax nx cx, .slice ax' nx' cx'], .func (.func 30) #[] #[], .func (.func 31) #[] #[]] _ _ from T3.out).mono ?_
  rintro e w4 ⟨rfl, hb4⟩
  have hb5 := (below_alloc (Below.refl w3.heap.size w3) (.cells #[.int .i64 x.f, .int .i64 x.n, .bool x.h, .string ⟨#[]⟩, (.slice ax nx cx), (.slice ax' nx' cx')] 26)).trans (hb4.mono (by simp))
  have L4 := Aside0.mk (blk_below L3.out hb5)
  have Y4 := Aside0.mk (Y3.out.below hb5)
  have B4 := Aside0.mk (B3.out.trans (hb5.mono B3.out.size))
  have T4 := Aside0.mk (HY.out (w4.alloc (.cells #[.int .i64 y.f, .int .i64 y.n, .bool y.h, .string ⟨#[]⟩, (.slice ay ny cy), (.slice ay' ny' cy')] 26)) _ _ (Y4.out.alloc _))
  clear hb4 hb5 b0 b1 b2 b3 b4 b5 T3
  have b0 : w4.cell? ⟨b, 6, none⟩ = some (.int .i64 y.f) := (blk_cell L4.out 6).trans rfl
  have b1 : w4.cell? ⟨b, 7, none⟩ = some (.int .i64 y.n) := (blk_cell L4.out 7).trans rfl
  have b2 : w4.cell? ⟨b, 8, none⟩ = some (.bool y.h) := (blk_cell L4.out 8).trans rfl
  have b3 : w4.cell? ⟨b, 9, none⟩ = some (.string ⟨#[]⟩) := (blk_cell L4.out 9).trans rfl
  have b4 : w4.cell? ⟨b, 10, none⟩ = some (.slice ay ny cy) := (blk_cell L4.out 10).trans rfl
  have b5 : w4.cell? ⟨b, 11, none⟩ = some (.slice ay' ny' cy') := (blk_cell L4.out 11).trans rfl
  go_wp2_with fail
  try rw [rounds_succ]
  go_wp2_with fail
  refine (show Calls Tryd.prog 29 #[.agg #[.int .i64 y.f, .int .i64 y.n, .bool y.h, .string ⟨#[]⟩, .slice ay ny cy, .slice ay' ny' cy'], .func (.func 30) #[] #[], .func (.func 31) #[] #[]] _ _ from T4.out).mono ?_
  rintro e w5 ⟨rfl, hb4⟩
  have hb5 := (below_alloc (Below.refl w4.heap.size w4) (.cells #[.int .i64 y.f, .int .i64 y.n, .bool y.h, .string ⟨#[]⟩, (.slice ay ny cy), (.slice ay' ny' cy')] 26)).trans (hb4.mono (by simp))
  have B5 := Aside0.mk (B4.out.trans (hb5.mono B4.out.size))
  clear hb4 hb5
  go_wp2_with fail
  try rw [rounds_succ]
  go_wp2
  go_ret
  exact ⟨rfl, B5.out⟩
def okA : Tm → Prop
  | .v n => n < 100
  | .s => True
  | .l _ x y => okA x ∧ okA y
theorem all_calls : ∀ t : Tm, okA t → AC t
  | .v n, h => all_v n h
  | .s, _ => all_s
  | .l hb x y, ⟨h1, h2⟩ => all_l hb x y (all_calls x h1) (all_calls y h2)
end Go.Proofs.YthdfpbemdaabaaaDoor.D
