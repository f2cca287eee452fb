-- by wip/tools/gprint.py of this session over the kit's print; given functions are this session's own text
import Derived.Test.YtbopadglafbdjaaPXx0
import Derived.Test.YtbopadglafbdjaaPXxf53
import Derived.Test.YtbopadglafbdjaaPXxf57
import Derived.Test.YtbopadglafbdjaaPXxf50
import Derived.Test.YtbopadglafbdjaaPXxf58
import Derived.Test.YtbopadglafbdjaaPXxf43
import Derived.Test.YtbopadglafbdjaaPXxf49
import Derived.Test.YtbopadglafbdjaaPXxf45
import Derived.Test.YtbopadglafbdjaaPXxf46
import Derived.Test.YtbopadglafbdjaaPXxf37
import Derived.Test.YtbopadglafbdjaaPXxf38
import Derived.Test.YtbopadglafbdjaaPXxf59
namespace Go.Proofs.Ytbopadglafbdjaa.PX
open Go.RowKit Go.Proofs.YtbopadglafbdjaaW.PrintWords Go.Proofs.YtbopadglafbdjaaW.PrintLast Go.Proofs.YtbopadglafbdjaaW.PrintMore
attribute [local go_sem] max2_int min2_int max_two min_two max_three min_three max_four min_four   -- for this text's walks alone
set_option linter.unusedVariables false
set_option linter.unusedSimpArgs false

/-! ### telamonlaw1_LevelValues: function 17 -/
mutual
def telamonlaw1_LevelValues.j0 : Nat → Int → List Int → Bool → Bool → Int → List (S62) → Int → List (S62) → Option (Bool)
 | 0, _, _, _, _, _, _, _, _ => none
 | k + 1, x2, x3, x9, x40, x102000, x102001, x103000, x103001 => if x40 = true then (some x9) else (telamonlaw1_LevelValues.l0 k x2 x3 0 x102000 x102001 x103000 x103001)
def telamonlaw1_LevelValues.l0 : Nat → Int → List Int → Int → Int → List (S62) → Int → List (S62) → Option (Bool)
 | 0, _, _, _, _, _, _, _ => none
 | k + 1, x2, x3, x10, x102000, x102001, x103000, x103001 => if x10 < (x3.length : Int) then (if 0 ≤ x10 then (if (rd x3 x10) > 1000000 then (some true) else (telamonlaw1_LevelValues.l0 k x2 x3 (wrap64 (x10 + 1)) x102000 x102001 x103000 x103001)) else (none)) else ((level_Eval.f k x102000 x102001 x3).bind fun t107 => ((level_Eval.f k x103000 x103001 x3).bind fun t108 => ((telamonref1_Eval.f k x102000 x102001 x3).bind fun t109 => (if t107 = t109 then ((level_Bound.f k x102000 x102001).bind fun t110 => ((telamonref1_Bound.f k x102000 x102001).bind fun t111 => (telamonlaw1_LevelValues.j2 k x2 x3 t107 t108 (t110 != t111) x102000 x102001 x103000 x103001))) else (telamonlaw1_LevelValues.j2 k x2 x3 t107 t108 true x102000 x102001 x103000 x103001)))))
def telamonlaw1_LevelValues.j2 : Nat → Int → List Int → Int → Int → Bool → Int → List (S62) → Int → List (S62) → Option (Bool)
 | 0, _, _, _, _, _, _, _, _, _ => none
 | k + 1, x2, x3, x11, x12, x70, x102000, x102001, x103000, x103001 => if x70 = true then (some false) else ((level_Leq.f k x102000 x102001 x103000 x103001).bind fun t112 => (if t112 = true then (telamonlaw1_LevelValues.j3 k x2 x3 x11 x12 (decide (x11 > x12)) x102000 x102001 x103000 x103001) else (telamonlaw1_LevelValues.j3 k x2 x3 x11 x12 false x102000 x102001 x103000 x103001)))
def telamonlaw1_LevelValues.j3 : Nat → Int → List Int → Int → Int → Bool → Int → List (S62) → Int → List (S62) → Option (Bool)
 | 0, _, _, _, _, _, _, _, _, _ => none
 | k + 1, x2, x3, x11, x12, x78, x102000, x102001, x103000, x103001 => if x78 = true then (some false) else ((level_Max.f k x102000 x102001 x103000 x103001).bind fun bt113 => ((telamonlaw1_num.f bt113.2.2).bind fun t119 => (if t119 = 0 then ((level_Eval.f k bt113.1 bt113.2.1 x3).bind fun t120 => ((telamonlaw1_max2.f x11 x12).bind fun t121 => (telamonlaw1_LevelValues.j4 k x2 x3 x11 (t120 != t121) x102000 x102001))) else (telamonlaw1_LevelValues.j4 k x2 x3 x11 false x102000 x102001))))
def telamonlaw1_LevelValues.j4 : Nat → Int → List Int → Int → Bool → Int → List (S62) → Option (Bool)
 | 0, _, _, _, _, _, _ => none
 | k + 1, x2, x3, x11, x96, x102000, x102001 => if x96 = true then (some false) else ((level_Suc.f k x102000 x102001 x2).bind fun bt122 => ((telamonlaw1_num.f bt122.2.2).bind fun t128 => (if t128 = 0 then ((level_Eval.f k bt122.1 bt122.2.1 x3).bind fun t129 => (some (t129 == (wrap64 (x11 + x2))))) else (some true))))
end
def telamonlaw1_LevelValues.f (k : Nat) (a0_0 : Int) (l0_1 : List (S62)) (a1_0 : Int) (l1_1 : List (S62)) (a2 : Int) (l3 : List Int) : Option (Bool) := (telamonlaw1_alive.f).bind fun t103 => (if t103 = true then ((telamonlaw1_big.f a0_0 l0_1).bind fun t104 => (if t104 = true then (telamonlaw1_LevelValues.j0 k a2 l3 t103 true a0_0 l0_1 a1_0 l1_1) else ((telamonlaw1_big.f a1_0 l1_1).bind fun t105 => (if t105 = true then (telamonlaw1_LevelValues.j0 k a2 l3 t103 true a0_0 l0_1 a1_0 l1_1) else (if (l3.length : Int) > 100 then (telamonlaw1_LevelValues.j0 k a2 l3 t103 true a0_0 l0_1 a1_0 l1_1) else (if a2 < 0 then (telamonlaw1_LevelValues.j0 k a2 l3 t103 true a0_0 l0_1 a1_0 l1_1) else (telamonlaw1_LevelValues.j0 k a2 l3 t103 (decide (a2 > 100)) a0_0 l0_1 a1_0 l1_1))))))) else (telamonlaw1_LevelValues.j0 k a2 l3 t103 true a0_0 l0_1 a1_0 l1_1))
theorem telamonlaw1_LevelValues.mono_l : ∀ k, (∀ y0 y1 y2 y3 y4 y5 y6 y7, LeO (telamonlaw1_LevelValues.j0 k y0 y1 y2 y3 y4 y5 y6 y7) (telamonlaw1_LevelValues.j0 (k + 1) y0 y1 y2 y3 y4 y5 y6 y7)) ∧ (∀ y0 y1 y2 y3 y4 y5 y6, LeO (telamonlaw1_LevelValues.l0 k y0 y1 y2 y3 y4 y5 y6) (telamonlaw1_LevelValues.l0 (k + 1) y0 y1 y2 y3 y4 y5 y6)) ∧ (∀ y0 y1 y2 y3 y4 y5 y6 y7 y8, LeO (telamonlaw1_LevelValues.j2 k y0 y1 y2 y3 y4 y5 y6 y7 y8) (telamonlaw1_LevelValues.j2 (k + 1) y0 y1 y2 y3 y4 y5 y6 y7 y8)) ∧ (∀ y0 y1 y2 y3 y4 y5 y6 y7 y8, LeO (telamonlaw1_LevelValues.j3 k y0 y1 y2 y3 y4 y5 y6 y7 y8) (telamonlaw1_LevelValues.j3 (k + 1) y0 y1 y2 y3 y4 y5 y6 y7 y8)) ∧ (∀ y0 y1 y2 y3 y4 y5, LeO (telamonlaw1_LevelValues.j4 k y0 y1 y2 y3 y4 y5) (telamonlaw1_LevelValues.j4 (k + 1) y0 y1 y2 y3 y4 y5))
 | 0 => ⟨fun _ _ _ _ _ _ _ _ r h => by simp [telamonlaw1_LevelValues.j0] at h, fun _ _ _ _ _ _ _ r h => by simp [telamonlaw1_LevelValues.l0] at h, fun _ _ _ _ _ _ _ _ _ r h => by simp [telamonlaw1_LevelValues.j2] at h, fun _ _ _ _ _ _ _ _ _ r h => by simp [telamonlaw1_LevelValues.j3] at h, fun _ _ _ _ _ _ r h => by simp [telamonlaw1_LevelValues.j4] at h⟩
 | k + 1 => by
  obtain ⟨ih0, ih1, ih2, ih3, ih4⟩ := telamonlaw1_LevelValues.mono_l k
  refine ⟨?_, ?_, ?_, ?_, ?_⟩
  ·intro y0 y1 y2 y3 y4 y5 y6 y7
   unfold telamonlaw1_LevelValues.j0
   repeat' first
   | (with_reducible exact ih0 _ _ _ _ _ _ _ _)
   | (with_reducible exact ih1 _ _ _ _ _ _ _)
   | (with_reducible exact ih2 _ _ _ _ _ _ _ _ _)
   | (with_reducible exact ih3 _ _ _ _ _ _ _ _ _)
   | (with_reducible exact ih4 _ _ _ _ _ _)
   | (with_reducible exact level_Bound.mono _ _ _)
   | (with_reducible exact level_Eval.mono _ _ _ _)
   | (with_reducible exact level_Leq.mono _ _ _ _ _)
   | (with_reducible exact level_Max.mono _ _ _ _ _)
   | (with_reducible exact level_Suc.mono _ _ _ _)
   | (with_reducible exact telamonref1_Bound.mono _ _ _)
   | (with_reducible exact telamonref1_Eval.mono _ _ _ _)
   | (with_reducible exact LeO.refl _)
   | (with_reducible exact LeO.none _)
   | (with_reducible refine LeO.ite ?_ ?_)
   | (with_reducible refine LeO.bind ?_ (fun _ => ?_))
   | exact ih0 _ _ _ _ _ _ _ _
   | exact ih1 _ _ _ _ _ _ _
   | exact ih2 _ _ _ _ _ _ _ _ _
   | exact ih3 _ _ _ _ _ _ _ _ _
   | exact ih4 _ _ _ _ _ _
   | exact level_Bound.mono _ _ _
   | exact level_Eval.mono _ _ _ _
   | exact level_Leq.mono _ _ _ _ _
   | exact level_Max.mono _ _ _ _ _
   | exact level_Suc.mono _ _ _ _
   | exact telamonref1_Bound.mono _ _ _
   | exact telamonref1_Eval.mono _ _ _ _
   | exact LeO.none _
   | refine LeO.ite ?_ ?_
   | refine LeO.bind ?_ (fun _ => ?_)
  ·intro y0 y1 y2 y3 y4 y5 y6
   unfold telamonlaw1_LevelValues.l0
   repeat' first
   | (with_reducible exact ih0 _ _ _ _ _ _ _ _)
   | (with_reducible exact ih1 _ _ _ _ _ _ _)
   | (with_reducible exact ih2 _ _ _ _ _ _ _ _ _)
   | (with_reducible exact ih3 _ _ _ _ _ _ _ _ _)
   | (with_reducible exact ih4 _ _ _ _ _ _)
   | (with_reducible exact level_Bound.mono _ _ _)
   | (with_reducible exact level_Eval.mono _ _ _ _)
   | (with_reducible exact level_Leq.mono _ _ _ _ _)
   | (with_reducible exact level_Max.mono _ _ _ _ _)
   | (with_reducible exact level_Suc.mono _ _ _ _)
   | (with_reducible exact telamonref1_Bound.mono _ _ _)
   | (with_reducible exact telamonref1_Eval.mono _ _ _ _)
   | (with_reducible exact LeO.refl _)
   | (with_reducible exact LeO.none _)
   | (with_reducible refine LeO.ite ?_ ?_)
   | (with_reducible refine LeO.bind ?_ (fun _ => ?_))
   | exact ih0 _ _ _ _ _ _ _ _
   | exact ih1 _ _ _ _ _ _ _
   | exact ih2 _ _ _ _ _ _ _ _ _
   | exact ih3 _ _ _ _ _ _ _ _ _
   | exact ih4 _ _ _ _ _ _
   | exact level_Bound.mono _ _ _
   | exact level_Eval.mono _ _ _ _
   | exact level_Leq.mono _ _ _ _ _
   | exact level_Max.mono _ _ _ _ _
   | exact level_Suc.mono _ _ _ _
   | exact telamonref1_Bound.mono _ _ _
   | exact telamonref1_Eval.mono _ _ _ _
   | exact LeO.none _
   | refine LeO.ite ?_ ?_
   | refine LeO.bind ?_ (fun _ => ?_)
  ·intro y0 y1 y2 y3 y4 y5 y6 y7 y8
   unfold telamonlaw1_LevelValues.j2
   repeat' first
   | (with_reducible exact ih0 _ _ _ _ _ _ _ _)
   | (with_reducible exact ih1 _ _ _ _ _ _ _)
   | (with_reducible exact ih2 _ _ _ _ _ _ _ _ _)
   | (with_reducible exact ih3 _ _ _ _ _ _ _ _ _)
   | (with_reducible exact ih4 _ _ _ _ _ _)
   | (with_reducible exact level_Bound.mono _ _ _)
   | (with_reducible exact level_Eval.mono _ _ _ _)
   | (with_reducible exact level_Leq.mono _ _ _ _ _)
   | (with_reducible exact level_Max.mono _ _ _ _ _)
   | (with_reducible exact level_Suc.mono _ _ _ _)
   | (with_reducible exact telamonref1_Bound.mono _ _ _)
   | (with_reducible exact telamonref1_Eval.mono _ _ _ _)
   | (with_reducible exact LeO.refl _)
   | (with_reducible exact LeO.none _)
   | (with_reducible refine LeO.ite ?_ ?_)
   | (with_reducible refine LeO.bind ?_ (fun _ => ?_))
   | exact ih0 _ _ _ _ _ _ _ _
   | exact ih1 _ _ _ _ _ _ _
   | exact ih2 _ _ _ _ _ _ _ _ _
   | exact ih3 _ _ _ _ _ _ _ _ _
   | exact ih4 _ _ _ _ _ _
   | exact level_Bound.mono _ _ _
   | exact level_Eval.mono _ _ _ _
   | exact level_Leq.mono _ _ _ _ _
   | exact level_Max.mono _ _ _ _ _
   | exact level_Suc.mono _ _ _ _
   | exact telamonref1_Bound.mono _ _ _
   | exact telamonref1_Eval.mono _ _ _ _
   | exact LeO.none _
   | refine LeO.ite ?_ ?_
   | refine LeO.bind ?_ (fun _ => ?_)
  ·intro y0 y1 y2 y3 y4 y5 y6 y7 y8
   unfold telamonlaw1_LevelValues.j3
   repeat' first
   | (with_reducible exact ih0 _ _ _ _ _ _ _ _)
   | (with_reducible exact ih1 _ _ _ _ _ _ _)
   | (with_reducible exact ih2 _ _ _ _ _ _ _ _ _)
   | (with_reducible exact ih3 _ _ _ _ _ _ _ _ _)
   | (with_reducible exact ih4 _ _ _ _ _ _)
   | (with_reducible exact level_Bound.mono _ _ _)
   | (with_reducible exact level_Eval.mono _ _ _ _)
   | (with_reducible exact level_Leq.mono _ _ _ _ _)
   | (with_reducible exact level_Max.mono _ _ _ _ _)
   | (with_reducible exact level_Suc.mono _ _ _ _)
   | (with_reducible exact telamonref1_Bound.mono _ _ _)
   | (with_reducible exact telamonref1_Eval.mono _ _ _ _)
   | (with_reducible exact LeO.refl _)
   | (with_reducible exact LeO.none _)
   | (with_reducible refine LeO.ite ?_ ?_)
   | (with_reducible refine LeO.bind ?_ (fun _ => ?_))
   | exact ih0 _ _ _ _ _ _ _ _
   | exact ih1 _ _ _ _ _ _ _
   | exact ih2 _ _ _ _ _ _ _ _ _
   | exact ih3 _ _ _ _ _ _ _ _ _
   | exact ih4 _ _ _ _ _ _
   | exact level_Bound.mono _ _ _
   | exact level_Eval.mono _ _ _ _
   | exact level_Leq.mono _ _ _ _ _
   | exact level_Max.mono _ _ _ _ _
   | exact level_Suc.mono _ _ _ _
   | exact telamonref1_Bound.mono _ _ _
   | exact telamonref1_Eval.mono _ _ _ _
   | exact LeO.none _
   | refine LeO.ite ?_ ?_
   | refine LeO.bind ?_ (fun _ => ?_)
  ·intro y0 y1 y2 y3 y4 y5
   unfold telamonlaw1_LevelValues.j4
   repeat' first
   | (with_reducible exact ih0 _ _ _ _ _ _ _ _)
   | (with_reducible exact ih1 _ _ _ _ _ _ _)
   | (with_reducible exact ih2 _ _ _ _ _ _ _ _ _)
   | (with_reducible exact ih3 _ _ _ _ _ _ _ _ _)
   | (with_reducible exact ih4 _ _ _ _ _ _)
   | (with_reducible exact level_Bound.mono _ _ _)
   | (with_reducible exact level_Eval.mono _ _ _ _)
   | (with_reducible exact level_Leq.mono _ _ _ _ _)
   | (with_reducible exact level_Max.mono _ _ _ _ _)
   | (with_reducible exact level_Suc.mono _ _ _ _)
   | (with_reducible exact telamonref1_Bound.mono _ _ _)
   | (with_reducible exact telamonref1_Eval.mono _ _ _ _)
   | (with_reducible exact LeO.refl _)
   | (with_reducible exact LeO.none _)
   | (with_reducible refine LeO.ite ?_ ?_)
   | (with_reducible refine LeO.bind ?_ (fun _ => ?_))
   | exact ih0 _ _ _ _ _ _ _ _
   | exact ih1 _ _ _ _ _ _ _
   | exact ih2 _ _ _ _ _ _ _ _ _
   | exact ih3 _ _ _ _ _ _ _ _ _
   | exact ih4 _ _ _ _ _ _
   | exact level_Bound.mono _ _ _
   | exact level_Eval.mono _ _ _ _
   | exact level_Leq.mono _ _ _ _ _
   | exact level_Max.mono _ _ _ _ _
   | exact level_Suc.mono _ _ _ _
   | exact telamonref1_Bound.mono _ _ _
   | exact telamonref1_Eval.mono _ _ _ _
   | exact LeO.none _
   | refine LeO.ite ?_ ?_
   | refine LeO.bind ?_ (fun _ => ?_)
theorem telamonlaw1_LevelValues.mono : ∀ a0 a1 a2 a3 a4 a5 k, LeO (telamonlaw1_LevelValues.f k a0 a1 a2 a3 a4 a5) (telamonlaw1_LevelValues.f (k + 1) a0 a1 a2 a3 a4 a5) := by
 intro a0 a1 a2 a3 a4 a5 k
 obtain ⟨ih0, ih1, ih2, ih3, ih4⟩ := telamonlaw1_LevelValues.mono_l k
 unfold telamonlaw1_LevelValues.f
 repeat' first
   | (with_reducible exact ih0 _ _ _ _ _ _ _ _)
   | (with_reducible exact ih1 _ _ _ _ _ _ _)
   | (with_reducible exact ih2 _ _ _ _ _ _ _ _ _)
   | (with_reducible exact ih3 _ _ _ _ _ _ _ _ _)
   | (with_reducible exact ih4 _ _ _ _ _ _)
   | (with_reducible exact level_Bound.mono _ _ _)
   | (with_reducible exact level_Eval.mono _ _ _ _)
   | (with_reducible exact level_Leq.mono _ _ _ _ _)
   | (with_reducible exact level_Max.mono _ _ _ _ _)
   | (with_reducible exact level_Suc.mono _ _ _ _)
   | (with_reducible exact telamonref1_Bound.mono _ _ _)
   | (with_reducible exact telamonref1_Eval.mono _ _ _ _)
   | (with_reducible exact LeO.refl _)
   | (with_reducible exact LeO.none _)
   | (with_reducible refine LeO.ite ?_ ?_)
   | (with_reducible refine LeO.bind ?_ (fun _ => ?_))
   | exact ih0 _ _ _ _ _ _ _ _
   | exact ih1 _ _ _ _ _ _ _
   | exact ih2 _ _ _ _ _ _ _ _ _
   | exact ih3 _ _ _ _ _ _ _ _ _
   | exact ih4 _ _ _ _ _ _
   | exact level_Bound.mono _ _ _
   | exact level_Eval.mono _ _ _ _
   | exact level_Leq.mono _ _ _ _ _
   | exact level_Max.mono _ _ _ _ _
   | exact level_Suc.mono _ _ _ _
   | exact telamonref1_Bound.mono _ _ _
   | exact telamonref1_Eval.mono _ _ _ _
   | exact LeO.none _
   | refine LeO.ite ?_ ?_
   | refine LeO.bind ?_ (fun _ => ?_)
def telamonlaw1_LevelValues.T11 : Bool × List (List Nat × List Nat) := (true, [([], []), ([], []), ([], []), ([1, 2], [1, 2]), ([0, 3], [0, 3]), ([4, 3], [4]), ([5], [5]), ([6, 5, 5], [5, 6]), ([5], [5]), ([8, 7, 5], [5, 8]), ([7, 9, 5], [5, 7, 9]), ([5, 10], [5, 10])])
def telamonlaw1_LevelValues.B11 : List Nat := [0, 0, 0, 6, 15, 31, 63, 127, 63, 511, 1023, 2047]
theorem telamonlaw1_LevelValues.tab11 : rtab .any (opsOf Try.f17 11) = telamonlaw1_LevelValues.T11 := by kernel_rfl
theorem telamonlaw1_LevelValues.bits11 : waitsOk telamonlaw1_LevelValues.T11.2 telamonlaw1_LevelValues.B11 = true := by kernel_rfl
set_option maxHeartbeats 8000000 in
set_option maxRecDepth 100000 in
theorem telamonlaw1_LevelValues.calls (k : Nat) (a0_0 : Int) (A0_1 : Option Addr) (c0_1 : Nat) (l0_1 : List (S62)) (a1_0 : Int) (A1_1 : Option Addr) (c1_1 : Nat) (l1_1 : List (S62)) (a2 : Int) (A3 : Option Addr) (c3 : Nat) (l3 : List Int) (r : Bool) (hrt : Aside0 (r = true)) (w : World) (hr0_1 : Kd.C k62 w A0_1 l0_1.length l0_1) (hc0_1 : l0_1.length ≤ c0_1) (hr1_1 : Kd.C k62 w A1_1 l1_1.length l1_1) (hc1_1 : l1_1.length ≤ c1_1) (hr3 : Kd.C (Kd.int .i64) w A3 l3.length l3) (hc3 : l3.length ≤ c3) (h : telamonlaw1_LevelValues.f k a0_0 l0_1 a1_0 l1_1 a2 l3 = some r) :
  Calls Try.prog 17 #[.agg #[.int .i64 a0_0, .slice A0_1 l0_1.length c0_1], .agg #[.int .i64 a1_0, .slice A1_1 l1_1.length c1_1], .int .i64 a2, .slice A3 l3.length c3] w fun e w' => e = .returned (.bool r) ∧ Below w.heap.size w w' := by
 have hu43 := Try.underlying43
 have HR0_1 := Aside0.mk hr0_1
 have HC0_1 := Aside0.mk hc0_1
 clear hr0_1 hc0_1
 have HR1_1 := Aside0.mk hr1_1
 have HC1_1 := Aside0.mk hc1_1
 clear hr1_1 hc1_1
 have HR3 := Aside0.mk hr3
 have HC3 := Aside0.mk hc3
 clear hr3 hc3
 have HB := Aside0.mk (Below.refl w.heap.size w)
 have H : ((telamonlaw1_alive.f).bind fun t103 => (if t103 = true then ((telamonlaw1_big.f a0_0 l0_1).bind fun t104 => (if t104 = true then (telamonlaw1_LevelValues.j0 k a2 l3 t103 true a0_0 l0_1 a1_0 l1_1) else ((telamonlaw1_big.f a1_0 l1_1).bind fun t105 => (if t105 = true then (telamonlaw1_LevelValues.j0 k a2 l3 t103 true a0_0 l0_1 a1_0 l1_1) else (if (l3.length : Int) > 100 then (telamonlaw1_LevelValues.j0 k a2 l3 t103 true a0_0 l0_1 a1_0 l1_1) else (if a2 < 0 then (telamonlaw1_LevelValues.j0 k a2 l3 t103 true a0_0 l0_1 a1_0 l1_1) else (telamonlaw1_LevelValues.j0 k a2 l3 t103 (decide (a2 > 100)) a0_0 l0_1 a1_0 l1_1))))))) else (telamonlaw1_LevelValues.j0 k a2 l3 t103 true a0_0 l0_1 a1_0 l1_1))) = some r := h
 clear h
 replace H := Option.bind_eq_some_iff.mp H
 obtain ⟨t103, A50, H⟩ := H
 replace H : (if t103 = true then ((telamonlaw1_big.f a0_0 l0_1).bind fun t104 => (if t104 = true then (telamonlaw1_LevelValues.j0 k a2 l3 t103 true a0_0 l0_1 a1_0 l1_1) else ((telamonlaw1_big.f a1_0 l1_1).bind fun t105 => (if t105 = true then (telamonlaw1_LevelValues.j0 k a2 l3 t103 true a0_0 l0_1 a1_0 l1_1) else (if (l3.length : Int) > 100 then (telamonlaw1_LevelValues.j0 k a2 l3 t103 true a0_0 l0_1 a1_0 l1_1) else (if a2 < 0 then (telamonlaw1_LevelValues.j0 k a2 l3 t103 true a0_0 l0_1 a1_0 l1_1) else (telamonlaw1_LevelValues.j0 k a2 l3 t103 (decide (a2 > 100)) a0_0 l0_1 a1_0 l1_1))))))) else (telamonlaw1_LevelValues.j0 k a2 l3 t103 true a0_0 l0_1 a1_0 l1_1)) = some r := H
 have A5 := Aside0.mk A50
 clear A50
 have HC6 := Aside0.mk H
 clear H
 go_enter Try.func17, Try.ntmps17
 go_upto_region 2 with (first | ((with_reducible refine gate_dst (N := 4) rfl ?_); (try (refine gate_guard (by rfl) ?_; dsimp only)); refine box_event ?hg (N := 4) ?hd (cs := #[.int .i64 a0_0, .slice A0_1 l0_1.length c0_1]) (t := 43) ?hr ?_; (case hd => rfl); (case hg => rfl); (case hr => first | (go_simp; done) | (go_simp; rfl)); intro gb101 hg w7 hbox hb; have BK101 := Aside0.mk (hbox); have GW101 := Aside0.mk ((bs_ hg HB : w.heap.size ≤ gb101)); have GE101 := Aside0.mk ((bs_ hg HB : w.heap.size ≤ gb101)); replace HB := hs_ HB hb; clear hb hbox hg) | ((with_reducible refine gate_dst (N := 5) rfl ?_); (try (refine gate_guard (by rfl) ?_; dsimp only)); refine box_event ?hg (N := 5) ?hd (cs := #[.int .i64 a1_0, .slice A1_1 l1_1.length c1_1]) (t := 43) ?hr ?_; (case hd => rfl); (case hg => rfl); (case hr => first | (go_simp; done) | (go_simp; rfl)); intro gb102 hg w8 hbox hb; have BK102 := Aside0.mk (hbox); have GW102 := Aside0.mk ((bs_ hg HB : w.heap.size ≤ gb102)); have GE102 := Aside0.mk ((bs_ hg HB : w.heap.size ≤ gb102)); have NB101_102 := Aside0.mk ((nl_ hg BK101 : gb101 ≠ gb102)); have NB102_101 := Aside0.mk ((ng_ hg BK101 : gb102 ≠ gb101)); replace BK101 := bb_ BK101 hb; replace HB := hs_ HB hb; clear hb hbox hg) | ((with_reducible refine gate_callee (f := 37) rfl ?_); refine goesL_ (some 17) rfl rfl Try.func37 (by kernel_rfl) rfl #[] rfl (by (try simp only [List.map_toArray, List.map_cons, List.map_nil]); first | done | rfl | (simp only [List.length_drop, List.length_take]; rfl)) ?_; (with_reducible refine (telamonlaw1_alive.calls  t103 _ A5.out).mono ?_); rintro e w9 ⟨rfl, hb⟩; refine ⟨_, rfl, ?_⟩; replace BK101 := bb_ BK101 hb; replace BK102 := bb_ BK102 hb; replace HB := hs_ HB hb; (try clear hb); (try clear hb2); (try clear hk); (try clear hi)))
 (try simp only [Act.put, List.setIfInBounds_toArray, List.set_cons_zero, List.set_cons_succ])
 go_cut [40] (fun v40 wc => ∃ (kq : Nat) (x40_5 : Bool), v40 = .bool x40_5 ∧ Aside0 (telamonlaw1_LevelValues.j0 kq a2 l3 t103 x40_5 a0_0 l0_1 a1_0 l1_1 = some r) ∧ Aside0 (kq ≤ k) ∧ Aside0 (wc.heap[gb101]? = some (.cells #[.int .i64 a0_0, (.slice A0_1 l0_1.length c0_1)] 43 (0, 0))) ∧ Aside0 (wc.heap[gb102]? = some (.cells #[.int .i64 a1_0, (.slice A1_1 l1_1.length c1_1)] 43 (0, 0))) ∧ Aside0 (Below w.heap.size w wc))
 case first =>
  have H := HC6.out
  clear HC6
  by_cases c10 : t103 = true
  ·subst c10
   have H1 : ((telamonlaw1_big.f a0_0 l0_1).bind fun t104 => (if t104 = true then (telamonlaw1_LevelValues.j0 k a2 l3 true true a0_0 l0_1 a1_0 l1_1) else ((telamonlaw1_big.f a1_0 l1_1).bind fun t105 => (if t105 = true then (telamonlaw1_LevelValues.j0 k a2 l3 true true a0_0 l0_1 a1_0 l1_1) else (if (l3.length : Int) > 100 then (telamonlaw1_LevelValues.j0 k a2 l3 true true a0_0 l0_1 a1_0 l1_1) else (if a2 < 0 then (telamonlaw1_LevelValues.j0 k a2 l3 true true a0_0 l0_1 a1_0 l1_1) else (telamonlaw1_LevelValues.j0 k a2 l3 true (decide (a2 > 100)) a0_0 l0_1 a1_0 l1_1))))))) = some r := by rw [if_pos rfl] at H; exact H
   clear H
   have H := H1
   clear H1
   replace H := Option.bind_eq_some_iff.mp H
   obtain ⟨t104, A110, H⟩ := H
   replace H : (if t104 = true then (telamonlaw1_LevelValues.j0 k a2 l3 true true a0_0 l0_1 a1_0 l1_1) else ((telamonlaw1_big.f a1_0 l1_1).bind fun t105 => (if t105 = true then (telamonlaw1_LevelValues.j0 k a2 l3 true true a0_0 l0_1 a1_0 l1_1) else (if (l3.length : Int) > 100 then (telamonlaw1_LevelValues.j0 k a2 l3 true true a0_0 l0_1 a1_0 l1_1) else (if a2 < 0 then (telamonlaw1_LevelValues.j0 k a2 l3 true true a0_0 l0_1 a1_0 l1_1) else (telamonlaw1_LevelValues.j0 k a2 l3 true (decide (a2 > 100)) a0_0 l0_1 a1_0 l1_1)))))) = some r := H
   have A11 := Aside0.mk A110
   clear A110
   by_cases c12 : t104 = true
   ·subst c12
    have H1 : (telamonlaw1_LevelValues.j0 k a2 l3 true true a0_0 l0_1 a1_0 l1_1) = some r := by rw [if_pos rfl] at H; exact H
    clear H
    have H := H1
    clear H1
    have H' := Aside0.mk H
    clear H
    have hnb13 := NB101_102.out
    have hnc13 := NB102_101.out
    have hcz14_0 : w9.cell? ⟨gb101, 0, none⟩ = some (.int .i64 a0_0) := (blk_cell BK101.out 0).trans rfl
    have hcz14_1 : w9.cell? ⟨gb101, 1, none⟩ = some (.slice A0_1 l0_1.length c0_1) := (blk_cell BK101.out 1).trans rfl
    have hfz14_0 := blk_frozen BK101.out 0
    have hfz14_1 := blk_frozen BK101.out 1
    go_wp2_with (first | (go_at_call 38; (with_reducible refine (telamonlaw1_big.calls a0_0 _ _ l0_1 true _ ?side1 ?side2 A11.out).mono ?_); (case side1 => repeat (first | exact (Kd.C_below HR0_1.out HB.out) | (with_reducible refine Kd.C_alloc ?_ _) | (with_reducible refine Kd.C_drewN ?_ _) | (with_reducible refine Kd.C_drew ?_))); (case side2 => exact HC0_1.out); rintro e w15 ⟨rfl, hb⟩; replace BK101 := bb_ BK101 hb; replace BK102 := bb_ BK102 hb; replace HB := hs_ HB hb; (try clear hb); (try clear hb2); (try clear hk); (try clear hi)))
    go_meet
    case rel => exact ⟨_, (true), (by first | rfl | (simp; done) | (simp [*]; done)), H', ⟨by first | omega | exact Nat.le_refl _⟩, ⟨by (with_reducible repeat (first | refine blk_drewN ?_ _ | refine blk_drew ?_ | refine blk_alloc ?_ _)); exact BK101.out⟩, ⟨by (with_reducible repeat (first | refine blk_drewN ?_ _ | refine blk_drew ?_ | refine blk_alloc ?_ _)); exact BK102.out⟩, ⟨by repeat (first | (with_reducible first | exact HB.out | apply below_alloc | apply pw_below_drewN | apply below_drew1 | refine below_set ?_ GE101.out | refine below_set ?_ GE102.out) | exact HB.out)⟩⟩
   ·replace c12 := Bool.eq_false_iff.mpr c12
    subst c12
    have H1 : ((telamonlaw1_big.f a1_0 l1_1).bind fun t105 => (if t105 = true then (telamonlaw1_LevelValues.j0 k a2 l3 true true a0_0 l0_1 a1_0 l1_1) else (if (l3.length : Int) > 100 then (telamonlaw1_LevelValues.j0 k a2 l3 true true a0_0 l0_1 a1_0 l1_1) else (if a2 < 0 then (telamonlaw1_LevelValues.j0 k a2 l3 true true a0_0 l0_1 a1_0 l1_1) else (telamonlaw1_LevelValues.j0 k a2 l3 true (decide (a2 > 100)) a0_0 l0_1 a1_0 l1_1))))) = some r := by rw [if_neg (show ¬ (false = true) by decide)] at H; exact H
    clear H
    have H := H1
    clear H1
    replace H := Option.bind_eq_some_iff.mp H
    obtain ⟨t105, A160, H⟩ := H
    replace H : (if t105 = true then (telamonlaw1_LevelValues.j0 k a2 l3 true true a0_0 l0_1 a1_0 l1_1) else (if (l3.length : Int) > 100 then (telamonlaw1_LevelValues.j0 k a2 l3 true true a0_0 l0_1 a1_0 l1_1) else (if a2 < 0 then (telamonlaw1_LevelValues.j0 k a2 l3 true true a0_0 l0_1 a1_0 l1_1) else (telamonlaw1_LevelValues.j0 k a2 l3 true (decide (a2 > 100)) a0_0 l0_1 a1_0 l1_1)))) = some r := H
    have A16 := Aside0.mk A160
    clear A160
    by_cases c17 : t105 = true
    ·subst c17
     have H1 : (telamonlaw1_LevelValues.j0 k a2 l3 true true a0_0 l0_1 a1_0 l1_1) = some r := by rw [if_pos rfl] at H; exact H
     clear H
     have H := H1
     clear H1
     have H' := Aside0.mk H
     clear H
     have hnb18 := NB101_102.out
     have hnc18 := NB102_101.out
     have hcz19_0 : w9.cell? ⟨gb101, 0, none⟩ = some (.int .i64 a0_0) := (blk_cell BK101.out 0).trans rfl
     have hcz19_1 : w9.cell? ⟨gb101, 1, none⟩ = some (.slice A0_1 l0_1.length c0_1) := (blk_cell BK101.out 1).trans rfl
     have hfz19_0 := blk_frozen BK101.out 0
     have hfz19_1 := blk_frozen BK101.out 1
     go_wp2_with (first | (go_at_call 38; (with_reducible refine (telamonlaw1_big.calls a0_0 _ _ l0_1 false _ ?side1 ?side2 A11.out).mono ?_); (case side1 => repeat (first | exact (Kd.C_below HR0_1.out HB.out) | (with_reducible refine Kd.C_alloc ?_ _) | (with_reducible refine Kd.C_drewN ?_ _) | (with_reducible refine Kd.C_drew ?_))); (case side2 => exact HC0_1.out); rintro e w20 ⟨rfl, hb⟩; replace BK101 := bb_ BK101 hb; replace BK102 := bb_ BK102 hb; replace HB := hs_ HB hb; (try clear hb); (try clear hb2); (try clear hk); (try clear hi); have hcz21_0 : w20.cell? ⟨gb102, 0, none⟩ = some (.int .i64 a1_0) := (blk_cell BK102.out 0).trans rfl; have hcz21_1 : w20.cell? ⟨gb102, 1, none⟩ = some (.slice A1_1 l1_1.length c1_1) := (blk_cell BK102.out 1).trans rfl; have hfz21_0 := blk_frozen BK102.out 0; have hfz21_1 := blk_frozen BK102.out 1) | (go_at_call 38; (with_reducible refine (telamonlaw1_big.calls a1_0 _ _ l1_1 true _ ?side1 ?side2 A16.out).mono ?_); (case side1 => repeat (first | exact (Kd.C_below HR1_1.out HB.out) | (with_reducible refine Kd.C_alloc ?_ _) | (with_reducible refine Kd.C_drewN ?_ _) | (with_reducible refine Kd.C_drew ?_))); (case side2 => exact HC1_1.out); rintro e w22 ⟨rfl, hb⟩; replace BK101 := bb_ BK101 hb; replace BK102 := bb_ BK102 hb; replace HB := hs_ HB hb; (try clear hb); (try clear hb2); (try clear hk); (try clear hi)))
     go_meet
     case rel => exact ⟨_, (true), (by first | rfl | (simp; done) | (simp [*]; done)), H', ⟨by first | omega | exact Nat.le_refl _⟩, ⟨by (with_reducible repeat (first | refine blk_drewN ?_ _ | refine blk_drew ?_ | refine blk_alloc ?_ _)); exact BK101.out⟩, ⟨by (with_reducible repeat (first | refine blk_drewN ?_ _ | refine blk_drew ?_ | refine blk_alloc ?_ _)); exact BK102.out⟩, ⟨by repeat (first | (with_reducible first | exact HB.out | apply below_alloc | apply pw_below_drewN | apply below_drew1 | refine below_set ?_ GE101.out | refine below_set ?_ GE102.out) | exact HB.out)⟩⟩
    ·replace c17 := Bool.eq_false_iff.mpr c17
     subst c17
     have H1 : (if (l3.length : Int) > 100 then (telamonlaw1_LevelValues.j0 k a2 l3 true true a0_0 l0_1 a1_0 l1_1) else (if a2 < 0 then (telamonlaw1_LevelValues.j0 k a2 l3 true true a0_0 l0_1 a1_0 l1_1) else (telamonlaw1_LevelValues.j0 k a2 l3 true (decide (a2 > 100)) a0_0 l0_1 a1_0 l1_1))) = some r := by rw [if_neg (show ¬ (false = true) by decide)] at H; exact H
     clear H
     have H := H1
     clear H1
     by_cases c23 : (l3.length : Int) > 100
     ·rw [if_pos c23] at H
      have c23b0 : decide (100 < (l3.length : Int)) = true := decide_eq_true c23
      have c23b1 : decide (100 < l3.length) = true := decide_eq_true (by omega)
      clear c23
      (first | rw [c23b0] | (simp only [i64_w, i32_w]; rw [c23b0]) | skip)
      have H' := Aside0.mk H
      clear H
      have hnb24 := NB101_102.out
      have hnc24 := NB102_101.out
      have hcz25_0 : w9.cell? ⟨gb101, 0, none⟩ = some (.int .i64 a0_0) := (blk_cell BK101.out 0).trans rfl
      have hcz25_1 : w9.cell? ⟨gb101, 1, none⟩ = some (.slice A0_1 l0_1.length c0_1) := (blk_cell BK101.out 1).trans rfl
      have hfz25_0 := blk_frozen BK101.out 0
      have hfz25_1 := blk_frozen BK101.out 1
      go_wp2_with (first | (go_at_call 38; (with_reducible refine (telamonlaw1_big.calls a0_0 _ _ l0_1 false _ ?side1 ?side2 A11.out).mono ?_); (case side1 => repeat (first | exact (Kd.C_below HR0_1.out HB.out) | (with_reducible refine Kd.C_alloc ?_ _) | (with_reducible refine Kd.C_drewN ?_ _) | (with_reducible refine Kd.C_drew ?_))); (case side2 => exact HC0_1.out); rintro e w26 ⟨rfl, hb⟩; replace BK101 := bb_ BK101 hb; replace BK102 := bb_ BK102 hb; replace HB := hs_ HB hb; (try clear hb); (try clear hb2); (try clear hk); (try clear hi); have hcz27_0 : w26.cell? ⟨gb102, 0, none⟩ = some (.int .i64 a1_0) := (blk_cell BK102.out 0).trans rfl; have hcz27_1 : w26.cell? ⟨gb102, 1, none⟩ = some (.slice A1_1 l1_1.length c1_1) := (blk_cell BK102.out 1).trans rfl; have hfz27_0 := blk_frozen BK102.out 0; have hfz27_1 := blk_frozen BK102.out 1) | (go_at_call 38; (with_reducible refine (telamonlaw1_big.calls a1_0 _ _ l1_1 false _ ?side1 ?side2 A16.out).mono ?_); (case side1 => repeat (first | exact (Kd.C_below HR1_1.out HB.out) | (with_reducible refine Kd.C_alloc ?_ _) | (with_reducible refine Kd.C_drewN ?_ _) | (with_reducible refine Kd.C_drew ?_))); (case side2 => exact HC1_1.out); rintro e w28 ⟨rfl, hb⟩; replace BK101 := bb_ BK101 hb; replace BK102 := bb_ BK102 hb; replace HB := hs_ HB hb; (try clear hb); (try clear hb2); (try clear hk); (try clear hi)))
      go_meet
      case rel => exact ⟨_, (true), (by first | rfl | (simp; done) | (simp [*]; done)), H', ⟨by first | omega | exact Nat.le_refl _⟩, ⟨by (with_reducible repeat (first | refine blk_drewN ?_ _ | refine blk_drew ?_ | refine blk_alloc ?_ _)); exact BK101.out⟩, ⟨by (with_reducible repeat (first | refine blk_drewN ?_ _ | refine blk_drew ?_ | refine blk_alloc ?_ _)); exact BK102.out⟩, ⟨by repeat (first | (with_reducible first | exact HB.out | apply below_alloc | apply pw_below_drewN | apply below_drew1 | refine below_set ?_ GE101.out | refine below_set ?_ GE102.out) | exact HB.out)⟩⟩
     ·rw [if_neg c23] at H
      have c23b0 : decide (100 < (l3.length : Int)) = false := decide_eq_false c23
      have c23b1 : decide (100 < l3.length) = false := decide_eq_false (by omega)
      clear c23
      (first | rw [c23b0] | (simp only [i64_w, i32_w]; rw [c23b0]) | skip)
      by_cases c29 : a2 < 0
      ·rw [if_pos c29] at H
       have c29b0 : decide (a2 < 0) = true := decide_eq_true c29
       clear c29
       have H' := Aside0.mk H
       clear H
       have hnb30 := NB101_102.out
       have hnc30 := NB102_101.out
       have hcz31_0 : w9.cell? ⟨gb101, 0, none⟩ = some (.int .i64 a0_0) := (blk_cell BK101.out 0).trans rfl
       have hcz31_1 : w9.cell? ⟨gb101, 1, none⟩ = some (.slice A0_1 l0_1.length c0_1) := (blk_cell BK101.out 1).trans rfl
       have hfz31_0 := blk_frozen BK101.out 0
       have hfz31_1 := blk_frozen BK101.out 1
       go_wp2_with (first | (go_at_call 38; (with_reducible refine (telamonlaw1_big.calls a0_0 _ _ l0_1 false _ ?side1 ?side2 A11.out).mono ?_); (case side1 => repeat (first | exact (Kd.C_below HR0_1.out HB.out) | (with_reducible refine Kd.C_alloc ?_ _) | (with_reducible refine Kd.C_drewN ?_ _) | (with_reducible refine Kd.C_drew ?_))); (case side2 => exact HC0_1.out); rintro e w32 ⟨rfl, hb⟩; replace BK101 := bb_ BK101 hb; replace BK102 := bb_ BK102 hb; replace HB := hs_ HB hb; (try clear hb); (try clear hb2); (try clear hk); (try clear hi); have hcz33_0 : w32.cell? ⟨gb102, 0, none⟩ = some (.int .i64 a1_0) := (blk_cell BK102.out 0).trans rfl; have hcz33_1 : w32.cell? ⟨gb102, 1, none⟩ = some (.slice A1_1 l1_1.length c1_1) := (blk_cell BK102.out 1).trans rfl; have hfz33_0 := blk_frozen BK102.out 0; have hfz33_1 := blk_frozen BK102.out 1) | (go_at_call 38; (with_reducible refine (telamonlaw1_big.calls a1_0 _ _ l1_1 false _ ?side1 ?side2 A16.out).mono ?_); (case side1 => repeat (first | exact (Kd.C_below HR1_1.out HB.out) | (with_reducible refine Kd.C_alloc ?_ _) | (with_reducible refine Kd.C_drewN ?_ _) | (with_reducible refine Kd.C_drew ?_))); (case side2 => exact HC1_1.out); rintro e w34 ⟨rfl, hb⟩; replace BK101 := bb_ BK101 hb; replace BK102 := bb_ BK102 hb; replace HB := hs_ HB hb; (try clear hb); (try clear hb2); (try clear hk); (try clear hi)))
       go_meet
       case rel => exact ⟨_, (true), (by first | rfl | (simp; done) | (simp [*]; done)), H', ⟨by first | omega | exact Nat.le_refl _⟩, ⟨by (with_reducible repeat (first | refine blk_drewN ?_ _ | refine blk_drew ?_ | refine blk_alloc ?_ _)); exact BK101.out⟩, ⟨by (with_reducible repeat (first | refine blk_drewN ?_ _ | refine blk_drew ?_ | refine blk_alloc ?_ _)); exact BK102.out⟩, ⟨by repeat (first | (with_reducible first | exact HB.out | apply below_alloc | apply pw_below_drewN | apply below_drew1 | refine below_set ?_ GE101.out | refine below_set ?_ GE102.out) | exact HB.out)⟩⟩
      ·rw [if_neg c29] at H
       have c29b0 : decide (a2 < 0) = false := decide_eq_false c29
       clear c29
       have H' := Aside0.mk H
       clear H
       have hnb35 := NB101_102.out
       have hnc35 := NB102_101.out
       have hcz36_0 : w9.cell? ⟨gb101, 0, none⟩ = some (.int .i64 a0_0) := (blk_cell BK101.out 0).trans rfl
       have hcz36_1 : w9.cell? ⟨gb101, 1, none⟩ = some (.slice A0_1 l0_1.length c0_1) := (blk_cell BK101.out 1).trans rfl
       have hfz36_0 := blk_frozen BK101.out 0
       have hfz36_1 := blk_frozen BK101.out 1
       go_wp2_with (first | (go_at_call 38; (with_reducible refine (telamonlaw1_big.calls a0_0 _ _ l0_1 false _ ?side1 ?side2 A11.out).mono ?_); (case side1 => repeat (first | exact (Kd.C_below HR0_1.out HB.out) | (with_reducible refine Kd.C_alloc ?_ _) | (with_reducible refine Kd.C_drewN ?_ _) | (with_reducible refine Kd.C_drew ?_))); (case side2 => exact HC0_1.out); rintro e w37 ⟨rfl, hb⟩; replace BK101 := bb_ BK101 hb; replace BK102 := bb_ BK102 hb; replace HB := hs_ HB hb; (try clear hb); (try clear hb2); (try clear hk); (try clear hi); have hcz38_0 : w37.cell? ⟨gb102, 0, none⟩ = some (.int .i64 a1_0) := (blk_cell BK102.out 0).trans rfl; have hcz38_1 : w37.cell? ⟨gb102, 1, none⟩ = some (.slice A1_1 l1_1.length c1_1) := (blk_cell BK102.out 1).trans rfl; have hfz38_0 := blk_frozen BK102.out 0; have hfz38_1 := blk_frozen BK102.out 1) | (go_at_call 38; (with_reducible refine (telamonlaw1_big.calls a1_0 _ _ l1_1 false _ ?side1 ?side2 A16.out).mono ?_); (case side1 => repeat (first | exact (Kd.C_below HR1_1.out HB.out) | (with_reducible refine Kd.C_alloc ?_ _) | (with_reducible refine Kd.C_drewN ?_ _) | (with_reducible refine Kd.C_drew ?_))); (case side2 => exact HC1_1.out); rintro e w39 ⟨rfl, hb⟩; replace BK101 := bb_ BK101 hb; replace BK102 := bb_ BK102 hb; replace HB := hs_ HB hb; (try clear hb); (try clear hb2); (try clear hk); (try clear hi)))
       go_meet
       case rel => exact ⟨_, (decide (a2 > 100)), (by first | rfl | (simp; done) | (simp [*]; done)), H', ⟨by first | omega | exact Nat.le_refl _⟩, ⟨by (with_reducible repeat (first | refine blk_drewN ?_ _ | refine blk_drew ?_ | refine blk_alloc ?_ _)); exact BK101.out⟩, ⟨by (with_reducible repeat (first | refine blk_drewN ?_ _ | refine blk_drew ?_ | refine blk_alloc ?_ _)); exact BK102.out⟩, ⟨by repeat (first | (with_reducible first | exact HB.out | apply below_alloc | apply pw_below_drewN | apply below_drew1 | refine below_set ?_ GE101.out | refine below_set ?_ GE102.out) | exact HB.out)⟩⟩
  ·replace c10 := Bool.eq_false_iff.mpr c10
   subst c10
   have H1 : (telamonlaw1_LevelValues.j0 k a2 l3 false true a0_0 l0_1 a1_0 l1_1) = some r := by rw [if_neg (show ¬ (false = true) by decide)] at H; exact H
   clear H
   have H := H1
   clear H1
   have H' := Aside0.mk H
   clear H
   go_wp2
   go_meet
   case rel => exact ⟨_, (true), (by first | rfl | (simp; done) | (simp [*]; done)), H', ⟨by first | omega | exact Nat.le_refl _⟩, ⟨by (with_reducible repeat (first | refine blk_drewN ?_ _ | refine blk_drew ?_ | refine blk_alloc ?_ _)); exact BK101.out⟩, ⟨by (with_reducible repeat (first | refine blk_drewN ?_ _ | refine blk_drew ?_ | refine blk_alloc ?_ _)); exact BK102.out⟩, ⟨by repeat (first | (with_reducible first | exact HB.out | apply below_alloc | apply pw_below_drewN | apply below_drew1 | refine below_set ?_ GE101.out | refine below_set ?_ GE102.out) | exact HB.out)⟩⟩
 case rest =>
  clear HC6
  (try clear c1); (try clear c2); (try clear p2); (try clear c3); (try clear c10); (try clear c12); (try clear c13); (try clear c17); (try clear c18); (try clear c23); (try clear c23b0); (try clear c23b1); (try clear c24); (try clear c29); (try clear c29b0); (try clear c30); (try clear c35); (try clear c37); (try clear hcz14_0); (try clear hcz14_1); (try clear hcz19_0); (try clear hcz19_1); (try clear hcz21_0); (try clear hcz21_1); (try clear hcz25_0); (try clear hcz25_1); (try clear hcz27_0); (try clear hcz27_1); (try clear hcz31_0); (try clear hcz31_1); (try clear hcz33_0); (try clear hcz33_1); (try clear hcz36_0); (try clear hcz36_1); (try clear hcz38_0); (try clear hcz38_1); (try clear hfz14_0); (try clear hfz14_1); (try clear hfz19_0); (try clear hfz19_1); (try clear hfz21_0); (try clear hfz21_1); (try clear hfz25_0); (try clear hfz25_1); (try clear hfz27_0); (try clear hfz27_1); (try clear hfz31_0); (try clear hfz31_1); (try clear hfz33_0); (try clear hfz33_1); (try clear hfz36_0); (try clear hfz36_1); (try clear hfz38_0); (try clear hfz38_1)
  obtain ⟨kq, x40_5, rfl, HA, HJ5, BK101, BK102, HB⟩ := hcut
  cases kq with
  | zero => exact absurd HA.out (by simp [telamonlaw1_LevelValues.j0])
  | succ kj5 =>
   have H := HA.out
   clear HA
   simp only [telamonlaw1_LevelValues.j0] at H
   by_cases c40 : x40_5 = true
   ·subst c40
    have H1 : (some t103) = some r := by rw [if_pos rfl] at H; exact H
    clear H
    have H := H1
    clear H1
    obtain rfl := Option.some.inj H
    go_wp2
    go_ret
    exact ⟨by first | rfl | (simp [errW_none, errW_some] <;> rfl) | (simp [*, errW_none, errW_some] <;> rfl), by repeat (first | (with_reducible first | exact HB.out | apply below_alloc | apply pw_below_drewN | apply below_drew1 | refine below_set ?_ GE101.out | refine below_set ?_ GE102.out) | exact HB.out)⟩
   ·replace c40 := Bool.eq_false_iff.mpr c40
    subst c40
    have H1 : (telamonlaw1_LevelValues.l0 kj5 a2 l3 0 a0_0 l0_1 a1_0 l1_1) = some r := by rw [if_neg (show ¬ (false = true) by decide)] at H; exact H
    clear H
    have H := H1
    clear H1
    have H' := Aside0.mk H
    clear H
    go_wp2
    go_loopg [10] kj5 (fun kq v10 w' => ∃ (x10_2 : Int), v10 = .int .i64 x10_2 ∧ Aside0 (telamonlaw1_LevelValues.l0 kq a2 l3 x10_2 a0_0 l0_1 a1_0 l1_1 = some r) ∧ Aside0 (kq ≤ kj5) ∧ Aside0 (w'.heap[gb101]? = some (.cells #[.int .i64 a0_0, (.slice A0_1 l0_1.length c0_1)] 43 (0, 0))) ∧ Aside0 (w'.heap[gb102]? = some (.cells #[.int .i64 a1_0, (.slice A1_1 l1_1.length c1_1)] 43 (0, 0))) ∧ Aside0 (Below w.heap.size w w'))
    case atStart => exact ⟨(0), (by first | rfl | (simp; done) | (simp [*]; done)), H', ⟨Nat.le_refl _⟩, ⟨by (with_reducible repeat (first | refine blk_drewN ?_ _ | refine blk_drew ?_ | refine blk_alloc ?_ _)); exact BK101.out⟩, ⟨by (with_reducible repeat (first | refine blk_drewN ?_ _ | refine blk_drew ?_ | refine blk_alloc ?_ _)); exact BK102.out⟩, ⟨by repeat (first | (with_reducible first | exact HB.out | apply below_alloc | apply pw_below_drewN | apply below_drew1 | refine below_set ?_ GE101.out | refine below_set ?_ GE102.out) | exact HB.out)⟩⟩
    case round =>
     clear H'
     (try clear c1); (try clear c2); (try clear p2); (try clear c3); (try clear c4); (try clear c10); (try clear c12); (try clear c13); (try clear c17); (try clear c18); (try clear c23); (try clear c23b0); (try clear c23b1); (try clear c24); (try clear c29); (try clear c29b0); (try clear c30); (try clear c35); (try clear c37); (try clear c40); (try clear hcz14_0); (try clear hcz14_1); (try clear hcz19_0); (try clear hcz19_1); (try clear hcz21_0); (try clear hcz21_1); (try clear hcz25_0); (try clear hcz25_1); (try clear hcz27_0); (try clear hcz27_1); (try clear hcz31_0); (try clear hcz31_1); (try clear hcz33_0); (try clear hcz33_1); (try clear hcz36_0); (try clear hcz36_1); (try clear hcz38_0); (try clear hcz38_1); (try clear hfz14_0); (try clear hfz14_1); (try clear hfz19_0); (try clear hfz19_1); (try clear hfz21_0); (try clear hfz21_1); (try clear hfz25_0); (try clear hfz25_1); (try clear hfz27_0); (try clear hfz27_1); (try clear hfz31_0); (try clear hfz31_1); (try clear hfz33_0); (try clear hfz33_1); (try clear hfz36_0); (try clear hfz36_1); (try clear hfz38_0); (try clear hfz38_1); (try clear p2)
     obtain ⟨x10_2, rfl, HA, HK2, BK101, BK102, HB⟩ := hrel
     cases gk with
     | zero => exact absurd HA.out (by simp [telamonlaw1_LevelValues.l0])
     | succ k2 =>
      have H := HA.out
      clear HA
      simp only [telamonlaw1_LevelValues.l0] at H
      by_cases c41 : x10_2 < (l3.length : Int)
      ·rw [if_pos c41] at H
       have c41b0 : decide (x10_2 < (l3.length : Int)) = true := decide_eq_true c41
       clear c41
       by_cases c42 : 0 ≤ x10_2
       ·rw [if_pos c42] at H
        have c42b0 : decide (0 ≤ x10_2) = true := decide_eq_true c42
        clear c42
        by_cases c43 : (rd l3 x10_2) > 1000000
        ·rw [if_pos c43] at H
         have c43b0 : decide (1000000 < (rd l3 x10_2)) = true := decide_eq_true c43
         clear c43
         obtain rfl := Option.some.inj H
         have p106 : 0 ≤ (x10_2 : Int) := of_decide_eq_true (by first | (with_reducible assumption) | assumption)
         have q106 : x10_2 < (l3.length : Int) := of_decide_eq_true (by first | (with_reducible assumption) | assumption)
         obtain ⟨ad106, e106, hx106_0⟩ := Kd.at_int HR3.out x10_2 p106 q106
         cases e106
         replace hx106_0 := (HB.out.cell (World.block_lt_of_cell? w _ hx106_0)).trans hx106_0
         replace p106 := eq_true p106
         replace q106 := eq_true q106
         go_wp2
         go_ret
         exact ⟨by first | rfl | (simp [errW_none, errW_some] <;> rfl) | (simp [*, errW_none, errW_some] <;> rfl), by repeat (first | (with_reducible first | exact HB.out | apply below_alloc | apply pw_below_drewN | apply below_drew1 | refine below_set ?_ GE101.out | refine below_set ?_ GE102.out) | exact HB.out)⟩
        ·rw [if_neg c43] at H
         have c43b0 : decide (1000000 < (rd l3 x10_2)) = false := decide_eq_false c43
         clear c43
         have H' := Aside0.mk H
         clear H
         have p106 : 0 ≤ (x10_2 : Int) := of_decide_eq_true (by first | (with_reducible assumption) | assumption)
         have q106 : x10_2 < (l3.length : Int) := of_decide_eq_true (by first | (with_reducible assumption) | assumption)
         obtain ⟨ad106, e106, hx106_0⟩ := Kd.at_int HR3.out x10_2 p106 q106
         cases e106
         replace hx106_0 := (HB.out.cell (World.block_lt_of_cell? w _ hx106_0)).trans hx106_0
         replace p106 := eq_true p106
         replace q106 := eq_true q106
         go_wp2
         go_roundg k2
         case measure => have := HJ5.out; have := HK2.out; omega
         case rel => exact ⟨(wrap64 (x10_2 + 1)), (by first | rfl | (simp; done) | (simp [*]; done)), H', ⟨by have := HJ5.out; have := HK2.out; omega⟩, ⟨by (with_reducible repeat (first | refine blk_drewN ?_ _ | refine blk_drew ?_ | refine blk_alloc ?_ _)); exact BK101.out⟩, ⟨by (with_reducible repeat (first | refine blk_drewN ?_ _ | refine blk_drew ?_ | refine blk_alloc ?_ _)); exact BK102.out⟩, ⟨by repeat (first | (with_reducible first | exact HB.out | apply below_alloc | apply pw_below_drewN | apply below_drew1 | refine below_set ?_ GE101.out | refine below_set ?_ GE102.out) | exact HB.out)⟩⟩
       ·rw [if_neg c42] at H
        exact absurd H (by simp)
      ·rw [if_neg c41] at H
       have c41b0 : decide (x10_2 < (l3.length : Int)) = false := decide_eq_false c41
       clear c41
       replace H := Option.bind_eq_some_iff.mp H
       obtain ⟨t107, A440, H⟩ := H
       replace H : ((level_Eval.f k2 a1_0 l1_1 l3).bind fun t108 => ((telamonref1_Eval.f k2 a0_0 l0_1 l3).bind fun t109 => (if t107 = t109 then ((level_Bound.f k2 a0_0 l0_1).bind fun t110 => ((telamonref1_Bound.f k2 a0_0 l0_1).bind fun t111 => (telamonlaw1_LevelValues.j2 k2 a2 l3 t107 t108 (t110 != t111) a0_0 l0_1 a1_0 l1_1))) else (telamonlaw1_LevelValues.j2 k2 a2 l3 t107 t108 true a0_0 l0_1 a1_0 l1_1)))) = some r := H
       have A44 := Aside0.mk A440
       clear A440
       replace H := Option.bind_eq_some_iff.mp H
       obtain ⟨t108, A450, H⟩ := H
       replace H : ((telamonref1_Eval.f k2 a0_0 l0_1 l3).bind fun t109 => (if t107 = t109 then ((level_Bound.f k2 a0_0 l0_1).bind fun t110 => ((telamonref1_Bound.f k2 a0_0 l0_1).bind fun t111 => (telamonlaw1_LevelValues.j2 k2 a2 l3 t107 t108 (t110 != t111) a0_0 l0_1 a1_0 l1_1))) else (telamonlaw1_LevelValues.j2 k2 a2 l3 t107 t108 true a0_0 l0_1 a1_0 l1_1))) = some r := H
       have A45 := Aside0.mk A450
       clear A450
       have HC46 := Aside0.mk H
       clear H
       have hnb47 := NB101_102.out
       have hnc47 := NB102_101.out
       have hcz48_0 : wr.cell? ⟨gb101, 0, none⟩ = some (.int .i64 a0_0) := (blk_cell BK101.out 0).trans rfl
       have hcz48_1 : wr.cell? ⟨gb101, 1, none⟩ = some (.slice A0_1 l0_1.length c0_1) := (blk_cell BK101.out 1).trans rfl
       have hfz48_0 := blk_frozen BK101.out 0
       have hfz48_1 := blk_frozen BK101.out 1
       go_upto_region 11 with (first | ((with_reducible refine gate_callee (f := 53) rfl ?_); refine goesL_ (some 55) rfl rfl Try.func53 (by kernel_rfl) rfl #[.agg #[.int .i64 a0_0, .slice A0_1 l0_1.length c0_1], .slice A3 l3.length c3] rfl (by (try simp only [List.map_toArray, List.map_cons, List.map_nil]); first | done | rfl | (simp only [List.length_drop, List.length_take]; rfl)) ?_; (with_reducible refine (level_Eval.calls k2 a0_0 _ _ l0_1 _ _ l3 t107 _ ?side1 ?side2 ?side3 ?side4 A44.out).mono ?_); (case side1 => repeat (first | exact (Kd.C_below HR0_1.out HB.out) | (with_reducible refine Kd.C_alloc ?_ _) | (with_reducible refine Kd.C_drewN ?_ _) | (with_reducible refine Kd.C_drew ?_))); (case side2 => exact HC0_1.out); (case side3 => repeat (first | exact (Kd.C_below HR3.out HB.out) | (with_reducible refine Kd.C_alloc ?_ _) | (with_reducible refine Kd.C_drewN ?_ _) | (with_reducible refine Kd.C_drew ?_))); (case side4 => exact HC3.out); rintro e w49 ⟨rfl, hb⟩; refine ⟨_, rfl, ?_⟩; replace BK101 := bb_ BK101 hb; replace BK102 := bb_ BK102 hb; replace HB := hs_ HB hb; (try clear hb); (try clear hb2); (try clear hk); (try clear hi); have hcz50_0 : w49.cell? ⟨gb102, 0, none⟩ = some (.int .i64 a1_0) := (blk_cell BK102.out 0).trans rfl; have hcz50_1 : w49.cell? ⟨gb102, 1, none⟩ = some (.slice A1_1 l1_1.length c1_1) := (blk_cell BK102.out 1).trans rfl; have hfz50_0 := blk_frozen BK102.out 0; have hfz50_1 := blk_frozen BK102.out 1) | ((with_reducible refine gate_callee (f := 53) rfl ?_); refine goesL_ (some 58) rfl rfl Try.func53 (by kernel_rfl) rfl #[.agg #[.int .i64 a1_0, .slice A1_1 l1_1.length c1_1], .slice A3 l3.length c3] rfl (by (try simp only [List.map_toArray, List.map_cons, List.map_nil]); first | done | rfl | (simp only [List.length_drop, List.length_take]; rfl)) ?_; (with_reducible refine (level_Eval.calls k2 a1_0 _ _ l1_1 _ _ l3 t108 _ ?side1 ?side2 ?side3 ?side4 A45.out).mono ?_); (case side1 => repeat (first | exact (Kd.C_below HR1_1.out HB.out) | (with_reducible refine Kd.C_alloc ?_ _) | (with_reducible refine Kd.C_drewN ?_ _) | (with_reducible refine Kd.C_drew ?_))); (case side2 => exact HC1_1.out); (case side3 => repeat (first | exact (Kd.C_below HR3.out HB.out) | (with_reducible refine Kd.C_alloc ?_ _) | (with_reducible refine Kd.C_drewN ?_ _) | (with_reducible refine Kd.C_drew ?_))); (case side4 => exact HC3.out); rintro e w51 ⟨rfl, hb⟩; refine ⟨_, rfl, ?_⟩; replace BK101 := bb_ BK101 hb; replace BK102 := bb_ BK102 hb; replace HB := hs_ HB hb; (try clear hb); (try clear hb2); (try clear hk); (try clear hi)))
       (try simp only [Act.put, List.setIfInBounds_toArray, List.set_cons_zero, List.set_cons_succ])
       go_cut [70] (fun v70 wc => ∃ (kq : Nat) (x70_45 : Bool), v70 = .bool x70_45 ∧ Aside0 (telamonlaw1_LevelValues.j2 kq a2 l3 t107 t108 x70_45 a0_0 l0_1 a1_0 l1_1 = some r) ∧ Aside0 (kq ≤ k2) ∧ Aside0 (wc.heap[gb101]? = some (.cells #[.int .i64 a0_0, (.slice A0_1 l0_1.length c0_1)] 43 (0, 0))) ∧ Aside0 (wc.heap[gb102]? = some (.cells #[.int .i64 a1_0, (.slice A1_1 l1_1.length c1_1)] 43 (0, 0))) ∧ Aside0 (Below w.heap.size w wc))
       case first =>
        have H := HC46.out
        clear HC46
        replace H := Option.bind_eq_some_iff.mp H
        obtain ⟨t109, A520, H⟩ := H
        replace H : (if t107 = t109 then ((level_Bound.f k2 a0_0 l0_1).bind fun t110 => ((telamonref1_Bound.f k2 a0_0 l0_1).bind fun t111 => (telamonlaw1_LevelValues.j2 k2 a2 l3 t107 t108 (t110 != t111) a0_0 l0_1 a1_0 l1_1))) else (telamonlaw1_LevelValues.j2 k2 a2 l3 t107 t108 true a0_0 l0_1 a1_0 l1_1)) = some r := H
        have A52 := Aside0.mk A520
        clear A520
        by_cases c53 : t107 = t109
        ·rw [if_pos c53] at H
         have c53b0 : (t107 == t109) = true := beq_iff_eq.mpr c53
         have c53b1 : (t107 != t109) = false := bne_eq_false_iff_eq.mpr c53
         clear c53
         (first | rw [c53b0] | (simp only [i64_w, i32_w]; rw [c53b0]) | skip)
         replace H := Option.bind_eq_some_iff.mp H
         obtain ⟨t110, A540, H⟩ := H
         replace H : ((telamonref1_Bound.f k2 a0_0 l0_1).bind fun t111 => (telamonlaw1_LevelValues.j2 k2 a2 l3 t107 t108 (t110 != t111) a0_0 l0_1 a1_0 l1_1)) = some r := H
         have A54 := Aside0.mk A540
         clear A540
         replace H := Option.bind_eq_some_iff.mp H
         obtain ⟨t111, A550, H⟩ := H
         replace H : (telamonlaw1_LevelValues.j2 k2 a2 l3 t107 t108 (t110 != t111) a0_0 l0_1 a1_0 l1_1) = some r := H
         have A55 := Aside0.mk A550
         clear A550
         have H' := Aside0.mk H
         clear H
         try go_wp2
         replace BK101 := Aside0.mk (blk_drew BK101.out)
         replace BK102 := Aside0.mk (blk_drew BK102.out)
         replace HB := Aside0.mk (below_drew1 HB.out)
         refine start_ (n := 12) (S := fun w' => w'.cell? ⟨gb101, 0, none⟩ = some (.int .i64 a0_0) ∧ w'.cell? ⟨gb101, 1, none⟩ = some (.slice A0_1 l0_1.length c0_1)) (ds := []) #[false, false, false, false, false, false, false, false, false, false, false, false] (by kernel_rfl) rfl rfl ⟨(blk_cell BK101.out 0).trans rfl, (blk_cell BK101.out 1).trans rfl⟩ (fun hHeld => ?_); refine with_tabW telamonlaw1_LevelValues.tab11 telamonlaw1_LevelValues.bits11 (fun HT_ HW_ => ?_)
         generalize w51.drew = w56 at BK101 BK102 HB hHeld ⊢
         refine pure_ (i := 0) (N := some 59) (v := ?_) (a' := ?_) #[true, false, false, false, false, false, false, false, false, false, false, false] rfl rfl (any_of HT_.out (by kernel_rfl)) (fun _ _ _ h => h) (Or.inl ⟨by rfl, ?_⟩) ?_ ?_
         rotate_left
         ·intro w'
          go_simp
          with_reducible rfl
         rotate_left
         ·simp only [Act.put, List.setIfInBounds_toArray, List.set_cons_zero, List.set_cons_succ, i64_w, i32_w]
          rfl
         refine pure_ (i := 2) (N := some 61) (v := ?_) (a' := ?_) #[true, false, true, false, false, false, false, false, false, false, false, false] rfl rfl (any_of HT_.out (by kernel_rfl)) (fun _ _ _ h => h) (Or.inl ⟨by rfl, ?_⟩) ?_ ?_
         rotate_left
         ·intro w'
          go_simp
          with_reducible rfl
         rotate_left
         ·simp only [Act.put, List.setIfInBounds_toArray, List.set_cons_zero, List.set_cons_succ, i64_w, i32_w]
          rfl
         refine take_ (i := 1) (N := some 60) (v := ?_) (a' := ?_) #[true, true, true, false, false, false, false, false, false, false, false, false] rfl rfl (take_ofW HT_.out HW_.out (by kernel_rfl)) (fun _ _ _ h => h) (Or.inl ⟨by rfl, ?_⟩) hHeld ?_ ?_
         rotate_left
         ·rintro w' ⟨s0, s1⟩
          go_simp
          with_reducible rfl
         rotate_left
         ·simp only [Act.put, List.setIfInBounds_toArray, List.set_cons_zero, List.set_cons_succ, i64_w, i32_w]
          rfl
         refine one_ (i := 3) (N := some 62) #[true, true, true, true, false, false, false, false, false, false, false, false] rfl rfl (one_of HT_.out (by kernel_rfl)) (by decide) (fun K hK => ?_)
         refine goes_ Try.func50 (by kernel_rfl) rfl #[.agg #[.int .i64 a0_0, .slice A0_1 l0_1.length c0_1], .slice A3 l3.length c3] (by rfl) rfl rfl (by (try simp only [List.map_toArray, List.map_cons, List.map_nil]); first | done | rfl | (simp only [List.length_drop, List.length_take]; rfl)) ?_
         with_reducible refine (telamonref1_Eval.calls k2 a0_0 _ _ l0_1 _ _ l3 t109 _ ?side1 ?side2 ?side3 ?side4 A52.out).mono ?_
         (case side1 => repeat (first | exact (Kd.C_below HR0_1.out HB.out) | (with_reducible refine Kd.C_alloc ?_ _) | (with_reducible refine Kd.C_drewN ?_ _) | (with_reducible refine Kd.C_drew ?_)))
         (case side2 => exact HC0_1.out)
         (case side3 => repeat (first | exact (Kd.C_below HR3.out HB.out) | (with_reducible refine Kd.C_alloc ?_ _) | (with_reducible refine Kd.C_drewN ?_ _) | (with_reducible refine Kd.C_drew ?_)))
         (case side4 => exact HC3.out)
         rintro e w57 ⟨rfl, hb⟩
         refine ⟨_, rfl, ?_⟩
         replace BK101 := bb_ BK101 hb
         replace BK102 := bb_ BK102 hb
         replace HB := hs_ HB hb
         (try clear hb); (try clear hb2); (try clear hk); (try clear hi)
         refine hK.out _ _ ⟨(blk_cell BK101.out 0).trans rfl, (blk_cell BK101.out 1).trans rfl⟩ (fun hHeld => ?_)
         clear hK K
         refine norm_ (a' := ?_) ?_ ?_
         rotate_left
         ·show Act.put _ (some 62) _ = _
          simp only [Act.put, List.setIfInBounds_toArray, List.set_cons_zero, List.set_cons_succ, i64_w, i32_w]
          rfl
         refine pure_ (i := 4) (N := some 63) (v := ?_) (a' := ?_) #[true, true, true, true, true, false, false, false, false, false, false, false] rfl rfl (any_of HT_.out (by kernel_rfl)) (fun _ _ _ h => h) (Or.inl ⟨by rfl, ?_⟩) ?_ ?_
         rotate_left
         ·intro w'
          go_simp
          with_reducible rfl
         rotate_left
         ·simp only [Act.put, List.setIfInBounds_toArray, List.set_cons_zero, List.set_cons_succ, i64_w, i32_w]
          rfl
         refine pure_ (i := 5) (N := some 64) (v := ?_) (a' := ?_) #[true, true, true, true, true, true, false, false, false, false, false, false] rfl rfl (any_of HT_.out (by kernel_rfl)) (fun _ _ _ h => h) (Or.inl ⟨by rfl, ?_⟩) ?_ ?_
         rotate_left
         ·intro w'
          go_simp
          with_reducible rfl
         rotate_left
         ·simp only [Act.put, List.setIfInBounds_toArray, List.set_cons_zero, List.set_cons_succ, i64_w, i32_w]
          rfl
         refine take_ (i := 6) (N := some 65) (v := ?_) (a' := ?_) #[true, true, true, true, true, true, true, false, false, false, false, false] rfl rfl (take_ofW HT_.out HW_.out (by kernel_rfl)) (fun _ _ _ h => h) (Or.inl ⟨by rfl, ?_⟩) hHeld ?_ ?_
         rotate_left
         ·rintro w' ⟨s0, s1⟩
          go_simp
          with_reducible rfl
         rotate_left
         ·simp only [Act.put, List.setIfInBounds_toArray, List.set_cons_zero, List.set_cons_succ, i64_w, i32_w]
          rfl
         refine take_ (i := 8) (N := some 67) (v := ?_) (a' := ?_) #[true, true, true, true, true, true, true, false, true, false, false, false] rfl rfl (take_ofW HT_.out HW_.out (by kernel_rfl)) (fun _ _ _ h => h) (Or.inl ⟨by rfl, ?_⟩) hHeld ?_ ?_
         rotate_left
         ·rintro w' ⟨s0, s1⟩
          go_simp
          with_reducible rfl
         rotate_left
         ·simp only [Act.put, List.setIfInBounds_toArray, List.set_cons_zero, List.set_cons_succ, i64_w, i32_w]
          rfl
         refine one_ (i := 7) (N := some 66) #[true, true, true, true, true, true, true, true, true, false, false, false] rfl rfl (one_of HT_.out (by kernel_rfl)) (by decide) (fun K hK => ?_)
         refine goes_ Try.func57 (by kernel_rfl) rfl #[.agg #[.int .i64 a0_0, .slice A0_1 l0_1.length c0_1]] (by rfl) rfl rfl (by (try simp only [List.map_toArray, List.map_cons, List.map_nil]); first | done | rfl | (simp only [List.length_drop, List.length_take]; rfl)) ?_
         with_reducible refine (level_Bound.calls k2 a0_0 _ _ l0_1 t110 _ ?side1 ?side2 A54.out).mono ?_
         (case side1 => repeat (first | exact (Kd.C_below HR0_1.out HB.out) | (with_reducible refine Kd.C_alloc ?_ _) | (with_reducible refine Kd.C_drewN ?_ _) | (with_reducible refine Kd.C_drew ?_)))
         (case side2 => exact HC0_1.out)
         rintro e w58 ⟨rfl, hb⟩
         refine ⟨_, rfl, ?_⟩
         replace BK101 := bb_ BK101 hb
         replace BK102 := bb_ BK102 hb
         replace HB := hs_ HB hb
         (try clear hb); (try clear hb2); (try clear hk); (try clear hi)
         refine hK.out _ _ ⟨(blk_cell BK101.out 0).trans rfl, (blk_cell BK101.out 1).trans rfl⟩ (fun hHeld => ?_)
         clear hK K
         refine norm_ (a' := ?_) ?_ ?_
         rotate_left
         ·show Act.put _ (some 66) _ = _
          simp only [Act.put, List.setIfInBounds_toArray, List.set_cons_zero, List.set_cons_succ, i64_w, i32_w]
          rfl
         refine one_ (i := 9) (N := some 68) #[true, true, true, true, true, true, true, true, true, true, false, false] rfl rfl (one_of HT_.out (by kernel_rfl)) (by decide) (fun K hK => ?_)
         refine goes_ Try.func58 (by kernel_rfl) rfl #[.agg #[.int .i64 a0_0, .slice A0_1 l0_1.length c0_1]] (by rfl) rfl rfl (by (try simp only [List.map_toArray, List.map_cons, List.map_nil]); first | done | rfl | (simp only [List.length_drop, List.length_take]; rfl)) ?_
         with_reducible refine (telamonref1_Bound.calls k2 a0_0 _ _ l0_1 t111 _ ?side1 ?side2 A55.out).mono ?_
         (case side1 => repeat (first | exact (Kd.C_below HR0_1.out HB.out) | (with_reducible refine Kd.C_alloc ?_ _) | (with_reducible refine Kd.C_drewN ?_ _) | (with_reducible refine Kd.C_drew ?_)))
         (case side2 => exact HC0_1.out)
         rintro e w59 ⟨rfl, hb⟩
         refine ⟨_, rfl, ?_⟩
         replace BK101 := bb_ BK101 hb
         replace BK102 := bb_ BK102 hb
         replace HB := hs_ HB hb
         (try clear hb); (try clear hb2); (try clear hk); (try clear hi)
         refine hK.out _ _ ⟨(blk_cell BK101.out 0).trans rfl, (blk_cell BK101.out 1).trans rfl⟩ (fun hHeld => ?_)
         clear hK K
         refine norm_ (a' := ?_) ?_ ?_
         rotate_left
         ·show Act.put _ (some 68) _ = _
          simp only [Act.put, List.setIfInBounds_toArray, List.set_cons_zero, List.set_cons_succ, i64_w, i32_w]
          rfl
         refine pure_ (i := 10) (N := some 69) (v := ?_) (a' := ?_) #[true, true, true, true, true, true, true, true, true, true, true, false] rfl rfl (any_of HT_.out (by kernel_rfl)) (fun _ _ _ h => h) (Or.inl ⟨by rfl, ?_⟩) ?_ ?_
         rotate_left
         ·intro w'
          go_simp
          with_reducible rfl
         rotate_left
         ·simp only [Act.put, List.setIfInBounds_toArray, List.set_cons_zero, List.set_cons_succ, i64_w, i32_w]
          rfl
         refine pure_ (i := 11) (N := some 70) (v := ?_) (a' := ?_) #[true, true, true, true, true, true, true, true, true, true, true, true] rfl rfl (any_of HT_.out (by kernel_rfl)) (fun _ _ _ h => h) (Or.inl ⟨by rfl, ?_⟩) ?_ ?_
         rotate_left
         ·intro w'
          go_simp
          with_reducible rfl
         rotate_left
         ·simp only [Act.put, List.setIfInBounds_toArray, List.set_cons_zero, List.set_cons_succ, i64_w, i32_w]
          rfl
         refine done_ (done_of HT_.out (by kernel_rfl)) ?_
         try go_wp2
         go_meet
         case rel => exact ⟨_, ((t110 != t111)), (by first | rfl | (simp; done) | (simp [*]; done)), H', ⟨by have := HJ5.out; have := HK2.out; first | omega | exact Nat.le_refl _⟩, ⟨by (with_reducible repeat (first | refine blk_drewN ?_ _ | refine blk_drew ?_ | refine blk_alloc ?_ _)); exact BK101.out⟩, ⟨by (with_reducible repeat (first | refine blk_drewN ?_ _ | refine blk_drew ?_ | refine blk_alloc ?_ _)); exact BK102.out⟩, ⟨by repeat (first | (with_reducible first | exact HB.out | apply below_alloc | apply pw_below_drewN | apply below_drew1 | refine below_set ?_ GE101.out | refine below_set ?_ GE102.out) | exact HB.out)⟩⟩
        ·rw [if_neg c53] at H
         have c53b0 : (t107 == t109) = false := beq_eq_false_iff_ne.mpr c53
         have c53b1 : (t107 != t109) = true := bne_iff_ne.mpr c53
         (first | rw [c53b0] | (simp only [i64_w, i32_w]; rw [c53b0]) | skip)
         have H' := Aside0.mk H
         clear H
         try go_wp2
         replace BK101 := Aside0.mk (blk_drew BK101.out)
         replace BK102 := Aside0.mk (blk_drew BK102.out)
         replace HB := Aside0.mk (below_drew1 HB.out)
         refine start_ (n := 12) (S := fun w' => w'.cell? ⟨gb101, 0, none⟩ = some (.int .i64 a0_0) ∧ w'.cell? ⟨gb101, 1, none⟩ = some (.slice A0_1 l0_1.length c0_1)) (ds := []) #[false, false, false, false, false, false, false, false, false, false, false, false] (by kernel_rfl) rfl rfl ⟨(blk_cell BK101.out 0).trans rfl, (blk_cell BK101.out 1).trans rfl⟩ (fun hHeld => ?_); refine with_tabW telamonlaw1_LevelValues.tab11 telamonlaw1_LevelValues.bits11 (fun HT_ HW_ => ?_)
         generalize w51.drew = w60 at BK101 BK102 HB hHeld ⊢
         refine pure_ (i := 0) (N := some 59) (v := ?_) (a' := ?_) #[true, false, false, false, false, false, false, false, false, false, false, false] rfl rfl (any_of HT_.out (by kernel_rfl)) (fun _ _ _ h => h) (Or.inl ⟨by rfl, ?_⟩) ?_ ?_
         rotate_left
         ·intro w'
          go_simp
          with_reducible rfl
         rotate_left
         ·simp only [Act.put, List.setIfInBounds_toArray, List.set_cons_zero, List.set_cons_succ, i64_w, i32_w]
          rfl
         refine pure_ (i := 2) (N := some 61) (v := ?_) (a' := ?_) #[true, false, true, false, false, false, false, false, false, false, false, false] rfl rfl (any_of HT_.out (by kernel_rfl)) (fun _ _ _ h => h) (Or.inl ⟨by rfl, ?_⟩) ?_ ?_
         rotate_left
         ·intro w'
          go_simp
          with_reducible rfl
         rotate_left
         ·simp only [Act.put, List.setIfInBounds_toArray, List.set_cons_zero, List.set_cons_succ, i64_w, i32_w]
          rfl
         refine take_ (i := 1) (N := some 60) (v := ?_) (a' := ?_) #[true, true, true, false, false, false, false, false, false, false, false, false] rfl rfl (take_ofW HT_.out HW_.out (by kernel_rfl)) (fun _ _ _ h => h) (Or.inl ⟨by rfl, ?_⟩) hHeld ?_ ?_
         rotate_left
         ·rintro w' ⟨s0, s1⟩
          go_simp
          with_reducible rfl
         rotate_left
         ·simp only [Act.put, List.setIfInBounds_toArray, List.set_cons_zero, List.set_cons_succ, i64_w, i32_w]
          rfl
         refine one_ (i := 3) (N := some 62) #[true, true, true, true, false, false, false, false, false, false, false, false] rfl rfl (one_of HT_.out (by kernel_rfl)) (by decide) (fun K hK => ?_)
         refine goes_ Try.func50 (by kernel_rfl) rfl #[.agg #[.int .i64 a0_0, .slice A0_1 l0_1.length c0_1], .slice A3 l3.length c3] (by rfl) rfl rfl (by (try simp only [List.map_toArray, List.map_cons, List.map_nil]); first | done | rfl | (simp only [List.length_drop, List.length_take]; rfl)) ?_
         with_reducible refine (telamonref1_Eval.calls k2 a0_0 _ _ l0_1 _ _ l3 t109 _ ?side1 ?side2 ?side3 ?side4 A52.out).mono ?_
         (case side1 => repeat (first | exact (Kd.C_below HR0_1.out HB.out) | (with_reducible refine Kd.C_alloc ?_ _) | (with_reducible refine Kd.C_drewN ?_ _) | (with_reducible refine Kd.C_drew ?_)))
         (case side2 => exact HC0_1.out)
         (case side3 => repeat (first | exact (Kd.C_below HR3.out HB.out) | (with_reducible refine Kd.C_alloc ?_ _) | (with_reducible refine Kd.C_drewN ?_ _) | (with_reducible refine Kd.C_drew ?_)))
         (case side4 => exact HC3.out)
         rintro e w61 ⟨rfl, hb⟩
         refine ⟨_, rfl, ?_⟩
         replace BK101 := bb_ BK101 hb
         replace BK102 := bb_ BK102 hb
         replace HB := hs_ HB hb
         (try clear hb); (try clear hb2); (try clear hk); (try clear hi)
         refine hK.out _ _ ⟨(blk_cell BK101.out 0).trans rfl, (blk_cell BK101.out 1).trans rfl⟩ (fun hHeld => ?_)
         clear hK K
         refine norm_ (a' := ?_) ?_ ?_
         rotate_left
         ·show Act.put _ (some 62) _ = _
          simp only [Act.put, List.setIfInBounds_toArray, List.set_cons_zero, List.set_cons_succ, i64_w, i32_w]
          rfl
         refine pure_ (i := 4) (N := some 63) (v := ?_) (a' := ?_) #[true, true, true, true, true, false, false, false, false, false, false, false] rfl rfl (any_of HT_.out (by kernel_rfl)) (fun _ _ _ h => h) (Or.inl ⟨by rfl, ?_⟩) ?_ ?_
         rotate_left
         ·intro w'
          go_simp
          with_reducible rfl
         rotate_left
         ·simp only [Act.put, List.setIfInBounds_toArray, List.set_cons_zero, List.set_cons_succ, i64_w, i32_w]
          rfl
         refine pure_ (i := 5) (N := some 64) (v := ?_) (a' := ?_) #[true, true, true, true, true, true, false, false, false, false, false, false] rfl rfl (any_of HT_.out (by kernel_rfl)) (fun _ _ _ h => h) (Or.inl ⟨by rfl, ?_⟩) ?_ ?_
         rotate_left
         ·intro w'
          go_simp
          with_reducible rfl
         rotate_left
         ·simp only [Act.put, List.setIfInBounds_toArray, List.set_cons_zero, List.set_cons_succ, i64_w, i32_w]
          rfl
         refine pure_ (i := 6) (N := some 65) (v := undef) (a' := ?_) #[true, true, true, true, true, true, true, false, false, false, false, false] rfl rfl (any_of HT_.out (by kernel_rfl)) (fun _ _ _ h => h) (Or.inr ⟨by rfl, rfl⟩) ?_ ?_
         rotate_left
         ·simp only [Act.put, List.setIfInBounds_toArray, List.set_cons_zero, List.set_cons_succ, i64_w, i32_w]
          rfl
         refine pure_ (i := 7) (N := some 66) (v := undef) (a' := ?_) #[true, true, true, true, true, true, true, true, false, false, false, false] rfl rfl (any_of HT_.out (by kernel_rfl)) (fun _ _ _ h => h) (Or.inr ⟨by rfl, rfl⟩) ?_ ?_
         rotate_left
         ·simp only [Act.put, List.setIfInBounds_toArray, List.set_cons_zero, List.set_cons_succ, i64_w, i32_w]
          rfl
         refine pure_ (i := 8) (N := some 67) (v := undef) (a' := ?_) #[true, true, true, true, true, true, true, true, true, false, false, false] rfl rfl (any_of HT_.out (by kernel_rfl)) (fun _ _ _ h => h) (Or.inr ⟨by rfl, rfl⟩) ?_ ?_
         rotate_left
         ·simp only [Act.put, List.setIfInBounds_toArray, List.set_cons_zero, List.set_cons_succ, i64_w, i32_w]
          rfl
         refine pure_ (i := 9) (N := some 68) (v := undef) (a' := ?_) #[true, true, true, true, true, true, true, true, true, true, false, false] rfl rfl (any_of HT_.out (by kernel_rfl)) (fun _ _ _ h => h) (Or.inr ⟨by rfl, rfl⟩) ?_ ?_
         rotate_left
         ·simp only [Act.put, List.setIfInBounds_toArray, List.set_cons_zero, List.set_cons_succ, i64_w, i32_w]
          rfl
         refine pure_ (i := 10) (N := some 69) (v := undef) (a' := ?_) #[true, true, true, true, true, true, true, true, true, true, true, false] rfl rfl (any_of HT_.out (by kernel_rfl)) (fun _ _ _ h => h) (Or.inr ⟨by rfl, rfl⟩) ?_ ?_
         rotate_left
         ·simp only [Act.put, List.setIfInBounds_toArray, List.set_cons_zero, List.set_cons_succ, i64_w, i32_w]
          rfl
         refine pure_ (i := 11) (N := some 70) (v := ?_) (a' := ?_) #[true, true, true, true, true, true, true, true, true, true, true, true] rfl rfl (any_of HT_.out (by kernel_rfl)) (fun _ _ _ h => h) (Or.inl ⟨by rfl, ?_⟩) ?_ ?_
         rotate_left
         ·intro w'
          go_simp
          with_reducible rfl
         rotate_left
         ·simp only [Act.put, List.setIfInBounds_toArray, List.set_cons_zero, List.set_cons_succ, i64_w, i32_w]
          rfl
         refine done_ (done_of HT_.out (by kernel_rfl)) ?_
         try go_wp2
         go_meet
         case rel => exact ⟨_, (true), (by first | rfl | (simp; done) | (simp [*]; done)), H', ⟨by have := HJ5.out; have := HK2.out; first | omega | exact Nat.le_refl _⟩, ⟨by (with_reducible repeat (first | refine blk_drewN ?_ _ | refine blk_drew ?_ | refine blk_alloc ?_ _)); exact BK101.out⟩, ⟨by (with_reducible repeat (first | refine blk_drewN ?_ _ | refine blk_drew ?_ | refine blk_alloc ?_ _)); exact BK102.out⟩, ⟨by repeat (first | (with_reducible first | exact HB.out | apply below_alloc | apply pw_below_drewN | apply below_drew1 | refine below_set ?_ GE101.out | refine below_set ?_ GE102.out) | exact HB.out)⟩⟩
       case rest =>
        clear HC46
        (try clear c1); (try clear p1); (try clear q1); (try clear hx1); (try clear c2); (try clear p2); (try clear c3); (try clear c4); (try clear c5); (try clear p6); (try clear c10); (try clear p10); (try clear q10); (try clear hx10); (try clear c12); (try clear c13); (try clear c17); (try clear c18); (try clear c23); (try clear c23b0); (try clear c23b1); (try clear c24); (try clear c29); (try clear c29b0); (try clear c30); (try clear c35); (try clear c37); (try clear c40); (try clear c41); (try clear c41b0); (try clear c42); (try clear c42b0); (try clear c43); (try clear c43b0); (try clear c47); (try clear c50); (try clear c53); (try clear c53b0); (try clear c53b1); (try clear c57); (try clear c58); (try clear hcz14_0); (try clear hcz14_1); (try clear hcz19_0); (try clear hcz19_1); (try clear hcz21_0); (try clear hcz21_1); (try clear hcz25_0); (try clear hcz25_1); (try clear hcz27_0); (try clear hcz27_1); (try clear hcz31_0); (try clear hcz31_1); (try clear hcz33_0); (try clear hcz33_1); (try clear hcz36_0); (try clear hcz36_1); (try clear hcz38_0); (try clear hcz38_1); (try clear hcz48_0); (try clear hcz48_1); (try clear hcz50_0); (try clear hcz50_1); (try clear hfz14_0); (try clear hfz14_1); (try clear hfz19_0); (try clear hfz19_1); (try clear hfz21_0); (try clear hfz21_1); (try clear hfz25_0); (try clear hfz25_1); (try clear hfz27_0); (try clear hfz27_1); (try clear hfz31_0); (try clear hfz31_1); (try clear hfz33_0); (try clear hfz33_1); (try clear hfz36_0); (try clear hfz36_1); (try clear hfz38_0); (try clear hfz38_1); (try clear hfz48_0); (try clear hfz48_1); (try clear hfz50_0); (try clear hfz50_1); (try clear hx106_0); (try clear p106); (try clear p2); (try clear q106)
        obtain ⟨kq, x70_45, rfl, HA, HJ45, BK101, BK102, HB⟩ := hcut
        cases kq with
        | zero => exact absurd HA.out (by simp [telamonlaw1_LevelValues.j2])
        | succ kj45 =>
         have H := HA.out
         clear HA
         simp only [telamonlaw1_LevelValues.j2] at H
         by_cases c62 : x70_45 = true
         ·subst c62
          have H1 : (some false) = some r := by rw [if_pos rfl] at H; exact H
          clear H
          have H := H1
          clear H1
          obtain rfl := Option.some.inj H
          exact absurd hrt.out (by decide)
         ·replace c62 := Bool.eq_false_iff.mpr c62
          subst c62
          have H1 : ((level_Leq.f kj45 a0_0 l0_1 a1_0 l1_1).bind fun t112 => (if t112 = true then (telamonlaw1_LevelValues.j3 kj45 a2 l3 t107 t108 (decide (t107 > t108)) a0_0 l0_1 a1_0 l1_1) else (telamonlaw1_LevelValues.j3 kj45 a2 l3 t107 t108 false a0_0 l0_1 a1_0 l1_1))) = some r := by rw [if_neg (show ¬ (false = true) by decide)] at H; exact H
          clear H
          have H := H1
          clear H1
          have HC63 := Aside0.mk H
          clear H
          go_upto_region 13 with (fail)
          go_cut [78] (fun v78 wc => ∃ (kq : Nat) (x78_62 : Bool), v78 = .bool x78_62 ∧ Aside0 (telamonlaw1_LevelValues.j3 kq a2 l3 t107 t108 x78_62 a0_0 l0_1 a1_0 l1_1 = some r) ∧ Aside0 (kq ≤ kj45) ∧ Aside0 (wc.heap[gb101]? = some (.cells #[.int .i64 a0_0, (.slice A0_1 l0_1.length c0_1)] 43 (0, 0))) ∧ Aside0 (wc.heap[gb102]? = some (.cells #[.int .i64 a1_0, (.slice A1_1 l1_1.length c1_1)] 43 (0, 0))) ∧ Aside0 (Below w.heap.size w wc))
          case first =>
           have H := HC63.out
           clear HC63
           replace H := Option.bind_eq_some_iff.mp H
           obtain ⟨t112, A640, H⟩ := H
           replace H : (if t112 = true then (telamonlaw1_LevelValues.j3 kj45 a2 l3 t107 t108 (decide (t107 > t108)) a0_0 l0_1 a1_0 l1_1) else (telamonlaw1_LevelValues.j3 kj45 a2 l3 t107 t108 false a0_0 l0_1 a1_0 l1_1)) = some r := H
           have A64 := Aside0.mk A640
           clear A640
           by_cases c65 : t112 = true
           ·subst c65
            have H1 : (telamonlaw1_LevelValues.j3 kj45 a2 l3 t107 t108 (decide (t107 > t108)) a0_0 l0_1 a1_0 l1_1) = some r := by rw [if_pos rfl] at H; exact H
            clear H
            have H := H1
            clear H1
            have H' := Aside0.mk H
            clear H
            have hnb66 := NB101_102.out
            have hnc66 := NB102_101.out
            have hcz67_0 : wc.cell? ⟨gb101, 0, none⟩ = some (.int .i64 a0_0) := (blk_cell BK101.out 0).trans rfl
            have hcz67_1 : wc.cell? ⟨gb101, 1, none⟩ = some (.slice A0_1 l0_1.length c0_1) := (blk_cell BK101.out 1).trans rfl
            have hfz67_0 := blk_frozen BK101.out 0
            have hfz67_1 := blk_frozen BK101.out 1
            have hcz68_0 : wc.cell? ⟨gb102, 0, none⟩ = some (.int .i64 a1_0) := (blk_cell BK102.out 0).trans rfl
            have hcz68_1 : wc.cell? ⟨gb102, 1, none⟩ = some (.slice A1_1 l1_1.length c1_1) := (blk_cell BK102.out 1).trans rfl
            have hfz68_0 := blk_frozen BK102.out 0
            have hfz68_1 := blk_frozen BK102.out 1
            go_wp2_with (first | ((with_reducible refine gate_callee (f := 49) rfl ?_); refine goesL_ (some 73) rfl rfl Try.func49 (by kernel_rfl) rfl #[.agg #[.int .i64 a0_0, .slice A0_1 l0_1.length c0_1], .agg #[.int .i64 a1_0, .slice A1_1 l1_1.length c1_1]] rfl (by (try simp only [List.map_toArray, List.map_cons, List.map_nil]); first | done | rfl | (simp only [List.length_drop, List.length_take]; rfl)) ?_; (with_reducible refine (level_Leq.calls kj45 a0_0 _ _ l0_1 a1_0 _ _ l1_1 true _ ?side1 ?side2 ?side3 ?side4 A64.out).mono ?_); (case side1 => repeat (first | exact (Kd.C_below HR0_1.out HB.out) | (with_reducible refine Kd.C_alloc ?_ _) | (with_reducible refine Kd.C_drewN ?_ _) | (with_reducible refine Kd.C_drew ?_))); (case side2 => exact HC0_1.out); (case side3 => repeat (first | exact (Kd.C_below HR1_1.out HB.out) | (with_reducible refine Kd.C_alloc ?_ _) | (with_reducible refine Kd.C_drewN ?_ _) | (with_reducible refine Kd.C_drew ?_))); (case side4 => exact HC1_1.out); rintro e w69 ⟨rfl, hb⟩; refine ⟨_, rfl, ?_⟩; replace BK101 := bb_ BK101 hb; replace BK102 := bb_ BK102 hb; replace HB := hs_ HB hb; (try clear hb); (try clear hb2); (try clear hk); (try clear hi)))
            go_meet
            case rel => exact ⟨_, (decide (t107 > t108)), (by first | rfl | (simp; done) | (simp [*]; done)), H', ⟨by have := HJ5.out; have := HK2.out; have := HJ45.out; first | omega | exact Nat.le_refl _⟩, ⟨by (with_reducible repeat (first | refine blk_drewN ?_ _ | refine blk_drew ?_ | refine blk_alloc ?_ _)); exact BK101.out⟩, ⟨by (with_reducible repeat (first | refine blk_drewN ?_ _ | refine blk_drew ?_ | refine blk_alloc ?_ _)); exact BK102.out⟩, ⟨by repeat (first | (with_reducible first | exact HB.out | apply below_alloc | apply pw_below_drewN | apply below_drew1 | refine below_set ?_ GE101.out | refine below_set ?_ GE102.out) | exact HB.out)⟩⟩
           ·replace c65 := Bool.eq_false_iff.mpr c65
            subst c65
            have H1 : (telamonlaw1_LevelValues.j3 kj45 a2 l3 t107 t108 false a0_0 l0_1 a1_0 l1_1) = some r := by rw [if_neg (show ¬ (false = true) by decide)] at H; exact H
            clear H
            have H := H1
            clear H1
            have H' := Aside0.mk H
            clear H
            have hnb70 := NB101_102.out
            have hnc70 := NB102_101.out
            have hcz71_0 : wc.cell? ⟨gb101, 0, none⟩ = some (.int .i64 a0_0) := (blk_cell BK101.out 0).trans rfl
            have hcz71_1 : wc.cell? ⟨gb101, 1, none⟩ = some (.slice A0_1 l0_1.length c0_1) := (blk_cell BK101.out 1).trans rfl
            have hfz71_0 := blk_frozen BK101.out 0
            have hfz71_1 := blk_frozen BK101.out 1
            have hcz72_0 : wc.cell? ⟨gb102, 0, none⟩ = some (.int .i64 a1_0) := (blk_cell BK102.out 0).trans rfl
            have hcz72_1 : wc.cell? ⟨gb102, 1, none⟩ = some (.slice A1_1 l1_1.length c1_1) := (blk_cell BK102.out 1).trans rfl
            have hfz72_0 := blk_frozen BK102.out 0
            have hfz72_1 := blk_frozen BK102.out 1
            go_wp2_with (first | ((with_reducible refine gate_callee (f := 49) rfl ?_); refine goesL_ (some 73) rfl rfl Try.func49 (by kernel_rfl) rfl #[.agg #[.int .i64 a0_0, .slice A0_1 l0_1.length c0_1], .agg #[.int .i64 a1_0, .slice A1_1 l1_1.length c1_1]] rfl (by (try simp only [List.map_toArray, List.map_cons, List.map_nil]); first | done | rfl | (simp only [List.length_drop, List.length_take]; rfl)) ?_; (with_reducible refine (level_Leq.calls kj45 a0_0 _ _ l0_1 a1_0 _ _ l1_1 false _ ?side1 ?side2 ?side3 ?side4 A64.out).mono ?_); (case side1 => repeat (first | exact (Kd.C_below HR0_1.out HB.out) | (with_reducible refine Kd.C_alloc ?_ _) | (with_reducible refine Kd.C_drewN ?_ _) | (with_reducible refine Kd.C_drew ?_))); (case side2 => exact HC0_1.out); (case side3 => repeat (first | exact (Kd.C_below HR1_1.out HB.out) | (with_reducible refine Kd.C_alloc ?_ _) | (with_reducible refine Kd.C_drewN ?_ _) | (with_reducible refine Kd.C_drew ?_))); (case side4 => exact HC1_1.out); rintro e w73 ⟨rfl, hb⟩; refine ⟨_, rfl, ?_⟩; replace BK101 := bb_ BK101 hb; replace BK102 := bb_ BK102 hb; replace HB := hs_ HB hb; (try clear hb); (try clear hb2); (try clear hk); (try clear hi)))
            go_meet
            case rel => exact ⟨_, (false), (by first | rfl | (simp; done) | (simp [*]; done)), H', ⟨by have := HJ5.out; have := HK2.out; have := HJ45.out; first | omega | exact Nat.le_refl _⟩, ⟨by (with_reducible repeat (first | refine blk_drewN ?_ _ | refine blk_drew ?_ | refine blk_alloc ?_ _)); exact BK101.out⟩, ⟨by (with_reducible repeat (first | refine blk_drewN ?_ _ | refine blk_drew ?_ | refine blk_alloc ?_ _)); exact BK102.out⟩, ⟨by repeat (first | (with_reducible first | exact HB.out | apply below_alloc | apply pw_below_drewN | apply below_drew1 | refine below_set ?_ GE101.out | refine below_set ?_ GE102.out) | exact HB.out)⟩⟩
          case rest =>
           clear HC63
           (try clear c1); (try clear p1); (try clear q1); (try clear hx1); (try clear c2); (try clear p2); (try clear c3); (try clear c4); (try clear c5); (try clear c6); (try clear p6); (try clear c7); (try clear c10); (try clear p10); (try clear q10); (try clear hx10); (try clear c12); (try clear c13); (try clear c17); (try clear c18); (try clear c23); (try clear c23b0); (try clear c23b1); (try clear c24); (try clear c29); (try clear c29b0); (try clear c30); (try clear c35); (try clear c37); (try clear c40); (try clear c41); (try clear c41b0); (try clear c42); (try clear c42b0); (try clear c43); (try clear c43b0); (try clear c47); (try clear c49); (try clear c50); (try clear c53); (try clear c53b0); (try clear c53b1); (try clear c57); (try clear c58); (try clear c62); (try clear p64); (try clear c65); (try clear c66); (try clear c70); (try clear hcz14_0); (try clear hcz14_1); (try clear hcz19_0); (try clear hcz19_1); (try clear hcz21_0); (try clear hcz21_1); (try clear hcz25_0); (try clear hcz25_1); (try clear hcz27_0); (try clear hcz27_1); (try clear hcz31_0); (try clear hcz31_1); (try clear hcz33_0); (try clear hcz33_1); (try clear hcz36_0); (try clear hcz36_1); (try clear hcz38_0); (try clear hcz38_1); (try clear hcz48_0); (try clear hcz48_1); (try clear hcz50_0); (try clear hcz50_1); (try clear hcz67_0); (try clear hcz67_1); (try clear hcz68_0); (try clear hcz68_1); (try clear hcz71_0); (try clear hcz71_1); (try clear hcz72_0); (try clear hcz72_1); (try clear hfz14_0); (try clear hfz14_1); (try clear hfz19_0); (try clear hfz19_1); (try clear hfz21_0); (try clear hfz21_1); (try clear hfz25_0); (try clear hfz25_1); (try clear hfz27_0); (try clear hfz27_1); (try clear hfz31_0); (try clear hfz31_1); (try clear hfz33_0); (try clear hfz33_1); (try clear hfz36_0); (try clear hfz36_1); (try clear hfz38_0); (try clear hfz38_1); (try clear hfz48_0); (try clear hfz48_1); (try clear hfz50_0); (try clear hfz50_1); (try clear hfz67_0); (try clear hfz67_1); (try clear hfz68_0); (try clear hfz68_1); (try clear hfz71_0); (try clear hfz71_1); (try clear hfz72_0); (try clear hfz72_1); (try clear hx106_0); (try clear p1); (try clear p10); (try clear p106); (try clear p2); (try clear p6); (try clear q1); (try clear q10); (try clear q106)
           obtain ⟨kq, x78_62, rfl, HA, HJ62, BK101, BK102, HB⟩ := hcut
           cases kq with
           | zero => exact absurd HA.out (by simp [telamonlaw1_LevelValues.j3])
           | succ kj62 =>
            have H := HA.out
            clear HA
            simp only [telamonlaw1_LevelValues.j3] at H
            by_cases c74 : x78_62 = true
            ·subst c74
             have H1 : (some false) = some r := by rw [if_pos rfl] at H; exact H
             clear H
             have H := H1
             clear H1
             obtain rfl := Option.some.inj H
             exact absurd hrt.out (by decide)
            ·replace c74 := Bool.eq_false_iff.mpr c74
             subst c74
             have H1 : ((level_Max.f kj62 a0_0 l0_1 a1_0 l1_1).bind fun bt113 => ((telamonlaw1_num.f bt113.2.2).bind fun t119 => (if t119 = 0 then ((level_Eval.f kj62 bt113.1 bt113.2.1 l3).bind fun t120 => ((telamonlaw1_max2.f t107 t108).bind fun t121 => (telamonlaw1_LevelValues.j4 kj62 a2 l3 t107 (t120 != t121) a0_0 l0_1))) else (telamonlaw1_LevelValues.j4 kj62 a2 l3 t107 false a0_0 l0_1)))) = some r := by rw [if_neg (show ¬ (false = true) by decide)] at H; exact H
             clear H
             have H := H1
             clear H1
             replace H := Option.bind_eq_some_iff.mp H
             obtain ⟨⟨t113, t114, t117⟩, A750, H⟩ := H
             replace H : ((telamonlaw1_num.f t117).bind fun t119 => (if t119 = 0 then ((level_Eval.f kj62 t113 t114 l3).bind fun t120 => ((telamonlaw1_max2.f t107 t108).bind fun t121 => (telamonlaw1_LevelValues.j4 kj62 a2 l3 t107 (t120 != t121) a0_0 l0_1))) else (telamonlaw1_LevelValues.j4 kj62 a2 l3 t107 false a0_0 l0_1))) = some r := H
             have A75 := Aside0.mk A750
             clear A750
             have HC76 := Aside0.mk H
             clear H
             have hnb77 := NB101_102.out
             have hnc77 := NB102_101.out
             have hcz78_0 : wc.cell? ⟨gb101, 0, none⟩ = some (.int .i64 a0_0) := (blk_cell BK101.out 0).trans rfl
             have hcz78_1 : wc.cell? ⟨gb101, 1, none⟩ = some (.slice A0_1 l0_1.length c0_1) := (blk_cell BK101.out 1).trans rfl
             have hfz78_0 := blk_frozen BK101.out 0
             have hfz78_1 := blk_frozen BK101.out 1
             have hcz79_0 : wc.cell? ⟨gb102, 0, none⟩ = some (.int .i64 a1_0) := (blk_cell BK102.out 0).trans rfl
             have hcz79_1 : wc.cell? ⟨gb102, 1, none⟩ = some (.slice A1_1 l1_1.length c1_1) := (blk_cell BK102.out 1).trans rfl
             have hfz79_0 := blk_frozen BK102.out 0
             have hfz79_1 := blk_frozen BK102.out 1
             go_upto_region 16 with (first | ((with_reducible refine gate_callee (f := 46) rfl ?_); refine goesL_ (some 82) rfl rfl Try.func46 (by kernel_rfl) rfl #[.agg #[.int .i64 a0_0, .slice A0_1 l0_1.length c0_1], .agg #[.int .i64 a1_0, .slice A1_1 l1_1.length c1_1]] rfl (by (try simp only [List.map_toArray, List.map_cons, List.map_nil]); first | done | rfl | (simp only [List.length_drop, List.length_take]; rfl)) ?_; (with_reducible refine (level_Max.calls kj62 a0_0 _ _ l0_1 a1_0 _ _ l1_1 t113 t114 t117 _ ?side1 ?side2 ?side3 ?side4 A75.out).mono ?_); (case side1 => repeat (first | exact (Kd.C_below HR0_1.out HB.out) | (with_reducible refine Kd.C_alloc ?_ _) | (with_reducible refine Kd.C_drewN ?_ _) | (with_reducible refine Kd.C_drew ?_))); (case side2 => exact HC0_1.out); (case side3 => repeat (first | exact (Kd.C_below HR1_1.out HB.out) | (with_reducible refine Kd.C_alloc ?_ _) | (with_reducible refine Kd.C_drewN ?_ _) | (with_reducible refine Kd.C_drew ?_))); (case side4 => exact HC1_1.out); rintro e w80 ⟨v115, rfl, ho0, hb⟩; refine ⟨_, rfl, ?_⟩; have HO116 := Aside0.mk (Kd.R_lower ho0 (below_size (bl_ HB))); replace BK101 := bb_ BK101 hb; replace BK102 := bb_ BK102 hb; replace HB := hs_ HB hb; (try clear hb); (try clear hb2); (try clear hk); (try clear hi); (try clear ho0)) | ((with_reducible refine gate_dst (N := 13) rfl ?_); (try (refine gate_guard (by rfl) ?_; dsimp only)); refine box_event ?hg (N := 13) ?hd (cs := #[.int .i64 0, .slice none 0 0]) (t := 43) ?hr ?_; (case hd => rfl); (case hg => rfl); (case hr => first | (go_simp; done) | (go_simp; rfl)); intro gb118 hg w81 hbox hb; have BK118 := Aside0.mk (hbox); have GW118 := Aside0.mk ((bs_ hg HB : w.heap.size ≤ gb118)); have GE118 := Aside0.mk ((bs_ hg HB : w.heap.size ≤ gb118)); have NB101_118 := Aside0.mk ((nl_ hg BK101 : gb101 ≠ gb118)); have NB118_101 := Aside0.mk ((ng_ hg BK101 : gb118 ≠ gb101)); have NB102_118 := Aside0.mk ((nl_ hg BK102 : gb102 ≠ gb118)); have NB118_102 := Aside0.mk ((ng_ hg BK102 : gb118 ≠ gb102)); replace HO116 := Aside0.mk (Kd.R_below (rl_ HO116) hb); replace BK101 := bb_ BK101 hb; replace BK102 := bb_ BK102 hb; replace HB := hs_ HB hb; clear hb hbox hg; have hnb82 := NB118_101.out; have hnc82 := NB101_118.out; have hnb83 := NB118_102.out; have hnc83 := NB102_118.out; have hcz84_0 : w81.cell? ⟨gb118, 0, none⟩ = some (.int .i64 0) := (blk_cell BK118.out 0).trans rfl; have hcz84_1 : w81.cell? ⟨gb118, 1, none⟩ = some (.slice none 0 0) := (blk_cell BK118.out 1).trans rfl; have hfz84_0 := blk_frozen BK118.out 0; have hfz84_1 := blk_frozen BK118.out 1; obtain ⟨Ao85, co85, eo85⟩ := Kd.R_slice HO116.out; subst eo85))
             (try simp only [Act.put, List.setIfInBounds_toArray, List.set_cons_zero, List.set_cons_succ])
             go_cut [96] (fun v96 wc => ∃ (kq : Nat) (x96_75 : Bool), v96 = .bool x96_75 ∧ Aside0 (telamonlaw1_LevelValues.j4 kq a2 l3 t107 x96_75 a0_0 l0_1 = some r) ∧ Aside0 (kq ≤ kj62) ∧ Aside0 (Kd.R k62 62 wc w.heap.size (fun _ => True) (.slice Ao85 t114.length co85) t114) ∧ Aside0 (wc.heap[gb101]? = some (.cells #[.int .i64 a0_0, (.slice A0_1 l0_1.length c0_1)] 43 (0, 0))) ∧ Aside0 (wc.heap[gb102]? = some (.cells #[.int .i64 a1_0, (.slice A1_1 l1_1.length c1_1)] 43 (0, 0))) ∧ Aside0 (wc.heap[gb118]? = some (.cells #[.int .i64 t113, (.slice Ao85 t114.length co85)] 43 (0, 0))) ∧ Aside0 (Below w.heap.size w wc))
             case first =>
              have H := HC76.out
              clear HC76
              replace H := Option.bind_eq_some_iff.mp H
              obtain ⟨t119, A860, H⟩ := H
              replace H : (if t119 = 0 then ((level_Eval.f kj62 t113 t114 l3).bind fun t120 => ((telamonlaw1_max2.f t107 t108).bind fun t121 => (telamonlaw1_LevelValues.j4 kj62 a2 l3 t107 (t120 != t121) a0_0 l0_1))) else (telamonlaw1_LevelValues.j4 kj62 a2 l3 t107 false a0_0 l0_1)) = some r := H
              have A86 := Aside0.mk A860
              clear A860
              by_cases c87 : t119 = 0
              ·rw [if_pos c87] at H
               have c87b0 : (t119 == 0) = true := beq_iff_eq.mpr c87
               have c87b1 : (t119 != 0) = false := bne_eq_false_iff_eq.mpr c87
               clear c87
               (first | rw [c87b0] | (simp only [i64_w, i32_w]; rw [c87b0]) | skip)
               replace H := Option.bind_eq_some_iff.mp H
               obtain ⟨t120, A880, H⟩ := H
               replace H : ((telamonlaw1_max2.f t107 t108).bind fun t121 => (telamonlaw1_LevelValues.j4 kj62 a2 l3 t107 (t120 != t121) a0_0 l0_1)) = some r := H
               have A88 := Aside0.mk A880
               clear A880
               replace H := Option.bind_eq_some_iff.mp H
               obtain ⟨t121, A890, H⟩ := H
               replace H : (telamonlaw1_LevelValues.j4 kj62 a2 l3 t107 (t120 != t121) a0_0 l0_1) = some r := H
               have A89 := Aside0.mk A890
               clear A890
               have H' := Aside0.mk H
               clear H
               go_wp2_with (first | ((with_reducible refine gate_callee (f := 43) rfl ?_); refine goesL_ (some 86) rfl rfl Try.func43 (by kernel_rfl) rfl #[.int .i64 t117] rfl (by (try simp only [List.map_toArray, List.map_cons, List.map_nil]); first | done | rfl | (simp only [List.length_drop, List.length_take]; rfl)) ?_; (with_reducible refine (telamonlaw1_num.calls t117 t119 _ A86.out).mono ?_); rintro e w' ⟨rfl, ⟨nd, rfl⟩⟩; refine ⟨_, rfl, ?_⟩; have hnb90 := NB118_101.out; have hnc90 := NB101_118.out; have hnb91 := NB118_102.out; have hnc91 := NB102_118.out; have hcz92_0 : w81.cell? ⟨gb118, 0, none⟩ = some (.int .i64 0) := (blk_cell BK118.out 0).trans rfl; have hcz92_1 : w81.cell? ⟨gb118, 1, none⟩ = some (.slice none 0 0) := (blk_cell BK118.out 1).trans rfl; have hfz92_0 := blk_frozen BK118.out 0; have hfz92_1 := blk_frozen BK118.out 1) | (go_at_call 53; (with_reducible refine (level_Eval.calls kj62 t113 _ _ t114 _ _ l3 t120 _ ?side1 ?side2 ?side3 ?side4 A88.out).mono ?_); (case side1 => refine (Kd.R_reads' (e := 62) (base := w.heap.size) (ok := fun k_ => True) (n := t114.length) (c := co85) ?_).2.2; exact (by (with_reducible repeat (first | apply Kd.R_alloc | apply Kd.R_drewN | apply Kd.R_drew)); exact (Kd.R_mono (Kd.R_far (p := ⟨gb118, 1, none⟩) (Kd.R_far (p := ⟨gb118, 0, none⟩) (Kd.R_types HO116.out BK118.out (by decide)) (fun _ hk => hk.2) (.int .i64 t113)) (fun _ hk => hk.2) (.slice Ao85 t114.length co85)) (fun _ h_ => h_.1)))); (case side2 => exact (Kd.R_reads' HO116.out).2.1); (case side3 => exact Kd.C_below HR3.out (bl_ HB)); (case side4 => exact HC3.out); rintro e w93 ⟨rfl, hb⟩; replace HO116 := Aside0.mk (Kd.R_below (by (with_reducible repeat (first | apply Kd.R_alloc | apply Kd.R_drewN | apply Kd.R_drew)); exact (Kd.R_mono (Kd.R_far (p := ⟨gb118, 1, none⟩) (Kd.R_far (p := ⟨gb118, 0, none⟩) (Kd.R_types HO116.out BK118.out (by decide)) (fun _ hk => hk.2) (.int .i64 t113)) (fun _ hk => hk.2) (.slice Ao85 t114.length co85)) (fun _ h_ => h_.1))) hb); replace BK101 := Aside0.mk (blk_below (pf_ BK101) hb); replace BK102 := Aside0.mk (blk_below (pf_ BK102) hb); replace BK118 := Aside0.mk (blk_below (g := gb118) (o := .cells #[.int .i64 t113, .slice Ao85 t114.length co85] 43 (0, 0)) (by (with_reducible repeat (first | refine blk_drewN ?_ _ | refine blk_drew ?_ | refine blk_alloc ?_ _)); refine blk_put (cs := #[.int .i64 t113, .slice none 0 0]) ?_ 1 _ rfl; (with_reducible repeat (first | refine blk_drewN ?_ _ | refine blk_drew ?_ | refine blk_alloc ?_ _)); refine blk_put (cs := #[.int .i64 0, .slice none 0 0]) ?_ 0 _ rfl; (with_reducible repeat (first | refine blk_drewN ?_ _ | refine blk_drew ?_ | refine blk_alloc ?_ _)); exact BK118.out) hb); replace HB := hs_ HB hb; (try clear hb); (try clear hb2); (try clear hk); (try clear hi)) | (go_at_call 59; (with_reducible refine (telamonlaw1_max2.calls t107 t108 t121 _ A89.out).mono ?_); rintro e w' ⟨rfl, ⟨nd, rfl⟩⟩))
               go_meet
               case rel => exact ⟨_, ((t120 != t121)), (by first | rfl | (simp; done) | (simp [*]; done)), H', ⟨by have := HJ5.out; have := HK2.out; have := HJ45.out; have := HJ62.out; first | omega | exact Nat.le_refl _⟩, ⟨by (with_reducible repeat (first | apply Kd.R_alloc | apply Kd.R_drewN | apply Kd.R_drew)); exact HO116.out⟩, ⟨by (with_reducible repeat (first | refine blk_drewN ?_ _ | refine blk_drew ?_ | refine blk_alloc ?_ _)); exact BK101.out⟩, ⟨by (with_reducible repeat (first | refine blk_drewN ?_ _ | refine blk_drew ?_ | refine blk_alloc ?_ _)); exact BK102.out⟩, ⟨by (with_reducible repeat (first | refine blk_drewN ?_ _ | refine blk_drew ?_ | refine blk_alloc ?_ _)); exact BK118.out⟩, ⟨by repeat (first | (with_reducible first | exact HB.out | apply below_alloc | apply pw_below_drewN | apply below_drew1 | refine below_set ?_ GE101.out | refine below_set ?_ GE102.out | refine below_set ?_ GE118.out) | exact HB.out)⟩⟩
              ·rw [if_neg c87] at H
               have c87b0 : (t119 == 0) = false := beq_eq_false_iff_ne.mpr c87
               have c87b1 : (t119 != 0) = true := bne_iff_ne.mpr c87
               (first | rw [c87b0] | (simp only [i64_w, i32_w]; rw [c87b0]) | skip)
               have H' := Aside0.mk H
               clear H
               go_wp2_with (first | ((with_reducible refine gate_callee (f := 43) rfl ?_); refine goesL_ (some 86) rfl rfl Try.func43 (by kernel_rfl) rfl #[.int .i64 t117] rfl (by (try simp only [List.map_toArray, List.map_cons, List.map_nil]); first | done | rfl | (simp only [List.length_drop, List.length_take]; rfl)) ?_; (with_reducible refine (telamonlaw1_num.calls t117 t119 _ A86.out).mono ?_); rintro e w' ⟨rfl, ⟨nd, rfl⟩⟩; refine ⟨_, rfl, ?_⟩))
               go_meet
               case rel => exact ⟨_, (false), (by first | rfl | (simp; done) | (simp [*]; done)), H', ⟨by have := HJ5.out; have := HK2.out; have := HJ45.out; have := HJ62.out; first | omega | exact Nat.le_refl _⟩, ⟨by (with_reducible repeat (first | apply Kd.R_alloc | apply Kd.R_drewN | apply Kd.R_drew)); exact Kd.R_mono (Kd.R_far (p := ⟨gb118, 1, none⟩) (Kd.R_far (p := ⟨gb118, 0, none⟩) (Kd.R_types HO116.out BK118.out (by decide)) (fun _ hk => hk.2) (.int .i64 t113)) (fun _ hk => hk.2) (.slice Ao85 t114.length co85)) (fun _ hk => trivial)⟩, ⟨by (with_reducible repeat (first | refine blk_drewN ?_ _ | refine blk_drew ?_ | refine blk_alloc ?_ _)); refine blk_far ?_ NB101_118.out _; (with_reducible repeat (first | refine blk_drewN ?_ _ | refine blk_drew ?_ | refine blk_alloc ?_ _)); refine blk_far ?_ NB101_118.out _; (with_reducible repeat (first | refine blk_drewN ?_ _ | refine blk_drew ?_ | refine blk_alloc ?_ _)); exact BK101.out⟩, ⟨by (with_reducible repeat (first | refine blk_drewN ?_ _ | refine blk_drew ?_ | refine blk_alloc ?_ _)); refine blk_far ?_ NB102_118.out _; (with_reducible repeat (first | refine blk_drewN ?_ _ | refine blk_drew ?_ | refine blk_alloc ?_ _)); refine blk_far ?_ NB102_118.out _; (with_reducible repeat (first | refine blk_drewN ?_ _ | refine blk_drew ?_ | refine blk_alloc ?_ _)); exact BK102.out⟩, ⟨by (with_reducible repeat (first | refine blk_drewN ?_ _ | refine blk_drew ?_ | refine blk_alloc ?_ _)); refine blk_put (cs := #[.int .i64 t113, .slice none 0 0]) ?_ 1 _ rfl; (with_reducible repeat (first | refine blk_drewN ?_ _ | refine blk_drew ?_ | refine blk_alloc ?_ _)); refine blk_put (cs := #[.int .i64 0, .slice none 0 0]) ?_ 0 _ rfl; (with_reducible repeat (first | refine blk_drewN ?_ _ | refine blk_drew ?_ | refine blk_alloc ?_ _)); exact BK118.out⟩, ⟨by repeat (first | (with_reducible first | exact HB.out | apply below_alloc | apply pw_below_drewN | apply below_drew1 | refine below_set ?_ GE101.out | refine below_set ?_ GE102.out | refine below_set ?_ GE118.out) | exact HB.out)⟩⟩
             case rest =>
              clear HC76
              (try clear c1); (try clear p1); (try clear q1); (try clear hx1); (try clear c2); (try clear p2); (try clear c3); (try clear c4); (try clear c5); (try clear c6); (try clear p6); (try clear c7); (try clear c8); (try clear c9); (try clear c10); (try clear p10); (try clear q10); (try clear hx10); (try clear c12); (try clear c13); (try clear c17); (try clear c18); (try clear c23); (try clear c23b0); (try clear c23b1); (try clear c24); (try clear c29); (try clear c29b0); (try clear c30); (try clear c35); (try clear c37); (try clear c40); (try clear c41); (try clear c41b0); (try clear c42); (try clear c42b0); (try clear c43); (try clear c43b0); (try clear c46); (try clear c47); (try clear c49); (try clear c50); (try clear c53); (try clear c53b0); (try clear c53b1); (try clear c57); (try clear c58); (try clear c62); (try clear p64); (try clear c65); (try clear c66); (try clear c70); (try clear c74); (try clear c77); (try clear c82); (try clear c83); (try clear c87); (try clear c87b0); (try clear c87b1); (try clear c90); (try clear c91); (try clear hcz14_0); (try clear hcz14_1); (try clear hcz19_0); (try clear hcz19_1); (try clear hcz21_0); (try clear hcz21_1); (try clear hcz25_0); (try clear hcz25_1); (try clear hcz27_0); (try clear hcz27_1); (try clear hcz31_0); (try clear hcz31_1); (try clear hcz33_0); (try clear hcz33_1); (try clear hcz36_0); (try clear hcz36_1); (try clear hcz38_0); (try clear hcz38_1); (try clear hcz48_0); (try clear hcz48_1); (try clear hcz50_0); (try clear hcz50_1); (try clear hcz67_0); (try clear hcz67_1); (try clear hcz68_0); (try clear hcz68_1); (try clear hcz71_0); (try clear hcz71_1); (try clear hcz72_0); (try clear hcz72_1); (try clear hcz78_0); (try clear hcz78_1); (try clear hcz79_0); (try clear hcz79_1); (try clear hcz84_0); (try clear hcz84_1); (try clear hcz92_0); (try clear hcz92_1); (try clear hfz14_0); (try clear hfz14_1); (try clear hfz19_0); (try clear hfz19_1); (try clear hfz21_0); (try clear hfz21_1); (try clear hfz25_0); (try clear hfz25_1); (try clear hfz27_0); (try clear hfz27_1); (try clear hfz31_0); (try clear hfz31_1); (try clear hfz33_0); (try clear hfz33_1); (try clear hfz36_0); (try clear hfz36_1); (try clear hfz38_0); (try clear hfz38_1); (try clear hfz48_0); (try clear hfz48_1); (try clear hfz50_0); (try clear hfz50_1); (try clear hfz67_0); (try clear hfz67_1); (try clear hfz68_0); (try clear hfz68_1); (try clear hfz71_0); (try clear hfz71_1); (try clear hfz72_0); (try clear hfz72_1); (try clear hfz78_0); (try clear hfz78_1); (try clear hfz79_0); (try clear hfz79_1); (try clear hfz84_0); (try clear hfz84_1); (try clear hfz92_0); (try clear hfz92_1); (try clear hx106_0); (try clear p1); (try clear p10); (try clear p106); (try clear p2); (try clear p6); (try clear p64); (try clear q1); (try clear q10); (try clear q106)
              obtain ⟨kq, x96_75, rfl, HA, HJ75, HO_119001, BK101, BK102, BK118, HB⟩ := hcut
              cases kq with
              | zero => exact absurd HA.out (by simp [telamonlaw1_LevelValues.j4])
              | succ kj75 =>
               have H := HA.out
               clear HA
               simp only [telamonlaw1_LevelValues.j4] at H
               by_cases c94 : x96_75 = true
               ·subst c94
                have H1 : (some false) = some r := by rw [if_pos rfl] at H; exact H
                clear H
                have H := H1
                clear H1
                obtain rfl := Option.some.inj H
                exact absurd hrt.out (by decide)
               ·replace c94 := Bool.eq_false_iff.mpr c94
                subst c94
                have H1 : ((level_Suc.f kj75 a0_0 l0_1 a2).bind fun bt122 => ((telamonlaw1_num.f bt122.2.2).bind fun t128 => (if t128 = 0 then ((level_Eval.f kj75 bt122.1 bt122.2.1 l3).bind fun t129 => (some (t129 == (wrap64 (t107 + a2))))) else (some true)))) = some r := by rw [if_neg (show ¬ (false = true) by decide)] at H; exact H
                clear H
                have H := H1
                clear H1
                replace H := Option.bind_eq_some_iff.mp H
                obtain ⟨⟨t122, t123, t126⟩, A950, H⟩ := H
                replace H : ((telamonlaw1_num.f t126).bind fun t128 => (if t128 = 0 then ((level_Eval.f kj75 t122 t123 l3).bind fun t129 => (some (t129 == (wrap64 (t107 + a2))))) else (some true))) = some r := H
                have A95 := Aside0.mk A950
                clear A950
                replace H := Option.bind_eq_some_iff.mp H
                obtain ⟨t128, A960, H⟩ := H
                replace H : (if t128 = 0 then ((level_Eval.f kj75 t122 t123 l3).bind fun t129 => (some (t129 == (wrap64 (t107 + a2))))) else (some true)) = some r := H
                have A96 := Aside0.mk A960
                clear A960
                by_cases c97 : t128 = 0
                ·rw [if_pos c97] at H
                 have c97b0 : (t128 == 0) = true := beq_iff_eq.mpr c97
                 have c97b1 : (t128 != 0) = false := bne_eq_false_iff_eq.mpr c97
                 clear c97
                 replace H := Option.bind_eq_some_iff.mp H
                 obtain ⟨t129, A980, H⟩ := H
                 replace H : (some (t129 == (wrap64 (t107 + a2)))) = some r := H
                 have A98 := Aside0.mk A980
                 clear A980
                 obtain rfl := Option.some.inj H
                 have hnb99 := NB101_102.out
                 have hnc99 := NB102_101.out
                 have hnb100 := NB101_118.out
                 have hnc100 := NB118_101.out
                 have hcz101_0 : wc.cell? ⟨gb101, 0, none⟩ = some (.int .i64 a0_0) := (blk_cell BK101.out 0).trans rfl
                 have hcz101_1 : wc.cell? ⟨gb101, 1, none⟩ = some (.slice A0_1 l0_1.length c0_1) := (blk_cell BK101.out 1).trans rfl
                 have hfz101_0 := blk_frozen BK101.out 0
                 have hfz101_1 := blk_frozen BK101.out 1
                 go_wp2_with (first | ((with_reducible refine gate_callee (f := 45) rfl ?_); refine goesL_ (some 100) rfl rfl Try.func45 (by kernel_rfl) rfl #[.agg #[.int .i64 a0_0, .slice A0_1 l0_1.length c0_1], .int .i64 a2] rfl (by (try simp only [List.map_toArray, List.map_cons, List.map_nil]); first | done | rfl | (simp only [List.length_drop, List.length_take]; rfl)) ?_; (with_reducible refine (level_Suc.calls kj75 a0_0 _ _ l0_1 a2 t122 t123 t126 _ ?side1 ?side2 A95.out).mono ?_); (case side1 => repeat (first | exact (Kd.C_below HR0_1.out HB.out) | (with_reducible refine Kd.C_alloc ?_ _) | (with_reducible refine Kd.C_drewN ?_ _) | (with_reducible refine Kd.C_drew ?_))); (case side2 => exact HC0_1.out); rintro e w102 ⟨v124, rfl, ho0, hb⟩; refine ⟨_, rfl, ?_⟩; have HO125 := Aside0.mk (Kd.R_lower (Kd.R_new' ho0 (Kd.R_lt (rl_ HO_119001))) (below_size (bl_ HB))); replace HO_119001 := Aside0.mk (Kd.R_elder' (rl_ HO_119001) (Kd.R_base ho0) hb); replace BK101 := bb_ BK101 hb; replace BK102 := bb_ BK102 hb; replace BK118 := bb_ BK118 hb; replace HB := hs_ HB hb; (try clear hb); (try clear hb2); (try clear hk); (try clear hi); (try clear ho0)) | ((with_reducible refine gate_dst (N := 15) rfl ?_); (try (refine gate_guard (by rfl) ?_; dsimp only)); refine box_event ?hg (N := 15) ?hd (cs := #[.int .i64 0, .slice none 0 0]) (t := 43) ?hr ?_; (case hd => rfl); (case hg => rfl); (case hr => first | (go_simp; done) | (go_simp; rfl)); intro gb127 hg w103 hbox hb; have BK127 := Aside0.mk (hbox); have GW127 := Aside0.mk ((bs_ hg HB : w.heap.size ≤ gb127)); have GE127 := Aside0.mk ((bs_ hg HB : w.heap.size ≤ gb127)); have NB101_127 := Aside0.mk ((nl_ hg BK101 : gb101 ≠ gb127)); have NB127_101 := Aside0.mk ((ng_ hg BK101 : gb127 ≠ gb101)); have NB102_127 := Aside0.mk ((nl_ hg BK102 : gb102 ≠ gb127)); have NB127_102 := Aside0.mk ((ng_ hg BK102 : gb127 ≠ gb102)); have NB118_127 := Aside0.mk ((nl_ hg BK118 : gb118 ≠ gb127)); have NB127_118 := Aside0.mk ((ng_ hg BK118 : gb127 ≠ gb118)); replace HO_119001 := Aside0.mk (Kd.R_below (rl_ HO_119001) hb); replace HO125 := Aside0.mk (Kd.R_below (rl_ HO125) hb); replace BK101 := bb_ BK101 hb; replace BK102 := bb_ BK102 hb; replace BK118 := bb_ BK118 hb; replace HB := hs_ HB hb; clear hb hbox hg; have hnb104 := NB127_101.out; have hnc104 := NB101_127.out; have hnb105 := NB127_102.out; have hnc105 := NB102_127.out; have hnb106 := NB127_118.out; have hnc106 := NB118_127.out; have hcz107_0 : w103.cell? ⟨gb127, 0, none⟩ = some (.int .i64 0) := (blk_cell BK127.out 0).trans rfl; have hcz107_1 : w103.cell? ⟨gb127, 1, none⟩ = some (.slice none 0 0) := (blk_cell BK127.out 1).trans rfl; have hfz107_0 := blk_frozen BK127.out 0; have hfz107_1 := blk_frozen BK127.out 1; obtain ⟨Ao108, co108, eo108⟩ := Kd.R_slice HO125.out; subst eo108) | ((with_reducible refine gate_callee (f := 43) rfl ?_); refine goesL_ (some 104) rfl rfl Try.func43 (by kernel_rfl) rfl #[.int .i64 t126] rfl (by (try simp only [List.map_toArray, List.map_cons, List.map_nil]); first | done | rfl | (simp only [List.length_drop, List.length_take]; rfl)) ?_; (with_reducible refine (telamonlaw1_num.calls t126 t128 _ A96.out).mono ?_); rintro e w' ⟨rfl, ⟨nd, rfl⟩⟩; refine ⟨_, rfl, ?_⟩) | (go_at_call 53; (with_reducible refine (level_Eval.calls kj75 t122 _ _ t123 _ _ l3 t129 _ ?side1 ?side2 ?side3 ?side4 A98.out).mono ?_); (case side1 => refine (Kd.R_reads' (e := 62) (base := w.heap.size) (ok := fun k_ => (True ∧ some k_ ≠ (.slice Ao85 t114.length co85 : Value).ownBlock)) (n := t123.length) (c := co108) ?_).2.2; exact (by (with_reducible repeat (first | apply Kd.R_alloc | apply Kd.R_drewN | apply Kd.R_drew)); exact (Kd.R_mono (Kd.R_far (p := ⟨gb127, 1, none⟩) (Kd.R_far (p := ⟨gb127, 0, none⟩) (Kd.R_types HO125.out BK127.out (by decide)) (fun _ hk => hk.2) (.int .i64 t122)) (fun _ hk => hk.2) (.slice Ao108 t123.length co108)) (fun _ h_ => h_.1)))); (case side2 => exact (Kd.R_reads' HO125.out).2.1); (case side3 => exact Kd.C_below HR3.out (bl_ HB)); (case side4 => exact HC3.out); rintro e w109 ⟨rfl, hb⟩; replace HO_119001 := Aside0.mk (Kd.R_below (by (with_reducible repeat (first | apply Kd.R_alloc | apply Kd.R_drewN | apply Kd.R_drew)); exact (Kd.R_mono (Kd.R_far (p := ⟨gb127, 1, none⟩) (Kd.R_far (p := ⟨gb127, 0, none⟩) (Kd.R_types HO_119001.out BK127.out (by decide)) (fun _ hk => hk.2) (.int .i64 t122)) (fun _ hk => hk.2) (.slice Ao108 t123.length co108)) (fun _ h_ => h_.1))) hb); replace HO125 := Aside0.mk (Kd.R_below (by (with_reducible repeat (first | apply Kd.R_alloc | apply Kd.R_drewN | apply Kd.R_drew)); exact (Kd.R_mono (Kd.R_far (p := ⟨gb127, 1, none⟩) (Kd.R_far (p := ⟨gb127, 0, none⟩) (Kd.R_types HO125.out BK127.out (by decide)) (fun _ hk => hk.2) (.int .i64 t122)) (fun _ hk => hk.2) (.slice Ao108 t123.length co108)) (fun _ h_ => h_.1))) hb); replace BK101 := Aside0.mk (blk_below (pf_ BK101) hb); replace BK102 := Aside0.mk (blk_below (pf_ BK102) hb); replace BK118 := Aside0.mk (blk_below (pf_ BK118) hb); replace BK127 := Aside0.mk (blk_below (g := gb127) (o := .cells #[.int .i64 t122, .slice Ao108 t123.length co108] 43 (0, 0)) (by (with_reducible repeat (first | refine blk_drewN ?_ _ | refine blk_drew ?_ | refine blk_alloc ?_ _)); refine blk_put (cs := #[.int .i64 t122, .slice none 0 0]) ?_ 1 _ rfl; (with_reducible repeat (first | refine blk_drewN ?_ _ | refine blk_drew ?_ | refine blk_alloc ?_ _)); refine blk_put (cs := #[.int .i64 0, .slice none 0 0]) ?_ 0 _ rfl; (with_reducible repeat (first | refine blk_drewN ?_ _ | refine blk_drew ?_ | refine blk_alloc ?_ _)); exact BK127.out) hb); replace HB := hs_ HB hb; (try clear hb); (try clear hb2); (try clear hk); (try clear hi)))
                 go_ret
                 exact ⟨by first | rfl | (simp [errW_none, errW_some] <;> rfl) | (simp [*, errW_none, errW_some] <;> rfl), by repeat (first | (with_reducible first | exact HB.out | apply below_alloc | apply pw_below_drewN | apply below_drew1 | refine below_set ?_ GE101.out | refine below_set ?_ GE102.out | refine below_set ?_ GE118.out | refine below_set ?_ GE127.out) | exact HB.out)⟩
                ·rw [if_neg c97] at H
                 have c97b0 : (t128 == 0) = false := beq_eq_false_iff_ne.mpr c97
                 have c97b1 : (t128 != 0) = true := bne_iff_ne.mpr c97
                 obtain rfl := Option.some.inj H
                 have hnb110 := NB101_102.out
                 have hnc110 := NB102_101.out
                 have hnb111 := NB101_118.out
                 have hnc111 := NB118_101.out
                 have hcz112_0 : wc.cell? ⟨gb101, 0, none⟩ = some (.int .i64 a0_0) := (blk_cell BK101.out 0).trans rfl
                 have hcz112_1 : wc.cell? ⟨gb101, 1, none⟩ = some (.slice A0_1 l0_1.length c0_1) := (blk_cell BK101.out 1).trans rfl
                 have hfz112_0 := blk_frozen BK101.out 0
                 have hfz112_1 := blk_frozen BK101.out 1
                 go_wp2_with (first | ((with_reducible refine gate_callee (f := 45) rfl ?_); refine goesL_ (some 100) rfl rfl Try.func45 (by kernel_rfl) rfl #[.agg #[.int .i64 a0_0, .slice A0_1 l0_1.length c0_1], .int .i64 a2] rfl (by (try simp only [List.map_toArray, List.map_cons, List.map_nil]); first | done | rfl | (simp only [List.length_drop, List.length_take]; rfl)) ?_; (with_reducible refine (level_Suc.calls kj75 a0_0 _ _ l0_1 a2 t122 t123 t126 _ ?side1 ?side2 A95.out).mono ?_); (case side1 => repeat (first | exact (Kd.C_below HR0_1.out HB.out) | (with_reducible refine Kd.C_alloc ?_ _) | (with_reducible refine Kd.C_drewN ?_ _) | (with_reducible refine Kd.C_drew ?_))); (case side2 => exact HC0_1.out); rintro e w113 ⟨v124, rfl, ho0, hb⟩; refine ⟨_, rfl, ?_⟩; have HO125 := Aside0.mk (Kd.R_lower (Kd.R_new' ho0 (Kd.R_lt (rl_ HO_119001))) (below_size (bl_ HB))); replace HO_119001 := Aside0.mk (Kd.R_elder' (rl_ HO_119001) (Kd.R_base ho0) hb); replace BK101 := bb_ BK101 hb; replace BK102 := bb_ BK102 hb; replace BK118 := bb_ BK118 hb; replace HB := hs_ HB hb; (try clear hb); (try clear hb2); (try clear hk); (try clear hi); (try clear ho0)) | ((with_reducible refine gate_dst (N := 15) rfl ?_); (try (refine gate_guard (by rfl) ?_; dsimp only)); refine box_event ?hg (N := 15) ?hd (cs := #[.int .i64 0, .slice none 0 0]) (t := 43) ?hr ?_; (case hd => rfl); (case hg => rfl); (case hr => first | (go_simp; done) | (go_simp; rfl)); intro gb127 hg w114 hbox hb; have BK127 := Aside0.mk (hbox); have GW127 := Aside0.mk ((bs_ hg HB : w.heap.size ≤ gb127)); have GE127 := Aside0.mk ((bs_ hg HB : w.heap.size ≤ gb127)); have NB101_127 := Aside0.mk ((nl_ hg BK101 : gb101 ≠ gb127)); have NB127_101 := Aside0.mk ((ng_ hg BK101 : gb127 ≠ gb101)); have NB102_127 := Aside0.mk ((nl_ hg BK102 : gb102 ≠ gb127)); have NB127_102 := Aside0.mk ((ng_ hg BK102 : gb127 ≠ gb102)); have NB118_127 := Aside0.mk ((nl_ hg BK118 : gb118 ≠ gb127)); have NB127_118 := Aside0.mk ((ng_ hg BK118 : gb127 ≠ gb118)); replace HO_119001 := Aside0.mk (Kd.R_below (rl_ HO_119001) hb); replace HO125 := Aside0.mk (Kd.R_below (rl_ HO125) hb); replace BK101 := bb_ BK101 hb; replace BK102 := bb_ BK102 hb; replace BK118 := bb_ BK118 hb; replace HB := hs_ HB hb; clear hb hbox hg; have hnb115 := NB127_101.out; have hnc115 := NB101_127.out; have hnb116 := NB127_102.out; have hnc116 := NB102_127.out; have hnb117 := NB127_118.out; have hnc117 := NB118_127.out; have hcz118_0 : w114.cell? ⟨gb127, 0, none⟩ = some (.int .i64 0) := (blk_cell BK127.out 0).trans rfl; have hcz118_1 : w114.cell? ⟨gb127, 1, none⟩ = some (.slice none 0 0) := (blk_cell BK127.out 1).trans rfl; have hfz118_0 := blk_frozen BK127.out 0; have hfz118_1 := blk_frozen BK127.out 1; obtain ⟨Ao119, co119, eo119⟩ := Kd.R_slice HO125.out; subst eo119) | ((with_reducible refine gate_callee (f := 43) rfl ?_); refine goesL_ (some 104) rfl rfl Try.func43 (by kernel_rfl) rfl #[.int .i64 t126] rfl (by (try simp only [List.map_toArray, List.map_cons, List.map_nil]); first | done | rfl | (simp only [List.length_drop, List.length_take]; rfl)) ?_; (with_reducible refine (telamonlaw1_num.calls t126 t128 _ A96.out).mono ?_); rintro e w' ⟨rfl, ⟨nd, rfl⟩⟩; refine ⟨_, rfl, ?_⟩))
                 go_ret
                 exact ⟨by first | rfl | (simp [errW_none, errW_some] <;> rfl) | (simp [*, errW_none, errW_some] <;> rfl), by repeat (first | (with_reducible first | exact HB.out | apply below_alloc | apply pw_below_drewN | apply below_drew1 | refine below_set ?_ GE101.out | refine below_set ?_ GE102.out | refine below_set ?_ GE118.out | refine below_set ?_ GE127.out) | exact HB.out)⟩

end Go.Proofs.Ytbopadglafbdjaa.PX
