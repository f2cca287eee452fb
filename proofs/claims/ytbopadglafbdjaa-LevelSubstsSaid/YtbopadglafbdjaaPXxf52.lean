-- by wip/tools/gprint.py of this session over the kit's print; given functions are this session's own text
import Derived.Test.YtbopadglafbdjaaPXx0
import Derived.Test.YtbopadglafbdjaaPXxf75
import Derived.Test.YtbopadglafbdjaaPXxf76
import Derived.Test.YtbopadglafbdjaaPXxf41
import Derived.Test.YtbopadglafbdjaaPXxf82
namespace Go.Proofs.Ytbopadglafbdjaa.PX
open Go.RowKit Go.Proofs.YtbopadglafbdjaaW.PrintWords Go.Proofs.YtbopadglafbdjaaW.PrintLast Go.Proofs.YtbopadglafbdjaaW.PrintMore
attribute [local go_sem] max2_int min2_int max_two min_two max_three min_three max_four min_four   -- for this text's walks alone
set_option linter.unusedVariables false
set_option linter.unusedSimpArgs false

/-! ### telamonref1_SubstLevel: function 52 -/
mutual
def telamonref1_SubstLevel.l0 : Nat → List (S43) → Int → Int → List (S62) → Option (Int × (List (S62)) × Int)
 | 0, _, _, _, _ => none
 | k + 1, x1, x7, x102000, x102001 => if x7 < (x1.length : Int) then (if 0 ≤ x7 then ((telamonref1_right.f k ((rd_T43 x1 x7).f0) ((rd_T43 x1 x7).f1)).bind fun t109 => (if t109 = true then (telamonref1_SubstLevel.l0 k x1 (wrap64 (x7 + 1)) x102000 x102001) else (some (0, ([] : List (S62)), 13)))) else (none)) else (telamonref1_SubstLevel.l1 k x1 0 x102000 x102001 x102000 ([] : List (S62)))
def telamonref1_SubstLevel.l1 : Nat → List (S43) → Int → Int → List (S62) → Int → List (S62) → Option (Int × (List (S62)) × Int)
 | 0, _, _, _, _, _, _ => none
 | k + 1, x1, x10, x102000, x102001, x111000, x111001 => if x10 < (x102001.length : Int) then (if 0 ≤ x10 then (if ((rd_T62 x102001 x10).f0) ≥ (x1.length : Int) then (some (0, ([] : List (S62)), 13)) else (if 0 ≤ ((rd_T62 x102001 x10).f0) then (if ((rd_T62 x102001 x10).f0) < (x1.length : Int) then ((telamonref1_tidy.f k ((rd_T43 x1 ((rd_T62 x102001 x10).f0)).f0) ((rd_T43 x1 ((rd_T62 x102001 x10).f0)).f1)).bind fun bt119 => (if (wrap64 (bt119.1 + ((rd_T62 x102001 x10).f1))) > x111000 then (if bt119.1 > 0 then (telamonref1_SubstLevel.j2 k x1 x10 true x102000 x102001 x111000 x111001 ((rd_T62 x102001 x10).f0) ((rd_T62 x102001 x10).f1) bt119.1 bt119.2) else (telamonref1_SubstLevel.j2 k x1 x10 ((bt119.2.length : Int) == 0) x102000 x102001 x111000 x111001 ((rd_T62 x102001 x10).f0) ((rd_T62 x102001 x10).f1) bt119.1 bt119.2)) else (telamonref1_SubstLevel.j2 k x1 x10 false x102000 x102001 x111000 x111001 ((rd_T62 x102001 x10).f0) ((rd_T62 x102001 x10).f1) bt119.1 bt119.2))) else (none)) else (none))) else (none)) else ((telamonref1_fits.f k x111000 x111001).bind fun bt111 => (some (bt111.1, bt111.2.1, bt111.2.2)))
def telamonref1_SubstLevel.j2 : Nat → List (S43) → Int → Bool → Int → List (S62) → Int → List (S62) → Int → Int → Int → List (S62) → Option (Int × (List (S62)) × Int)
 | 0, _, _, _, _, _, _, _, _, _, _, _ => none
 | k + 1, x1, x10, x81, x102000, x102001, x111000, x111001, x118000, x118001, x124000, x124001 => if x81 = true then (telamonref1_SubstLevel.j3 k x1 x10 x102000 x102001 (wrap64 (x124000 + x118001)) x111001 x118000 x118001 x124000 x124001) else (telamonref1_SubstLevel.j3 k x1 x10 x102000 x102001 x111000 x111001 x118000 x118001 x124000 x124001)
def telamonref1_SubstLevel.j3 : Nat → List (S43) → Int → Int → List (S62) → Int → List (S62) → Int → Int → Int → List (S62) → Option (Int × (List (S62)) × Int)
 | 0, _, _, _, _, _, _, _, _, _, _ => none
 | k + 1, x1, x10, x102000, x102001, x111000, x111001, x118000, x118001, x124000, x124001 => telamonref1_SubstLevel.l2 k x1 x10 0 x102000 x102001 x111000 x111001 x118000 x118001 x124000 x124001
def telamonref1_SubstLevel.l2 : Nat → List (S43) → Int → Int → Int → List (S62) → Int → List (S62) → Int → Int → Int → List (S62) → Option (Int × (List (S62)) × Int)
 | 0, _, _, _, _, _, _, _, _, _, _, _ => none
 | k + 1, x1, x10, x13, x102000, x102001, x111000, x111001, x118000, x118001, x124000, x124001 => if x13 < (x124001.length : Int) then (if 0 ≤ x13 then (if x111001.length < 8796093022208 then (telamonref1_SubstLevel.l2 k x1 x10 (wrap64 (x13 + 1)) x102000 x102001 x111000 (x111001 ++ [(⟨(rd_T62 x124001 x13).f0, wrap64 (((rd_T62 x124001 x13).f1) + x118001)⟩ : S62)]) x118000 x118001 x124000 x124001) else (none)) else (none)) else (telamonref1_SubstLevel.l1 k x1 (wrap64 (x10 + 1)) x102000 x102001 x111000 x111001)
end
def telamonref1_SubstLevel.f (k : Nat) (a0_0 : Int) (l0_1 : List (S62)) (l1 : List (S43)) : Option (Int × (List (S62)) × Int) := (telamonref1_Norm.f k a0_0 l0_1).bind fun bt103 => (if bt103.2.2 = 0 then (telamonref1_SubstLevel.l0 k l1 0 bt103.1 bt103.2.1) else (some (0, ([] : List (S62)), 13)))
theorem telamonref1_SubstLevel.mono_l : ∀ k, (∀ y0 y1 y2 y3, LeO (telamonref1_SubstLevel.l0 k y0 y1 y2 y3) (telamonref1_SubstLevel.l0 (k + 1) y0 y1 y2 y3)) ∧ (∀ y0 y1 y2 y3 y4 y5, LeO (telamonref1_SubstLevel.l1 k y0 y1 y2 y3 y4 y5) (telamonref1_SubstLevel.l1 (k + 1) y0 y1 y2 y3 y4 y5)) ∧ (∀ y0 y1 y2 y3 y4 y5 y6 y7 y8 y9 y10, LeO (telamonref1_SubstLevel.j2 k y0 y1 y2 y3 y4 y5 y6 y7 y8 y9 y10) (telamonref1_SubstLevel.j2 (k + 1) y0 y1 y2 y3 y4 y5 y6 y7 y8 y9 y10)) ∧ (∀ y0 y1 y2 y3 y4 y5 y6 y7 y8 y9, LeO (telamonref1_SubstLevel.j3 k y0 y1 y2 y3 y4 y5 y6 y7 y8 y9) (telamonref1_SubstLevel.j3 (k + 1) y0 y1 y2 y3 y4 y5 y6 y7 y8 y9)) ∧ (∀ y0 y1 y2 y3 y4 y5 y6 y7 y8 y9 y10, LeO (telamonref1_SubstLevel.l2 k y0 y1 y2 y3 y4 y5 y6 y7 y8 y9 y10) (telamonref1_SubstLevel.l2 (k + 1) y0 y1 y2 y3 y4 y5 y6 y7 y8 y9 y10))
 | 0 => ⟨fun _ _ _ _ r h => by simp [telamonref1_SubstLevel.l0] at h, fun _ _ _ _ _ _ r h => by simp [telamonref1_SubstLevel.l1] at h, fun _ _ _ _ _ _ _ _ _ _ _ r h => by simp [telamonref1_SubstLevel.j2] at h, fun _ _ _ _ _ _ _ _ _ _ r h => by simp [telamonref1_SubstLevel.j3] at h, fun _ _ _ _ _ _ _ _ _ _ _ r h => by simp [telamonref1_SubstLevel.l2] at h⟩
 | k + 1 => by
  obtain ⟨ih0, ih1, ih2, ih3, ih4⟩ := telamonref1_SubstLevel.mono_l k
  refine ⟨?_, ?_, ?_, ?_, ?_⟩
  ·intro y0 y1 y2 y3
   unfold telamonref1_SubstLevel.l0
   repeat' first
   | (with_reducible exact ih0 _ _ _ _)
   | (with_reducible exact ih1 _ _ _ _ _ _)
   | (with_reducible exact ih2 _ _ _ _ _ _ _ _ _ _ _)
   | (with_reducible exact ih3 _ _ _ _ _ _ _ _ _ _)
   | (with_reducible exact ih4 _ _ _ _ _ _ _ _ _ _ _)
   | (with_reducible exact telamonref1_Norm.mono _ _ _)
   | (with_reducible exact telamonref1_fits.mono _ _ _)
   | (with_reducible exact telamonref1_right.mono _ _ _)
   | (with_reducible exact telamonref1_tidy.mono _ _ _)
   | (with_reducible exact LeO.refl _)
   | (with_reducible exact LeO.none _)
   | (with_reducible refine LeO.ite ?_ ?_)
   | (with_reducible refine LeO.bind ?_ (fun _ => ?_))
   | exact ih0 _ _ _ _
   | exact ih1 _ _ _ _ _ _
   | exact ih2 _ _ _ _ _ _ _ _ _ _ _
   | exact ih3 _ _ _ _ _ _ _ _ _ _
   | exact ih4 _ _ _ _ _ _ _ _ _ _ _
   | exact telamonref1_Norm.mono _ _ _
   | exact telamonref1_fits.mono _ _ _
   | exact telamonref1_right.mono _ _ _
   | exact telamonref1_tidy.mono _ _ _
   | exact LeO.none _
   | refine LeO.ite ?_ ?_
   | refine LeO.bind ?_ (fun _ => ?_)
  ·intro y0 y1 y2 y3 y4 y5
   unfold telamonref1_SubstLevel.l1
   repeat' first
   | (with_reducible exact ih0 _ _ _ _)
   | (with_reducible exact ih1 _ _ _ _ _ _)
   | (with_reducible exact ih2 _ _ _ _ _ _ _ _ _ _ _)
   | (with_reducible exact ih3 _ _ _ _ _ _ _ _ _ _)
   | (with_reducible exact ih4 _ _ _ _ _ _ _ _ _ _ _)
   | (with_reducible exact telamonref1_Norm.mono _ _ _)
   | (with_reducible exact telamonref1_fits.mono _ _ _)
   | (with_reducible exact telamonref1_right.mono _ _ _)
   | (with_reducible exact telamonref1_tidy.mono _ _ _)
   | (with_reducible exact LeO.refl _)
   | (with_reducible exact LeO.none _)
   | (with_reducible refine LeO.ite ?_ ?_)
   | (with_reducible refine LeO.bind ?_ (fun _ => ?_))
   | exact ih0 _ _ _ _
   | exact ih1 _ _ _ _ _ _
   | exact ih2 _ _ _ _ _ _ _ _ _ _ _
   | exact ih3 _ _ _ _ _ _ _ _ _ _
   | exact ih4 _ _ _ _ _ _ _ _ _ _ _
   | exact telamonref1_Norm.mono _ _ _
   | exact telamonref1_fits.mono _ _ _
   | exact telamonref1_right.mono _ _ _
   | exact telamonref1_tidy.mono _ _ _
   | exact LeO.none _
   | refine LeO.ite ?_ ?_
   | refine LeO.bind ?_ (fun _ => ?_)
  ·intro y0 y1 y2 y3 y4 y5 y6 y7 y8 y9 y10
   unfold telamonref1_SubstLevel.j2
   repeat' first
   | (with_reducible exact ih0 _ _ _ _)
   | (with_reducible exact ih1 _ _ _ _ _ _)
   | (with_reducible exact ih2 _ _ _ _ _ _ _ _ _ _ _)
   | (with_reducible exact ih3 _ _ _ _ _ _ _ _ _ _)
   | (with_reducible exact ih4 _ _ _ _ _ _ _ _ _ _ _)
   | (with_reducible exact telamonref1_Norm.mono _ _ _)
   | (with_reducible exact telamonref1_fits.mono _ _ _)
   | (with_reducible exact telamonref1_right.mono _ _ _)
   | (with_reducible exact telamonref1_tidy.mono _ _ _)
   | (with_reducible exact LeO.refl _)
   | (with_reducible exact LeO.none _)
   | (with_reducible refine LeO.ite ?_ ?_)
   | (with_reducible refine LeO.bind ?_ (fun _ => ?_))
   | exact ih0 _ _ _ _
   | exact ih1 _ _ _ _ _ _
   | exact ih2 _ _ _ _ _ _ _ _ _ _ _
   | exact ih3 _ _ _ _ _ _ _ _ _ _
   | exact ih4 _ _ _ _ _ _ _ _ _ _ _
   | exact telamonref1_Norm.mono _ _ _
   | exact telamonref1_fits.mono _ _ _
   | exact telamonref1_right.mono _ _ _
   | exact telamonref1_tidy.mono _ _ _
   | exact LeO.none _
   | refine LeO.ite ?_ ?_
   | refine LeO.bind ?_ (fun _ => ?_)
  ·intro y0 y1 y2 y3 y4 y5 y6 y7 y8 y9
   unfold telamonref1_SubstLevel.j3
   repeat' first
   | (with_reducible exact ih0 _ _ _ _)
   | (with_reducible exact ih1 _ _ _ _ _ _)
   | (with_reducible exact ih2 _ _ _ _ _ _ _ _ _ _ _)
   | (with_reducible exact ih3 _ _ _ _ _ _ _ _ _ _)
   | (with_reducible exact ih4 _ _ _ _ _ _ _ _ _ _ _)
   | (with_reducible exact telamonref1_Norm.mono _ _ _)
   | (with_reducible exact telamonref1_fits.mono _ _ _)
   | (with_reducible exact telamonref1_right.mono _ _ _)
   | (with_reducible exact telamonref1_tidy.mono _ _ _)
   | (with_reducible exact LeO.refl _)
   | (with_reducible exact LeO.none _)
   | (with_reducible refine LeO.ite ?_ ?_)
   | (with_reducible refine LeO.bind ?_ (fun _ => ?_))
   | exact ih0 _ _ _ _
   | exact ih1 _ _ _ _ _ _
   | exact ih2 _ _ _ _ _ _ _ _ _ _ _
   | exact ih3 _ _ _ _ _ _ _ _ _ _
   | exact ih4 _ _ _ _ _ _ _ _ _ _ _
   | exact telamonref1_Norm.mono _ _ _
   | exact telamonref1_fits.mono _ _ _
   | exact telamonref1_right.mono _ _ _
   | exact telamonref1_tidy.mono _ _ _
   | exact LeO.none _
   | refine LeO.ite ?_ ?_
   | refine LeO.bind ?_ (fun _ => ?_)
  ·intro y0 y1 y2 y3 y4 y5 y6 y7 y8 y9 y10
   unfold telamonref1_SubstLevel.l2
   repeat' first
   | (with_reducible exact ih0 _ _ _ _)
   | (with_reducible exact ih1 _ _ _ _ _ _)
   | (with_reducible exact ih2 _ _ _ _ _ _ _ _ _ _ _)
   | (with_reducible exact ih3 _ _ _ _ _ _ _ _ _ _)
   | (with_reducible exact ih4 _ _ _ _ _ _ _ _ _ _ _)
   | (with_reducible exact telamonref1_Norm.mono _ _ _)
   | (with_reducible exact telamonref1_fits.mono _ _ _)
   | (with_reducible exact telamonref1_right.mono _ _ _)
   | (with_reducible exact telamonref1_tidy.mono _ _ _)
   | (with_reducible exact LeO.refl _)
   | (with_reducible exact LeO.none _)
   | (with_reducible refine LeO.ite ?_ ?_)
   | (with_reducible refine LeO.bind ?_ (fun _ => ?_))
   | exact ih0 _ _ _ _
   | exact ih1 _ _ _ _ _ _
   | exact ih2 _ _ _ _ _ _ _ _ _ _ _
   | exact ih3 _ _ _ _ _ _ _ _ _ _
   | exact ih4 _ _ _ _ _ _ _ _ _ _ _
   | exact telamonref1_Norm.mono _ _ _
   | exact telamonref1_fits.mono _ _ _
   | exact telamonref1_right.mono _ _ _
   | exact telamonref1_tidy.mono _ _ _
   | exact LeO.none _
   | refine LeO.ite ?_ ?_
   | refine LeO.bind ?_ (fun _ => ?_)
theorem telamonref1_SubstLevel.mono : ∀ a0 a1 a2 k, LeO (telamonref1_SubstLevel.f k a0 a1 a2) (telamonref1_SubstLevel.f (k + 1) a0 a1 a2) := by
 intro a0 a1 a2 k
 obtain ⟨ih0, ih1, ih2, ih3, ih4⟩ := telamonref1_SubstLevel.mono_l k
 unfold telamonref1_SubstLevel.f
 repeat' first
   | (with_reducible exact ih0 _ _ _ _)
   | (with_reducible exact ih1 _ _ _ _ _ _)
   | (with_reducible exact ih2 _ _ _ _ _ _ _ _ _ _ _)
   | (with_reducible exact ih3 _ _ _ _ _ _ _ _ _ _)
   | (with_reducible exact ih4 _ _ _ _ _ _ _ _ _ _ _)
   | (with_reducible exact telamonref1_Norm.mono _ _ _)
   | (with_reducible exact telamonref1_fits.mono _ _ _)
   | (with_reducible exact telamonref1_right.mono _ _ _)
   | (with_reducible exact telamonref1_tidy.mono _ _ _)
   | (with_reducible exact LeO.refl _)
   | (with_reducible exact LeO.none _)
   | (with_reducible refine LeO.ite ?_ ?_)
   | (with_reducible refine LeO.bind ?_ (fun _ => ?_))
   | exact ih0 _ _ _ _
   | exact ih1 _ _ _ _ _ _
   | exact ih2 _ _ _ _ _ _ _ _ _ _ _
   | exact ih3 _ _ _ _ _ _ _ _ _ _
   | exact ih4 _ _ _ _ _ _ _ _ _ _ _
   | exact telamonref1_Norm.mono _ _ _
   | exact telamonref1_fits.mono _ _ _
   | exact telamonref1_right.mono _ _ _
   | exact telamonref1_tidy.mono _ _ _
   | exact LeO.none _
   | refine LeO.ite ?_ ?_
   | refine LeO.bind ?_ (fun _ => ?_)
def telamonref1_SubstLevel.T23 : Bool × List (List Nat × List Nat) := (true, [([], []), ([0], [0]), ([], []), ([2], [2]), ([], []), ([3, 4], [3, 4]), ([5], [5]), ([6], [6]), ([], []), ([8], [8]), ([], []), ([9, 10], [9, 10]), ([11], [11]), ([12], [12]), ([], []), ([14], [14]), ([13, 15], [13, 15]), ([7, 16], [7, 16]), ([17], [17]), ([1, 18], [1, 18]), ([0, 1, 2, 3, 4, 5, 6, 7, 8, 9, 10, 11, 12, 13, 14, 15, 16, 17, 18, 19], []), ([20, 19, 19, 0, 1, 2, 3, 4, 5, 6, 7, 8, 9, 10, 11, 12, 13, 14, 15, 16, 17, 18, 19], [19, 20])])
def telamonref1_SubstLevel.B23 : List Nat := [0, 1, 0, 4, 0, 28, 60, 124, 0, 256, 0, 1792, 3840, 7936, 0, 16384, 65280, 131068, 262140, 524287, 1048575, 2097151]
theorem telamonref1_SubstLevel.tab23 : rtab .any (opsOf Try.f52 23) = telamonref1_SubstLevel.T23 := by kernel_rfl
theorem telamonref1_SubstLevel.bits23 : waitsOk telamonref1_SubstLevel.T23.2 telamonref1_SubstLevel.B23 = true := by kernel_rfl
set_option maxHeartbeats 8000000 in
set_option maxRecDepth 100000 in
theorem telamonref1_SubstLevel.calls (k : Nat) (a0_0 : Int) (A0_1 : Option Addr) (c0_1 : Nat) (l0_1 : List (S62)) (A1 : Option Addr) (c1 : Nat) (l1 : List (S43)) (r1 : Int) (r2 : List (S62)) (r3 : Int) (w : World) (hr0_1 : Kd.C k62 w A0_1 l0_1.length l0_1) (hc0_1 : l0_1.length ≤ c0_1) (hr1 : Kd.C k43 w A1 l1.length l1) (hc1 : l1.length ≤ c1) (h : telamonref1_SubstLevel.f k a0_0 l0_1 l1 = some (r1, r2, r3)) :
  Calls Try.prog 52 #[.agg #[.int .i64 a0_0, .slice A0_1 l0_1.length c0_1], .slice A1 l1.length c1] w fun e w' => ∃ v1_ : Value, e = .returned (.tuple #[.agg #[.int .i64 r1, v1_], .int .i64 r3]) ∧ Kd.R k62 62 w' w.heap.size (fun _ => True) v1_ r2 ∧ Below w.heap.size w w' := by
 have hu43 := Try.underlying43
 have hu62 := Try.underlying62
 have HR0_1 := Aside0.mk hr0_1
 have HC0_1 := Aside0.mk hc0_1
 clear hr0_1 hc0_1
 have HR1 := Aside0.mk hr1
 have HC1 := Aside0.mk hc1
 clear hr1 hc1
 have HB := Aside0.mk (Below.refl w.heap.size w)
 have H : ((telamonref1_Norm.f k a0_0 l0_1).bind fun bt103 => (if bt103.2.2 = 0 then (telamonref1_SubstLevel.l0 k l1 0 bt103.1 bt103.2.1) else (some (0, ([] : List (S62)), 13)))) = some (r1, r2, r3) := h
 clear h
 replace H := Option.bind_eq_some_iff.mp H
 obtain ⟨⟨t103, t104, t107⟩, A30, H⟩ := H
 replace H : (if t107 = 0 then (telamonref1_SubstLevel.l0 k l1 0 t103 t104) else (some (0, ([] : List (S62)), 13))) = some (r1, r2, r3) := H
 have A3 := Aside0.mk A30
 clear A30
 by_cases c4 : t107 = 0
 ·rw [if_pos c4] at H
  have c4b0 : (t107 == 0) = true := beq_iff_eq.mpr c4
  have c4b1 : (t107 != 0) = false := bne_eq_false_iff_eq.mpr c4
  clear c4
  have H' := Aside0.mk H
  clear H
  go_enter Try.func52, Try.ntmps52
  go_wp2_with (first | ((with_reducible refine gate_dst (N := 2) rfl ?_); (try (refine gate_guard (by rfl) ?_; dsimp only)); refine box_event ?hg (N := 2) ?hd (cs := #[.int .i64 a0_0, .slice A0_1 l0_1.length c0_1]) (t := 43) ?hr ?_; (case hd => rfl); (case hg => rfl); (case hr => first | (go_simp; done) | (go_simp; rfl)); intro gb101 hg w5 hbox hb; have BK101 := Aside0.mk (hbox); have GW101 := Aside0.mk ((bs_ hg HB : w.heap.size ≤ gb101)); have GE101 := Aside0.mk ((bs_ hg HB : w.heap.size ≤ gb101)); replace HB := hs_ HB hb; clear hb hbox hg) | ((with_reducible refine gate_dst (N := 4) rfl ?_); (try (refine gate_guard (by rfl) ?_; dsimp only)); refine box_event ?hg (N := 4) ?hd (cs := #[.int .i64 0, .slice none 0 0]) (t := 43) ?hr ?_; (case hd => rfl); (case hg => rfl); (case hr => first | (go_simp; done) | (go_simp; rfl)); intro gb102 hg w6 hbox hb; have BK102 := Aside0.mk (hbox); have GW102 := Aside0.mk ((bs_ hg HB : w.heap.size ≤ gb102)); have GE102 := Aside0.mk ((bs_ hg HB : w.heap.size ≤ gb102)); have NB101_102 := Aside0.mk ((nl_ hg BK101 : gb101 ≠ gb102)); have NB102_101 := Aside0.mk ((ng_ hg BK101 : gb102 ≠ gb101)); replace BK101 := bb_ BK101 hb; replace HB := hs_ HB hb; clear hb hbox hg; have hnb7 := NB101_102.out; have hnc7 := NB102_101.out; have hcz8_0 : w6.cell? ⟨gb101, 0, none⟩ = some (.int .i64 a0_0) := (blk_cell BK101.out 0).trans rfl; have hcz8_1 : w6.cell? ⟨gb101, 1, none⟩ = some (.slice A0_1 l0_1.length c0_1) := (blk_cell BK101.out 1).trans rfl; have hfz8_0 := blk_frozen BK101.out 0; have hfz8_1 := blk_frozen BK101.out 1) | ((with_reducible refine gate_callee (f := 41) rfl ?_); refine goesL_ (some 16) rfl rfl Try.func41 (by kernel_rfl) rfl #[.agg #[.int .i64 a0_0, .slice A0_1 l0_1.length c0_1]] rfl (by (try simp only [List.map_toArray, List.map_cons, List.map_nil]); first | done | rfl | (simp only [List.length_drop, List.length_take]; rfl)) ?_; (with_reducible refine (telamonref1_Norm.calls k a0_0 _ _ l0_1 t103 t104 t107 _ ?side1 ?side2 A3.out).mono ?_); (case side1 => repeat (first | exact (Kd.C_below HR0_1.out HB.out) | (with_reducible refine Kd.C_alloc ?_ _) | (with_reducible refine Kd.C_drewN ?_ _) | (with_reducible refine Kd.C_drew ?_))); (case side2 => exact HC0_1.out); rintro e w9 ⟨v105, rfl, ho0, hb⟩; refine ⟨_, rfl, ?_⟩; have HO106 := Aside0.mk (Kd.R_lower ho0 (below_size (bl_ HB))); replace BK101 := bb_ BK101 hb; replace BK102 := bb_ BK102 hb; replace HB := hs_ HB hb; (try clear hb); (try clear hb2); (try clear hk); (try clear hi); (try clear ho0); have hcz10_0 : w9.cell? ⟨gb101, 0, none⟩ = some (.int .i64 a0_0) := (blk_cell BK101.out 0).trans rfl; have hcz10_1 : w9.cell? ⟨gb101, 1, none⟩ = some (.slice A0_1 l0_1.length c0_1) := (blk_cell BK101.out 1).trans rfl; have hfz10_0 := blk_frozen BK101.out 0; have hfz10_1 := blk_frozen BK101.out 1; obtain ⟨Ao11, co11, eo11⟩ := Kd.R_slice HO106.out; subst eo11))
  go_loopg [7] k (fun kq v7 w' => ∃ (x7_1 : Int) (x103000_1 : Int), v7 = .int .i64 x7_1 ∧ Aside0 (telamonref1_SubstLevel.l0 kq l1 x7_1 t103 t104 = some (r1, r2, r3)) ∧ Aside0 (kq ≤ k) ∧ Aside0 (Kd.R k62 62 w' w.heap.size (fun _ => True) (.slice Ao11 t104.length co11) t104) ∧ Aside0 (w'.heap[gb101]? = some (.cells #[.int .i64 t103, (.slice Ao11 t104.length co11)] 43 (0, 0))) ∧ Aside0 (w'.heap[gb102]? = some (.cells #[.int .i64 x103000_1, (.slice none 0 0)] 43 (0, 0))) ∧ Aside0 (Below w.heap.size w w'))
  case atStart => exact ⟨(0), (0), (by first | rfl | (simp; done) | (simp [*]; done)), H', ⟨Nat.le_refl _⟩, ⟨by (with_reducible repeat (first | apply Kd.R_alloc | apply Kd.R_drewN | apply Kd.R_drew)); exact Kd.R_mono (Kd.R_far (p := ⟨gb101, 1, none⟩) (Kd.R_far (p := ⟨gb101, 0, none⟩) (Kd.R_types HO106.out BK101.out (by decide)) (fun _ hk => hk.2) (.int .i64 t103)) (fun _ hk => hk.2) (.slice Ao11 t104.length co11)) (fun _ hk => trivial)⟩, ⟨by (with_reducible repeat (first | refine blk_drewN ?_ _ | refine blk_drew ?_ | refine blk_alloc ?_ _)); refine blk_put (cs := #[.int .i64 t103, .slice A0_1 l0_1.length c0_1]) ?_ 1 _ rfl; (with_reducible repeat (first | refine blk_drewN ?_ _ | refine blk_drew ?_ | refine blk_alloc ?_ _)); refine blk_put (cs := #[.int .i64 a0_0, .slice A0_1 l0_1.length c0_1]) ?_ 0 _ rfl; (with_reducible repeat (first | refine blk_drewN ?_ _ | refine blk_drew ?_ | refine blk_alloc ?_ _)); exact BK101.out⟩, ⟨by (with_reducible repeat (first | refine blk_drewN ?_ _ | refine blk_drew ?_ | refine blk_alloc ?_ _)); refine blk_far ?_ NB102_101.out _; (with_reducible repeat (first | refine blk_drewN ?_ _ | refine blk_drew ?_ | refine blk_alloc ?_ _)); refine blk_far ?_ NB102_101.out _; (with_reducible repeat (first | refine blk_drewN ?_ _ | refine blk_drew ?_ | refine blk_alloc ?_ _)); exact BK102.out⟩, ⟨by repeat (first | (with_reducible first | exact HB.out | apply below_alloc | apply pw_below_drewN | apply below_drew1 | refine below_set ?_ GE101.out | refine below_set ?_ GE102.out) | exact HB.out)⟩⟩
  case round =>
   clear H'
   (try clear c1); (try clear p2); (try clear c4); (try clear c4b0); (try clear c4b1); (try clear c5); (try clear c7); (try clear hcz10_0); (try clear hcz10_1); (try clear hcz8_0); (try clear hcz8_1); (try clear hfz10_0); (try clear hfz10_1); (try clear hfz8_0); (try clear hfz8_1)
   obtain ⟨x7_1, x103000_1, rfl, HA, HK1, HO_102001, BK101, BK102, HB⟩ := hrel
   cases gk with
   | zero => exact absurd HA.out (by simp [telamonref1_SubstLevel.l0])
   | succ k1 =>
    have H := HA.out
    clear HA
    simp only [telamonref1_SubstLevel.l0] at H
    by_cases c12 : x7_1 < (l1.length : Int)
    ·rw [if_pos c12] at H
     have c12b0 : decide (x7_1 < (l1.length : Int)) = true := decide_eq_true c12
     clear c12
     by_cases c13 : 0 ≤ x7_1
     ·rw [if_pos c13] at H
      have c13b0 : decide (0 ≤ x7_1) = true := decide_eq_true c13
      clear c13
      replace H := Option.bind_eq_some_iff.mp H
      obtain ⟨t109, A140, H⟩ := H
      replace H : (if t109 = true then (telamonref1_SubstLevel.l0 k1 l1 (wrap64 (x7_1 + 1)) t103 t104) else (some (0, ([] : List (S62)), 13))) = some (r1, r2, r3) := H
      have A14 := Aside0.mk A140
      clear A140
      by_cases c15 : t109 = true
      ·subst c15
       have H1 : (telamonref1_SubstLevel.l0 k1 l1 (wrap64 (x7_1 + 1)) t103 t104) = some (r1, r2, r3) := by rw [if_pos rfl] at H; exact H
       clear H
       have H := H1
       clear H1
       have H' := Aside0.mk H
       clear H
       have p108 : 0 ≤ (x7_1 : Int) := of_decide_eq_true (by first | (with_reducible assumption) | assumption)
       have q108 : x7_1 < (l1.length : Int) := of_decide_eq_true (by first | (with_reducible assumption) | assumption)
       obtain ⟨ad108, A108_1, c108_1, e108, hx108_0, hx108_1, hl108_1, hi108_1⟩ := at_T43 HR1.out x7_1 p108 q108
       cases e108
       replace hx108_0 := (HB.out.cell (World.block_lt_of_cell? w _ hx108_0)).trans hx108_0
       replace hx108_1 := (HB.out.cell (World.block_lt_of_cell? w _ hx108_1)).trans hx108_1
       have HR108_1 := Aside0.mk hi108_1
       have HC108_1 := Aside0.mk hl108_1
       clear hi108_1 hl108_1
       replace p108 := eq_true p108
       replace q108 := eq_true q108
       go_wp2_with (first | ((with_reducible refine gate_callee (f := 75) rfl ?_); refine goesL_ (some 32) rfl rfl Try.func75 (by kernel_rfl) rfl #[.agg #[.int .i64 ((rd_T43 l1 x7_1).f0), .slice A108_1 ((rd_T43 l1 x7_1).f1).length c108_1]] rfl (by (try simp only [List.map_toArray, List.map_cons, List.map_nil]); first | done | rfl | (simp only [List.length_drop, List.length_take]; rfl)) ?_; (with_reducible refine (telamonref1_right.calls k1 ((rd_T43 l1 x7_1).f0) _ _ ((rd_T43 l1 x7_1).f1) true _ ?side1 ?side2 A14.out).mono ?_); (case side1 => repeat (first | exact (Kd.C_below HR108_1.out HB.out) | (with_reducible refine Kd.C_alloc ?_ _) | (with_reducible refine Kd.C_drewN ?_ _) | (with_reducible refine Kd.C_drew ?_))); (case side2 => exact HC108_1.out); rintro e w16 ⟨rfl, hb⟩; refine ⟨_, rfl, ?_⟩; replace HO_102001 := Aside0.mk (Kd.R_below (rl_ HO_102001) hb); replace BK101 := bb_ BK101 hb; replace BK102 := bb_ BK102 hb; replace HB := hs_ HB hb; (try clear hb); (try clear hb2); (try clear hk); (try clear hi)))
       go_roundg k1
       case measure => have := HK1.out; omega
       case rel => exact ⟨(wrap64 (x7_1 + 1)), (x103000_1), (by first | rfl | (simp; done) | (simp [*]; done)), H', ⟨by have := HK1.out; omega⟩, ⟨by (with_reducible repeat (first | apply Kd.R_alloc | apply Kd.R_drewN | apply Kd.R_drew)); exact HO_102001.out⟩, ⟨by (with_reducible repeat (first | refine blk_drewN ?_ _ | refine blk_drew ?_ | refine blk_alloc ?_ _)); exact BK101.out⟩, ⟨by (with_reducible repeat (first | refine blk_drewN ?_ _ | refine blk_drew ?_ | refine blk_alloc ?_ _)); exact BK102.out⟩, ⟨by repeat (first | (with_reducible first | exact HB.out | apply below_alloc | apply pw_below_drewN | apply below_drew1 | refine below_set ?_ GE101.out | refine below_set ?_ GE102.out) | exact HB.out)⟩⟩
      ·replace c15 := Bool.eq_false_iff.mpr c15
       subst c15
       have H1 : (some (0, ([] : List (S62)), 13)) = some (r1, r2, r3) := by rw [if_neg (show ¬ (false = true) by decide)] at H; exact H
       clear H
       have H := H1
       clear H1
       simp only [Option.some.injEq, Prod.mk.injEq] at H
       obtain ⟨rfl, rfl, rfl⟩ := H
       have p108 : 0 ≤ (x7_1 : Int) := of_decide_eq_true (by first | (with_reducible assumption) | assumption)
       have q108 : x7_1 < (l1.length : Int) := of_decide_eq_true (by first | (with_reducible assumption) | assumption)
       obtain ⟨ad108, A108_1, c108_1, e108, hx108_0, hx108_1, hl108_1, hi108_1⟩ := at_T43 HR1.out x7_1 p108 q108
       cases e108
       replace hx108_0 := (HB.out.cell (World.block_lt_of_cell? w _ hx108_0)).trans hx108_0
       replace hx108_1 := (HB.out.cell (World.block_lt_of_cell? w _ hx108_1)).trans hx108_1
       have HR108_1 := Aside0.mk hi108_1
       have HC108_1 := Aside0.mk hl108_1
       clear hi108_1 hl108_1
       replace p108 := eq_true p108
       replace q108 := eq_true q108
       go_wp2_with (first | ((with_reducible refine gate_callee (f := 75) rfl ?_); refine goesL_ (some 32) rfl rfl Try.func75 (by kernel_rfl) rfl #[.agg #[.int .i64 ((rd_T43 l1 x7_1).f0), .slice A108_1 ((rd_T43 l1 x7_1).f1).length c108_1]] rfl (by (try simp only [List.map_toArray, List.map_cons, List.map_nil]); first | done | rfl | (simp only [List.length_drop, List.length_take]; rfl)) ?_; (with_reducible refine (telamonref1_right.calls k1 ((rd_T43 l1 x7_1).f0) _ _ ((rd_T43 l1 x7_1).f1) false _ ?side1 ?side2 A14.out).mono ?_); (case side1 => repeat (first | exact (Kd.C_below HR108_1.out HB.out) | (with_reducible refine Kd.C_alloc ?_ _) | (with_reducible refine Kd.C_drewN ?_ _) | (with_reducible refine Kd.C_drew ?_))); (case side2 => exact HC108_1.out); rintro e w17 ⟨rfl, hb⟩; refine ⟨_, rfl, ?_⟩; replace HO_102001 := Aside0.mk (Kd.R_below (rl_ HO_102001) hb); replace BK101 := bb_ BK101 hb; replace BK102 := bb_ BK102 hb; replace HB := hs_ HB hb; (try clear hb); (try clear hb2); (try clear hk); (try clear hi); have hnb18 := NB102_101.out; have hnc18 := NB101_102.out; have hcz19_0 : w17.cell? ⟨gb102, 0, none⟩ = some (.int .i64 x103000_1) := (blk_cell BK102.out 0).trans rfl; have hcz19_1 : w17.cell? ⟨gb102, 1, none⟩ = some (.slice none 0 0) := (blk_cell BK102.out 1).trans rfl; have hfz19_0 := blk_frozen BK102.out 0; have hfz19_1 := blk_frozen BK102.out 1))
       refine bodyPost_ret (results_ct rfl _ _ gb102 43 #[.int .i64 0, .slice none 0 0] (0, 0) _ rfl (by (with_reducible repeat (first | refine blk_drewN ?_ _ | refine blk_drew ?_ | refine blk_alloc ?_ _)); refine blk_put (cs := #[.int .i64 0, .slice none 0 0]) ?_ 1 _ rfl; (with_reducible repeat (first | refine blk_drewN ?_ _ | refine blk_drew ?_ | refine blk_alloc ?_ _)); refine blk_put (cs := #[.int .i64 x103000_1, .slice none 0 0]) ?_ 0 _ rfl; (with_reducible repeat (first | refine blk_drewN ?_ _ | refine blk_drew ?_ | refine blk_alloc ?_ _)); exact BK102.out) Try.underlying43 rfl (by kernel_rfl)) rfl ?_
       exact ⟨_, by first | rfl | (simp [errW_none, errW_some] <;> rfl) | (simp [*, errW_none, errW_some] <;> rfl), by first | exact Kd.R_nil _ _ _ _ _ | exact Kd.N_nil _ _ _ _ _ | exact Kd.V_nil _ _ _ _ _ | exact Kd.Q_nil _ _ _ _ _ | exact Kd.S_nil _ _ _ _ _, by repeat (first | (with_reducible first | exact HB.out | apply below_alloc | apply pw_below_drewN | apply below_drew1 | refine below_set ?_ GE101.out | refine below_set ?_ GE102.out) | exact HB.out)⟩
     ·rw [if_neg c13] at H
      exact absurd H (by simp)
    ·rw [if_neg c12] at H
     have c12b0 : decide (x7_1 < (l1.length : Int)) = false := decide_eq_false c12
     clear c12
     have H' := Aside0.mk H
     clear H
     have hnb20 := NB101_102.out
     have hnc20 := NB102_101.out
     have hcz21_0 : wr.cell? ⟨gb101, 0, none⟩ = some (.int .i64 t103) := (blk_cell BK101.out 0).trans rfl
     have hcz21_1 : wr.cell? ⟨gb101, 1, none⟩ = some (.slice Ao11 t104.length co11) := (blk_cell BK101.out 1).trans rfl
     have hfz21_0 := blk_frozen BK101.out 0
     have hfz21_1 := blk_frozen BK101.out 1
     go_wp2_with (first | ((with_reducible refine gate_dst (N := 9) rfl ?_); (try (refine gate_guard (by rfl) ?_; dsimp only)); refine box_event ?hg (N := 9) ?hd (cs := #[.int .i64 0, .slice none 0 0]) (t := 43) ?hr ?_; (case hd => rfl); (case hg => rfl); (case hr => first | (go_simp; done) | (go_simp; rfl)); intro gb110 hg w22 hbox hb; have BK110 := Aside0.mk (hbox); have GW110 := Aside0.mk ((bs_ hg HB : w.heap.size ≤ gb110)); have GE110 := Aside0.mk ((bs_ hg HB : w.heap.size ≤ gb110)); have NB101_110 := Aside0.mk ((nl_ hg BK101 : gb101 ≠ gb110)); have NB110_101 := Aside0.mk ((ng_ hg BK101 : gb110 ≠ gb101)); have NB102_110 := Aside0.mk ((nl_ hg BK102 : gb102 ≠ gb110)); have NB110_102 := Aside0.mk ((ng_ hg BK102 : gb110 ≠ gb102)); replace HO_102001 := Aside0.mk (Kd.R_below (rl_ HO_102001) hb); replace BK101 := bb_ BK101 hb; replace BK102 := bb_ BK102 hb; replace HB := hs_ HB hb; clear hb hbox hg; have hnb23 := NB110_101.out; have hnc23 := NB101_110.out; have hnb24 := NB110_102.out; have hnc24 := NB102_110.out; have hcz25_0 : w22.cell? ⟨gb110, 0, none⟩ = some (.int .i64 0) := (blk_cell BK110.out 0).trans rfl; have hcz25_1 : w22.cell? ⟨gb110, 1, none⟩ = some (.slice none 0 0) := (blk_cell BK110.out 1).trans rfl; have hfz25_0 := blk_frozen BK110.out 0; have hfz25_1 := blk_frozen BK110.out 1))
     go_loopg [10] k1 (fun kq v10 w' => ∃ (x10_2 : Int) (x103000_2 : Int) (x111000_2 : Int) (x111001_2 : List (S62)) (u111001 : Value), v10 = .int .i64 x10_2 ∧ Aside0 (telamonref1_SubstLevel.l1 kq l1 x10_2 t103 t104 x111000_2 x111001_2 = some (r1, r2, r3)) ∧ Aside0 (kq ≤ k1) ∧ Aside0 (Kd.R k62 62 w' w.heap.size (fun k_ => some k_ ≠ (u111001 : Value).ownBlock) (.slice Ao11 t104.length co11) t104) ∧ Aside0 (Kd.R k62 62 w' w.heap.size (fun k_ => some k_ ≠ ((.slice Ao11 t104.length co11) : Value).ownBlock) u111001 x111001_2) ∧ Aside0 (w'.heap[gb101]? = some (.cells #[.int .i64 t103, (.slice Ao11 t104.length co11)] 43 (0, 0))) ∧ Aside0 (w'.heap[gb102]? = some (.cells #[.int .i64 x103000_2, (.slice none 0 0)] 43 (0, 0))) ∧ Aside0 (w'.heap[gb110]? = some (.cells #[.int .i64 x111000_2, u111001] 43 (0, 0))) ∧ Aside0 (Below w.heap.size w w'))
     case atStart => exact ⟨(0), (x103000_1), (t103), (([] : List (S62))), (.slice none 0 0), (by first | rfl | (simp; done) | (simp [*]; done)), H', ⟨Nat.le_refl _⟩, ⟨by (with_reducible repeat (first | apply Kd.R_alloc | apply Kd.R_drewN | apply Kd.R_drew)); exact Kd.R_mono (Kd.R_far (p := ⟨gb110, 1, none⟩) (Kd.R_far (p := ⟨gb110, 0, none⟩) (Kd.R_types HO_102001.out BK110.out (by decide)) (fun _ hk => hk.2) (.int .i64 t103)) (fun _ hk => hk.2) (.slice none 0 0)) (fun _ hk => (by simp [Value.ownBlock]))⟩, ⟨by first | exact Kd.R_nil _ _ _ _ _ | exact Kd.N_nil _ _ _ _ _ | exact Kd.V_nil _ _ _ _ _ | exact Kd.Q_nil _ _ _ _ _ | exact Kd.S_nil _ _ _ _ _⟩, ⟨by (with_reducible repeat (first | refine blk_drewN ?_ _ | refine blk_drew ?_ | refine blk_alloc ?_ _)); refine blk_far ?_ NB101_110.out _; (with_reducible repeat (first | refine blk_drewN ?_ _ | refine blk_drew ?_ | refine blk_alloc ?_ _)); refine blk_far ?_ NB101_110.out _; (with_reducible repeat (first | refine blk_drewN ?_ _ | refine blk_drew ?_ | refine blk_alloc ?_ _)); exact BK101.out⟩, ⟨by (with_reducible repeat (first | refine blk_drewN ?_ _ | refine blk_drew ?_ | refine blk_alloc ?_ _)); refine blk_far ?_ NB102_110.out _; (with_reducible repeat (first | refine blk_drewN ?_ _ | refine blk_drew ?_ | refine blk_alloc ?_ _)); refine blk_far ?_ NB102_110.out _; (with_reducible repeat (first | refine blk_drewN ?_ _ | refine blk_drew ?_ | refine blk_alloc ?_ _)); exact BK102.out⟩, ⟨by (with_reducible repeat (first | refine blk_drewN ?_ _ | refine blk_drew ?_ | refine blk_alloc ?_ _)); refine blk_put (cs := #[.int .i64 t103, .slice none 0 0]) ?_ 1 _ rfl; (with_reducible repeat (first | refine blk_drewN ?_ _ | refine blk_drew ?_ | refine blk_alloc ?_ _)); refine blk_put (cs := #[.int .i64 0, .slice none 0 0]) ?_ 0 _ rfl; (with_reducible repeat (first | refine blk_drewN ?_ _ | refine blk_drew ?_ | refine blk_alloc ?_ _)); exact BK110.out⟩, ⟨by repeat (first | (with_reducible first | exact HB.out | apply below_alloc | apply pw_below_drewN | apply below_drew1 | refine below_set ?_ GE101.out | refine below_set ?_ GE102.out | refine below_set ?_ GE110.out) | exact HB.out)⟩⟩
     case round =>
      clear H'
      (try clear c1); (try clear p1); (try clear q1); (try clear hx1); (try clear c2); (try clear p2); (try clear c4); (try clear c4b0); (try clear c4b1); (try clear c5); (try clear p6); (try clear c7); (try clear c10); (try clear p10); (try clear q10); (try clear hx10); (try clear c12); (try clear c12b0); (try clear c13); (try clear c13b0); (try clear c15); (try clear c18); (try clear c20); (try clear c23); (try clear c24); (try clear hcz10_0); (try clear hcz10_1); (try clear hcz19_0); (try clear hcz19_1); (try clear hcz21_0); (try clear hcz21_1); (try clear hcz25_0); (try clear hcz25_1); (try clear hcz8_0); (try clear hcz8_1); (try clear hfz10_0); (try clear hfz10_1); (try clear hfz19_0); (try clear hfz19_1); (try clear hfz21_0); (try clear hfz21_1); (try clear hfz25_0); (try clear hfz25_1); (try clear hfz8_0); (try clear hfz8_1); (try clear hx108_0); (try clear hx108_1); (try clear p108); (try clear p2); (try clear q108)
      obtain ⟨x10_2, x103000_2, x111000_2, x111001_2, u111001, rfl, HA, HK2, HO_102001, HO_111001, BK101, BK102, BK110, HB⟩ := hrel
      cases gk with
      | zero => exact absurd HA.out (by simp [telamonref1_SubstLevel.l1])
      | succ k2 =>
       have H := HA.out
       clear HA
       simp only [telamonref1_SubstLevel.l1] at H
       by_cases c26 : x10_2 < (t104.length : Int)
       ·rw [if_pos c26] at H
        have c26b0 : decide (x10_2 < (t104.length : Int)) = true := decide_eq_true c26
        clear c26
        by_cases c27 : 0 ≤ x10_2
        ·rw [if_pos c27] at H
         have c27b0 : decide (0 ≤ x10_2) = true := decide_eq_true c27
         clear c27
         by_cases c28 : ((rd_T62 t104 x10_2).f0) ≥ (l1.length : Int)
         ·rw [if_pos c28] at H
          have c28b0 : decide ((l1.length : Int) ≤ ((rd_T62 t104 x10_2).f0)) = true := decide_eq_true c28
          clear c28
          simp only [Option.some.injEq, Prod.mk.injEq] at H
          obtain ⟨rfl, rfl, rfl⟩ := H
          have hnb29 := NB101_102.out
          have hnc29 := NB102_101.out
          have hnb30 := NB101_110.out
          have hnc30 := NB110_101.out
          have hcz31_0 : wr.cell? ⟨gb101, 0, none⟩ = some (.int .i64 t103) := (blk_cell BK101.out 0).trans rfl
          have hcz31_1 : wr.cell? ⟨gb101, 1, none⟩ = some (.slice Ao11 t104.length co11) := (blk_cell BK101.out 1).trans rfl
          have hfz31_0 := blk_frozen BK101.out 0
          have hfz31_1 := blk_frozen BK101.out 1
          have p116 : 0 ≤ (x10_2 : Int) := of_decide_eq_true (by first | (with_reducible assumption) | assumption)
          have q116 : x10_2 < (t104.length : Int) := of_decide_eq_true (by first | (with_reducible assumption) | assumption)
          obtain ⟨ad116, e116, hx116_0, hx116_1⟩ := at_T62 (Kd.R_reads' HO_102001.out).2.2 x10_2 p116 q116
          cases e116
          replace p116 := eq_true p116
          replace q116 := eq_true q116
          go_wp2_with (first | ((with_reducible refine gate_dst (N := 11) rfl ?_); (try (refine gate_guard (by rfl) ?_; dsimp only)); refine box_event ?hg (N := 11) ?hd (cs := #[.int .i64 0, .int .i64 0]) (t := 62) ?hr ?_; (case hd => rfl); (case hg => rfl); (case hr => first | (go_simp; done) | (go_simp; rfl)); intro gb117 hg w32 hbox hb; have BK117 := Aside0.mk (hbox); have GW117 := Aside0.mk ((bs_ hg HB : w.heap.size ≤ gb117)); have GE117 := Aside0.mk ((bs_ hg HB : w.heap.size ≤ gb117)); have NB101_117 := Aside0.mk ((nl_ hg BK101 : gb101 ≠ gb117)); have NB117_101 := Aside0.mk ((ng_ hg BK101 : gb117 ≠ gb101)); have NB102_117 := Aside0.mk ((nl_ hg BK102 : gb102 ≠ gb117)); have NB117_102 := Aside0.mk ((ng_ hg BK102 : gb117 ≠ gb102)); have NB110_117 := Aside0.mk ((nl_ hg BK110 : gb110 ≠ gb117)); have NB117_110 := Aside0.mk ((ng_ hg BK110 : gb117 ≠ gb110)); replace HO_102001 := Aside0.mk (Kd.R_below (Kd.R_elderB (rl_ HO_102001) gb117 (Nat.le_of_eq hg.symm)) hb); replace HO_111001 := Aside0.mk (Kd.R_below (Kd.R_elderB (rl_ HO_111001) gb117 (Nat.le_of_eq hg.symm)) hb); replace BK101 := bb_ BK101 hb; replace BK102 := bb_ BK102 hb; replace BK110 := bb_ BK110 hb; replace HB := hs_ HB hb; clear hb hbox hg; have hnb33 := NB117_101.out; have hnc33 := NB101_117.out; have hnb34 := NB117_102.out; have hnc34 := NB102_117.out; have hnb35 := NB117_110.out; have hnc35 := NB110_117.out; have hcz36_0 : w32.cell? ⟨gb117, 0, none⟩ = some (.int .i64 0) := (blk_cell BK117.out 0).trans rfl; have hcz36_1 : w32.cell? ⟨gb117, 1, none⟩ = some (.int .i64 0) := (blk_cell BK117.out 1).trans rfl; have hfz36_0 := blk_frozen BK117.out 0; have hfz36_1 := blk_frozen BK117.out 1; have hnb37 := NB102_110.out; have hnc37 := NB110_102.out; have hcz38_0 : w32.cell? ⟨gb102, 0, none⟩ = some (.int .i64 x103000_2) := (blk_cell BK102.out 0).trans rfl; have hcz38_1 : w32.cell? ⟨gb102, 1, none⟩ = some (.slice none 0 0) := (blk_cell BK102.out 1).trans rfl; have hfz38_0 := blk_frozen BK102.out 0; have hfz38_1 := blk_frozen BK102.out 1))
          refine bodyPost_ret (results_ct rfl _ _ gb102 43 #[.int .i64 0, .slice none 0 0] (0, 0) _ rfl (by (with_reducible repeat (first | refine blk_drewN ?_ _ | refine blk_drew ?_ | refine blk_alloc ?_ _)); refine blk_put (cs := #[.int .i64 0, .slice none 0 0]) ?_ 1 _ rfl; (with_reducible repeat (first | refine blk_drewN ?_ _ | refine blk_drew ?_ | refine blk_alloc ?_ _)); refine blk_put (cs := #[.int .i64 x103000_2, .slice none 0 0]) ?_ 0 _ rfl; (with_reducible repeat (first | refine blk_drewN ?_ _ | refine blk_drew ?_ | refine blk_alloc ?_ _)); refine blk_far ?_ NB102_117.out _; (with_reducible repeat (first | refine blk_drewN ?_ _ | refine blk_drew ?_ | refine blk_alloc ?_ _)); refine blk_far ?_ NB102_117.out _; (with_reducible repeat (first | refine blk_drewN ?_ _ | refine blk_drew ?_ | refine blk_alloc ?_ _)); exact BK102.out) Try.underlying43 rfl (by kernel_rfl)) rfl ?_
          exact ⟨_, by first | rfl | (simp [errW_none, errW_some] <;> rfl) | (simp [*, errW_none, errW_some] <;> rfl), by first | exact Kd.R_nil _ _ _ _ _ | exact Kd.N_nil _ _ _ _ _ | exact Kd.V_nil _ _ _ _ _ | exact Kd.Q_nil _ _ _ _ _ | exact Kd.S_nil _ _ _ _ _, by repeat (first | (with_reducible first | exact HB.out | apply below_alloc | apply pw_below_drewN | apply below_drew1 | refine below_set ?_ GE101.out | refine below_set ?_ GE102.out | refine below_set ?_ GE110.out | refine below_set ?_ GE117.out) | exact HB.out)⟩
         ·rw [if_neg c28] at H
          have c28b0 : decide ((l1.length : Int) ≤ ((rd_T62 t104 x10_2).f0)) = false := decide_eq_false c28
          clear c28
          by_cases c39 : 0 ≤ ((rd_T62 t104 x10_2).f0)
          ·rw [if_pos c39] at H
           have c39b0 : decide (0 ≤ ((rd_T62 t104 x10_2).f0)) = true := decide_eq_true c39
           clear c39
           by_cases c40 : ((rd_T62 t104 x10_2).f0) < (l1.length : Int)
           ·rw [if_pos c40] at H
            have c40b0 : decide (((rd_T62 t104 x10_2).f0) < (l1.length : Int)) = true := decide_eq_true c40
            clear c40
            replace H := Option.bind_eq_some_iff.mp H
            obtain ⟨⟨t119, t120⟩, A410, H⟩ := H
            replace H : (if (wrap64 (t119 + ((rd_T62 t104 x10_2).f1))) > x111000_2 then (if t119 > 0 then (telamonref1_SubstLevel.j2 k2 l1 x10_2 true t103 t104 x111000_2 x111001_2 ((rd_T62 t104 x10_2).f0) ((rd_T62 t104 x10_2).f1) t119 t120) else (telamonref1_SubstLevel.j2 k2 l1 x10_2 ((t120.length : Int) == 0) t103 t104 x111000_2 x111001_2 ((rd_T62 t104 x10_2).f0) ((rd_T62 t104 x10_2).f1) t119 t120)) else (telamonref1_SubstLevel.j2 k2 l1 x10_2 false t103 t104 x111000_2 x111001_2 ((rd_T62 t104 x10_2).f0) ((rd_T62 t104 x10_2).f1) t119 t120)) = some (r1, r2, r3) := H
            have A41 := Aside0.mk A410
            clear A410
            have HC42 := Aside0.mk H
            clear H
            have hnb43 := NB101_102.out
            have hnc43 := NB102_101.out
            have hnb44 := NB101_110.out
            have hnc44 := NB110_101.out
            have hcz45_0 : wr.cell? ⟨gb101, 0, none⟩ = some (.int .i64 t103) := (blk_cell BK101.out 0).trans rfl
            have hcz45_1 : wr.cell? ⟨gb101, 1, none⟩ = some (.slice Ao11 t104.length co11) := (blk_cell BK101.out 1).trans rfl
            have hfz45_0 := blk_frozen BK101.out 0
            have hfz45_1 := blk_frozen BK101.out 1
            have p116 : 0 ≤ (x10_2 : Int) := of_decide_eq_true (by first | (with_reducible assumption) | assumption)
            have q116 : x10_2 < (t104.length : Int) := of_decide_eq_true (by first | (with_reducible assumption) | assumption)
            obtain ⟨ad116, e116, hx116_0, hx116_1⟩ := at_T62 (Kd.R_reads' HO_102001.out).2.2 x10_2 p116 q116
            cases e116
            replace p116 := eq_true p116
            replace q116 := eq_true q116
            go_upto_region 18 with (first | ((with_reducible refine gate_dst (N := 11) rfl ?_); (try (refine gate_guard (by rfl) ?_; dsimp only)); refine box_event ?hg (N := 11) ?hd (cs := #[.int .i64 0, .int .i64 0]) (t := 62) ?hr ?_; (case hd => rfl); (case hg => rfl); (case hr => first | (go_simp; done) | (go_simp; rfl)); intro gb117 hg w46 hbox hb; have BK117 := Aside0.mk (hbox); have GW117 := Aside0.mk ((bs_ hg HB : w.heap.size ≤ gb117)); have GE117 := Aside0.mk ((bs_ hg HB : w.heap.size ≤ gb117)); have NB101_117 := Aside0.mk ((nl_ hg BK101 : gb101 ≠ gb117)); have NB117_101 := Aside0.mk ((ng_ hg BK101 : gb117 ≠ gb101)); have NB102_117 := Aside0.mk ((nl_ hg BK102 : gb102 ≠ gb117)); have NB117_102 := Aside0.mk ((ng_ hg BK102 : gb117 ≠ gb102)); have NB110_117 := Aside0.mk ((nl_ hg BK110 : gb110 ≠ gb117)); have NB117_110 := Aside0.mk ((ng_ hg BK110 : gb117 ≠ gb110)); replace HO_102001 := Aside0.mk (Kd.R_below (Kd.R_elderB (rl_ HO_102001) gb117 (Nat.le_of_eq hg.symm)) hb); replace HO_111001 := Aside0.mk (Kd.R_below (Kd.R_elderB (rl_ HO_111001) gb117 (Nat.le_of_eq hg.symm)) hb); replace BK101 := bb_ BK101 hb; replace BK102 := bb_ BK102 hb; replace BK110 := bb_ BK110 hb; replace HB := hs_ HB hb; clear hb hbox hg; have hnb47 := NB117_101.out; have hnc47 := NB101_117.out; have hnb48 := NB117_102.out; have hnc48 := NB102_117.out; have hnb49 := NB117_110.out; have hnc49 := NB110_117.out; have hcz50_0 : w46.cell? ⟨gb117, 0, none⟩ = some (.int .i64 0) := (blk_cell BK117.out 0).trans rfl; have hcz50_1 : w46.cell? ⟨gb117, 1, none⟩ = some (.int .i64 0) := (blk_cell BK117.out 1).trans rfl; have hfz50_0 := blk_frozen BK117.out 0; have hfz50_1 := blk_frozen BK117.out 1; have p118 : 0 ≤ (((rd_T62 t104 x10_2).f0) : Int) := of_decide_eq_true (by first | (with_reducible assumption) | assumption); have q118 : ((rd_T62 t104 x10_2).f0) < (l1.length : Int) := of_decide_eq_true (by first | (with_reducible assumption) | assumption); obtain ⟨ad118, A118_1, c118_1, e118, hx118_0, hx118_1, hl118_1, hi118_1⟩ := at_T43 HR1.out ((rd_T62 t104 x10_2).f0) p118 q118; cases e118; have hn118_0 : ad118.block ≠ gb117 := Nat.ne_of_lt (Nat.lt_of_lt_of_le (by have := World.block_lt_of_cell? _ _ hx118_0; first | rwa [add_block] at this | exact this) GW117.out); have hn118_1 : ad118.block ≠ gb117 := Nat.ne_of_lt (Nat.lt_of_lt_of_le (by have := World.block_lt_of_cell? _ _ hx118_0; first | rwa [add_block] at this | exact this) GW117.out); replace hx118_0 := (HB.out.cell (World.block_lt_of_cell? w _ hx118_0)).trans hx118_0; replace hx118_1 := (HB.out.cell (World.block_lt_of_cell? w _ hx118_1)).trans hx118_1; have HR118_1 := Aside0.mk hi118_1; have HC118_1 := Aside0.mk hl118_1; clear hi118_1 hl118_1; replace hx118_0 := (cell_far (p := ⟨gb117, 0, none⟩) (by first | (rw [add_block]; exact hn118_0) | (show (Addr.add _ _).block ≠ _; rw [add_block]; exact hn118_0) | exact hn118_0) (.int .i64 ((rd_T62 t104 x10_2).f0))).trans hx118_0; replace hx118_1 := (cell_far (p := ⟨gb117, 0, none⟩) (by first | (rw [add_block]; exact hn118_0) | (show (Addr.add _ _).block ≠ _; rw [add_block]; exact hn118_0) | exact hn118_0) (.int .i64 ((rd_T62 t104 x10_2).f0))).trans hx118_1; replace hx118_0 := (cell_far (p := ⟨gb117, 1, none⟩) (by first | (rw [add_block]; exact hn118_1) | (show (Addr.add _ _).block ≠ _; rw [add_block]; exact hn118_1) | exact hn118_1) (.int .i64 ((rd_T62 t104 x10_2).f1))).trans hx118_0; replace hx118_1 := (cell_far (p := ⟨gb117, 1, none⟩) (by first | (rw [add_block]; exact hn118_1) | (show (Addr.add _ _).block ≠ _; rw [add_block]; exact hn118_1) | exact hn118_1) (.int .i64 ((rd_T62 t104 x10_2).f1))).trans hx118_1; clear hn118_0; clear hn118_1; replace p118 := eq_true p118; replace q118 := eq_true q118) | ((with_reducible refine gate_callee (f := 76) rfl ?_); refine goesL_ (some 62) rfl rfl Try.func76 (by kernel_rfl) rfl #[.agg #[.int .i64 ((rd_T43 l1 ((rd_T62 t104 x10_2).f0)).f0), .slice A118_1 ((rd_T43 l1 ((rd_T62 t104 x10_2).f0)).f1).length c118_1]] rfl (by (try simp only [List.map_toArray, List.map_cons, List.map_nil]); first | done | rfl | (simp only [List.length_drop, List.length_take]; rfl)) ?_; (with_reducible refine (telamonref1_tidy.calls k2 ((rd_T43 l1 ((rd_T62 t104 x10_2).f0)).f0) _ _ ((rd_T43 l1 ((rd_T62 t104 x10_2).f0)).f1) t119 t120 _ ?side1 ?side2 A41.out).mono ?_); (case side1 => exact Kd.C_below HR118_1.out (bl_ HB)); (case side2 => exact HC118_1.out); rintro e w51 ⟨v121, rfl, ho0, hb⟩; refine ⟨_, rfl, ?_⟩; have HO122 := Aside0.mk (Kd.R_lower (Kd.R_newB (Kd.R_new' (Kd.R_new' ho0 (Kd.R_lt (by (with_reducible repeat (first | apply Kd.R_alloc | apply Kd.R_drewN | apply Kd.R_drew)); exact (Kd.R_mono (Kd.R_far (p := ⟨gb117, 1, none⟩) (Kd.R_far (p := ⟨gb117, 0, none⟩) (Kd.R_mono HO_102001.out (fun k_ hk => (⟨hk, hk.2⟩ : _ ∧ k_ ≠ gb117))) (fun _ hk => hk.2) (.int .i64 ((rd_T62 t104 x10_2).f0))) (fun _ hk => hk.2) (.int .i64 ((rd_T62 t104 x10_2).f1))) (fun _ h_ => h_.1))))) (Kd.R_lt (by (with_reducible repeat (first | apply Kd.R_alloc | apply Kd.R_drewN | apply Kd.R_drew)); exact (Kd.R_mono (Kd.R_far (p := ⟨gb117, 1, none⟩) (Kd.R_far (p := ⟨gb117, 0, none⟩) (Kd.R_mono HO_111001.out (fun k_ hk => (⟨hk, hk.2⟩ : _ ∧ k_ ≠ gb117))) (fun _ hk => hk.2) (.int .i64 ((rd_T62 t104 x10_2).f0))) (fun _ hk => hk.2) (.int .i64 ((rd_T62 t104 x10_2).f1))) (fun _ h_ => h_.1))))) (g := gb117) (o := .cells #[.int .i64 ((rd_T62 t104 x10_2).f0), .int .i64 ((rd_T62 t104 x10_2).f1)] 62 (0, 0)) (by (with_reducible repeat (first | refine blk_drewN ?_ _ | refine blk_drew ?_ | refine blk_alloc ?_ _)); refine blk_put (cs := #[.int .i64 ((rd_T62 t104 x10_2).f0), .int .i64 0]) ?_ 1 _ rfl; (with_reducible repeat (first | refine blk_drewN ?_ _ | refine blk_drew ?_ | refine blk_alloc ?_ _)); refine blk_put (cs := #[.int .i64 0, .int .i64 0]) ?_ 0 _ rfl; (with_reducible repeat (first | refine blk_drewN ?_ _ | refine blk_drew ?_ | refine blk_alloc ?_ _)); exact BK117.out)) (below_size (bl_ HB))); replace HO_102001 := Aside0.mk (Kd.R_elder' (by (with_reducible repeat (first | apply Kd.R_alloc | apply Kd.R_drewN | apply Kd.R_drew)); exact (Kd.R_mono (Kd.R_far (p := ⟨gb117, 1, none⟩) (Kd.R_far (p := ⟨gb117, 0, none⟩) (Kd.R_mono HO_102001.out (fun k_ hk => (⟨hk, hk.2⟩ : _ ∧ k_ ≠ gb117))) (fun _ hk => hk.2) (.int .i64 ((rd_T62 t104 x10_2).f0))) (fun _ hk => hk.2) (.int .i64 ((rd_T62 t104 x10_2).f1))) (fun _ h_ => h_.1))) (Kd.R_base ho0) hb); replace HO_111001 := Aside0.mk (Kd.R_elder' (by (with_reducible repeat (first | apply Kd.R_alloc | apply Kd.R_drewN | apply Kd.R_drew)); exact (Kd.R_mono (Kd.R_far (p := ⟨gb117, 1, none⟩) (Kd.R_far (p := ⟨gb117, 0, none⟩) (Kd.R_mono HO_111001.out (fun k_ hk => (⟨hk, hk.2⟩ : _ ∧ k_ ≠ gb117))) (fun _ hk => hk.2) (.int .i64 ((rd_T62 t104 x10_2).f0))) (fun _ hk => hk.2) (.int .i64 ((rd_T62 t104 x10_2).f1))) (fun _ h_ => h_.1))) (Kd.R_base ho0) hb); replace BK101 := Aside0.mk (blk_below (pf_ BK101) hb); replace BK102 := Aside0.mk (blk_below (pf_ BK102) hb); replace BK110 := Aside0.mk (blk_below (pf_ BK110) hb); replace BK117 := Aside0.mk (blk_below (g := gb117) (o := .cells #[.int .i64 ((rd_T62 t104 x10_2).f0), .int .i64 ((rd_T62 t104 x10_2).f1)] 62 (0, 0)) (by (with_reducible repeat (first | refine blk_drewN ?_ _ | refine blk_drew ?_ | refine blk_alloc ?_ _)); refine blk_put (cs := #[.int .i64 ((rd_T62 t104 x10_2).f0), .int .i64 0]) ?_ 1 _ rfl; (with_reducible repeat (first | refine blk_drewN ?_ _ | refine blk_drew ?_ | refine blk_alloc ?_ _)); refine blk_put (cs := #[.int .i64 0, .int .i64 0]) ?_ 0 _ rfl; (with_reducible repeat (first | refine blk_drewN ?_ _ | refine blk_drew ?_ | refine blk_alloc ?_ _)); exact BK117.out) hb); replace HB := hs_ HB hb; (try clear hb); (try clear hb2); (try clear hk); (try clear hi); (try clear ho0)) | ((with_reducible refine gate_dst (N := 12) rfl ?_); (try (refine gate_guard (by rfl) ?_; dsimp only)); refine box_event ?hg (N := 12) ?hd (cs := #[.int .i64 0, .slice none 0 0]) (t := 43) ?hr ?_; (case hd => rfl); (case hg => rfl); (case hr => first | (go_simp; done) | (go_simp; rfl)); intro gb123 hg w52 hbox hb; have BK123 := Aside0.mk (hbox); have GW123 := Aside0.mk ((bs_ hg HB : w.heap.size ≤ gb123)); have GE123 := Aside0.mk ((bs_ hg HB : w.heap.size ≤ gb123)); have NB101_123 := Aside0.mk ((nl_ hg BK101 : gb101 ≠ gb123)); have NB123_101 := Aside0.mk ((ng_ hg BK101 : gb123 ≠ gb101)); have NB102_123 := Aside0.mk ((nl_ hg BK102 : gb102 ≠ gb123)); have NB123_102 := Aside0.mk ((ng_ hg BK102 : gb123 ≠ gb102)); have NB110_123 := Aside0.mk ((nl_ hg BK110 : gb110 ≠ gb123)); have NB123_110 := Aside0.mk ((ng_ hg BK110 : gb123 ≠ gb110)); have NB117_123 := Aside0.mk ((nl_ hg BK117 : gb117 ≠ gb123)); have NB123_117 := Aside0.mk ((ng_ hg BK117 : gb123 ≠ gb117)); replace HO_102001 := Aside0.mk (Kd.R_below (rl_ HO_102001) hb); replace HO_111001 := Aside0.mk (Kd.R_below (rl_ HO_111001) hb); replace HO122 := Aside0.mk (Kd.R_below (rl_ HO122) hb); replace BK101 := bb_ BK101 hb; replace BK102 := bb_ BK102 hb; replace BK110 := bb_ BK110 hb; replace BK117 := bb_ BK117 hb; replace HB := hs_ HB hb; clear hb hbox hg; have hnb53 := NB123_101.out; have hnc53 := NB101_123.out; have hnb54 := NB123_102.out; have hnc54 := NB102_123.out; have hnb55 := NB123_110.out; have hnc55 := NB110_123.out; have hnb56 := NB123_117.out; have hnc56 := NB117_123.out; have hcz57_0 : w52.cell? ⟨gb123, 0, none⟩ = some (.int .i64 0) := (blk_cell BK123.out 0).trans rfl; have hcz57_1 : w52.cell? ⟨gb123, 1, none⟩ = some (.slice none 0 0) := (blk_cell BK123.out 1).trans rfl; have hfz57_0 := blk_frozen BK123.out 0; have hfz57_1 := blk_frozen BK123.out 1; obtain ⟨Ao58, co58, eo58⟩ := Kd.R_slice HO122.out; subst eo58))
            (try simp only [Act.put, List.setIfInBounds_toArray, List.set_cons_zero, List.set_cons_succ])
            go_cut [81] (fun v81 wc => ∃ (kq : Nat) (x81_41 : Bool), v81 = .bool x81_41 ∧ Aside0 (telamonref1_SubstLevel.j2 kq l1 x10_2 x81_41 t103 t104 x111000_2 x111001_2 ((rd_T62 t104 x10_2).f0) ((rd_T62 t104 x10_2).f1) t119 t120 = some (r1, r2, r3)) ∧ Aside0 (kq ≤ k2) ∧ Aside0 (Kd.R k62 62 wc w.heap.size (fun k_ => some k_ ≠ (u111001 : Value).ownBlock ∧ some k_ ≠ ((.slice Ao58 t120.length co58) : Value).ownBlock ∧ k_ ≠ gb117) (.slice (some ad116) t104.length co11) t104) ∧ Aside0 (Kd.R k62 62 wc w.heap.size (fun k_ => some k_ ≠ ((.slice (some ad116) t104.length co11) : Value).ownBlock ∧ some k_ ≠ ((.slice Ao58 t120.length co58) : Value).ownBlock ∧ k_ ≠ gb117) u111001 x111001_2) ∧ Aside0 (Kd.R k62 62 wc w.heap.size (fun k_ => some k_ ≠ ((.slice (some ad116) t104.length co11) : Value).ownBlock ∧ some k_ ≠ (u111001 : Value).ownBlock ∧ k_ ≠ gb117) (.slice Ao58 t120.length co58) t120) ∧ Aside0 (wc.heap[gb101]? = some (.cells #[.int .i64 t103, (.slice (some ad116) t104.length co11)] 43 (0, 0))) ∧ Aside0 (wc.heap[gb102]? = some (.cells #[.int .i64 x103000_2, (.slice none 0 0)] 43 (0, 0))) ∧ Aside0 (wc.heap[gb110]? = some (.cells #[.int .i64 x111000_2, u111001] 43 (0, 0))) ∧ Aside0 (wc.heap[gb117]? = some (.cells #[.int .i64 ((rd_T62 t104 x10_2).f0), .int .i64 ((rd_T62 t104 x10_2).f1)] 62 (0, 0))) ∧ Aside0 (wc.heap[gb123]? = some (.cells #[.int .i64 t119, (.slice Ao58 t120.length co58)] 43 (0, 0))) ∧ Aside0 (Below w.heap.size w wc))
            case first =>
             have H := HC42.out
             clear HC42
             by_cases c59 : (wrap64 (t119 + ((rd_T62 t104 x10_2).f1))) > x111000_2
             ·rw [if_pos c59] at H
              have c59b0 : decide (x111000_2 < (wrap64 (t119 + ((rd_T62 t104 x10_2).f1)))) = true := decide_eq_true c59
              clear c59
              (first | rw [c59b0] | (simp only [i64_w, i32_w]; rw [c59b0]) | skip)
              by_cases c60 : t119 > 0
              ·rw [if_pos c60] at H
               have c60b0 : decide (0 < t119) = true := decide_eq_true c60
               clear c60
               have H' := Aside0.mk H
               clear H
               have hnb61 := NB123_101.out
               have hnc61 := NB101_123.out
               have hnb62 := NB123_102.out
               have hnc62 := NB102_123.out
               have hnb63 := NB123_110.out
               have hnc63 := NB110_123.out
               have hnb64 := NB123_117.out
               have hnc64 := NB117_123.out
               have hcz65_0 : w52.cell? ⟨gb123, 0, none⟩ = some (.int .i64 0) := (blk_cell BK123.out 0).trans rfl
               have hcz65_1 : w52.cell? ⟨gb123, 1, none⟩ = some (.slice none 0 0) := (blk_cell BK123.out 1).trans rfl
               have hfz65_0 := blk_frozen BK123.out 0
               have hfz65_1 := blk_frozen BK123.out 1
               have hnb66 := NB117_101.out
               have hnc66 := NB101_117.out
               have hnb67 := NB117_102.out
               have hnc67 := NB102_117.out
               have hnb68 := NB117_110.out
               have hnc68 := NB110_117.out
               have hcz69_0 : w52.cell? ⟨gb117, 0, none⟩ = some (.int .i64 ((rd_T62 t104 x10_2).f0)) := (blk_cell BK117.out 0).trans rfl
               have hcz69_1 : w52.cell? ⟨gb117, 1, none⟩ = some (.int .i64 ((rd_T62 t104 x10_2).f1)) := (blk_cell BK117.out 1).trans rfl
               have hfz69_0 := blk_frozen BK117.out 0
               have hfz69_1 := blk_frozen BK117.out 1
               have hnb70 := NB110_101.out
               have hnc70 := NB101_110.out
               have hnb71 := NB110_102.out
               have hnc71 := NB102_110.out
               have hcz72_0 : w52.cell? ⟨gb110, 0, none⟩ = some (.int .i64 x111000_2) := (blk_cell BK110.out 0).trans rfl
               have hcz72_1 : w52.cell? ⟨gb110, 1, none⟩ = some (u111001) := (blk_cell BK110.out 1).trans rfl
               have hfz72_0 := blk_frozen BK110.out 0
               have hfz72_1 := blk_frozen BK110.out 1
               go_wp2
               go_meet
               case rel => exact ⟨_, (true), (by first | rfl | (simp; done) | (simp [*]; done)), H', ⟨by have := HK1.out; have := HK2.out; first | omega | exact Nat.le_refl _⟩, ⟨by (with_reducible repeat (first | apply Kd.R_alloc | apply Kd.R_drewN | apply Kd.R_drew)); exact Kd.R_mono (Kd.R_far (p := ⟨gb123, 1, none⟩) (Kd.R_far (p := ⟨gb123, 0, none⟩) (Kd.R_types HO_102001.out BK123.out (by decide)) (fun _ hk => hk.2) (.int .i64 t119)) (fun _ hk => hk.2) (.slice Ao58 t120.length co58)) (fun _ hk => ⟨hk.1.1.1, ⟨hk.1.2, hk.1.1.2⟩⟩)⟩, ⟨by (with_reducible repeat (first | apply Kd.R_alloc | apply Kd.R_drewN | apply Kd.R_drew)); exact Kd.R_mono (Kd.R_far (p := ⟨gb123, 1, none⟩) (Kd.R_far (p := ⟨gb123, 0, none⟩) (Kd.R_types HO_111001.out BK123.out (by decide)) (fun _ hk => hk.2) (.int .i64 t119)) (fun _ hk => hk.2) (.slice Ao58 t120.length co58)) (fun _ hk => ⟨hk.1.1.1, ⟨hk.1.2, hk.1.1.2⟩⟩)⟩, ⟨by (with_reducible repeat (first | apply Kd.R_alloc | apply Kd.R_drewN | apply Kd.R_drew)); exact Kd.R_mono (Kd.R_far (p := ⟨gb123, 1, none⟩) (Kd.R_far (p := ⟨gb123, 0, none⟩) (Kd.R_types HO122.out BK123.out (by decide)) (fun _ hk => hk.2) (.int .i64 t119)) (fun _ hk => hk.2) (.slice Ao58 t120.length co58)) (fun _ hk => ⟨hk.1.1.1.2, ⟨hk.1.1.2, hk.1.2⟩⟩)⟩, ⟨by (with_reducible repeat (first | refine blk_drewN ?_ _ | refine blk_drew ?_ | refine blk_alloc ?_ _)); refine blk_far ?_ NB101_123.out _; (with_reducible repeat (first | refine blk_drewN ?_ _ | refine blk_drew ?_ | refine blk_alloc ?_ _)); refine blk_far ?_ NB101_123.out _; (with_reducible repeat (first | refine blk_drewN ?_ _ | refine blk_drew ?_ | refine blk_alloc ?_ _)); exact BK101.out⟩, ⟨by (with_reducible repeat (first | refine blk_drewN ?_ _ | refine blk_drew ?_ | refine blk_alloc ?_ _)); refine blk_far ?_ NB102_123.out _; (with_reducible repeat (first | refine blk_drewN ?_ _ | refine blk_drew ?_ | refine blk_alloc ?_ _)); refine blk_far ?_ NB102_123.out _; (with_reducible repeat (first | refine blk_drewN ?_ _ | refine blk_drew ?_ | refine blk_alloc ?_ _)); exact BK102.out⟩, ⟨by (with_reducible repeat (first | refine blk_drewN ?_ _ | refine blk_drew ?_ | refine blk_alloc ?_ _)); refine blk_far ?_ NB110_123.out _; (with_reducible repeat (first | refine blk_drewN ?_ _ | refine blk_drew ?_ | refine blk_alloc ?_ _)); refine blk_far ?_ NB110_123.out _; (with_reducible repeat (first | refine blk_drewN ?_ _ | refine blk_drew ?_ | refine blk_alloc ?_ _)); exact BK110.out⟩, ⟨by (with_reducible repeat (first | refine blk_drewN ?_ _ | refine blk_drew ?_ | refine blk_alloc ?_ _)); refine blk_far ?_ NB117_123.out _; (with_reducible repeat (first | refine blk_drewN ?_ _ | refine blk_drew ?_ | refine blk_alloc ?_ _)); refine blk_far ?_ NB117_123.out _; (with_reducible repeat (first | refine blk_drewN ?_ _ | refine blk_drew ?_ | refine blk_alloc ?_ _)); exact BK117.out⟩, ⟨by (with_reducible repeat (first | refine blk_drewN ?_ _ | refine blk_drew ?_ | refine blk_alloc ?_ _)); refine blk_put (cs := #[.int .i64 t119, .slice none 0 0]) ?_ 1 _ rfl; (with_reducible repeat (first | refine blk_drewN ?_ _ | refine blk_drew ?_ | refine blk_alloc ?_ _)); refine blk_put (cs := #[.int .i64 0, .slice none 0 0]) ?_ 0 _ rfl; (with_reducible repeat (first | refine blk_drewN ?_ _ | refine blk_drew ?_ | refine blk_alloc ?_ _)); exact BK123.out⟩, ⟨by repeat (first | (with_reducible first | exact HB.out | apply below_alloc | apply pw_below_drewN | apply below_drew1 | refine below_set ?_ GE101.out | refine below_set ?_ GE102.out | refine below_set ?_ GE110.out | refine below_set ?_ GE117.out | refine below_set ?_ GE123.out) | exact HB.out)⟩⟩
              ·rw [if_neg c60] at H
               have c60b0 : decide (0 < t119) = false := decide_eq_false c60
               clear c60
               have H' := Aside0.mk H
               clear H
               have hnb73 := NB123_101.out
               have hnc73 := NB101_123.out
               have hnb74 := NB123_102.out
               have hnc74 := NB102_123.out
               have hnb75 := NB123_110.out
               have hnc75 := NB110_123.out
               have hnb76 := NB123_117.out
               have hnc76 := NB117_123.out
               have hcz77_0 : w52.cell? ⟨gb123, 0, none⟩ = some (.int .i64 0) := (blk_cell BK123.out 0).trans rfl
               have hcz77_1 : w52.cell? ⟨gb123, 1, none⟩ = some (.slice none 0 0) := (blk_cell BK123.out 1).trans rfl
               have hfz77_0 := blk_frozen BK123.out 0
               have hfz77_1 := blk_frozen BK123.out 1
               have hnb78 := NB117_101.out
               have hnc78 := NB101_117.out
               have hnb79 := NB117_102.out
               have hnc79 := NB102_117.out
               have hnb80 := NB117_110.out
               have hnc80 := NB110_117.out
               have hcz81_0 : w52.cell? ⟨gb117, 0, none⟩ = some (.int .i64 ((rd_T62 t104 x10_2).f0)) := (blk_cell BK117.out 0).trans rfl
               have hcz81_1 : w52.cell? ⟨gb117, 1, none⟩ = some (.int .i64 ((rd_T62 t104 x10_2).f1)) := (blk_cell BK117.out 1).trans rfl
               have hfz81_0 := blk_frozen BK117.out 0
               have hfz81_1 := blk_frozen BK117.out 1
               have hnb82 := NB110_101.out
               have hnc82 := NB101_110.out
               have hnb83 := NB110_102.out
               have hnc83 := NB102_110.out
               have hcz84_0 : w52.cell? ⟨gb110, 0, none⟩ = some (.int .i64 x111000_2) := (blk_cell BK110.out 0).trans rfl
               have hcz84_1 : w52.cell? ⟨gb110, 1, none⟩ = some (u111001) := (blk_cell BK110.out 1).trans rfl
               have hfz84_0 := blk_frozen BK110.out 0
               have hfz84_1 := blk_frozen BK110.out 1
               go_wp2
               go_meet
               case rel => exact ⟨_, (((t120.length : Int) == 0)), (by first | rfl | (simp; done) | (simp [*]; done)), H', ⟨by have := HK1.out; have := HK2.out; first | omega | exact Nat.le_refl _⟩, ⟨by (with_reducible repeat (first | apply Kd.R_alloc | apply Kd.R_drewN | apply Kd.R_drew)); exact Kd.R_mono (Kd.R_far (p := ⟨gb123, 1, none⟩) (Kd.R_far (p := ⟨gb123, 0, none⟩) (Kd.R_types HO_102001.out BK123.out (by decide)) (fun _ hk => hk.2) (.int .i64 t119)) (fun _ hk => hk.2) (.slice Ao58 t120.length co58)) (fun _ hk => ⟨hk.1.1.1, ⟨hk.1.2, hk.1.1.2⟩⟩)⟩, ⟨by (with_reducible repeat (first | apply Kd.R_alloc | apply Kd.R_drewN | apply Kd.R_drew)); exact Kd.R_mono (Kd.R_far (p := ⟨gb123, 1, none⟩) (Kd.R_far (p := ⟨gb123, 0, none⟩) (Kd.R_types HO_111001.out BK123.out (by decide)) (fun _ hk => hk.2) (.int .i64 t119)) (fun _ hk => hk.2) (.slice Ao58 t120.length co58)) (fun _ hk => ⟨hk.1.1.1, ⟨hk.1.2, hk.1.1.2⟩⟩)⟩, ⟨by (with_reducible repeat (first | apply Kd.R_alloc | apply Kd.R_drewN | apply Kd.R_drew)); exact Kd.R_mono (Kd.R_far (p := ⟨gb123, 1, none⟩) (Kd.R_far (p := ⟨gb123, 0, none⟩) (Kd.R_types HO122.out BK123.out (by decide)) (fun _ hk => hk.2) (.int .i64 t119)) (fun _ hk => hk.2) (.slice Ao58 t120.length co58)) (fun _ hk => ⟨hk.1.1.1.2, ⟨hk.1.1.2, hk.1.2⟩⟩)⟩, ⟨by (with_reducible repeat (first | refine blk_drewN ?_ _ | refine blk_drew ?_ | refine blk_alloc ?_ _)); refine blk_far ?_ NB101_123.out _; (with_reducible repeat (first | refine blk_drewN ?_ _ | refine blk_drew ?_ | refine blk_alloc ?_ _)); refine blk_far ?_ NB101_123.out _; (with_reducible repeat (first | refine blk_drewN ?_ _ | refine blk_drew ?_ | refine blk_alloc ?_ _)); exact BK101.out⟩, ⟨by (with_reducible repeat (first | refine blk_drewN ?_ _ | refine blk_drew ?_ | refine blk_alloc ?_ _)); refine blk_far ?_ NB102_123.out _; (with_reducible repeat (first | refine blk_drewN ?_ _ | refine blk_drew ?_ | refine blk_alloc ?_ _)); refine blk_far ?_ NB102_123.out _; (with_reducible repeat (first | refine blk_drewN ?_ _ | refine blk_drew ?_ | refine blk_alloc ?_ _)); exact BK102.out⟩, ⟨by (with_reducible repeat (first | refine blk_drewN ?_ _ | refine blk_drew ?_ | refine blk_alloc ?_ _)); refine blk_far ?_ NB110_123.out _; (with_reducible repeat (first | refine blk_drewN ?_ _ | refine blk_drew ?_ | refine blk_alloc ?_ _)); refine blk_far ?_ NB110_123.out _; (with_reducible repeat (first | refine blk_drewN ?_ _ | refine blk_drew ?_ | refine blk_alloc ?_ _)); exact BK110.out⟩, ⟨by (with_reducible repeat (first | refine blk_drewN ?_ _ | refine blk_drew ?_ | refine blk_alloc ?_ _)); refine blk_far ?_ NB117_123.out _; (with_reducible repeat (first | refine blk_drewN ?_ _ | refine blk_drew ?_ | refine blk_alloc ?_ _)); refine blk_far ?_ NB117_123.out _; (with_reducible repeat (first | refine blk_drewN ?_ _ | refine blk_drew ?_ | refine blk_alloc ?_ _)); exact BK117.out⟩, ⟨by (with_reducible repeat (first | refine blk_drewN ?_ _ | refine blk_drew ?_ | refine blk_alloc ?_ _)); refine blk_put (cs := #[.int .i64 t119, .slice none 0 0]) ?_ 1 _ rfl; (with_reducible repeat (first | refine blk_drewN ?_ _ | refine blk_drew ?_ | refine blk_alloc ?_ _)); refine blk_put (cs := #[.int .i64 0, .slice none 0 0]) ?_ 0 _ rfl; (with_reducible repeat (first | refine blk_drewN ?_ _ | refine blk_drew ?_ | refine blk_alloc ?_ _)); exact BK123.out⟩, ⟨by repeat (first | (with_reducible first | exact HB.out | apply below_alloc | apply pw_below_drewN | apply below_drew1 | refine below_set ?_ GE101.out | refine below_set ?_ GE102.out | refine below_set ?_ GE110.out | refine below_set ?_ GE117.out | refine below_set ?_ GE123.out) | exact HB.out)⟩⟩
             ·rw [if_neg c59] at H
              have c59b0 : decide (x111000_2 < (wrap64 (t119 + ((rd_T62 t104 x10_2).f1)))) = false := decide_eq_false c59
              clear c59
              (first | rw [c59b0] | (simp only [i64_w, i32_w]; rw [c59b0]) | skip)
              have H' := Aside0.mk H
              clear H
              have hnb85 := NB123_101.out
              have hnc85 := NB101_123.out
              have hnb86 := NB123_102.out
              have hnc86 := NB102_123.out
              have hnb87 := NB123_110.out
              have hnc87 := NB110_123.out
              have hnb88 := NB123_117.out
              have hnc88 := NB117_123.out
              have hcz89_0 : w52.cell? ⟨gb123, 0, none⟩ = some (.int .i64 0) := (blk_cell BK123.out 0).trans rfl
              have hcz89_1 : w52.cell? ⟨gb123, 1, none⟩ = some (.slice none 0 0) := (blk_cell BK123.out 1).trans rfl
              have hfz89_0 := blk_frozen BK123.out 0
              have hfz89_1 := blk_frozen BK123.out 1
              have hnb90 := NB117_101.out
              have hnc90 := NB101_117.out
              have hnb91 := NB117_102.out
              have hnc91 := NB102_117.out
              have hnb92 := NB117_110.out
              have hnc92 := NB110_117.out
              have hcz93_0 : w52.cell? ⟨gb117, 0, none⟩ = some (.int .i64 ((rd_T62 t104 x10_2).f0)) := (blk_cell BK117.out 0).trans rfl
              have hcz93_1 : w52.cell? ⟨gb117, 1, none⟩ = some (.int .i64 ((rd_T62 t104 x10_2).f1)) := (blk_cell BK117.out 1).trans rfl
              have hfz93_0 := blk_frozen BK117.out 0
              have hfz93_1 := blk_frozen BK117.out 1
              have hnb94 := NB110_101.out
              have hnc94 := NB101_110.out
              have hnb95 := NB110_102.out
              have hnc95 := NB102_110.out
              have hcz96_0 : w52.cell? ⟨gb110, 0, none⟩ = some (.int .i64 x111000_2) := (blk_cell BK110.out 0).trans rfl
              have hcz96_1 : w52.cell? ⟨gb110, 1, none⟩ = some (u111001) := (blk_cell BK110.out 1).trans rfl
              have hfz96_0 := blk_frozen BK110.out 0
              have hfz96_1 := blk_frozen BK110.out 1
              go_wp2
              go_meet
              case rel => exact ⟨_, (false), (by first | rfl | (simp; done) | (simp [*]; done)), H', ⟨by have := HK1.out; have := HK2.out; first | omega | exact Nat.le_refl _⟩, ⟨by (with_reducible repeat (first | apply Kd.R_alloc | apply Kd.R_drewN | apply Kd.R_drew)); exact Kd.R_mono (Kd.R_far (p := ⟨gb123, 1, none⟩) (Kd.R_far (p := ⟨gb123, 0, none⟩) (Kd.R_types HO_102001.out BK123.out (by decide)) (fun _ hk => hk.2) (.int .i64 t119)) (fun _ hk => hk.2) (.slice Ao58 t120.length co58)) (fun _ hk => ⟨hk.1.1.1, ⟨hk.1.2, hk.1.1.2⟩⟩)⟩, ⟨by (with_reducible repeat (first | apply Kd.R_alloc | apply Kd.R_drewN | apply Kd.R_drew)); exact Kd.R_mono (Kd.R_far (p := ⟨gb123, 1, none⟩) (Kd.R_far (p := ⟨gb123, 0, none⟩) (Kd.R_types HO_111001.out BK123.out (by decide)) (fun _ hk => hk.2) (.int .i64 t119)) (fun _ hk => hk.2) (.slice Ao58 t120.length co58)) (fun _ hk => ⟨hk.1.1.1, ⟨hk.1.2, hk.1.1.2⟩⟩)⟩, ⟨by (with_reducible repeat (first | apply Kd.R_alloc | apply Kd.R_drewN | apply Kd.R_drew)); exact Kd.R_mono (Kd.R_far (p := ⟨gb123, 1, none⟩) (Kd.R_far (p := ⟨gb123, 0, none⟩) (Kd.R_types HO122.out BK123.out (by decide)) (fun _ hk => hk.2) (.int .i64 t119)) (fun _ hk => hk.2) (.slice Ao58 t120.length co58)) (fun _ hk => ⟨hk.1.1.1.2, ⟨hk.1.1.2, hk.1.2⟩⟩)⟩, ⟨by (with_reducible repeat (first | refine blk_drewN ?_ _ | refine blk_drew ?_ | refine blk_alloc ?_ _)); refine blk_far ?_ NB101_123.out _; (with_reducible repeat (first | refine blk_drewN ?_ _ | refine blk_drew ?_ | refine blk_alloc ?_ _)); refine blk_far ?_ NB101_123.out _; (with_reducible repeat (first | refine blk_drewN ?_ _ | refine blk_drew ?_ | refine blk_alloc ?_ _)); exact BK101.out⟩, ⟨by (with_reducible repeat (first | refine blk_drewN ?_ _ | refine blk_drew ?_ | refine blk_alloc ?_ _)); refine blk_far ?_ NB102_123.out _; (with_reducible repeat (first | refine blk_drewN ?_ _ | refine blk_drew ?_ | refine blk_alloc ?_ _)); refine blk_far ?_ NB102_123.out _; (with_reducible repeat (first | refine blk_drewN ?_ _ | refine blk_drew ?_ | refine blk_alloc ?_ _)); exact BK102.out⟩, ⟨by (with_reducible repeat (first | refine blk_drewN ?_ _ | refine blk_drew ?_ | refine blk_alloc ?_ _)); refine blk_far ?_ NB110_123.out _; (with_reducible repeat (first | refine blk_drewN ?_ _ | refine blk_drew ?_ | refine blk_alloc ?_ _)); refine blk_far ?_ NB110_123.out _; (with_reducible repeat (first | refine blk_drewN ?_ _ | refine blk_drew ?_ | refine blk_alloc ?_ _)); exact BK110.out⟩, ⟨by (with_reducible repeat (first | refine blk_drewN ?_ _ | refine blk_drew ?_ | refine blk_alloc ?_ _)); refine blk_far ?_ NB117_123.out _; (with_reducible repeat (first | refine blk_drewN ?_ _ | refine blk_drew ?_ | refine blk_alloc ?_ _)); refine blk_far ?_ NB117_123.out _; (with_reducible repeat (first | refine blk_drewN ?_ _ | refine blk_drew ?_ | refine blk_alloc ?_ _)); exact BK117.out⟩, ⟨by (with_reducible repeat (first | refine blk_drewN ?_ _ | refine blk_drew ?_ | refine blk_alloc ?_ _)); refine blk_put (cs := #[.int .i64 t119, .slice none 0 0]) ?_ 1 _ rfl; (with_reducible repeat (first | refine blk_drewN ?_ _ | refine blk_drew ?_ | refine blk_alloc ?_ _)); refine blk_put (cs := #[.int .i64 0, .slice none 0 0]) ?_ 0 _ rfl; (with_reducible repeat (first | refine blk_drewN ?_ _ | refine blk_drew ?_ | refine blk_alloc ?_ _)); exact BK123.out⟩, ⟨by repeat (first | (with_reducible first | exact HB.out | apply below_alloc | apply pw_below_drewN | apply below_drew1 | refine below_set ?_ GE101.out | refine below_set ?_ GE102.out | refine below_set ?_ GE110.out | refine below_set ?_ GE117.out | refine below_set ?_ GE123.out) | exact HB.out)⟩⟩
            case rest =>
             clear HC42
             (try clear c1); (try clear p1); (try clear q1); (try clear hx1); (try clear c2); (try clear p2); (try clear c3); (try clear c4); (try clear c4b0); (try clear c4b1); (try clear c5); (try clear c6); (try clear p6); (try clear c7); (try clear c8); (try clear c9); (try clear c10); (try clear p10); (try clear q10); (try clear hx10); (try clear c11); (try clear p11); (try clear q11); (try clear hx11); (try clear c12); (try clear c12b0); (try clear c13); (try clear c13b0); (try clear c15); (try clear c18); (try clear c20); (try clear c23); (try clear c24); (try clear c26); (try clear c26b0); (try clear c27); (try clear c27b0); (try clear c28); (try clear c28b0); (try clear c29); (try clear c30); (try clear c33); (try clear c34); (try clear c35); (try clear c37); (try clear c39); (try clear c39b0); (try clear c40); (try clear c40b0); (try clear c41); (try clear c43); (try clear c44); (try clear c47); (try clear c48); (try clear c49); (try clear c52); (try clear c53); (try clear c54); (try clear c55); (try clear c56); (try clear c59); (try clear c59b0); (try clear c60); (try clear c60b0); (try clear c61); (try clear c62); (try clear c63); (try clear c64); (try clear p64); (try clear c66); (try clear c67); (try clear c68); (try clear c70); (try clear c71); (try clear c73); (try clear c74); (try clear c75); (try clear c76); (try clear c78); (try clear c79); (try clear c80); (try clear c82); (try clear c83); (try clear c85); (try clear c86); (try clear c87); (try clear c88); (try clear c90); (try clear c91); (try clear c92); (try clear c94); (try clear c95); (try clear hcz10_0); (try clear hcz10_1); (try clear hcz19_0); (try clear hcz19_1); (try clear hcz21_0); (try clear hcz21_1); (try clear hcz25_0); (try clear hcz25_1); (try clear hcz31_0); (try clear hcz31_1); (try clear hcz36_0); (try clear hcz36_1); (try clear hcz38_0); (try clear hcz38_1); (try clear hcz45_0); (try clear hcz45_1); (try clear hcz50_0); (try clear hcz50_1); (try clear hcz57_0); (try clear hcz57_1); (try clear hcz65_0); (try clear hcz65_1); (try clear hcz69_0); (try clear hcz69_1); (try clear hcz72_0); (try clear hcz72_1); (try clear hcz77_0); (try clear hcz77_1); (try clear hcz81_0); (try clear hcz81_1); (try clear hcz84_0); (try clear hcz84_1); (try clear hcz89_0); (try clear hcz89_1); (try clear hcz8_0); (try clear hcz8_1); (try clear hcz93_0); (try clear hcz93_1); (try clear hcz96_0); (try clear hcz96_1); (try clear hfz10_0); (try clear hfz10_1); (try clear hfz19_0); (try clear hfz19_1); (try clear hfz21_0); (try clear hfz21_1); (try clear hfz25_0); (try clear hfz25_1); (try clear hfz31_0); (try clear hfz31_1); (try clear hfz36_0); (try clear hfz36_1); (try clear hfz38_0); (try clear hfz38_1); (try clear hfz45_0); (try clear hfz45_1); (try clear hfz50_0); (try clear hfz50_1); (try clear hfz57_0); (try clear hfz57_1); (try clear hfz65_0); (try clear hfz65_1); (try clear hfz69_0); (try clear hfz69_1); (try clear hfz72_0); (try clear hfz72_1); (try clear hfz77_0); (try clear hfz77_1); (try clear hfz81_0); (try clear hfz81_1); (try clear hfz84_0); (try clear hfz84_1); (try clear hfz89_0); (try clear hfz89_1); (try clear hfz8_0); (try clear hfz8_1); (try clear hfz93_0); (try clear hfz93_1); (try clear hfz96_0); (try clear hfz96_1); (try clear hx108_0); (try clear hx108_1); (try clear hx116_0); (try clear hx116_1); (try clear hx118_0); (try clear hx118_1); (try clear p1); (try clear p10); (try clear p108); (try clear p116); (try clear p118); (try clear p2); (try clear p6); (try clear q1); (try clear q10); (try clear q108); (try clear q116); (try clear q118)
             obtain ⟨kq, x81_41, rfl, HA, HJ41, HO_102001, HO_111001, HO_124001, BK101, BK102, BK110, BK117, BK123, HB⟩ := hcut
             cases kq with
             | zero => exact absurd HA.out (by simp [telamonref1_SubstLevel.j2])
             | succ kj41 =>
              have H := HA.out
              clear HA
              simp only [telamonref1_SubstLevel.j2] at H
              have HC97 := Aside0.mk H
              clear H
              go_upto_if 81 with (fail)
              go_cut [] (fun wc => ∃ (kq : Nat) (x111000_96 : Int), Aside0 (telamonref1_SubstLevel.j3 kq l1 x10_2 t103 t104 x111000_96 x111001_2 ((rd_T62 t104 x10_2).f0) ((rd_T62 t104 x10_2).f1) t119 t120 = some (r1, r2, r3)) ∧ Aside0 (kq ≤ kj41) ∧ Aside0 (Kd.R k62 62 wc w.heap.size (fun k_ => some k_ ≠ (u111001 : Value).ownBlock ∧ some k_ ≠ ((.slice Ao58 t120.length co58) : Value).ownBlock ∧ k_ ≠ gb117) (.slice (some ad116) t104.length co11) t104) ∧ Aside0 (Kd.R k62 62 wc w.heap.size (fun k_ => some k_ ≠ ((.slice (some ad116) t104.length co11) : Value).ownBlock ∧ some k_ ≠ ((.slice Ao58 t120.length co58) : Value).ownBlock ∧ k_ ≠ gb117) u111001 x111001_2) ∧ Aside0 (Kd.R k62 62 wc w.heap.size (fun k_ => some k_ ≠ ((.slice (some ad116) t104.length co11) : Value).ownBlock ∧ some k_ ≠ (u111001 : Value).ownBlock ∧ k_ ≠ gb117) (.slice Ao58 t120.length co58) t120) ∧ Aside0 (wc.heap[gb101]? = some (.cells #[.int .i64 t103, (.slice (some ad116) t104.length co11)] 43 (0, 0))) ∧ Aside0 (wc.heap[gb102]? = some (.cells #[.int .i64 x103000_2, (.slice none 0 0)] 43 (0, 0))) ∧ Aside0 (wc.heap[gb110]? = some (.cells #[.int .i64 x111000_96, u111001] 43 (0, 0))) ∧ Aside0 (wc.heap[gb117]? = some (.cells #[.int .i64 ((rd_T62 t104 x10_2).f0), .int .i64 ((rd_T62 t104 x10_2).f1)] 62 (0, 0))) ∧ Aside0 (wc.heap[gb123]? = some (.cells #[.int .i64 t119, (.slice Ao58 t120.length co58)] 43 (0, 0))) ∧ Aside0 (Below w.heap.size w wc))
              case first =>
               have H := HC97.out
               clear HC97
               by_cases c98 : x81_41 = true
               ·subst c98
                have H1 : (telamonref1_SubstLevel.j3 kj41 l1 x10_2 t103 t104 (wrap64 (t119 + ((rd_T62 t104 x10_2).f1))) x111001_2 ((rd_T62 t104 x10_2).f0) ((rd_T62 t104 x10_2).f1) t119 t120) = some (r1, r2, r3) := by rw [if_pos rfl] at H; exact H
                clear H
                have H := H1
                clear H1
                have H' := Aside0.mk H
                clear H
                have hnb99 := NB123_101.out
                have hnc99 := NB101_123.out
                have hnb100 := NB123_102.out
                have hnc100 := NB102_123.out
                have hnb101 := NB123_110.out
                have hnc101 := NB110_123.out
                have hnb102 := NB123_117.out
                have hnc102 := NB117_123.out
                have hcz103_0 : wc.cell? ⟨gb123, 0, none⟩ = some (.int .i64 t119) := (blk_cell BK123.out 0).trans rfl
                have hcz103_1 : wc.cell? ⟨gb123, 1, none⟩ = some (.slice Ao58 t120.length co58) := (blk_cell BK123.out 1).trans rfl
                have hfz103_0 := blk_frozen BK123.out 0
                have hfz103_1 := blk_frozen BK123.out 1
                have hnb104 := NB117_101.out
                have hnc104 := NB101_117.out
                have hnb105 := NB117_102.out
                have hnc105 := NB102_117.out
                have hnb106 := NB117_110.out
                have hnc106 := NB110_117.out
                have hcz107_0 : wc.cell? ⟨gb117, 0, none⟩ = some (.int .i64 ((rd_T62 t104 x10_2).f0)) := (blk_cell BK117.out 0).trans rfl
                have hcz107_1 : wc.cell? ⟨gb117, 1, none⟩ = some (.int .i64 ((rd_T62 t104 x10_2).f1)) := (blk_cell BK117.out 1).trans rfl
                have hfz107_0 := blk_frozen BK117.out 0
                have hfz107_1 := blk_frozen BK117.out 1
                have hnb108 := NB110_101.out
                have hnc108 := NB101_110.out
                have hnb109 := NB110_102.out
                have hnc109 := NB102_110.out
                have hcz110_0 : wc.cell? ⟨gb110, 0, none⟩ = some (.int .i64 x111000_2) := (blk_cell BK110.out 0).trans rfl
                have hcz110_1 : wc.cell? ⟨gb110, 1, none⟩ = some (u111001) := (blk_cell BK110.out 1).trans rfl
                have hfz110_0 := blk_frozen BK110.out 0
                have hfz110_1 := blk_frozen BK110.out 1
                go_wp2
                go_meet
                case rel => exact ⟨_, (wrap64 (t119 + ((rd_T62 t104 x10_2).f1))), H', ⟨by have := HK1.out; have := HK2.out; have := HJ41.out; first | omega | exact Nat.le_refl _⟩, ⟨by (with_reducible repeat (first | apply Kd.R_alloc | apply Kd.R_drewN | apply Kd.R_drew)); exact Kd.R_mono (Kd.R_far (p := ⟨gb110, 0, none⟩) (Kd.R_types HO_102001.out BK110.out (by decide)) (fun _ hk => hk.2) (.int .i64 (wrap64 (t119 + ((rd_T62 t104 x10_2).f1))))) (fun _ hk => ⟨hk.1.1, ⟨hk.1.2.1, hk.1.2.2⟩⟩)⟩, ⟨by (with_reducible repeat (first | apply Kd.R_alloc | apply Kd.R_drewN | apply Kd.R_drew)); exact Kd.R_mono (Kd.R_far (p := ⟨gb110, 0, none⟩) (Kd.R_types HO_111001.out BK110.out (by decide)) (fun _ hk => hk.2) (.int .i64 (wrap64 (t119 + ((rd_T62 t104 x10_2).f1))))) (fun _ hk => ⟨hk.1.1, ⟨hk.1.2.1, hk.1.2.2⟩⟩)⟩, ⟨by (with_reducible repeat (first | apply Kd.R_alloc | apply Kd.R_drewN | apply Kd.R_drew)); exact Kd.R_mono (Kd.R_far (p := ⟨gb110, 0, none⟩) (Kd.R_types HO_124001.out BK110.out (by decide)) (fun _ hk => hk.2) (.int .i64 (wrap64 (t119 + ((rd_T62 t104 x10_2).f1))))) (fun _ hk => ⟨hk.1.1, ⟨hk.1.2.1, hk.1.2.2⟩⟩)⟩, ⟨by (with_reducible repeat (first | refine blk_drewN ?_ _ | refine blk_drew ?_ | refine blk_alloc ?_ _)); refine blk_far ?_ NB101_110.out _; (with_reducible repeat (first | refine blk_drewN ?_ _ | refine blk_drew ?_ | refine blk_alloc ?_ _)); exact BK101.out⟩, ⟨by (with_reducible repeat (first | refine blk_drewN ?_ _ | refine blk_drew ?_ | refine blk_alloc ?_ _)); refine blk_far ?_ NB102_110.out _; (with_reducible repeat (first | refine blk_drewN ?_ _ | refine blk_drew ?_ | refine blk_alloc ?_ _)); exact BK102.out⟩, ⟨by (with_reducible repeat (first | refine blk_drewN ?_ _ | refine blk_drew ?_ | refine blk_alloc ?_ _)); refine blk_put (cs := #[.int .i64 x111000_2, u111001]) ?_ 0 _ rfl; (with_reducible repeat (first | refine blk_drewN ?_ _ | refine blk_drew ?_ | refine blk_alloc ?_ _)); exact BK110.out⟩, ⟨by (with_reducible repeat (first | refine blk_drewN ?_ _ | refine blk_drew ?_ | refine blk_alloc ?_ _)); refine blk_far ?_ NB117_110.out _; (with_reducible repeat (first | refine blk_drewN ?_ _ | refine blk_drew ?_ | refine blk_alloc ?_ _)); exact BK117.out⟩, ⟨by (with_reducible repeat (first | refine blk_drewN ?_ _ | refine blk_drew ?_ | refine blk_alloc ?_ _)); refine blk_far ?_ NB123_110.out _; (with_reducible repeat (first | refine blk_drewN ?_ _ | refine blk_drew ?_ | refine blk_alloc ?_ _)); exact BK123.out⟩, ⟨by repeat (first | (with_reducible first | exact HB.out | apply below_alloc | apply pw_below_drewN | apply below_drew1 | refine below_set ?_ GE101.out | refine below_set ?_ GE102.out | refine below_set ?_ GE110.out | refine below_set ?_ GE117.out | refine below_set ?_ GE123.out) | exact HB.out)⟩⟩
               ·replace c98 := Bool.eq_false_iff.mpr c98
                subst c98
                have H1 : (telamonref1_SubstLevel.j3 kj41 l1 x10_2 t103 t104 x111000_2 x111001_2 ((rd_T62 t104 x10_2).f0) ((rd_T62 t104 x10_2).f1) t119 t120) = some (r1, r2, r3) := by rw [if_neg (show ¬ (false = true) by decide)] at H; exact H
                clear H
                have H := H1
                clear H1
                have H' := Aside0.mk H
                clear H
                go_wp2
                go_meet
                case rel => exact ⟨_, (x111000_2), H', ⟨by have := HK1.out; have := HK2.out; have := HJ41.out; first | omega | exact Nat.le_refl _⟩, ⟨by (with_reducible repeat (first | apply Kd.R_alloc | apply Kd.R_drewN | apply Kd.R_drew)); exact HO_102001.out⟩, ⟨by (with_reducible repeat (first | apply Kd.R_alloc | apply Kd.R_drewN | apply Kd.R_drew)); exact HO_111001.out⟩, ⟨by (with_reducible repeat (first | apply Kd.R_alloc | apply Kd.R_drewN | apply Kd.R_drew)); exact HO_124001.out⟩, ⟨by (with_reducible repeat (first | refine blk_drewN ?_ _ | refine blk_drew ?_ | refine blk_alloc ?_ _)); exact BK101.out⟩, ⟨by (with_reducible repeat (first | refine blk_drewN ?_ _ | refine blk_drew ?_ | refine blk_alloc ?_ _)); exact BK102.out⟩, ⟨by (with_reducible repeat (first | refine blk_drewN ?_ _ | refine blk_drew ?_ | refine blk_alloc ?_ _)); exact BK110.out⟩, ⟨by (with_reducible repeat (first | refine blk_drewN ?_ _ | refine blk_drew ?_ | refine blk_alloc ?_ _)); exact BK117.out⟩, ⟨by (with_reducible repeat (first | refine blk_drewN ?_ _ | refine blk_drew ?_ | refine blk_alloc ?_ _)); exact BK123.out⟩, ⟨by repeat (first | (with_reducible first | exact HB.out | apply below_alloc | apply pw_below_drewN | apply below_drew1 | refine below_set ?_ GE101.out | refine below_set ?_ GE102.out | refine below_set ?_ GE110.out | refine below_set ?_ GE117.out | refine below_set ?_ GE123.out) | exact HB.out)⟩⟩
              case rest =>
               clear HC97
               (try clear c1); (try clear p1); (try clear q1); (try clear hx1); (try clear c2); (try clear p2); (try clear c3); (try clear c4); (try clear c4b0); (try clear c4b1); (try clear c5); (try clear c6); (try clear p6); (try clear c7); (try clear c8); (try clear c9); (try clear c10); (try clear p10); (try clear q10); (try clear hx10); (try clear c11); (try clear p11); (try clear q11); (try clear hx11); (try clear c12); (try clear c12b0); (try clear c13); (try clear c13b0); (try clear c15); (try clear c18); (try clear c20); (try clear c23); (try clear c24); (try clear c26); (try clear c26b0); (try clear c27); (try clear c27b0); (try clear c28); (try clear c28b0); (try clear c29); (try clear c30); (try clear c33); (try clear c34); (try clear c35); (try clear c37); (try clear c39); (try clear c39b0); (try clear c40); (try clear c40b0); (try clear c41); (try clear c43); (try clear c44); (try clear c47); (try clear c48); (try clear c49); (try clear c52); (try clear c53); (try clear c54); (try clear c55); (try clear c56); (try clear c59); (try clear c59b0); (try clear c60); (try clear c60b0); (try clear c61); (try clear c62); (try clear c63); (try clear c64); (try clear p64); (try clear c66); (try clear c67); (try clear c68); (try clear c70); (try clear c71); (try clear c73); (try clear c74); (try clear c75); (try clear c76); (try clear c78); (try clear c79); (try clear c80); (try clear c82); (try clear c83); (try clear c85); (try clear c86); (try clear c87); (try clear c88); (try clear c90); (try clear c91); (try clear c92); (try clear c94); (try clear c95); (try clear c98); (try clear c99); (try clear c100); (try clear c101); (try clear c102); (try clear c104); (try clear c105); (try clear c106); (try clear c108); (try clear p108); (try clear q108); (try clear hx108); (try clear c109); (try clear hcz103_0); (try clear hcz103_1); (try clear hcz107_0); (try clear hcz107_1); (try clear hcz10_0); (try clear hcz10_1); (try clear hcz110_0); (try clear hcz110_1); (try clear hcz19_0); (try clear hcz19_1); (try clear hcz21_0); (try clear hcz21_1); (try clear hcz25_0); (try clear hcz25_1); (try clear hcz31_0); (try clear hcz31_1); (try clear hcz36_0); (try clear hcz36_1); (try clear hcz38_0); (try clear hcz38_1); (try clear hcz45_0); (try clear hcz45_1); (try clear hcz50_0); (try clear hcz50_1); (try clear hcz57_0); (try clear hcz57_1); (try clear hcz65_0); (try clear hcz65_1); (try clear hcz69_0); (try clear hcz69_1); (try clear hcz72_0); (try clear hcz72_1); (try clear hcz77_0); (try clear hcz77_1); (try clear hcz81_0); (try clear hcz81_1); (try clear hcz84_0); (try clear hcz84_1); (try clear hcz89_0); (try clear hcz89_1); (try clear hcz8_0); (try clear hcz8_1); (try clear hcz93_0); (try clear hcz93_1); (try clear hcz96_0); (try clear hcz96_1); (try clear hfz103_0); (try clear hfz103_1); (try clear hfz107_0); (try clear hfz107_1); (try clear hfz10_0); (try clear hfz10_1); (try clear hfz110_0); (try clear hfz110_1); (try clear hfz19_0); (try clear hfz19_1); (try clear hfz21_0); (try clear hfz21_1); (try clear hfz25_0); (try clear hfz25_1); (try clear hfz31_0); (try clear hfz31_1); (try clear hfz36_0); (try clear hfz36_1); (try clear hfz38_0); (try clear hfz38_1); (try clear hfz45_0); (try clear hfz45_1); (try clear hfz50_0); (try clear hfz50_1); (try clear hfz57_0); (try clear hfz57_1); (try clear hfz65_0); (try clear hfz65_1); (try clear hfz69_0); (try clear hfz69_1); (try clear hfz72_0); (try clear hfz72_1); (try clear hfz77_0); (try clear hfz77_1); (try clear hfz81_0); (try clear hfz81_1); (try clear hfz84_0); (try clear hfz84_1); (try clear hfz89_0); (try clear hfz89_1); (try clear hfz8_0); (try clear hfz8_1); (try clear hfz93_0); (try clear hfz93_1); (try clear hfz96_0); (try clear hfz96_1); (try clear hx108_0); (try clear hx108_1); (try clear hx116_0); (try clear hx116_1); (try clear hx118_0); (try clear hx118_1); (try clear p1); (try clear p10); (try clear p108); (try clear p11); (try clear p116); (try clear p118); (try clear p2); (try clear p6); (try clear p64); (try clear q1); (try clear q10); (try clear q108); (try clear q11); (try clear q116); (try clear q118)
               obtain ⟨kq, x111000_96, HA, HJ96, HO_102001, HO_111001, HO_124001, BK101, BK102, BK110, BK117, BK123, HB⟩ := hcut
               cases kq with
               | zero => exact absurd HA.out (by simp [telamonref1_SubstLevel.j3])
               | succ kj96 =>
                have H := HA.out
                clear HA
                simp only [telamonref1_SubstLevel.j3] at H
                have H' := Aside0.mk H
                clear H
                go_wp2
                go_loopg [13] kj96 (fun kq v13 w' => ∃ (x13_5 : Int) (x111001_5 : List (S62)) (u111001 : Value), v13 = .int .i64 x13_5 ∧ Aside0 (telamonref1_SubstLevel.l2 kq l1 x10_2 x13_5 t103 t104 x111000_96 x111001_5 ((rd_T62 t104 x10_2).f0) ((rd_T62 t104 x10_2).f1) t119 t120 = some (r1, r2, r3)) ∧ Aside0 (kq ≤ kj96) ∧ Aside0 (Kd.R k62 62 w' w.heap.size (fun k_ => some k_ ≠ (u111001 : Value).ownBlock ∧ some k_ ≠ ((.slice Ao58 t120.length co58) : Value).ownBlock ∧ k_ ≠ gb117) (.slice (some ad116) t104.length co11) t104) ∧ Aside0 (Kd.R k62 62 w' w.heap.size (fun k_ => some k_ ≠ ((.slice (some ad116) t104.length co11) : Value).ownBlock ∧ some k_ ≠ ((.slice Ao58 t120.length co58) : Value).ownBlock ∧ k_ ≠ gb117) u111001 x111001_5) ∧ Aside0 (Kd.R k62 62 w' w.heap.size (fun k_ => some k_ ≠ ((.slice (some ad116) t104.length co11) : Value).ownBlock ∧ some k_ ≠ (u111001 : Value).ownBlock ∧ k_ ≠ gb117) (.slice Ao58 t120.length co58) t120) ∧ Aside0 (w'.heap[gb101]? = some (.cells #[.int .i64 t103, (.slice (some ad116) t104.length co11)] 43 (0, 0))) ∧ Aside0 (w'.heap[gb102]? = some (.cells #[.int .i64 x103000_2, (.slice none 0 0)] 43 (0, 0))) ∧ Aside0 (w'.heap[gb110]? = some (.cells #[.int .i64 x111000_96, u111001] 43 (0, 0))) ∧ Aside0 (w'.heap[gb117]? = some (.cells #[.int .i64 ((rd_T62 t104 x10_2).f0), .int .i64 ((rd_T62 t104 x10_2).f1)] 62 (0, 0))) ∧ Aside0 (w'.heap[gb123]? = some (.cells #[.int .i64 t119, (.slice Ao58 t120.length co58)] 43 (0, 0))) ∧ Aside0 (Below w.heap.size w w'))
                case atStart => exact ⟨(0), (x111001_2), (u111001), (by first | rfl | (simp; done) | (simp [*]; done)), H', ⟨Nat.le_refl _⟩, ⟨by (with_reducible repeat (first | apply Kd.R_alloc | apply Kd.R_drewN | apply Kd.R_drew)); exact HO_102001.out⟩, ⟨by (with_reducible repeat (first | apply Kd.R_alloc | apply Kd.R_drewN | apply Kd.R_drew)); exact HO_111001.out⟩, ⟨by (with_reducible repeat (first | apply Kd.R_alloc | apply Kd.R_drewN | apply Kd.R_drew)); exact HO_124001.out⟩, ⟨by (with_reducible repeat (first | refine blk_drewN ?_ _ | refine blk_drew ?_ | refine blk_alloc ?_ _)); exact BK101.out⟩, ⟨by (with_reducible repeat (first | refine blk_drewN ?_ _ | refine blk_drew ?_ | refine blk_alloc ?_ _)); exact BK102.out⟩, ⟨by (with_reducible repeat (first | refine blk_drewN ?_ _ | refine blk_drew ?_ | refine blk_alloc ?_ _)); exact BK110.out⟩, ⟨by (with_reducible repeat (first | refine blk_drewN ?_ _ | refine blk_drew ?_ | refine blk_alloc ?_ _)); exact BK117.out⟩, ⟨by (with_reducible repeat (first | refine blk_drewN ?_ _ | refine blk_drew ?_ | refine blk_alloc ?_ _)); exact BK123.out⟩, ⟨by repeat (first | (with_reducible first | exact HB.out | apply below_alloc | apply pw_below_drewN | apply below_drew1 | refine below_set ?_ GE101.out | refine below_set ?_ GE102.out | refine below_set ?_ GE110.out | refine below_set ?_ GE117.out | refine below_set ?_ GE123.out) | exact HB.out)⟩⟩
                case round =>
                 clear H'
                 (try clear c1); (try clear p1); (try clear q1); (try clear hx1); (try clear c2); (try clear p2); (try clear c3); (try clear c4); (try clear c4b0); (try clear c4b1); (try clear c5); (try clear c6); (try clear p6); (try clear c7); (try clear c8); (try clear c9); (try clear c10); (try clear p10); (try clear q10); (try clear hx10); (try clear c11); (try clear p11); (try clear q11); (try clear hx11); (try clear c12); (try clear c12b0); (try clear c13); (try clear c13b0); (try clear c15); (try clear c18); (try clear c20); (try clear c23); (try clear c24); (try clear c26); (try clear c26b0); (try clear c27); (try clear c27b0); (try clear c28); (try clear c28b0); (try clear c29); (try clear c30); (try clear c33); (try clear c34); (try clear c35); (try clear c37); (try clear c39); (try clear c39b0); (try clear c40); (try clear c40b0); (try clear c41); (try clear c43); (try clear c44); (try clear c47); (try clear c48); (try clear c49); (try clear c52); (try clear c53); (try clear c54); (try clear c55); (try clear c56); (try clear c59); (try clear c59b0); (try clear c60); (try clear c60b0); (try clear c61); (try clear c62); (try clear c63); (try clear c64); (try clear p64); (try clear c66); (try clear c67); (try clear c68); (try clear c70); (try clear c71); (try clear c73); (try clear c74); (try clear c75); (try clear c76); (try clear c78); (try clear c79); (try clear c80); (try clear c82); (try clear c83); (try clear c85); (try clear c86); (try clear c87); (try clear c88); (try clear c90); (try clear c91); (try clear c92); (try clear c94); (try clear c95); (try clear c98); (try clear c99); (try clear c100); (try clear c101); (try clear c102); (try clear c104); (try clear c105); (try clear c106); (try clear c108); (try clear p108); (try clear q108); (try clear hx108); (try clear c109); (try clear hcz103_0); (try clear hcz103_1); (try clear hcz107_0); (try clear hcz107_1); (try clear hcz10_0); (try clear hcz10_1); (try clear hcz110_0); (try clear hcz110_1); (try clear hcz19_0); (try clear hcz19_1); (try clear hcz21_0); (try clear hcz21_1); (try clear hcz25_0); (try clear hcz25_1); (try clear hcz31_0); (try clear hcz31_1); (try clear hcz36_0); (try clear hcz36_1); (try clear hcz38_0); (try clear hcz38_1); (try clear hcz45_0); (try clear hcz45_1); (try clear hcz50_0); (try clear hcz50_1); (try clear hcz57_0); (try clear hcz57_1); (try clear hcz65_0); (try clear hcz65_1); (try clear hcz69_0); (try clear hcz69_1); (try clear hcz72_0); (try clear hcz72_1); (try clear hcz77_0); (try clear hcz77_1); (try clear hcz81_0); (try clear hcz81_1); (try clear hcz84_0); (try clear hcz84_1); (try clear hcz89_0); (try clear hcz89_1); (try clear hcz8_0); (try clear hcz8_1); (try clear hcz93_0); (try clear hcz93_1); (try clear hcz96_0); (try clear hcz96_1); (try clear hfz103_0); (try clear hfz103_1); (try clear hfz107_0); (try clear hfz107_1); (try clear hfz10_0); (try clear hfz10_1); (try clear hfz110_0); (try clear hfz110_1); (try clear hfz19_0); (try clear hfz19_1); (try clear hfz21_0); (try clear hfz21_1); (try clear hfz25_0); (try clear hfz25_1); (try clear hfz31_0); (try clear hfz31_1); (try clear hfz36_0); (try clear hfz36_1); (try clear hfz38_0); (try clear hfz38_1); (try clear hfz45_0); (try clear hfz45_1); (try clear hfz50_0); (try clear hfz50_1); (try clear hfz57_0); (try clear hfz57_1); (try clear hfz65_0); (try clear hfz65_1); (try clear hfz69_0); (try clear hfz69_1); (try clear hfz72_0); (try clear hfz72_1); (try clear hfz77_0); (try clear hfz77_1); (try clear hfz81_0); (try clear hfz81_1); (try clear hfz84_0); (try clear hfz84_1); (try clear hfz89_0); (try clear hfz89_1); (try clear hfz8_0); (try clear hfz8_1); (try clear hfz93_0); (try clear hfz93_1); (try clear hfz96_0); (try clear hfz96_1); (try clear hx108_0); (try clear hx108_1); (try clear hx116_0); (try clear hx116_1); (try clear hx118_0); (try clear hx118_1); (try clear p1); (try clear p10); (try clear p108); (try clear p11); (try clear p116); (try clear p118); (try clear p2); (try clear p6); (try clear p64); (try clear q1); (try clear q10); (try clear q108); (try clear q11); (try clear q116); (try clear q118)
                 obtain ⟨x13_5, x111001_5, u111001, rfl, HA, HK5, HO_102001, HO_111001, HO_124001, BK101, BK102, BK110, BK117, BK123, HB⟩ := hrel
                 cases gk with
                 | zero => exact absurd HA.out (by simp [telamonref1_SubstLevel.l2])
                 | succ k5 =>
                  have H := HA.out
                  clear HA
                  simp only [telamonref1_SubstLevel.l2] at H
                  by_cases c111 : x13_5 < (t120.length : Int)
                  ·rw [if_pos c111] at H
                   have c111b0 : decide (x13_5 < (t120.length : Int)) = true := decide_eq_true c111
                   clear c111
                   by_cases c112 : 0 ≤ x13_5
                   ·rw [if_pos c112] at H
                    have c112b0 : decide (0 ≤ x13_5) = true := decide_eq_true c112
                    clear c112
                    by_cases c113 : x111001_5.length < 8796093022208
                    ·rw [if_pos c113] at H
                     have LMc113 := Aside0.mk c113
                     clear c113
                     obtain ⟨y126, hy126⟩ : ∃ y_ : List (S62), y_ = (x111001_5 ++ [(⟨(rd_T62 t120 x13_5).f0, wrap64 (((rd_T62 t120 x13_5).f1) + ((rd_T62 t104 x10_2).f1))⟩ : S62)]) := ⟨_, rfl⟩
                     replace H : (telamonref1_SubstLevel.l2 k5 l1 x10_2 (wrap64 (x13_5 + 1)) t103 t104 x111000_96 y126 ((rd_T62 t104 x10_2).f0) ((rd_T62 t104 x10_2).f1) t119 t120) = some (r1, r2, r3) := by first | (rw [hy126]; with_reducible exact H) | (have H2_ := (Option.bind_some _ _).symm.trans H; rw [hy126]; with_reducible exact H2_) | (have H2_ := (Option.bind_some _ _).symm.trans H; with_reducible exact H2_) | with_reducible exact H | (rw [hy126]; exact H) | exact H
                     have Ny126 := Aside0.mk hy126
                     clear hy126
                     have H' := Aside0.mk H
                     clear H
                     have hnb114 := NB123_101.out
                     have hnc114 := NB101_123.out
                     have hnb115 := NB123_102.out
                     have hnc115 := NB102_123.out
                     have hnb116 := NB123_110.out
                     have hnc116 := NB110_123.out
                     have hnb117 := NB123_117.out
                     have hnc117 := NB117_123.out
                     have hcz118_0 : wr.cell? ⟨gb123, 0, none⟩ = some (.int .i64 t119) := (blk_cell BK123.out 0).trans rfl
                     have hcz118_1 : wr.cell? ⟨gb123, 1, none⟩ = some (.slice Ao58 t120.length co58) := (blk_cell BK123.out 1).trans rfl
                     have hfz118_0 := blk_frozen BK123.out 0
                     have hfz118_1 := blk_frozen BK123.out 1
                     try go_wp2
                     replace HO_102001 := Aside0.mk (Kd.R_drew HO_102001.out)
                     replace HO_111001 := Aside0.mk (Kd.R_drew HO_111001.out)
                     replace HO_124001 := Aside0.mk (Kd.R_drew HO_124001.out)
                     replace BK101 := Aside0.mk (blk_drew BK101.out)
                     replace BK102 := Aside0.mk (blk_drew BK102.out)
                     replace BK110 := Aside0.mk (blk_drew BK110.out)
                     replace BK117 := Aside0.mk (blk_drew BK117.out)
                     replace BK123 := Aside0.mk (blk_drew BK123.out)
                     replace HB := Aside0.mk (below_drew1 HB.out)
                     have p124 : 0 ≤ (x13_5 : Int) := of_decide_eq_true (by first | (with_reducible assumption) | assumption)
                     have q124 : x13_5 < (t120.length : Int) := of_decide_eq_true (by first | (with_reducible assumption) | assumption)
                     obtain ⟨ad124, e124, hx124_0, hx124_1⟩ := at_T62 (Kd.R_reads' HO_124001.out).2.2 x13_5 p124 q124
                     cases e124
                     replace p124 := eq_true p124
                     replace q124 := eq_true q124
                     have p125 : 0 ≤ (x13_5 : Int) := of_decide_eq_true (by first | (with_reducible assumption) | assumption)
                     have q125 : x13_5 < (t120.length : Int) := of_decide_eq_true (by first | (with_reducible assumption) | assumption)
                     obtain ⟨ad125, e125, hx125_0, hx125_1⟩ := at_T62 (Kd.R_reads' HO_124001.out).2.2 x13_5 p125 q125
                     obtain rfl : ad124 = ad125 := (by injection e125)
                     replace p125 := eq_true p125
                     replace q125 := eq_true q125
                     refine start_ (n := 22) (S := fun w' => w'.cell? ⟨gb110, 0, none⟩ = some (.int .i64 x111000_96) ∧ w'.cell? ⟨gb110, 1, none⟩ = some (u111001) ∧ w'.cell? ⟨gb123, 0, none⟩ = some (.int .i64 t119) ∧ w'.cell? ⟨gb123, 1, none⟩ = some (.slice (some ad124) t120.length co58) ∧ w'.cell? ⟨gb117, 0, none⟩ = some (.int .i64 ((rd_T62 t104 x10_2).f0)) ∧ w'.cell? ⟨gb117, 1, none⟩ = some (.int .i64 ((rd_T62 t104 x10_2).f1)) ∧ w'.cell? (ad124.add ((x13_5).toNat * 2)) = some (.int .i64 ((rd_T62 t120 x13_5).f0)) ∧ w'.cell? ⟨(ad124.add ((x13_5).toNat * 2)).block, (ad124.add ((x13_5).toNat * 2)).off + 1, none⟩ = some (.int .i64 ((rd_T62 t120 x13_5).f1)) ∧ w'.cell? (ad124.add ((x13_5).toNat * 2)) = some (.int .i64 ((rd_T62 t120 x13_5).f0)) ∧ w'.cell? ⟨(ad124.add ((x13_5).toNat * 2)).block, (ad124.add ((x13_5).toNat * 2)).off + 1, none⟩ = some (.int .i64 ((rd_T62 t120 x13_5).f1))) (ds := [19, 21]) #[false, false, false, false, false, false, false, false, false, false, false, false, false, false, false, false, false, false, false, false, false, false] (by kernel_rfl) rfl rfl ⟨(blk_cell BK110.out 0).trans rfl, (blk_cell BK110.out 1).trans rfl, (blk_cell BK123.out 0).trans rfl, (blk_cell BK123.out 1).trans rfl, (blk_cell BK117.out 0).trans rfl, (blk_cell BK117.out 1).trans rfl, hx124_0, hx124_1, hx125_0, hx125_1⟩ (fun hHeld => ?_); refine with_tabW telamonref1_SubstLevel.tab23 telamonref1_SubstLevel.bits23 (fun HT_ HW_ => ?_)
                     generalize wr.drew = w119 at HO_102001 HO_111001 HO_124001 BK101 BK102 BK110 BK117 BK123 HB hx124_0 hx124_1 hx125_0 hx125_1 hHeld ⊢
                     refine pure_ (i := 0) (N := some 95) (v := ?_) (a' := ?_) #[true, false, false, false, false, false, false, false, false, false, false, false, false, false, false, false, false, false, false, false, false, false] rfl rfl (any_of HT_.out (by kernel_rfl)) (fun _ _ _ h => h) (Or.inl ⟨by rfl, ?_⟩) ?_ ?_
                     rotate_left
                     ·intro w'
                      go_simp
                      with_reducible rfl
                     rotate_left
                     ·simp only [Act.put, List.setIfInBounds_toArray, List.set_cons_zero, List.set_cons_succ, i64_w, i32_w]
                      rfl
                     refine pure_ (i := 2) (N := some 97) (v := ?_) (a' := ?_) #[true, false, true, false, false, false, false, false, false, false, false, false, false, false, false, false, false, false, false, false, false, false] rfl rfl (any_of HT_.out (by kernel_rfl)) (fun _ _ _ h => h) (Or.inl ⟨by rfl, ?_⟩) ?_ ?_
                     rotate_left
                     ·intro w'
                      go_simp
                      with_reducible rfl
                     rotate_left
                     ·simp only [Act.put, List.setIfInBounds_toArray, List.set_cons_zero, List.set_cons_succ, i64_w, i32_w]
                      rfl
                     refine pure_ (i := 4) (N := some 99) (v := ?_) (a' := ?_) #[true, false, true, false, true, false, false, false, false, false, false, false, false, false, false, false, false, false, false, false, false, false] rfl rfl (any_of HT_.out (by kernel_rfl)) (fun _ _ _ h => h) (Or.inl ⟨by rfl, ?_⟩) ?_ ?_
                     rotate_left
                     ·intro w'
                      go_simp
                      with_reducible rfl
                     rotate_left
                     ·simp only [Act.put, List.setIfInBounds_toArray, List.set_cons_zero, List.set_cons_succ, i64_w, i32_w]
                      rfl
                     refine pure_ (i := 8) (N := some 103) (v := ?_) (a' := ?_) #[true, false, true, false, true, false, false, false, true, false, false, false, false, false, false, false, false, false, false, false, false, false] rfl rfl (any_of HT_.out (by kernel_rfl)) (fun _ _ _ h => h) (Or.inl ⟨by rfl, ?_⟩) ?_ ?_
                     rotate_left
                     ·intro w'
                      go_simp
                      with_reducible rfl
                     rotate_left
                     ·simp only [Act.put, List.setIfInBounds_toArray, List.set_cons_zero, List.set_cons_succ, i64_w, i32_w]
                      rfl
                     refine pure_ (i := 10) (N := some 105) (v := ?_) (a' := ?_) #[true, false, true, false, true, false, false, false, true, false, true, false, false, false, false, false, false, false, false, false, false, false] rfl rfl (any_of HT_.out (by kernel_rfl)) (fun _ _ _ h => h) (Or.inl ⟨by rfl, ?_⟩) ?_ ?_
                     rotate_left
                     ·intro w'
                      go_simp
                      with_reducible rfl
                     rotate_left
                     ·simp only [Act.put, List.setIfInBounds_toArray, List.set_cons_zero, List.set_cons_succ, i64_w, i32_w]
                      rfl
                     refine pure_ (i := 14) (N := some 109) (v := ?_) (a' := ?_) #[true, false, true, false, true, false, false, false, true, false, true, false, false, false, true, false, false, false, false, false, false, false] rfl rfl (any_of HT_.out (by kernel_rfl)) (fun _ _ _ h => h) (Or.inl ⟨by rfl, ?_⟩) ?_ ?_
                     rotate_left
                     ·intro w'
                      go_simp
                      with_reducible rfl
                     rotate_left
                     ·simp only [Act.put, List.setIfInBounds_toArray, List.set_cons_zero, List.set_cons_succ, i64_w, i32_w]
                      rfl
                     refine take_ (i := 1) (N := some 96) (v := ?_) (a' := ?_) #[true, true, true, false, true, false, false, false, true, false, true, false, false, false, true, false, false, false, false, false, false, false] rfl rfl (take_ofW HT_.out HW_.out (by kernel_rfl)) (fun _ _ _ h => h) (Or.inl ⟨by rfl, ?_⟩) hHeld ?_ ?_
                     rotate_left
                     ·rintro w' ⟨s0, s1, s2, s3, s4, s5, s6, s7, s8, s9⟩
                      go_simp
                      with_reducible rfl
                     rotate_left
                     ·simp only [Act.put, List.setIfInBounds_toArray, List.set_cons_zero, List.set_cons_succ, i64_w, i32_w]
                      rfl
                     refine take_ (i := 3) (N := some 98) (v := ?_) (a' := ?_) #[true, true, true, true, true, false, false, false, true, false, true, false, false, false, true, false, false, false, false, false, false, false] rfl rfl (take_ofW HT_.out HW_.out (by kernel_rfl)) (fun _ _ _ h => h) (Or.inl ⟨by rfl, ?_⟩) hHeld ?_ ?_
                     rotate_left
                     ·rintro w' ⟨s0, s1, s2, s3, s4, s5, s6, s7, s8, s9⟩
                      go_simp
                      with_reducible rfl
                     rotate_left
                     ·simp only [Act.put, List.setIfInBounds_toArray, List.set_cons_zero, List.set_cons_succ, i64_w, i32_w]
                      rfl
                     refine pure_ (i := 5) (N := some 100) (v := ?_) (a' := ?_) #[true, true, true, true, true, true, false, false, true, false, true, false, false, false, true, false, false, false, false, false, false, false] rfl rfl (any_of HT_.out (by kernel_rfl)) (fun _ _ _ h => h) (Or.inl ⟨by rfl, ?_⟩) ?_ ?_
                     rotate_left
                     ·intro w'
                      go_simp
                      with_reducible rfl
                     rotate_left
                     ·simp only [Act.put, List.setIfInBounds_toArray, List.set_cons_zero, List.set_cons_succ, i64_w, i32_w]
                      rfl
                     refine pure_ (i := 6) (N := some 101) (v := ?_) (a' := ?_) #[true, true, true, true, true, true, true, false, true, false, true, false, false, false, true, false, false, false, false, false, false, false] rfl rfl (any_of HT_.out (by kernel_rfl)) (fun _ _ _ h => h) (Or.inl ⟨by rfl, ?_⟩) ?_ ?_
                     rotate_left
                     ·intro w'
                      go_simp
                      with_reducible rfl
                     rotate_left
                     ·simp only [Act.put, List.setIfInBounds_toArray, List.set_cons_zero, List.set_cons_succ, i64_w, i32_w]
                      rfl
                     refine take_ (i := 7) (N := some 102) (v := ?_) (a' := ?_) #[true, true, true, true, true, true, true, true, true, false, true, false, false, false, true, false, false, false, false, false, false, false] rfl rfl (take_ofW HT_.out HW_.out (by kernel_rfl)) (fun _ _ _ h => h) (Or.inl ⟨by rfl, ?_⟩) hHeld ?_ ?_
                     rotate_left
                     ·rintro w' ⟨s0, s1, s2, s3, s4, s5, s6, s7, s8, s9⟩
                      go_simp
                      with_reducible rfl
                     rotate_left
                     ·simp only [Act.put, List.setIfInBounds_toArray, List.set_cons_zero, List.set_cons_succ, i64_w, i32_w]
                      rfl
                     refine take_ (i := 9) (N := some 104) (v := ?_) (a' := ?_) #[true, true, true, true, true, true, true, true, true, true, true, false, false, false, true, false, false, false, false, false, false, false] rfl rfl (take_ofW HT_.out HW_.out (by kernel_rfl)) (fun _ _ _ h => h) (Or.inl ⟨by rfl, ?_⟩) hHeld ?_ ?_
                     rotate_left
                     ·rintro w' ⟨s0, s1, s2, s3, s4, s5, s6, s7, s8, s9⟩
                      go_simp
                      with_reducible rfl
                     rotate_left
                     ·simp only [Act.put, List.setIfInBounds_toArray, List.set_cons_zero, List.set_cons_succ, i64_w, i32_w]
                      rfl
                     refine pure_ (i := 11) (N := some 106) (v := ?_) (a' := ?_) #[true, true, true, true, true, true, true, true, true, true, true, true, false, false, true, false, false, false, false, false, false, false] rfl rfl (any_of HT_.out (by kernel_rfl)) (fun _ _ _ h => h) (Or.inl ⟨by rfl, ?_⟩) ?_ ?_
                     rotate_left
                     ·intro w'
                      go_simp
                      with_reducible rfl
                     rotate_left
                     ·simp only [Act.put, List.setIfInBounds_toArray, List.set_cons_zero, List.set_cons_succ, i64_w, i32_w]
                      rfl
                     refine pure_ (i := 12) (N := some 107) (v := ?_) (a' := ?_) #[true, true, true, true, true, true, true, true, true, true, true, true, true, false, true, false, false, false, false, false, false, false] rfl rfl (any_of HT_.out (by kernel_rfl)) (fun _ _ _ h => h) (Or.inl ⟨by rfl, ?_⟩) ?_ ?_
                     rotate_left
                     ·intro w'
                      go_simp
                      with_reducible rfl
                     rotate_left
                     ·simp only [Act.put, List.setIfInBounds_toArray, List.set_cons_zero, List.set_cons_succ, i64_w, i32_w]
                      rfl
                     refine take_ (i := 13) (N := some 108) (v := ?_) (a' := ?_) #[true, true, true, true, true, true, true, true, true, true, true, true, true, true, true, false, false, false, false, false, false, false] rfl rfl (take_ofW HT_.out HW_.out (by kernel_rfl)) (fun _ _ _ h => h) (Or.inl ⟨by rfl, ?_⟩) hHeld ?_ ?_
                     rotate_left
                     ·rintro w' ⟨s0, s1, s2, s3, s4, s5, s6, s7, s8, s9⟩
                      go_simp
                      with_reducible rfl
                     rotate_left
                     ·simp only [Act.put, List.setIfInBounds_toArray, List.set_cons_zero, List.set_cons_succ, i64_w, i32_w]
                      rfl
                     refine take_ (i := 15) (N := some 110) (v := ?_) (a' := ?_) #[true, true, true, true, true, true, true, true, true, true, true, true, true, true, true, true, false, false, false, false, false, false] rfl rfl (take_ofW HT_.out HW_.out (by kernel_rfl)) (fun _ _ _ h => h) (Or.inl ⟨by rfl, ?_⟩) hHeld ?_ ?_
                     rotate_left
                     ·rintro w' ⟨s0, s1, s2, s3, s4, s5, s6, s7, s8, s9⟩
                      go_simp
                      with_reducible rfl
                     rotate_left
                     ·simp only [Act.put, List.setIfInBounds_toArray, List.set_cons_zero, List.set_cons_succ, i64_w, i32_w]
                      rfl
                     refine pure_ (i := 16) (N := some 111) (v := ?_) (a' := ?_) #[true, true, true, true, true, true, true, true, true, true, true, true, true, true, true, true, true, false, false, false, false, false] rfl rfl (any_of HT_.out (by kernel_rfl)) (fun _ _ _ h => h) (Or.inl ⟨by rfl, ?_⟩) ?_ ?_
                     rotate_left
                     ·intro w'
                      go_simp
                      with_reducible rfl
                     rotate_left
                     ·simp only [Act.put, List.setIfInBounds_toArray, List.set_cons_zero, List.set_cons_succ, i64_w, i32_w]
                      rfl
                     refine pure_ (i := 17) (N := some 112) (v := ?_) (a' := ?_) #[true, true, true, true, true, true, true, true, true, true, true, true, true, true, true, true, true, true, false, false, false, false] rfl rfl (any_of HT_.out (by kernel_rfl)) (fun _ _ _ h => h) (Or.inl ⟨by rfl, ?_⟩) ?_ ?_
                     rotate_left
                     ·intro w'
                      go_simp
                      with_reducible rfl
                     rotate_left
                     ·simp only [Act.put, List.setIfInBounds_toArray, List.set_cons_zero, List.set_cons_succ, i64_w, i32_w]
                      rfl
                     refine one_ (i := 18) (N := some 113) #[true, true, true, true, true, true, true, true, true, true, true, true, true, true, true, true, true, true, true, false, false, false] rfl rfl (one_of HT_.out (by kernel_rfl)) (by decide) (fun K hK => ?_)
                     refine value_ (w1 := ?_) (v := ?_) (by rfl) rfl ?_ ?_
                     rotate_left 2
                     ·go_simp
                      constructor
                      ·rfl
                      ·rfl
                     refine hK.out _ _ ⟨(blk_cell (blk_alloc BK110.out _) 0).trans rfl, (blk_cell (blk_alloc BK110.out _) 1).trans rfl, (blk_cell (blk_alloc BK123.out _) 0).trans rfl, (blk_cell (blk_alloc BK123.out _) 1).trans rfl, (blk_cell (blk_alloc BK117.out _) 0).trans rfl, (blk_cell (blk_alloc BK117.out _) 1).trans rfl, (World.cell?_alloc_lt _ _ _ (World.block_lt_of_cell? _ _ (hHeld.2.2.2.2.2.2.1))).trans (hHeld.2.2.2.2.2.2.1), (World.cell?_alloc_lt _ _ _ (World.block_lt_of_cell? _ _ (hHeld.2.2.2.2.2.2.2.1))).trans (hHeld.2.2.2.2.2.2.2.1), (World.cell?_alloc_lt _ _ _ (World.block_lt_of_cell? _ _ (hHeld.2.2.2.2.2.2.2.2.1))).trans (hHeld.2.2.2.2.2.2.2.2.1), (World.cell?_alloc_lt _ _ _ (World.block_lt_of_cell? _ _ (hHeld.2.2.2.2.2.2.2.2.2))).trans (hHeld.2.2.2.2.2.2.2.2.2)⟩ (fun hHeld => ?_)
                     clear hK K
                     refine norm_ (a' := ?_) ?_ ?_
                     rotate_left
                     ·show Act.put _ (some 113) _ = _
                      simp only [Act.put, List.setIfInBounds_toArray, List.set_cons_zero, List.set_cons_succ, i64_w, i32_w]
                      rfl
                     refine last_ (i := 19) (N := some 114) #[true, true, true, true, true, true, true, true, true, true, true, true, true, true, true, true, true, true, true, true, false, false] rfl rfl (one_of HT_.out (by kernel_rfl)) (by decide) (fun K hK => ?_)
                     refine Kd.R_append_step k62 (w0 := w) w.heap.size (by rfl) (.tmp 96) (.tmp 113) 41 62 (.agg #[(.int .i64 0), (.int .i64 0)]) 16 rfl Try.underlying41 info62 rfl (by decide) (by omega) u111001 x111001_5 (⟨(rd_T62 t120 x13_5).f0, wrap64 (((rd_T62 t120 x13_5).f1) + ((rd_T62 t104 x10_2).f1))⟩ : S62) [.int .i64 ((rd_T62 t120 x13_5).f0), .int .i64 (wrap64 (((rd_T62 t120 x13_5).f1) + ((rd_T62 t104 x10_2).f1)))] (fun k_ => some k_ ≠ (.slice (some ad116) t104.length co11 : Value).ownBlock ∧ some k_ ≠ (.slice (some ad124) t120.length co58 : Value).ownBlock ∧ k_ ≠ gb117) (fun _ => False) rfl rfl ?aP (fun _ hk => hk.elim) ?aF ?aO ?aB ?aS ?aL ?_
                     (case aP => exact k62_mkM _ _ _ (⟨(rd_T62 t120 x13_5).f0, wrap64 (((rd_T62 t120 x13_5).f1) + ((rd_T62 t104 x10_2).f1))⟩ : S62))
                     (case aB => exact (bl_ HB))
                     (case aF => exact (fun k_ hk => ⟨Kd.fresh' (Kd.R_lt (rl_ HO_102001)) k_ hk, Kd.fresh' (Kd.R_lt (rl_ HO_124001)) k_ hk, Kd.freshB (g := gb117) (o := .cells #[.int .i64 ((rd_T62 t104 x10_2).f0), .int .i64 ((rd_T62 t104 x10_2).f1)] 62 (0, 0)) (pl_ BK117) k_ hk⟩))
                     (case aO => exact (rl_ HO_111001))
                     (case aS => exact (below_size (bl_ HB)))
                     (case aL => have := LMc113.out; omega)
                     intro v127 w120 ho hb hg hat
                     rw [← Ny126.out] at ho
                     have HO128 := Aside0.mk (ho)
                     replace HO_102001 := Aside0.mk (Kd.R_after (ok := (fun k_ => some k_ ≠ (.slice (some ad124) t120.length co58 : Value).ownBlock ∧ k_ ≠ gb117)) (by (with_reducible repeat (first | apply Kd.R_alloc | apply Kd.R_drewN | apply Kd.R_drew)); exact Kd.R_mono HO_102001.out (fun _ hk => ⟨⟨hk.2.1, hk.2.2⟩, hk.1⟩)) hg hat)
                     replace HO_124001 := Aside0.mk (Kd.R_after (ok := (fun k_ => some k_ ≠ (.slice (some ad116) t104.length co11 : Value).ownBlock ∧ k_ ≠ gb117)) (by (with_reducible repeat (first | apply Kd.R_alloc | apply Kd.R_drewN | apply Kd.R_drew)); exact Kd.R_mono HO_124001.out (fun _ hk => ⟨⟨hk.1, hk.2.2⟩, hk.2.1⟩)) hg hat)
                     replace BK101 := Aside0.mk (blk_grown (g := gb101) (o := .cells #[.int .i64 t103, .slice (some ad116) t104.length co11] 43 (0, 0)) (pl_ BK101) hg (Kd.R_ne HO_111001.out BK101.out (by decide)))
                     replace BK102 := Aside0.mk (blk_grown (g := gb102) (o := .cells #[.int .i64 x103000_2, .slice none 0 0] 43 (0, 0)) (pl_ BK102) hg (Kd.R_ne HO_111001.out BK102.out (by decide)))
                     replace BK110 := Aside0.mk (blk_grown (g := gb110) (o := .cells #[.int .i64 x111000_96, u111001] 43 (0, 0)) (pl_ BK110) hg (Kd.R_ne HO_111001.out BK110.out (by decide)))
                     replace BK117 := Aside0.mk (blk_grown (g := gb117) (o := .cells #[.int .i64 ((rd_T62 t104 x10_2).f0), .int .i64 ((rd_T62 t104 x10_2).f1)] 62 (0, 0)) (pl_ BK117) hg (Kd.R_away HO_111001.out (fun _ hk => hk.2.2)))
                     replace BK123 := Aside0.mk (blk_grown (g := gb123) (o := .cells #[.int .i64 t119, .slice (some ad124) t120.length co58] 43 (0, 0)) (pl_ BK123) hg (Kd.R_ne HO_111001.out BK123.out (by decide)))
                     replace HB := Aside0.mk (hb)
                     clear HO_111001 ho hb hg hat
                     obtain ⟨Ao121, co121, eo121⟩ := Kd.R_slice HO128.out
                     (first | subst eo121 | (injection eo121 with f1_ f2_ f3_; have f4_ := f1_.symm; have f5_ := f3_.symm; clear f1_ f2_ f3_; subst f4_; subst f5_))
                     refine hK.out _ _ ?_
                     clear hK K
                     refine norm_ (a' := ?_) ?_ ?_
                     rotate_left
                     ·show Act.put _ (some 114) _ = _
                      simp only [Act.put, List.setIfInBounds_toArray, List.set_cons_zero, List.set_cons_succ, i64_w, i32_w]
                      rfl
                     refine pure_ (i := 20) (N := some 115) (v := ?_) (a' := ?_) #[true, true, true, true, true, true, true, true, true, true, true, true, true, true, true, true, true, true, true, true, true, false] rfl rfl (any_of HT_.out (by kernel_rfl)) (fun _ _ _ h => h) (Or.inl ⟨by rfl, ?_⟩) ?_ ?_
                     rotate_left
                     ·intro w'
                      go_simp
                      with_reducible rfl
                     rotate_left
                     ·simp only [Act.put, List.setIfInBounds_toArray, List.set_cons_zero, List.set_cons_succ, i64_w, i32_w]
                      rfl
                     refine last_ (i := 21) (N := none) #[true, true, true, true, true, true, true, true, true, true, true, true, true, true, true, true, true, true, true, true, true, true] rfl rfl (one_of HT_.out (by kernel_rfl)) (by decide) (fun K hK => ?_)
                     have hs122 : w120.cell? ⟨gb110, 1, none⟩ = some (u111001) := (blk_cell BK110.out 1).trans rfl
                     have hfs122 := blk_frozen BK110.out 1
                     have hns122_0 := NB101_110.out
                     have hns122_1 := NB102_110.out
                     have hns122_3 := NB117_110.out
                     have hns122_4 := NB123_110.out
                     have hms122_0 := NB110_101.out
                     have hms122_1 := NB110_102.out
                     have hms122_3 := NB110_117.out
                     have hms122_4 := NB110_123.out
                     refine skip_ (w1 := ?_) (by rfl) rfl ?_ ?_
                     rotate_left
                     ·go_simp
                      rfl
                     refine hK.out _ _ ?_
                     clear hK K
                     refine done_ (done_of HT_.out (by kernel_rfl)) ?_
                     try go_wp2
                     go_roundg k5
                     case measure => have := HK1.out; have := HK2.out; have := HJ41.out; have := HJ96.out; have := HK5.out; omega
                     case rel => exact ⟨(wrap64 (x13_5 + 1)), (y126), (.slice Ao121 y126.length co121), (by first | rfl | (simp; done) | (simp [*]; done)), H', ⟨by have := HK1.out; have := HK2.out; have := HJ41.out; have := HJ96.out; have := HK5.out; omega⟩, ⟨by (with_reducible repeat (first | apply Kd.R_alloc | apply Kd.R_drewN | apply Kd.R_drew)); exact Kd.R_mono (Kd.R_far (p := ⟨gb110, 1, none⟩) (Kd.R_types HO_102001.out BK110.out (by decide)) (fun _ hk => hk.2) (.slice Ao121 y126.length co121)) (fun _ hk => ⟨hk.1.2, ⟨hk.1.1.1, hk.1.1.2⟩⟩)⟩, ⟨by (with_reducible repeat (first | apply Kd.R_alloc | apply Kd.R_drewN | apply Kd.R_drew)); exact Kd.R_mono (Kd.R_far (p := ⟨gb110, 1, none⟩) (Kd.R_types HO128.out BK110.out (by decide)) (fun _ hk => hk.2) (.slice Ao121 y126.length co121)) (fun _ hk => ⟨hk.1.1, ⟨hk.1.2.1, hk.1.2.2⟩⟩)⟩, ⟨by (with_reducible repeat (first | apply Kd.R_alloc | apply Kd.R_drewN | apply Kd.R_drew)); exact Kd.R_mono (Kd.R_far (p := ⟨gb110, 1, none⟩) (Kd.R_types HO_124001.out BK110.out (by decide)) (fun _ hk => hk.2) (.slice Ao121 y126.length co121)) (fun _ hk => ⟨hk.1.1.1, ⟨hk.1.2, hk.1.1.2⟩⟩)⟩, ⟨by (with_reducible repeat (first | refine blk_drewN ?_ _ | refine blk_drew ?_ | refine blk_alloc ?_ _)); refine blk_far ?_ NB101_110.out _; (with_reducible repeat (first | refine blk_drewN ?_ _ | refine blk_drew ?_ | refine blk_alloc ?_ _)); exact BK101.out⟩, ⟨by (with_reducible repeat (first | refine blk_drewN ?_ _ | refine blk_drew ?_ | refine blk_alloc ?_ _)); refine blk_far ?_ NB102_110.out _; (with_reducible repeat (first | refine blk_drewN ?_ _ | refine blk_drew ?_ | refine blk_alloc ?_ _)); exact BK102.out⟩, ⟨by (with_reducible repeat (first | refine blk_drewN ?_ _ | refine blk_drew ?_ | refine blk_alloc ?_ _)); refine blk_put (cs := #[.int .i64 x111000_96, u111001]) ?_ 1 _ rfl; (with_reducible repeat (first | refine blk_drewN ?_ _ | refine blk_drew ?_ | refine blk_alloc ?_ _)); exact BK110.out⟩, ⟨by (with_reducible repeat (first | refine blk_drewN ?_ _ | refine blk_drew ?_ | refine blk_alloc ?_ _)); refine blk_far ?_ NB117_110.out _; (with_reducible repeat (first | refine blk_drewN ?_ _ | refine blk_drew ?_ | refine blk_alloc ?_ _)); exact BK117.out⟩, ⟨by (with_reducible repeat (first | refine blk_drewN ?_ _ | refine blk_drew ?_ | refine blk_alloc ?_ _)); refine blk_far ?_ NB123_110.out _; (with_reducible repeat (first | refine blk_drewN ?_ _ | refine blk_drew ?_ | refine blk_alloc ?_ _)); exact BK123.out⟩, ⟨by repeat (first | (with_reducible first | exact HB.out | apply below_alloc | apply pw_below_drewN | apply below_drew1 | refine below_set ?_ GE101.out | refine below_set ?_ GE102.out | refine below_set ?_ GE110.out | refine below_set ?_ GE117.out | refine below_set ?_ GE123.out) | exact HB.out)⟩⟩
                    ·rw [if_neg c113] at H
                     exact absurd H (by simp)
                   ·rw [if_neg c112] at H
                    exact absurd H (by simp)
                  ·rw [if_neg c111] at H
                   have c111b0 : decide (x13_5 < (t120.length : Int)) = false := decide_eq_false c111
                   clear c111
                   have H' := Aside0.mk H
                   clear H
                   have hnb123 := NB123_101.out
                   have hnc123 := NB101_123.out
                   have hnb124 := NB123_102.out
                   have hnc124 := NB102_123.out
                   have hnb125 := NB123_110.out
                   have hnc125 := NB110_123.out
                   have hnb126 := NB123_117.out
                   have hnc126 := NB117_123.out
                   have hcz127_0 : wr.cell? ⟨gb123, 0, none⟩ = some (.int .i64 t119) := (blk_cell BK123.out 0).trans rfl
                   have hcz127_1 : wr.cell? ⟨gb123, 1, none⟩ = some (.slice Ao58 t120.length co58) := (blk_cell BK123.out 1).trans rfl
                   have hfz127_0 := blk_frozen BK123.out 0
                   have hfz127_1 := blk_frozen BK123.out 1
                   go_wp2
                   go_roundg k5
                   case measure => have := HK1.out; have := HK2.out; have := HJ41.out; have := HJ96.out; have := HK5.out; omega
                   case rel => exact ⟨(wrap64 (x10_2 + 1)), (x103000_2), (x111000_96), (x111001_5), (u111001), (by first | rfl | (simp; done) | (simp [*]; done)), H', ⟨by have := HK1.out; have := HK2.out; have := HJ41.out; have := HJ96.out; have := HK5.out; omega⟩, ⟨by (with_reducible repeat (first | apply Kd.R_alloc | apply Kd.R_drewN | apply Kd.R_drew)); exact Kd.R_mono HO_102001.out (fun _ hk => hk.1)⟩, ⟨by (with_reducible repeat (first | apply Kd.R_alloc | apply Kd.R_drewN | apply Kd.R_drew)); exact Kd.R_mono HO_111001.out (fun _ hk => hk.1)⟩, ⟨by (with_reducible repeat (first | refine blk_drewN ?_ _ | refine blk_drew ?_ | refine blk_alloc ?_ _)); exact BK101.out⟩, ⟨by (with_reducible repeat (first | refine blk_drewN ?_ _ | refine blk_drew ?_ | refine blk_alloc ?_ _)); exact BK102.out⟩, ⟨by (with_reducible repeat (first | refine blk_drewN ?_ _ | refine blk_drew ?_ | refine blk_alloc ?_ _)); exact BK110.out⟩, ⟨by repeat (first | (with_reducible first | exact HB.out | apply below_alloc | apply pw_below_drewN | apply below_drew1 | refine below_set ?_ GE101.out | refine below_set ?_ GE102.out | refine below_set ?_ GE110.out | refine below_set ?_ GE117.out | refine below_set ?_ GE123.out) | exact HB.out)⟩⟩
           ·rw [if_neg c40] at H
            exact absurd H (by simp)
          ·rw [if_neg c39] at H
           exact absurd H (by simp)
        ·rw [if_neg c27] at H
         exact absurd H (by simp)
       ·rw [if_neg c26] at H
        have c26b0 : decide (x10_2 < (t104.length : Int)) = false := decide_eq_false c26
        clear c26
        replace H := Option.bind_eq_some_iff.mp H
        obtain ⟨⟨t111, t112, t115⟩, A1280, H⟩ := H
        replace H : (some (t111, t112, t115)) = some (r1, r2, r3) := H
        have A128 := Aside0.mk A1280
        clear A1280
        simp only [Option.some.injEq, Prod.mk.injEq] at H
        obtain ⟨rfl, rfl, rfl⟩ := H
        have hnb129 := NB101_102.out
        have hnc129 := NB102_101.out
        have hnb130 := NB101_110.out
        have hnc130 := NB110_101.out
        have hcz131_0 : wr.cell? ⟨gb101, 0, none⟩ = some (.int .i64 t103) := (blk_cell BK101.out 0).trans rfl
        have hcz131_1 : wr.cell? ⟨gb101, 1, none⟩ = some (.slice Ao11 t104.length co11) := (blk_cell BK101.out 1).trans rfl
        have hfz131_0 := blk_frozen BK101.out 0
        have hfz131_1 := blk_frozen BK101.out 1
        have hnb132 := NB110_102.out
        have hnc132 := NB102_110.out
        have hcz133_0 : wr.cell? ⟨gb110, 0, none⟩ = some (.int .i64 x111000_2) := (blk_cell BK110.out 0).trans rfl
        have hcz133_1 : wr.cell? ⟨gb110, 1, none⟩ = some (u111001) := (blk_cell BK110.out 1).trans rfl
        have hfz133_0 := blk_frozen BK110.out 0
        have hfz133_1 := blk_frozen BK110.out 1
        obtain ⟨Ao134, co134, eo134⟩ := Kd.R_slice HO_111001.out
        subst eo134
        go_wp2_with (first | ((with_reducible refine gate_callee (f := 82) rfl ?_); refine goesL_ (some 117) rfl rfl Try.func82 (by kernel_rfl) rfl #[.agg #[.int .i64 x111000_2, .slice Ao134 x111001_2.length co134]] rfl (by (try simp only [List.map_toArray, List.map_cons, List.map_nil]); first | done | rfl | (simp only [List.length_drop, List.length_take]; rfl)) ?_; (with_reducible refine (telamonref1_fits.calls k2 x111000_2 _ _ x111001_2 t111 t112 t115 _ ?side1 ?side2 A128.out).mono ?_); (case side1 => repeat (first | exact (Kd.R_reads' HO_111001.out).2.2 | (with_reducible refine Kd.C_alloc ?_ _) | (with_reducible refine Kd.C_drewN ?_ _) | (with_reducible refine Kd.C_drew ?_))); (case side2 => exact (Kd.R_reads' HO_111001.out).2.1); rintro e w135 ⟨v113, rfl, ho0, hb⟩; refine ⟨_, rfl, ?_⟩; have HO114 := Aside0.mk (Kd.R_lower (Kd.R_new' (Kd.R_new' ho0 (Kd.R_lt (rl_ HO_102001))) (Kd.R_lt (rl_ HO_111001))) (below_size (bl_ HB))); replace HO_102001 := Aside0.mk (Kd.R_elder' (rl_ HO_102001) (Kd.R_base ho0) hb); replace HO_111001 := Aside0.mk (Kd.R_elder' (rl_ HO_111001) (Kd.R_base ho0) hb); replace BK101 := bb_ BK101 hb; replace BK102 := bb_ BK102 hb; replace BK110 := bb_ BK110 hb; replace HB := hs_ HB hb; (try clear hb); (try clear hb2); (try clear hk); (try clear hi); (try clear ho0); have hcz136_0 : w135.cell? ⟨gb102, 0, none⟩ = some (.int .i64 x103000_2) := (blk_cell BK102.out 0).trans rfl; have hcz136_1 : w135.cell? ⟨gb102, 1, none⟩ = some (.slice none 0 0) := (blk_cell BK102.out 1).trans rfl; have hfz136_0 := blk_frozen BK102.out 0; have hfz136_1 := blk_frozen BK102.out 1; obtain ⟨Ao137, co137, eo137⟩ := Kd.R_slice HO114.out; subst eo137))
        refine bodyPost_ret (results_ct rfl _ _ gb102 43 #[.int .i64 t111, .slice Ao137 t112.length co137] (0, 0) _ rfl (by (with_reducible repeat (first | refine blk_drewN ?_ _ | refine blk_drew ?_ | refine blk_alloc ?_ _)); refine blk_put (cs := #[.int .i64 t111, .slice none 0 0]) ?_ 1 _ rfl; (with_reducible repeat (first | refine blk_drewN ?_ _ | refine blk_drew ?_ | refine blk_alloc ?_ _)); refine blk_put (cs := #[.int .i64 x103000_2, .slice none 0 0]) ?_ 0 _ rfl; (with_reducible repeat (first | refine blk_drewN ?_ _ | refine blk_drew ?_ | refine blk_alloc ?_ _)); exact BK102.out) Try.underlying43 rfl (by kernel_rfl)) rfl ?_
        exact ⟨_, by first | rfl | (simp [errW_none, errW_some] <;> rfl) | (simp [*, errW_none, errW_some] <;> rfl), by (with_reducible repeat (first | apply Kd.R_alloc | apply Kd.R_drewN | apply Kd.R_drew)); exact Kd.R_mono (Kd.R_far (p := ⟨gb102, 1, none⟩) (Kd.R_far (p := ⟨gb102, 0, none⟩) (Kd.R_types HO114.out BK102.out (by decide)) (fun _ hk => hk.2) (.int .i64 t111)) (fun _ hk => hk.2) (.slice Ao137 t112.length co137)) (fun _ hk => trivial), by repeat (first | (with_reducible first | exact HB.out | apply below_alloc | apply pw_below_drewN | apply below_drew1 | refine below_set ?_ GE101.out | refine below_set ?_ GE102.out | refine below_set ?_ GE110.out) | exact HB.out)⟩
 ·rw [if_neg c4] at H
  have c4b0 : (t107 == 0) = false := beq_eq_false_iff_ne.mpr c4
  have c4b1 : (t107 != 0) = true := bne_iff_ne.mpr c4
  simp only [Option.some.injEq, Prod.mk.injEq] at H
  obtain ⟨rfl, rfl, rfl⟩ := H
  go_enter Try.func52, Try.ntmps52
  go_wp2_with (first | ((with_reducible refine gate_dst (N := 2) rfl ?_); (try (refine gate_guard (by rfl) ?_; dsimp only)); refine box_event ?hg (N := 2) ?hd (cs := #[.int .i64 a0_0, .slice A0_1 l0_1.length c0_1]) (t := 43) ?hr ?_; (case hd => rfl); (case hg => rfl); (case hr => first | (go_simp; done) | (go_simp; rfl)); intro gb101 hg w138 hbox hb; have BK101 := Aside0.mk (hbox); have GW101 := Aside0.mk ((bs_ hg HB : w.heap.size ≤ gb101)); have GE101 := Aside0.mk ((bs_ hg HB : w.heap.size ≤ gb101)); replace HB := hs_ HB hb; clear hb hbox hg) | ((with_reducible refine gate_dst (N := 4) rfl ?_); (try (refine gate_guard (by rfl) ?_; dsimp only)); refine box_event ?hg (N := 4) ?hd (cs := #[.int .i64 0, .slice none 0 0]) (t := 43) ?hr ?_; (case hd => rfl); (case hg => rfl); (case hr => first | (go_simp; done) | (go_simp; rfl)); intro gb102 hg w139 hbox hb; have BK102 := Aside0.mk (hbox); have GW102 := Aside0.mk ((bs_ hg HB : w.heap.size ≤ gb102)); have GE102 := Aside0.mk ((bs_ hg HB : w.heap.size ≤ gb102)); have NB101_102 := Aside0.mk ((nl_ hg BK101 : gb101 ≠ gb102)); have NB102_101 := Aside0.mk ((ng_ hg BK101 : gb102 ≠ gb101)); replace BK101 := bb_ BK101 hb; replace HB := hs_ HB hb; clear hb hbox hg; have hnb140 := NB101_102.out; have hnc140 := NB102_101.out; have hcz141_0 : w139.cell? ⟨gb101, 0, none⟩ = some (.int .i64 a0_0) := (blk_cell BK101.out 0).trans rfl; have hcz141_1 : w139.cell? ⟨gb101, 1, none⟩ = some (.slice A0_1 l0_1.length c0_1) := (blk_cell BK101.out 1).trans rfl; have hfz141_0 := blk_frozen BK101.out 0; have hfz141_1 := blk_frozen BK101.out 1) | ((with_reducible refine gate_callee (f := 41) rfl ?_); refine goesL_ (some 16) rfl rfl Try.func41 (by kernel_rfl) rfl #[.agg #[.int .i64 a0_0, .slice A0_1 l0_1.length c0_1]] rfl (by (try simp only [List.map_toArray, List.map_cons, List.map_nil]); first | done | rfl | (simp only [List.length_drop, List.length_take]; rfl)) ?_; (with_reducible refine (telamonref1_Norm.calls k a0_0 _ _ l0_1 t103 t104 t107 _ ?side1 ?side2 A3.out).mono ?_); (case side1 => repeat (first | exact (Kd.C_below HR0_1.out HB.out) | (with_reducible refine Kd.C_alloc ?_ _) | (with_reducible refine Kd.C_drewN ?_ _) | (with_reducible refine Kd.C_drew ?_))); (case side2 => exact HC0_1.out); rintro e w142 ⟨v105, rfl, ho0, hb⟩; refine ⟨_, rfl, ?_⟩; have HO106 := Aside0.mk (Kd.R_lower ho0 (below_size (bl_ HB))); replace BK101 := bb_ BK101 hb; replace BK102 := bb_ BK102 hb; replace HB := hs_ HB hb; (try clear hb); (try clear hb2); (try clear hk); (try clear hi); (try clear ho0); have hcz143_0 : w142.cell? ⟨gb101, 0, none⟩ = some (.int .i64 a0_0) := (blk_cell BK101.out 0).trans rfl; have hcz143_1 : w142.cell? ⟨gb101, 1, none⟩ = some (.slice A0_1 l0_1.length c0_1) := (blk_cell BK101.out 1).trans rfl; have hfz143_0 := blk_frozen BK101.out 0; have hfz143_1 := blk_frozen BK101.out 1; obtain ⟨Ao144, co144, eo144⟩ := Kd.R_slice HO106.out; subst eo144; have hcz145_0 : w142.cell? ⟨gb102, 0, none⟩ = some (.int .i64 0) := (blk_cell BK102.out 0).trans rfl; have hcz145_1 : w142.cell? ⟨gb102, 1, none⟩ = some (.slice none 0 0) := (blk_cell BK102.out 1).trans rfl; have hfz145_0 := blk_frozen BK102.out 0; have hfz145_1 := blk_frozen BK102.out 1))
  refine bodyPost_ret (results_ct rfl _ _ gb102 43 #[.int .i64 0, .slice none 0 0] (0, 0) _ rfl (by (with_reducible repeat (first | refine blk_drewN ?_ _ | refine blk_drew ?_ | refine blk_alloc ?_ _)); refine blk_put (cs := #[.int .i64 0, .slice none 0 0]) ?_ 1 _ rfl; (with_reducible repeat (first | refine blk_drewN ?_ _ | refine blk_drew ?_ | refine blk_alloc ?_ _)); refine blk_put (cs := #[.int .i64 0, .slice none 0 0]) ?_ 0 _ rfl; (with_reducible repeat (first | refine blk_drewN ?_ _ | refine blk_drew ?_ | refine blk_alloc ?_ _)); refine blk_far ?_ NB102_101.out _; (with_reducible repeat (first | refine blk_drewN ?_ _ | refine blk_drew ?_ | refine blk_alloc ?_ _)); refine blk_far ?_ NB102_101.out _; (with_reducible repeat (first | refine blk_drewN ?_ _ | refine blk_drew ?_ | refine blk_alloc ?_ _)); exact BK102.out) Try.underlying43 rfl (by kernel_rfl)) rfl ?_
  exact ⟨_, by first | rfl | (simp [errW_none, errW_some] <;> rfl) | (simp [*, errW_none, errW_some] <;> rfl), by first | exact Kd.R_nil _ _ _ _ _ | exact Kd.N_nil _ _ _ _ _ | exact Kd.V_nil _ _ _ _ _ | exact Kd.Q_nil _ _ _ _ _ | exact Kd.S_nil _ _ _ _ _, by repeat (first | (with_reducible first | exact HB.out | apply below_alloc | apply pw_below_drewN | apply below_drew1 | refine below_set ?_ GE101.out | refine below_set ?_ GE102.out) | exact HB.out)⟩

end Go.Proofs.Ytbopadglafbdjaa.PX
