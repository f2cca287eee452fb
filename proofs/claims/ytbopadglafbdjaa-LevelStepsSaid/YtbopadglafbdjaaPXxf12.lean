-- by wip/tools/gprint.py of this session over the kit's print; given functions are this session's own text
import Derived.Test.YtbopadglafbdjaaPXx0
import Derived.Test.YtbopadglafbdjaaPXxf33
import Derived.Test.YtbopadglafbdjaaPXxf43
import Derived.Test.YtbopadglafbdjaaPXxf44
import Derived.Test.YtbopadglafbdjaaPXxf45
import Derived.Test.YtbopadglafbdjaaPXxf37
namespace Go.Proofs.Ytbopadglafbdjaa.PX
open Go.RowKit Go.Proofs.YtbopadglafbdjaaW.PrintWords Go.Proofs.YtbopadglafbdjaaW.PrintLast Go.Proofs.YtbopadglafbdjaaW.PrintMore
attribute [local go_sem] max2_int min2_int max_two min_two max_three min_three max_four min_four   -- for this text's walks alone
set_option linter.unusedVariables false
set_option linter.unusedSimpArgs false

/-! ### telamonlaw1_LevelSteps: function 12 -/
mutual
def telamonlaw1_LevelSteps.j0 : Nat → Int → Int → Bool → Bool → Option (Bool)
 | 0, _, _, _, _ => none
 | k + 1, x0, x1, x5, x30 => if x30 = true then (some x5) else ((telamonlaw1_V.f 3 x1).bind fun bt102 => (telamonlaw1_LevelSteps.l0 k x0 x1 0 bt102.1 bt102.2))
def telamonlaw1_LevelSteps.l0 : Nat → Int → Int → Int → Int → List (S62) → Option (Bool)
 | 0, _, _, _, _, _ => none
 | k + 1, x0, x1, x7, x107000, x107001 => if x7 < x0 then ((level_Suc.f k x107000 x107001 1).bind fun bt107 => (if (wrap64 ((wrap64 (x1 + x7)) + 1)) > 1000 then ((telamonlaw1_num.f bt107.2.2).bind fun t113 => (if t113 = 13 then (if (bt107.2.1.length : Int) = 0 then (some (bt107.1 == 0)) else (some false)) else (some false))) else ((telamonlaw1_num.f bt107.2.2).bind fun t114 => (if t114 = 0 then (telamonlaw1_LevelSteps.l0 k x0 x1 (wrap64 (x7 + 1)) bt107.1 bt107.2.1) else (some false))))) else ((telamonlaw1_V.f 3 x1).bind fun bt115 => ((level_Suc.f k bt115.1 bt115.2 x0).bind fun bt119 => ((telamonlaw1_num.f bt119.2.2).bind fun t125 => (if t125 = 0 then ((telamonref1_ExactLevel.f k x107000 x107001 bt119.1 bt119.2.1).bind fun t126 => (if t126 = true then ((telamonlaw1_V.f 3 (wrap64 (x1 + x0))).bind fun bt127 => ((telamonref1_ExactLevel.f k x107000 x107001 bt127.1 bt127.2).bind fun t131 => (some t131))) else (some false))) else (some false)))))
end
def telamonlaw1_LevelSteps.f (k : Nat) (a0 : Int) (a1 : Int) : Option (Bool) := (telamonlaw1_alive.f).bind fun t101 => (if t101 = true then (if a0 < 0 then (telamonlaw1_LevelSteps.j0 k a0 a1 t101 true) else (if a0 > 1200 then (telamonlaw1_LevelSteps.j0 k a0 a1 t101 true) else (if a1 < 0 then (telamonlaw1_LevelSteps.j0 k a0 a1 t101 true) else (telamonlaw1_LevelSteps.j0 k a0 a1 t101 (decide (a1 > 1000)))))) else (telamonlaw1_LevelSteps.j0 k a0 a1 t101 true))
theorem telamonlaw1_LevelSteps.mono_l : ∀ k, (∀ y0 y1 y2 y3, LeO (telamonlaw1_LevelSteps.j0 k y0 y1 y2 y3) (telamonlaw1_LevelSteps.j0 (k + 1) y0 y1 y2 y3)) ∧ (∀ y0 y1 y2 y3 y4, LeO (telamonlaw1_LevelSteps.l0 k y0 y1 y2 y3 y4) (telamonlaw1_LevelSteps.l0 (k + 1) y0 y1 y2 y3 y4))
 | 0 => ⟨fun _ _ _ _ r h => by simp [telamonlaw1_LevelSteps.j0] at h, fun _ _ _ _ _ r h => by simp [telamonlaw1_LevelSteps.l0] at h⟩
 | k + 1 => by
  obtain ⟨ih0, ih1⟩ := telamonlaw1_LevelSteps.mono_l k
  refine ⟨?_, ?_⟩
  ·intro y0 y1 y2 y3
   unfold telamonlaw1_LevelSteps.j0
   repeat' first
   | (with_reducible exact ih0 _ _ _ _)
   | (with_reducible exact ih1 _ _ _ _ _)
   | (with_reducible exact level_Suc.mono _ _ _ _)
   | (with_reducible exact telamonref1_ExactLevel.mono _ _ _ _ _)
   | (with_reducible exact LeO.refl _)
   | (with_reducible exact LeO.none _)
   | (with_reducible refine LeO.ite ?_ ?_)
   | (with_reducible refine LeO.bind ?_ (fun _ => ?_))
   | exact ih0 _ _ _ _
   | exact ih1 _ _ _ _ _
   | exact level_Suc.mono _ _ _ _
   | exact telamonref1_ExactLevel.mono _ _ _ _ _
   | exact LeO.none _
   | refine LeO.ite ?_ ?_
   | refine LeO.bind ?_ (fun _ => ?_)
  ·intro y0 y1 y2 y3 y4
   unfold telamonlaw1_LevelSteps.l0
   repeat' first
   | (with_reducible exact ih0 _ _ _ _)
   | (with_reducible exact ih1 _ _ _ _ _)
   | (with_reducible exact level_Suc.mono _ _ _ _)
   | (with_reducible exact telamonref1_ExactLevel.mono _ _ _ _ _)
   | (with_reducible exact LeO.refl _)
   | (with_reducible exact LeO.none _)
   | (with_reducible refine LeO.ite ?_ ?_)
   | (with_reducible refine LeO.bind ?_ (fun _ => ?_))
   | exact ih0 _ _ _ _
   | exact ih1 _ _ _ _ _
   | exact level_Suc.mono _ _ _ _
   | exact telamonref1_ExactLevel.mono _ _ _ _ _
   | exact LeO.none _
   | refine LeO.ite ?_ ?_
   | refine LeO.bind ?_ (fun _ => ?_)
theorem telamonlaw1_LevelSteps.mono : ∀ a0 a1 k, LeO (telamonlaw1_LevelSteps.f k a0 a1) (telamonlaw1_LevelSteps.f (k + 1) a0 a1) := by
 intro a0 a1 k
 obtain ⟨ih0, ih1⟩ := telamonlaw1_LevelSteps.mono_l k
 unfold telamonlaw1_LevelSteps.f
 repeat' first
   | (with_reducible exact ih0 _ _ _ _)
   | (with_reducible exact ih1 _ _ _ _ _)
   | (with_reducible exact level_Suc.mono _ _ _ _)
   | (with_reducible exact telamonref1_ExactLevel.mono _ _ _ _ _)
   | (with_reducible exact LeO.refl _)
   | (with_reducible exact LeO.none _)
   | (with_reducible refine LeO.ite ?_ ?_)
   | (with_reducible refine LeO.bind ?_ (fun _ => ?_))
   | exact ih0 _ _ _ _
   | exact ih1 _ _ _ _ _
   | exact level_Suc.mono _ _ _ _
   | exact telamonref1_ExactLevel.mono _ _ _ _ _
   | exact LeO.none _
   | refine LeO.ite ?_ ?_
   | refine LeO.bind ?_ (fun _ => ?_)
def telamonlaw1_LevelSteps.T15 : Bool × List (List Nat × List Nat) := (true, [([], []), ([0], [0]), ([1], [1]), ([2, 1], [2]), ([3], [3]), ([3], [3]), ([4, 5, 3, 3], [3, 4, 5]), ([3, 6], [3, 6]), ([7, 6], [7]), ([8], [8]), ([8], [8]), ([8], [8]), ([10, 11, 8], [8, 10, 11]), ([12, 8, 8], [8, 12]), ([9, 13, 13, 8], [8, 9, 13]), ([8, 14], [8, 14]), ([15, 14, 0, 1, 2, 3, 4, 5, 6, 7, 8, 9, 10, 11, 12, 13, 14, 15], [15])])
def telamonlaw1_LevelSteps.B15 : List Nat := [0, 1, 3, 7, 15, 15, 63, 127, 255, 511, 511, 511, 3583, 7679, 16383, 32767, 65535]
theorem telamonlaw1_LevelSteps.tab15 : rtab .any (opsOf Try.f12 15) = telamonlaw1_LevelSteps.T15 := by kernel_rfl
theorem telamonlaw1_LevelSteps.bits15 : waitsOk telamonlaw1_LevelSteps.T15.2 telamonlaw1_LevelSteps.B15 = true := by kernel_rfl
set_option maxHeartbeats 8000000 in
set_option maxRecDepth 100000 in
theorem telamonlaw1_LevelSteps.calls (k : Nat) (a0 : Int) (a1 : Int) (r : Bool) (w : World) (h : telamonlaw1_LevelSteps.f k a0 a1 = some r) :
  Calls Try.prog 12 #[.int .i64 a0, .int .i64 a1] w fun e w' => e = .returned (.bool r) ∧ Below w.heap.size w w' := by
 have hu43 := Try.underlying43
 have HB := Aside0.mk (Below.refl w.heap.size w)
 have H : ((telamonlaw1_alive.f).bind fun t101 => (if t101 = true then (if a0 < 0 then (telamonlaw1_LevelSteps.j0 k a0 a1 t101 true) else (if a0 > 1200 then (telamonlaw1_LevelSteps.j0 k a0 a1 t101 true) else (if a1 < 0 then (telamonlaw1_LevelSteps.j0 k a0 a1 t101 true) else (telamonlaw1_LevelSteps.j0 k a0 a1 t101 (decide (a1 > 1000)))))) else (telamonlaw1_LevelSteps.j0 k a0 a1 t101 true))) = some r := h
 clear h
 replace H := Option.bind_eq_some_iff.mp H
 obtain ⟨t101, A30, H⟩ := H
 replace H : (if t101 = true then (if a0 < 0 then (telamonlaw1_LevelSteps.j0 k a0 a1 t101 true) else (if a0 > 1200 then (telamonlaw1_LevelSteps.j0 k a0 a1 t101 true) else (if a1 < 0 then (telamonlaw1_LevelSteps.j0 k a0 a1 t101 true) else (telamonlaw1_LevelSteps.j0 k a0 a1 t101 (decide (a1 > 1000)))))) else (telamonlaw1_LevelSteps.j0 k a0 a1 t101 true)) = some r := H
 have A3 := Aside0.mk A30
 clear A30
 have HC4 := Aside0.mk H
 clear H
 go_enter Try.func12, Try.ntmps12
 go_upto_region 2 with (first | ((with_reducible refine gate_callee (f := 37) rfl ?_); refine goesL_ (some 12) rfl rfl Try.func37 (by kernel_rfl) rfl #[] rfl (by (try simp only [List.map_toArray, List.map_cons, List.map_nil]); first | done | rfl | (simp only [List.length_drop, List.length_take]; rfl)) ?_; (with_reducible refine (telamonlaw1_alive.calls  t101 _ A3.out).mono ?_); rintro e w5 ⟨rfl, hb⟩; refine ⟨_, rfl, ?_⟩; replace HB := hs_ HB hb; (try clear hb); (try clear hb2); (try clear hk); (try clear hi)))
 (try simp only [Act.put, List.setIfInBounds_toArray, List.set_cons_zero, List.set_cons_succ])
 go_cut [30] (fun v30 wc => ∃ (kq : Nat) (x30_3 : Bool), v30 = .bool x30_3 ∧ Aside0 (telamonlaw1_LevelSteps.j0 kq a0 a1 t101 x30_3 = some r) ∧ Aside0 (kq ≤ k) ∧ Aside0 (Below w.heap.size w wc))
 case first =>
  have H := HC4.out
  clear HC4
  by_cases c6 : t101 = true
  ·subst c6
   have H1 : (if a0 < 0 then (telamonlaw1_LevelSteps.j0 k a0 a1 true true) else (if a0 > 1200 then (telamonlaw1_LevelSteps.j0 k a0 a1 true true) else (if a1 < 0 then (telamonlaw1_LevelSteps.j0 k a0 a1 true true) else (telamonlaw1_LevelSteps.j0 k a0 a1 true (decide (a1 > 1000)))))) = some r := by rw [if_pos rfl] at H; exact H
   clear H
   have H := H1
   clear H1
   by_cases c7 : a0 < 0
   ·rw [if_pos c7] at H
    have c7b0 : decide (a0 < 0) = true := decide_eq_true c7
    clear c7
    (first | rw [c7b0] | (simp only [i64_w, i32_w]; rw [c7b0]) | skip)
    have H' := Aside0.mk H
    clear H
    go_wp2
    go_meet
    case rel => exact ⟨_, (true), (by first | rfl | (simp; done) | (simp [*]; done)), H', ⟨by first | omega | exact Nat.le_refl _⟩, ⟨by repeat (first | (with_reducible first | exact HB.out | apply below_alloc | apply pw_below_drewN | apply below_drew1) | exact HB.out)⟩⟩
   ·rw [if_neg c7] at H
    have c7b0 : decide (a0 < 0) = false := decide_eq_false c7
    clear c7
    (first | rw [c7b0] | (simp only [i64_w, i32_w]; rw [c7b0]) | skip)
    by_cases c8 : a0 > 1200
    ·rw [if_pos c8] at H
     have c8b0 : decide (1200 < a0) = true := decide_eq_true c8
     clear c8
     have H' := Aside0.mk H
     clear H
     go_wp2
     go_meet
     case rel => exact ⟨_, (true), (by first | rfl | (simp; done) | (simp [*]; done)), H', ⟨by first | omega | exact Nat.le_refl _⟩, ⟨by repeat (first | (with_reducible first | exact HB.out | apply below_alloc | apply pw_below_drewN | apply below_drew1) | exact HB.out)⟩⟩
    ·rw [if_neg c8] at H
     have c8b0 : decide (1200 < a0) = false := decide_eq_false c8
     clear c8
     by_cases c9 : a1 < 0
     ·rw [if_pos c9] at H
      have c9b0 : decide (a1 < 0) = true := decide_eq_true c9
      clear c9
      have H' := Aside0.mk H
      clear H
      go_wp2
      go_meet
      case rel => exact ⟨_, (true), (by first | rfl | (simp; done) | (simp [*]; done)), H', ⟨by first | omega | exact Nat.le_refl _⟩, ⟨by repeat (first | (with_reducible first | exact HB.out | apply below_alloc | apply pw_below_drewN | apply below_drew1) | exact HB.out)⟩⟩
     ·rw [if_neg c9] at H
      have c9b0 : decide (a1 < 0) = false := decide_eq_false c9
      clear c9
      have H' := Aside0.mk H
      clear H
      go_wp2
      go_meet
      case rel => exact ⟨_, (decide (a1 > 1000)), (by first | rfl | (simp; done) | (simp [*]; done)), H', ⟨by first | omega | exact Nat.le_refl _⟩, ⟨by repeat (first | (with_reducible first | exact HB.out | apply below_alloc | apply pw_below_drewN | apply below_drew1) | exact HB.out)⟩⟩
  ·replace c6 := Bool.eq_false_iff.mpr c6
   subst c6
   have H1 : (telamonlaw1_LevelSteps.j0 k a0 a1 false true) = some r := by rw [if_neg (show ¬ (false = true) by decide)] at H; exact H
   clear H
   have H := H1
   clear H1
   have H' := Aside0.mk H
   clear H
   go_wp2
   go_meet
   case rel => exact ⟨_, (true), (by first | rfl | (simp; done) | (simp [*]; done)), H', ⟨by first | omega | exact Nat.le_refl _⟩, ⟨by repeat (first | (with_reducible first | exact HB.out | apply below_alloc | apply pw_below_drewN | apply below_drew1) | exact HB.out)⟩⟩
 case rest =>
  clear HC4
  (try clear c1); (try clear p2); (try clear c3); (try clear c6); (try clear c7); (try clear c7b0); (try clear c8); (try clear c8b0); (try clear c9); (try clear c9b0)
  obtain ⟨kq, x30_3, rfl, HA, HJ3, HB⟩ := hcut
  cases kq with
  | zero => exact absurd HA.out (by simp [telamonlaw1_LevelSteps.j0])
  | succ kj3 =>
   have H := HA.out
   clear HA
   simp only [telamonlaw1_LevelSteps.j0] at H
   by_cases c10 : x30_3 = true
   ·subst c10
    have H1 : (some t101) = some r := by rw [if_pos rfl] at H; exact H
    clear H
    have H := H1
    clear H1
    obtain rfl := Option.some.inj H
    go_wp2
    go_ret
    exact ⟨by first | rfl | (simp [errW_none, errW_some] <;> rfl) | (simp [*, errW_none, errW_some] <;> rfl), by repeat (first | (with_reducible first | exact HB.out | apply below_alloc | apply pw_below_drewN | apply below_drew1) | exact HB.out)⟩
   ·replace c10 := Bool.eq_false_iff.mpr c10
    subst c10
    have H1 : ((telamonlaw1_V.f 3 a1).bind fun bt102 => (telamonlaw1_LevelSteps.l0 kj3 a0 a1 0 bt102.1 bt102.2)) = some r := by rw [if_neg (show ¬ (false = true) by decide)] at H; exact H
    clear H
    have H := H1
    clear H1
    replace H := Option.bind_eq_some_iff.mp H
    obtain ⟨⟨t102, t103⟩, A110, H⟩ := H
    replace H : (telamonlaw1_LevelSteps.l0 kj3 a0 a1 0 t102 t103) = some r := H
    have A11 := Aside0.mk A110
    clear A110
    have H' := Aside0.mk H
    clear H
    go_wp2_with (first | ((with_reducible refine gate_callee (f := 33) rfl ?_); refine goesL_ (some 33) rfl rfl Try.func33 (by kernel_rfl) rfl #[.int .i64 3, .int .i64 a1] rfl (by (try simp only [List.map_toArray, List.map_cons, List.map_nil]); first | done | rfl | (simp only [List.length_drop, List.length_take]; rfl)) ?_; (with_reducible refine (telamonlaw1_V.calls 3 a1 t102 t103 _ A11.out).mono ?_); rintro e w12 ⟨v104, rfl, ho0, hb⟩; refine ⟨_, rfl, ?_⟩; have HO105 := Aside0.mk (Kd.R_lower ho0 (below_size (bl_ HB))); replace HB := hs_ HB hb; (try clear hb); (try clear hb2); (try clear hk); (try clear hi); (try clear ho0)) | ((with_reducible refine gate_dst (N := 6) rfl ?_); (try (refine gate_guard (by rfl) ?_; dsimp only)); refine box_event ?hg (N := 6) ?hd (cs := #[.int .i64 0, .slice none 0 0]) (t := 43) ?hr ?_; (case hd => rfl); (case hg => rfl); (case hr => first | (go_simp; done) | (go_simp; rfl)); intro gb106 hg w13 hbox hb; have BK106 := Aside0.mk (hbox); have GW106 := Aside0.mk ((bs_ hg HB : w.heap.size ≤ gb106)); have GE106 := Aside0.mk ((bs_ hg HB : w.heap.size ≤ gb106)); replace HO105 := Aside0.mk (Kd.R_below (rl_ HO105) hb); replace HB := hs_ HB hb; clear hb hbox hg; have hcz14_0 : w13.cell? ⟨gb106, 0, none⟩ = some (.int .i64 0) := (blk_cell BK106.out 0).trans rfl; have hcz14_1 : w13.cell? ⟨gb106, 1, none⟩ = some (.slice none 0 0) := (blk_cell BK106.out 1).trans rfl; have hfz14_0 := blk_frozen BK106.out 0; have hfz14_1 := blk_frozen BK106.out 1; obtain ⟨Ao15, co15, eo15⟩ := Kd.R_slice HO105.out; subst eo15))
    go_loopg [7] kj3 (fun kq v7 w' => ∃ (x7_2 : Int) (x107000_2 : Int) (x107001_2 : List (S62)) (u107001 : Value), v7 = .int .i64 x7_2 ∧ Aside0 (telamonlaw1_LevelSteps.l0 kq a0 a1 x7_2 x107000_2 x107001_2 = some r) ∧ Aside0 (kq ≤ kj3) ∧ Aside0 (Kd.R k62 62 w' w.heap.size (fun _ => True) u107001 x107001_2) ∧ Aside0 (w'.heap[gb106]? = some (.cells #[.int .i64 x107000_2, u107001] 43 (0, 0))) ∧ Aside0 (Below w.heap.size w w'))
    case atStart => exact ⟨(0), (t102), (t103), (.slice Ao15 t103.length co15), (by first | rfl | (simp; done) | (simp [*]; done)), H', ⟨Nat.le_refl _⟩, ⟨by (with_reducible repeat (first | apply Kd.R_alloc | apply Kd.R_drewN | apply Kd.R_drew)); exact Kd.R_mono (Kd.R_far (p := ⟨gb106, 1, none⟩) (Kd.R_far (p := ⟨gb106, 0, none⟩) (Kd.R_types HO105.out BK106.out (by decide)) (fun _ hk => hk.2) (.int .i64 t102)) (fun _ hk => hk.2) (.slice Ao15 t103.length co15)) (fun _ hk => trivial)⟩, ⟨by (with_reducible repeat (first | refine blk_drewN ?_ _ | refine blk_drew ?_ | refine blk_alloc ?_ _)); refine blk_put (cs := #[.int .i64 t102, .slice none 0 0]) ?_ 1 _ rfl; (with_reducible repeat (first | refine blk_drewN ?_ _ | refine blk_drew ?_ | refine blk_alloc ?_ _)); refine blk_put (cs := #[.int .i64 0, .slice none 0 0]) ?_ 0 _ rfl; (with_reducible repeat (first | refine blk_drewN ?_ _ | refine blk_drew ?_ | refine blk_alloc ?_ _)); exact BK106.out⟩, ⟨by repeat (first | (with_reducible first | exact HB.out | apply below_alloc | apply pw_below_drewN | apply below_drew1 | refine below_set ?_ GE106.out) | exact HB.out)⟩⟩
    case round =>
     clear H'
     (try clear c1); (try clear p2); (try clear c3); (try clear c6); (try clear c7); (try clear c7b0); (try clear c8); (try clear c8b0); (try clear c9); (try clear c9b0); (try clear c10); (try clear c12); (try clear hcz14_0); (try clear hcz14_1); (try clear hfz14_0); (try clear hfz14_1); (try clear p2)
     obtain ⟨x7_2, x107000_2, x107001_2, u107001, rfl, HA, HK2, HO_107001, BK106, HB⟩ := hrel
     cases gk with
     | zero => exact absurd HA.out (by simp [telamonlaw1_LevelSteps.l0])
     | succ k2 =>
      have H := HA.out
      clear HA
      simp only [telamonlaw1_LevelSteps.l0] at H
      by_cases c16 : x7_2 < a0
      ·rw [if_pos c16] at H
       have c16b0 : decide (x7_2 < a0) = true := decide_eq_true c16
       clear c16
       replace H := Option.bind_eq_some_iff.mp H
       obtain ⟨⟨t107, t108, t111⟩, A170, H⟩ := H
       replace H : (if (wrap64 ((wrap64 (a1 + x7_2)) + 1)) > 1000 then ((telamonlaw1_num.f t111).bind fun t113 => (if t113 = 13 then (if (t108.length : Int) = 0 then (some (t107 == 0)) else (some false)) else (some false))) else ((telamonlaw1_num.f t111).bind fun t114 => (if t114 = 0 then (telamonlaw1_LevelSteps.l0 k2 a0 a1 (wrap64 (x7_2 + 1)) t107 t108) else (some false)))) = some r := H
       have A17 := Aside0.mk A170
       clear A170
       by_cases c18 : (wrap64 ((wrap64 (a1 + x7_2)) + 1)) > 1000
       ·rw [if_pos c18] at H
        have c18b0 : decide (1000 < (wrap64 ((wrap64 (a1 + x7_2)) + 1))) = true := decide_eq_true c18
        clear c18
        replace H := Option.bind_eq_some_iff.mp H
        obtain ⟨t113, A190, H⟩ := H
        replace H : (if t113 = 13 then (if (t108.length : Int) = 0 then (some (t107 == 0)) else (some false)) else (some false)) = some r := H
        have A19 := Aside0.mk A190
        clear A190
        by_cases c20 : t113 = 13
        ·rw [if_pos c20] at H
         have c20b0 : (t113 == 13) = true := beq_iff_eq.mpr c20
         have c20b1 : (t113 != 13) = false := bne_eq_false_iff_eq.mpr c20
         clear c20
         by_cases c21 : (t108.length : Int) = 0
         ·rw [if_pos c21] at H
          have c21b0 : ((t108.length : Int) == 0) = true := beq_iff_eq.mpr c21
          have c21b1 : ((t108.length : Int) != 0) = false := bne_eq_false_iff_eq.mpr c21
          clear c21
          obtain rfl := Option.some.inj H
          have hcz22_0 : wr.cell? ⟨gb106, 0, none⟩ = some (.int .i64 x107000_2) := (blk_cell BK106.out 0).trans rfl
          have hcz22_1 : wr.cell? ⟨gb106, 1, none⟩ = some (u107001) := (blk_cell BK106.out 1).trans rfl
          have hfz22_0 := blk_frozen BK106.out 0
          have hfz22_1 := blk_frozen BK106.out 1
          obtain ⟨Ao23, co23, eo23⟩ := Kd.R_slice HO_107001.out
          subst eo23
          go_wp2_with (first | ((with_reducible refine gate_callee (f := 45) rfl ?_); refine goesL_ (some 41) rfl rfl Try.func45 (by kernel_rfl) rfl #[.agg #[.int .i64 x107000_2, .slice Ao23 x107001_2.length co23], .int .i64 1] rfl (by (try simp only [List.map_toArray, List.map_cons, List.map_nil]); first | done | rfl | (simp only [List.length_drop, List.length_take]; rfl)) ?_; (with_reducible refine (level_Suc.calls k2 x107000_2 _ _ x107001_2 1 t107 t108 t111 _ ?side1 ?side2 A17.out).mono ?_); (case side1 => repeat (first | exact (Kd.R_reads' HO_107001.out).2.2 | (with_reducible refine Kd.C_alloc ?_ _) | (with_reducible refine Kd.C_drewN ?_ _) | (with_reducible refine Kd.C_drew ?_))); (case side2 => exact (Kd.R_reads' HO_107001.out).2.1); rintro e w24 ⟨v109, rfl, ho0, hb⟩; refine ⟨_, rfl, ?_⟩; have HO110 := Aside0.mk (Kd.R_lower (Kd.R_new' ho0 (Kd.R_lt (rl_ HO_107001))) (below_size (bl_ HB))); replace HO_107001 := Aside0.mk (Kd.R_elder' (rl_ HO_107001) (Kd.R_base ho0) hb); replace BK106 := bb_ BK106 hb; replace HB := hs_ HB hb; (try clear hb); (try clear hb2); (try clear hk); (try clear hi); (try clear ho0)) | ((with_reducible refine gate_dst (N := 8) rfl ?_); (try (refine gate_guard (by rfl) ?_; dsimp only)); refine box_event ?hg (N := 8) ?hd (cs := #[.int .i64 0, .slice none 0 0]) (t := 43) ?hr ?_; (case hd => rfl); (case hg => rfl); (case hr => first | (go_simp; done) | (go_simp; rfl)); intro gb112 hg w25 hbox hb; have BK112 := Aside0.mk (hbox); have GW112 := Aside0.mk ((bs_ hg HB : w.heap.size ≤ gb112)); have GE112 := Aside0.mk ((bs_ hg HB : w.heap.size ≤ gb112)); have NB106_112 := Aside0.mk ((nl_ hg BK106 : gb106 ≠ gb112)); have NB112_106 := Aside0.mk ((ng_ hg BK106 : gb112 ≠ gb106)); replace HO_107001 := Aside0.mk (Kd.R_below (rl_ HO_107001) hb); replace HO110 := Aside0.mk (Kd.R_below (rl_ HO110) hb); replace BK106 := bb_ BK106 hb; replace HB := hs_ HB hb; clear hb hbox hg; have hnb26 := NB112_106.out; have hnc26 := NB106_112.out; have hcz27_0 : w25.cell? ⟨gb112, 0, none⟩ = some (.int .i64 0) := (blk_cell BK112.out 0).trans rfl; have hcz27_1 : w25.cell? ⟨gb112, 1, none⟩ = some (.slice none 0 0) := (blk_cell BK112.out 1).trans rfl; have hfz27_0 := blk_frozen BK112.out 0; have hfz27_1 := blk_frozen BK112.out 1; obtain ⟨Ao28, co28, eo28⟩ := Kd.R_slice HO110.out; subst eo28) | ((with_reducible refine gate_callee (f := 43) rfl ?_); refine goesL_ (some 50) rfl rfl Try.func43 (by kernel_rfl) rfl #[.int .i64 t111] rfl (by (try simp only [List.map_toArray, List.map_cons, List.map_nil]); first | done | rfl | (simp only [List.length_drop, List.length_take]; rfl)) ?_; (with_reducible refine (telamonlaw1_num.calls t111 t113 _ A19.out).mono ?_); rintro e w' ⟨rfl, ⟨nd, rfl⟩⟩; refine ⟨_, rfl, ?_⟩))
          go_ret
          exact ⟨by first | rfl | (simp [errW_none, errW_some] <;> rfl) | (simp [*, errW_none, errW_some] <;> rfl), by repeat (first | (with_reducible first | exact HB.out | apply below_alloc | apply pw_below_drewN | apply below_drew1 | refine below_set ?_ GE106.out | refine below_set ?_ GE112.out) | exact HB.out)⟩
         ·rw [if_neg c21] at H
          have c21b0 : ((t108.length : Int) == 0) = false := beq_eq_false_iff_ne.mpr c21
          have c21b1 : ((t108.length : Int) != 0) = true := bne_iff_ne.mpr c21
          have c21b2 : ¬ (t108 = []) := fun h_ => c21 (by rw [h_]; rfl)
          obtain rfl := Option.some.inj H
          have hcz29_0 : wr.cell? ⟨gb106, 0, none⟩ = some (.int .i64 x107000_2) := (blk_cell BK106.out 0).trans rfl
          have hcz29_1 : wr.cell? ⟨gb106, 1, none⟩ = some (u107001) := (blk_cell BK106.out 1).trans rfl
          have hfz29_0 := blk_frozen BK106.out 0
          have hfz29_1 := blk_frozen BK106.out 1
          obtain ⟨Ao30, co30, eo30⟩ := Kd.R_slice HO_107001.out
          subst eo30
          go_wp2_with (first | ((with_reducible refine gate_callee (f := 45) rfl ?_); refine goesL_ (some 41) rfl rfl Try.func45 (by kernel_rfl) rfl #[.agg #[.int .i64 x107000_2, .slice Ao30 x107001_2.length co30], .int .i64 1] rfl (by (try simp only [List.map_toArray, List.map_cons, List.map_nil]); first | done | rfl | (simp only [List.length_drop, List.length_take]; rfl)) ?_; (with_reducible refine (level_Suc.calls k2 x107000_2 _ _ x107001_2 1 t107 t108 t111 _ ?side1 ?side2 A17.out).mono ?_); (case side1 => repeat (first | exact (Kd.R_reads' HO_107001.out).2.2 | (with_reducible refine Kd.C_alloc ?_ _) | (with_reducible refine Kd.C_drewN ?_ _) | (with_reducible refine Kd.C_drew ?_))); (case side2 => exact (Kd.R_reads' HO_107001.out).2.1); rintro e w31 ⟨v109, rfl, ho0, hb⟩; refine ⟨_, rfl, ?_⟩; have HO110 := Aside0.mk (Kd.R_lower (Kd.R_new' ho0 (Kd.R_lt (rl_ HO_107001))) (below_size (bl_ HB))); replace HO_107001 := Aside0.mk (Kd.R_elder' (rl_ HO_107001) (Kd.R_base ho0) hb); replace BK106 := bb_ BK106 hb; replace HB := hs_ HB hb; (try clear hb); (try clear hb2); (try clear hk); (try clear hi); (try clear ho0)) | ((with_reducible refine gate_dst (N := 8) rfl ?_); (try (refine gate_guard (by rfl) ?_; dsimp only)); refine box_event ?hg (N := 8) ?hd (cs := #[.int .i64 0, .slice none 0 0]) (t := 43) ?hr ?_; (case hd => rfl); (case hg => rfl); (case hr => first | (go_simp; done) | (go_simp; rfl)); intro gb112 hg w32 hbox hb; have BK112 := Aside0.mk (hbox); have GW112 := Aside0.mk ((bs_ hg HB : w.heap.size ≤ gb112)); have GE112 := Aside0.mk ((bs_ hg HB : w.heap.size ≤ gb112)); have NB106_112 := Aside0.mk ((nl_ hg BK106 : gb106 ≠ gb112)); have NB112_106 := Aside0.mk ((ng_ hg BK106 : gb112 ≠ gb106)); replace HO_107001 := Aside0.mk (Kd.R_below (rl_ HO_107001) hb); replace HO110 := Aside0.mk (Kd.R_below (rl_ HO110) hb); replace BK106 := bb_ BK106 hb; replace HB := hs_ HB hb; clear hb hbox hg; have hnb33 := NB112_106.out; have hnc33 := NB106_112.out; have hcz34_0 : w32.cell? ⟨gb112, 0, none⟩ = some (.int .i64 0) := (blk_cell BK112.out 0).trans rfl; have hcz34_1 : w32.cell? ⟨gb112, 1, none⟩ = some (.slice none 0 0) := (blk_cell BK112.out 1).trans rfl; have hfz34_0 := blk_frozen BK112.out 0; have hfz34_1 := blk_frozen BK112.out 1; obtain ⟨Ao35, co35, eo35⟩ := Kd.R_slice HO110.out; subst eo35) | ((with_reducible refine gate_callee (f := 43) rfl ?_); refine goesL_ (some 50) rfl rfl Try.func43 (by kernel_rfl) rfl #[.int .i64 t111] rfl (by (try simp only [List.map_toArray, List.map_cons, List.map_nil]); first | done | rfl | (simp only [List.length_drop, List.length_take]; rfl)) ?_; (with_reducible refine (telamonlaw1_num.calls t111 t113 _ A19.out).mono ?_); rintro e w' ⟨rfl, ⟨nd, rfl⟩⟩; refine ⟨_, rfl, ?_⟩))
          go_ret
          exact ⟨by first | rfl | (simp [errW_none, errW_some] <;> rfl) | (simp [*, errW_none, errW_some] <;> rfl), by repeat (first | (with_reducible first | exact HB.out | apply below_alloc | apply pw_below_drewN | apply below_drew1 | refine below_set ?_ GE106.out | refine below_set ?_ GE112.out) | exact HB.out)⟩
        ·rw [if_neg c20] at H
         have c20b0 : (t113 == 13) = false := beq_eq_false_iff_ne.mpr c20
         have c20b1 : (t113 != 13) = true := bne_iff_ne.mpr c20
         obtain rfl := Option.some.inj H
         have hcz36_0 : wr.cell? ⟨gb106, 0, none⟩ = some (.int .i64 x107000_2) := (blk_cell BK106.out 0).trans rfl
         have hcz36_1 : wr.cell? ⟨gb106, 1, none⟩ = some (u107001) := (blk_cell BK106.out 1).trans rfl
         have hfz36_0 := blk_frozen BK106.out 0
         have hfz36_1 := blk_frozen BK106.out 1
         obtain ⟨Ao37, co37, eo37⟩ := Kd.R_slice HO_107001.out
         subst eo37
         go_wp2_with (first | ((with_reducible refine gate_callee (f := 45) rfl ?_); refine goesL_ (some 41) rfl rfl Try.func45 (by kernel_rfl) rfl #[.agg #[.int .i64 x107000_2, .slice Ao37 x107001_2.length co37], .int .i64 1] rfl (by (try simp only [List.map_toArray, List.map_cons, List.map_nil]); first | done | rfl | (simp only [List.length_drop, List.length_take]; rfl)) ?_; (with_reducible refine (level_Suc.calls k2 x107000_2 _ _ x107001_2 1 t107 t108 t111 _ ?side1 ?side2 A17.out).mono ?_); (case side1 => repeat (first | exact (Kd.R_reads' HO_107001.out).2.2 | (with_reducible refine Kd.C_alloc ?_ _) | (with_reducible refine Kd.C_drewN ?_ _) | (with_reducible refine Kd.C_drew ?_))); (case side2 => exact (Kd.R_reads' HO_107001.out).2.1); rintro e w38 ⟨v109, rfl, ho0, hb⟩; refine ⟨_, rfl, ?_⟩; have HO110 := Aside0.mk (Kd.R_lower (Kd.R_new' ho0 (Kd.R_lt (rl_ HO_107001))) (below_size (bl_ HB))); replace HO_107001 := Aside0.mk (Kd.R_elder' (rl_ HO_107001) (Kd.R_base ho0) hb); replace BK106 := bb_ BK106 hb; replace HB := hs_ HB hb; (try clear hb); (try clear hb2); (try clear hk); (try clear hi); (try clear ho0)) | ((with_reducible refine gate_dst (N := 8) rfl ?_); (try (refine gate_guard (by rfl) ?_; dsimp only)); refine box_event ?hg (N := 8) ?hd (cs := #[.int .i64 0, .slice none 0 0]) (t := 43) ?hr ?_; (case hd => rfl); (case hg => rfl); (case hr => first | (go_simp; done) | (go_simp; rfl)); intro gb112 hg w39 hbox hb; have BK112 := Aside0.mk (hbox); have GW112 := Aside0.mk ((bs_ hg HB : w.heap.size ≤ gb112)); have GE112 := Aside0.mk ((bs_ hg HB : w.heap.size ≤ gb112)); have NB106_112 := Aside0.mk ((nl_ hg BK106 : gb106 ≠ gb112)); have NB112_106 := Aside0.mk ((ng_ hg BK106 : gb112 ≠ gb106)); replace HO_107001 := Aside0.mk (Kd.R_below (rl_ HO_107001) hb); replace HO110 := Aside0.mk (Kd.R_below (rl_ HO110) hb); replace BK106 := bb_ BK106 hb; replace HB := hs_ HB hb; clear hb hbox hg; have hnb40 := NB112_106.out; have hnc40 := NB106_112.out; have hcz41_0 : w39.cell? ⟨gb112, 0, none⟩ = some (.int .i64 0) := (blk_cell BK112.out 0).trans rfl; have hcz41_1 : w39.cell? ⟨gb112, 1, none⟩ = some (.slice none 0 0) := (blk_cell BK112.out 1).trans rfl; have hfz41_0 := blk_frozen BK112.out 0; have hfz41_1 := blk_frozen BK112.out 1; obtain ⟨Ao42, co42, eo42⟩ := Kd.R_slice HO110.out; subst eo42) | ((with_reducible refine gate_callee (f := 43) rfl ?_); refine goesL_ (some 50) rfl rfl Try.func43 (by kernel_rfl) rfl #[.int .i64 t111] rfl (by (try simp only [List.map_toArray, List.map_cons, List.map_nil]); first | done | rfl | (simp only [List.length_drop, List.length_take]; rfl)) ?_; (with_reducible refine (telamonlaw1_num.calls t111 t113 _ A19.out).mono ?_); rintro e w' ⟨rfl, ⟨nd, rfl⟩⟩; refine ⟨_, rfl, ?_⟩))
         go_ret
         exact ⟨by first | rfl | (simp [errW_none, errW_some] <;> rfl) | (simp [*, errW_none, errW_some] <;> rfl), by repeat (first | (with_reducible first | exact HB.out | apply below_alloc | apply pw_below_drewN | apply below_drew1 | refine below_set ?_ GE106.out | refine below_set ?_ GE112.out) | exact HB.out)⟩
       ·rw [if_neg c18] at H
        have c18b0 : decide (1000 < (wrap64 ((wrap64 (a1 + x7_2)) + 1))) = false := decide_eq_false c18
        clear c18
        replace H := Option.bind_eq_some_iff.mp H
        obtain ⟨t114, A430, H⟩ := H
        replace H : (if t114 = 0 then (telamonlaw1_LevelSteps.l0 k2 a0 a1 (wrap64 (x7_2 + 1)) t107 t108) else (some false)) = some r := H
        have A43 := Aside0.mk A430
        clear A430
        by_cases c44 : t114 = 0
        ·rw [if_pos c44] at H
         have c44b0 : (t114 == 0) = true := beq_iff_eq.mpr c44
         have c44b1 : (t114 != 0) = false := bne_eq_false_iff_eq.mpr c44
         clear c44
         have H' := Aside0.mk H
         clear H
         have hcz45_0 : wr.cell? ⟨gb106, 0, none⟩ = some (.int .i64 x107000_2) := (blk_cell BK106.out 0).trans rfl
         have hcz45_1 : wr.cell? ⟨gb106, 1, none⟩ = some (u107001) := (blk_cell BK106.out 1).trans rfl
         have hfz45_0 := blk_frozen BK106.out 0
         have hfz45_1 := blk_frozen BK106.out 1
         obtain ⟨Ao46, co46, eo46⟩ := Kd.R_slice HO_107001.out
         subst eo46
         go_wp2_with (first | ((with_reducible refine gate_callee (f := 45) rfl ?_); refine goesL_ (some 41) rfl rfl Try.func45 (by kernel_rfl) rfl #[.agg #[.int .i64 x107000_2, .slice Ao46 x107001_2.length co46], .int .i64 1] rfl (by (try simp only [List.map_toArray, List.map_cons, List.map_nil]); first | done | rfl | (simp only [List.length_drop, List.length_take]; rfl)) ?_; (with_reducible refine (level_Suc.calls k2 x107000_2 _ _ x107001_2 1 t107 t108 t111 _ ?side1 ?side2 A17.out).mono ?_); (case side1 => repeat (first | exact (Kd.R_reads' HO_107001.out).2.2 | (with_reducible refine Kd.C_alloc ?_ _) | (with_reducible refine Kd.C_drewN ?_ _) | (with_reducible refine Kd.C_drew ?_))); (case side2 => exact (Kd.R_reads' HO_107001.out).2.1); rintro e w47 ⟨v109, rfl, ho0, hb⟩; refine ⟨_, rfl, ?_⟩; have HO110 := Aside0.mk (Kd.R_lower (Kd.R_new' ho0 (Kd.R_lt (rl_ HO_107001))) (below_size (bl_ HB))); replace HO_107001 := Aside0.mk (Kd.R_elder' (rl_ HO_107001) (Kd.R_base ho0) hb); replace BK106 := bb_ BK106 hb; replace HB := hs_ HB hb; (try clear hb); (try clear hb2); (try clear hk); (try clear hi); (try clear ho0)) | ((with_reducible refine gate_dst (N := 8) rfl ?_); (try (refine gate_guard (by rfl) ?_; dsimp only)); refine box_event ?hg (N := 8) ?hd (cs := #[.int .i64 0, .slice none 0 0]) (t := 43) ?hr ?_; (case hd => rfl); (case hg => rfl); (case hr => first | (go_simp; done) | (go_simp; rfl)); intro gb112 hg w48 hbox hb; have BK112 := Aside0.mk (hbox); have GW112 := Aside0.mk ((bs_ hg HB : w.heap.size ≤ gb112)); have GE112 := Aside0.mk ((bs_ hg HB : w.heap.size ≤ gb112)); have NB106_112 := Aside0.mk ((nl_ hg BK106 : gb106 ≠ gb112)); have NB112_106 := Aside0.mk ((ng_ hg BK106 : gb112 ≠ gb106)); replace HO_107001 := Aside0.mk (Kd.R_below (rl_ HO_107001) hb); replace HO110 := Aside0.mk (Kd.R_below (rl_ HO110) hb); replace BK106 := bb_ BK106 hb; replace HB := hs_ HB hb; clear hb hbox hg; have hnb49 := NB112_106.out; have hnc49 := NB106_112.out; have hcz50_0 : w48.cell? ⟨gb112, 0, none⟩ = some (.int .i64 0) := (blk_cell BK112.out 0).trans rfl; have hcz50_1 : w48.cell? ⟨gb112, 1, none⟩ = some (.slice none 0 0) := (blk_cell BK112.out 1).trans rfl; have hfz50_0 := blk_frozen BK112.out 0; have hfz50_1 := blk_frozen BK112.out 1; obtain ⟨Ao51, co51, eo51⟩ := Kd.R_slice HO110.out; subst eo51) | ((with_reducible refine gate_callee (f := 43) rfl ?_); refine goesL_ (some 64) rfl rfl Try.func43 (by kernel_rfl) rfl #[.int .i64 t111] rfl (by (try simp only [List.map_toArray, List.map_cons, List.map_nil]); first | done | rfl | (simp only [List.length_drop, List.length_take]; rfl)) ?_; (with_reducible refine (telamonlaw1_num.calls t111 t114 _ A43.out).mono ?_); rintro e w' ⟨rfl, ⟨nd, rfl⟩⟩; refine ⟨_, rfl, ?_⟩; have hcz52_0 : w48.cell? ⟨gb106, 0, none⟩ = some (.int .i64 x107000_2) := (blk_cell BK106.out 0).trans rfl; have hcz52_1 : w48.cell? ⟨gb106, 1, none⟩ = some (.slice Ao46 x107001_2.length co46) := (blk_cell BK106.out 1).trans rfl; have hfz52_0 := blk_frozen BK106.out 0; have hfz52_1 := blk_frozen BK106.out 1))
         go_roundg k2
         case measure => have := HJ3.out; have := HK2.out; omega
         case rel => exact ⟨(wrap64 (x7_2 + 1)), (t107), (t108), (.slice Ao51 t108.length co51), (by first | rfl | (simp; done) | (simp [*]; done)), H', ⟨by have := HJ3.out; have := HK2.out; omega⟩, ⟨by (with_reducible repeat (first | apply Kd.R_alloc | apply Kd.R_drewN | apply Kd.R_drew)); exact Kd.R_mono (Kd.R_far (p := ⟨gb106, 1, none⟩) (Kd.R_far (p := ⟨gb106, 0, none⟩) (Kd.R_far (p := ⟨gb112, 1, none⟩) (Kd.R_far (p := ⟨gb112, 0, none⟩) (Kd.R_types (Kd.R_types HO110.out BK112.out (by decide)) BK106.out (by decide)) (fun _ hk => hk.1.2) (.int .i64 t107)) (fun _ hk => hk.1.2) (.slice Ao51 t108.length co51)) (fun _ hk => hk.2) (.int .i64 t107)) (fun _ hk => hk.2) (.slice Ao51 t108.length co51)) (fun _ hk => trivial)⟩, ⟨by (with_reducible repeat (first | refine blk_drewN ?_ _ | refine blk_drew ?_ | refine blk_alloc ?_ _)); refine blk_put (cs := #[.int .i64 t107, .slice Ao46 x107001_2.length co46]) ?_ 1 _ rfl; (with_reducible repeat (first | refine blk_drewN ?_ _ | refine blk_drew ?_ | refine blk_alloc ?_ _)); refine blk_put (cs := #[.int .i64 x107000_2, .slice Ao46 x107001_2.length co46]) ?_ 0 _ rfl; (with_reducible repeat (first | refine blk_drewN ?_ _ | refine blk_drew ?_ | refine blk_alloc ?_ _)); refine blk_far ?_ NB106_112.out _; (with_reducible repeat (first | refine blk_drewN ?_ _ | refine blk_drew ?_ | refine blk_alloc ?_ _)); refine blk_far ?_ NB106_112.out _; (with_reducible repeat (first | refine blk_drewN ?_ _ | refine blk_drew ?_ | refine blk_alloc ?_ _)); exact BK106.out⟩, ⟨by repeat (first | (with_reducible first | exact HB.out | apply below_alloc | apply pw_below_drewN | apply below_drew1 | refine below_set ?_ GE106.out | refine below_set ?_ GE112.out) | exact HB.out)⟩⟩
        ·rw [if_neg c44] at H
         have c44b0 : (t114 == 0) = false := beq_eq_false_iff_ne.mpr c44
         have c44b1 : (t114 != 0) = true := bne_iff_ne.mpr c44
         obtain rfl := Option.some.inj H
         have hcz53_0 : wr.cell? ⟨gb106, 0, none⟩ = some (.int .i64 x107000_2) := (blk_cell BK106.out 0).trans rfl
         have hcz53_1 : wr.cell? ⟨gb106, 1, none⟩ = some (u107001) := (blk_cell BK106.out 1).trans rfl
         have hfz53_0 := blk_frozen BK106.out 0
         have hfz53_1 := blk_frozen BK106.out 1
         obtain ⟨Ao54, co54, eo54⟩ := Kd.R_slice HO_107001.out
         subst eo54
         go_wp2_with (first | ((with_reducible refine gate_callee (f := 45) rfl ?_); refine goesL_ (some 41) rfl rfl Try.func45 (by kernel_rfl) rfl #[.agg #[.int .i64 x107000_2, .slice Ao54 x107001_2.length co54], .int .i64 1] rfl (by (try simp only [List.map_toArray, List.map_cons, List.map_nil]); first | done | rfl | (simp only [List.length_drop, List.length_take]; rfl)) ?_; (with_reducible refine (level_Suc.calls k2 x107000_2 _ _ x107001_2 1 t107 t108 t111 _ ?side1 ?side2 A17.out).mono ?_); (case side1 => repeat (first | exact (Kd.R_reads' HO_107001.out).2.2 | (with_reducible refine Kd.C_alloc ?_ _) | (with_reducible refine Kd.C_drewN ?_ _) | (with_reducible refine Kd.C_drew ?_))); (case side2 => exact (Kd.R_reads' HO_107001.out).2.1); rintro e w55 ⟨v109, rfl, ho0, hb⟩; refine ⟨_, rfl, ?_⟩; have HO110 := Aside0.mk (Kd.R_lower (Kd.R_new' ho0 (Kd.R_lt (rl_ HO_107001))) (below_size (bl_ HB))); replace HO_107001 := Aside0.mk (Kd.R_elder' (rl_ HO_107001) (Kd.R_base ho0) hb); replace BK106 := bb_ BK106 hb; replace HB := hs_ HB hb; (try clear hb); (try clear hb2); (try clear hk); (try clear hi); (try clear ho0)) | ((with_reducible refine gate_dst (N := 8) rfl ?_); (try (refine gate_guard (by rfl) ?_; dsimp only)); refine box_event ?hg (N := 8) ?hd (cs := #[.int .i64 0, .slice none 0 0]) (t := 43) ?hr ?_; (case hd => rfl); (case hg => rfl); (case hr => first | (go_simp; done) | (go_simp; rfl)); intro gb112 hg w56 hbox hb; have BK112 := Aside0.mk (hbox); have GW112 := Aside0.mk ((bs_ hg HB : w.heap.size ≤ gb112)); have GE112 := Aside0.mk ((bs_ hg HB : w.heap.size ≤ gb112)); have NB106_112 := Aside0.mk ((nl_ hg BK106 : gb106 ≠ gb112)); have NB112_106 := Aside0.mk ((ng_ hg BK106 : gb112 ≠ gb106)); replace HO_107001 := Aside0.mk (Kd.R_below (rl_ HO_107001) hb); replace HO110 := Aside0.mk (Kd.R_below (rl_ HO110) hb); replace BK106 := bb_ BK106 hb; replace HB := hs_ HB hb; clear hb hbox hg; have hnb57 := NB112_106.out; have hnc57 := NB106_112.out; have hcz58_0 : w56.cell? ⟨gb112, 0, none⟩ = some (.int .i64 0) := (blk_cell BK112.out 0).trans rfl; have hcz58_1 : w56.cell? ⟨gb112, 1, none⟩ = some (.slice none 0 0) := (blk_cell BK112.out 1).trans rfl; have hfz58_0 := blk_frozen BK112.out 0; have hfz58_1 := blk_frozen BK112.out 1; obtain ⟨Ao59, co59, eo59⟩ := Kd.R_slice HO110.out; subst eo59) | ((with_reducible refine gate_callee (f := 43) rfl ?_); refine goesL_ (some 64) rfl rfl Try.func43 (by kernel_rfl) rfl #[.int .i64 t111] rfl (by (try simp only [List.map_toArray, List.map_cons, List.map_nil]); first | done | rfl | (simp only [List.length_drop, List.length_take]; rfl)) ?_; (with_reducible refine (telamonlaw1_num.calls t111 t114 _ A43.out).mono ?_); rintro e w' ⟨rfl, ⟨nd, rfl⟩⟩; refine ⟨_, rfl, ?_⟩))
         go_ret
         exact ⟨by first | rfl | (simp [errW_none, errW_some] <;> rfl) | (simp [*, errW_none, errW_some] <;> rfl), by repeat (first | (with_reducible first | exact HB.out | apply below_alloc | apply pw_below_drewN | apply below_drew1 | refine below_set ?_ GE106.out | refine below_set ?_ GE112.out) | exact HB.out)⟩
      ·rw [if_neg c16] at H
       have c16b0 : decide (x7_2 < a0) = false := decide_eq_false c16
       clear c16
       replace H := Option.bind_eq_some_iff.mp H
       obtain ⟨⟨t115, t116⟩, A600, H⟩ := H
       replace H : ((level_Suc.f k2 t115 t116 a0).bind fun bt119 => ((telamonlaw1_num.f bt119.2.2).bind fun t125 => (if t125 = 0 then ((telamonref1_ExactLevel.f k2 x107000_2 x107001_2 bt119.1 bt119.2.1).bind fun t126 => (if t126 = true then ((telamonlaw1_V.f 3 (wrap64 (a1 + a0))).bind fun bt127 => ((telamonref1_ExactLevel.f k2 x107000_2 x107001_2 bt127.1 bt127.2).bind fun t131 => (some t131))) else (some false))) else (some false)))) = some r := H
       have A60 := Aside0.mk A600
       clear A600
       replace H := Option.bind_eq_some_iff.mp H
       obtain ⟨⟨t119, t120, t123⟩, A610, H⟩ := H
       replace H : ((telamonlaw1_num.f t123).bind fun t125 => (if t125 = 0 then ((telamonref1_ExactLevel.f k2 x107000_2 x107001_2 t119 t120).bind fun t126 => (if t126 = true then ((telamonlaw1_V.f 3 (wrap64 (a1 + a0))).bind fun bt127 => ((telamonref1_ExactLevel.f k2 x107000_2 x107001_2 bt127.1 bt127.2).bind fun t131 => (some t131))) else (some false))) else (some false))) = some r := H
       have A61 := Aside0.mk A610
       clear A610
       replace H := Option.bind_eq_some_iff.mp H
       obtain ⟨t125, A620, H⟩ := H
       replace H : (if t125 = 0 then ((telamonref1_ExactLevel.f k2 x107000_2 x107001_2 t119 t120).bind fun t126 => (if t126 = true then ((telamonlaw1_V.f 3 (wrap64 (a1 + a0))).bind fun bt127 => ((telamonref1_ExactLevel.f k2 x107000_2 x107001_2 bt127.1 bt127.2).bind fun t131 => (some t131))) else (some false))) else (some false)) = some r := H
       have A62 := Aside0.mk A620
       clear A620
       by_cases c63 : t125 = 0
       ·rw [if_pos c63] at H
        have c63b0 : (t125 == 0) = true := beq_iff_eq.mpr c63
        have c63b1 : (t125 != 0) = false := bne_eq_false_iff_eq.mpr c63
        clear c63
        replace H := Option.bind_eq_some_iff.mp H
        obtain ⟨t126, A640, H⟩ := H
        replace H : (if t126 = true then ((telamonlaw1_V.f 3 (wrap64 (a1 + a0))).bind fun bt127 => ((telamonref1_ExactLevel.f k2 x107000_2 x107001_2 bt127.1 bt127.2).bind fun t131 => (some t131))) else (some false)) = some r := H
        have A64 := Aside0.mk A640
        clear A640
        by_cases c65 : t126 = true
        ·subst c65
         have H1 : ((telamonlaw1_V.f 3 (wrap64 (a1 + a0))).bind fun bt127 => ((telamonref1_ExactLevel.f k2 x107000_2 x107001_2 bt127.1 bt127.2).bind fun t131 => (some t131))) = some r := by rw [if_pos rfl] at H; exact H
         clear H
         have H := H1
         clear H1
         replace H := Option.bind_eq_some_iff.mp H
         obtain ⟨⟨t127, t128⟩, A660, H⟩ := H
         replace H : ((telamonref1_ExactLevel.f k2 x107000_2 x107001_2 t127 t128).bind fun t131 => (some t131)) = some r := H
         have A66 := Aside0.mk A660
         clear A660
         replace H := Option.bind_eq_some_iff.mp H
         obtain ⟨t131, A670, H⟩ := H
         replace H : (some t131) = some r := H
         have A67 := Aside0.mk A670
         clear A670
         obtain rfl := Option.some.inj H
         try go_wp2_with (first | ((with_reducible refine gate_callee (f := 33) rfl ?_); refine goesL_ (some 69) rfl rfl Try.func33 (by kernel_rfl) rfl #[.int .i64 3, .int .i64 a1] rfl (by (try simp only [List.map_toArray, List.map_cons, List.map_nil]); first | done | rfl | (simp only [List.length_drop, List.length_take]; rfl)) ?_; (with_reducible refine (telamonlaw1_V.calls 3 a1 t115 t116 _ A60.out).mono ?_); rintro e w68 ⟨v117, rfl, ho0, hb⟩; refine ⟨_, rfl, ?_⟩; have HO118 := Aside0.mk (Kd.R_lower (Kd.R_new' ho0 (Kd.R_lt (rl_ HO_107001))) (below_size (bl_ HB))); replace HO_107001 := Aside0.mk (Kd.R_elder' (rl_ HO_107001) (Kd.R_base ho0) hb); replace BK106 := bb_ BK106 hb; replace HB := hs_ HB hb; (try clear hb); (try clear hb2); (try clear hk); (try clear hi); (try clear ho0); obtain ⟨Ao69, co69, eo69⟩ := Kd.R_slice HO118.out; subst eo69) | ((with_reducible refine gate_callee (f := 45) rfl ?_); refine goesL_ (some 71) rfl rfl Try.func45 (by kernel_rfl) rfl #[.agg #[.int .i64 t115, .slice Ao69 t116.length co69], .int .i64 a0] rfl (by (try simp only [List.map_toArray, List.map_cons, List.map_nil]); first | done | rfl | (simp only [List.length_drop, List.length_take]; rfl)) ?_; (with_reducible refine (level_Suc.calls k2 t115 _ _ t116 a0 t119 t120 t123 _ ?side1 ?side2 A61.out).mono ?_); (case side1 => repeat (first | exact (Kd.R_reads' HO118.out).2.2 | (with_reducible refine Kd.C_alloc ?_ _) | (with_reducible refine Kd.C_drewN ?_ _) | (with_reducible refine Kd.C_drew ?_))); (case side2 => exact (Kd.R_reads' HO118.out).2.1); rintro e w70 ⟨v121, rfl, ho0, hb⟩; refine ⟨_, rfl, ?_⟩; have HO122 := Aside0.mk (Kd.R_lower (Kd.R_new' (Kd.R_new' ho0 (Kd.R_lt (rl_ HO_107001))) (Kd.R_lt (rl_ HO118))) (below_size (bl_ HB))); replace HO_107001 := Aside0.mk (Kd.R_elder' (rl_ HO_107001) (Kd.R_base ho0) hb); replace HO118 := Aside0.mk (Kd.R_elder' (rl_ HO118) (Kd.R_base ho0) hb); replace BK106 := bb_ BK106 hb; replace HB := hs_ HB hb; (try clear hb); (try clear hb2); (try clear hk); (try clear hi); (try clear ho0)) | ((with_reducible refine gate_dst (N := 10) rfl ?_); (try (refine gate_guard (by rfl) ?_; dsimp only)); refine box_event ?hg (N := 10) ?hd (cs := #[.int .i64 0, .slice none 0 0]) (t := 43) ?hr ?_; (case hd => rfl); (case hg => rfl); (case hr => first | (go_simp; done) | (go_simp; rfl)); intro gb124 hg w71 hbox hb; have BK124 := Aside0.mk (hbox); have GW124 := Aside0.mk ((bs_ hg HB : w.heap.size ≤ gb124)); have GE124 := Aside0.mk ((bs_ hg HB : w.heap.size ≤ gb124)); have NB106_124 := Aside0.mk ((nl_ hg BK106 : gb106 ≠ gb124)); have NB124_106 := Aside0.mk ((ng_ hg BK106 : gb124 ≠ gb106)); replace HO_107001 := Aside0.mk (Kd.R_below (rl_ HO_107001) hb); replace HO118 := Aside0.mk (Kd.R_below (rl_ HO118) hb); replace HO122 := Aside0.mk (Kd.R_below (rl_ HO122) hb); replace BK106 := bb_ BK106 hb; replace HB := hs_ HB hb; clear hb hbox hg; have hnb72 := NB124_106.out; have hnc72 := NB106_124.out; have hcz73_0 : w71.cell? ⟨gb124, 0, none⟩ = some (.int .i64 0) := (blk_cell BK124.out 0).trans rfl; have hcz73_1 : w71.cell? ⟨gb124, 1, none⟩ = some (.slice none 0 0) := (blk_cell BK124.out 1).trans rfl; have hfz73_0 := blk_frozen BK124.out 0; have hfz73_1 := blk_frozen BK124.out 1; obtain ⟨Ao74, co74, eo74⟩ := Kd.R_slice HO122.out; subst eo74))
         have n0_ : Aside0 (Kd.R k62 62 ((w71.setCell ⟨gb124, 0, none⟩ (.int .i64 t119)).setCell ⟨gb124, 1, none⟩ (.slice Ao74 t120.length co74)) w.heap.size (fun k_ => some k_ ≠ (.slice Ao69 t116.length co69 : Value).ownBlock ∧ some k_ ≠ (.slice Ao74 t120.length co74 : Value).ownBlock) u107001 x107001_2) := ⟨by (with_reducible repeat (first | apply Kd.R_alloc | apply Kd.R_drewN | apply Kd.R_drew)); exact Kd.R_mono (Kd.R_far (p := ⟨gb124, 1, none⟩) (Kd.R_far (p := ⟨gb124, 0, none⟩) (Kd.R_types HO_107001.out BK124.out (by decide)) (fun _ hk => hk.2) (.int .i64 t119)) (fun _ hk => hk.2) (.slice Ao74 t120.length co74)) (fun _ hk => ⟨hk.1.1.2, hk.1.2⟩)⟩
         have n1_ : Aside0 (Kd.R k62 62 ((w71.setCell ⟨gb124, 0, none⟩ (.int .i64 t119)).setCell ⟨gb124, 1, none⟩ (.slice Ao74 t120.length co74)) w.heap.size (fun k_ => some k_ ≠ (u107001 : Value).ownBlock ∧ some k_ ≠ (.slice Ao74 t120.length co74 : Value).ownBlock) (.slice Ao69 t116.length co69) t116) := ⟨by (with_reducible repeat (first | apply Kd.R_alloc | apply Kd.R_drewN | apply Kd.R_drew)); exact Kd.R_mono (Kd.R_far (p := ⟨gb124, 1, none⟩) (Kd.R_far (p := ⟨gb124, 0, none⟩) (Kd.R_types HO118.out BK124.out (by decide)) (fun _ hk => hk.2) (.int .i64 t119)) (fun _ hk => hk.2) (.slice Ao74 t120.length co74)) (fun _ hk => ⟨hk.1.1.2, hk.1.2⟩)⟩
         have n2_ : Aside0 (Kd.R k62 62 ((w71.setCell ⟨gb124, 0, none⟩ (.int .i64 t119)).setCell ⟨gb124, 1, none⟩ (.slice Ao74 t120.length co74)) w.heap.size (fun k_ => some k_ ≠ (u107001 : Value).ownBlock ∧ some k_ ≠ (.slice Ao69 t116.length co69 : Value).ownBlock) (.slice Ao74 t120.length co74) t120) := ⟨by (with_reducible repeat (first | apply Kd.R_alloc | apply Kd.R_drewN | apply Kd.R_drew)); exact Kd.R_mono (Kd.R_far (p := ⟨gb124, 1, none⟩) (Kd.R_far (p := ⟨gb124, 0, none⟩) (Kd.R_types HO122.out BK124.out (by decide)) (fun _ hk => hk.2) (.int .i64 t119)) (fun _ hk => hk.2) (.slice Ao74 t120.length co74)) (fun _ hk => ⟨hk.1.1.2, hk.1.2⟩)⟩
         have n3_ : Aside0 (((w71.setCell ⟨gb124, 0, none⟩ (.int .i64 t119)).setCell ⟨gb124, 1, none⟩ (.slice Ao74 t120.length co74)).heap[gb106]? = some (.cells #[.int .i64 x107000_2, u107001] 43 (0, 0))) := ⟨by (with_reducible repeat (first | refine blk_drewN ?_ _ | refine blk_drew ?_ | refine blk_alloc ?_ _)); refine blk_far ?_ NB106_124.out _; (with_reducible repeat (first | refine blk_drewN ?_ _ | refine blk_drew ?_ | refine blk_alloc ?_ _)); refine blk_far ?_ NB106_124.out _; (with_reducible repeat (first | refine blk_drewN ?_ _ | refine blk_drew ?_ | refine blk_alloc ?_ _)); exact BK106.out⟩
         have n4_ : Aside0 (((w71.setCell ⟨gb124, 0, none⟩ (.int .i64 t119)).setCell ⟨gb124, 1, none⟩ (.slice Ao74 t120.length co74)).heap[gb124]? = some (.cells #[.int .i64 t119, .slice Ao74 t120.length co74] 43 (0, 0))) := ⟨by (with_reducible repeat (first | refine blk_drewN ?_ _ | refine blk_drew ?_ | refine blk_alloc ?_ _)); refine blk_put (cs := #[.int .i64 t119, .slice none 0 0]) ?_ 1 _ rfl; (with_reducible repeat (first | refine blk_drewN ?_ _ | refine blk_drew ?_ | refine blk_alloc ?_ _)); refine blk_put (cs := #[.int .i64 0, .slice none 0 0]) ?_ 0 _ rfl; (with_reducible repeat (first | refine blk_drewN ?_ _ | refine blk_drew ?_ | refine blk_alloc ?_ _)); exact BK124.out⟩
         have n5_ : Aside0 (Below w.heap.size w ((w71.setCell ⟨gb124, 0, none⟩ (.int .i64 t119)).setCell ⟨gb124, 1, none⟩ (.slice Ao74 t120.length co74))) := ⟨by repeat (first | (with_reducible first | exact HB.out | apply below_alloc | apply pw_below_drewN | apply below_drew1 | refine below_set ?_ GE106.out | refine below_set ?_ GE124.out) | exact HB.out)⟩
         (try clear HO_107001); (try clear HO118); (try clear HO122); (try clear BK106); (try clear BK124); (try clear HB)
         generalize ((w71.setCell ⟨gb124, 0, none⟩ (.int .i64 t119)).setCell ⟨gb124, 1, none⟩ (.slice Ao74 t120.length co74)) = w75 at n0_ n1_ n2_ n3_ n4_ n5_ ⊢
         have HO_107001 := n0_
         have HO118 := n1_
         have HO122 := n2_
         have BK106 := n3_
         have BK124 := n4_
         have HB := n5_
         clear n0_ n1_ n2_ n3_ n4_ n5_
         replace HO_107001 := Aside0.mk (Kd.R_drew HO_107001.out)
         replace HO118 := Aside0.mk (Kd.R_drew HO118.out)
         replace HO122 := Aside0.mk (Kd.R_drew HO122.out)
         replace BK106 := Aside0.mk (blk_drew BK106.out)
         replace BK124 := Aside0.mk (blk_drew BK124.out)
         replace HB := Aside0.mk (below_drew1 HB.out)
         refine start_ (n := 17) (S := fun w' => w'.cell? ⟨gb106, 0, none⟩ = some (.int .i64 x107000_2) ∧ w'.cell? ⟨gb106, 1, none⟩ = some (u107001) ∧ w'.cell? ⟨gb124, 0, none⟩ = some (.int .i64 t119) ∧ w'.cell? ⟨gb124, 1, none⟩ = some (.slice Ao74 t120.length co74)) (ds := []) #[false, false, false, false, false, false, false, false, false, false, false, false, false, false, false, false, false] (by kernel_rfl) rfl rfl ⟨(blk_cell BK106.out 0).trans rfl, (blk_cell BK106.out 1).trans rfl, (blk_cell BK124.out 0).trans rfl, (blk_cell BK124.out 1).trans rfl⟩ (fun hHeld => ?_); refine with_tabW telamonlaw1_LevelSteps.tab15 telamonlaw1_LevelSteps.bits15 (fun HT_ HW_ => ?_)
         generalize w75.drew = w76 at HO_107001 HO118 HO122 BK106 BK124 HB HO118 HO122 hHeld ⊢
         refine pure_ (i := 0) (N := some 74) (v := ?_) (a' := ?_) #[true, false, false, false, false, false, false, false, false, false, false, false, false, false, false, false, false] rfl rfl (any_of HT_.out (by kernel_rfl)) (fun _ _ _ h => h) (Or.inl ⟨by rfl, ?_⟩) ?_ ?_
         rotate_left
         ·intro w'
          go_simp
          with_reducible rfl
         rotate_left
         ·simp only [Act.put, List.setIfInBounds_toArray, List.set_cons_zero, List.set_cons_succ, i64_w, i32_w]
          rfl
         refine one_ (i := 1) (N := some 75) #[true, true, false, false, false, false, false, false, false, false, false, false, false, false, false, false, false] rfl rfl (one_of HT_.out (by kernel_rfl)) (by decide) (fun K hK => ?_)
         refine goes_ Try.func43 (by kernel_rfl) rfl #[.int .i64 t123] (by rfl) rfl rfl (by (try simp only [List.map_toArray, List.map_cons, List.map_nil]); first | done | rfl | (simp only [List.length_drop, List.length_take]; rfl)) ?_
         with_reducible refine (telamonlaw1_num.calls t123 t125 _ A62.out).mono ?_
         rintro e w' ⟨rfl, ⟨nd, rfl⟩⟩
         refine ⟨_, rfl, ?_⟩
         obtain ⟨Ao77, co77, eo77⟩ := Kd.R_slice HO_107001.out
         (first | subst eo77 | (injection eo77 with f1_ f2_ f3_; have f4_ := f1_.symm; have f5_ := f3_.symm; clear f1_ f2_ f3_; subst f4_; subst f5_))
         refine hK.out _ _ ⟨(blk_cell BK106.out 0).trans rfl, (blk_cell BK106.out 1).trans rfl, (blk_cell BK124.out 0).trans rfl, (blk_cell BK124.out 1).trans rfl⟩ (fun hHeld => ?_)
         clear hK K
         refine norm_ (a' := ?_) ?_ ?_
         rotate_left
         ·show Act.put _ (some 75) _ = _
          simp only [Act.put, List.setIfInBounds_toArray, List.set_cons_zero, List.set_cons_succ, i64_w, i32_w]
          rfl
         refine pure_ (i := 2) (N := some 76) (v := ?_) (a' := ?_) #[true, true, true, false, false, false, false, false, false, false, false, false, false, false, false, false, false] rfl rfl (any_of HT_.out (by kernel_rfl)) (fun _ _ _ h => h) (Or.inl ⟨by rfl, ?_⟩) ?_ ?_
         rotate_left
         ·intro w'
          go_simp
          with_reducible rfl
         rotate_left
         ·simp only [Act.put, List.setIfInBounds_toArray, List.set_cons_zero, List.set_cons_succ, i64_w, i32_w]
          rfl
         refine pure_ (i := 3) (N := some 77) (v := ?_) (a' := ?_) #[true, true, true, true, false, false, false, false, false, false, false, false, false, false, false, false, false] rfl rfl (any_of HT_.out (by kernel_rfl)) (fun _ _ _ h => h) (Or.inl ⟨by rfl, ?_⟩) ?_ ?_
         rotate_left
         ·intro w'
          go_simp
          with_reducible rfl
         rotate_left
         ·simp only [Act.put, List.setIfInBounds_toArray, List.set_cons_zero, List.set_cons_succ, i64_w, i32_w]
          rfl
         refine take_ (i := 4) (N := some 78) (v := ?_) (a' := ?_) #[true, true, true, true, true, false, false, false, false, false, false, false, false, false, false, false, false] rfl rfl (take_ofW HT_.out HW_.out (by kernel_rfl)) (fun _ _ _ h => h) (Or.inl ⟨by rfl, ?_⟩) hHeld ?_ ?_
         rotate_left
         ·rintro w' ⟨s0, s1, s2, s3⟩
          go_simp
          with_reducible rfl
         rotate_left
         ·simp only [Act.put, List.setIfInBounds_toArray, List.set_cons_zero, List.set_cons_succ, i64_w, i32_w]
          rfl
         refine take_ (i := 5) (N := some 79) (v := ?_) (a' := ?_) #[true, true, true, true, true, true, false, false, false, false, false, false, false, false, false, false, false] rfl rfl (take_ofW HT_.out HW_.out (by kernel_rfl)) (fun _ _ _ h => h) (Or.inl ⟨by rfl, ?_⟩) hHeld ?_ ?_
         rotate_left
         ·rintro w' ⟨s0, s1, s2, s3⟩
          go_simp
          with_reducible rfl
         rotate_left
         ·simp only [Act.put, List.setIfInBounds_toArray, List.set_cons_zero, List.set_cons_succ, i64_w, i32_w]
          rfl
         refine one_ (i := 6) (N := some 80) #[true, true, true, true, true, true, true, false, false, false, false, false, false, false, false, false, false] rfl rfl (one_of HT_.out (by kernel_rfl)) (by decide) (fun K hK => ?_)
         refine goes_ Try.func44 (by kernel_rfl) rfl #[.agg #[.int .i64 x107000_2, .slice Ao77 x107001_2.length co77], .agg #[.int .i64 t119, .slice Ao74 t120.length co74]] (by rfl) rfl rfl (by (try simp only [List.map_toArray, List.map_cons, List.map_nil]); first | done | rfl | (simp only [List.length_drop, List.length_take]; rfl)) ?_
         with_reducible refine (telamonref1_ExactLevel.calls k2 x107000_2 _ _ x107001_2 t119 _ _ t120 true _ ?side1 ?side2 ?side3 ?side4 A64.out).mono ?_
         (case side1 => repeat (first | exact (Kd.R_reads' HO_107001.out).2.2 | (with_reducible refine Kd.C_alloc ?_ _) | (with_reducible refine Kd.C_drewN ?_ _) | (with_reducible refine Kd.C_drew ?_)))
         (case side2 => exact (Kd.R_reads' HO_107001.out).2.1)
         (case side3 => repeat (first | exact (Kd.R_reads' HO122.out).2.2 | (with_reducible refine Kd.C_alloc ?_ _) | (with_reducible refine Kd.C_drewN ?_ _) | (with_reducible refine Kd.C_drew ?_)))
         (case side4 => exact (Kd.R_reads' HO122.out).2.1)
         rintro e w78 ⟨rfl, hb⟩
         refine ⟨_, rfl, ?_⟩
         replace HO_107001 := Aside0.mk (Kd.R_below (rl_ HO_107001) hb)
         replace HO118 := Aside0.mk (Kd.R_below (rl_ HO118) hb)
         replace HO122 := Aside0.mk (Kd.R_below (rl_ HO122) hb)
         replace BK106 := bb_ BK106 hb
         replace BK124 := bb_ BK124 hb
         replace HB := hs_ HB hb
         (try clear hb); (try clear hb2); (try clear hk); (try clear hi)
         refine hK.out _ _ ⟨(blk_cell BK106.out 0).trans rfl, (blk_cell BK106.out 1).trans rfl, (blk_cell BK124.out 0).trans rfl, (blk_cell BK124.out 1).trans rfl⟩ (fun hHeld => ?_)
         clear hK K
         refine norm_ (a' := ?_) ?_ ?_
         rotate_left
         ·show Act.put _ (some 80) _ = _
          simp only [Act.put, List.setIfInBounds_toArray, List.set_cons_zero, List.set_cons_succ, i64_w, i32_w]
          rfl
         refine pure_ (i := 7) (N := some 81) (v := ?_) (a' := ?_) #[true, true, true, true, true, true, true, true, false, false, false, false, false, false, false, false, false] rfl rfl (any_of HT_.out (by kernel_rfl)) (fun _ _ _ h => h) (Or.inl ⟨by rfl, ?_⟩) ?_ ?_
         rotate_left
         ·intro w'
          go_simp
          with_reducible rfl
         rotate_left
         ·simp only [Act.put, List.setIfInBounds_toArray, List.set_cons_zero, List.set_cons_succ, i64_w, i32_w]
          rfl
         refine pure_ (i := 8) (N := some 82) (v := ?_) (a' := ?_) #[true, true, true, true, true, true, true, true, true, false, false, false, false, false, false, false, false] rfl rfl (any_of HT_.out (by kernel_rfl)) (fun _ _ _ h => h) (Or.inl ⟨by rfl, ?_⟩) ?_ ?_
         rotate_left
         ·intro w'
          go_simp
          with_reducible rfl
         rotate_left
         ·simp only [Act.put, List.setIfInBounds_toArray, List.set_cons_zero, List.set_cons_succ, i64_w, i32_w]
          rfl
         refine pure_ (i := 10) (N := some 84) (v := ?_) (a' := ?_) #[true, true, true, true, true, true, true, true, true, false, true, false, false, false, false, false, false] rfl rfl (any_of HT_.out (by kernel_rfl)) (fun _ _ _ h => h) (Or.inl ⟨by rfl, ?_⟩) ?_ ?_
         rotate_left
         ·intro w'
          go_simp
          with_reducible rfl
         rotate_left
         ·simp only [Act.put, List.setIfInBounds_toArray, List.set_cons_zero, List.set_cons_succ, i64_w, i32_w]
          rfl
         refine pure_ (i := 11) (N := some 85) (v := ?_) (a' := ?_) #[true, true, true, true, true, true, true, true, true, false, true, true, false, false, false, false, false] rfl rfl (any_of HT_.out (by kernel_rfl)) (fun _ _ _ h => h) (Or.inl ⟨by rfl, ?_⟩) ?_ ?_
         rotate_left
         ·intro w'
          go_simp
          with_reducible rfl
         rotate_left
         ·simp only [Act.put, List.setIfInBounds_toArray, List.set_cons_zero, List.set_cons_succ, i64_w, i32_w]
          rfl
         refine pure_ (i := 12) (N := some 86) (v := ?_) (a' := ?_) #[true, true, true, true, true, true, true, true, true, false, true, true, true, false, false, false, false] rfl rfl (any_of HT_.out (by kernel_rfl)) (fun _ _ _ h => h) (Or.inl ⟨by rfl, ?_⟩) ?_ ?_
         rotate_left
         ·intro w'
          go_simp
          with_reducible rfl
         rotate_left
         ·simp only [Act.put, List.setIfInBounds_toArray, List.set_cons_zero, List.set_cons_succ, i64_w, i32_w]
          rfl
         refine take_ (i := 9) (N := some 83) (v := ?_) (a' := ?_) #[true, true, true, true, true, true, true, true, true, true, true, true, true, false, false, false, false] rfl rfl (take_ofW HT_.out HW_.out (by kernel_rfl)) (fun _ _ _ h => h) (Or.inl ⟨by rfl, ?_⟩) hHeld ?_ ?_
         rotate_left
         ·rintro w' ⟨s0, s1, s2, s3⟩
          go_simp
          with_reducible rfl
         rotate_left
         ·simp only [Act.put, List.setIfInBounds_toArray, List.set_cons_zero, List.set_cons_succ, i64_w, i32_w]
          rfl
         refine one_ (i := 13) (N := some 87) #[true, true, true, true, true, true, true, true, true, true, true, true, true, true, false, false, false] rfl rfl (one_of HT_.out (by kernel_rfl)) (by decide) (fun K hK => ?_)
         refine goes_ Try.func33 (by kernel_rfl) rfl #[.int .i64 3, .int .i64 (wrap64 (a1 + a0))] (by rfl) rfl rfl (by (try simp only [List.map_toArray, List.map_cons, List.map_nil]); first | done | rfl | (simp only [List.length_drop, List.length_take]; rfl)) ?_
         with_reducible refine (telamonlaw1_V.calls 3 (wrap64 (a1 + a0)) t127 t128 _ A66.out).mono ?_
         rintro e w79 ⟨v129, rfl, ho0, hb⟩
         refine ⟨_, rfl, ?_⟩
         have HO130 := Aside0.mk (Kd.R_lower (Kd.R_new' (Kd.R_new' (Kd.R_new' ho0 (Kd.R_lt (rl_ HO_107001))) (Kd.R_lt (rl_ HO118))) (Kd.R_lt (rl_ HO122))) (below_size (bl_ HB)))
         replace HO_107001 := Aside0.mk (Kd.R_elder' (rl_ HO_107001) (Kd.R_base ho0) hb)
         replace HO118 := Aside0.mk (Kd.R_elder' (rl_ HO118) (Kd.R_base ho0) hb)
         replace HO122 := Aside0.mk (Kd.R_elder' (rl_ HO122) (Kd.R_base ho0) hb)
         replace BK106 := bb_ BK106 hb
         replace BK124 := bb_ BK124 hb
         replace HB := hs_ HB hb
         (try clear hb); (try clear hb2); (try clear hk); (try clear hi); (try clear ho0)
         obtain ⟨Ao80, co80, eo80⟩ := Kd.R_slice HO130.out
         (first | subst eo80 | (injection eo80 with f1_ f2_ f3_; have f4_ := f1_.symm; have f5_ := f3_.symm; clear f1_ f2_ f3_; subst f4_; subst f5_))
         refine hK.out _ _ ⟨(blk_cell BK106.out 0).trans rfl, (blk_cell BK106.out 1).trans rfl, (blk_cell BK124.out 0).trans rfl, (blk_cell BK124.out 1).trans rfl⟩ (fun hHeld => ?_)
         clear hK K
         refine norm_ (a' := ?_) ?_ ?_
         rotate_left
         ·show Act.put _ (some 87) _ = _
          simp only [Act.put, List.setIfInBounds_toArray, List.set_cons_zero, List.set_cons_succ, i64_w, i32_w]
          rfl
         refine one_ (i := 14) (N := some 88) #[true, true, true, true, true, true, true, true, true, true, true, true, true, true, true, false, false] rfl rfl (one_of HT_.out (by kernel_rfl)) (by decide) (fun K hK => ?_)
         refine goes_ Try.func44 (by kernel_rfl) rfl #[.agg #[.int .i64 x107000_2, .slice Ao77 x107001_2.length co77], .agg #[.int .i64 t127, .slice Ao80 t128.length co80]] (by rfl) rfl rfl (by (try simp only [List.map_toArray, List.map_cons, List.map_nil]); first | done | rfl | (simp only [List.length_drop, List.length_take]; rfl)) ?_
         with_reducible refine (telamonref1_ExactLevel.calls k2 x107000_2 _ _ x107001_2 t127 _ _ t128 t131 _ ?side1 ?side2 ?side3 ?side4 A67.out).mono ?_
         (case side1 => repeat (first | exact (Kd.R_reads' HO_107001.out).2.2 | (with_reducible refine Kd.C_alloc ?_ _) | (with_reducible refine Kd.C_drewN ?_ _) | (with_reducible refine Kd.C_drew ?_)))
         (case side2 => exact (Kd.R_reads' HO_107001.out).2.1)
         (case side3 => repeat (first | exact (Kd.R_reads' HO130.out).2.2 | (with_reducible refine Kd.C_alloc ?_ _) | (with_reducible refine Kd.C_drewN ?_ _) | (with_reducible refine Kd.C_drew ?_)))
         (case side4 => exact (Kd.R_reads' HO130.out).2.1)
         rintro e w81 ⟨rfl, hb⟩
         refine ⟨_, rfl, ?_⟩
         replace HO_107001 := Aside0.mk (Kd.R_below (rl_ HO_107001) hb)
         replace HO118 := Aside0.mk (Kd.R_below (rl_ HO118) hb)
         replace HO122 := Aside0.mk (Kd.R_below (rl_ HO122) hb)
         replace HO130 := Aside0.mk (Kd.R_below (rl_ HO130) hb)
         replace BK106 := bb_ BK106 hb
         replace BK124 := bb_ BK124 hb
         replace HB := hs_ HB hb
         (try clear hb); (try clear hb2); (try clear hk); (try clear hi)
         refine hK.out _ _ ⟨(blk_cell BK106.out 0).trans rfl, (blk_cell BK106.out 1).trans rfl, (blk_cell BK124.out 0).trans rfl, (blk_cell BK124.out 1).trans rfl⟩ (fun hHeld => ?_)
         clear hK K
         refine norm_ (a' := ?_) ?_ ?_
         rotate_left
         ·show Act.put _ (some 88) _ = _
          simp only [Act.put, List.setIfInBounds_toArray, List.set_cons_zero, List.set_cons_succ, i64_w, i32_w]
          rfl
         refine pure_ (i := 15) (N := some 89) (v := ?_) (a' := ?_) #[true, true, true, true, true, true, true, true, true, true, true, true, true, true, true, true, false] rfl rfl (any_of HT_.out (by kernel_rfl)) (fun _ _ _ h => h) (Or.inl ⟨by rfl, ?_⟩) ?_ ?_
         rotate_left
         ·intro w'
          go_simp
          with_reducible rfl
         rotate_left
         ·simp only [Act.put, List.setIfInBounds_toArray, List.set_cons_zero, List.set_cons_succ, i64_w, i32_w]
          rfl
         refine pure_ (i := 16) (N := some 4) (v := ?_) (a' := ?_) #[true, true, true, true, true, true, true, true, true, true, true, true, true, true, true, true, true] rfl rfl (any_of HT_.out (by kernel_rfl)) (fun _ _ _ h => h) (Or.inl ⟨by rfl, ?_⟩) ?_ ?_
         rotate_left
         ·intro w'
          go_simp
          with_reducible rfl
         rotate_left
         ·simp only [Act.put, List.setIfInBounds_toArray, List.set_cons_zero, List.set_cons_succ, i64_w, i32_w]
          rfl
         refine done_ (done_of HT_.out (by kernel_rfl)) ?_
         try go_wp2
         go_ret
         exact ⟨by first | rfl | (simp [errW_none, errW_some] <;> rfl) | (simp [*, errW_none, errW_some] <;> rfl), by repeat (first | (with_reducible first | exact HB.out | apply below_alloc | apply pw_below_drewN | apply below_drew1 | refine below_set ?_ GE106.out | refine below_set ?_ GE124.out) | exact HB.out)⟩
        ·replace c65 := Bool.eq_false_iff.mpr c65
         subst c65
         have H1 : (some false) = some r := by rw [if_neg (show ¬ (false = true) by decide)] at H; exact H
         clear H
         have H := H1
         clear H1
         obtain rfl := Option.some.inj H
         try go_wp2_with (first | ((with_reducible refine gate_callee (f := 33) rfl ?_); refine goesL_ (some 69) rfl rfl Try.func33 (by kernel_rfl) rfl #[.int .i64 3, .int .i64 a1] rfl (by (try simp only [List.map_toArray, List.map_cons, List.map_nil]); first | done | rfl | (simp only [List.length_drop, List.length_take]; rfl)) ?_; (with_reducible refine (telamonlaw1_V.calls 3 a1 t115 t116 _ A60.out).mono ?_); rintro e w82 ⟨v117, rfl, ho0, hb⟩; refine ⟨_, rfl, ?_⟩; have HO118 := Aside0.mk (Kd.R_lower (Kd.R_new' ho0 (Kd.R_lt (rl_ HO_107001))) (below_size (bl_ HB))); replace HO_107001 := Aside0.mk (Kd.R_elder' (rl_ HO_107001) (Kd.R_base ho0) hb); replace BK106 := bb_ BK106 hb; replace HB := hs_ HB hb; (try clear hb); (try clear hb2); (try clear hk); (try clear hi); (try clear ho0); obtain ⟨Ao83, co83, eo83⟩ := Kd.R_slice HO118.out; subst eo83) | ((with_reducible refine gate_callee (f := 45) rfl ?_); refine goesL_ (some 71) rfl rfl Try.func45 (by kernel_rfl) rfl #[.agg #[.int .i64 t115, .slice Ao83 t116.length co83], .int .i64 a0] rfl (by (try simp only [List.map_toArray, List.map_cons, List.map_nil]); first | done | rfl | (simp only [List.length_drop, List.length_take]; rfl)) ?_; (with_reducible refine (level_Suc.calls k2 t115 _ _ t116 a0 t119 t120 t123 _ ?side1 ?side2 A61.out).mono ?_); (case side1 => repeat (first | exact (Kd.R_reads' HO118.out).2.2 | (with_reducible refine Kd.C_alloc ?_ _) | (with_reducible refine Kd.C_drewN ?_ _) | (with_reducible refine Kd.C_drew ?_))); (case side2 => exact (Kd.R_reads' HO118.out).2.1); rintro e w84 ⟨v121, rfl, ho0, hb⟩; refine ⟨_, rfl, ?_⟩; have HO122 := Aside0.mk (Kd.R_lower (Kd.R_new' (Kd.R_new' ho0 (Kd.R_lt (rl_ HO_107001))) (Kd.R_lt (rl_ HO118))) (below_size (bl_ HB))); replace HO_107001 := Aside0.mk (Kd.R_elder' (rl_ HO_107001) (Kd.R_base ho0) hb); replace HO118 := Aside0.mk (Kd.R_elder' (rl_ HO118) (Kd.R_base ho0) hb); replace BK106 := bb_ BK106 hb; replace HB := hs_ HB hb; (try clear hb); (try clear hb2); (try clear hk); (try clear hi); (try clear ho0)) | ((with_reducible refine gate_dst (N := 10) rfl ?_); (try (refine gate_guard (by rfl) ?_; dsimp only)); refine box_event ?hg (N := 10) ?hd (cs := #[.int .i64 0, .slice none 0 0]) (t := 43) ?hr ?_; (case hd => rfl); (case hg => rfl); (case hr => first | (go_simp; done) | (go_simp; rfl)); intro gb124 hg w85 hbox hb; have BK124 := Aside0.mk (hbox); have GW124 := Aside0.mk ((bs_ hg HB : w.heap.size ≤ gb124)); have GE124 := Aside0.mk ((bs_ hg HB : w.heap.size ≤ gb124)); have NB106_124 := Aside0.mk ((nl_ hg BK106 : gb106 ≠ gb124)); have NB124_106 := Aside0.mk ((ng_ hg BK106 : gb124 ≠ gb106)); replace HO_107001 := Aside0.mk (Kd.R_below (rl_ HO_107001) hb); replace HO118 := Aside0.mk (Kd.R_below (rl_ HO118) hb); replace HO122 := Aside0.mk (Kd.R_below (rl_ HO122) hb); replace BK106 := bb_ BK106 hb; replace HB := hs_ HB hb; clear hb hbox hg; have hnb86 := NB124_106.out; have hnc86 := NB106_124.out; have hcz87_0 : w85.cell? ⟨gb124, 0, none⟩ = some (.int .i64 0) := (blk_cell BK124.out 0).trans rfl; have hcz87_1 : w85.cell? ⟨gb124, 1, none⟩ = some (.slice none 0 0) := (blk_cell BK124.out 1).trans rfl; have hfz87_0 := blk_frozen BK124.out 0; have hfz87_1 := blk_frozen BK124.out 1; obtain ⟨Ao88, co88, eo88⟩ := Kd.R_slice HO122.out; subst eo88))
         have n0_ : Aside0 (Kd.R k62 62 ((w85.setCell ⟨gb124, 0, none⟩ (.int .i64 t119)).setCell ⟨gb124, 1, none⟩ (.slice Ao88 t120.length co88)) w.heap.size (fun k_ => some k_ ≠ (.slice Ao83 t116.length co83 : Value).ownBlock ∧ some k_ ≠ (.slice Ao88 t120.length co88 : Value).ownBlock) u107001 x107001_2) := ⟨by (with_reducible repeat (first | apply Kd.R_alloc | apply Kd.R_drewN | apply Kd.R_drew)); exact Kd.R_mono (Kd.R_far (p := ⟨gb124, 1, none⟩) (Kd.R_far (p := ⟨gb124, 0, none⟩) (Kd.R_types HO_107001.out BK124.out (by decide)) (fun _ hk => hk.2) (.int .i64 t119)) (fun _ hk => hk.2) (.slice Ao88 t120.length co88)) (fun _ hk => ⟨hk.1.1.2, hk.1.2⟩)⟩
         have n1_ : Aside0 (Kd.R k62 62 ((w85.setCell ⟨gb124, 0, none⟩ (.int .i64 t119)).setCell ⟨gb124, 1, none⟩ (.slice Ao88 t120.length co88)) w.heap.size (fun k_ => some k_ ≠ (u107001 : Value).ownBlock ∧ some k_ ≠ (.slice Ao88 t120.length co88 : Value).ownBlock) (.slice Ao83 t116.length co83) t116) := ⟨by (with_reducible repeat (first | apply Kd.R_alloc | apply Kd.R_drewN | apply Kd.R_drew)); exact Kd.R_mono (Kd.R_far (p := ⟨gb124, 1, none⟩) (Kd.R_far (p := ⟨gb124, 0, none⟩) (Kd.R_types HO118.out BK124.out (by decide)) (fun _ hk => hk.2) (.int .i64 t119)) (fun _ hk => hk.2) (.slice Ao88 t120.length co88)) (fun _ hk => ⟨hk.1.1.2, hk.1.2⟩)⟩
         have n2_ : Aside0 (Kd.R k62 62 ((w85.setCell ⟨gb124, 0, none⟩ (.int .i64 t119)).setCell ⟨gb124, 1, none⟩ (.slice Ao88 t120.length co88)) w.heap.size (fun k_ => some k_ ≠ (u107001 : Value).ownBlock ∧ some k_ ≠ (.slice Ao83 t116.length co83 : Value).ownBlock) (.slice Ao88 t120.length co88) t120) := ⟨by (with_reducible repeat (first | apply Kd.R_alloc | apply Kd.R_drewN | apply Kd.R_drew)); exact Kd.R_mono (Kd.R_far (p := ⟨gb124, 1, none⟩) (Kd.R_far (p := ⟨gb124, 0, none⟩) (Kd.R_types HO122.out BK124.out (by decide)) (fun _ hk => hk.2) (.int .i64 t119)) (fun _ hk => hk.2) (.slice Ao88 t120.length co88)) (fun _ hk => ⟨hk.1.1.2, hk.1.2⟩)⟩
         have n3_ : Aside0 (((w85.setCell ⟨gb124, 0, none⟩ (.int .i64 t119)).setCell ⟨gb124, 1, none⟩ (.slice Ao88 t120.length co88)).heap[gb106]? = some (.cells #[.int .i64 x107000_2, u107001] 43 (0, 0))) := ⟨by (with_reducible repeat (first | refine blk_drewN ?_ _ | refine blk_drew ?_ | refine blk_alloc ?_ _)); refine blk_far ?_ NB106_124.out _; (with_reducible repeat (first | refine blk_drewN ?_ _ | refine blk_drew ?_ | refine blk_alloc ?_ _)); refine blk_far ?_ NB106_124.out _; (with_reducible repeat (first | refine blk_drewN ?_ _ | refine blk_drew ?_ | refine blk_alloc ?_ _)); exact BK106.out⟩
         have n4_ : Aside0 (((w85.setCell ⟨gb124, 0, none⟩ (.int .i64 t119)).setCell ⟨gb124, 1, none⟩ (.slice Ao88 t120.length co88)).heap[gb124]? = some (.cells #[.int .i64 t119, .slice Ao88 t120.length co88] 43 (0, 0))) := ⟨by (with_reducible repeat (first | refine blk_drewN ?_ _ | refine blk_drew ?_ | refine blk_alloc ?_ _)); refine blk_put (cs := #[.int .i64 t119, .slice none 0 0]) ?_ 1 _ rfl; (with_reducible repeat (first | refine blk_drewN ?_ _ | refine blk_drew ?_ | refine blk_alloc ?_ _)); refine blk_put (cs := #[.int .i64 0, .slice none 0 0]) ?_ 0 _ rfl; (with_reducible repeat (first | refine blk_drewN ?_ _ | refine blk_drew ?_ | refine blk_alloc ?_ _)); exact BK124.out⟩
         have n5_ : Aside0 (Below w.heap.size w ((w85.setCell ⟨gb124, 0, none⟩ (.int .i64 t119)).setCell ⟨gb124, 1, none⟩ (.slice Ao88 t120.length co88))) := ⟨by repeat (first | (with_reducible first | exact HB.out | apply below_alloc | apply pw_below_drewN | apply below_drew1 | refine below_set ?_ GE106.out | refine below_set ?_ GE124.out) | exact HB.out)⟩
         (try clear HO_107001); (try clear HO118); (try clear HO122); (try clear BK106); (try clear BK124); (try clear HB)
         generalize ((w85.setCell ⟨gb124, 0, none⟩ (.int .i64 t119)).setCell ⟨gb124, 1, none⟩ (.slice Ao88 t120.length co88)) = w89 at n0_ n1_ n2_ n3_ n4_ n5_ ⊢
         have HO_107001 := n0_
         have HO118 := n1_
         have HO122 := n2_
         have BK106 := n3_
         have BK124 := n4_
         have HB := n5_
         clear n0_ n1_ n2_ n3_ n4_ n5_
         replace HO_107001 := Aside0.mk (Kd.R_drew HO_107001.out)
         replace HO118 := Aside0.mk (Kd.R_drew HO118.out)
         replace HO122 := Aside0.mk (Kd.R_drew HO122.out)
         replace BK106 := Aside0.mk (blk_drew BK106.out)
         replace BK124 := Aside0.mk (blk_drew BK124.out)
         replace HB := Aside0.mk (below_drew1 HB.out)
         refine start_ (n := 17) (S := fun w' => w'.cell? ⟨gb106, 0, none⟩ = some (.int .i64 x107000_2) ∧ w'.cell? ⟨gb106, 1, none⟩ = some (u107001) ∧ w'.cell? ⟨gb124, 0, none⟩ = some (.int .i64 t119) ∧ w'.cell? ⟨gb124, 1, none⟩ = some (.slice Ao88 t120.length co88)) (ds := []) #[false, false, false, false, false, false, false, false, false, false, false, false, false, false, false, false, false] (by kernel_rfl) rfl rfl ⟨(blk_cell BK106.out 0).trans rfl, (blk_cell BK106.out 1).trans rfl, (blk_cell BK124.out 0).trans rfl, (blk_cell BK124.out 1).trans rfl⟩ (fun hHeld => ?_); refine with_tabW telamonlaw1_LevelSteps.tab15 telamonlaw1_LevelSteps.bits15 (fun HT_ HW_ => ?_)
         generalize w89.drew = w90 at HO_107001 HO118 HO122 BK106 BK124 HB HO118 HO122 hHeld ⊢
         refine pure_ (i := 0) (N := some 74) (v := ?_) (a' := ?_) #[true, false, false, false, false, false, false, false, false, false, false, false, false, false, false, false, false] rfl rfl (any_of HT_.out (by kernel_rfl)) (fun _ _ _ h => h) (Or.inl ⟨by rfl, ?_⟩) ?_ ?_
         rotate_left
         ·intro w'
          go_simp
          with_reducible rfl
         rotate_left
         ·simp only [Act.put, List.setIfInBounds_toArray, List.set_cons_zero, List.set_cons_succ, i64_w, i32_w]
          rfl
         refine one_ (i := 1) (N := some 75) #[true, true, false, false, false, false, false, false, false, false, false, false, false, false, false, false, false] rfl rfl (one_of HT_.out (by kernel_rfl)) (by decide) (fun K hK => ?_)
         refine goes_ Try.func43 (by kernel_rfl) rfl #[.int .i64 t123] (by rfl) rfl rfl (by (try simp only [List.map_toArray, List.map_cons, List.map_nil]); first | done | rfl | (simp only [List.length_drop, List.length_take]; rfl)) ?_
         with_reducible refine (telamonlaw1_num.calls t123 t125 _ A62.out).mono ?_
         rintro e w' ⟨rfl, ⟨nd, rfl⟩⟩
         refine ⟨_, rfl, ?_⟩
         obtain ⟨Ao91, co91, eo91⟩ := Kd.R_slice HO_107001.out
         (first | subst eo91 | (injection eo91 with f1_ f2_ f3_; have f4_ := f1_.symm; have f5_ := f3_.symm; clear f1_ f2_ f3_; subst f4_; subst f5_))
         refine hK.out _ _ ⟨(blk_cell BK106.out 0).trans rfl, (blk_cell BK106.out 1).trans rfl, (blk_cell BK124.out 0).trans rfl, (blk_cell BK124.out 1).trans rfl⟩ (fun hHeld => ?_)
         clear hK K
         refine norm_ (a' := ?_) ?_ ?_
         rotate_left
         ·show Act.put _ (some 75) _ = _
          simp only [Act.put, List.setIfInBounds_toArray, List.set_cons_zero, List.set_cons_succ, i64_w, i32_w]
          rfl
         refine pure_ (i := 2) (N := some 76) (v := ?_) (a' := ?_) #[true, true, true, false, false, false, false, false, false, false, false, false, false, false, false, false, false] rfl rfl (any_of HT_.out (by kernel_rfl)) (fun _ _ _ h => h) (Or.inl ⟨by rfl, ?_⟩) ?_ ?_
         rotate_left
         ·intro w'
          go_simp
          with_reducible rfl
         rotate_left
         ·simp only [Act.put, List.setIfInBounds_toArray, List.set_cons_zero, List.set_cons_succ, i64_w, i32_w]
          rfl
         refine pure_ (i := 3) (N := some 77) (v := ?_) (a' := ?_) #[true, true, true, true, false, false, false, false, false, false, false, false, false, false, false, false, false] rfl rfl (any_of HT_.out (by kernel_rfl)) (fun _ _ _ h => h) (Or.inl ⟨by rfl, ?_⟩) ?_ ?_
         rotate_left
         ·intro w'
          go_simp
          with_reducible rfl
         rotate_left
         ·simp only [Act.put, List.setIfInBounds_toArray, List.set_cons_zero, List.set_cons_succ, i64_w, i32_w]
          rfl
         refine take_ (i := 4) (N := some 78) (v := ?_) (a' := ?_) #[true, true, true, true, true, false, false, false, false, false, false, false, false, false, false, false, false] rfl rfl (take_ofW HT_.out HW_.out (by kernel_rfl)) (fun _ _ _ h => h) (Or.inl ⟨by rfl, ?_⟩) hHeld ?_ ?_
         rotate_left
         ·rintro w' ⟨s0, s1, s2, s3⟩
          go_simp
          with_reducible rfl
         rotate_left
         ·simp only [Act.put, List.setIfInBounds_toArray, List.set_cons_zero, List.set_cons_succ, i64_w, i32_w]
          rfl
         refine take_ (i := 5) (N := some 79) (v := ?_) (a' := ?_) #[true, true, true, true, true, true, false, false, false, false, false, false, false, false, false, false, false] rfl rfl (take_ofW HT_.out HW_.out (by kernel_rfl)) (fun _ _ _ h => h) (Or.inl ⟨by rfl, ?_⟩) hHeld ?_ ?_
         rotate_left
         ·rintro w' ⟨s0, s1, s2, s3⟩
          go_simp
          with_reducible rfl
         rotate_left
         ·simp only [Act.put, List.setIfInBounds_toArray, List.set_cons_zero, List.set_cons_succ, i64_w, i32_w]
          rfl
         refine one_ (i := 6) (N := some 80) #[true, true, true, true, true, true, true, false, false, false, false, false, false, false, false, false, false] rfl rfl (one_of HT_.out (by kernel_rfl)) (by decide) (fun K hK => ?_)
         refine goes_ Try.func44 (by kernel_rfl) rfl #[.agg #[.int .i64 x107000_2, .slice Ao91 x107001_2.length co91], .agg #[.int .i64 t119, .slice Ao88 t120.length co88]] (by rfl) rfl rfl (by (try simp only [List.map_toArray, List.map_cons, List.map_nil]); first | done | rfl | (simp only [List.length_drop, List.length_take]; rfl)) ?_
         with_reducible refine (telamonref1_ExactLevel.calls k2 x107000_2 _ _ x107001_2 t119 _ _ t120 false _ ?side1 ?side2 ?side3 ?side4 A64.out).mono ?_
         (case side1 => repeat (first | exact (Kd.R_reads' HO_107001.out).2.2 | (with_reducible refine Kd.C_alloc ?_ _) | (with_reducible refine Kd.C_drewN ?_ _) | (with_reducible refine Kd.C_drew ?_)))
         (case side2 => exact (Kd.R_reads' HO_107001.out).2.1)
         (case side3 => repeat (first | exact (Kd.R_reads' HO122.out).2.2 | (with_reducible refine Kd.C_alloc ?_ _) | (with_reducible refine Kd.C_drewN ?_ _) | (with_reducible refine Kd.C_drew ?_)))
         (case side4 => exact (Kd.R_reads' HO122.out).2.1)
         rintro e w92 ⟨rfl, hb⟩
         refine ⟨_, rfl, ?_⟩
         replace HO_107001 := Aside0.mk (Kd.R_below (rl_ HO_107001) hb)
         replace HO118 := Aside0.mk (Kd.R_below (rl_ HO118) hb)
         replace HO122 := Aside0.mk (Kd.R_below (rl_ HO122) hb)
         replace BK106 := bb_ BK106 hb
         replace BK124 := bb_ BK124 hb
         replace HB := hs_ HB hb
         (try clear hb); (try clear hb2); (try clear hk); (try clear hi)
         refine hK.out _ _ ⟨(blk_cell BK106.out 0).trans rfl, (blk_cell BK106.out 1).trans rfl, (blk_cell BK124.out 0).trans rfl, (blk_cell BK124.out 1).trans rfl⟩ (fun hHeld => ?_)
         clear hK K
         refine norm_ (a' := ?_) ?_ ?_
         rotate_left
         ·show Act.put _ (some 80) _ = _
          simp only [Act.put, List.setIfInBounds_toArray, List.set_cons_zero, List.set_cons_succ, i64_w, i32_w]
          rfl
         refine pure_ (i := 7) (N := some 81) (v := ?_) (a' := ?_) #[true, true, true, true, true, true, true, true, false, false, false, false, false, false, false, false, false] rfl rfl (any_of HT_.out (by kernel_rfl)) (fun _ _ _ h => h) (Or.inl ⟨by rfl, ?_⟩) ?_ ?_
         rotate_left
         ·intro w'
          go_simp
          with_reducible rfl
         rotate_left
         ·simp only [Act.put, List.setIfInBounds_toArray, List.set_cons_zero, List.set_cons_succ, i64_w, i32_w]
          rfl
         refine pure_ (i := 8) (N := some 82) (v := ?_) (a' := ?_) #[true, true, true, true, true, true, true, true, true, false, false, false, false, false, false, false, false] rfl rfl (any_of HT_.out (by kernel_rfl)) (fun _ _ _ h => h) (Or.inl ⟨by rfl, ?_⟩) ?_ ?_
         rotate_left
         ·intro w'
          go_simp
          with_reducible rfl
         rotate_left
         ·simp only [Act.put, List.setIfInBounds_toArray, List.set_cons_zero, List.set_cons_succ, i64_w, i32_w]
          rfl
         refine pure_ (i := 9) (N := some 83) (v := undef) (a' := ?_) #[true, true, true, true, true, true, true, true, true, true, false, false, false, false, false, false, false] rfl rfl (any_of HT_.out (by kernel_rfl)) (fun _ _ _ h => h) (Or.inr ⟨by rfl, rfl⟩) ?_ ?_
         rotate_left
         ·simp only [Act.put, List.setIfInBounds_toArray, List.set_cons_zero, List.set_cons_succ, i64_w, i32_w]
          rfl
         refine pure_ (i := 10) (N := some 84) (v := undef) (a' := ?_) #[true, true, true, true, true, true, true, true, true, true, true, false, false, false, false, false, false] rfl rfl (any_of HT_.out (by kernel_rfl)) (fun _ _ _ h => h) (Or.inr ⟨by rfl, rfl⟩) ?_ ?_
         rotate_left
         ·simp only [Act.put, List.setIfInBounds_toArray, List.set_cons_zero, List.set_cons_succ, i64_w, i32_w]
          rfl
         refine pure_ (i := 11) (N := some 85) (v := undef) (a' := ?_) #[true, true, true, true, true, true, true, true, true, true, true, true, false, false, false, false, false] rfl rfl (any_of HT_.out (by kernel_rfl)) (fun _ _ _ h => h) (Or.inr ⟨by rfl, rfl⟩) ?_ ?_
         rotate_left
         ·simp only [Act.put, List.setIfInBounds_toArray, List.set_cons_zero, List.set_cons_succ, i64_w, i32_w]
          rfl
         refine pure_ (i := 12) (N := some 86) (v := undef) (a' := ?_) #[true, true, true, true, true, true, true, true, true, true, true, true, true, false, false, false, false] rfl rfl (any_of HT_.out (by kernel_rfl)) (fun _ _ _ h => h) (Or.inr ⟨by rfl, rfl⟩) ?_ ?_
         rotate_left
         ·simp only [Act.put, List.setIfInBounds_toArray, List.set_cons_zero, List.set_cons_succ, i64_w, i32_w]
          rfl
         refine pure_ (i := 13) (N := some 87) (v := undef) (a' := ?_) #[true, true, true, true, true, true, true, true, true, true, true, true, true, true, false, false, false] rfl rfl (any_of HT_.out (by kernel_rfl)) (fun _ _ _ h => h) (Or.inr ⟨by rfl, rfl⟩) ?_ ?_
         rotate_left
         ·simp only [Act.put, List.setIfInBounds_toArray, List.set_cons_zero, List.set_cons_succ, i64_w, i32_w]
          rfl
         refine pure_ (i := 14) (N := some 88) (v := undef) (a' := ?_) #[true, true, true, true, true, true, true, true, true, true, true, true, true, true, true, false, false] rfl rfl (any_of HT_.out (by kernel_rfl)) (fun _ _ _ h => h) (Or.inr ⟨by rfl, rfl⟩) ?_ ?_
         rotate_left
         ·simp only [Act.put, List.setIfInBounds_toArray, List.set_cons_zero, List.set_cons_succ, i64_w, i32_w]
          rfl
         refine pure_ (i := 15) (N := some 89) (v := ?_) (a' := ?_) #[true, true, true, true, true, true, true, true, true, true, true, true, true, true, true, true, false] rfl rfl (any_of HT_.out (by kernel_rfl)) (fun _ _ _ h => h) (Or.inl ⟨by rfl, ?_⟩) ?_ ?_
         rotate_left
         ·intro w'
          go_simp
          with_reducible rfl
         rotate_left
         ·simp only [Act.put, List.setIfInBounds_toArray, List.set_cons_zero, List.set_cons_succ, i64_w, i32_w]
          rfl
         refine pure_ (i := 16) (N := some 4) (v := ?_) (a' := ?_) #[true, true, true, true, true, true, true, true, true, true, true, true, true, true, true, true, true] rfl rfl (any_of HT_.out (by kernel_rfl)) (fun _ _ _ h => h) (Or.inl ⟨by rfl, ?_⟩) ?_ ?_
         rotate_left
         ·intro w'
          go_simp
          with_reducible rfl
         rotate_left
         ·simp only [Act.put, List.setIfInBounds_toArray, List.set_cons_zero, List.set_cons_succ, i64_w, i32_w]
          rfl
         refine done_ (done_of HT_.out (by kernel_rfl)) ?_
         try go_wp2
         go_ret
         exact ⟨by first | rfl | (simp [errW_none, errW_some] <;> rfl) | (simp [*, errW_none, errW_some] <;> rfl), by repeat (first | (with_reducible first | exact HB.out | apply below_alloc | apply pw_below_drewN | apply below_drew1 | refine below_set ?_ GE106.out | refine below_set ?_ GE124.out) | exact HB.out)⟩
       ·rw [if_neg c63] at H
        have c63b0 : (t125 == 0) = false := beq_eq_false_iff_ne.mpr c63
        have c63b1 : (t125 != 0) = true := bne_iff_ne.mpr c63
        obtain rfl := Option.some.inj H
        try go_wp2_with (first | ((with_reducible refine gate_callee (f := 33) rfl ?_); refine goesL_ (some 69) rfl rfl Try.func33 (by kernel_rfl) rfl #[.int .i64 3, .int .i64 a1] rfl (by (try simp only [List.map_toArray, List.map_cons, List.map_nil]); first | done | rfl | (simp only [List.length_drop, List.length_take]; rfl)) ?_; (with_reducible refine (telamonlaw1_V.calls 3 a1 t115 t116 _ A60.out).mono ?_); rintro e w93 ⟨v117, rfl, ho0, hb⟩; refine ⟨_, rfl, ?_⟩; have HO118 := Aside0.mk (Kd.R_lower (Kd.R_new' ho0 (Kd.R_lt (rl_ HO_107001))) (below_size (bl_ HB))); replace HO_107001 := Aside0.mk (Kd.R_elder' (rl_ HO_107001) (Kd.R_base ho0) hb); replace BK106 := bb_ BK106 hb; replace HB := hs_ HB hb; (try clear hb); (try clear hb2); (try clear hk); (try clear hi); (try clear ho0); obtain ⟨Ao94, co94, eo94⟩ := Kd.R_slice HO118.out; subst eo94) | ((with_reducible refine gate_callee (f := 45) rfl ?_); refine goesL_ (some 71) rfl rfl Try.func45 (by kernel_rfl) rfl #[.agg #[.int .i64 t115, .slice Ao94 t116.length co94], .int .i64 a0] rfl (by (try simp only [List.map_toArray, List.map_cons, List.map_nil]); first | done | rfl | (simp only [List.length_drop, List.length_take]; rfl)) ?_; (with_reducible refine (level_Suc.calls k2 t115 _ _ t116 a0 t119 t120 t123 _ ?side1 ?side2 A61.out).mono ?_); (case side1 => repeat (first | exact (Kd.R_reads' HO118.out).2.2 | (with_reducible refine Kd.C_alloc ?_ _) | (with_reducible refine Kd.C_drewN ?_ _) | (with_reducible refine Kd.C_drew ?_))); (case side2 => exact (Kd.R_reads' HO118.out).2.1); rintro e w95 ⟨v121, rfl, ho0, hb⟩; refine ⟨_, rfl, ?_⟩; have HO122 := Aside0.mk (Kd.R_lower (Kd.R_new' (Kd.R_new' ho0 (Kd.R_lt (rl_ HO_107001))) (Kd.R_lt (rl_ HO118))) (below_size (bl_ HB))); replace HO_107001 := Aside0.mk (Kd.R_elder' (rl_ HO_107001) (Kd.R_base ho0) hb); replace HO118 := Aside0.mk (Kd.R_elder' (rl_ HO118) (Kd.R_base ho0) hb); replace BK106 := bb_ BK106 hb; replace HB := hs_ HB hb; (try clear hb); (try clear hb2); (try clear hk); (try clear hi); (try clear ho0)) | ((with_reducible refine gate_dst (N := 10) rfl ?_); (try (refine gate_guard (by rfl) ?_; dsimp only)); refine box_event ?hg (N := 10) ?hd (cs := #[.int .i64 0, .slice none 0 0]) (t := 43) ?hr ?_; (case hd => rfl); (case hg => rfl); (case hr => first | (go_simp; done) | (go_simp; rfl)); intro gb124 hg w96 hbox hb; have BK124 := Aside0.mk (hbox); have GW124 := Aside0.mk ((bs_ hg HB : w.heap.size ≤ gb124)); have GE124 := Aside0.mk ((bs_ hg HB : w.heap.size ≤ gb124)); have NB106_124 := Aside0.mk ((nl_ hg BK106 : gb106 ≠ gb124)); have NB124_106 := Aside0.mk ((ng_ hg BK106 : gb124 ≠ gb106)); replace HO_107001 := Aside0.mk (Kd.R_below (rl_ HO_107001) hb); replace HO118 := Aside0.mk (Kd.R_below (rl_ HO118) hb); replace HO122 := Aside0.mk (Kd.R_below (rl_ HO122) hb); replace BK106 := bb_ BK106 hb; replace HB := hs_ HB hb; clear hb hbox hg; have hnb97 := NB124_106.out; have hnc97 := NB106_124.out; have hcz98_0 : w96.cell? ⟨gb124, 0, none⟩ = some (.int .i64 0) := (blk_cell BK124.out 0).trans rfl; have hcz98_1 : w96.cell? ⟨gb124, 1, none⟩ = some (.slice none 0 0) := (blk_cell BK124.out 1).trans rfl; have hfz98_0 := blk_frozen BK124.out 0; have hfz98_1 := blk_frozen BK124.out 1; obtain ⟨Ao99, co99, eo99⟩ := Kd.R_slice HO122.out; subst eo99))
        have n0_ : Aside0 (Kd.R k62 62 ((w96.setCell ⟨gb124, 0, none⟩ (.int .i64 t119)).setCell ⟨gb124, 1, none⟩ (.slice Ao99 t120.length co99)) w.heap.size (fun k_ => some k_ ≠ (.slice Ao94 t116.length co94 : Value).ownBlock ∧ some k_ ≠ (.slice Ao99 t120.length co99 : Value).ownBlock) u107001 x107001_2) := ⟨by (with_reducible repeat (first | apply Kd.R_alloc | apply Kd.R_drewN | apply Kd.R_drew)); exact Kd.R_mono (Kd.R_far (p := ⟨gb124, 1, none⟩) (Kd.R_far (p := ⟨gb124, 0, none⟩) (Kd.R_types HO_107001.out BK124.out (by decide)) (fun _ hk => hk.2) (.int .i64 t119)) (fun _ hk => hk.2) (.slice Ao99 t120.length co99)) (fun _ hk => ⟨hk.1.1.2, hk.1.2⟩)⟩
        have n1_ : Aside0 (Kd.R k62 62 ((w96.setCell ⟨gb124, 0, none⟩ (.int .i64 t119)).setCell ⟨gb124, 1, none⟩ (.slice Ao99 t120.length co99)) w.heap.size (fun k_ => some k_ ≠ (u107001 : Value).ownBlock ∧ some k_ ≠ (.slice Ao99 t120.length co99 : Value).ownBlock) (.slice Ao94 t116.length co94) t116) := ⟨by (with_reducible repeat (first | apply Kd.R_alloc | apply Kd.R_drewN | apply Kd.R_drew)); exact Kd.R_mono (Kd.R_far (p := ⟨gb124, 1, none⟩) (Kd.R_far (p := ⟨gb124, 0, none⟩) (Kd.R_types HO118.out BK124.out (by decide)) (fun _ hk => hk.2) (.int .i64 t119)) (fun _ hk => hk.2) (.slice Ao99 t120.length co99)) (fun _ hk => ⟨hk.1.1.2, hk.1.2⟩)⟩
        have n2_ : Aside0 (Kd.R k62 62 ((w96.setCell ⟨gb124, 0, none⟩ (.int .i64 t119)).setCell ⟨gb124, 1, none⟩ (.slice Ao99 t120.length co99)) w.heap.size (fun k_ => some k_ ≠ (u107001 : Value).ownBlock ∧ some k_ ≠ (.slice Ao94 t116.length co94 : Value).ownBlock) (.slice Ao99 t120.length co99) t120) := ⟨by (with_reducible repeat (first | apply Kd.R_alloc | apply Kd.R_drewN | apply Kd.R_drew)); exact Kd.R_mono (Kd.R_far (p := ⟨gb124, 1, none⟩) (Kd.R_far (p := ⟨gb124, 0, none⟩) (Kd.R_types HO122.out BK124.out (by decide)) (fun _ hk => hk.2) (.int .i64 t119)) (fun _ hk => hk.2) (.slice Ao99 t120.length co99)) (fun _ hk => ⟨hk.1.1.2, hk.1.2⟩)⟩
        have n3_ : Aside0 (((w96.setCell ⟨gb124, 0, none⟩ (.int .i64 t119)).setCell ⟨gb124, 1, none⟩ (.slice Ao99 t120.length co99)).heap[gb106]? = some (.cells #[.int .i64 x107000_2, u107001] 43 (0, 0))) := ⟨by (with_reducible repeat (first | refine blk_drewN ?_ _ | refine blk_drew ?_ | refine blk_alloc ?_ _)); refine blk_far ?_ NB106_124.out _; (with_reducible repeat (first | refine blk_drewN ?_ _ | refine blk_drew ?_ | refine blk_alloc ?_ _)); refine blk_far ?_ NB106_124.out _; (with_reducible repeat (first | refine blk_drewN ?_ _ | refine blk_drew ?_ | refine blk_alloc ?_ _)); exact BK106.out⟩
        have n4_ : Aside0 (((w96.setCell ⟨gb124, 0, none⟩ (.int .i64 t119)).setCell ⟨gb124, 1, none⟩ (.slice Ao99 t120.length co99)).heap[gb124]? = some (.cells #[.int .i64 t119, .slice Ao99 t120.length co99] 43 (0, 0))) := ⟨by (with_reducible repeat (first | refine blk_drewN ?_ _ | refine blk_drew ?_ | refine blk_alloc ?_ _)); refine blk_put (cs := #[.int .i64 t119, .slice none 0 0]) ?_ 1 _ rfl; (with_reducible repeat (first | refine blk_drewN ?_ _ | refine blk_drew ?_ | refine blk_alloc ?_ _)); refine blk_put (cs := #[.int .i64 0, .slice none 0 0]) ?_ 0 _ rfl; (with_reducible repeat (first | refine blk_drewN ?_ _ | refine blk_drew ?_ | refine blk_alloc ?_ _)); exact BK124.out⟩
        have n5_ : Aside0 (Below w.heap.size w ((w96.setCell ⟨gb124, 0, none⟩ (.int .i64 t119)).setCell ⟨gb124, 1, none⟩ (.slice Ao99 t120.length co99))) := ⟨by repeat (first | (with_reducible first | exact HB.out | apply below_alloc | apply pw_below_drewN | apply below_drew1 | refine below_set ?_ GE106.out | refine below_set ?_ GE124.out) | exact HB.out)⟩
        (try clear HO_107001); (try clear HO118); (try clear HO122); (try clear BK106); (try clear BK124); (try clear HB)
        generalize ((w96.setCell ⟨gb124, 0, none⟩ (.int .i64 t119)).setCell ⟨gb124, 1, none⟩ (.slice Ao99 t120.length co99)) = w100 at n0_ n1_ n2_ n3_ n4_ n5_ ⊢
        have HO_107001 := n0_
        have HO118 := n1_
        have HO122 := n2_
        have BK106 := n3_
        have BK124 := n4_
        have HB := n5_
        clear n0_ n1_ n2_ n3_ n4_ n5_
        replace HO_107001 := Aside0.mk (Kd.R_drew HO_107001.out)
        replace HO118 := Aside0.mk (Kd.R_drew HO118.out)
        replace HO122 := Aside0.mk (Kd.R_drew HO122.out)
        replace BK106 := Aside0.mk (blk_drew BK106.out)
        replace BK124 := Aside0.mk (blk_drew BK124.out)
        replace HB := Aside0.mk (below_drew1 HB.out)
        refine start_ (n := 17) (S := fun w' => True) (ds := []) #[false, false, false, false, false, false, false, false, false, false, false, false, false, false, false, false, false] (by kernel_rfl) rfl rfl trivial (fun hHeld => ?_); refine with_tabW telamonlaw1_LevelSteps.tab15 telamonlaw1_LevelSteps.bits15 (fun HT_ HW_ => ?_)
        generalize w100.drew = w101 at HO_107001 HO118 HO122 BK106 BK124 HB HO118 HO122 hHeld ⊢
        refine pure_ (i := 0) (N := some 74) (v := ?_) (a' := ?_) #[true, false, false, false, false, false, false, false, false, false, false, false, false, false, false, false, false] rfl rfl (any_of HT_.out (by kernel_rfl)) (fun _ _ _ h => h) (Or.inl ⟨by rfl, ?_⟩) ?_ ?_
        rotate_left
        ·intro w'
         go_simp
         with_reducible rfl
        rotate_left
        ·simp only [Act.put, List.setIfInBounds_toArray, List.set_cons_zero, List.set_cons_succ, i64_w, i32_w]
         rfl
        refine one_ (i := 1) (N := some 75) #[true, true, false, false, false, false, false, false, false, false, false, false, false, false, false, false, false] rfl rfl (one_of HT_.out (by kernel_rfl)) (by decide) (fun K hK => ?_)
        refine goes_ Try.func43 (by kernel_rfl) rfl #[.int .i64 t123] (by rfl) rfl rfl (by (try simp only [List.map_toArray, List.map_cons, List.map_nil]); first | done | rfl | (simp only [List.length_drop, List.length_take]; rfl)) ?_
        with_reducible refine (telamonlaw1_num.calls t123 t125 _ A62.out).mono ?_
        rintro e w' ⟨rfl, ⟨nd, rfl⟩⟩
        refine ⟨_, rfl, ?_⟩
        refine hK.out _ _ trivial (fun hHeld => ?_)
        clear hK K
        refine norm_ (a' := ?_) ?_ ?_
        rotate_left
        ·show Act.put _ (some 75) _ = _
         simp only [Act.put, List.setIfInBounds_toArray, List.set_cons_zero, List.set_cons_succ, i64_w, i32_w]
         rfl
        refine pure_ (i := 2) (N := some 76) (v := ?_) (a' := ?_) #[true, true, true, false, false, false, false, false, false, false, false, false, false, false, false, false, false] rfl rfl (any_of HT_.out (by kernel_rfl)) (fun _ _ _ h => h) (Or.inl ⟨by rfl, ?_⟩) ?_ ?_
        rotate_left
        ·intro w'
         go_simp
         with_reducible rfl
        rotate_left
        ·simp only [Act.put, List.setIfInBounds_toArray, List.set_cons_zero, List.set_cons_succ, i64_w, i32_w]
         rfl
        refine pure_ (i := 3) (N := some 77) (v := ?_) (a' := ?_) #[true, true, true, true, false, false, false, false, false, false, false, false, false, false, false, false, false] rfl rfl (any_of HT_.out (by kernel_rfl)) (fun _ _ _ h => h) (Or.inl ⟨by rfl, ?_⟩) ?_ ?_
        rotate_left
        ·intro w'
         go_simp
         with_reducible rfl
        rotate_left
        ·simp only [Act.put, List.setIfInBounds_toArray, List.set_cons_zero, List.set_cons_succ, i64_w, i32_w]
         rfl
        refine pure_ (i := 4) (N := some 78) (v := undef) (a' := ?_) #[true, true, true, true, true, false, false, false, false, false, false, false, false, false, false, false, false] rfl rfl (any_of HT_.out (by kernel_rfl)) (fun _ _ _ h => h) (Or.inr ⟨by rfl, rfl⟩) ?_ ?_
        rotate_left
        ·simp only [Act.put, List.setIfInBounds_toArray, List.set_cons_zero, List.set_cons_succ, i64_w, i32_w]
         rfl
        refine pure_ (i := 5) (N := some 79) (v := undef) (a' := ?_) #[true, true, true, true, true, true, false, false, false, false, false, false, false, false, false, false, false] rfl rfl (any_of HT_.out (by kernel_rfl)) (fun _ _ _ h => h) (Or.inr ⟨by rfl, rfl⟩) ?_ ?_
        rotate_left
        ·simp only [Act.put, List.setIfInBounds_toArray, List.set_cons_zero, List.set_cons_succ, i64_w, i32_w]
         rfl
        refine pure_ (i := 6) (N := some 80) (v := undef) (a' := ?_) #[true, true, true, true, true, true, true, false, false, false, false, false, false, false, false, false, false] rfl rfl (any_of HT_.out (by kernel_rfl)) (fun _ _ _ h => h) (Or.inr ⟨by rfl, rfl⟩) ?_ ?_
        rotate_left
        ·simp only [Act.put, List.setIfInBounds_toArray, List.set_cons_zero, List.set_cons_succ, i64_w, i32_w]
         rfl
        refine pure_ (i := 7) (N := some 81) (v := ?_) (a' := ?_) #[true, true, true, true, true, true, true, true, false, false, false, false, false, false, false, false, false] rfl rfl (any_of HT_.out (by kernel_rfl)) (fun _ _ _ h => h) (Or.inl ⟨by rfl, ?_⟩) ?_ ?_
        rotate_left
        ·intro w'
         go_simp
         with_reducible rfl
        rotate_left
        ·simp only [Act.put, List.setIfInBounds_toArray, List.set_cons_zero, List.set_cons_succ, i64_w, i32_w]
         rfl
        refine pure_ (i := 8) (N := some 82) (v := ?_) (a' := ?_) #[true, true, true, true, true, true, true, true, true, false, false, false, false, false, false, false, false] rfl rfl (any_of HT_.out (by kernel_rfl)) (fun _ _ _ h => h) (Or.inl ⟨by rfl, ?_⟩) ?_ ?_
        rotate_left
        ·intro w'
         go_simp
         with_reducible rfl
        rotate_left
        ·simp only [Act.put, List.setIfInBounds_toArray, List.set_cons_zero, List.set_cons_succ, i64_w, i32_w]
         rfl
        refine pure_ (i := 9) (N := some 83) (v := undef) (a' := ?_) #[true, true, true, true, true, true, true, true, true, true, false, false, false, false, false, false, false] rfl rfl (any_of HT_.out (by kernel_rfl)) (fun _ _ _ h => h) (Or.inr ⟨by rfl, rfl⟩) ?_ ?_
        rotate_left
        ·simp only [Act.put, List.setIfInBounds_toArray, List.set_cons_zero, List.set_cons_succ, i64_w, i32_w]
         rfl
        refine pure_ (i := 10) (N := some 84) (v := undef) (a' := ?_) #[true, true, true, true, true, true, true, true, true, true, true, false, false, false, false, false, false] rfl rfl (any_of HT_.out (by kernel_rfl)) (fun _ _ _ h => h) (Or.inr ⟨by rfl, rfl⟩) ?_ ?_
        rotate_left
        ·simp only [Act.put, List.setIfInBounds_toArray, List.set_cons_zero, List.set_cons_succ, i64_w, i32_w]
         rfl
        refine pure_ (i := 11) (N := some 85) (v := undef) (a' := ?_) #[true, true, true, true, true, true, true, true, true, true, true, true, false, false, false, false, false] rfl rfl (any_of HT_.out (by kernel_rfl)) (fun _ _ _ h => h) (Or.inr ⟨by rfl, rfl⟩) ?_ ?_
        rotate_left
        ·simp only [Act.put, List.setIfInBounds_toArray, List.set_cons_zero, List.set_cons_succ, i64_w, i32_w]
         rfl
        refine pure_ (i := 12) (N := some 86) (v := undef) (a' := ?_) #[true, true, true, true, true, true, true, true, true, true, true, true, true, false, false, false, false] rfl rfl (any_of HT_.out (by kernel_rfl)) (fun _ _ _ h => h) (Or.inr ⟨by rfl, rfl⟩) ?_ ?_
        rotate_left
        ·simp only [Act.put, List.setIfInBounds_toArray, List.set_cons_zero, List.set_cons_succ, i64_w, i32_w]
         rfl
        refine pure_ (i := 13) (N := some 87) (v := undef) (a' := ?_) #[true, true, true, true, true, true, true, true, true, true, true, true, true, true, false, false, false] rfl rfl (any_of HT_.out (by kernel_rfl)) (fun _ _ _ h => h) (Or.inr ⟨by rfl, rfl⟩) ?_ ?_
        rotate_left
        ·simp only [Act.put, List.setIfInBounds_toArray, List.set_cons_zero, List.set_cons_succ, i64_w, i32_w]
         rfl
        refine pure_ (i := 14) (N := some 88) (v := undef) (a' := ?_) #[true, true, true, true, true, true, true, true, true, true, true, true, true, true, true, false, false] rfl rfl (any_of HT_.out (by kernel_rfl)) (fun _ _ _ h => h) (Or.inr ⟨by rfl, rfl⟩) ?_ ?_
        rotate_left
        ·simp only [Act.put, List.setIfInBounds_toArray, List.set_cons_zero, List.set_cons_succ, i64_w, i32_w]
         rfl
        refine pure_ (i := 15) (N := some 89) (v := ?_) (a' := ?_) #[true, true, true, true, true, true, true, true, true, true, true, true, true, true, true, true, false] rfl rfl (any_of HT_.out (by kernel_rfl)) (fun _ _ _ h => h) (Or.inl ⟨by rfl, ?_⟩) ?_ ?_
        rotate_left
        ·intro w'
         go_simp
         with_reducible rfl
        rotate_left
        ·simp only [Act.put, List.setIfInBounds_toArray, List.set_cons_zero, List.set_cons_succ, i64_w, i32_w]
         rfl
        refine pure_ (i := 16) (N := some 4) (v := ?_) (a' := ?_) #[true, true, true, true, true, true, true, true, true, true, true, true, true, true, true, true, true] rfl rfl (any_of HT_.out (by kernel_rfl)) (fun _ _ _ h => h) (Or.inl ⟨by rfl, ?_⟩) ?_ ?_
        rotate_left
        ·intro w'
         go_simp
         with_reducible rfl
        rotate_left
        ·simp only [Act.put, List.setIfInBounds_toArray, List.set_cons_zero, List.set_cons_succ, i64_w, i32_w]
         rfl
        refine done_ (done_of HT_.out (by kernel_rfl)) ?_
        try go_wp2
        go_ret
        exact ⟨by first | rfl | (simp [errW_none, errW_some] <;> rfl) | (simp [*, errW_none, errW_some] <;> rfl), by repeat (first | (with_reducible first | exact HB.out | apply below_alloc | apply pw_below_drewN | apply below_drew1 | refine below_set ?_ GE106.out | refine below_set ?_ GE124.out) | exact HB.out)⟩

/-- THE ONE PURE STATEMENT of telamonlaw1_LevelSteps: yours. -/
def telamonlaw1_LevelSteps.Pure : Prop := ∀ (a0 : Int) (a1 : Int), (Lit.int .i64 a0).wf = true → (Lit.int .i64 a1).wf = true → ∃ k, telamonlaw1_LevelSteps.f k a0 a1 = some true
theorem telamonlaw1_LevelSteps.walk (P : telamonlaw1_LevelSteps.Pure) (a0 : Int) (a1 : Int) (w : World) (w0 : (Lit.int .i64 a0).wf = true) (w1 : (Lit.int .i64 a1).wf = true) :
  Calls Try.prog 12 #[.int .i64 a0, .int .i64 a1] w fun e w' => e = .returned (.bool true) ∧ Below w.heap.size w w' := by
 obtain ⟨k, h⟩ := P a0 a1 w0 w1
 refine (telamonlaw1_LevelSteps.calls k a0 a1 true w h).mono ?_
 rintro e w' ⟨rfl, hd⟩
 exact ⟨rfl, hd⟩

end Go.Proofs.Ytbopadglafbdjaa.PX
