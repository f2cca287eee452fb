-- by wip/tools/gprint.py of this session over the kit's print; given functions are this session's own text
import Derived.Test.YtbopadglafbdjaaPXx0
import Derived.Test.YtbopadglafbdjaaPXxf43
import Derived.Test.YtbopadglafbdjaaPXxf49
import Derived.Test.YtbopadglafbdjaaPXxf46
import Derived.Test.YtbopadglafbdjaaPXxf37
namespace Go.Proofs.Ytbopadglafbdjaa.PX
open Go.RowKit Go.Proofs.YtbopadglafbdjaaW.PrintWords Go.Proofs.YtbopadglafbdjaaW.PrintLast Go.Proofs.YtbopadglafbdjaaW.PrintMore
attribute [local go_sem] max2_int min2_int max_two min_two max_three min_three max_four min_four   -- for this text's walks alone
set_option linter.unusedVariables false
set_option linter.unusedSimpArgs false

/-! ### telamonlaw1_LevelWide: function 13 -/
mutual
def telamonlaw1_LevelWide.j0 : Nat → Int → Int → Bool → Bool → Option (Bool)
 | 0, _, _, _, _ => none
 | k + 1, x0, x1, x5, x30 => if x30 = true then (some x5) else (telamonlaw1_LevelWide.l0 k x0 x1 0 0 ([] : List (S62)) 0)
def telamonlaw1_LevelWide.l0 : Nat → Int → Int → Int → Int → List (S62) → Int → Option (Bool)
 | 0, _, _, _, _, _, _ => none
 | k + 1, x0, x1, x8, x103000, x103001, x104000 => if x8 < x0 then (if x103001.length < 8796093022208 then (telamonlaw1_LevelWide.l0 k x0 x1 (wrap64 (x8 + 1)) x103000 (x103001 ++ [(⟨x8, 0⟩ : S62)]) x104000) else (none)) else (telamonlaw1_LevelWide.l1 k x0 x1 0 x103000 x103001 x104000 ([] : List (S62)))
def telamonlaw1_LevelWide.l1 : Nat → Int → Int → Int → Int → List (S62) → Int → List (S62) → Option (Bool)
 | 0, _, _, _, _, _, _, _ => none
 | k + 1, x0, x1, x9, x103000, x103001, x104000, x104001 => if x9 < x1 then (if x104001.length < 8796093022208 then (telamonlaw1_LevelWide.l1 k x0 x1 (wrap64 (x9 + 1)) x103000 x103001 x104000 (x104001 ++ [(⟨wrap64 (100 + x9), 0⟩ : S62)])) else (none)) else ((level_Max.f k x103000 x103001 x104000 x104001).bind fun bt110 => (if (wrap64 (x0 + x1)) > 64 then ((telamonlaw1_num.f bt110.2.2).bind fun t116 => (if t116 = 13 then (some ((bt110.2.1.length : Int) == 0)) else (some false))) else ((telamonlaw1_num.f bt110.2.2).bind fun t117 => (if t117 = 0 then (if (bt110.2.1.length : Int) = (wrap64 (x0 + x1)) then ((level_Leq.f k x103000 x103001 bt110.1 bt110.2.1).bind fun t118 => (if t118 = true then ((level_Leq.f k x104000 x104001 bt110.1 bt110.2.1).bind fun t119 => (some t119)) else (some false))) else (some false)) else (some false)))))
end
def telamonlaw1_LevelWide.f (k : Nat) (a0 : Int) (a1 : Int) : Option (Bool) := (telamonlaw1_alive.f).bind fun t101 => (if t101 = true then (if a0 < 0 then (telamonlaw1_LevelWide.j0 k a0 a1 t101 true) else (if a0 > 64 then (telamonlaw1_LevelWide.j0 k a0 a1 t101 true) else (if a1 < 0 then (telamonlaw1_LevelWide.j0 k a0 a1 t101 true) else (telamonlaw1_LevelWide.j0 k a0 a1 t101 (decide (a1 > 64)))))) else (telamonlaw1_LevelWide.j0 k a0 a1 t101 true))
theorem telamonlaw1_LevelWide.mono_l : ∀ k, (∀ y0 y1 y2 y3, LeO (telamonlaw1_LevelWide.j0 k y0 y1 y2 y3) (telamonlaw1_LevelWide.j0 (k + 1) y0 y1 y2 y3)) ∧ (∀ y0 y1 y2 y3 y4 y5, LeO (telamonlaw1_LevelWide.l0 k y0 y1 y2 y3 y4 y5) (telamonlaw1_LevelWide.l0 (k + 1) y0 y1 y2 y3 y4 y5)) ∧ (∀ y0 y1 y2 y3 y4 y5 y6, LeO (telamonlaw1_LevelWide.l1 k y0 y1 y2 y3 y4 y5 y6) (telamonlaw1_LevelWide.l1 (k + 1) y0 y1 y2 y3 y4 y5 y6))
 | 0 => ⟨fun _ _ _ _ r h => by simp [telamonlaw1_LevelWide.j0] at h, fun _ _ _ _ _ _ r h => by simp [telamonlaw1_LevelWide.l0] at h, fun _ _ _ _ _ _ _ r h => by simp [telamonlaw1_LevelWide.l1] at h⟩
 | k + 1 => by
  obtain ⟨ih0, ih1, ih2⟩ := telamonlaw1_LevelWide.mono_l k
  refine ⟨?_, ?_, ?_⟩
  ·intro y0 y1 y2 y3
   unfold telamonlaw1_LevelWide.j0
   repeat' first
   | (with_reducible exact ih0 _ _ _ _)
   | (with_reducible exact ih1 _ _ _ _ _ _)
   | (with_reducible exact ih2 _ _ _ _ _ _ _)
   | (with_reducible exact level_Leq.mono _ _ _ _ _)
   | (with_reducible exact level_Max.mono _ _ _ _ _)
   | (with_reducible exact LeO.refl _)
   | (with_reducible exact LeO.none _)
   | (with_reducible refine LeO.ite ?_ ?_)
   | (with_reducible refine LeO.bind ?_ (fun _ => ?_))
   | exact ih0 _ _ _ _
   | exact ih1 _ _ _ _ _ _
   | exact ih2 _ _ _ _ _ _ _
   | exact level_Leq.mono _ _ _ _ _
   | exact level_Max.mono _ _ _ _ _
   | exact LeO.none _
   | refine LeO.ite ?_ ?_
   | refine LeO.bind ?_ (fun _ => ?_)
  ·intro y0 y1 y2 y3 y4 y5
   unfold telamonlaw1_LevelWide.l0
   repeat' first
   | (with_reducible exact ih0 _ _ _ _)
   | (with_reducible exact ih1 _ _ _ _ _ _)
   | (with_reducible exact ih2 _ _ _ _ _ _ _)
   | (with_reducible exact level_Leq.mono _ _ _ _ _)
   | (with_reducible exact level_Max.mono _ _ _ _ _)
   | (with_reducible exact LeO.refl _)
   | (with_reducible exact LeO.none _)
   | (with_reducible refine LeO.ite ?_ ?_)
   | (with_reducible refine LeO.bind ?_ (fun _ => ?_))
   | exact ih0 _ _ _ _
   | exact ih1 _ _ _ _ _ _
   | exact ih2 _ _ _ _ _ _ _
   | exact level_Leq.mono _ _ _ _ _
   | exact level_Max.mono _ _ _ _ _
   | exact LeO.none _
   | refine LeO.ite ?_ ?_
   | refine LeO.bind ?_ (fun _ => ?_)
  ·intro y0 y1 y2 y3 y4 y5 y6
   unfold telamonlaw1_LevelWide.l1
   repeat' first
   | (with_reducible exact ih0 _ _ _ _)
   | (with_reducible exact ih1 _ _ _ _ _ _)
   | (with_reducible exact ih2 _ _ _ _ _ _ _)
   | (with_reducible exact level_Leq.mono _ _ _ _ _)
   | (with_reducible exact level_Max.mono _ _ _ _ _)
   | (with_reducible exact LeO.refl _)
   | (with_reducible exact LeO.none _)
   | (with_reducible refine LeO.ite ?_ ?_)
   | (with_reducible refine LeO.bind ?_ (fun _ => ?_))
   | exact ih0 _ _ _ _
   | exact ih1 _ _ _ _ _ _
   | exact ih2 _ _ _ _ _ _ _
   | exact level_Leq.mono _ _ _ _ _
   | exact level_Max.mono _ _ _ _ _
   | exact LeO.none _
   | refine LeO.ite ?_ ?_
   | refine LeO.bind ?_ (fun _ => ?_)
theorem telamonlaw1_LevelWide.mono : ∀ a0 a1 k, LeO (telamonlaw1_LevelWide.f k a0 a1) (telamonlaw1_LevelWide.f (k + 1) a0 a1) := by
 intro a0 a1 k
 obtain ⟨ih0, ih1, ih2⟩ := telamonlaw1_LevelWide.mono_l k
 unfold telamonlaw1_LevelWide.f
 repeat' first
   | (with_reducible exact ih0 _ _ _ _)
   | (with_reducible exact ih1 _ _ _ _ _ _)
   | (with_reducible exact ih2 _ _ _ _ _ _ _)
   | (with_reducible exact level_Leq.mono _ _ _ _ _)
   | (with_reducible exact level_Max.mono _ _ _ _ _)
   | (with_reducible exact LeO.refl _)
   | (with_reducible exact LeO.none _)
   | (with_reducible refine LeO.ite ?_ ?_)
   | (with_reducible refine LeO.bind ?_ (fun _ => ?_))
   | exact ih0 _ _ _ _
   | exact ih1 _ _ _ _ _ _
   | exact ih2 _ _ _ _ _ _ _
   | exact level_Leq.mono _ _ _ _ _
   | exact level_Max.mono _ _ _ _ _
   | exact LeO.none _
   | refine LeO.ite ?_ ?_
   | refine LeO.bind ?_ (fun _ => ?_)
set_option maxHeartbeats 8000000 in
set_option maxRecDepth 100000 in
theorem telamonlaw1_LevelWide.calls (k : Nat) (a0 : Int) (a1 : Int) (r : Bool) (w : World) (h : telamonlaw1_LevelWide.f k a0 a1 = some r) :
  Calls Try.prog 13 #[.int .i64 a0, .int .i64 a1] w fun e w' => e = .returned (.bool r) ∧ Below w.heap.size w w' := by
 have hu43 := Try.underlying43
 have hu62 := Try.underlying62
 have HB := Aside0.mk (Below.refl w.heap.size w)
 have H : ((telamonlaw1_alive.f).bind fun t101 => (if t101 = true then (if a0 < 0 then (telamonlaw1_LevelWide.j0 k a0 a1 t101 true) else (if a0 > 64 then (telamonlaw1_LevelWide.j0 k a0 a1 t101 true) else (if a1 < 0 then (telamonlaw1_LevelWide.j0 k a0 a1 t101 true) else (telamonlaw1_LevelWide.j0 k a0 a1 t101 (decide (a1 > 64)))))) else (telamonlaw1_LevelWide.j0 k a0 a1 t101 true))) = some r := h
 clear h
 replace H := Option.bind_eq_some_iff.mp H
 obtain ⟨t101, A30, H⟩ := H
 replace H : (if t101 = true then (if a0 < 0 then (telamonlaw1_LevelWide.j0 k a0 a1 t101 true) else (if a0 > 64 then (telamonlaw1_LevelWide.j0 k a0 a1 t101 true) else (if a1 < 0 then (telamonlaw1_LevelWide.j0 k a0 a1 t101 true) else (telamonlaw1_LevelWide.j0 k a0 a1 t101 (decide (a1 > 64)))))) else (telamonlaw1_LevelWide.j0 k a0 a1 t101 true)) = some r := H
 have A3 := Aside0.mk A30
 clear A30
 have HC4 := Aside0.mk H
 clear H
 go_enter Try.func13, Try.ntmps13
 go_upto_region 2 with (first | ((with_reducible refine gate_callee (f := 37) rfl ?_); refine goesL_ (some 12) rfl rfl Try.func37 (by kernel_rfl) rfl #[] rfl (by (try simp only [List.map_toArray, List.map_cons, List.map_nil]); first | done | rfl | (simp only [List.length_drop, List.length_take]; rfl)) ?_; (with_reducible refine (telamonlaw1_alive.calls  t101 _ A3.out).mono ?_); rintro e w5 ⟨rfl, hb⟩; refine ⟨_, rfl, ?_⟩; replace HB := hs_ HB hb; (try clear hb); (try clear hb2); (try clear hk); (try clear hi)))
 (try simp only [Act.put, List.setIfInBounds_toArray, List.set_cons_zero, List.set_cons_succ])
 go_cut [30] (fun v30 wc => ∃ (kq : Nat) (x30_3 : Bool), v30 = .bool x30_3 ∧ Aside0 (telamonlaw1_LevelWide.j0 kq a0 a1 t101 x30_3 = some r) ∧ Aside0 (kq ≤ k) ∧ Aside0 (Below w.heap.size w wc))
 case first =>
  have H := HC4.out
  clear HC4
  by_cases c6 : t101 = true
  ·subst c6
   have H1 : (if a0 < 0 then (telamonlaw1_LevelWide.j0 k a0 a1 true true) else (if a0 > 64 then (telamonlaw1_LevelWide.j0 k a0 a1 true true) else (if a1 < 0 then (telamonlaw1_LevelWide.j0 k a0 a1 true true) else (telamonlaw1_LevelWide.j0 k a0 a1 true (decide (a1 > 64)))))) = some r := by rw [if_pos rfl] at H; exact H
   clear H
   have H := H1
   clear H1
   by_cases c7 : a0 < 0
   ·rw [if_pos c7] at H
    have c7b0 : decide (a0 < 0) = true := decide_eq_true c7
    clear c7
    (first | rw [c7b0] | (simp only [i64_w, i32_w]; rw [c7b0]) | skip)
    have H' := Aside0.mk H
    clear H
    go_wp2
    go_meet
    case rel => exact ⟨_, (true), (by first | rfl | (simp; done) | (simp [*]; done)), H', ⟨by first | omega | exact Nat.le_refl _⟩, ⟨by repeat (first | (with_reducible first | exact HB.out | apply below_alloc | apply pw_below_drewN | apply below_drew1) | exact HB.out)⟩⟩
   ·rw [if_neg c7] at H
    have c7b0 : decide (a0 < 0) = false := decide_eq_false c7
    clear c7
    (first | rw [c7b0] | (simp only [i64_w, i32_w]; rw [c7b0]) | skip)
    by_cases c8 : a0 > 64
    ·rw [if_pos c8] at H
     have c8b0 : decide (64 < a0) = true := decide_eq_true c8
     clear c8
     have H' := Aside0.mk H
     clear H
     go_wp2
     go_meet
     case rel => exact ⟨_, (true), (by first | rfl | (simp; done) | (simp [*]; done)), H', ⟨by first | omega | exact Nat.le_refl _⟩, ⟨by repeat (first | (with_reducible first | exact HB.out | apply below_alloc | apply pw_below_drewN | apply below_drew1) | exact HB.out)⟩⟩
    ·rw [if_neg c8] at H
     have c8b0 : decide (64 < a0) = false := decide_eq_false c8
     clear c8
     by_cases c9 : a1 < 0
     ·rw [if_pos c9] at H
      have c9b0 : decide (a1 < 0) = true := decide_eq_true c9
      clear c9
      have H' := Aside0.mk H
      clear H
      go_wp2
      go_meet
      case rel => exact ⟨_, (true), (by first | rfl | (simp; done) | (simp [*]; done)), H', ⟨by first | omega | exact Nat.le_refl _⟩, ⟨by repeat (first | (with_reducible first | exact HB.out | apply below_alloc | apply pw_below_drewN | apply below_drew1) | exact HB.out)⟩⟩
     ·rw [if_neg c9] at H
      have c9b0 : decide (a1 < 0) = false := decide_eq_false c9
      clear c9
      have H' := Aside0.mk H
      clear H
      go_wp2
      go_meet
      case rel => exact ⟨_, (decide (a1 > 64)), (by first | rfl | (simp; done) | (simp [*]; done)), H', ⟨by first | omega | exact Nat.le_refl _⟩, ⟨by repeat (first | (with_reducible first | exact HB.out | apply below_alloc | apply pw_below_drewN | apply below_drew1) | exact HB.out)⟩⟩
  ·replace c6 := Bool.eq_false_iff.mpr c6
   subst c6
   have H1 : (telamonlaw1_LevelWide.j0 k a0 a1 false true) = some r := by rw [if_neg (show ¬ (false = true) by decide)] at H; exact H
   clear H
   have H := H1
   clear H1
   have H' := Aside0.mk H
   clear H
   go_wp2
   go_meet
   case rel => exact ⟨_, (true), (by first | rfl | (simp; done) | (simp [*]; done)), H', ⟨by first | omega | exact Nat.le_refl _⟩, ⟨by repeat (first | (with_reducible first | exact HB.out | apply below_alloc | apply pw_below_drewN | apply below_drew1) | exact HB.out)⟩⟩
 case rest =>
  clear HC4
  (try clear c1); (try clear p2); (try clear c3); (try clear c6); (try clear c7); (try clear c7b0); (try clear c8); (try clear c8b0); (try clear c9); (try clear c9b0)
  obtain ⟨kq, x30_3, rfl, HA, HJ3, HB⟩ := hcut
  cases kq with
  | zero => exact absurd HA.out (by simp [telamonlaw1_LevelWide.j0])
  | succ kj3 =>
   have H := HA.out
   clear HA
   simp only [telamonlaw1_LevelWide.j0] at H
   by_cases c10 : x30_3 = true
   ·subst c10
    have H1 : (some t101) = some r := by rw [if_pos rfl] at H; exact H
    clear H
    have H := H1
    clear H1
    obtain rfl := Option.some.inj H
    go_wp2
    go_ret
    exact ⟨by first | rfl | (simp [errW_none, errW_some] <;> rfl) | (simp [*, errW_none, errW_some] <;> rfl), by repeat (first | (with_reducible first | exact HB.out | apply below_alloc | apply pw_below_drewN | apply below_drew1) | exact HB.out)⟩
   ·replace c10 := Bool.eq_false_iff.mpr c10
    subst c10
    have H1 : (telamonlaw1_LevelWide.l0 kj3 a0 a1 0 0 ([] : List (S62)) 0) = some r := by rw [if_neg (show ¬ (false = true) by decide)] at H; exact H
    clear H
    have H := H1
    clear H1
    have H' := Aside0.mk H
    clear H
    go_wp2_with (first | ((with_reducible refine gate_dst (N := 6) rfl ?_); (try (refine gate_guard (by rfl) ?_; dsimp only)); refine box_event ?hg (N := 6) ?hd (cs := #[.int .i64 0, .slice none 0 0]) (t := 43) ?hr ?_; (case hd => rfl); (case hg => rfl); (case hr => first | (go_simp; done) | (go_simp; rfl)); intro gb102 hg w11 hbox hb; have BK102 := Aside0.mk (hbox); have GW102 := Aside0.mk ((bs_ hg HB : w.heap.size ≤ gb102)); have GE102 := Aside0.mk ((bs_ hg HB : w.heap.size ≤ gb102)); replace HB := hs_ HB hb; clear hb hbox hg) | ((with_reducible refine gate_dst (N := 7) rfl ?_); (try (refine gate_guard (by rfl) ?_; dsimp only)); refine box_event ?hg (N := 7) ?hd (cs := #[.int .i64 0, .slice none 0 0]) (t := 43) ?hr ?_; (case hd => rfl); (case hg => rfl); (case hr => first | (go_simp; done) | (go_simp; rfl)); intro gb103 hg w12 hbox hb; have BK103 := Aside0.mk (hbox); have GW103 := Aside0.mk ((bs_ hg HB : w.heap.size ≤ gb103)); have GE103 := Aside0.mk ((bs_ hg HB : w.heap.size ≤ gb103)); have NB102_103 := Aside0.mk ((nl_ hg BK102 : gb102 ≠ gb103)); have NB103_102 := Aside0.mk ((ng_ hg BK102 : gb103 ≠ gb102)); replace BK102 := bb_ BK102 hb; replace HB := hs_ HB hb; clear hb hbox hg))
    go_loopg [8] kj3 (fun kq v8 w' => ∃ (x8_2 : Int) (x103001_2 : List (S62)) (u103001 : Value), v8 = .int .i64 x8_2 ∧ Aside0 (telamonlaw1_LevelWide.l0 kq a0 a1 x8_2 0 x103001_2 0 = some r) ∧ Aside0 (kq ≤ kj3) ∧ Aside0 (Kd.R k62 62 w' w.heap.size (fun _ => True) u103001 x103001_2) ∧ Aside0 (w'.heap[gb102]? = some (.cells #[.int .i64 0, u103001] 43 (0, 0))) ∧ Aside0 (w'.heap[gb103]? = some (.cells #[.int .i64 0, (.slice none 0 0)] 43 (0, 0))) ∧ Aside0 (Below w.heap.size w w'))
    case atStart => exact ⟨(0), (([] : List (S62))), (.slice none 0 0), (by first | rfl | (simp; done) | (simp [*]; done)), H', ⟨Nat.le_refl _⟩, ⟨by first | exact Kd.R_nil _ _ _ _ _ | exact Kd.N_nil _ _ _ _ _ | exact Kd.V_nil _ _ _ _ _ | exact Kd.Q_nil _ _ _ _ _ | exact Kd.S_nil _ _ _ _ _⟩, ⟨by (with_reducible repeat (first | refine blk_drewN ?_ _ | refine blk_drew ?_ | refine blk_alloc ?_ _)); exact BK102.out⟩, ⟨by (with_reducible repeat (first | refine blk_drewN ?_ _ | refine blk_drew ?_ | refine blk_alloc ?_ _)); exact BK103.out⟩, ⟨by repeat (first | (with_reducible first | exact HB.out | apply below_alloc | apply pw_below_drewN | apply below_drew1 | refine below_set ?_ GE102.out | refine below_set ?_ GE103.out) | exact HB.out)⟩⟩
    case round =>
     clear H'
     (try clear c1); (try clear p2); (try clear c3); (try clear c6); (try clear c7); (try clear c7b0); (try clear c8); (try clear c8b0); (try clear c9); (try clear c9b0); (try clear c10); (try clear p2)
     obtain ⟨x8_2, x103001_2, u103001, rfl, HA, HK2, HO_103001, BK102, BK103, HB⟩ := hrel
     cases gk with
     | zero => exact absurd HA.out (by simp [telamonlaw1_LevelWide.l0])
     | succ k2 =>
      have H := HA.out
      clear HA
      simp only [telamonlaw1_LevelWide.l0] at H
      by_cases c13 : x8_2 < a0
      ·rw [if_pos c13] at H
       have c13b0 : decide (x8_2 < a0) = true := decide_eq_true c13
       clear c13
       by_cases c14 : x103001_2.length < 8796093022208
       ·rw [if_pos c14] at H
        have LMc14 := Aside0.mk c14
        clear c14
        obtain ⟨y104, hy104⟩ : ∃ y_ : List (S62), y_ = (x103001_2 ++ [(⟨x8_2, 0⟩ : S62)]) := ⟨_, rfl⟩
        replace H : (telamonlaw1_LevelWide.l0 k2 a0 a1 (wrap64 (x8_2 + 1)) 0 y104 0) = some r := by first | (rw [hy104]; with_reducible exact H) | (have H2_ := (Option.bind_some _ _).symm.trans H; rw [hy104]; with_reducible exact H2_) | (have H2_ := (Option.bind_some _ _).symm.trans H; with_reducible exact H2_) | with_reducible exact H | (rw [hy104]; exact H) | exact H
        have Ny104 := Aside0.mk hy104
        clear hy104
        have H' := Aside0.mk H
        clear H
        have hnb15 := NB102_103.out
        have hnc15 := NB103_102.out
        have hcz16_0 : wr.cell? ⟨gb102, 0, none⟩ = some (.int .i64 0) := (blk_cell BK102.out 0).trans rfl
        have hcz16_1 : wr.cell? ⟨gb102, 1, none⟩ = some (u103001) := (blk_cell BK102.out 1).trans rfl
        have hfz16_0 := blk_frozen BK102.out 0
        have hfz16_1 := blk_frozen BK102.out 1
        go_wp2_with (first | ((with_reducible refine gate_builtin (b := .append) (xs := #[.tmp 38, .tmp 41]) rfl ?_); (try (refine gate_guard (by rfl) ?_; dsimp only)); at_builtin; refine Kd.R_append k62 (w0 := w) w.heap.size rfl (.tmp 38) (.tmp 41) 41 62 (.agg #[(.int .i64 0), (.int .i64 0)]) 16 rfl Try.underlying41 info62 rfl (by decide) (by omega) u103001 x103001_2 (⟨x8_2, 0⟩ : S62) [.int .i64 x8_2, .int .i64 0] (fun _ => True) (fun _ => False) rfl rfl ?aP (fun _ hk => hk.elim) ?aF ?aO ?aB ?aS ?aL ?_; (case aP => exact k62_mkM _ _ _ (⟨x8_2, 0⟩ : S62)); (case aB => exact (bl_ HB)); (case aF => exact (fun _ _ => trivial)); (case aO => exact (rl_ HO_103001)); (case aS => exact (below_size (bl_ HB))); (case aL => have := LMc14.out; omega); intro v105 w17 ho hb hg hat; rw [← Ny104.out] at ho; have HO106 := Aside0.mk (ho); replace BK102 := Aside0.mk (blk_grown (g := gb102) (o := .cells #[.int .i64 0, u103001] 43 (0, 0)) (pl_ BK102) hg (Kd.R_ne HO_103001.out BK102.out (by decide))); replace BK103 := Aside0.mk (blk_grown (g := gb103) (o := .cells #[.int .i64 0, .slice none 0 0] 43 (0, 0)) (pl_ BK103) hg (Kd.R_ne HO_103001.out BK103.out (by decide))); replace HB := Aside0.mk (hb); clear HO_103001; clear ho hb hg hat; obtain ⟨Ao18, co18, eo18⟩ := Kd.R_slice HO106.out; subst eo18; have hcz19_0 : w17.cell? ⟨gb102, 0, none⟩ = some (.int .i64 0) := (blk_cell BK102.out 0).trans rfl; have hcz19_1 : w17.cell? ⟨gb102, 1, none⟩ = some (u103001) := (blk_cell BK102.out 1).trans rfl; have hfz19_0 := blk_frozen BK102.out 0; have hfz19_1 := blk_frozen BK102.out 1))
        go_roundg k2
        case measure => have := HJ3.out; have := HK2.out; omega
        case rel => exact ⟨(wrap64 (x8_2 + 1)), (y104), (.slice Ao18 y104.length co18), (by first | rfl | (simp; done) | (simp [*]; done)), H', ⟨by have := HJ3.out; have := HK2.out; omega⟩, ⟨by (with_reducible repeat (first | apply Kd.R_alloc | apply Kd.R_drewN | apply Kd.R_drew)); exact Kd.R_mono (Kd.R_far (p := ⟨gb102, 1, none⟩) (Kd.R_types HO106.out BK102.out (by decide)) (fun _ hk => hk.2) (.slice Ao18 y104.length co18)) (fun _ hk => trivial)⟩, ⟨by (with_reducible repeat (first | refine blk_drewN ?_ _ | refine blk_drew ?_ | refine blk_alloc ?_ _)); refine blk_put (cs := #[.int .i64 0, u103001]) ?_ 1 _ rfl; (with_reducible repeat (first | refine blk_drewN ?_ _ | refine blk_drew ?_ | refine blk_alloc ?_ _)); exact BK102.out⟩, ⟨by (with_reducible repeat (first | refine blk_drewN ?_ _ | refine blk_drew ?_ | refine blk_alloc ?_ _)); refine blk_far ?_ NB103_102.out _; (with_reducible repeat (first | refine blk_drewN ?_ _ | refine blk_drew ?_ | refine blk_alloc ?_ _)); exact BK103.out⟩, ⟨by repeat (first | (with_reducible first | exact HB.out | apply below_alloc | apply pw_below_drewN | apply below_drew1 | refine below_set ?_ GE102.out | refine below_set ?_ GE103.out) | exact HB.out)⟩⟩
       ·rw [if_neg c14] at H
        exact absurd H (by simp)
      ·rw [if_neg c13] at H
       have c13b0 : decide (x8_2 < a0) = false := decide_eq_false c13
       clear c13
       have H' := Aside0.mk H
       clear H
       go_wp2
       go_loopg [9] k2 (fun kq v9 w' => ∃ (x9_3 : Int) (x104001_3 : List (S62)) (u104001 : Value), v9 = .int .i64 x9_3 ∧ Aside0 (telamonlaw1_LevelWide.l1 kq a0 a1 x9_3 0 x103001_2 0 x104001_3 = some r) ∧ Aside0 (kq ≤ k2) ∧ Aside0 (Kd.R k62 62 w' w.heap.size (fun k_ => some k_ ≠ (u104001 : Value).ownBlock) u103001 x103001_2) ∧ Aside0 (Kd.R k62 62 w' w.heap.size (fun k_ => some k_ ≠ (u103001 : Value).ownBlock) u104001 x104001_3) ∧ Aside0 (w'.heap[gb102]? = some (.cells #[.int .i64 0, u103001] 43 (0, 0))) ∧ Aside0 (w'.heap[gb103]? = some (.cells #[.int .i64 0, u104001] 43 (0, 0))) ∧ Aside0 (Below w.heap.size w w'))
       case atStart => exact ⟨(0), (([] : List (S62))), (.slice none 0 0), (by first | rfl | (simp; done) | (simp [*]; done)), H', ⟨Nat.le_refl _⟩, ⟨by (with_reducible repeat (first | apply Kd.R_alloc | apply Kd.R_drewN | apply Kd.R_drew)); exact Kd.R_mono HO_103001.out (fun _ hk => (by simp [Value.ownBlock]))⟩, ⟨by first | exact Kd.R_nil _ _ _ _ _ | exact Kd.N_nil _ _ _ _ _ | exact Kd.V_nil _ _ _ _ _ | exact Kd.Q_nil _ _ _ _ _ | exact Kd.S_nil _ _ _ _ _⟩, ⟨by (with_reducible repeat (first | refine blk_drewN ?_ _ | refine blk_drew ?_ | refine blk_alloc ?_ _)); exact BK102.out⟩, ⟨by (with_reducible repeat (first | refine blk_drewN ?_ _ | refine blk_drew ?_ | refine blk_alloc ?_ _)); exact BK103.out⟩, ⟨by repeat (first | (with_reducible first | exact HB.out | apply below_alloc | apply pw_below_drewN | apply below_drew1 | refine below_set ?_ GE102.out | refine below_set ?_ GE103.out) | exact HB.out)⟩⟩
       case round =>
        clear H'
        (try clear c1); (try clear p2); (try clear c3); (try clear c6); (try clear p6); (try clear c7); (try clear c7b0); (try clear c8); (try clear c8b0); (try clear c9); (try clear c9b0); (try clear c10); (try clear c13); (try clear c13b0); (try clear c14); (try clear c15); (try clear hcz16_0); (try clear hcz16_1); (try clear hcz19_0); (try clear hcz19_1); (try clear hfz16_0); (try clear hfz16_1); (try clear hfz19_0); (try clear hfz19_1); (try clear p2)
        obtain ⟨x9_3, x104001_3, u104001, rfl, HA, HK3, HO_103001, HO_104001, BK102, BK103, HB⟩ := hrel
        cases gk with
        | zero => exact absurd HA.out (by simp [telamonlaw1_LevelWide.l1])
        | succ k3 =>
         have H := HA.out
         clear HA
         simp only [telamonlaw1_LevelWide.l1] at H
         by_cases c20 : x9_3 < a1
         ·rw [if_pos c20] at H
          have c20b0 : decide (x9_3 < a1) = true := decide_eq_true c20
          clear c20
          by_cases c21 : x104001_3.length < 8796093022208
          ·rw [if_pos c21] at H
           have LMc21 := Aside0.mk c21
           clear c21
           obtain ⟨y107, hy107⟩ : ∃ y_ : List (S62), y_ = (x104001_3 ++ [(⟨wrap64 (100 + x9_3), 0⟩ : S62)]) := ⟨_, rfl⟩
           replace H : (telamonlaw1_LevelWide.l1 k3 a0 a1 (wrap64 (x9_3 + 1)) 0 x103001_2 0 y107) = some r := by first | (rw [hy107]; with_reducible exact H) | (have H2_ := (Option.bind_some _ _).symm.trans H; rw [hy107]; with_reducible exact H2_) | (have H2_ := (Option.bind_some _ _).symm.trans H; with_reducible exact H2_) | with_reducible exact H | (rw [hy107]; exact H) | exact H
           have Ny107 := Aside0.mk hy107
           clear hy107
           have H' := Aside0.mk H
           clear H
           have hnb22 := NB103_102.out
           have hnc22 := NB102_103.out
           have hcz23_0 : wr.cell? ⟨gb103, 0, none⟩ = some (.int .i64 0) := (blk_cell BK103.out 0).trans rfl
           have hcz23_1 : wr.cell? ⟨gb103, 1, none⟩ = some (u104001) := (blk_cell BK103.out 1).trans rfl
           have hfz23_0 := blk_frozen BK103.out 0
           have hfz23_1 := blk_frozen BK103.out 1
           go_wp2_with (first | ((with_reducible refine gate_builtin (b := .append) (xs := #[.tmp 50, .tmp 54]) rfl ?_); (try (refine gate_guard (by rfl) ?_; dsimp only)); at_builtin; refine Kd.R_append k62 (w0 := w) w.heap.size rfl (.tmp 50) (.tmp 54) 41 62 (.agg #[(.int .i64 0), (.int .i64 0)]) 16 rfl Try.underlying41 info62 rfl (by decide) (by omega) u104001 x104001_3 (⟨wrap64 (100 + x9_3), 0⟩ : S62) [.int .i64 (wrap64 (100 + x9_3)), .int .i64 0] (fun k_ => some k_ ≠ (u103001 : Value).ownBlock) (fun _ => False) rfl rfl ?aP (fun _ hk => hk.elim) ?aF ?aO ?aB ?aS ?aL ?_; (case aP => exact k62_mkM _ _ _ (⟨wrap64 (100 + x9_3), 0⟩ : S62)); (case aB => exact (bl_ HB)); (case aF => exact (fun k_ hk => Kd.fresh' (Kd.R_lt (rl_ HO_103001)) k_ hk)); (case aO => exact (rl_ HO_104001)); (case aS => exact (below_size (bl_ HB))); (case aL => have := LMc21.out; omega); intro v108 w24 ho hb hg hat; rw [← Ny107.out] at ho; have HO109 := Aside0.mk (ho); replace HO_103001 := Aside0.mk (Kd.R_after (ok := (fun _ => True)) (by (with_reducible repeat (first | apply Kd.R_alloc | apply Kd.R_drewN | apply Kd.R_drew)); exact Kd.R_mono HO_103001.out (fun _ hk => ⟨trivial, hk⟩)) hg hat); replace BK102 := Aside0.mk (blk_grown (g := gb102) (o := .cells #[.int .i64 0, u103001] 43 (0, 0)) (pl_ BK102) hg (Kd.R_ne HO_104001.out BK102.out (by decide))); replace BK103 := Aside0.mk (blk_grown (g := gb103) (o := .cells #[.int .i64 0, u104001] 43 (0, 0)) (pl_ BK103) hg (Kd.R_ne HO_104001.out BK103.out (by decide))); replace HB := Aside0.mk (hb); clear HO_104001; clear ho hb hg hat; obtain ⟨Ao25, co25, eo25⟩ := Kd.R_slice HO109.out; subst eo25; have hcz26_0 : w24.cell? ⟨gb103, 0, none⟩ = some (.int .i64 0) := (blk_cell BK103.out 0).trans rfl; have hcz26_1 : w24.cell? ⟨gb103, 1, none⟩ = some (u104001) := (blk_cell BK103.out 1).trans rfl; have hfz26_0 := blk_frozen BK103.out 0; have hfz26_1 := blk_frozen BK103.out 1))
           go_roundg k3
           case measure => have := HJ3.out; have := HK2.out; have := HK3.out; omega
           case rel => exact ⟨(wrap64 (x9_3 + 1)), (y107), (.slice Ao25 y107.length co25), (by first | rfl | (simp; done) | (simp [*]; done)), H', ⟨by have := HJ3.out; have := HK2.out; have := HK3.out; omega⟩, ⟨by (with_reducible repeat (first | apply Kd.R_alloc | apply Kd.R_drewN | apply Kd.R_drew)); exact Kd.R_mono (Kd.R_far (p := ⟨gb103, 1, none⟩) (Kd.R_types HO_103001.out BK103.out (by decide)) (fun _ hk => hk.2) (.slice Ao25 y107.length co25)) (fun _ hk => hk.1.2)⟩, ⟨by (with_reducible repeat (first | apply Kd.R_alloc | apply Kd.R_drewN | apply Kd.R_drew)); exact Kd.R_mono (Kd.R_far (p := ⟨gb103, 1, none⟩) (Kd.R_types HO109.out BK103.out (by decide)) (fun _ hk => hk.2) (.slice Ao25 y107.length co25)) (fun _ hk => hk.1)⟩, ⟨by (with_reducible repeat (first | refine blk_drewN ?_ _ | refine blk_drew ?_ | refine blk_alloc ?_ _)); refine blk_far ?_ NB102_103.out _; (with_reducible repeat (first | refine blk_drewN ?_ _ | refine blk_drew ?_ | refine blk_alloc ?_ _)); exact BK102.out⟩, ⟨by (with_reducible repeat (first | refine blk_drewN ?_ _ | refine blk_drew ?_ | refine blk_alloc ?_ _)); refine blk_put (cs := #[.int .i64 0, u104001]) ?_ 1 _ rfl; (with_reducible repeat (first | refine blk_drewN ?_ _ | refine blk_drew ?_ | refine blk_alloc ?_ _)); exact BK103.out⟩, ⟨by repeat (first | (with_reducible first | exact HB.out | apply below_alloc | apply pw_below_drewN | apply below_drew1 | refine below_set ?_ GE102.out | refine below_set ?_ GE103.out) | exact HB.out)⟩⟩
          ·rw [if_neg c21] at H
           exact absurd H (by simp)
         ·rw [if_neg c20] at H
          have c20b0 : decide (x9_3 < a1) = false := decide_eq_false c20
          clear c20
          replace H := Option.bind_eq_some_iff.mp H
          obtain ⟨⟨t110, t111, t114⟩, A270, H⟩ := H
          replace H : (if (wrap64 (a0 + a1)) > 64 then ((telamonlaw1_num.f t114).bind fun t116 => (if t116 = 13 then (some ((t111.length : Int) == 0)) else (some false))) else ((telamonlaw1_num.f t114).bind fun t117 => (if t117 = 0 then (if (t111.length : Int) = (wrap64 (a0 + a1)) then ((level_Leq.f k3 0 x103001_2 t110 t111).bind fun t118 => (if t118 = true then ((level_Leq.f k3 0 x104001_3 t110 t111).bind fun t119 => (some t119)) else (some false))) else (some false)) else (some false)))) = some r := H
          have A27 := Aside0.mk A270
          clear A270
          by_cases c28 : (wrap64 (a0 + a1)) > 64
          ·rw [if_pos c28] at H
           have c28b0 : decide (64 < (wrap64 (a0 + a1))) = true := decide_eq_true c28
           clear c28
           replace H := Option.bind_eq_some_iff.mp H
           obtain ⟨t116, A290, H⟩ := H
           replace H : (if t116 = 13 then (some ((t111.length : Int) == 0)) else (some false)) = some r := H
           have A29 := Aside0.mk A290
           clear A290
           by_cases c30 : t116 = 13
           ·rw [if_pos c30] at H
            have c30b0 : (t116 == 13) = true := beq_iff_eq.mpr c30
            have c30b1 : (t116 != 13) = false := bne_eq_false_iff_eq.mpr c30
            clear c30
            obtain rfl := Option.some.inj H
            have hnb31 := NB102_103.out
            have hnc31 := NB103_102.out
            have hcz32_0 : wr.cell? ⟨gb102, 0, none⟩ = some (.int .i64 0) := (blk_cell BK102.out 0).trans rfl
            have hcz32_1 : wr.cell? ⟨gb102, 1, none⟩ = some (u103001) := (blk_cell BK102.out 1).trans rfl
            have hfz32_0 := blk_frozen BK102.out 0
            have hfz32_1 := blk_frozen BK102.out 1
            have hcz33_0 : wr.cell? ⟨gb103, 0, none⟩ = some (.int .i64 0) := (blk_cell BK103.out 0).trans rfl
            have hcz33_1 : wr.cell? ⟨gb103, 1, none⟩ = some (u104001) := (blk_cell BK103.out 1).trans rfl
            have hfz33_0 := blk_frozen BK103.out 0
            have hfz33_1 := blk_frozen BK103.out 1
            obtain ⟨Ao34, co34, eo34⟩ := Kd.R_slice HO_103001.out
            subst eo34
            obtain ⟨Ao35, co35, eo35⟩ := Kd.R_slice HO_104001.out
            subst eo35
            go_wp2_with (first | ((with_reducible refine gate_callee (f := 46) rfl ?_); refine goesL_ (some 60) rfl rfl Try.func46 (by kernel_rfl) rfl #[.agg #[.int .i64 0, .slice Ao34 x103001_2.length co34], .agg #[.int .i64 0, .slice Ao35 x104001_3.length co35]] rfl (by (try simp only [List.map_toArray, List.map_cons, List.map_nil]); first | done | rfl | (simp only [List.length_drop, List.length_take]; rfl)) ?_; (with_reducible refine (level_Max.calls k3 0 _ _ x103001_2 0 _ _ x104001_3 t110 t111 t114 _ ?side1 ?side2 ?side3 ?side4 A27.out).mono ?_); (case side1 => repeat (first | exact (Kd.R_reads' HO_103001.out).2.2 | (with_reducible refine Kd.C_alloc ?_ _) | (with_reducible refine Kd.C_drewN ?_ _) | (with_reducible refine Kd.C_drew ?_))); (case side2 => exact (Kd.R_reads' HO_103001.out).2.1); (case side3 => repeat (first | exact (Kd.R_reads' HO_104001.out).2.2 | (with_reducible refine Kd.C_alloc ?_ _) | (with_reducible refine Kd.C_drewN ?_ _) | (with_reducible refine Kd.C_drew ?_))); (case side4 => exact (Kd.R_reads' HO_104001.out).2.1); rintro e w36 ⟨v112, rfl, ho0, hb⟩; refine ⟨_, rfl, ?_⟩; have HO113 := Aside0.mk (Kd.R_lower (Kd.R_new' (Kd.R_new' ho0 (Kd.R_lt (rl_ HO_103001))) (Kd.R_lt (rl_ HO_104001))) (below_size (bl_ HB))); replace HO_103001 := Aside0.mk (Kd.R_elder' (rl_ HO_103001) (Kd.R_base ho0) hb); replace HO_104001 := Aside0.mk (Kd.R_elder' (rl_ HO_104001) (Kd.R_base ho0) hb); replace BK102 := bb_ BK102 hb; replace BK103 := bb_ BK103 hb; replace HB := hs_ HB hb; (try clear hb); (try clear hb2); (try clear hk); (try clear hi); (try clear ho0)) | ((with_reducible refine gate_dst (N := 10) rfl ?_); (try (refine gate_guard (by rfl) ?_; dsimp only)); refine box_event ?hg (N := 10) ?hd (cs := #[.int .i64 0, .slice none 0 0]) (t := 43) ?hr ?_; (case hd => rfl); (case hg => rfl); (case hr => first | (go_simp; done) | (go_simp; rfl)); intro gb115 hg w37 hbox hb; have BK115 := Aside0.mk (hbox); have GW115 := Aside0.mk ((bs_ hg HB : w.heap.size ≤ gb115)); have GE115 := Aside0.mk ((bs_ hg HB : w.heap.size ≤ gb115)); have NB102_115 := Aside0.mk ((nl_ hg BK102 : gb102 ≠ gb115)); have NB115_102 := Aside0.mk ((ng_ hg BK102 : gb115 ≠ gb102)); have NB103_115 := Aside0.mk ((nl_ hg BK103 : gb103 ≠ gb115)); have NB115_103 := Aside0.mk ((ng_ hg BK103 : gb115 ≠ gb103)); replace HO_103001 := Aside0.mk (Kd.R_below (rl_ HO_103001) hb); replace HO_104001 := Aside0.mk (Kd.R_below (rl_ HO_104001) hb); replace HO113 := Aside0.mk (Kd.R_below (rl_ HO113) hb); replace BK102 := bb_ BK102 hb; replace BK103 := bb_ BK103 hb; replace HB := hs_ HB hb; clear hb hbox hg; have hnb38 := NB115_102.out; have hnc38 := NB102_115.out; have hnb39 := NB115_103.out; have hnc39 := NB103_115.out; have hcz40_0 : w37.cell? ⟨gb115, 0, none⟩ = some (.int .i64 0) := (blk_cell BK115.out 0).trans rfl; have hcz40_1 : w37.cell? ⟨gb115, 1, none⟩ = some (.slice none 0 0) := (blk_cell BK115.out 1).trans rfl; have hfz40_0 := blk_frozen BK115.out 0; have hfz40_1 := blk_frozen BK115.out 1; obtain ⟨Ao41, co41, eo41⟩ := Kd.R_slice HO113.out; subst eo41) | ((with_reducible refine gate_callee (f := 43) rfl ?_); refine goesL_ (some 68) rfl rfl Try.func43 (by kernel_rfl) rfl #[.int .i64 t114] rfl (by (try simp only [List.map_toArray, List.map_cons, List.map_nil]); first | done | rfl | (simp only [List.length_drop, List.length_take]; rfl)) ?_; (with_reducible refine (telamonlaw1_num.calls t114 t116 _ A29.out).mono ?_); rintro e w' ⟨rfl, ⟨nd, rfl⟩⟩; refine ⟨_, rfl, ?_⟩))
            go_ret
            exact ⟨by first | rfl | (simp [errW_none, errW_some] <;> rfl) | (simp [*, errW_none, errW_some] <;> rfl), by repeat (first | (with_reducible first | exact HB.out | apply below_alloc | apply pw_below_drewN | apply below_drew1 | refine below_set ?_ GE102.out | refine below_set ?_ GE103.out | refine below_set ?_ GE115.out) | exact HB.out)⟩
           ·rw [if_neg c30] at H
            have c30b0 : (t116 == 13) = false := beq_eq_false_iff_ne.mpr c30
            have c30b1 : (t116 != 13) = true := bne_iff_ne.mpr c30
            obtain rfl := Option.some.inj H
            have hnb42 := NB102_103.out
            have hnc42 := NB103_102.out
            have hcz43_0 : wr.cell? ⟨gb102, 0, none⟩ = some (.int .i64 0) := (blk_cell BK102.out 0).trans rfl
            have hcz43_1 : wr.cell? ⟨gb102, 1, none⟩ = some (u103001) := (blk_cell BK102.out 1).trans rfl
            have hfz43_0 := blk_frozen BK102.out 0
            have hfz43_1 := blk_frozen BK102.out 1
            have hcz44_0 : wr.cell? ⟨gb103, 0, none⟩ = some (.int .i64 0) := (blk_cell BK103.out 0).trans rfl
            have hcz44_1 : wr.cell? ⟨gb103, 1, none⟩ = some (u104001) := (blk_cell BK103.out 1).trans rfl
            have hfz44_0 := blk_frozen BK103.out 0
            have hfz44_1 := blk_frozen BK103.out 1
            obtain ⟨Ao45, co45, eo45⟩ := Kd.R_slice HO_103001.out
            subst eo45
            obtain ⟨Ao46, co46, eo46⟩ := Kd.R_slice HO_104001.out
            subst eo46
            go_wp2_with (first | ((with_reducible refine gate_callee (f := 46) rfl ?_); refine goesL_ (some 60) rfl rfl Try.func46 (by kernel_rfl) rfl #[.agg #[.int .i64 0, .slice Ao45 x103001_2.length co45], .agg #[.int .i64 0, .slice Ao46 x104001_3.length co46]] rfl (by (try simp only [List.map_toArray, List.map_cons, List.map_nil]); first | done | rfl | (simp only [List.length_drop, List.length_take]; rfl)) ?_; (with_reducible refine (level_Max.calls k3 0 _ _ x103001_2 0 _ _ x104001_3 t110 t111 t114 _ ?side1 ?side2 ?side3 ?side4 A27.out).mono ?_); (case side1 => repeat (first | exact (Kd.R_reads' HO_103001.out).2.2 | (with_reducible refine Kd.C_alloc ?_ _) | (with_reducible refine Kd.C_drewN ?_ _) | (with_reducible refine Kd.C_drew ?_))); (case side2 => exact (Kd.R_reads' HO_103001.out).2.1); (case side3 => repeat (first | exact (Kd.R_reads' HO_104001.out).2.2 | (with_reducible refine Kd.C_alloc ?_ _) | (with_reducible refine Kd.C_drewN ?_ _) | (with_reducible refine Kd.C_drew ?_))); (case side4 => exact (Kd.R_reads' HO_104001.out).2.1); rintro e w47 ⟨v112, rfl, ho0, hb⟩; refine ⟨_, rfl, ?_⟩; have HO113 := Aside0.mk (Kd.R_lower (Kd.R_new' (Kd.R_new' ho0 (Kd.R_lt (rl_ HO_103001))) (Kd.R_lt (rl_ HO_104001))) (below_size (bl_ HB))); replace HO_103001 := Aside0.mk (Kd.R_elder' (rl_ HO_103001) (Kd.R_base ho0) hb); replace HO_104001 := Aside0.mk (Kd.R_elder' (rl_ HO_104001) (Kd.R_base ho0) hb); replace BK102 := bb_ BK102 hb; replace BK103 := bb_ BK103 hb; replace HB := hs_ HB hb; (try clear hb); (try clear hb2); (try clear hk); (try clear hi); (try clear ho0)) | ((with_reducible refine gate_dst (N := 10) rfl ?_); (try (refine gate_guard (by rfl) ?_; dsimp only)); refine box_event ?hg (N := 10) ?hd (cs := #[.int .i64 0, .slice none 0 0]) (t := 43) ?hr ?_; (case hd => rfl); (case hg => rfl); (case hr => first | (go_simp; done) | (go_simp; rfl)); intro gb115 hg w48 hbox hb; have BK115 := Aside0.mk (hbox); have GW115 := Aside0.mk ((bs_ hg HB : w.heap.size ≤ gb115)); have GE115 := Aside0.mk ((bs_ hg HB : w.heap.size ≤ gb115)); have NB102_115 := Aside0.mk ((nl_ hg BK102 : gb102 ≠ gb115)); have NB115_102 := Aside0.mk ((ng_ hg BK102 : gb115 ≠ gb102)); have NB103_115 := Aside0.mk ((nl_ hg BK103 : gb103 ≠ gb115)); have NB115_103 := Aside0.mk ((ng_ hg BK103 : gb115 ≠ gb103)); replace HO_103001 := Aside0.mk (Kd.R_below (rl_ HO_103001) hb); replace HO_104001 := Aside0.mk (Kd.R_below (rl_ HO_104001) hb); replace HO113 := Aside0.mk (Kd.R_below (rl_ HO113) hb); replace BK102 := bb_ BK102 hb; replace BK103 := bb_ BK103 hb; replace HB := hs_ HB hb; clear hb hbox hg; have hnb49 := NB115_102.out; have hnc49 := NB102_115.out; have hnb50 := NB115_103.out; have hnc50 := NB103_115.out; have hcz51_0 : w48.cell? ⟨gb115, 0, none⟩ = some (.int .i64 0) := (blk_cell BK115.out 0).trans rfl; have hcz51_1 : w48.cell? ⟨gb115, 1, none⟩ = some (.slice none 0 0) := (blk_cell BK115.out 1).trans rfl; have hfz51_0 := blk_frozen BK115.out 0; have hfz51_1 := blk_frozen BK115.out 1; obtain ⟨Ao52, co52, eo52⟩ := Kd.R_slice HO113.out; subst eo52) | ((with_reducible refine gate_callee (f := 43) rfl ?_); refine goesL_ (some 68) rfl rfl Try.func43 (by kernel_rfl) rfl #[.int .i64 t114] rfl (by (try simp only [List.map_toArray, List.map_cons, List.map_nil]); first | done | rfl | (simp only [List.length_drop, List.length_take]; rfl)) ?_; (with_reducible refine (telamonlaw1_num.calls t114 t116 _ A29.out).mono ?_); rintro e w' ⟨rfl, ⟨nd, rfl⟩⟩; refine ⟨_, rfl, ?_⟩))
            go_ret
            exact ⟨by first | rfl | (simp [errW_none, errW_some] <;> rfl) | (simp [*, errW_none, errW_some] <;> rfl), by repeat (first | (with_reducible first | exact HB.out | apply below_alloc | apply pw_below_drewN | apply below_drew1 | refine below_set ?_ GE102.out | refine below_set ?_ GE103.out | refine below_set ?_ GE115.out) | exact HB.out)⟩
          ·rw [if_neg c28] at H
           have c28b0 : decide (64 < (wrap64 (a0 + a1))) = false := decide_eq_false c28
           clear c28
           replace H := Option.bind_eq_some_iff.mp H
           obtain ⟨t117, A530, H⟩ := H
           replace H : (if t117 = 0 then (if (t111.length : Int) = (wrap64 (a0 + a1)) then ((level_Leq.f k3 0 x103001_2 t110 t111).bind fun t118 => (if t118 = true then ((level_Leq.f k3 0 x104001_3 t110 t111).bind fun t119 => (some t119)) else (some false))) else (some false)) else (some false)) = some r := H
           have A53 := Aside0.mk A530
           clear A530
           by_cases c54 : t117 = 0
           ·rw [if_pos c54] at H
            have c54b0 : (t117 == 0) = true := beq_iff_eq.mpr c54
            have c54b1 : (t117 != 0) = false := bne_eq_false_iff_eq.mpr c54
            clear c54
            by_cases c55 : (t111.length : Int) = (wrap64 (a0 + a1))
            ·rw [if_pos c55] at H
             have c55b0 : ((t111.length : Int) == (wrap64 (a0 + a1))) = true := beq_iff_eq.mpr c55
             have c55b1 : ((t111.length : Int) != (wrap64 (a0 + a1))) = false := bne_eq_false_iff_eq.mpr c55
             clear c55
             replace H := Option.bind_eq_some_iff.mp H
             obtain ⟨t118, A560, H⟩ := H
             replace H : (if t118 = true then ((level_Leq.f k3 0 x104001_3 t110 t111).bind fun t119 => (some t119)) else (some false)) = some r := H
             have A56 := Aside0.mk A560
             clear A560
             by_cases c57 : t118 = true
             ·subst c57
              have H1 : ((level_Leq.f k3 0 x104001_3 t110 t111).bind fun t119 => (some t119)) = some r := by rw [if_pos rfl] at H; exact H
              clear H
              have H := H1
              clear H1
              replace H := Option.bind_eq_some_iff.mp H
              obtain ⟨t119, A580, H⟩ := H
              replace H : (some t119) = some r := H
              have A58 := Aside0.mk A580
              clear A580
              obtain rfl := Option.some.inj H
              have hnb59 := NB102_103.out
              have hnc59 := NB103_102.out
              have hcz60_0 : wr.cell? ⟨gb102, 0, none⟩ = some (.int .i64 0) := (blk_cell BK102.out 0).trans rfl
              have hcz60_1 : wr.cell? ⟨gb102, 1, none⟩ = some (u103001) := (blk_cell BK102.out 1).trans rfl
              have hfz60_0 := blk_frozen BK102.out 0
              have hfz60_1 := blk_frozen BK102.out 1
              have hcz61_0 : wr.cell? ⟨gb103, 0, none⟩ = some (.int .i64 0) := (blk_cell BK103.out 0).trans rfl
              have hcz61_1 : wr.cell? ⟨gb103, 1, none⟩ = some (u104001) := (blk_cell BK103.out 1).trans rfl
              have hfz61_0 := blk_frozen BK103.out 0
              have hfz61_1 := blk_frozen BK103.out 1
              obtain ⟨Ao62, co62, eo62⟩ := Kd.R_slice HO_103001.out
              subst eo62
              obtain ⟨Ao63, co63, eo63⟩ := Kd.R_slice HO_104001.out
              subst eo63
              go_wp2_with (first | ((with_reducible refine gate_callee (f := 46) rfl ?_); refine goesL_ (some 60) rfl rfl Try.func46 (by kernel_rfl) rfl #[.agg #[.int .i64 0, .slice Ao62 x103001_2.length co62], .agg #[.int .i64 0, .slice Ao63 x104001_3.length co63]] rfl (by (try simp only [List.map_toArray, List.map_cons, List.map_nil]); first | done | rfl | (simp only [List.length_drop, List.length_take]; rfl)) ?_; (with_reducible refine (level_Max.calls k3 0 _ _ x103001_2 0 _ _ x104001_3 t110 t111 t114 _ ?side1 ?side2 ?side3 ?side4 A27.out).mono ?_); (case side1 => repeat (first | exact (Kd.R_reads' HO_103001.out).2.2 | (with_reducible refine Kd.C_alloc ?_ _) | (with_reducible refine Kd.C_drewN ?_ _) | (with_reducible refine Kd.C_drew ?_))); (case side2 => exact (Kd.R_reads' HO_103001.out).2.1); (case side3 => repeat (first | exact (Kd.R_reads' HO_104001.out).2.2 | (with_reducible refine Kd.C_alloc ?_ _) | (with_reducible refine Kd.C_drewN ?_ _) | (with_reducible refine Kd.C_drew ?_))); (case side4 => exact (Kd.R_reads' HO_104001.out).2.1); rintro e w64 ⟨v112, rfl, ho0, hb⟩; refine ⟨_, rfl, ?_⟩; have HO113 := Aside0.mk (Kd.R_lower (Kd.R_new' (Kd.R_new' ho0 (Kd.R_lt (rl_ HO_103001))) (Kd.R_lt (rl_ HO_104001))) (below_size (bl_ HB))); replace HO_103001 := Aside0.mk (Kd.R_elder' (rl_ HO_103001) (Kd.R_base ho0) hb); replace HO_104001 := Aside0.mk (Kd.R_elder' (rl_ HO_104001) (Kd.R_base ho0) hb); replace BK102 := bb_ BK102 hb; replace BK103 := bb_ BK103 hb; replace HB := hs_ HB hb; (try clear hb); (try clear hb2); (try clear hk); (try clear hi); (try clear ho0)) | ((with_reducible refine gate_dst (N := 10) rfl ?_); (try (refine gate_guard (by rfl) ?_; dsimp only)); refine box_event ?hg (N := 10) ?hd (cs := #[.int .i64 0, .slice none 0 0]) (t := 43) ?hr ?_; (case hd => rfl); (case hg => rfl); (case hr => first | (go_simp; done) | (go_simp; rfl)); intro gb115 hg w65 hbox hb; have BK115 := Aside0.mk (hbox); have GW115 := Aside0.mk ((bs_ hg HB : w.heap.size ≤ gb115)); have GE115 := Aside0.mk ((bs_ hg HB : w.heap.size ≤ gb115)); have NB102_115 := Aside0.mk ((nl_ hg BK102 : gb102 ≠ gb115)); have NB115_102 := Aside0.mk ((ng_ hg BK102 : gb115 ≠ gb102)); have NB103_115 := Aside0.mk ((nl_ hg BK103 : gb103 ≠ gb115)); have NB115_103 := Aside0.mk ((ng_ hg BK103 : gb115 ≠ gb103)); replace HO_103001 := Aside0.mk (Kd.R_below (rl_ HO_103001) hb); replace HO_104001 := Aside0.mk (Kd.R_below (rl_ HO_104001) hb); replace HO113 := Aside0.mk (Kd.R_below (rl_ HO113) hb); replace BK102 := bb_ BK102 hb; replace BK103 := bb_ BK103 hb; replace HB := hs_ HB hb; clear hb hbox hg; have hnb66 := NB115_102.out; have hnc66 := NB102_115.out; have hnb67 := NB115_103.out; have hnc67 := NB103_115.out; have hcz68_0 : w65.cell? ⟨gb115, 0, none⟩ = some (.int .i64 0) := (blk_cell BK115.out 0).trans rfl; have hcz68_1 : w65.cell? ⟨gb115, 1, none⟩ = some (.slice none 0 0) := (blk_cell BK115.out 1).trans rfl; have hfz68_0 := blk_frozen BK115.out 0; have hfz68_1 := blk_frozen BK115.out 1; obtain ⟨Ao69, co69, eo69⟩ := Kd.R_slice HO113.out; subst eo69) | ((with_reducible refine gate_callee (f := 43) rfl ?_); refine goesL_ (some 77) rfl rfl Try.func43 (by kernel_rfl) rfl #[.int .i64 t114] rfl (by (try simp only [List.map_toArray, List.map_cons, List.map_nil]); first | done | rfl | (simp only [List.length_drop, List.length_take]; rfl)) ?_; (with_reducible refine (telamonlaw1_num.calls t114 t117 _ A53.out).mono ?_); rintro e w' ⟨rfl, ⟨nd, rfl⟩⟩; refine ⟨_, rfl, ?_⟩; have hcz70_0 : w65.cell? ⟨gb102, 0, none⟩ = some (.int .i64 0) := (blk_cell BK102.out 0).trans rfl; have hcz70_1 : w65.cell? ⟨gb102, 1, none⟩ = some (.slice Ao62 x103001_2.length co62) := (blk_cell BK102.out 1).trans rfl; have hfz70_0 := blk_frozen BK102.out 0; have hfz70_1 := blk_frozen BK102.out 1) | (go_at_call 49; (with_reducible refine (level_Leq.calls k3 0 _ _ x103001_2 t110 _ _ t111 true _ ?side1 ?side2 ?side3 ?side4 A56.out).mono ?_); (case side1 => refine (Kd.R_reads' (e := 62) (base := w.heap.size) (ok := fun k_ => (some k_ ≠ (.slice Ao63 x104001_3.length co63 : Value).ownBlock ∧ some k_ ≠ (.slice Ao69 t111.length co69 : Value).ownBlock)) (n := x103001_2.length) (c := co62) ?_).2.2; exact (by (with_reducible repeat (first | apply Kd.R_alloc | apply Kd.R_drewN | apply Kd.R_drew)); exact (Kd.R_mono (Kd.R_far (p := ⟨gb115, 1, none⟩) (Kd.R_far (p := ⟨gb115, 0, none⟩) (Kd.R_types HO_103001.out BK115.out (by decide)) (fun _ hk => hk.2) (.int .i64 t110)) (fun _ hk => hk.2) (.slice Ao69 t111.length co69)) (fun _ h_ => h_.1)))); (case side2 => exact (Kd.R_reads' HO_103001.out).2.1); (case side3 => refine (Kd.R_reads' (e := 62) (base := w.heap.size) (ok := fun k_ => ((True ∧ some k_ ≠ (.slice Ao62 x103001_2.length co62 : Value).ownBlock) ∧ some k_ ≠ (.slice Ao63 x104001_3.length co63 : Value).ownBlock)) (n := t111.length) (c := co69) ?_).2.2; exact (by (with_reducible repeat (first | apply Kd.R_alloc | apply Kd.R_drewN | apply Kd.R_drew)); exact (Kd.R_mono (Kd.R_far (p := ⟨gb115, 1, none⟩) (Kd.R_far (p := ⟨gb115, 0, none⟩) (Kd.R_types HO113.out BK115.out (by decide)) (fun _ hk => hk.2) (.int .i64 t110)) (fun _ hk => hk.2) (.slice Ao69 t111.length co69)) (fun _ h_ => h_.1)))); (case side4 => exact (Kd.R_reads' HO113.out).2.1); rintro e w71 ⟨rfl, hb⟩; replace HO_103001 := Aside0.mk (Kd.R_below (by (with_reducible repeat (first | apply Kd.R_alloc | apply Kd.R_drewN | apply Kd.R_drew)); exact (Kd.R_mono (Kd.R_far (p := ⟨gb115, 1, none⟩) (Kd.R_far (p := ⟨gb115, 0, none⟩) (Kd.R_types HO_103001.out BK115.out (by decide)) (fun _ hk => hk.2) (.int .i64 t110)) (fun _ hk => hk.2) (.slice Ao69 t111.length co69)) (fun _ h_ => h_.1))) hb); replace HO_104001 := Aside0.mk (Kd.R_below (by (with_reducible repeat (first | apply Kd.R_alloc | apply Kd.R_drewN | apply Kd.R_drew)); exact (Kd.R_mono (Kd.R_far (p := ⟨gb115, 1, none⟩) (Kd.R_far (p := ⟨gb115, 0, none⟩) (Kd.R_types HO_104001.out BK115.out (by decide)) (fun _ hk => hk.2) (.int .i64 t110)) (fun _ hk => hk.2) (.slice Ao69 t111.length co69)) (fun _ h_ => h_.1))) hb); replace HO113 := Aside0.mk (Kd.R_below (by (with_reducible repeat (first | apply Kd.R_alloc | apply Kd.R_drewN | apply Kd.R_drew)); exact (Kd.R_mono (Kd.R_far (p := ⟨gb115, 1, none⟩) (Kd.R_far (p := ⟨gb115, 0, none⟩) (Kd.R_types HO113.out BK115.out (by decide)) (fun _ hk => hk.2) (.int .i64 t110)) (fun _ hk => hk.2) (.slice Ao69 t111.length co69)) (fun _ h_ => h_.1))) hb); replace BK102 := Aside0.mk (blk_below (pf_ BK102) hb); replace BK103 := Aside0.mk (blk_below (pf_ BK103) hb); replace BK115 := Aside0.mk (blk_below (g := gb115) (o := .cells #[.int .i64 t110, .slice Ao69 t111.length co69] 43 (0, 0)) (by (with_reducible repeat (first | refine blk_drewN ?_ _ | refine blk_drew ?_ | refine blk_alloc ?_ _)); refine blk_put (cs := #[.int .i64 t110, .slice none 0 0]) ?_ 1 _ rfl; (with_reducible repeat (first | refine blk_drewN ?_ _ | refine blk_drew ?_ | refine blk_alloc ?_ _)); refine blk_put (cs := #[.int .i64 0, .slice none 0 0]) ?_ 0 _ rfl; (with_reducible repeat (first | refine blk_drewN ?_ _ | refine blk_drew ?_ | refine blk_alloc ?_ _)); exact BK115.out) hb); replace HB := hs_ HB hb; (try clear hb); (try clear hb2); (try clear hk); (try clear hi); have hcz72_0 : w71.cell? ⟨gb103, 0, none⟩ = some (.int .i64 0) := (blk_cell BK103.out 0).trans rfl; have hcz72_1 : w71.cell? ⟨gb103, 1, none⟩ = some (.slice Ao63 x104001_3.length co63) := (blk_cell BK103.out 1).trans rfl; have hfz72_0 := blk_frozen BK103.out 0; have hfz72_1 := blk_frozen BK103.out 1; have hcz73_0 : w71.cell? ⟨gb115, 0, none⟩ = some (.int .i64 t110) := (blk_cell BK115.out 0).trans rfl; have hcz73_1 : w71.cell? ⟨gb115, 1, none⟩ = some (.slice Ao69 t111.length co69) := (blk_cell BK115.out 1).trans rfl; have hfz73_0 := blk_frozen BK115.out 0; have hfz73_1 := blk_frozen BK115.out 1) | (go_at_call 49; (with_reducible refine (level_Leq.calls k3 0 _ _ x104001_3 t110 _ _ t111 t119 _ ?side1 ?side2 ?side3 ?side4 A58.out).mono ?_); (case side1 => repeat (first | exact (Kd.R_reads' HO_104001.out).2.2 | (with_reducible refine Kd.C_alloc ?_ _) | (with_reducible refine Kd.C_drewN ?_ _) | (with_reducible refine Kd.C_drew ?_))); (case side2 => exact (Kd.R_reads' HO_104001.out).2.1); (case side3 => repeat (first | exact (Kd.R_reads' HO113.out).2.2 | (with_reducible refine Kd.C_alloc ?_ _) | (with_reducible refine Kd.C_drewN ?_ _) | (with_reducible refine Kd.C_drew ?_))); (case side4 => exact (Kd.R_reads' HO113.out).2.1); rintro e w74 ⟨rfl, hb⟩; replace HO_103001 := Aside0.mk (Kd.R_below (rl_ HO_103001) hb); replace HO_104001 := Aside0.mk (Kd.R_below (rl_ HO_104001) hb); replace HO113 := Aside0.mk (Kd.R_below (rl_ HO113) hb); replace BK102 := bb_ BK102 hb; replace BK103 := bb_ BK103 hb; replace BK115 := bb_ BK115 hb; replace HB := hs_ HB hb; (try clear hb); (try clear hb2); (try clear hk); (try clear hi)))
              go_ret
              exact ⟨by first | rfl | (simp [errW_none, errW_some] <;> rfl) | (simp [*, errW_none, errW_some] <;> rfl), by repeat (first | (with_reducible first | exact HB.out | apply below_alloc | apply pw_below_drewN | apply below_drew1 | refine below_set ?_ GE102.out | refine below_set ?_ GE103.out | refine below_set ?_ GE115.out) | exact HB.out)⟩
             ·replace c57 := Bool.eq_false_iff.mpr c57
              subst c57
              have H1 : (some false) = some r := by rw [if_neg (show ¬ (false = true) by decide)] at H; exact H
              clear H
              have H := H1
              clear H1
              obtain rfl := Option.some.inj H
              have hnb75 := NB102_103.out
              have hnc75 := NB103_102.out
              have hcz76_0 : wr.cell? ⟨gb102, 0, none⟩ = some (.int .i64 0) := (blk_cell BK102.out 0).trans rfl
              have hcz76_1 : wr.cell? ⟨gb102, 1, none⟩ = some (u103001) := (blk_cell BK102.out 1).trans rfl
              have hfz76_0 := blk_frozen BK102.out 0
              have hfz76_1 := blk_frozen BK102.out 1
              have hcz77_0 : wr.cell? ⟨gb103, 0, none⟩ = some (.int .i64 0) := (blk_cell BK103.out 0).trans rfl
              have hcz77_1 : wr.cell? ⟨gb103, 1, none⟩ = some (u104001) := (blk_cell BK103.out 1).trans rfl
              have hfz77_0 := blk_frozen BK103.out 0
              have hfz77_1 := blk_frozen BK103.out 1
              obtain ⟨Ao78, co78, eo78⟩ := Kd.R_slice HO_103001.out
              subst eo78
              obtain ⟨Ao79, co79, eo79⟩ := Kd.R_slice HO_104001.out
              subst eo79
              go_wp2_with (first | ((with_reducible refine gate_callee (f := 46) rfl ?_); refine goesL_ (some 60) rfl rfl Try.func46 (by kernel_rfl) rfl #[.agg #[.int .i64 0, .slice Ao78 x103001_2.length co78], .agg #[.int .i64 0, .slice Ao79 x104001_3.length co79]] rfl (by (try simp only [List.map_toArray, List.map_cons, List.map_nil]); first | done | rfl | (simp only [List.length_drop, List.length_take]; rfl)) ?_; (with_reducible refine (level_Max.calls k3 0 _ _ x103001_2 0 _ _ x104001_3 t110 t111 t114 _ ?side1 ?side2 ?side3 ?side4 A27.out).mono ?_); (case side1 => repeat (first | exact (Kd.R_reads' HO_103001.out).2.2 | (with_reducible refine Kd.C_alloc ?_ _) | (with_reducible refine Kd.C_drewN ?_ _) | (with_reducible refine Kd.C_drew ?_))); (case side2 => exact (Kd.R_reads' HO_103001.out).2.1); (case side3 => repeat (first | exact (Kd.R_reads' HO_104001.out).2.2 | (with_reducible refine Kd.C_alloc ?_ _) | (with_reducible refine Kd.C_drewN ?_ _) | (with_reducible refine Kd.C_drew ?_))); (case side4 => exact (Kd.R_reads' HO_104001.out).2.1); rintro e w80 ⟨v112, rfl, ho0, hb⟩; refine ⟨_, rfl, ?_⟩; have HO113 := Aside0.mk (Kd.R_lower (Kd.R_new' (Kd.R_new' ho0 (Kd.R_lt (rl_ HO_103001))) (Kd.R_lt (rl_ HO_104001))) (below_size (bl_ HB))); replace HO_103001 := Aside0.mk (Kd.R_elder' (rl_ HO_103001) (Kd.R_base ho0) hb); replace HO_104001 := Aside0.mk (Kd.R_elder' (rl_ HO_104001) (Kd.R_base ho0) hb); replace BK102 := bb_ BK102 hb; replace BK103 := bb_ BK103 hb; replace HB := hs_ HB hb; (try clear hb); (try clear hb2); (try clear hk); (try clear hi); (try clear ho0)) | ((with_reducible refine gate_dst (N := 10) rfl ?_); (try (refine gate_guard (by rfl) ?_; dsimp only)); refine box_event ?hg (N := 10) ?hd (cs := #[.int .i64 0, .slice none 0 0]) (t := 43) ?hr ?_; (case hd => rfl); (case hg => rfl); (case hr => first | (go_simp; done) | (go_simp; rfl)); intro gb115 hg w81 hbox hb; have BK115 := Aside0.mk (hbox); have GW115 := Aside0.mk ((bs_ hg HB : w.heap.size ≤ gb115)); have GE115 := Aside0.mk ((bs_ hg HB : w.heap.size ≤ gb115)); have NB102_115 := Aside0.mk ((nl_ hg BK102 : gb102 ≠ gb115)); have NB115_102 := Aside0.mk ((ng_ hg BK102 : gb115 ≠ gb102)); have NB103_115 := Aside0.mk ((nl_ hg BK103 : gb103 ≠ gb115)); have NB115_103 := Aside0.mk ((ng_ hg BK103 : gb115 ≠ gb103)); replace HO_103001 := Aside0.mk (Kd.R_below (rl_ HO_103001) hb); replace HO_104001 := Aside0.mk (Kd.R_below (rl_ HO_104001) hb); replace HO113 := Aside0.mk (Kd.R_below (rl_ HO113) hb); replace BK102 := bb_ BK102 hb; replace BK103 := bb_ BK103 hb; replace HB := hs_ HB hb; clear hb hbox hg; have hnb82 := NB115_102.out; have hnc82 := NB102_115.out; have hnb83 := NB115_103.out; have hnc83 := NB103_115.out; have hcz84_0 : w81.cell? ⟨gb115, 0, none⟩ = some (.int .i64 0) := (blk_cell BK115.out 0).trans rfl; have hcz84_1 : w81.cell? ⟨gb115, 1, none⟩ = some (.slice none 0 0) := (blk_cell BK115.out 1).trans rfl; have hfz84_0 := blk_frozen BK115.out 0; have hfz84_1 := blk_frozen BK115.out 1; obtain ⟨Ao85, co85, eo85⟩ := Kd.R_slice HO113.out; subst eo85) | ((with_reducible refine gate_callee (f := 43) rfl ?_); refine goesL_ (some 77) rfl rfl Try.func43 (by kernel_rfl) rfl #[.int .i64 t114] rfl (by (try simp only [List.map_toArray, List.map_cons, List.map_nil]); first | done | rfl | (simp only [List.length_drop, List.length_take]; rfl)) ?_; (with_reducible refine (telamonlaw1_num.calls t114 t117 _ A53.out).mono ?_); rintro e w' ⟨rfl, ⟨nd, rfl⟩⟩; refine ⟨_, rfl, ?_⟩; have hcz86_0 : w81.cell? ⟨gb102, 0, none⟩ = some (.int .i64 0) := (blk_cell BK102.out 0).trans rfl; have hcz86_1 : w81.cell? ⟨gb102, 1, none⟩ = some (.slice Ao78 x103001_2.length co78) := (blk_cell BK102.out 1).trans rfl; have hfz86_0 := blk_frozen BK102.out 0; have hfz86_1 := blk_frozen BK102.out 1) | (go_at_call 49; (with_reducible refine (level_Leq.calls k3 0 _ _ x103001_2 t110 _ _ t111 false _ ?side1 ?side2 ?side3 ?side4 A56.out).mono ?_); (case side1 => refine (Kd.R_reads' (e := 62) (base := w.heap.size) (ok := fun k_ => (some k_ ≠ (.slice Ao79 x104001_3.length co79 : Value).ownBlock ∧ some k_ ≠ (.slice Ao85 t111.length co85 : Value).ownBlock)) (n := x103001_2.length) (c := co78) ?_).2.2; exact (by (with_reducible repeat (first | apply Kd.R_alloc | apply Kd.R_drewN | apply Kd.R_drew)); exact (Kd.R_mono (Kd.R_far (p := ⟨gb115, 1, none⟩) (Kd.R_far (p := ⟨gb115, 0, none⟩) (Kd.R_types HO_103001.out BK115.out (by decide)) (fun _ hk => hk.2) (.int .i64 t110)) (fun _ hk => hk.2) (.slice Ao85 t111.length co85)) (fun _ h_ => h_.1)))); (case side2 => exact (Kd.R_reads' HO_103001.out).2.1); (case side3 => refine (Kd.R_reads' (e := 62) (base := w.heap.size) (ok := fun k_ => ((True ∧ some k_ ≠ (.slice Ao78 x103001_2.length co78 : Value).ownBlock) ∧ some k_ ≠ (.slice Ao79 x104001_3.length co79 : Value).ownBlock)) (n := t111.length) (c := co85) ?_).2.2; exact (by (with_reducible repeat (first | apply Kd.R_alloc | apply Kd.R_drewN | apply Kd.R_drew)); exact (Kd.R_mono (Kd.R_far (p := ⟨gb115, 1, none⟩) (Kd.R_far (p := ⟨gb115, 0, none⟩) (Kd.R_types HO113.out BK115.out (by decide)) (fun _ hk => hk.2) (.int .i64 t110)) (fun _ hk => hk.2) (.slice Ao85 t111.length co85)) (fun _ h_ => h_.1)))); (case side4 => exact (Kd.R_reads' HO113.out).2.1); rintro e w87 ⟨rfl, hb⟩; replace HO_103001 := Aside0.mk (Kd.R_below (by (with_reducible repeat (first | apply Kd.R_alloc | apply Kd.R_drewN | apply Kd.R_drew)); exact (Kd.R_mono (Kd.R_far (p := ⟨gb115, 1, none⟩) (Kd.R_far (p := ⟨gb115, 0, none⟩) (Kd.R_types HO_103001.out BK115.out (by decide)) (fun _ hk => hk.2) (.int .i64 t110)) (fun _ hk => hk.2) (.slice Ao85 t111.length co85)) (fun _ h_ => h_.1))) hb); replace HO_104001 := Aside0.mk (Kd.R_below (by (with_reducible repeat (first | apply Kd.R_alloc | apply Kd.R_drewN | apply Kd.R_drew)); exact (Kd.R_mono (Kd.R_far (p := ⟨gb115, 1, none⟩) (Kd.R_far (p := ⟨gb115, 0, none⟩) (Kd.R_types HO_104001.out BK115.out (by decide)) (fun _ hk => hk.2) (.int .i64 t110)) (fun _ hk => hk.2) (.slice Ao85 t111.length co85)) (fun _ h_ => h_.1))) hb); replace HO113 := Aside0.mk (Kd.R_below (by (with_reducible repeat (first | apply Kd.R_alloc | apply Kd.R_drewN | apply Kd.R_drew)); exact (Kd.R_mono (Kd.R_far (p := ⟨gb115, 1, none⟩) (Kd.R_far (p := ⟨gb115, 0, none⟩) (Kd.R_types HO113.out BK115.out (by decide)) (fun _ hk => hk.2) (.int .i64 t110)) (fun _ hk => hk.2) (.slice Ao85 t111.length co85)) (fun _ h_ => h_.1))) hb); replace BK102 := Aside0.mk (blk_below (pf_ BK102) hb); replace BK103 := Aside0.mk (blk_below (pf_ BK103) hb); replace BK115 := Aside0.mk (blk_below (g := gb115) (o := .cells #[.int .i64 t110, .slice Ao85 t111.length co85] 43 (0, 0)) (by (with_reducible repeat (first | refine blk_drewN ?_ _ | refine blk_drew ?_ | refine blk_alloc ?_ _)); refine blk_put (cs := #[.int .i64 t110, .slice none 0 0]) ?_ 1 _ rfl; (with_reducible repeat (first | refine blk_drewN ?_ _ | refine blk_drew ?_ | refine blk_alloc ?_ _)); refine blk_put (cs := #[.int .i64 0, .slice none 0 0]) ?_ 0 _ rfl; (with_reducible repeat (first | refine blk_drewN ?_ _ | refine blk_drew ?_ | refine blk_alloc ?_ _)); exact BK115.out) hb); replace HB := hs_ HB hb; (try clear hb); (try clear hb2); (try clear hk); (try clear hi)))
              go_ret
              exact ⟨by first | rfl | (simp [errW_none, errW_some] <;> rfl) | (simp [*, errW_none, errW_some] <;> rfl), by repeat (first | (with_reducible first | exact HB.out | apply below_alloc | apply pw_below_drewN | apply below_drew1 | refine below_set ?_ GE102.out | refine below_set ?_ GE103.out | refine below_set ?_ GE115.out) | exact HB.out)⟩
            ·rw [if_neg c55] at H
             have c55b0 : ((t111.length : Int) == (wrap64 (a0 + a1))) = false := beq_eq_false_iff_ne.mpr c55
             have c55b1 : ((t111.length : Int) != (wrap64 (a0 + a1))) = true := bne_iff_ne.mpr c55
             obtain rfl := Option.some.inj H
             have hnb88 := NB102_103.out
             have hnc88 := NB103_102.out
             have hcz89_0 : wr.cell? ⟨gb102, 0, none⟩ = some (.int .i64 0) := (blk_cell BK102.out 0).trans rfl
             have hcz89_1 : wr.cell? ⟨gb102, 1, none⟩ = some (u103001) := (blk_cell BK102.out 1).trans rfl
             have hfz89_0 := blk_frozen BK102.out 0
             have hfz89_1 := blk_frozen BK102.out 1
             have hcz90_0 : wr.cell? ⟨gb103, 0, none⟩ = some (.int .i64 0) := (blk_cell BK103.out 0).trans rfl
             have hcz90_1 : wr.cell? ⟨gb103, 1, none⟩ = some (u104001) := (blk_cell BK103.out 1).trans rfl
             have hfz90_0 := blk_frozen BK103.out 0
             have hfz90_1 := blk_frozen BK103.out 1
             obtain ⟨Ao91, co91, eo91⟩ := Kd.R_slice HO_103001.out
             subst eo91
             obtain ⟨Ao92, co92, eo92⟩ := Kd.R_slice HO_104001.out
             subst eo92
             go_wp2_with (first | ((with_reducible refine gate_callee (f := 46) rfl ?_); refine goesL_ (some 60) rfl rfl Try.func46 (by kernel_rfl) rfl #[.agg #[.int .i64 0, .slice Ao91 x103001_2.length co91], .agg #[.int .i64 0, .slice Ao92 x104001_3.length co92]] rfl (by (try simp only [List.map_toArray, List.map_cons, List.map_nil]); first | done | rfl | (simp only [List.length_drop, List.length_take]; rfl)) ?_; (with_reducible refine (level_Max.calls k3 0 _ _ x103001_2 0 _ _ x104001_3 t110 t111 t114 _ ?side1 ?side2 ?side3 ?side4 A27.out).mono ?_); (case side1 => repeat (first | exact (Kd.R_reads' HO_103001.out).2.2 | (with_reducible refine Kd.C_alloc ?_ _) | (with_reducible refine Kd.C_drewN ?_ _) | (with_reducible refine Kd.C_drew ?_))); (case side2 => exact (Kd.R_reads' HO_103001.out).2.1); (case side3 => repeat (first | exact (Kd.R_reads' HO_104001.out).2.2 | (with_reducible refine Kd.C_alloc ?_ _) | (with_reducible refine Kd.C_drewN ?_ _) | (with_reducible refine Kd.C_drew ?_))); (case side4 => exact (Kd.R_reads' HO_104001.out).2.1); rintro e w93 ⟨v112, rfl, ho0, hb⟩; refine ⟨_, rfl, ?_⟩; have HO113 := Aside0.mk (Kd.R_lower (Kd.R_new' (Kd.R_new' ho0 (Kd.R_lt (rl_ HO_103001))) (Kd.R_lt (rl_ HO_104001))) (below_size (bl_ HB))); replace HO_103001 := Aside0.mk (Kd.R_elder' (rl_ HO_103001) (Kd.R_base ho0) hb); replace HO_104001 := Aside0.mk (Kd.R_elder' (rl_ HO_104001) (Kd.R_base ho0) hb); replace BK102 := bb_ BK102 hb; replace BK103 := bb_ BK103 hb; replace HB := hs_ HB hb; (try clear hb); (try clear hb2); (try clear hk); (try clear hi); (try clear ho0)) | ((with_reducible refine gate_dst (N := 10) rfl ?_); (try (refine gate_guard (by rfl) ?_; dsimp only)); refine box_event ?hg (N := 10) ?hd (cs := #[.int .i64 0, .slice none 0 0]) (t := 43) ?hr ?_; (case hd => rfl); (case hg => rfl); (case hr => first | (go_simp; done) | (go_simp; rfl)); intro gb115 hg w94 hbox hb; have BK115 := Aside0.mk (hbox); have GW115 := Aside0.mk ((bs_ hg HB : w.heap.size ≤ gb115)); have GE115 := Aside0.mk ((bs_ hg HB : w.heap.size ≤ gb115)); have NB102_115 := Aside0.mk ((nl_ hg BK102 : gb102 ≠ gb115)); have NB115_102 := Aside0.mk ((ng_ hg BK102 : gb115 ≠ gb102)); have NB103_115 := Aside0.mk ((nl_ hg BK103 : gb103 ≠ gb115)); have NB115_103 := Aside0.mk ((ng_ hg BK103 : gb115 ≠ gb103)); replace HO_103001 := Aside0.mk (Kd.R_below (rl_ HO_103001) hb); replace HO_104001 := Aside0.mk (Kd.R_below (rl_ HO_104001) hb); replace HO113 := Aside0.mk (Kd.R_below (rl_ HO113) hb); replace BK102 := bb_ BK102 hb; replace BK103 := bb_ BK103 hb; replace HB := hs_ HB hb; clear hb hbox hg; have hnb95 := NB115_102.out; have hnc95 := NB102_115.out; have hnb96 := NB115_103.out; have hnc96 := NB103_115.out; have hcz97_0 : w94.cell? ⟨gb115, 0, none⟩ = some (.int .i64 0) := (blk_cell BK115.out 0).trans rfl; have hcz97_1 : w94.cell? ⟨gb115, 1, none⟩ = some (.slice none 0 0) := (blk_cell BK115.out 1).trans rfl; have hfz97_0 := blk_frozen BK115.out 0; have hfz97_1 := blk_frozen BK115.out 1; obtain ⟨Ao98, co98, eo98⟩ := Kd.R_slice HO113.out; subst eo98) | ((with_reducible refine gate_callee (f := 43) rfl ?_); refine goesL_ (some 77) rfl rfl Try.func43 (by kernel_rfl) rfl #[.int .i64 t114] rfl (by (try simp only [List.map_toArray, List.map_cons, List.map_nil]); first | done | rfl | (simp only [List.length_drop, List.length_take]; rfl)) ?_; (with_reducible refine (telamonlaw1_num.calls t114 t117 _ A53.out).mono ?_); rintro e w' ⟨rfl, ⟨nd, rfl⟩⟩; refine ⟨_, rfl, ?_⟩))
             go_ret
             exact ⟨by first | rfl | (simp [errW_none, errW_some] <;> rfl) | (simp [*, errW_none, errW_some] <;> rfl), by repeat (first | (with_reducible first | exact HB.out | apply below_alloc | apply pw_below_drewN | apply below_drew1 | refine below_set ?_ GE102.out | refine below_set ?_ GE103.out | refine below_set ?_ GE115.out) | exact HB.out)⟩
           ·rw [if_neg c54] at H
            have c54b0 : (t117 == 0) = false := beq_eq_false_iff_ne.mpr c54
            have c54b1 : (t117 != 0) = true := bne_iff_ne.mpr c54
            obtain rfl := Option.some.inj H
            have hnb99 := NB102_103.out
            have hnc99 := NB103_102.out
            have hcz100_0 : wr.cell? ⟨gb102, 0, none⟩ = some (.int .i64 0) := (blk_cell BK102.out 0).trans rfl
            have hcz100_1 : wr.cell? ⟨gb102, 1, none⟩ = some (u103001) := (blk_cell BK102.out 1).trans rfl
            have hfz100_0 := blk_frozen BK102.out 0
            have hfz100_1 := blk_frozen BK102.out 1
            have hcz101_0 : wr.cell? ⟨gb103, 0, none⟩ = some (.int .i64 0) := (blk_cell BK103.out 0).trans rfl
            have hcz101_1 : wr.cell? ⟨gb103, 1, none⟩ = some (u104001) := (blk_cell BK103.out 1).trans rfl
            have hfz101_0 := blk_frozen BK103.out 0
            have hfz101_1 := blk_frozen BK103.out 1
            obtain ⟨Ao102, co102, eo102⟩ := Kd.R_slice HO_103001.out
            subst eo102
            obtain ⟨Ao103, co103, eo103⟩ := Kd.R_slice HO_104001.out
            subst eo103
            go_wp2_with (first | ((with_reducible refine gate_callee (f := 46) rfl ?_); refine goesL_ (some 60) rfl rfl Try.func46 (by kernel_rfl) rfl #[.agg #[.int .i64 0, .slice Ao102 x103001_2.length co102], .agg #[.int .i64 0, .slice Ao103 x104001_3.length co103]] rfl (by (try simp only [List.map_toArray, List.map_cons, List.map_nil]); first | done | rfl | (simp only [List.length_drop, List.length_take]; rfl)) ?_; (with_reducible refine (level_Max.calls k3 0 _ _ x103001_2 0 _ _ x104001_3 t110 t111 t114 _ ?side1 ?side2 ?side3 ?side4 A27.out).mono ?_); (case side1 => repeat (first | exact (Kd.R_reads' HO_103001.out).2.2 | (with_reducible refine Kd.C_alloc ?_ _) | (with_reducible refine Kd.C_drewN ?_ _) | (with_reducible refine Kd.C_drew ?_))); (case side2 => exact (Kd.R_reads' HO_103001.out).2.1); (case side3 => repeat (first | exact (Kd.R_reads' HO_104001.out).2.2 | (with_reducible refine Kd.C_alloc ?_ _) | (with_reducible refine Kd.C_drewN ?_ _) | (with_reducible refine Kd.C_drew ?_))); (case side4 => exact (Kd.R_reads' HO_104001.out).2.1); rintro e w104 ⟨v112, rfl, ho0, hb⟩; refine ⟨_, rfl, ?_⟩; have HO113 := Aside0.mk (Kd.R_lower (Kd.R_new' (Kd.R_new' ho0 (Kd.R_lt (rl_ HO_103001))) (Kd.R_lt (rl_ HO_104001))) (below_size (bl_ HB))); replace HO_103001 := Aside0.mk (Kd.R_elder' (rl_ HO_103001) (Kd.R_base ho0) hb); replace HO_104001 := Aside0.mk (Kd.R_elder' (rl_ HO_104001) (Kd.R_base ho0) hb); replace BK102 := bb_ BK102 hb; replace BK103 := bb_ BK103 hb; replace HB := hs_ HB hb; (try clear hb); (try clear hb2); (try clear hk); (try clear hi); (try clear ho0)) | ((with_reducible refine gate_dst (N := 10) rfl ?_); (try (refine gate_guard (by rfl) ?_; dsimp only)); refine box_event ?hg (N := 10) ?hd (cs := #[.int .i64 0, .slice none 0 0]) (t := 43) ?hr ?_; (case hd => rfl); (case hg => rfl); (case hr => first | (go_simp; done) | (go_simp; rfl)); intro gb115 hg w105 hbox hb; have BK115 := Aside0.mk (hbox); have GW115 := Aside0.mk ((bs_ hg HB : w.heap.size ≤ gb115)); have GE115 := Aside0.mk ((bs_ hg HB : w.heap.size ≤ gb115)); have NB102_115 := Aside0.mk ((nl_ hg BK102 : gb102 ≠ gb115)); have NB115_102 := Aside0.mk ((ng_ hg BK102 : gb115 ≠ gb102)); have NB103_115 := Aside0.mk ((nl_ hg BK103 : gb103 ≠ gb115)); have NB115_103 := Aside0.mk ((ng_ hg BK103 : gb115 ≠ gb103)); replace HO_103001 := Aside0.mk (Kd.R_below (rl_ HO_103001) hb); replace HO_104001 := Aside0.mk (Kd.R_below (rl_ HO_104001) hb); replace HO113 := Aside0.mk (Kd.R_below (rl_ HO113) hb); replace BK102 := bb_ BK102 hb; replace BK103 := bb_ BK103 hb; replace HB := hs_ HB hb; clear hb hbox hg; have hnb106 := NB115_102.out; have hnc106 := NB102_115.out; have hnb107 := NB115_103.out; have hnc107 := NB103_115.out; have hcz108_0 : w105.cell? ⟨gb115, 0, none⟩ = some (.int .i64 0) := (blk_cell BK115.out 0).trans rfl; have hcz108_1 : w105.cell? ⟨gb115, 1, none⟩ = some (.slice none 0 0) := (blk_cell BK115.out 1).trans rfl; have hfz108_0 := blk_frozen BK115.out 0; have hfz108_1 := blk_frozen BK115.out 1; obtain ⟨Ao109, co109, eo109⟩ := Kd.R_slice HO113.out; subst eo109) | ((with_reducible refine gate_callee (f := 43) rfl ?_); refine goesL_ (some 77) rfl rfl Try.func43 (by kernel_rfl) rfl #[.int .i64 t114] rfl (by (try simp only [List.map_toArray, List.map_cons, List.map_nil]); first | done | rfl | (simp only [List.length_drop, List.length_take]; rfl)) ?_; (with_reducible refine (telamonlaw1_num.calls t114 t117 _ A53.out).mono ?_); rintro e w' ⟨rfl, ⟨nd, rfl⟩⟩; refine ⟨_, rfl, ?_⟩))
            go_ret
            exact ⟨by first | rfl | (simp [errW_none, errW_some] <;> rfl) | (simp [*, errW_none, errW_some] <;> rfl), by repeat (first | (with_reducible first | exact HB.out | apply below_alloc | apply pw_below_drewN | apply below_drew1 | refine below_set ?_ GE102.out | refine below_set ?_ GE103.out | refine below_set ?_ GE115.out) | exact HB.out)⟩

/-- THE ONE PURE STATEMENT of telamonlaw1_LevelWide: yours. -/
def telamonlaw1_LevelWide.Pure : Prop := ∀ (a0 : Int) (a1 : Int), (Lit.int .i64 a0).wf = true → (Lit.int .i64 a1).wf = true → ∃ k, telamonlaw1_LevelWide.f k a0 a1 = some true
theorem telamonlaw1_LevelWide.walk (P : telamonlaw1_LevelWide.Pure) (a0 : Int) (a1 : Int) (w : World) (w0 : (Lit.int .i64 a0).wf = true) (w1 : (Lit.int .i64 a1).wf = true) :
  Calls Try.prog 13 #[.int .i64 a0, .int .i64 a1] w fun e w' => e = .returned (.bool true) ∧ Below w.heap.size w w' := by
 obtain ⟨k, h⟩ := P a0 a1 w0 w1
 refine (telamonlaw1_LevelWide.calls k a0 a1 true w h).mono ?_
 rintro e w' ⟨rfl, hd⟩
 exact ⟨rfl, hd⟩

end Go.Proofs.Ytbopadglafbdjaa.PX
