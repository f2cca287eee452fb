-- by wip/tools/gprint.py of this session over the kit's print; given functions are this session's own text
import Derived.Test.YtbopadglafbdjaaPXx0
import Derived.Test.YtbopadglafbdjaaPXxf29
import Derived.Test.YtbopadglafbdjaaPXxf31
import Derived.Test.YtbopadglafbdjaaPXxf28
import Derived.Test.YtbopadglafbdjaaPXxf32
namespace Go.Proofs.Ytbopadglafbdjaa.PX
open Go.RowKit Go.Proofs.YtbopadglafbdjaaW.PrintWords Go.Proofs.YtbopadglafbdjaaW.PrintLast Go.Proofs.YtbopadglafbdjaaW.PrintMore
attribute [local go_sem] max2_int min2_int max_two min_two max_three min_three max_four min_four   -- for this text's walks alone
set_option linter.unusedVariables false
set_option linter.unusedSimpArgs false

/-! ### telamonlaw19_LsolveHolds: function 7 -/
mutual
def telamonlaw19_LsolveHolds.j0 : Nat → Int → List (S45) → Int → Bool → Bool → Option (Bool)
 | 0, _, _, _, _, _ => none
 | k + 1, x0, x1, x2, x7, x30 => if x30 = true then (some x7) else ((lsolve_Solve.f x0 x1).bind fun bt102 => ((telamonlaw19_num.f bt102.2).bind fun t106 => (if t106 = 0 then (if (bt102.1.length : Int) = x0 then ((telamonlaw19_holds.f k x1 bt102.1).bind fun t107 => (telamonlaw19_LsolveHolds.j1 k x0 x1 x2 bt102.1 (!t107))) else (telamonlaw19_LsolveHolds.j1 k x0 x1 x2 bt102.1 true)) else (some ((bt102.1.length : Int) == 0)))))
def telamonlaw19_LsolveHolds.j1 : Nat → Int → List (S45) → Int → List Int → Bool → Option (Bool)
 | 0, _, _, _, _, _ => none
 | k + 1, x0, x1, x2, x8, x53 => if x53 = true then (some false) else (if x0 = 0 then (none) else (if 0 ≤ (Int.tmod x2 x0) then (if (Int.tmod x2 x0) < (x8.length : Int) then (if (rd x8 (Int.tmod x2 x0)) = 0 then (some true) else ((telamonlaw19_holds.f k x1 (x8.set ((Int.tmod x2 x0) : Int).toNat (wrap64 ((rd x8 (Int.tmod x2 x0)) - 1)))).bind fun t111 => (some (!t111)))) else (none)) else (none)))
end
def telamonlaw19_LsolveHolds.f (k : Nat) (a0 : Int) (l1 : List (S45)) (a2 : Int) : Option (Bool) := (telamonlaw19_alive.f).bind fun t101 => (if t101 = true then (if a0 < 1 then (telamonlaw19_LsolveHolds.j0 k a0 l1 a2 t101 true) else (if a0 > 50 then (telamonlaw19_LsolveHolds.j0 k a0 l1 a2 t101 true) else (if (l1.length : Int) > 100 then (telamonlaw19_LsolveHolds.j0 k a0 l1 a2 t101 true) else (telamonlaw19_LsolveHolds.j0 k a0 l1 a2 t101 (decide (a2 < 0)))))) else (telamonlaw19_LsolveHolds.j0 k a0 l1 a2 t101 true))
theorem telamonlaw19_LsolveHolds.mono_l : ∀ k, (∀ y0 y1 y2 y3 y4, LeO (telamonlaw19_LsolveHolds.j0 k y0 y1 y2 y3 y4) (telamonlaw19_LsolveHolds.j0 (k + 1) y0 y1 y2 y3 y4)) ∧ (∀ y0 y1 y2 y3 y4, LeO (telamonlaw19_LsolveHolds.j1 k y0 y1 y2 y3 y4) (telamonlaw19_LsolveHolds.j1 (k + 1) y0 y1 y2 y3 y4))
 | 0 => ⟨fun _ _ _ _ _ r h => by simp [telamonlaw19_LsolveHolds.j0] at h, fun _ _ _ _ _ r h => by simp [telamonlaw19_LsolveHolds.j1] at h⟩
 | k + 1 => by
  obtain ⟨ih0, ih1⟩ := telamonlaw19_LsolveHolds.mono_l k
  refine ⟨?_, ?_⟩
  ·intro y0 y1 y2 y3 y4
   unfold telamonlaw19_LsolveHolds.j0
   repeat' first
   | (with_reducible exact ih0 _ _ _ _ _)
   | (with_reducible exact ih1 _ _ _ _ _)
   | (with_reducible exact telamonlaw19_holds.mono _ _ _)
   | (with_reducible exact LeO.refl _)
   | (with_reducible exact LeO.none _)
   | (with_reducible refine LeO.ite ?_ ?_)
   | (with_reducible refine LeO.bind ?_ (fun _ => ?_))
   | exact ih0 _ _ _ _ _
   | exact ih1 _ _ _ _ _
   | exact telamonlaw19_holds.mono _ _ _
   | exact LeO.none _
   | refine LeO.ite ?_ ?_
   | refine LeO.bind ?_ (fun _ => ?_)
  ·intro y0 y1 y2 y3 y4
   unfold telamonlaw19_LsolveHolds.j1
   repeat' first
   | (with_reducible exact ih0 _ _ _ _ _)
   | (with_reducible exact ih1 _ _ _ _ _)
   | (with_reducible exact telamonlaw19_holds.mono _ _ _)
   | (with_reducible exact LeO.refl _)
   | (with_reducible exact LeO.none _)
   | (with_reducible refine LeO.ite ?_ ?_)
   | (with_reducible refine LeO.bind ?_ (fun _ => ?_))
   | exact ih0 _ _ _ _ _
   | exact ih1 _ _ _ _ _
   | exact telamonlaw19_holds.mono _ _ _
   | exact LeO.none _
   | refine LeO.ite ?_ ?_
   | refine LeO.bind ?_ (fun _ => ?_)
theorem telamonlaw19_LsolveHolds.mono : ∀ a0 a1 a2 k, LeO (telamonlaw19_LsolveHolds.f k a0 a1 a2) (telamonlaw19_LsolveHolds.f (k + 1) a0 a1 a2) := by
 intro a0 a1 a2 k
 obtain ⟨ih0, ih1⟩ := telamonlaw19_LsolveHolds.mono_l k
 unfold telamonlaw19_LsolveHolds.f
 repeat' first
   | (with_reducible exact ih0 _ _ _ _ _)
   | (with_reducible exact ih1 _ _ _ _ _)
   | (with_reducible exact telamonlaw19_holds.mono _ _ _)
   | (with_reducible exact LeO.refl _)
   | (with_reducible exact LeO.none _)
   | (with_reducible refine LeO.ite ?_ ?_)
   | (with_reducible refine LeO.bind ?_ (fun _ => ?_))
   | exact ih0 _ _ _ _ _
   | exact ih1 _ _ _ _ _
   | exact telamonlaw19_holds.mono _ _ _
   | exact LeO.none _
   | refine LeO.ite ?_ ?_
   | refine LeO.bind ?_ (fun _ => ?_)
set_option maxHeartbeats 8000000 in
set_option maxRecDepth 100000 in
theorem telamonlaw19_LsolveHolds.calls (k : Nat) (a0 : Int) (A1 : Option Addr) (c1 : Nat) (l1 : List (S45)) (a2 : Int) (r : Bool) (hrt : Aside0 (r = true)) (w : World) (hr1 : Kd.C k45 w A1 l1.length l1) (hc1 : l1.length ≤ c1) (h : telamonlaw19_LsolveHolds.f k a0 l1 a2 = some r) :
  Calls Try.prog 7 #[.int .i64 a0, .slice A1 l1.length c1, .int .i64 a2] w fun e w' => e = .returned (.bool r) ∧ Below w.heap.size w w' := by
 have HR1 := Aside0.mk hr1
 have HC1 := Aside0.mk hc1
 clear hr1 hc1
 have HB := Aside0.mk (Below.refl w.heap.size w)
 have H : ((telamonlaw19_alive.f).bind fun t101 => (if t101 = true then (if a0 < 1 then (telamonlaw19_LsolveHolds.j0 k a0 l1 a2 t101 true) else (if a0 > 50 then (telamonlaw19_LsolveHolds.j0 k a0 l1 a2 t101 true) else (if (l1.length : Int) > 100 then (telamonlaw19_LsolveHolds.j0 k a0 l1 a2 t101 true) else (telamonlaw19_LsolveHolds.j0 k a0 l1 a2 t101 (decide (a2 < 0)))))) else (telamonlaw19_LsolveHolds.j0 k a0 l1 a2 t101 true))) = some r := h
 clear h
 replace H := Option.bind_eq_some_iff.mp H
 obtain ⟨t101, A40, H⟩ := H
 replace H : (if t101 = true then (if a0 < 1 then (telamonlaw19_LsolveHolds.j0 k a0 l1 a2 t101 true) else (if a0 > 50 then (telamonlaw19_LsolveHolds.j0 k a0 l1 a2 t101 true) else (if (l1.length : Int) > 100 then (telamonlaw19_LsolveHolds.j0 k a0 l1 a2 t101 true) else (telamonlaw19_LsolveHolds.j0 k a0 l1 a2 t101 (decide (a2 < 0)))))) else (telamonlaw19_LsolveHolds.j0 k a0 l1 a2 t101 true)) = some r := H
 have A4 := Aside0.mk A40
 clear A40
 have HC5 := Aside0.mk H
 clear H
 go_enter Try.func7, Try.ntmps7
 go_upto_region 2 with (first | ((with_reducible refine gate_callee (f := 28) rfl ?_); refine goesL_ (some 11) rfl rfl Try.func28 (by kernel_rfl) rfl #[] rfl (by (try simp only [List.map_toArray, List.map_cons, List.map_nil]); first | done | rfl | (simp only [List.length_drop, List.length_take]; rfl)) ?_; (with_reducible refine (telamonlaw19_alive.calls  t101 _ A4.out).mono ?_); rintro e w6 ⟨rfl, hb⟩; refine ⟨_, rfl, ?_⟩; replace HB := hs_ HB hb; (try clear hb); (try clear hb2); (try clear hk); (try clear hi)))
 (try simp only [Act.put, List.setIfInBounds_toArray, List.set_cons_zero, List.set_cons_succ])
 go_cut [30] (fun v30 wc => ∃ (kq : Nat) (x30_4 : Bool), v30 = .bool x30_4 ∧ Aside0 (telamonlaw19_LsolveHolds.j0 kq a0 l1 a2 t101 x30_4 = some r) ∧ Aside0 (kq ≤ k) ∧ Aside0 (Below w.heap.size w wc))
 case first =>
  have H := HC5.out
  clear HC5
  by_cases c7 : t101 = true
  ·subst c7
   have H1 : (if a0 < 1 then (telamonlaw19_LsolveHolds.j0 k a0 l1 a2 true true) else (if a0 > 50 then (telamonlaw19_LsolveHolds.j0 k a0 l1 a2 true true) else (if (l1.length : Int) > 100 then (telamonlaw19_LsolveHolds.j0 k a0 l1 a2 true true) else (telamonlaw19_LsolveHolds.j0 k a0 l1 a2 true (decide (a2 < 0)))))) = some r := by rw [if_pos rfl] at H; exact H
   clear H
   have H := H1
   clear H1
   by_cases c8 : a0 < 1
   ·rw [if_pos c8] at H
    have c8b0 : decide (a0 < 1) = true := decide_eq_true c8
    clear c8
    (first | rw [c8b0] | (simp only [i64_w, i32_w]; rw [c8b0]) | skip)
    have H' := Aside0.mk H
    clear H
    go_wp2
    go_meet
    case rel => exact ⟨_, (true), (by first | rfl | (simp; done) | (simp [*]; done)), H', ⟨by first | omega | exact Nat.le_refl _⟩, ⟨by repeat (first | (with_reducible first | exact HB.out | apply below_alloc | apply pw_below_drewN | apply below_drew1) | exact HB.out)⟩⟩
   ·rw [if_neg c8] at H
    have c8b0 : decide (a0 < 1) = false := decide_eq_false c8
    clear c8
    (first | rw [c8b0] | (simp only [i64_w, i32_w]; rw [c8b0]) | skip)
    by_cases c9 : a0 > 50
    ·rw [if_pos c9] at H
     have c9b0 : decide (50 < a0) = true := decide_eq_true c9
     clear c9
     have H' := Aside0.mk H
     clear H
     go_wp2
     go_meet
     case rel => exact ⟨_, (true), (by first | rfl | (simp; done) | (simp [*]; done)), H', ⟨by first | omega | exact Nat.le_refl _⟩, ⟨by repeat (first | (with_reducible first | exact HB.out | apply below_alloc | apply pw_below_drewN | apply below_drew1) | exact HB.out)⟩⟩
    ·rw [if_neg c9] at H
     have c9b0 : decide (50 < a0) = false := decide_eq_false c9
     clear c9
     by_cases c10 : (l1.length : Int) > 100
     ·rw [if_pos c10] at H
      have c10b0 : decide (100 < (l1.length : Int)) = true := decide_eq_true c10
      have c10b1 : decide (100 < l1.length) = true := decide_eq_true (by omega)
      clear c10
      have H' := Aside0.mk H
      clear H
      go_wp2
      go_meet
      case rel => exact ⟨_, (true), (by first | rfl | (simp; done) | (simp [*]; done)), H', ⟨by first | omega | exact Nat.le_refl _⟩, ⟨by repeat (first | (with_reducible first | exact HB.out | apply below_alloc | apply pw_below_drewN | apply below_drew1) | exact HB.out)⟩⟩
     ·rw [if_neg c10] at H
      have c10b0 : decide (100 < (l1.length : Int)) = false := decide_eq_false c10
      have c10b1 : decide (100 < l1.length) = false := decide_eq_false (by omega)
      clear c10
      have H' := Aside0.mk H
      clear H
      go_wp2
      go_meet
      case rel => exact ⟨_, (decide (a2 < 0)), (by first | rfl | (simp; done) | (simp [*]; done)), H', ⟨by first | omega | exact Nat.le_refl _⟩, ⟨by repeat (first | (with_reducible first | exact HB.out | apply below_alloc | apply pw_below_drewN | apply below_drew1) | exact HB.out)⟩⟩
  ·replace c7 := Bool.eq_false_iff.mpr c7
   subst c7
   have H1 : (telamonlaw19_LsolveHolds.j0 k a0 l1 a2 false true) = some r := by rw [if_neg (show ¬ (false = true) by decide)] at H; exact H
   clear H
   have H := H1
   clear H1
   have H' := Aside0.mk H
   clear H
   go_wp2
   go_meet
   case rel => exact ⟨_, (true), (by first | rfl | (simp; done) | (simp [*]; done)), H', ⟨by first | omega | exact Nat.le_refl _⟩, ⟨by repeat (first | (with_reducible first | exact HB.out | apply below_alloc | apply pw_below_drewN | apply below_drew1) | exact HB.out)⟩⟩
 case rest =>
  clear HC5
  (try clear c1); (try clear c2); (try clear p2); (try clear c7); (try clear c8); (try clear c8b0); (try clear c9); (try clear c9b0); (try clear c10); (try clear c10b0); (try clear c10b1)
  obtain ⟨kq, x30_4, rfl, HA, HJ4, HB⟩ := hcut
  cases kq with
  | zero => exact absurd HA.out (by simp [telamonlaw19_LsolveHolds.j0])
  | succ kj4 =>
   have H := HA.out
   clear HA
   simp only [telamonlaw19_LsolveHolds.j0] at H
   by_cases c11 : x30_4 = true
   ·subst c11
    have H1 : (some t101) = some r := by rw [if_pos rfl] at H; exact H
    clear H
    have H := H1
    clear H1
    obtain rfl := Option.some.inj H
    go_wp2
    go_ret
    exact ⟨by first | rfl | (simp [errW_none, errW_some] <;> rfl) | (simp [*, errW_none, errW_some] <;> rfl), by repeat (first | (with_reducible first | exact HB.out | apply below_alloc | apply pw_below_drewN | apply below_drew1) | exact HB.out)⟩
   ·replace c11 := Bool.eq_false_iff.mpr c11
    subst c11
    have H1 : ((lsolve_Solve.f a0 l1).bind fun bt102 => ((telamonlaw19_num.f bt102.2).bind fun t106 => (if t106 = 0 then (if (bt102.1.length : Int) = a0 then ((telamonlaw19_holds.f kj4 l1 bt102.1).bind fun t107 => (telamonlaw19_LsolveHolds.j1 kj4 a0 l1 a2 bt102.1 (!t107))) else (telamonlaw19_LsolveHolds.j1 kj4 a0 l1 a2 bt102.1 true)) else (some ((bt102.1.length : Int) == 0))))) = some r := by rw [if_neg (show ¬ (false = true) by decide)] at H; exact H
    clear H
    have H := H1
    clear H1
    replace H := Option.bind_eq_some_iff.mp H
    obtain ⟨⟨t102, t103⟩, A120, H⟩ := H
    replace H : ((telamonlaw19_num.f t103).bind fun t106 => (if t106 = 0 then (if (t102.length : Int) = a0 then ((telamonlaw19_holds.f kj4 l1 t102).bind fun t107 => (telamonlaw19_LsolveHolds.j1 kj4 a0 l1 a2 t102 (!t107))) else (telamonlaw19_LsolveHolds.j1 kj4 a0 l1 a2 t102 true)) else (some ((t102.length : Int) == 0)))) = some r := H
    have A12 := Aside0.mk A120
    clear A120
    replace H := Option.bind_eq_some_iff.mp H
    obtain ⟨t106, A130, H⟩ := H
    replace H : (if t106 = 0 then (if (t102.length : Int) = a0 then ((telamonlaw19_holds.f kj4 l1 t102).bind fun t107 => (telamonlaw19_LsolveHolds.j1 kj4 a0 l1 a2 t102 (!t107))) else (telamonlaw19_LsolveHolds.j1 kj4 a0 l1 a2 t102 true)) else (some ((t102.length : Int) == 0))) = some r := H
    have A13 := Aside0.mk A130
    clear A130
    by_cases c14 : t106 = 0
    ·rw [if_pos c14] at H
     have c14b0 : (t106 == 0) = true := beq_iff_eq.mpr c14
     have c14b1 : (t106 != 0) = false := bne_eq_false_iff_eq.mpr c14
     clear c14
     have HC15 := Aside0.mk H
     clear H
     go_upto_region 7 with (first | ((with_reducible refine gate_callee (f := 29) rfl ?_); refine goesL_ (some 35) rfl rfl Try.func29 (by kernel_rfl) rfl #[.int .i64 a0, .slice A1 l1.length c1] rfl (by (try simp only [List.map_toArray, List.map_cons, List.map_nil]); first | done | rfl | (simp only [List.length_drop, List.length_take]; rfl)) ?_; (with_reducible refine (lsolve_Solve.calls a0 _ _ l1 t102 t103 _ ?side1 ?side2 A12.out).mono ?_); (case side1 => repeat (first | exact (Kd.C_below HR1.out HB.out) | (with_reducible refine Kd.C_alloc ?_ _) | (with_reducible refine Kd.C_drewN ?_ _) | (with_reducible refine Kd.C_drew ?_))); (case side2 => exact HC1.out); rintro e w16 ⟨v104, rfl, ho0, hb⟩; refine ⟨_, rfl, ?_⟩; have HO105 := Aside0.mk (Kd.R_lower ho0 (below_size (bl_ HB))); replace HB := hs_ HB hb; (try clear hb); (try clear hb2); (try clear hk); (try clear hi); (try clear ho0)) | ((with_reducible refine gate_callee (f := 31) rfl ?_); refine goesL_ (some 39) rfl rfl Try.func31 (by kernel_rfl) rfl #[.int .i64 t103] rfl (by (try simp only [List.map_toArray, List.map_cons, List.map_nil]); first | done | rfl | (simp only [List.length_drop, List.length_take]; rfl)) ?_; (with_reducible refine (telamonlaw19_num.calls t103 t106 _ A13.out).mono ?_); rintro e w' ⟨rfl, ⟨nd, rfl⟩⟩; refine ⟨_, rfl, ?_⟩))
     (try simp only [Act.put, List.setIfInBounds_toArray, List.set_cons_zero, List.set_cons_succ])
     go_cut [53] (fun v53 wc => ∃ (kq : Nat) (x53_14 : Bool), v53 = .bool x53_14 ∧ Aside0 (telamonlaw19_LsolveHolds.j1 kq a0 l1 a2 t102 x53_14 = some r) ∧ Aside0 (kq ≤ kj4) ∧ Aside0 (Kd.R (Kd.int .i64) 3 wc w.heap.size (fun _ => True) v104 t102) ∧ Aside0 (Below w.heap.size w wc))
     case first =>
      have H := HC15.out
      clear HC15
      by_cases c17 : (t102.length : Int) = a0
      ·rw [if_pos c17] at H
       have c17b0 : ((t102.length : Int) == a0) = true := beq_iff_eq.mpr c17
       have c17b1 : ((t102.length : Int) != a0) = false := bne_eq_false_iff_eq.mpr c17
       clear c17
       (first | rw [c17b0] | (simp only [i64_w, i32_w]; rw [c17b0]) | skip)
       replace H := Option.bind_eq_some_iff.mp H
       obtain ⟨t107, A180, H⟩ := H
       replace H : (telamonlaw19_LsolveHolds.j1 kj4 a0 l1 a2 t102 (!t107)) = some r := H
       have A18 := Aside0.mk A180
       clear A180
       have H' := Aside0.mk H
       clear H
       obtain ⟨Ao19, co19, eo19⟩ := Kd.R_slice HO105.out
       subst eo19
       go_wp2_with (first | (go_at_call 32; (with_reducible refine (telamonlaw19_holds.calls kj4 _ _ l1 _ _ t102 t107 _ ?side1 ?side2 ?side3 ?side4 A18.out).mono ?_); (case side1 => repeat (first | exact (Kd.C_below HR1.out HB.out) | (with_reducible refine Kd.C_alloc ?_ _) | (with_reducible refine Kd.C_drewN ?_ _) | (with_reducible refine Kd.C_drew ?_))); (case side2 => exact HC1.out); (case side3 => repeat (first | exact (Kd.R_reads' HO105.out).2.2 | (with_reducible refine Kd.C_alloc ?_ _) | (with_reducible refine Kd.C_drewN ?_ _) | (with_reducible refine Kd.C_drew ?_))); (case side4 => exact (Kd.R_reads' HO105.out).2.1); rintro e w20 ⟨rfl, hb⟩; replace HO105 := Aside0.mk (Kd.R_below (rl_ HO105) hb); replace HB := hs_ HB hb; (try clear hb); (try clear hb2); (try clear hk); (try clear hi)))
       go_meet
       case rel => exact ⟨_, (!t107), (by first | rfl | (simp; done) | (simp [*]; done)), H', ⟨by have := HJ4.out; first | omega | exact Nat.le_refl _⟩, ⟨by (with_reducible repeat (first | apply Kd.R_alloc | apply Kd.R_drewN | apply Kd.R_drew)); exact HO105.out⟩, ⟨by repeat (first | (with_reducible first | exact HB.out | apply below_alloc | apply pw_below_drewN | apply below_drew1) | exact HB.out)⟩⟩
      ·rw [if_neg c17] at H
       have c17b0 : ((t102.length : Int) == a0) = false := beq_eq_false_iff_ne.mpr c17
       have c17b1 : ((t102.length : Int) != a0) = true := bne_iff_ne.mpr c17
       (first | rw [c17b0] | (simp only [i64_w, i32_w]; rw [c17b0]) | skip)
       have H' := Aside0.mk H
       clear H
       obtain ⟨Ao21, co21, eo21⟩ := Kd.R_slice HO105.out
       subst eo21
       go_wp2
       go_meet
       case rel => exact ⟨_, (true), (by first | rfl | (simp; done) | (simp [*]; done)), H', ⟨by have := HJ4.out; first | omega | exact Nat.le_refl _⟩, ⟨by (with_reducible repeat (first | apply Kd.R_alloc | apply Kd.R_drewN | apply Kd.R_drew)); exact HO105.out⟩, ⟨by repeat (first | (with_reducible first | exact HB.out | apply below_alloc | apply pw_below_drewN | apply below_drew1) | exact HB.out)⟩⟩
     case rest =>
      clear HC15
      (try clear c1); (try clear c2); (try clear p2); (try clear c3); (try clear c7); (try clear c8); (try clear c8b0); (try clear c9); (try clear c9b0); (try clear c10); (try clear c10b0); (try clear c10b1); (try clear c11); (try clear c14); (try clear c14b0); (try clear c14b1); (try clear c17); (try clear c17b0); (try clear c17b1); (try clear p2)
      obtain ⟨kq, x53_14, rfl, HA, HJ14, HO_8, HB⟩ := hcut
      cases kq with
      | zero => exact absurd HA.out (by simp [telamonlaw19_LsolveHolds.j1])
      | succ kj14 =>
       have H := HA.out
       clear HA
       simp only [telamonlaw19_LsolveHolds.j1] at H
       by_cases c22 : x53_14 = true
       ·subst c22
        have H1 : (some false) = some r := by rw [if_pos rfl] at H; exact H
        clear H
        have H := H1
        clear H1
        obtain rfl := Option.some.inj H
        exact absurd hrt.out (by decide)
       ·replace c22 := Bool.eq_false_iff.mpr c22
        subst c22
        have H1 : (if a0 = 0 then (none) else (if 0 ≤ (Int.tmod a2 a0) then (if (Int.tmod a2 a0) < (t102.length : Int) then (if (rd t102 (Int.tmod a2 a0)) = 0 then (some true) else ((telamonlaw19_holds.f kj14 l1 (t102.set ((Int.tmod a2 a0) : Int).toNat (wrap64 ((rd t102 (Int.tmod a2 a0)) - 1)))).bind fun t111 => (some (!t111)))) else (none)) else (none))) = some r := by rw [if_neg (show ¬ (false = true) by decide)] at H; exact H
        clear H
        have H := H1
        clear H1
        by_cases c23 : a0 = 0
        ·rw [if_pos c23] at H
         exact absurd H (by simp)
        ·rw [if_neg c23] at H
         have c23b0 : (a0 == 0) = false := beq_eq_false_iff_ne.mpr c23
         have c23b1 : (a0 != 0) = true := bne_iff_ne.mpr c23
         obtain ⟨ji24, hji24⟩ : ∃ j_ : Int, (Int.tmod a2 a0) = j_ := ⟨_, rfl⟩
         replace H : (if 0 ≤ (ji24) then (if (ji24) < (t102.length : Int) then (if (rd t102 (ji24)) = 0 then (some true) else ((telamonlaw19_holds.f kj14 l1 (t102.set ((ji24) : Int).toNat (wrap64 ((rd t102 (ji24)) - 1)))).bind fun t111 => (some (!t111)))) else (none)) else (none)) = some r := by first | (rw [hji24] at H; exact H) | (simp only [hji24] at H ⊢; exact H)
         by_cases c25 : 0 ≤ (ji24)
         ·rw [if_pos c25] at H
          have c25b0 : decide (0 ≤ (ji24)) = true := decide_eq_true c25
          clear c25
          by_cases c26 : (ji24) < (t102.length : Int)
          ·rw [if_pos c26] at H
           have c26b0 : decide ((ji24) < (t102.length : Int)) = true := decide_eq_true c26
           clear c26
           by_cases c27 : (rd t102 (ji24)) = 0
           ·rw [if_pos c27] at H
            have c27b0 : ((rd t102 (ji24)) == 0) = true := beq_iff_eq.mpr c27
            have c27b1 : ((rd t102 (ji24)) != 0) = false := bne_eq_false_iff_eq.mpr c27
            clear c27
            obtain rfl := Option.some.inj H
            obtain ⟨Ao28, co28, eo28⟩ := Kd.R_slice HO_8.out
            subst eo28
            have p108 : 0 ≤ ((ji24) : Int) := of_decide_eq_true (by first | (with_reducible assumption) | assumption)
            have q108 : (ji24) < (t102.length : Int) := of_decide_eq_true (by first | (with_reducible assumption) | assumption)
            obtain ⟨ad108, e108, hx108_0⟩ := Kd.at_int (Kd.R_reads' HO_8.out).2.2 (ji24) p108 q108
            cases e108
            replace p108 := eq_true p108
            replace q108 := eq_true q108
            go_wp2
            go_ret
            exact ⟨by first | rfl | (simp [errW_none, errW_some] <;> rfl) | (simp only [← hji24]; first | rfl | (simp [errW_none, errW_some] <;> rfl)) | (simp [*, errW_none, errW_some] <;> rfl), by repeat (first | (with_reducible first | exact HB.out | apply below_alloc | apply pw_below_drewN | apply below_drew1) | exact HB.out)⟩
           ·rw [if_neg c27] at H
            have c27b0 : ((rd t102 (ji24)) == 0) = false := beq_eq_false_iff_ne.mpr c27
            have c27b1 : ((rd t102 (ji24)) != 0) = true := bne_iff_ne.mpr c27
            obtain ⟨y110, hy110⟩ : ∃ y_ : List Int, y_ = (t102.set ((ji24) : Int).toNat (wrap64 ((rd t102 (ji24)) - 1))) := ⟨_, rfl⟩
            replace H : ((telamonlaw19_holds.f kj14 l1 y110).bind fun t111 => (some (!t111))) = some r := by first | (rw [hy110]; with_reducible exact H) | (have H2_ := (Option.bind_some _ _).symm.trans H; rw [hy110]; with_reducible exact H2_) | (have H2_ := (Option.bind_some _ _).symm.trans H; with_reducible exact H2_) | with_reducible exact H | (rw [hy110]; exact H) | exact H
            have Ny110 := Aside0.mk hy110
            clear hy110
            replace H := Option.bind_eq_some_iff.mp H
            obtain ⟨t111, A300, H⟩ := H
            replace H : (some (!t111)) = some r := H
            have A30 := Aside0.mk A300
            clear A300
            obtain rfl := Option.some.inj H
            obtain ⟨Ao31, co31, eo31⟩ := Kd.R_slice HO_8.out
            subst eo31
            have p108 : 0 ≤ ((ji24) : Int) := of_decide_eq_true (by first | (with_reducible assumption) | assumption)
            have q108 : (ji24) < (t102.length : Int) := of_decide_eq_true (by first | (with_reducible assumption) | assumption)
            obtain ⟨ad108, e108, hx108_0⟩ := Kd.at_int (Kd.R_reads' HO_8.out).2.2 (ji24) p108 q108
            cases e108
            replace p108 := eq_true p108
            replace q108 := eq_true q108
            have p109 : 0 ≤ ((ji24) : Int) := of_decide_eq_true (by first | (with_reducible assumption) | assumption)
            have q109 : (ji24) < (t102.length : Int) := of_decide_eq_true (by first | (with_reducible assumption) | assumption)
            obtain ⟨ad109, e109, hx109_0⟩ := Kd.at_int (Kd.R_reads' HO_8.out).2.2 (ji24) p109 q109
            obtain rfl : ad108 = ad109 := (by injection e109)
            replace p109 := eq_true p109
            replace q109 := eq_true q109
            have p29 : 0 ≤ ((ji24) : Int) := of_decide_eq_true (by first | (with_reducible assumption) | assumption)
            have q29 : ((ji24) : Int) < ((t102.length : Int) : Int) := of_decide_eq_true (by first | (with_reducible assumption) | assumption)
            obtain ⟨go29, co29, eo29, gb29, gl29, cl29, HG29⟩ := Kd.R_form HO_8.out (by omega)
            (first | cases eo29 | (injection eo29 with ea_ en_ ec_; (first | subst ea_ | (injection ea_ with ea_; subst ea_)); subst ec_; clear en_))
            have GB29 := Aside0.mk gb29
            have GG29 := Aside0.mk HG29
            clear gb29 gl29 HG29
            (first | simp only [add_plain] at hx108_0 | skip)
            (first | simp only [add_plain] at hx109_0 | skip)
            obtain ⟨hx29_0, hf29_0⟩ := Kd.R_celln 0 HO_8.out ((ji24) : Int) p29 q29
            replace p29 := eq_true p29
            replace q29 := eq_true q29
            have HP32 := Kd.R_putg HO_8.out ((ji24) : Int) (wrap64 ((rd t102 (ji24)) - 1))
            go_wp2_with (first | ((with_reducible refine gate_store (t := 3) (p := 67) rfl ?_); refine store_event (t := 3) (p := 67) (v := ?vo_w33) (w1 := (wc.setCell ⟨go29, ((ji24) : Int).toNat, none⟩ (.int .i64 (wrap64 ((rd t102 (ji24)) - 1))))) ?hg ?ho ?hn ?hr ?_; (case ho => rfl); (case hg => rfl); (case hn => rfl); (case hr => first | (go_simp; done) | (go_simp; rfl)); intro w33 hw; have hg : wc.grownBy w33 (some go29) := (by rw [hw]; exact HP32.2); have hp_ : Kd.R (Kd.int .i64) 3 w33 w.heap.size (fun _ => True) (.slice (some ⟨go29, 0, none⟩) t102.length co31) y110 := (by rw [hw, Ny110.out]; exact HP32.1); clear HP32; replace HO_8 := Aside0.mk (hp_); replace HB := Aside0.mk ((by rw [hw]; exact below_set (HB.out) GB29.out : Below w.heap.size w w33)); clear hg hw hp_) | ((with_reducible refine gate_callee (f := 32) rfl ?_); refine goesL_ (some 70) rfl rfl Try.func32 (by kernel_rfl) rfl #[.slice A1 l1.length c1, .slice (some ⟨go29, 0, none⟩) y110.length co31] rfl (by (try simp only [List.map_toArray, List.map_cons, List.map_nil]); first | done | (rw [show y110.length = t102.length from (Kd.R_reads' HO_8.out).1.symm] <;> rfl) | rfl | (simp only [List.length_drop, List.length_take]; rfl)) ?_; (with_reducible refine (telamonlaw19_holds.calls kj14 _ _ l1 _ _ y110 t111 _ ?side1 ?side2 ?side3 ?side4 A30.out).mono ?_); (case side1 => repeat (first | exact (Kd.C_below HR1.out HB.out) | (with_reducible refine Kd.C_alloc ?_ _) | (with_reducible refine Kd.C_drewN ?_ _) | (with_reducible refine Kd.C_drew ?_))); (case side2 => exact HC1.out); (case side3 => repeat (first | exact (Kd.R_reads' HO_8.out).2.2 | (with_reducible refine Kd.C_alloc ?_ _) | (with_reducible refine Kd.C_drewN ?_ _) | (with_reducible refine Kd.C_drew ?_))); (case side4 => rw [show y110.length = t102.length from (Kd.R_reads' HO_8.out).1.symm]; exact (Kd.R_reads' HO_8.out).2.1); rintro e w34 ⟨rfl, hb⟩; refine ⟨_, rfl, ?_⟩; replace HO_8 := Aside0.mk (Kd.R_below (rl_ HO_8) hb); replace HB := hs_ HB hb; (try clear hb); (try clear hb2); (try clear hk); (try clear hi)))
            go_ret
            exact ⟨by first | rfl | (simp [errW_none, errW_some] <;> rfl) | (simp only [← hji24]; first | rfl | (simp [errW_none, errW_some] <;> rfl)) | (simp [*, errW_none, errW_some] <;> rfl), by repeat (first | (with_reducible first | exact HB.out | apply below_alloc | apply pw_below_drewN | apply below_drew1) | exact HB.out)⟩
          ·rw [if_neg c26] at H
           exact absurd H (by simp)
         ·rw [if_neg c25] at H
          exact absurd H (by simp)
    ·rw [if_neg c14] at H
     have c14b0 : (t106 == 0) = false := beq_eq_false_iff_ne.mpr c14
     have c14b1 : (t106 != 0) = true := bne_iff_ne.mpr c14
     obtain rfl := Option.some.inj H
     go_wp2_with (first | ((with_reducible refine gate_callee (f := 29) rfl ?_); refine goesL_ (some 35) rfl rfl Try.func29 (by kernel_rfl) rfl #[.int .i64 a0, .slice A1 l1.length c1] rfl (by (try simp only [List.map_toArray, List.map_cons, List.map_nil]); first | done | rfl | (simp only [List.length_drop, List.length_take]; rfl)) ?_; (with_reducible refine (lsolve_Solve.calls a0 _ _ l1 t102 t103 _ ?side1 ?side2 A12.out).mono ?_); (case side1 => repeat (first | exact (Kd.C_below HR1.out HB.out) | (with_reducible refine Kd.C_alloc ?_ _) | (with_reducible refine Kd.C_drewN ?_ _) | (with_reducible refine Kd.C_drew ?_))); (case side2 => exact HC1.out); rintro e w35 ⟨v104, rfl, ho0, hb⟩; refine ⟨_, rfl, ?_⟩; have HO105 := Aside0.mk (Kd.R_lower ho0 (below_size (bl_ HB))); replace HB := hs_ HB hb; (try clear hb); (try clear hb2); (try clear hk); (try clear hi); (try clear ho0)) | ((with_reducible refine gate_callee (f := 31) rfl ?_); refine goesL_ (some 39) rfl rfl Try.func31 (by kernel_rfl) rfl #[.int .i64 t103] rfl (by (try simp only [List.map_toArray, List.map_cons, List.map_nil]); first | done | rfl | (simp only [List.length_drop, List.length_take]; rfl)) ?_; (with_reducible refine (telamonlaw19_num.calls t103 t106 _ A13.out).mono ?_); rintro e w' ⟨rfl, ⟨nd, rfl⟩⟩; refine ⟨_, rfl, ?_⟩; obtain ⟨Ao36, co36, eo36⟩ := Kd.R_slice HO105.out; subst eo36))
     go_ret
     exact ⟨by first | rfl | (simp [errW_none, errW_some] <;> rfl) | (simp [*, errW_none, errW_some] <;> rfl), by repeat (first | (with_reducible first | exact HB.out | apply below_alloc | apply pw_below_drewN | apply below_drew1) | exact HB.out)⟩

end Go.Proofs.Ytbopadglafbdjaa.PX
