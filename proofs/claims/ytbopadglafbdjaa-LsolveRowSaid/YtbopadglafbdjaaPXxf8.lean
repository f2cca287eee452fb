-- by wip/tools/gprint.py of this session over the kit's print; given functions are this session's own text
import Derived.Test.YtbopadglafbdjaaPXx0
import Derived.Test.YtbopadglafbdjaaPXxf29
import Derived.Test.YtbopadglafbdjaaPXxf31
import Derived.Test.YtbopadglafbdjaaPXxf33
import Derived.Test.YtbopadglafbdjaaPXxf28
namespace Go.Proofs.Ytbopadglafbdjaa.PX
open Go.RowKit Go.Proofs.YtbopadglafbdjaaW.PrintWords Go.Proofs.YtbopadglafbdjaaW.PrintLast Go.Proofs.YtbopadglafbdjaaW.PrintMore
attribute [local go_sem] max2_int min2_int max_two min_two max_three min_three max_four min_four   -- for this text's walks alone
set_option linter.unusedVariables false
set_option linter.unusedSimpArgs false

/-! ### telamonlaw19_LsolveRow: function 8 -/
mutual
def telamonlaw19_LsolveRow.j0 : Nat → Int → Int → Bool → Bool → Bool → Option (Bool)
 | 0, _, _, _, _, _ => none
 | k + 1, x0, x1, x2, x7, x31 => if x31 = true then (some x7) else ((telamonlaw1_V.f 0 0).bind fun bt102 => (telamonlaw19_LsolveRow.l0 k x0 x1 x2 (([(⟨(⟨x1, ([] : List (S62))⟩ : S43), (⟨bt102.1, bt102.2⟩ : S43)⟩ : S45)] : List (S45))) 0))
def telamonlaw19_LsolveRow.l0 : Nat → Int → Int → Bool → List (S45) → Int → Option (Bool)
 | 0, _, _, _, _, _ => none
 | k + 1, x0, x1, x2, x8, x9 => if (wrap64 (x9 + 1)) < x0 then ((telamonlaw1_V.f x9 1).bind fun bt109 => ((telamonlaw1_V.f (wrap64 (x9 + 1)) 0).bind fun bt113 => (if x8.length < 2199023255552 then (telamonlaw19_LsolveRow.l0 k x0 x1 x2 (x8 ++ [(⟨(⟨bt109.1, bt109.2⟩ : S43), (⟨bt113.1, bt113.2⟩ : S43)⟩ : S45)]) (wrap64 (x9 + 1))) else (none)))) else (if x2 = true then ((telamonlaw1_V.f (wrap64 (x0 - 1)) 1).bind fun bt120 => ((telamonlaw1_V.f 0 0).bind fun bt124 => (if x8.length < 2199023255552 then (telamonlaw19_LsolveRow.j2 k x0 x1 x2 (x8 ++ [(⟨(⟨bt120.1, bt120.2⟩ : S43), (⟨bt124.1, bt124.2⟩ : S43)⟩ : S45)])) else (none)))) else (telamonlaw19_LsolveRow.j2 k x0 x1 x2 x8))
def telamonlaw19_LsolveRow.j2 : Nat → Int → Int → Bool → List (S45) → Option (Bool)
 | 0, _, _, _, _ => none
 | k + 1, x0, x1, x2, x8 => (lsolve_Solve.f x0 x8).bind fun bt131 => (if x2 = true then ((telamonlaw19_num.f bt131.2).bind fun t135 => (if t135 = 52 then (some ((bt131.1.length : Int) == 0)) else (some false))) else (telamonlaw19_LsolveRow.l1 k x0 x1 bt131.1 bt131.2 0))
def telamonlaw19_LsolveRow.l1 : Nat → Int → Int → List Int → Int → Int → Option (Bool)
 | 0, _, _, _, _, _ => none
 | k + 1, x0, x1, x10, x11, x12 => if x12 < (x10.length : Int) then (if 0 ≤ x12 then (if (rd x10 x12) = (wrap64 (x1 + x12)) then (telamonlaw19_LsolveRow.l1 k x0 x1 x10 x11 (wrap64 (x12 + 1))) else (some false)) else (none)) else ((telamonlaw19_num.f x11).bind fun t136 => (if t136 = 0 then (some ((x10.length : Int) == x0)) else (some false)))
end
def telamonlaw19_LsolveRow.f (k : Nat) (a0 : Int) (a1 : Int) (a2 : Bool) : Option (Bool) := (telamonlaw19_alive.f).bind fun t101 => (if t101 = true then (if a0 < 1 then (telamonlaw19_LsolveRow.j0 k a0 a1 a2 t101 true) else (if a0 > 100 then (telamonlaw19_LsolveRow.j0 k a0 a1 a2 t101 true) else (if a1 < 0 then (telamonlaw19_LsolveRow.j0 k a0 a1 a2 t101 true) else (telamonlaw19_LsolveRow.j0 k a0 a1 a2 t101 (decide (a1 > 500)))))) else (telamonlaw19_LsolveRow.j0 k a0 a1 a2 t101 true))
theorem telamonlaw19_LsolveRow.mono_l : ∀ k, (∀ y0 y1 y2 y3 y4, LeO (telamonlaw19_LsolveRow.j0 k y0 y1 y2 y3 y4) (telamonlaw19_LsolveRow.j0 (k + 1) y0 y1 y2 y3 y4)) ∧ (∀ y0 y1 y2 y3 y4, LeO (telamonlaw19_LsolveRow.l0 k y0 y1 y2 y3 y4) (telamonlaw19_LsolveRow.l0 (k + 1) y0 y1 y2 y3 y4)) ∧ (∀ y0 y1 y2 y3, LeO (telamonlaw19_LsolveRow.j2 k y0 y1 y2 y3) (telamonlaw19_LsolveRow.j2 (k + 1) y0 y1 y2 y3)) ∧ (∀ y0 y1 y2 y3 y4, LeO (telamonlaw19_LsolveRow.l1 k y0 y1 y2 y3 y4) (telamonlaw19_LsolveRow.l1 (k + 1) y0 y1 y2 y3 y4))
 | 0 => ⟨fun _ _ _ _ _ r h => by simp [telamonlaw19_LsolveRow.j0] at h, fun _ _ _ _ _ r h => by simp [telamonlaw19_LsolveRow.l0] at h, fun _ _ _ _ r h => by simp [telamonlaw19_LsolveRow.j2] at h, fun _ _ _ _ _ r h => by simp [telamonlaw19_LsolveRow.l1] at h⟩
 | k + 1 => by
  obtain ⟨ih0, ih1, ih2, ih3⟩ := telamonlaw19_LsolveRow.mono_l k
  refine ⟨?_, ?_, ?_, ?_⟩
  ·intro y0 y1 y2 y3 y4
   unfold telamonlaw19_LsolveRow.j0
   repeat' first
   | (with_reducible exact ih0 _ _ _ _ _)
   | (with_reducible exact ih1 _ _ _ _ _)
   | (with_reducible exact ih2 _ _ _ _)
   | (with_reducible exact ih3 _ _ _ _ _)
   | (with_reducible exact LeO.refl _)
   | (with_reducible exact LeO.none _)
   | (with_reducible refine LeO.ite ?_ ?_)
   | (with_reducible refine LeO.bind ?_ (fun _ => ?_))
   | exact ih0 _ _ _ _ _
   | exact ih1 _ _ _ _ _
   | exact ih2 _ _ _ _
   | exact ih3 _ _ _ _ _
   | exact LeO.none _
   | refine LeO.ite ?_ ?_
   | refine LeO.bind ?_ (fun _ => ?_)
  ·intro y0 y1 y2 y3 y4
   unfold telamonlaw19_LsolveRow.l0
   repeat' first
   | (with_reducible exact ih0 _ _ _ _ _)
   | (with_reducible exact ih1 _ _ _ _ _)
   | (with_reducible exact ih2 _ _ _ _)
   | (with_reducible exact ih3 _ _ _ _ _)
   | (with_reducible exact LeO.refl _)
   | (with_reducible exact LeO.none _)
   | (with_reducible refine LeO.ite ?_ ?_)
   | (with_reducible refine LeO.bind ?_ (fun _ => ?_))
   | exact ih0 _ _ _ _ _
   | exact ih1 _ _ _ _ _
   | exact ih2 _ _ _ _
   | exact ih3 _ _ _ _ _
   | exact LeO.none _
   | refine LeO.ite ?_ ?_
   | refine LeO.bind ?_ (fun _ => ?_)
  ·intro y0 y1 y2 y3
   unfold telamonlaw19_LsolveRow.j2
   repeat' first
   | (with_reducible exact ih0 _ _ _ _ _)
   | (with_reducible exact ih1 _ _ _ _ _)
   | (with_reducible exact ih2 _ _ _ _)
   | (with_reducible exact ih3 _ _ _ _ _)
   | (with_reducible exact LeO.refl _)
   | (with_reducible exact LeO.none _)
   | (with_reducible refine LeO.ite ?_ ?_)
   | (with_reducible refine LeO.bind ?_ (fun _ => ?_))
   | exact ih0 _ _ _ _ _
   | exact ih1 _ _ _ _ _
   | exact ih2 _ _ _ _
   | exact ih3 _ _ _ _ _
   | exact LeO.none _
   | refine LeO.ite ?_ ?_
   | refine LeO.bind ?_ (fun _ => ?_)
  ·intro y0 y1 y2 y3 y4
   unfold telamonlaw19_LsolveRow.l1
   repeat' first
   | (with_reducible exact ih0 _ _ _ _ _)
   | (with_reducible exact ih1 _ _ _ _ _)
   | (with_reducible exact ih2 _ _ _ _)
   | (with_reducible exact ih3 _ _ _ _ _)
   | (with_reducible exact LeO.refl _)
   | (with_reducible exact LeO.none _)
   | (with_reducible refine LeO.ite ?_ ?_)
   | (with_reducible refine LeO.bind ?_ (fun _ => ?_))
   | exact ih0 _ _ _ _ _
   | exact ih1 _ _ _ _ _
   | exact ih2 _ _ _ _
   | exact ih3 _ _ _ _ _
   | exact LeO.none _
   | refine LeO.ite ?_ ?_
   | refine LeO.bind ?_ (fun _ => ?_)
theorem telamonlaw19_LsolveRow.mono : ∀ a0 a1 a2 k, LeO (telamonlaw19_LsolveRow.f k a0 a1 a2) (telamonlaw19_LsolveRow.f (k + 1) a0 a1 a2) := by
 intro a0 a1 a2 k
 obtain ⟨ih0, ih1, ih2, ih3⟩ := telamonlaw19_LsolveRow.mono_l k
 unfold telamonlaw19_LsolveRow.f
 repeat' first
   | (with_reducible exact ih0 _ _ _ _ _)
   | (with_reducible exact ih1 _ _ _ _ _)
   | (with_reducible exact ih2 _ _ _ _)
   | (with_reducible exact ih3 _ _ _ _ _)
   | (with_reducible exact LeO.refl _)
   | (with_reducible exact LeO.none _)
   | (with_reducible refine LeO.ite ?_ ?_)
   | (with_reducible refine LeO.bind ?_ (fun _ => ?_))
   | exact ih0 _ _ _ _ _
   | exact ih1 _ _ _ _ _
   | exact ih2 _ _ _ _
   | exact ih3 _ _ _ _ _
   | exact LeO.none _
   | refine LeO.ite ?_ ?_
   | refine LeO.bind ?_ (fun _ => ?_)
set_option maxHeartbeats 8000000 in
set_option maxRecDepth 100000 in
theorem telamonlaw19_LsolveRow.calls (k : Nat) (a0 : Int) (a1 : Int) (a2 : Bool) (r : Bool) (w : World) (h : telamonlaw19_LsolveRow.f k a0 a1 a2 = some r) :
  Calls Try.prog 8 #[.int .i64 a0, .int .i64 a1, .bool a2] w fun e w' => e = .returned (.bool r) ∧ Below w.heap.size w w' := by
 have hu43 := Try.underlying43
 have hu45 := Try.underlying45
 have HB := Aside0.mk (Below.refl w.heap.size w)
 have H : ((telamonlaw19_alive.f).bind fun t101 => (if t101 = true then (if a0 < 1 then (telamonlaw19_LsolveRow.j0 k a0 a1 a2 t101 true) else (if a0 > 100 then (telamonlaw19_LsolveRow.j0 k a0 a1 a2 t101 true) else (if a1 < 0 then (telamonlaw19_LsolveRow.j0 k a0 a1 a2 t101 true) else (telamonlaw19_LsolveRow.j0 k a0 a1 a2 t101 (decide (a1 > 500)))))) else (telamonlaw19_LsolveRow.j0 k a0 a1 a2 t101 true))) = some r := h
 clear h
 replace H := Option.bind_eq_some_iff.mp H
 obtain ⟨t101, A40, H⟩ := H
 replace H : (if t101 = true then (if a0 < 1 then (telamonlaw19_LsolveRow.j0 k a0 a1 a2 t101 true) else (if a0 > 100 then (telamonlaw19_LsolveRow.j0 k a0 a1 a2 t101 true) else (if a1 < 0 then (telamonlaw19_LsolveRow.j0 k a0 a1 a2 t101 true) else (telamonlaw19_LsolveRow.j0 k a0 a1 a2 t101 (decide (a1 > 500)))))) else (telamonlaw19_LsolveRow.j0 k a0 a1 a2 t101 true)) = some r := H
 have A4 := Aside0.mk A40
 clear A40
 have HC5 := Aside0.mk H
 clear H
 go_enter Try.func8, Try.ntmps8
 go_upto_region 2 with (first | ((with_reducible refine gate_callee (f := 28) rfl ?_); refine goesL_ (some 13) rfl rfl Try.func28 (by kernel_rfl) rfl #[] rfl (by (try simp only [List.map_toArray, List.map_cons, List.map_nil]); first | done | rfl | (simp only [List.length_drop, List.length_take]; rfl)) ?_; (with_reducible refine (telamonlaw19_alive.calls  t101 _ A4.out).mono ?_); rintro e w6 ⟨rfl, hb⟩; refine ⟨_, rfl, ?_⟩; replace HB := hs_ HB hb; (try clear hb); (try clear hb2); (try clear hk); (try clear hi)))
 (try simp only [Act.put, List.setIfInBounds_toArray, List.set_cons_zero, List.set_cons_succ])
 go_cut [31] (fun v31 wc => ∃ (kq : Nat) (x31_4 : Bool), v31 = .bool x31_4 ∧ Aside0 (telamonlaw19_LsolveRow.j0 kq a0 a1 a2 t101 x31_4 = some r) ∧ Aside0 (kq ≤ k) ∧ Aside0 (Below w.heap.size w wc))
 case first =>
  have H := HC5.out
  clear HC5
  by_cases c7 : t101 = true
  ·subst c7
   have H1 : (if a0 < 1 then (telamonlaw19_LsolveRow.j0 k a0 a1 a2 true true) else (if a0 > 100 then (telamonlaw19_LsolveRow.j0 k a0 a1 a2 true true) else (if a1 < 0 then (telamonlaw19_LsolveRow.j0 k a0 a1 a2 true true) else (telamonlaw19_LsolveRow.j0 k a0 a1 a2 true (decide (a1 > 500)))))) = some r := by rw [if_pos rfl] at H; exact H
   clear H
   have H := H1
   clear H1
   by_cases c8 : a0 < 1
   ·rw [if_pos c8] at H
    have c8b0 : decide (a0 < 1) = true := decide_eq_true c8
    clear c8
    (first | rw [c8b0] | (simp only [i64_w, i32_w]; rw [c8b0]) | skip)
    have H' := Aside0.mk H
    clear H
    go_wp2
    go_meet
    case rel => exact ⟨_, (true), (by first | rfl | (simp; done) | (simp [*]; done)), H', ⟨by first | omega | exact Nat.le_refl _⟩, ⟨by repeat (first | (with_reducible first | exact HB.out | apply below_alloc | apply pw_below_drewN | apply below_drew1) | exact HB.out)⟩⟩
   ·rw [if_neg c8] at H
    have c8b0 : decide (a0 < 1) = false := decide_eq_false c8
    clear c8
    (first | rw [c8b0] | (simp only [i64_w, i32_w]; rw [c8b0]) | skip)
    by_cases c9 : a0 > 100
    ·rw [if_pos c9] at H
     have c9b0 : decide (100 < a0) = true := decide_eq_true c9
     clear c9
     have H' := Aside0.mk H
     clear H
     go_wp2
     go_meet
     case rel => exact ⟨_, (true), (by first | rfl | (simp; done) | (simp [*]; done)), H', ⟨by first | omega | exact Nat.le_refl _⟩, ⟨by repeat (first | (with_reducible first | exact HB.out | apply below_alloc | apply pw_below_drewN | apply below_drew1) | exact HB.out)⟩⟩
    ·rw [if_neg c9] at H
     have c9b0 : decide (100 < a0) = false := decide_eq_false c9
     clear c9
     by_cases c10 : a1 < 0
     ·rw [if_pos c10] at H
      have c10b0 : decide (a1 < 0) = true := decide_eq_true c10
      clear c10
      have H' := Aside0.mk H
      clear H
      go_wp2
      go_meet
      case rel => exact ⟨_, (true), (by first | rfl | (simp; done) | (simp [*]; done)), H', ⟨by first | omega | exact Nat.le_refl _⟩, ⟨by repeat (first | (with_reducible first | exact HB.out | apply below_alloc | apply pw_below_drewN | apply below_drew1) | exact HB.out)⟩⟩
     ·rw [if_neg c10] at H
      have c10b0 : decide (a1 < 0) = false := decide_eq_false c10
      clear c10
      have H' := Aside0.mk H
      clear H
      go_wp2
      go_meet
      case rel => exact ⟨_, (decide (a1 > 500)), (by first | rfl | (simp; done) | (simp [*]; done)), H', ⟨by first | omega | exact Nat.le_refl _⟩, ⟨by repeat (first | (with_reducible first | exact HB.out | apply below_alloc | apply pw_below_drewN | apply below_drew1) | exact HB.out)⟩⟩
  ·replace c7 := Bool.eq_false_iff.mpr c7
   subst c7
   have H1 : (telamonlaw19_LsolveRow.j0 k a0 a1 a2 false true) = some r := by rw [if_neg (show ¬ (false = true) by decide)] at H; exact H
   clear H
   have H := H1
   clear H1
   have H' := Aside0.mk H
   clear H
   go_wp2
   go_meet
   case rel => exact ⟨_, (true), (by first | rfl | (simp; done) | (simp [*]; done)), H', ⟨by first | omega | exact Nat.le_refl _⟩, ⟨by repeat (first | (with_reducible first | exact HB.out | apply below_alloc | apply pw_below_drewN | apply below_drew1) | exact HB.out)⟩⟩
 case rest =>
  clear HC5
  (try clear c1); (try clear c2); (try clear p2); (try clear c7); (try clear c8); (try clear c8b0); (try clear c9); (try clear c9b0); (try clear c10); (try clear c10b0)
  obtain ⟨kq, x31_4, rfl, HA, HJ4, HB⟩ := hcut
  cases kq with
  | zero => exact absurd HA.out (by simp [telamonlaw19_LsolveRow.j0])
  | succ kj4 =>
   have H := HA.out
   clear HA
   simp only [telamonlaw19_LsolveRow.j0] at H
   by_cases c11 : x31_4 = true
   ·subst c11
    have H1 : (some t101) = some r := by rw [if_pos rfl] at H; exact H
    clear H
    have H := H1
    clear H1
    obtain rfl := Option.some.inj H
    go_wp2
    go_ret
    exact ⟨by first | rfl | (simp [errW_none, errW_some] <;> rfl) | (simp [*, errW_none, errW_some] <;> rfl), by repeat (first | (with_reducible first | exact HB.out | apply below_alloc | apply pw_below_drewN | apply below_drew1) | exact HB.out)⟩
   ·replace c11 := Bool.eq_false_iff.mpr c11
    subst c11
    have H1 : ((telamonlaw1_V.f 0 0).bind fun bt102 => (telamonlaw19_LsolveRow.l0 kj4 a0 a1 a2 (([(⟨(⟨a1, ([] : List (S62))⟩ : S43), (⟨bt102.1, bt102.2⟩ : S43)⟩ : S45)] : List (S45))) 0)) = some r := by rw [if_neg (show ¬ (false = true) by decide)] at H; exact H
    clear H
    have H := H1
    clear H1
    replace H := Option.bind_eq_some_iff.mp H
    obtain ⟨⟨t102, t103⟩, A120, H⟩ := H
    replace H : (telamonlaw19_LsolveRow.l0 kj4 a0 a1 a2 (([(⟨(⟨a1, ([] : List (S62))⟩ : S43), (⟨t102, t103⟩ : S43)⟩ : S45)] : List (S45))) 0) = some r := H
    have A12 := Aside0.mk A120
    clear A120
    obtain ⟨y106, hy106⟩ : ∃ y_ : List (S45), y_ = (([(⟨(⟨a1, ([] : List (S62))⟩ : S43), (⟨t102, t103⟩ : S43)⟩ : S45)] : List (S45))) := ⟨_, rfl⟩
    replace H : (telamonlaw19_LsolveRow.l0 kj4 a0 a1 a2 y106 0) = some r := by first | (rw [hy106]; with_reducible exact H) | (have H2_ := (Option.bind_some _ _).symm.trans H; rw [hy106]; with_reducible exact H2_) | (have H2_ := (Option.bind_some _ _).symm.trans H; with_reducible exact H2_) | with_reducible exact H | (rw [hy106]; exact H) | exact H
    have Ny106 := Aside0.mk hy106
    clear hy106
    have H' := Aside0.mk H
    clear H
    go_wp2_with (first | ((with_reducible refine gate_callee (f := 33) rfl ?_); refine goesL_ (some 35) rfl rfl Try.func33 (by kernel_rfl) rfl #[.int .i64 0, .int .i64 0] rfl (by (try simp only [List.map_toArray, List.map_cons, List.map_nil]); first | done | rfl | (simp only [List.length_drop, List.length_take]; rfl)) ?_; (with_reducible refine (telamonlaw1_V.calls 0 0 t102 t103 _ A12.out).mono ?_); rintro e w13 ⟨v104, rfl, ho0, hb⟩; refine ⟨_, rfl, ?_⟩; have HO105 := Aside0.mk (Kd.R_lower ho0 (below_size (bl_ HB))); replace HB := hs_ HB hb; (try clear hb); (try clear hb2); (try clear hk); (try clear hi); (try clear ho0); obtain ⟨Ao14, co14, eo14⟩ := Kd.R_slice HO105.out; subst eo14) | ((with_reducible refine gate_dst (N := 37) rfl ?_); (try (refine gate_guard (by rfl) ?_; dsimp only)); refine Kd.N_lit k45 _ 45 ?hg (N' := 37) ?hd (xs := ([(⟨(⟨a1, ([] : List (S62))⟩ : S43), (⟨t102, t103⟩ : S43)⟩ : S45)] : List (S45))) (inner := [.int .i64 a1, .slice none 0 0, .int .i64 t102, .slice Ao14 t103.length co14]) (ok := (fun _ => True)) (okp := (fun _ => True)) ?hr ?hp (fun _ hk => hk) ((show ∀ k_, w13.heap.size ≤ k_ → (fun _ => True) k_ from fun k_ hk => trivial) _ (Nat.le_refl _)) (Below.refl _ _) (Nat.le_refl _) (by simp) ?_; (case hd => rfl); (case hg => rfl); (case hr => first | (go_simp; done) | (go_simp; rfl)); (case hp => exact (Reps.c4 (show Kd.FK k45 _ _ (⟨(⟨a1, ([] : List (S62))⟩ : S43), (⟨t102, t103⟩ : S43)⟩ : S45) [.int .i64 a1, .slice none 0 0, .int .i64 t102, .slice Ao14 t103.length co14] from (k45_mkF _ _ (⟨(⟨a1, ([] : List (S62))⟩ : S43), (⟨t102, t103⟩ : S43)⟩ : S45) (Nat.le_refl _) (Kd.F_nil _ _ _) (Kd.R_reads' (Kd.R_mono (ok' := (fun _ => True)) (HO105.out) (fun k_ hk => trivial))).2.1 (Kd.R_F (Kd.R_mono (ok' := (fun _ => True)) (HO105.out) (fun k_ hk => trivial))))) (Reps.none _ _))); intro v107 w15 ho16 hb hg_ hnew_; clear hg_ hnew_; (first | rw [← Ny106.out] at ho16 | (simp only [Int.reduceToNat] at ho16; rw [← Ny106.out] at ho16)); have HO108 := Aside0.mk (Kd.N_lower ho16 (below_size (bl_ HB))); replace HB := hs_ HB hb; clear HO105; clear hb ho16))
    go_loopg [8, 9] kj4 (fun kq v8 v9 w' => ∃ (x8_2 : List (S45)) (x9_2 : Int), v9 = .int .i64 x9_2 ∧ Aside0 (telamonlaw19_LsolveRow.l0 kq a0 a1 a2 x8_2 x9_2 = some r) ∧ Aside0 (kq ≤ kj4) ∧ Aside0 (Kd.N k45 45 w' w.heap.size (fun _ => True) v8 x8_2) ∧ Aside0 (Below w.heap.size w w'))
    case atStart => exact ⟨(y106), (0), (by first | rfl | (simp; done) | (simp [*]; done)), H', ⟨Nat.le_refl _⟩, ⟨by (with_reducible repeat (first | apply Kd.N_alloc | apply Kd.N_drewN | apply Kd.N_drew)); exact HO108.out⟩, ⟨by repeat (first | (with_reducible first | exact HB.out | apply below_alloc | apply pw_below_drewN | apply below_drew1) | exact HB.out)⟩⟩
    case round =>
     clear H'
     (try clear c1); (try clear c2); (try clear p2); (try clear c3); (try clear c4); (try clear c7); (try clear c8); (try clear c8b0); (try clear c9); (try clear c9b0); (try clear c10); (try clear c10b0); (try clear c11); (try clear p2)
     obtain ⟨x8_2, x9_2, rfl, HA, HK2, HO_8, HB⟩ := hrel
     cases gk with
     | zero => exact absurd HA.out (by simp [telamonlaw19_LsolveRow.l0])
     | succ k2 =>
      have H := HA.out
      clear HA
      simp only [telamonlaw19_LsolveRow.l0] at H
      by_cases c17 : (wrap64 (x9_2 + 1)) < a0
      ·rw [if_pos c17] at H
       have c17b0 : decide ((wrap64 (x9_2 + 1)) < a0) = true := decide_eq_true c17
       clear c17
       replace H := Option.bind_eq_some_iff.mp H
       obtain ⟨⟨t109, t110⟩, A180, H⟩ := H
       replace H : ((telamonlaw1_V.f (wrap64 (x9_2 + 1)) 0).bind fun bt113 => (if x8_2.length < 2199023255552 then (telamonlaw19_LsolveRow.l0 k2 a0 a1 a2 (x8_2 ++ [(⟨(⟨t109, t110⟩ : S43), (⟨bt113.1, bt113.2⟩ : S43)⟩ : S45)]) (wrap64 (x9_2 + 1))) else (none))) = some r := H
       have A18 := Aside0.mk A180
       clear A180
       replace H := Option.bind_eq_some_iff.mp H
       obtain ⟨⟨t113, t114⟩, A190, H⟩ := H
       replace H : (if x8_2.length < 2199023255552 then (telamonlaw19_LsolveRow.l0 k2 a0 a1 a2 (x8_2 ++ [(⟨(⟨t109, t110⟩ : S43), (⟨t113, t114⟩ : S43)⟩ : S45)]) (wrap64 (x9_2 + 1))) else (none)) = some r := H
       have A19 := Aside0.mk A190
       clear A190
       by_cases c20 : x8_2.length < 2199023255552
       ·rw [if_pos c20] at H
        have LMc20 := Aside0.mk c20
        clear c20
        obtain ⟨y117, hy117⟩ : ∃ y_ : List (S45), y_ = (x8_2 ++ [(⟨(⟨t109, t110⟩ : S43), (⟨t113, t114⟩ : S43)⟩ : S45)]) := ⟨_, rfl⟩
        replace H : (telamonlaw19_LsolveRow.l0 k2 a0 a1 a2 y117 (wrap64 (x9_2 + 1))) = some r := by first | (rw [hy117]; with_reducible exact H) | (have H2_ := (Option.bind_some _ _).symm.trans H; rw [hy117]; with_reducible exact H2_) | (have H2_ := (Option.bind_some _ _).symm.trans H; with_reducible exact H2_) | with_reducible exact H | (rw [hy117]; exact H) | exact H
        have Ny117 := Aside0.mk hy117
        clear hy117
        have H' := Aside0.mk H
        clear H
        go_wp2_with (first | ((with_reducible refine gate_callee (f := 33) rfl ?_); refine goesL_ (some 46) rfl rfl Try.func33 (by kernel_rfl) rfl #[.int .i64 x9_2, .int .i64 1] rfl (by (try simp only [List.map_toArray, List.map_cons, List.map_nil]); first | done | rfl | (simp only [List.length_drop, List.length_take]; rfl)) ?_; (with_reducible refine (telamonlaw1_V.calls x9_2 1 t109 t110 _ A18.out).mono ?_); rintro e w21 ⟨v111, rfl, ho0, hb⟩; refine ⟨_, rfl, ?_⟩; have HO112 := Aside0.mk (Kd.R_lower ho0 (below_size (bl_ HB))); replace HO_8 := Aside0.mk (Kd.N_elder' (by (with_reducible repeat (first | apply Kd.N_alloc | apply Kd.N_drewN | apply Kd.N_drew)); exact HO_8.out) (Kd.R_base ho0) hb); replace HB := hs_ HB hb; (try clear hb); (try clear hb2); (try clear hk); (try clear hi); (try clear ho0)) | ((with_reducible refine gate_callee (f := 33) rfl ?_); refine goesL_ (some 49) rfl rfl Try.func33 (by kernel_rfl) rfl #[.int .i64 (wrap64 (x9_2 + 1)), .int .i64 0] rfl (by (try simp only [List.map_toArray, List.map_cons, List.map_nil]); first | done | rfl | (simp only [List.length_drop, List.length_take]; rfl)) ?_; (with_reducible refine (telamonlaw1_V.calls (wrap64 (x9_2 + 1)) 0 t113 t114 _ A19.out).mono ?_); rintro e w22 ⟨v115, rfl, ho0, hb⟩; refine ⟨_, rfl, ?_⟩; have HO116 := Aside0.mk (Kd.R_lower (Kd.R_new' ho0 (Kd.R_lt (rl_ HO112))) (below_size (bl_ HB))); replace HO_8 := Aside0.mk (Kd.N_elder' (by (with_reducible repeat (first | apply Kd.N_alloc | apply Kd.N_drewN | apply Kd.N_drew)); exact HO_8.out) (Kd.R_base ho0) hb); replace HO112 := Aside0.mk (Kd.R_elder' (rl_ HO112) (Kd.R_base ho0) hb); replace HB := hs_ HB hb; (try clear hb); (try clear hb2); (try clear hk); (try clear hi); (try clear ho0); obtain ⟨Ao23, co23, eo23⟩ := Kd.R_slice HO116.out; subst eo23; obtain ⟨Ao24, co24, eo24⟩ := Kd.R_slice HO112.out; subst eo24) | ((with_reducible refine gate_builtin (b := .append) (xs := #[.tmp 44, .tmp 51]) rfl ?_); (try (refine gate_guard (by rfl) ?_; dsimp only)); at_builtin; refine Kd.N_append k45 (w0 := w) w.heap.size rfl (.tmp 44) (.tmp 51) 40 45 (.agg #[(.int .i64 0), (.slice none 0 0), (.int .i64 0), (.slice none 0 0)]) 64 rfl Try.underlying40 info45 rfl (by decide) (by omega) u8 x8_2 (⟨(⟨t109, t110⟩ : S43), (⟨t113, t114⟩ : S43)⟩ : S45) [.int .i64 t109, .slice Ao24 t110.length co24, .int .i64 t113, .slice Ao23 t114.length co23] (fun _ => True) (fun k_ => ((fun _ => True)) k_ ∧ some k_ ≠ (u8 : Value).ownBlock) rfl rfl ?aP (fun _ hk => hk) ?aF ?aO ?aB ?aS ?aL ?_; (case aP => exact (k45_mkF _ _ (⟨(⟨t109, t110⟩ : S43), (⟨t113, t114⟩ : S43)⟩ : S45) (Kd.R_reads' (Kd.R_mono (ok' := (fun k_ => ((fun _ => True)) k_ ∧ some k_ ≠ (u8 : Value).ownBlock)) (Kd.R_apart' (HO112.out) (Kd.N_typed HO_8.out) (by decide)) (fun k_ hk => ⟨trivial, hk.2⟩))).2.1 (Kd.R_F (Kd.R_mono (ok' := (fun k_ => ((fun _ => True)) k_ ∧ some k_ ≠ (u8 : Value).ownBlock)) (Kd.R_apart' (HO112.out) (Kd.N_typed HO_8.out) (by decide)) (fun k_ hk => ⟨trivial, hk.2⟩))) (Kd.R_reads' (Kd.R_mono (ok' := (fun k_ => ((fun _ => True)) k_ ∧ some k_ ≠ (u8 : Value).ownBlock)) (Kd.R_apart' (HO116.out) (Kd.N_typed HO_8.out) (by decide)) (fun k_ hk => ⟨trivial, hk.2⟩))).2.1 (Kd.R_F (Kd.R_mono (ok' := (fun k_ => ((fun _ => True)) k_ ∧ some k_ ≠ (u8 : Value).ownBlock)) (Kd.R_apart' (HO116.out) (Kd.N_typed HO_8.out) (by decide)) (fun k_ hk => ⟨trivial, hk.2⟩))))); (case aB => exact (bl_ HB)); (case aF => exact (fun _ _ => trivial)); (case aO => exact (by (with_reducible repeat (first | apply Kd.N_alloc | apply Kd.N_drewN | apply Kd.N_drew)); exact Kd.N_mono HO_8.out (fun _ hk => trivial))); (case aS => exact (below_size (bl_ HB))); (case aL => have := LMc20.out; omega); intro v118 w25 ho hb hg hat; rw [← Ny117.out] at ho; have HO119 := Aside0.mk (ho); replace HB := Aside0.mk (hb); clear HO_8; clear HO112; clear HO116; clear ho hb hg hat))
        go_roundg k2
        case measure => have := HJ4.out; have := HK2.out; omega
        case rel => exact ⟨(y117), (wrap64 (x9_2 + 1)), (by first | rfl | (simp; done) | (simp [*]; done)), H', ⟨by have := HJ4.out; have := HK2.out; omega⟩, ⟨by (with_reducible repeat (first | apply Kd.N_alloc | apply Kd.N_drewN | apply Kd.N_drew)); exact HO119.out⟩, ⟨by repeat (first | (with_reducible first | exact HB.out | apply below_alloc | apply pw_below_drewN | apply below_drew1) | exact HB.out)⟩⟩
       ·rw [if_neg c20] at H
        exact absurd H (by simp)
      ·rw [if_neg c17] at H
       have c17b0 : decide ((wrap64 (x9_2 + 1)) < a0) = false := decide_eq_false c17
       clear c17
       have HC26 := Aside0.mk H
       clear H
       go_upto_if 53 with (fail)
       go_cut [8] (fun v8 wc => ∃ (kq : Nat) (x8_25 : List (S45)), Aside0 (telamonlaw19_LsolveRow.j2 kq a0 a1 a2 x8_25 = some r) ∧ Aside0 (kq ≤ k2) ∧ Aside0 (Kd.N k45 45 wc w.heap.size (fun _ => True) v8 x8_25) ∧ Aside0 (Below w.heap.size w wc))
       case first =>
        have H := HC26.out
        clear HC26
        by_cases c27 : a2 = true
        ·subst c27
         have H1 : ((telamonlaw1_V.f (wrap64 (a0 - 1)) 1).bind fun bt120 => ((telamonlaw1_V.f 0 0).bind fun bt124 => (if x8_2.length < 2199023255552 then (telamonlaw19_LsolveRow.j2 k2 a0 a1 true (x8_2 ++ [(⟨(⟨bt120.1, bt120.2⟩ : S43), (⟨bt124.1, bt124.2⟩ : S43)⟩ : S45)])) else (none)))) = some r := by rw [if_pos rfl] at H; exact H
         clear H
         have H := H1
         clear H1
         replace H := Option.bind_eq_some_iff.mp H
         obtain ⟨⟨t120, t121⟩, A280, H⟩ := H
         replace H : ((telamonlaw1_V.f 0 0).bind fun bt124 => (if x8_2.length < 2199023255552 then (telamonlaw19_LsolveRow.j2 k2 a0 a1 true (x8_2 ++ [(⟨(⟨t120, t121⟩ : S43), (⟨bt124.1, bt124.2⟩ : S43)⟩ : S45)])) else (none))) = some r := H
         have A28 := Aside0.mk A280
         clear A280
         replace H := Option.bind_eq_some_iff.mp H
         obtain ⟨⟨t124, t125⟩, A290, H⟩ := H
         replace H : (if x8_2.length < 2199023255552 then (telamonlaw19_LsolveRow.j2 k2 a0 a1 true (x8_2 ++ [(⟨(⟨t120, t121⟩ : S43), (⟨t124, t125⟩ : S43)⟩ : S45)])) else (none)) = some r := H
         have A29 := Aside0.mk A290
         clear A290
         by_cases c30 : x8_2.length < 2199023255552
         ·rw [if_pos c30] at H
          have LMc30 := Aside0.mk c30
          clear c30
          obtain ⟨y128, hy128⟩ : ∃ y_ : List (S45), y_ = (x8_2 ++ [(⟨(⟨t120, t121⟩ : S43), (⟨t124, t125⟩ : S43)⟩ : S45)]) := ⟨_, rfl⟩
          replace H : (telamonlaw19_LsolveRow.j2 k2 a0 a1 true y128) = some r := by first | (rw [hy128]; with_reducible exact H) | (have H2_ := (Option.bind_some _ _).symm.trans H; rw [hy128]; with_reducible exact H2_) | (have H2_ := (Option.bind_some _ _).symm.trans H; with_reducible exact H2_) | with_reducible exact H | (rw [hy128]; exact H) | exact H
          have Ny128 := Aside0.mk hy128
          clear hy128
          have H' := Aside0.mk H
          clear H
          go_wp2_with (first | ((with_reducible refine gate_callee (f := 33) rfl ?_); refine goesL_ (some 57) rfl rfl Try.func33 (by kernel_rfl) rfl #[.int .i64 (wrap64 (a0 - 1)), .int .i64 1] rfl (by (try simp only [List.map_toArray, List.map_cons, List.map_nil]); first | done | rfl | (simp only [List.length_drop, List.length_take]; rfl)) ?_; (with_reducible refine (telamonlaw1_V.calls (wrap64 (a0 - 1)) 1 t120 t121 _ A28.out).mono ?_); rintro e w31 ⟨v122, rfl, ho0, hb⟩; refine ⟨_, rfl, ?_⟩; have HO123 := Aside0.mk (Kd.R_lower ho0 (below_size (bl_ HB))); replace HO_8 := Aside0.mk (Kd.N_elder' (by (with_reducible repeat (first | apply Kd.N_alloc | apply Kd.N_drewN | apply Kd.N_drew)); exact HO_8.out) (Kd.R_base ho0) hb); replace HB := hs_ HB hb; (try clear hb); (try clear hb2); (try clear hk); (try clear hi); (try clear ho0)) | ((with_reducible refine gate_callee (f := 33) rfl ?_); refine goesL_ (some 58) rfl rfl Try.func33 (by kernel_rfl) rfl #[.int .i64 0, .int .i64 0] rfl (by (try simp only [List.map_toArray, List.map_cons, List.map_nil]); first | done | rfl | (simp only [List.length_drop, List.length_take]; rfl)) ?_; (with_reducible refine (telamonlaw1_V.calls 0 0 t124 t125 _ A29.out).mono ?_); rintro e w32 ⟨v126, rfl, ho0, hb⟩; refine ⟨_, rfl, ?_⟩; have HO127 := Aside0.mk (Kd.R_lower (Kd.R_new' ho0 (Kd.R_lt (rl_ HO123))) (below_size (bl_ HB))); replace HO_8 := Aside0.mk (Kd.N_elder' (by (with_reducible repeat (first | apply Kd.N_alloc | apply Kd.N_drewN | apply Kd.N_drew)); exact HO_8.out) (Kd.R_base ho0) hb); replace HO123 := Aside0.mk (Kd.R_elder' (rl_ HO123) (Kd.R_base ho0) hb); replace HB := hs_ HB hb; (try clear hb); (try clear hb2); (try clear hk); (try clear hi); (try clear ho0); obtain ⟨Ao33, co33, eo33⟩ := Kd.R_slice HO127.out; subst eo33; obtain ⟨Ao34, co34, eo34⟩ := Kd.R_slice HO123.out; subst eo34) | ((with_reducible refine gate_builtin (b := .append) (xs := #[.tmp 54, .tmp 60]) rfl ?_); (try (refine gate_guard (by rfl) ?_; dsimp only)); at_builtin; refine Kd.N_append k45 (w0 := w) w.heap.size rfl (.tmp 54) (.tmp 60) 40 45 (.agg #[(.int .i64 0), (.slice none 0 0), (.int .i64 0), (.slice none 0 0)]) 64 rfl Try.underlying40 info45 rfl (by decide) (by omega) u8 x8_2 (⟨(⟨t120, t121⟩ : S43), (⟨t124, t125⟩ : S43)⟩ : S45) [.int .i64 t120, .slice Ao34 t121.length co34, .int .i64 t124, .slice Ao33 t125.length co33] (fun _ => True) (fun k_ => ((fun _ => True)) k_ ∧ some k_ ≠ (u8 : Value).ownBlock) rfl rfl ?aP (fun _ hk => hk) ?aF ?aO ?aB ?aS ?aL ?_; (case aP => exact (k45_mkF _ _ (⟨(⟨t120, t121⟩ : S43), (⟨t124, t125⟩ : S43)⟩ : S45) (Kd.R_reads' (Kd.R_mono (ok' := (fun k_ => ((fun _ => True)) k_ ∧ some k_ ≠ (u8 : Value).ownBlock)) (Kd.R_apart' (HO123.out) (Kd.N_typed HO_8.out) (by decide)) (fun k_ hk => ⟨trivial, hk.2⟩))).2.1 (Kd.R_F (Kd.R_mono (ok' := (fun k_ => ((fun _ => True)) k_ ∧ some k_ ≠ (u8 : Value).ownBlock)) (Kd.R_apart' (HO123.out) (Kd.N_typed HO_8.out) (by decide)) (fun k_ hk => ⟨trivial, hk.2⟩))) (Kd.R_reads' (Kd.R_mono (ok' := (fun k_ => ((fun _ => True)) k_ ∧ some k_ ≠ (u8 : Value).ownBlock)) (Kd.R_apart' (HO127.out) (Kd.N_typed HO_8.out) (by decide)) (fun k_ hk => ⟨trivial, hk.2⟩))).2.1 (Kd.R_F (Kd.R_mono (ok' := (fun k_ => ((fun _ => True)) k_ ∧ some k_ ≠ (u8 : Value).ownBlock)) (Kd.R_apart' (HO127.out) (Kd.N_typed HO_8.out) (by decide)) (fun k_ hk => ⟨trivial, hk.2⟩))))); (case aB => exact (bl_ HB)); (case aF => exact (fun _ _ => trivial)); (case aO => exact (by (with_reducible repeat (first | apply Kd.N_alloc | apply Kd.N_drewN | apply Kd.N_drew)); exact Kd.N_mono HO_8.out (fun _ hk => trivial))); (case aS => exact (below_size (bl_ HB))); (case aL => have := LMc30.out; omega); intro v129 w35 ho hb hg hat; rw [← Ny128.out] at ho; have HO130 := Aside0.mk (ho); replace HB := Aside0.mk (hb); clear HO_8; clear HO123; clear HO127; clear ho hb hg hat))
          go_meet
          case rel => exact ⟨_, (y128), H', ⟨by have := HJ4.out; have := HK2.out; first | omega | exact Nat.le_refl _⟩, ⟨by (with_reducible repeat (first | apply Kd.N_alloc | apply Kd.N_drewN | apply Kd.N_drew)); exact HO130.out⟩, ⟨by repeat (first | (with_reducible first | exact HB.out | apply below_alloc | apply pw_below_drewN | apply below_drew1) | exact HB.out)⟩⟩
         ·rw [if_neg c30] at H
          exact absurd H (by simp)
        ·replace c27 := Bool.eq_false_iff.mpr c27
         subst c27
         have H1 : (telamonlaw19_LsolveRow.j2 k2 a0 a1 false x8_2) = some r := by rw [if_neg (show ¬ (false = true) by decide)] at H; exact H
         clear H
         have H := H1
         clear H1
         have H' := Aside0.mk H
         clear H
         go_wp2
         go_meet
         case rel => exact ⟨_, (x8_2), H', ⟨by have := HJ4.out; have := HK2.out; first | omega | exact Nat.le_refl _⟩, ⟨by (with_reducible repeat (first | apply Kd.N_alloc | apply Kd.N_drewN | apply Kd.N_drew)); exact HO_8.out⟩, ⟨by repeat (first | (with_reducible first | exact HB.out | apply below_alloc | apply pw_below_drewN | apply below_drew1) | exact HB.out)⟩⟩
       case rest =>
        clear HC26
        (try clear c1); (try clear c2); (try clear p2); (try clear c3); (try clear c4); (try clear p6); (try clear c7); (try clear c8); (try clear c8b0); (try clear c9); (try clear c9b0); (try clear c10); (try clear c10b0); (try clear c11); (try clear c17); (try clear c17b0); (try clear c20); (try clear c27); (try clear c28); (try clear c30); (try clear c33); (try clear p2)
        obtain ⟨kq, x8_25, HA, HJ25, HO_8, HB⟩ := hcut
        cases kq with
        | zero => exact absurd HA.out (by simp [telamonlaw19_LsolveRow.j2])
        | succ kj25 =>
         have H := HA.out
         clear HA
         simp only [telamonlaw19_LsolveRow.j2] at H
         replace H := Option.bind_eq_some_iff.mp H
         obtain ⟨⟨t131, t132⟩, A360, H⟩ := H
         replace H : (if a2 = true then ((telamonlaw19_num.f t132).bind fun t135 => (if t135 = 52 then (some ((t131.length : Int) == 0)) else (some false))) else (telamonlaw19_LsolveRow.l1 kj25 a0 a1 t131 t132 0)) = some r := H
         have A36 := Aside0.mk A360
         clear A360
         by_cases c37 : a2 = true
         ·subst c37
          have H1 : ((telamonlaw19_num.f t132).bind fun t135 => (if t135 = 52 then (some ((t131.length : Int) == 0)) else (some false))) = some r := by rw [if_pos rfl] at H; exact H
          clear H
          have H := H1
          clear H1
          replace H := Option.bind_eq_some_iff.mp H
          obtain ⟨t135, A380, H⟩ := H
          replace H : (if t135 = 52 then (some ((t131.length : Int) == 0)) else (some false)) = some r := H
          have A38 := Aside0.mk A380
          clear A380
          by_cases c39 : t135 = 52
          ·rw [if_pos c39] at H
           have c39b0 : (t135 == 52) = true := beq_iff_eq.mpr c39
           have c39b1 : (t135 != 52) = false := bne_eq_false_iff_eq.mpr c39
           clear c39
           obtain rfl := Option.some.inj H
           obtain ⟨Ao40, co40, eo40⟩ := Kd.N_slice HO_8.out
           subst eo40
           go_wp2_with (first | ((with_reducible refine gate_callee (f := 29) rfl ?_); refine goesL_ (some 65) rfl rfl Try.func29 (by kernel_rfl) rfl #[.int .i64 a0, .slice Ao40 x8_25.length co40] rfl (by (try simp only [List.map_toArray, List.map_cons, List.map_nil]); first | done | rfl | (simp only [List.length_drop, List.length_take]; rfl)) ?_; (with_reducible refine (lsolve_Solve.calls a0 _ _ x8_25 t131 t132 _ ?side1 ?side2 A36.out).mono ?_); (case side1 => repeat (first | exact (Kd.N_reads' HO_8.out).2.2 | (with_reducible refine Kd.C_alloc ?_ _) | (with_reducible refine Kd.C_drewN ?_ _) | (with_reducible refine Kd.C_drew ?_))); (case side2 => exact (Kd.N_reads' HO_8.out).2.1); rintro e w41 ⟨v133, rfl, ho0, hb⟩; refine ⟨_, rfl, ?_⟩; have HO134 := Aside0.mk (Kd.R_lower ho0 (below_size (bl_ HB))); replace HO_8 := Aside0.mk (Kd.N_elder' (by (with_reducible repeat (first | apply Kd.N_alloc | apply Kd.N_drewN | apply Kd.N_drew)); exact HO_8.out) (Kd.R_base ho0) hb); replace HB := hs_ HB hb; (try clear hb); (try clear hb2); (try clear hk); (try clear hi); (try clear ho0)) | ((with_reducible refine gate_callee (f := 31) rfl ?_); refine goesL_ (some 70) rfl rfl Try.func31 (by kernel_rfl) rfl #[.int .i64 t132] rfl (by (try simp only [List.map_toArray, List.map_cons, List.map_nil]); first | done | rfl | (simp only [List.length_drop, List.length_take]; rfl)) ?_; (with_reducible refine (telamonlaw19_num.calls t132 t135 _ A38.out).mono ?_); rintro e w' ⟨rfl, ⟨nd, rfl⟩⟩; refine ⟨_, rfl, ?_⟩; obtain ⟨Ao42, co42, eo42⟩ := Kd.R_slice HO134.out; subst eo42))
           go_ret
           exact ⟨by first | rfl | (simp [errW_none, errW_some] <;> rfl) | (simp [*, errW_none, errW_some] <;> rfl), by repeat (first | (with_reducible first | exact HB.out | apply below_alloc | apply pw_below_drewN | apply below_drew1) | exact HB.out)⟩
          ·rw [if_neg c39] at H
           have c39b0 : (t135 == 52) = false := beq_eq_false_iff_ne.mpr c39
           have c39b1 : (t135 != 52) = true := bne_iff_ne.mpr c39
           obtain rfl := Option.some.inj H
           obtain ⟨Ao43, co43, eo43⟩ := Kd.N_slice HO_8.out
           subst eo43
           go_wp2_with (first | ((with_reducible refine gate_callee (f := 29) rfl ?_); refine goesL_ (some 65) rfl rfl Try.func29 (by kernel_rfl) rfl #[.int .i64 a0, .slice Ao43 x8_25.length co43] rfl (by (try simp only [List.map_toArray, List.map_cons, List.map_nil]); first | done | rfl | (simp only [List.length_drop, List.length_take]; rfl)) ?_; (with_reducible refine (lsolve_Solve.calls a0 _ _ x8_25 t131 t132 _ ?side1 ?side2 A36.out).mono ?_); (case side1 => repeat (first | exact (Kd.N_reads' HO_8.out).2.2 | (with_reducible refine Kd.C_alloc ?_ _) | (with_reducible refine Kd.C_drewN ?_ _) | (with_reducible refine Kd.C_drew ?_))); (case side2 => exact (Kd.N_reads' HO_8.out).2.1); rintro e w44 ⟨v133, rfl, ho0, hb⟩; refine ⟨_, rfl, ?_⟩; have HO134 := Aside0.mk (Kd.R_lower ho0 (below_size (bl_ HB))); replace HO_8 := Aside0.mk (Kd.N_elder' (by (with_reducible repeat (first | apply Kd.N_alloc | apply Kd.N_drewN | apply Kd.N_drew)); exact HO_8.out) (Kd.R_base ho0) hb); replace HB := hs_ HB hb; (try clear hb); (try clear hb2); (try clear hk); (try clear hi); (try clear ho0)) | ((with_reducible refine gate_callee (f := 31) rfl ?_); refine goesL_ (some 70) rfl rfl Try.func31 (by kernel_rfl) rfl #[.int .i64 t132] rfl (by (try simp only [List.map_toArray, List.map_cons, List.map_nil]); first | done | rfl | (simp only [List.length_drop, List.length_take]; rfl)) ?_; (with_reducible refine (telamonlaw19_num.calls t132 t135 _ A38.out).mono ?_); rintro e w' ⟨rfl, ⟨nd, rfl⟩⟩; refine ⟨_, rfl, ?_⟩))
           go_ret
           exact ⟨by first | rfl | (simp [errW_none, errW_some] <;> rfl) | (simp [*, errW_none, errW_some] <;> rfl), by repeat (first | (with_reducible first | exact HB.out | apply below_alloc | apply pw_below_drewN | apply below_drew1) | exact HB.out)⟩
         ·replace c37 := Bool.eq_false_iff.mpr c37
          subst c37
          have H1 : (telamonlaw19_LsolveRow.l1 kj25 a0 a1 t131 t132 0) = some r := by rw [if_neg (show ¬ (false = true) by decide)] at H; exact H
          clear H
          have H := H1
          clear H1
          have H' := Aside0.mk H
          clear H
          obtain ⟨Ao45, co45, eo45⟩ := Kd.N_slice HO_8.out
          subst eo45
          go_wp2_with (first | ((with_reducible refine gate_callee (f := 29) rfl ?_); refine goesL_ (some 65) rfl rfl Try.func29 (by kernel_rfl) rfl #[.int .i64 a0, .slice Ao45 x8_25.length co45] rfl (by (try simp only [List.map_toArray, List.map_cons, List.map_nil]); first | done | rfl | (simp only [List.length_drop, List.length_take]; rfl)) ?_; (with_reducible refine (lsolve_Solve.calls a0 _ _ x8_25 t131 t132 _ ?side1 ?side2 A36.out).mono ?_); (case side1 => repeat (first | exact (Kd.N_reads' HO_8.out).2.2 | (with_reducible refine Kd.C_alloc ?_ _) | (with_reducible refine Kd.C_drewN ?_ _) | (with_reducible refine Kd.C_drew ?_))); (case side2 => exact (Kd.N_reads' HO_8.out).2.1); rintro e w46 ⟨v133, rfl, ho0, hb⟩; refine ⟨_, rfl, ?_⟩; have HO134 := Aside0.mk (Kd.R_lower ho0 (below_size (bl_ HB))); replace HO_8 := Aside0.mk (Kd.N_elder' (by (with_reducible repeat (first | apply Kd.N_alloc | apply Kd.N_drewN | apply Kd.N_drew)); exact HO_8.out) (Kd.R_base ho0) hb); replace HB := hs_ HB hb; (try clear hb); (try clear hb2); (try clear hk); (try clear hi); (try clear ho0)))
          go_loopg [12] kj25 (fun kq v12 w' => ∃ (x12_4 : Int), v12 = .int .i64 x12_4 ∧ Aside0 (telamonlaw19_LsolveRow.l1 kq a0 a1 t131 t132 x12_4 = some r) ∧ Aside0 (kq ≤ kj25) ∧ Aside0 (Kd.R (Kd.int .i64) 3 w' w.heap.size (fun _ => True) v133 t131) ∧ Aside0 (Below w.heap.size w w'))
          case atStart => exact ⟨(0), (by first | rfl | (simp; done) | (simp [*]; done)), H', ⟨Nat.le_refl _⟩, ⟨by (with_reducible repeat (first | apply Kd.R_alloc | apply Kd.R_drewN | apply Kd.R_drew)); exact HO134.out⟩, ⟨by repeat (first | (with_reducible first | exact HB.out | apply below_alloc | apply pw_below_drewN | apply below_drew1) | exact HB.out)⟩⟩
          case round =>
           clear H'
           (try clear c1); (try clear c2); (try clear p2); (try clear c3); (try clear c4); (try clear p6); (try clear c7); (try clear c8); (try clear c8b0); (try clear c9); (try clear c9b0); (try clear c10); (try clear c10b0); (try clear c11); (try clear c17); (try clear c17b0); (try clear c20); (try clear c27); (try clear c28); (try clear c29); (try clear c30); (try clear c31); (try clear c33); (try clear c37); (try clear c39); (try clear c39b0); (try clear c39b1); (try clear p2); (try clear p6)
           obtain ⟨x12_4, rfl, HA, HK4, HO_10, HB⟩ := hrel
           cases gk with
           | zero => exact absurd HA.out (by simp [telamonlaw19_LsolveRow.l1])
           | succ k4 =>
            have H := HA.out
            clear HA
            simp only [telamonlaw19_LsolveRow.l1] at H
            by_cases c47 : x12_4 < (t131.length : Int)
            ·rw [if_pos c47] at H
             have c47b0 : decide (x12_4 < (t131.length : Int)) = true := decide_eq_true c47
             clear c47
             by_cases c48 : 0 ≤ x12_4
             ·rw [if_pos c48] at H
              have c48b0 : decide (0 ≤ x12_4) = true := decide_eq_true c48
              clear c48
              by_cases c49 : (rd t131 x12_4) = (wrap64 (a1 + x12_4))
              ·rw [if_pos c49] at H
               have c49b0 : ((rd t131 x12_4) == (wrap64 (a1 + x12_4))) = true := beq_iff_eq.mpr c49
               have c49b1 : ((rd t131 x12_4) != (wrap64 (a1 + x12_4))) = false := bne_eq_false_iff_eq.mpr c49
               clear c49
               have H' := Aside0.mk H
               clear H
               obtain ⟨Ao50, co50, eo50⟩ := Kd.R_slice HO_10.out
               subst eo50
               have p137 : 0 ≤ (x12_4 : Int) := of_decide_eq_true (by first | (with_reducible assumption) | assumption)
               have q137 : x12_4 < (t131.length : Int) := of_decide_eq_true (by first | (with_reducible assumption) | assumption)
               obtain ⟨ad137, e137, hx137_0⟩ := Kd.at_int (Kd.R_reads' HO_10.out).2.2 x12_4 p137 q137
               cases e137
               replace p137 := eq_true p137
               replace q137 := eq_true q137
               go_wp2
               go_roundg k4
               case measure => have := HJ4.out; have := HK2.out; have := HJ25.out; have := HK4.out; omega
               case rel => exact ⟨(wrap64 (x12_4 + 1)), (by first | rfl | (simp; done) | (simp [*]; done)), H', ⟨by have := HJ4.out; have := HK2.out; have := HJ25.out; have := HK4.out; omega⟩, ⟨by (with_reducible repeat (first | apply Kd.R_alloc | apply Kd.R_drewN | apply Kd.R_drew)); exact HO_10.out⟩, ⟨by repeat (first | (with_reducible first | exact HB.out | apply below_alloc | apply pw_below_drewN | apply below_drew1) | exact HB.out)⟩⟩
              ·rw [if_neg c49] at H
               have c49b0 : ((rd t131 x12_4) == (wrap64 (a1 + x12_4))) = false := beq_eq_false_iff_ne.mpr c49
               have c49b1 : ((rd t131 x12_4) != (wrap64 (a1 + x12_4))) = true := bne_iff_ne.mpr c49
               obtain rfl := Option.some.inj H
               obtain ⟨Ao51, co51, eo51⟩ := Kd.R_slice HO_10.out
               subst eo51
               have p137 : 0 ≤ (x12_4 : Int) := of_decide_eq_true (by first | (with_reducible assumption) | assumption)
               have q137 : x12_4 < (t131.length : Int) := of_decide_eq_true (by first | (with_reducible assumption) | assumption)
               obtain ⟨ad137, e137, hx137_0⟩ := Kd.at_int (Kd.R_reads' HO_10.out).2.2 x12_4 p137 q137
               cases e137
               replace p137 := eq_true p137
               replace q137 := eq_true q137
               go_wp2
               go_ret
               exact ⟨by first | rfl | (simp [errW_none, errW_some] <;> rfl) | (simp [*, errW_none, errW_some] <;> rfl), by repeat (first | (with_reducible first | exact HB.out | apply below_alloc | apply pw_below_drewN | apply below_drew1) | exact HB.out)⟩
             ·rw [if_neg c48] at H
              exact absurd H (by simp)
            ·rw [if_neg c47] at H
             have c47b0 : decide (x12_4 < (t131.length : Int)) = false := decide_eq_false c47
             clear c47
             replace H := Option.bind_eq_some_iff.mp H
             obtain ⟨t136, A520, H⟩ := H
             replace H : (if t136 = 0 then (some ((t131.length : Int) == a0)) else (some false)) = some r := H
             have A52 := Aside0.mk A520
             clear A520
             by_cases c53 : t136 = 0
             ·rw [if_pos c53] at H
              have c53b0 : (t136 == 0) = true := beq_iff_eq.mpr c53
              have c53b1 : (t136 != 0) = false := bne_eq_false_iff_eq.mpr c53
              clear c53
              obtain rfl := Option.some.inj H
              obtain ⟨Ao54, co54, eo54⟩ := Kd.R_slice HO_10.out
              subst eo54
              go_wp2_with (first | ((with_reducible refine gate_callee (f := 31) rfl ?_); refine goesL_ (some 92) rfl rfl Try.func31 (by kernel_rfl) rfl #[.int .i64 t132] rfl (by (try simp only [List.map_toArray, List.map_cons, List.map_nil]); first | done | rfl | (simp only [List.length_drop, List.length_take]; rfl)) ?_; (with_reducible refine (telamonlaw19_num.calls t132 t136 _ A52.out).mono ?_); rintro e w' ⟨rfl, ⟨nd, rfl⟩⟩; refine ⟨_, rfl, ?_⟩))
              go_ret
              exact ⟨by first | rfl | (simp [errW_none, errW_some] <;> rfl) | (simp [*, errW_none, errW_some] <;> rfl), by repeat (first | (with_reducible first | exact HB.out | apply below_alloc | apply pw_below_drewN | apply below_drew1) | exact HB.out)⟩
             ·rw [if_neg c53] at H
              have c53b0 : (t136 == 0) = false := beq_eq_false_iff_ne.mpr c53
              have c53b1 : (t136 != 0) = true := bne_iff_ne.mpr c53
              obtain rfl := Option.some.inj H
              obtain ⟨Ao55, co55, eo55⟩ := Kd.R_slice HO_10.out
              subst eo55
              go_wp2_with (first | ((with_reducible refine gate_callee (f := 31) rfl ?_); refine goesL_ (some 92) rfl rfl Try.func31 (by kernel_rfl) rfl #[.int .i64 t132] rfl (by (try simp only [List.map_toArray, List.map_cons, List.map_nil]); first | done | rfl | (simp only [List.length_drop, List.length_take]; rfl)) ?_; (with_reducible refine (telamonlaw19_num.calls t132 t136 _ A52.out).mono ?_); rintro e w' ⟨rfl, ⟨nd, rfl⟩⟩; refine ⟨_, rfl, ?_⟩))
              go_ret
              exact ⟨by first | rfl | (simp [errW_none, errW_some] <;> rfl) | (simp [*, errW_none, errW_some] <;> rfl), by repeat (first | (with_reducible first | exact HB.out | apply below_alloc | apply pw_below_drewN | apply below_drew1) | exact HB.out)⟩

/-- THE ONE PURE STATEMENT of telamonlaw19_LsolveRow: yours. -/
def telamonlaw19_LsolveRow.Pure : Prop := ∀ (a0 : Int) (a1 : Int) (a2 : Bool), (Lit.int .i64 a0).wf = true → (Lit.int .i64 a1).wf = true → ∃ k, telamonlaw19_LsolveRow.f k a0 a1 a2 = some true
theorem telamonlaw19_LsolveRow.walk (P : telamonlaw19_LsolveRow.Pure) (a0 : Int) (a1 : Int) (a2 : Bool) (w : World) (w0 : (Lit.int .i64 a0).wf = true) (w1 : (Lit.int .i64 a1).wf = true) :
  Calls Try.prog 8 #[.int .i64 a0, .int .i64 a1, .bool a2] w fun e w' => e = .returned (.bool true) ∧ Below w.heap.size w w' := by
 obtain ⟨k, h⟩ := P a0 a1 a2 w0 w1
 refine (telamonlaw19_LsolveRow.calls k a0 a1 a2 true w h).mono ?_
 rintro e w' ⟨rfl, hd⟩
 exact ⟨rfl, hd⟩

end Go.Proofs.Ytbopadglafbdjaa.PX
