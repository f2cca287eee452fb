-- by wip/tools/gprint.py of this session over the kit's print; given functions are this session's own text
import Derived.Test.YtbopadglafbdjaaPXx0
import Derived.Test.YtbopadglafbdjaaPXxf64
namespace Go.Proofs.Ytbopadglafbdjaa.PX
open Go.RowKit Go.Proofs.YtbopadglafbdjaaW.PrintWords Go.Proofs.YtbopadglafbdjaaW.PrintLast Go.Proofs.YtbopadglafbdjaaW.PrintMore
attribute [local go_sem] max2_int min2_int max_two min_two max_three min_three max_four min_four   -- for this text's walks alone
set_option linter.unusedVariables false
set_option linter.unusedSimpArgs false

/-! ### telamonref17_Order: function 25 -/
mutual
def telamonref17_Order.j0 : Nat → Int → List Int → List (S31) → List Bool → Option (List Int × Bool)
 | 0, _, _, _, _ => none
 | k + 1, x1, x6, x7, x8 => telamonref17_Order.l0 k x1 x6 x7 x8
def telamonref17_Order.l0 : Nat → Int → List Int → List (S31) → List Bool → Option (List Int × Bool)
 | 0, _, _, _, _ => none
 | k + 1, x1, x6, x7, x8 => if (x7.length : Int) > 0 then (telamonref17_Order.l1 k x1 x6 x7 x8 (-1) 0) else (some (x6, true))
def telamonref17_Order.l1 : Nat → Int → List Int → List (S31) → List Bool → Int → Int → Option (List Int × Bool)
 | 0, _, _, _, _, _, _ => none
 | k + 1, x1, x6, x7, x8, x9, x10 => if x10 < x1 then (telamonref17_Order.j3 k x1 x6 x7 x8 x9 x10 (decide (x9 < 0))) else (telamonref17_Order.j3 k x1 x6 x7 x8 x9 x10 false)
def telamonref17_Order.j3 : Nat → Int → List Int → List (S31) → List Bool → Int → Int → Bool → Option (List Int × Bool)
 | 0, _, _, _, _, _, _, _ => none
 | k + 1, x1, x6, x7, x8, x9, x10, x31 => if x31 = true then (if 0 ≤ x10 then (if x10 < (x8.length : Int) then (telamonref17_Order.l2 k x1 x6 x7 x8 x9 x10 (!(rdOf false x8 x10)) false 0) else (none)) else (none)) else (if x9 < 0 then (some (([] : List Int), false)) else (if 0 ≤ x9 then (if x9 < (x8.length : Int) then (if x6.length < 17592186044416 then (telamonref17_Order.l3 k x1 (x6 ++ [x9]) x7 (x8.set (x9 : Int).toNat true) x9 ([] : List (S31)) 0) else (none)) else (none)) else (none)))
def telamonref17_Order.l2 : Nat → Int → List Int → List (S31) → List Bool → Int → Int → Bool → Bool → Int → Option (List Int × Bool)
 | 0, _, _, _, _, _, _, _, _, _ => none
 | k + 1, x1, x6, x7, x8, x9, x10, x11, x12, x13 => if x13 < (x7.length : Int) then (if 0 ≤ x13 then ((telamonref17_at.f k ((rd_T31 x7 x13).f0) ((rd_T31 x7 x13).f1) x10).bind fun t109 => (if x11 = true then (if x12 = true then (telamonref17_Order.l2 k x1 x6 x7 x8 x9 x10 (decide (t109 > 0)) true (wrap64 (x13 + 1))) else (telamonref17_Order.l2 k x1 x6 x7 x8 x9 x10 (decide (t109 > 0)) (t109 == 2) (wrap64 (x13 + 1)))) else (if x12 = true then (telamonref17_Order.l2 k x1 x6 x7 x8 x9 x10 false true (wrap64 (x13 + 1))) else (telamonref17_Order.l2 k x1 x6 x7 x8 x9 x10 false (t109 == 2) (wrap64 (x13 + 1)))))) else (none)) else (if x11 = true then (if x12 = true then (telamonref17_Order.l1 k x1 x6 x7 x8 x10 (wrap64 (x10 + 1))) else (telamonref17_Order.l1 k x1 x6 x7 x8 x9 (wrap64 (x10 + 1)))) else (telamonref17_Order.l1 k x1 x6 x7 x8 x9 (wrap64 (x10 + 1))))
def telamonref17_Order.l3 : Nat → Int → List Int → List (S31) → List Bool → Int → List (S31) → Int → Option (List Int × Bool)
 | 0, _, _, _, _, _, _, _ => none
 | k + 1, x1, x6, x7, x8, x9, x15, x16 => if x16 < (x7.length : Int) then (if 0 ≤ x16 then ((telamonref17_at.f k ((rd_T31 x7 x16).f0) ((rd_T31 x7 x16).f1) x9).bind fun t115 => (if t115 = 2 then (telamonref17_Order.l3 k x1 x6 x7 x8 x9 x15 (wrap64 (x16 + 1))) else (if x15.length < 2932031007402 then (telamonref17_Order.l3 k x1 x6 x7 x8 x9 (x15 ++ [(⟨(rd_T31 x7 x16).f0, (rd_T31 x7 x16).f1⟩ : S31)]) (wrap64 (x16 + 1))) else (none)))) else (none)) else (telamonref17_Order.l0 k x1 x6 x15 x8)
end
def telamonref17_Order.f (k : Nat) (l0 : List (S31)) (a1 : Int) : Option (List Int × Bool) := if ([] : List (S31)).length + l0.length < 2932031007402 then ((some (([] : List (S31)) ++ l0 : List (S31))).bind fun y101 => (if 101 ≤ 281474976710656 then ((some (List.replicate 101 false : List Bool)).bind fun y104 => (if a1 > 100 then (telamonref17_Order.j0 k 0 ([] : List Int) y101 y104) else (telamonref17_Order.j0 k a1 ([] : List Int) y101 y104))) else (none))) else (none)
theorem telamonref17_Order.mono_l : ∀ k, (∀ y0 y1 y2 y3, LeO (telamonref17_Order.j0 k y0 y1 y2 y3) (telamonref17_Order.j0 (k + 1) y0 y1 y2 y3)) ∧ (∀ y0 y1 y2 y3, LeO (telamonref17_Order.l0 k y0 y1 y2 y3) (telamonref17_Order.l0 (k + 1) y0 y1 y2 y3)) ∧ (∀ y0 y1 y2 y3 y4 y5, LeO (telamonref17_Order.l1 k y0 y1 y2 y3 y4 y5) (telamonref17_Order.l1 (k + 1) y0 y1 y2 y3 y4 y5)) ∧ (∀ y0 y1 y2 y3 y4 y5 y6, LeO (telamonref17_Order.j3 k y0 y1 y2 y3 y4 y5 y6) (telamonref17_Order.j3 (k + 1) y0 y1 y2 y3 y4 y5 y6)) ∧ (∀ y0 y1 y2 y3 y4 y5 y6 y7 y8, LeO (telamonref17_Order.l2 k y0 y1 y2 y3 y4 y5 y6 y7 y8) (telamonref17_Order.l2 (k + 1) y0 y1 y2 y3 y4 y5 y6 y7 y8)) ∧ (∀ y0 y1 y2 y3 y4 y5 y6, LeO (telamonref17_Order.l3 k y0 y1 y2 y3 y4 y5 y6) (telamonref17_Order.l3 (k + 1) y0 y1 y2 y3 y4 y5 y6))
 | 0 => ⟨fun _ _ _ _ r h => by simp [telamonref17_Order.j0] at h, fun _ _ _ _ r h => by simp [telamonref17_Order.l0] at h, fun _ _ _ _ _ _ r h => by simp [telamonref17_Order.l1] at h, fun _ _ _ _ _ _ _ r h => by simp [telamonref17_Order.j3] at h, fun _ _ _ _ _ _ _ _ _ r h => by simp [telamonref17_Order.l2] at h, fun _ _ _ _ _ _ _ r h => by simp [telamonref17_Order.l3] at h⟩
 | k + 1 => by
  obtain ⟨ih0, ih1, ih2, ih3, ih4, ih5⟩ := telamonref17_Order.mono_l k
  refine ⟨?_, ?_, ?_, ?_, ?_, ?_⟩
  ·intro y0 y1 y2 y3
   unfold telamonref17_Order.j0
   repeat' first
   | (with_reducible exact ih0 _ _ _ _)
   | (with_reducible exact ih1 _ _ _ _)
   | (with_reducible exact ih2 _ _ _ _ _ _)
   | (with_reducible exact ih3 _ _ _ _ _ _ _)
   | (with_reducible exact ih4 _ _ _ _ _ _ _ _ _)
   | (with_reducible exact ih5 _ _ _ _ _ _ _)
   | (with_reducible exact telamonref17_at.mono _ _ _ _)
   | (with_reducible exact LeO.refl _)
   | (with_reducible exact LeO.none _)
   | (with_reducible refine LeO.ite ?_ ?_)
   | (with_reducible refine LeO.bind ?_ (fun _ => ?_))
   | exact ih0 _ _ _ _
   | exact ih1 _ _ _ _
   | exact ih2 _ _ _ _ _ _
   | exact ih3 _ _ _ _ _ _ _
   | exact ih4 _ _ _ _ _ _ _ _ _
   | exact ih5 _ _ _ _ _ _ _
   | exact telamonref17_at.mono _ _ _ _
   | exact LeO.none _
   | refine LeO.ite ?_ ?_
   | refine LeO.bind ?_ (fun _ => ?_)
  ·intro y0 y1 y2 y3
   unfold telamonref17_Order.l0
   repeat' first
   | (with_reducible exact ih0 _ _ _ _)
   | (with_reducible exact ih1 _ _ _ _)
   | (with_reducible exact ih2 _ _ _ _ _ _)
   | (with_reducible exact ih3 _ _ _ _ _ _ _)
   | (with_reducible exact ih4 _ _ _ _ _ _ _ _ _)
   | (with_reducible exact ih5 _ _ _ _ _ _ _)
   | (with_reducible exact telamonref17_at.mono _ _ _ _)
   | (with_reducible exact LeO.refl _)
   | (with_reducible exact LeO.none _)
   | (with_reducible refine LeO.ite ?_ ?_)
   | (with_reducible refine LeO.bind ?_ (fun _ => ?_))
   | exact ih0 _ _ _ _
   | exact ih1 _ _ _ _
   | exact ih2 _ _ _ _ _ _
   | exact ih3 _ _ _ _ _ _ _
   | exact ih4 _ _ _ _ _ _ _ _ _
   | exact ih5 _ _ _ _ _ _ _
   | exact telamonref17_at.mono _ _ _ _
   | exact LeO.none _
   | refine LeO.ite ?_ ?_
   | refine LeO.bind ?_ (fun _ => ?_)
  ·intro y0 y1 y2 y3 y4 y5
   unfold telamonref17_Order.l1
   repeat' first
   | (with_reducible exact ih0 _ _ _ _)
   | (with_reducible exact ih1 _ _ _ _)
   | (with_reducible exact ih2 _ _ _ _ _ _)
   | (with_reducible exact ih3 _ _ _ _ _ _ _)
   | (with_reducible exact ih4 _ _ _ _ _ _ _ _ _)
   | (with_reducible exact ih5 _ _ _ _ _ _ _)
   | (with_reducible exact telamonref17_at.mono _ _ _ _)
   | (with_reducible exact LeO.refl _)
   | (with_reducible exact LeO.none _)
   | (with_reducible refine LeO.ite ?_ ?_)
   | (with_reducible refine LeO.bind ?_ (fun _ => ?_))
   | exact ih0 _ _ _ _
   | exact ih1 _ _ _ _
   | exact ih2 _ _ _ _ _ _
   | exact ih3 _ _ _ _ _ _ _
   | exact ih4 _ _ _ _ _ _ _ _ _
   | exact ih5 _ _ _ _ _ _ _
   | exact telamonref17_at.mono _ _ _ _
   | exact LeO.none _
   | refine LeO.ite ?_ ?_
   | refine LeO.bind ?_ (fun _ => ?_)
  ·intro y0 y1 y2 y3 y4 y5 y6
   unfold telamonref17_Order.j3
   repeat' first
   | (with_reducible exact ih0 _ _ _ _)
   | (with_reducible exact ih1 _ _ _ _)
   | (with_reducible exact ih2 _ _ _ _ _ _)
   | (with_reducible exact ih3 _ _ _ _ _ _ _)
   | (with_reducible exact ih4 _ _ _ _ _ _ _ _ _)
   | (with_reducible exact ih5 _ _ _ _ _ _ _)
   | (with_reducible exact telamonref17_at.mono _ _ _ _)
   | (with_reducible exact LeO.refl _)
   | (with_reducible exact LeO.none _)
   | (with_reducible refine LeO.ite ?_ ?_)
   | (with_reducible refine LeO.bind ?_ (fun _ => ?_))
   | exact ih0 _ _ _ _
   | exact ih1 _ _ _ _
   | exact ih2 _ _ _ _ _ _
   | exact ih3 _ _ _ _ _ _ _
   | exact ih4 _ _ _ _ _ _ _ _ _
   | exact ih5 _ _ _ _ _ _ _
   | exact telamonref17_at.mono _ _ _ _
   | exact LeO.none _
   | refine LeO.ite ?_ ?_
   | refine LeO.bind ?_ (fun _ => ?_)
  ·intro y0 y1 y2 y3 y4 y5 y6 y7 y8
   unfold telamonref17_Order.l2
   repeat' first
   | (with_reducible exact ih0 _ _ _ _)
   | (with_reducible exact ih1 _ _ _ _)
   | (with_reducible exact ih2 _ _ _ _ _ _)
   | (with_reducible exact ih3 _ _ _ _ _ _ _)
   | (with_reducible exact ih4 _ _ _ _ _ _ _ _ _)
   | (with_reducible exact ih5 _ _ _ _ _ _ _)
   | (with_reducible exact telamonref17_at.mono _ _ _ _)
   | (with_reducible exact LeO.refl _)
   | (with_reducible exact LeO.none _)
   | (with_reducible refine LeO.ite ?_ ?_)
   | (with_reducible refine LeO.bind ?_ (fun _ => ?_))
   | exact ih0 _ _ _ _
   | exact ih1 _ _ _ _
   | exact ih2 _ _ _ _ _ _
   | exact ih3 _ _ _ _ _ _ _
   | exact ih4 _ _ _ _ _ _ _ _ _
   | exact ih5 _ _ _ _ _ _ _
   | exact telamonref17_at.mono _ _ _ _
   | exact LeO.none _
   | refine LeO.ite ?_ ?_
   | refine LeO.bind ?_ (fun _ => ?_)
  ·intro y0 y1 y2 y3 y4 y5 y6
   unfold telamonref17_Order.l3
   repeat' first
   | (with_reducible exact ih0 _ _ _ _)
   | (with_reducible exact ih1 _ _ _ _)
   | (with_reducible exact ih2 _ _ _ _ _ _)
   | (with_reducible exact ih3 _ _ _ _ _ _ _)
   | (with_reducible exact ih4 _ _ _ _ _ _ _ _ _)
   | (with_reducible exact ih5 _ _ _ _ _ _ _)
   | (with_reducible exact telamonref17_at.mono _ _ _ _)
   | (with_reducible exact LeO.refl _)
   | (with_reducible exact LeO.none _)
   | (with_reducible refine LeO.ite ?_ ?_)
   | (with_reducible refine LeO.bind ?_ (fun _ => ?_))
   | exact ih0 _ _ _ _
   | exact ih1 _ _ _ _
   | exact ih2 _ _ _ _ _ _
   | exact ih3 _ _ _ _ _ _ _
   | exact ih4 _ _ _ _ _ _ _ _ _
   | exact ih5 _ _ _ _ _ _ _
   | exact telamonref17_at.mono _ _ _ _
   | exact LeO.none _
   | refine LeO.ite ?_ ?_
   | refine LeO.bind ?_ (fun _ => ?_)
theorem telamonref17_Order.mono : ∀ a0 a1 k, LeO (telamonref17_Order.f k a0 a1) (telamonref17_Order.f (k + 1) a0 a1) := by
 intro a0 a1 k
 obtain ⟨ih0, ih1, ih2, ih3, ih4, ih5⟩ := telamonref17_Order.mono_l k
 unfold telamonref17_Order.f
 repeat' first
   | (with_reducible exact ih0 _ _ _ _)
   | (with_reducible exact ih1 _ _ _ _)
   | (with_reducible exact ih2 _ _ _ _ _ _)
   | (with_reducible exact ih3 _ _ _ _ _ _ _)
   | (with_reducible exact ih4 _ _ _ _ _ _ _ _ _)
   | (with_reducible exact ih5 _ _ _ _ _ _ _)
   | (with_reducible exact telamonref17_at.mono _ _ _ _)
   | (with_reducible exact LeO.refl _)
   | (with_reducible exact LeO.none _)
   | (with_reducible refine LeO.ite ?_ ?_)
   | (with_reducible refine LeO.bind ?_ (fun _ => ?_))
   | exact ih0 _ _ _ _
   | exact ih1 _ _ _ _
   | exact ih2 _ _ _ _ _ _
   | exact ih3 _ _ _ _ _ _ _
   | exact ih4 _ _ _ _ _ _ _ _ _
   | exact ih5 _ _ _ _ _ _ _
   | exact telamonref17_at.mono _ _ _ _
   | exact LeO.none _
   | refine LeO.ite ?_ ?_
   | refine LeO.bind ?_ (fun _ => ?_)
set_option maxHeartbeats 8000000 in
set_option maxRecDepth 100000 in
theorem telamonref17_Order.calls (k : Nat) (P0_ : Nat → Prop) (A0 : Option Addr) (c0 : Nat) (l0 : List (S31)) (a1 : Int) (r1 : List Int) (r2 : Bool) (w : World) (hs0 : Kd.V k31 31 w w.heap.size (fun k_ => P0_ k_) (.slice A0 l0.length c0) l0) (h : telamonref17_Order.f k l0 a1 = some (r1, r2)) :
  Calls Try.prog 25 #[.slice A0 l0.length c0, .int .i64 a1] w fun e w' => ∃ v0_ : Value, e = .returned (.tuple #[v0_, .bool r2]) ∧ Kd.R (Kd.int .i64) 3 w' w.heap.size (fun k_ => (w.heap.size ≤ k_)) v0_ r1 ∧ Below w.heap.size w w' := by
 have hu31 := Try.underlying31
 have HO0 := Aside0.mk (show Kd.V k31 31 w w.heap.size (fun k_ => (P0_ k_ ∨ w.heap.size ≤ k_)) (.slice A0 l0.length c0) l0 from Kd.V_mono hs0 (fun k_ hk => .inl hk))
 have HB := Aside0.mk (Below.refl w.heap.size w)
 have H : (if ([] : List (S31)).length + l0.length < 2932031007402 then ((some (([] : List (S31)) ++ l0 : List (S31))).bind fun y101 => (if 101 ≤ 281474976710656 then ((some (List.replicate 101 false : List Bool)).bind fun y104 => (if a1 > 100 then (telamonref17_Order.j0 k 0 ([] : List Int) y101 y104) else (telamonref17_Order.j0 k a1 ([] : List Int) y101 y104))) else (none))) else (none)) = some (r1, r2) := h
 clear h
 by_cases c3 : ([] : List (S31)).length + l0.length < 2932031007402
 ·rw [if_pos c3] at H
  have LMc3 := Aside0.mk c3
  clear c3
  obtain ⟨y101, hy101⟩ : ∃ y_ : List (S31), y_ = (([] : List (S31)) ++ l0) := ⟨_, rfl⟩
  replace H : (if 101 ≤ 281474976710656 then ((some (List.replicate 101 false : List Bool)).bind fun y104 => (if a1 > 100 then (telamonref17_Order.j0 k 0 ([] : List Int) y101 y104) else (telamonref17_Order.j0 k a1 ([] : List Int) y101 y104))) else (none)) = some (r1, r2) := by first | (rw [hy101]; with_reducible exact H) | (have H2_ := (Option.bind_some _ _).symm.trans H; rw [hy101]; with_reducible exact H2_) | (have H2_ := (Option.bind_some _ _).symm.trans H; with_reducible exact H2_) | with_reducible exact H | (rw [hy101]; exact H) | exact H
  have Ny101 := Aside0.mk hy101
  clear hy101
  by_cases c4 : 101 ≤ 281474976710656
  ·rw [if_pos c4] at H
   have c4b0 := eq_true c4
   have c4b1 : decide (101 ≤ 281474976710656) = true := decide_eq_true c4
   clear c4
   obtain ⟨y104, hy104⟩ : ∃ y_ : List Bool, y_ = (List.replicate 101 false) := ⟨_, rfl⟩
   replace H : (if a1 > 100 then (telamonref17_Order.j0 k 0 ([] : List Int) y101 y104) else (telamonref17_Order.j0 k a1 ([] : List Int) y101 y104)) = some (r1, r2) := by first | (rw [hy104]; with_reducible exact H) | (have H2_ := (Option.bind_some _ _).symm.trans H; rw [hy104]; with_reducible exact H2_) | (have H2_ := (Option.bind_some _ _).symm.trans H; with_reducible exact H2_) | with_reducible exact H | (rw [hy104]; exact H) | exact H
   have Ny104 := Aside0.mk hy104
   clear hy104
   have HC5 := Aside0.mk H
   clear H
   go_enter Try.func25, Try.ntmps25
   go_upto_if 21 with (first | ((with_reducible refine gate_builtin (b := .append) (xs := #[.const (.slice none 0 0), .tmp 17]) rfl ?_); at_builtin; refine Kd.N_append_rows k31 (w0 := w) w.heap.size rfl (.const (.slice none 0 0)) (.tmp 17) 22 31 (.agg #[(.slice none 0 0), (.slice none 0 0)]) 48 rfl Try.underlying22 info31 rfl (by decide) (by omega) (.slice none 0 0) ([] : List (S31)) l0 _ _ _ (fun k_ => (P0_ k_ ∨ w.heap.size ≤ k_)) (fun k_ => ((fun k_ => (P0_ k_ ∨ w.heap.size ≤ k_))) k_ ∧ some k_ ≠ (.slice none 0 0 : Value).ownBlock) rfl rfl ?aO ?aR (fun _ hk => hk) ?aF ?aB ?aS ?aL ?_; (case aR => exact (by skip; exact Kd.V_F (Kd.V_mono (ok' := (fun k_ => ((fun k_ => (P0_ k_ ∨ w.heap.size ≤ k_))) k_ ∧ some k_ ≠ (.slice none 0 0 : Value).ownBlock)) (HO0.out) (fun k_ hk => ⟨hk, (by simp [Value.ownBlock])⟩)))); (case aB => exact (bl_ HB)); (case aF => exact (fun k_ hk => (.inr (Nat.le_trans (below_size (bl_ HB)) hk)))); (case aO => exact ((Kd.N_nil _ _ _ _ (fun k_ => (P0_ k_ ∨ w.heap.size ≤ k_))))); (case aS => exact (below_size (bl_ HB))); (case aL => have := LMc3.out; omega); intro v102 w6 ho hb hg hat; rw [← Ny101.out] at ho; have HO103 := Aside0.mk (ho); replace HO0 := Aside0.mk (Kd.V_afterv (Kd.V_apart_nil (by (with_reducible repeat (first | apply Kd.V_alloc | apply Kd.V_drewN | apply Kd.V_drew)); exact HO0.out)) hg hat); replace HB := Aside0.mk (hb); clear ho hb hg hat) | ((with_reducible refine gate_dst (N := 19) rfl ?_); refine Kd.R_make Kd.bool _ 4 rfl (N := 19) rfl 91 _ _ rfl 101 rfl rfl Try.underlying91 (.bool false) 1 info4 rfl (by decide) (by omega) false (ok := fun _ => True) (okp := fun _ => True) rfl (fun _ hk => hk) trivial (by omega) (by omega) (Below.refl _ _) (Nat.le_refl _) ?_; intro v105 w7 ho8 hb hg_ hnew_; clear hg_ hnew_; (first | rw [← Ny104.out] at ho8 | (simp only [Int.reduceToNat] at ho8; rw [← Ny104.out] at ho8)); have HO106 := Aside0.mk (Kd.R_lower (Kd.R_newM (M := fun k_ => (w.heap.size ≤ k_)) ho8 (below_size (bl_ HB)) (fun k_ h_ => h_)) (below_size (bl_ HB))); replace HO0 := Aside0.mk (Kd.V_elder' (by (with_reducible repeat (first | apply Kd.V_alloc | apply Kd.V_drewN | apply Kd.V_drew)); exact HO0.out) (Kd.R_base ho8) hb); replace HO103 := Aside0.mk (Kd.N_elder' (by (with_reducible repeat (first | apply Kd.N_alloc | apply Kd.N_drewN | apply Kd.N_drew)); exact HO103.out) (Kd.R_base ho8) hb); replace HB := hs_ HB hb; clear hb ho8))
   (try simp only [Act.put, List.setIfInBounds_toArray, List.set_cons_zero, List.set_cons_succ])
   go_cut [1] (fun v1 wc => ∃ (kq : Nat) (x1_4 : Int), v1 = .int .i64 x1_4 ∧ Aside0 (telamonref17_Order.j0 kq x1_4 ([] : List Int) y101 y104 = some (r1, r2)) ∧ Aside0 (kq ≤ k) ∧ Aside0 (Kd.R (Kd.int .i64) 3 wc w.heap.size (fun k_ => (w.heap.size ≤ k_)) (.slice none 0 0) ([] : List Int)) ∧ Aside0 (Kd.N k31 31 wc w.heap.size (fun k_ => (P0_ k_ ∨ w.heap.size ≤ k_) ∧ some k_ ≠ ((.slice none 0 0) : Value).ownBlock ∧ some k_ ≠ (v105 : Value).ownBlock) v102 y101) ∧ Aside0 (Kd.R Kd.bool 4 wc w.heap.size (fun k_ => (w.heap.size ≤ k_)) v105 y104) ∧ Aside0 (Below w.heap.size w wc))
   case first =>
    have H := HC5.out
    clear HC5
    by_cases c9 : a1 > 100
    ·rw [if_pos c9] at H
     have c9b0 : decide (100 < a1) = true := decide_eq_true c9
     clear c9
     (first | rw [c9b0] | (simp only [i64_w, i32_w]; rw [c9b0]) | skip)
     have H' := Aside0.mk H
     clear H
     go_wp2
     go_meet
     case rel => exact ⟨_, (0), (by first | rfl | (simp; done) | (simp [*]; done)), H', ⟨by first | omega | exact Nat.le_refl _⟩, ⟨by first | exact Kd.R_nil _ _ _ _ _ | exact Kd.N_nil _ _ _ _ _ | exact Kd.V_nil _ _ _ _ _ | exact Kd.Q_nil _ _ _ _ _ | exact Kd.S_nil _ _ _ _ _⟩, ⟨by (with_reducible repeat (first | apply Kd.N_alloc | apply Kd.N_drewN | apply Kd.N_drew)); exact Kd.N_mono HO103.out (fun _ hk => ⟨hk.1, ⟨(by simp [Value.ownBlock]), hk.2⟩⟩)⟩, ⟨by (with_reducible repeat (first | apply Kd.R_alloc | apply Kd.R_drewN | apply Kd.R_drew)); exact Kd.R_mono HO106.out (fun _ hk => hk.1)⟩, ⟨by repeat (first | (with_reducible first | exact HB.out | apply below_alloc | apply pw_below_drewN | apply below_drew1) | exact HB.out)⟩⟩
    ·rw [if_neg c9] at H
     have c9b0 : decide (100 < a1) = false := decide_eq_false c9
     clear c9
     (first | rw [c9b0] | (simp only [i64_w, i32_w]; rw [c9b0]) | skip)
     have H' := Aside0.mk H
     clear H
     go_wp2
     go_meet
     case rel => exact ⟨_, (a1), (by first | rfl | (simp; done) | (simp [*]; done)), H', ⟨by first | omega | exact Nat.le_refl _⟩, ⟨by first | exact Kd.R_nil _ _ _ _ _ | exact Kd.N_nil _ _ _ _ _ | exact Kd.V_nil _ _ _ _ _ | exact Kd.Q_nil _ _ _ _ _ | exact Kd.S_nil _ _ _ _ _⟩, ⟨by (with_reducible repeat (first | apply Kd.N_alloc | apply Kd.N_drewN | apply Kd.N_drew)); exact Kd.N_mono HO103.out (fun _ hk => ⟨hk.1, ⟨(by simp [Value.ownBlock]), hk.2⟩⟩)⟩, ⟨by (with_reducible repeat (first | apply Kd.R_alloc | apply Kd.R_drewN | apply Kd.R_drew)); exact Kd.R_mono HO106.out (fun _ hk => hk.1)⟩, ⟨by repeat (first | (with_reducible first | exact HB.out | apply below_alloc | apply pw_below_drewN | apply below_drew1) | exact HB.out)⟩⟩
   case rest =>
    clear HC5
    (try clear c2); (try clear p2); (try clear c3); (try clear c4); (try clear c4b0); (try clear c4b1); (try clear c9); (try clear c9b0)
    obtain ⟨kq, x1_4, rfl, HA, HJ4, HO_6, HO_7, HO_8, HB⟩ := hcut
    cases kq with
    | zero => exact absurd HA.out (by simp [telamonref17_Order.j0])
    | succ kj4 =>
     have H := HA.out
     clear HA
     simp only [telamonref17_Order.j0] at H
     have H' := Aside0.mk H
     clear H
     go_wp2
     go_loopg [6, 7] kj4 (fun kq v6 v7 w' => ∃ (x6_2 : List Int) (x7_2 : List (S31)) (x8_2 : List Bool), Aside0 (telamonref17_Order.l0 kq x1_4 x6_2 x7_2 x8_2 = some (r1, r2)) ∧ Aside0 (kq ≤ kj4) ∧ Aside0 (Kd.R (Kd.int .i64) 3 w' w.heap.size (fun k_ => (w.heap.size ≤ k_)) v6 x6_2) ∧ Aside0 (Kd.N k31 31 w' w.heap.size (fun k_ => (P0_ k_ ∨ w.heap.size ≤ k_) ∧ some k_ ≠ (v6 : Value).ownBlock ∧ some k_ ≠ (v105 : Value).ownBlock) v7 x7_2) ∧ Aside0 (Kd.R Kd.bool 4 w' w.heap.size (fun k_ => (w.heap.size ≤ k_)) v105 x8_2) ∧ Aside0 (Below w.heap.size w w'))
     case atStart => exact ⟨(([] : List Int)), (y101), (y104), H', ⟨Nat.le_refl _⟩, ⟨by (with_reducible repeat (first | apply Kd.R_alloc | apply Kd.R_drewN | apply Kd.R_drew)); exact HO_6.out⟩, ⟨by (with_reducible repeat (first | apply Kd.N_alloc | apply Kd.N_drewN | apply Kd.N_drew)); exact HO_7.out⟩, ⟨by (with_reducible repeat (first | apply Kd.R_alloc | apply Kd.R_drewN | apply Kd.R_drew)); exact HO_8.out⟩, ⟨by repeat (first | (with_reducible first | exact HB.out | apply below_alloc | apply pw_below_drewN | apply below_drew1) | exact HB.out)⟩⟩
     case round =>
      clear H'
      (try clear c2); (try clear p2); (try clear c3); (try clear c4); (try clear c4b0); (try clear c4b1); (try clear c9); (try clear c9b0); (try clear p2)
      obtain ⟨x6_2, x7_2, x8_2, HA, HK2, HO_6, HO_7, HO_8, HB⟩ := hrel
      cases gk with
      | zero => exact absurd HA.out (by simp [telamonref17_Order.l0])
      | succ k2 =>
       have H := HA.out
       clear HA
       simp only [telamonref17_Order.l0] at H
       by_cases c10 : (x7_2.length : Int) > 0
       ·rw [if_pos c10] at H
        have c10b0 : decide (0 < (x7_2.length : Int)) = true := decide_eq_true c10
        have c10b1 : decide (0 < x7_2.length) = true := decide_eq_true (by omega)
        clear c10
        have H' := Aside0.mk H
        clear H
        obtain ⟨Ao11, co11, eo11⟩ := Kd.N_slice HO_7.out
        subst eo11
        go_wp2
        go_loopg [9, 10] k2 (fun kq v9 v10 w' => ∃ (x9_3 : Int) (x10_3 : Int), v9 = .int .i64 x9_3 ∧ v10 = .int .i64 x10_3 ∧ Aside0 (telamonref17_Order.l1 kq x1_4 x6_2 x7_2 x8_2 x9_3 x10_3 = some (r1, r2)) ∧ Aside0 (kq ≤ k2) ∧ Aside0 (Kd.R (Kd.int .i64) 3 w' w.heap.size (fun k_ => (w.heap.size ≤ k_)) u6 x6_2) ∧ Aside0 (Kd.N k31 31 w' w.heap.size (fun k_ => (P0_ k_ ∨ w.heap.size ≤ k_) ∧ some k_ ≠ (u6 : Value).ownBlock ∧ some k_ ≠ (v105 : Value).ownBlock) (.slice Ao11 x7_2.length co11) x7_2) ∧ Aside0 (Kd.R Kd.bool 4 w' w.heap.size (fun k_ => (w.heap.size ≤ k_)) v105 x8_2) ∧ Aside0 (Below w.heap.size w w'))
        case atStart => exact ⟨((-1)), (0), (by first | rfl | (simp; done) | (simp [*]; done)), (by first | rfl | (simp; done) | (simp [*]; done)), H', ⟨Nat.le_refl _⟩, ⟨by (with_reducible repeat (first | apply Kd.R_alloc | apply Kd.R_drewN | apply Kd.R_drew)); exact HO_6.out⟩, ⟨by (with_reducible repeat (first | apply Kd.N_alloc | apply Kd.N_drewN | apply Kd.N_drew)); exact HO_7.out⟩, ⟨by (with_reducible repeat (first | apply Kd.R_alloc | apply Kd.R_drewN | apply Kd.R_drew)); exact HO_8.out⟩, ⟨by repeat (first | (with_reducible first | exact HB.out | apply below_alloc | apply pw_below_drewN | apply below_drew1) | exact HB.out)⟩⟩
        case round =>
         clear H'
         (try clear c1); (try clear c2); (try clear p2); (try clear c3); (try clear c4); (try clear c4b0); (try clear c4b1); (try clear c9); (try clear c9b0); (try clear c10); (try clear c10b0); (try clear c10b1); (try clear p2)
         obtain ⟨x9_3, x10_3, rfl, rfl, HA, HK3, HO_6, HO_7, HO_8, HB⟩ := hrel
         cases gk with
         | zero => exact absurd HA.out (by simp [telamonref17_Order.l1])
         | succ k3 =>
          have H := HA.out
          clear HA
          simp only [telamonref17_Order.l1] at H
          have HC12 := Aside0.mk H
          clear H
          go_upto_region 9 with (fail)
          go_cut [31] (fun v31 wc => ∃ (kq : Nat) (x31_11 : Bool), v31 = .bool x31_11 ∧ Aside0 (telamonref17_Order.j3 kq x1_4 x6_2 x7_2 x8_2 x9_3 x10_3 x31_11 = some (r1, r2)) ∧ Aside0 (kq ≤ k3) ∧ Aside0 (Kd.R (Kd.int .i64) 3 wc w.heap.size (fun k_ => (w.heap.size ≤ k_)) u6 x6_2) ∧ Aside0 (Kd.N k31 31 wc w.heap.size (fun k_ => (P0_ k_ ∨ w.heap.size ≤ k_) ∧ some k_ ≠ (u6 : Value).ownBlock ∧ some k_ ≠ (v105 : Value).ownBlock) (.slice Ao11 x7_2.length co11) x7_2) ∧ Aside0 (Kd.R Kd.bool 4 wc w.heap.size (fun k_ => (w.heap.size ≤ k_)) v105 x8_2) ∧ Aside0 (Below w.heap.size w wc))
          case first =>
           have H := HC12.out
           clear HC12
           by_cases c13 : x10_3 < x1_4
           ·rw [if_pos c13] at H
            have c13b0 : decide (x10_3 < x1_4) = true := decide_eq_true c13
            clear c13
            (first | rw [c13b0] | (simp only [i64_w, i32_w]; rw [c13b0]) | skip)
            have H' := Aside0.mk H
            clear H
            go_wp2
            go_meet
            case rel => exact ⟨_, (decide (x9_3 < 0)), (by first | rfl | (simp; done) | (simp [*]; done)), H', ⟨by have := HJ4.out; have := HK2.out; have := HK3.out; first | omega | exact Nat.le_refl _⟩, ⟨by (with_reducible repeat (first | apply Kd.R_alloc | apply Kd.R_drewN | apply Kd.R_drew)); exact HO_6.out⟩, ⟨by (with_reducible repeat (first | apply Kd.N_alloc | apply Kd.N_drewN | apply Kd.N_drew)); exact HO_7.out⟩, ⟨by (with_reducible repeat (first | apply Kd.R_alloc | apply Kd.R_drewN | apply Kd.R_drew)); exact HO_8.out⟩, ⟨by repeat (first | (with_reducible first | exact HB.out | apply below_alloc | apply pw_below_drewN | apply below_drew1) | exact HB.out)⟩⟩
           ·rw [if_neg c13] at H
            have c13b0 : decide (x10_3 < x1_4) = false := decide_eq_false c13
            clear c13
            (first | rw [c13b0] | (simp only [i64_w, i32_w]; rw [c13b0]) | skip)
            have H' := Aside0.mk H
            clear H
            go_wp2
            go_meet
            case rel => exact ⟨_, (false), (by first | rfl | (simp; done) | (simp [*]; done)), H', ⟨by have := HJ4.out; have := HK2.out; have := HK3.out; first | omega | exact Nat.le_refl _⟩, ⟨by (with_reducible repeat (first | apply Kd.R_alloc | apply Kd.R_drewN | apply Kd.R_drew)); exact HO_6.out⟩, ⟨by (with_reducible repeat (first | apply Kd.N_alloc | apply Kd.N_drewN | apply Kd.N_drew)); exact HO_7.out⟩, ⟨by (with_reducible repeat (first | apply Kd.R_alloc | apply Kd.R_drewN | apply Kd.R_drew)); exact HO_8.out⟩, ⟨by repeat (first | (with_reducible first | exact HB.out | apply below_alloc | apply pw_below_drewN | apply below_drew1) | exact HB.out)⟩⟩
          case rest =>
           clear HC12
           (try clear c1); (try clear c2); (try clear p2); (try clear c3); (try clear c4); (try clear c4b0); (try clear c4b1); (try clear c9); (try clear c9b0); (try clear c10); (try clear c10b0); (try clear c10b1); (try clear c13); (try clear c13b0); (try clear p2)
           obtain ⟨kq, x31_11, rfl, HA, HJ11, HO_6, HO_7, HO_8, HB⟩ := hcut
           cases kq with
           | zero => exact absurd HA.out (by simp [telamonref17_Order.j3])
           | succ kj11 =>
            have H := HA.out
            clear HA
            simp only [telamonref17_Order.j3] at H
            by_cases c14 : x31_11 = true
            ·subst c14
             have H1 : (if 0 ≤ x10_3 then (if x10_3 < (x8_2.length : Int) then (telamonref17_Order.l2 kj11 x1_4 x6_2 x7_2 x8_2 x9_3 x10_3 (!(rdOf false x8_2 x10_3)) false 0) else (none)) else (none)) = some (r1, r2) := by rw [if_pos rfl] at H; exact H
             clear H
             have H := H1
             clear H1
             by_cases c15 : 0 ≤ x10_3
             ·rw [if_pos c15] at H
              have c15b0 : decide (0 ≤ x10_3) = true := decide_eq_true c15
              clear c15
              by_cases c16 : x10_3 < (x8_2.length : Int)
              ·rw [if_pos c16] at H
               have c16b0 : decide (x10_3 < (x8_2.length : Int)) = true := decide_eq_true c16
               clear c16
               have H' := Aside0.mk H
               clear H
               obtain ⟨Ao17, co17, eo17⟩ := Kd.R_slice HO_8.out
               subst eo17
               have p107 : 0 ≤ (x10_3 : Int) := of_decide_eq_true (by first | (with_reducible assumption) | assumption)
               have q107 : x10_3 < (x8_2.length : Int) := of_decide_eq_true (by first | (with_reducible assumption) | assumption)
               obtain ⟨ad107, e107, hx107_0⟩ := Kd.at_bool (Kd.R_reads' HO_8.out).2.2 x10_3 p107 q107
               cases e107
               replace p107 := eq_true p107
               replace q107 := eq_true q107
               go_wp2
               go_loopg [11, 12, 13] kj11 (fun kq v11 v12 v13 w' => ∃ (x11_5 : Bool) (x12_5 : Bool) (x13_5 : Int), v11 = .bool x11_5 ∧ v12 = .bool x12_5 ∧ v13 = .int .i64 x13_5 ∧ Aside0 (telamonref17_Order.l2 kq x1_4 x6_2 x7_2 x8_2 x9_3 x10_3 x11_5 x12_5 x13_5 = some (r1, r2)) ∧ Aside0 (kq ≤ kj11) ∧ Aside0 (Kd.R (Kd.int .i64) 3 w' w.heap.size (fun k_ => (w.heap.size ≤ k_)) u6 x6_2) ∧ Aside0 (Kd.N k31 31 w' w.heap.size (fun k_ => (P0_ k_ ∨ w.heap.size ≤ k_) ∧ some k_ ≠ (u6 : Value).ownBlock ∧ some k_ ≠ ((.slice (some ad107) x8_2.length co17) : Value).ownBlock) (.slice Ao11 x7_2.length co11) x7_2) ∧ Aside0 (Kd.R Kd.bool 4 w' w.heap.size (fun k_ => (w.heap.size ≤ k_)) (.slice (some ad107) x8_2.length co17) x8_2) ∧ Aside0 (Below w.heap.size w w'))
               case atStart => exact ⟨(!(rdOf false x8_2 x10_3)), (false), (0), (by first | rfl | (simp; done) | (simp [*]; done)), (by first | rfl | (simp; done) | (simp [*]; done)), (by first | rfl | (simp; done) | (simp [*]; done)), H', ⟨Nat.le_refl _⟩, ⟨by (with_reducible repeat (first | apply Kd.R_alloc | apply Kd.R_drewN | apply Kd.R_drew)); exact HO_6.out⟩, ⟨by (with_reducible repeat (first | apply Kd.N_alloc | apply Kd.N_drewN | apply Kd.N_drew)); exact HO_7.out⟩, ⟨by (with_reducible repeat (first | apply Kd.R_alloc | apply Kd.R_drewN | apply Kd.R_drew)); exact HO_8.out⟩, ⟨by repeat (first | (with_reducible first | exact HB.out | apply below_alloc | apply pw_below_drewN | apply below_drew1) | exact HB.out)⟩⟩
               case round =>
                clear H'
                (try clear c1); (try clear p1); (try clear q1); (try clear hx1); (try clear c2); (try clear p2); (try clear c3); (try clear c4); (try clear c4b0); (try clear c4b1); (try clear c9); (try clear c9b0); (try clear c10); (try clear c10b0); (try clear c10b1); (try clear p10); (try clear q10); (try clear hx10); (try clear c13); (try clear c13b0); (try clear c14); (try clear c15); (try clear c15b0); (try clear c16); (try clear c16b0); (try clear hx107_0); (try clear p107); (try clear p2); (try clear q107)
                obtain ⟨x11_5, x12_5, x13_5, rfl, rfl, rfl, HA, HK5, HO_6, HO_7, HO_8, HB⟩ := hrel
                cases gk with
                | zero => exact absurd HA.out (by simp [telamonref17_Order.l2])
                | succ k5 =>
                 have H := HA.out
                 clear HA
                 simp only [telamonref17_Order.l2] at H
                 by_cases c18 : x13_5 < (x7_2.length : Int)
                 ·rw [if_pos c18] at H
                  have c18b0 : decide (x13_5 < (x7_2.length : Int)) = true := decide_eq_true c18
                  clear c18
                  by_cases c19 : 0 ≤ x13_5
                  ·rw [if_pos c19] at H
                   have c19b0 : decide (0 ≤ x13_5) = true := decide_eq_true c19
                   clear c19
                   replace H := Option.bind_eq_some_iff.mp H
                   obtain ⟨t109, A200, H⟩ := H
                   replace H : (if x11_5 = true then (if x12_5 = true then (telamonref17_Order.l2 k5 x1_4 x6_2 x7_2 x8_2 x9_3 x10_3 (decide (t109 > 0)) true (wrap64 (x13_5 + 1))) else (telamonref17_Order.l2 k5 x1_4 x6_2 x7_2 x8_2 x9_3 x10_3 (decide (t109 > 0)) (t109 == 2) (wrap64 (x13_5 + 1)))) else (if x12_5 = true then (telamonref17_Order.l2 k5 x1_4 x6_2 x7_2 x8_2 x9_3 x10_3 false true (wrap64 (x13_5 + 1))) else (telamonref17_Order.l2 k5 x1_4 x6_2 x7_2 x8_2 x9_3 x10_3 false (t109 == 2) (wrap64 (x13_5 + 1))))) = some (r1, r2) := H
                   have A20 := Aside0.mk A200
                   clear A200
                   by_cases c21 : x11_5 = true
                   ·subst c21
                    have H1 : (if x12_5 = true then (telamonref17_Order.l2 k5 x1_4 x6_2 x7_2 x8_2 x9_3 x10_3 (decide (t109 > 0)) true (wrap64 (x13_5 + 1))) else (telamonref17_Order.l2 k5 x1_4 x6_2 x7_2 x8_2 x9_3 x10_3 (decide (t109 > 0)) (t109 == 2) (wrap64 (x13_5 + 1)))) = some (r1, r2) := by rw [if_pos rfl] at H; exact H
                    clear H
                    have H := H1
                    clear H1
                    by_cases c22 : x12_5 = true
                    ·subst c22
                     have H1 : (telamonref17_Order.l2 k5 x1_4 x6_2 x7_2 x8_2 x9_3 x10_3 (decide (t109 > 0)) true (wrap64 (x13_5 + 1))) = some (r1, r2) := by rw [if_pos rfl] at H; exact H
                     clear H
                     have H := H1
                     clear H1
                     have H' := Aside0.mk H
                     clear H
                     have p108 : 0 ≤ (x13_5 : Int) := of_decide_eq_true (by first | (with_reducible assumption) | assumption)
                     have q108 : x13_5 < (x7_2.length : Int) := of_decide_eq_true (by first | (with_reducible assumption) | assumption)
                     obtain ⟨ad108, A108_0, c108_0, A108_1, c108_1, e108, hx108_0, hx108_1, hl108_0, hi108_0, hl108_1, hi108_1⟩ := at_T31 (Kd.N_reads' HO_7.out).2.2 x13_5 p108 q108
                     cases e108
                     obtain ⟨ce108, hce108, hMe108, hcc108⟩ := Kd.N_get HO_7.out z31 x13_5 p108 (by first | exact q108 | exact of_decide_eq_true (by first | (with_reducible assumption) | assumption) | (have e_ := (Kd.N_reads' HO_7.out).1; omega))
                     obtain ⟨ua108_0, uc108_0, ua108_1, uc108_1, rfl, ul108_0, ge108_0, ul108_1, ge108_1⟩ := k31_openF hMe108
                     have hv108_0 := hcc108 0 _ rfl
                     rw [Nat.add_zero] at hv108_0
                     replace hv108_0 := Option.some.inj (hv108_0.symm.trans hx108_0)
                     injection hv108_0 with hva_ hvn_ hvc_
                     rw [hva_] at ge108_0
                     rw [hvc_] at ul108_0
                     have HL108_0 := Aside0.mk (show Kd.V k36 36 _ w.heap.size _ _ ((rd_T31 x7_2 x13_5).f0) from Kd.V_mk ul108_0 ge108_0)
                     clear hva_ hvn_ hvc_ ge108_0 ul108_0
                     have hv108_1 := hcc108 1 _ rfl
                     rw [add_field _ _ 1 (by omega)] at hv108_1
                     replace hv108_1 := Option.some.inj (hv108_1.symm.trans hx108_1)
                     injection hv108_1 with hva_ hvn_ hvc_
                     rw [hva_] at ge108_1
                     rw [hvc_] at ul108_1
                     have HL108_1 := Aside0.mk (show Kd.V (Kd.int .i64) 3 _ w.heap.size _ _ ((rd_T31 x7_2 x13_5).f1) from Kd.V_mk ul108_1 ge108_1)
                     clear hva_ hvn_ hvc_ ge108_1 ul108_1 hcc108 hce108
                     have HR108_0 := Aside0.mk hi108_0
                     have HC108_0 := Aside0.mk hl108_0
                     clear hi108_0 hl108_0
                     have HR108_1 := Aside0.mk hi108_1
                     have HC108_1 := Aside0.mk hl108_1
                     clear hi108_1 hl108_1
                     replace p108 := eq_true p108
                     replace q108 := eq_true q108
                     go_wp2_with (first | ((with_reducible refine gate_callee (f := 64) rfl ?_); refine goesL_ (some 50) rfl rfl Try.func64 (by kernel_rfl) rfl #[.agg #[.slice A108_0 ((rd_T31 x7_2 x13_5).f0).length c108_0, .slice A108_1 ((rd_T31 x7_2 x13_5).f1).length c108_1], .int .i64 x10_3] rfl (by (try simp only [List.map_toArray, List.map_cons, List.map_nil]); first | done | rfl | (simp only [List.length_drop, List.length_take]; rfl)) ?_; (with_reducible refine (telamonref17_at.calls k5 _ _ ((rd_T31 x7_2 x13_5).f0) _ _ ((rd_T31 x7_2 x13_5).f1) x10_3 t109 _ ?side1 ?side2 ?side3 ?side4 A20.out).mono ?_); (case side1 => repeat (first | exact (by repeat (first | (with_reducible exact HR108_0.out) | (with_reducible refine Kd.C_alloc ?_ _) | (with_reducible refine Kd.C_drewN ?_ _) | (with_reducible refine Kd.C_drew ?_) | exact HR108_0.out)) | (with_reducible refine Kd.C_alloc ?_ _) | (with_reducible refine Kd.C_drewN ?_ _) | (with_reducible refine Kd.C_drew ?_))); (case side2 => exact HC108_0.out); (case side3 => repeat (first | exact (by repeat (first | (with_reducible exact HR108_1.out) | (with_reducible refine Kd.C_alloc ?_ _) | (with_reducible refine Kd.C_drewN ?_ _) | (with_reducible refine Kd.C_drew ?_) | exact HR108_1.out)) | (with_reducible refine Kd.C_alloc ?_ _) | (with_reducible refine Kd.C_drewN ?_ _) | (with_reducible refine Kd.C_drew ?_))); (case side4 => exact HC108_1.out); rintro e w23 ⟨rfl, hb⟩; refine ⟨_, rfl, ?_⟩; replace HO_6 := Aside0.mk (Kd.R_below (rl_ HO_6) hb); replace HO_7 := Aside0.mk (Kd.N_below (by (with_reducible repeat (first | apply Kd.N_alloc | apply Kd.N_drewN | apply Kd.N_drew)); exact HO_7.out) hb); replace HO_8 := Aside0.mk (Kd.R_below (rl_ HO_8) hb); replace HL108_0 := Aside0.mk (Kd.V_below (by (with_reducible repeat (first | apply Kd.V_alloc | apply Kd.V_drewN | apply Kd.V_drew)); exact HL108_0.out) hb); replace HL108_1 := Aside0.mk (Kd.V_below (by (with_reducible repeat (first | apply Kd.V_alloc | apply Kd.V_drewN | apply Kd.V_drew)); exact HL108_1.out) hb); replace HR108_0 := Aside0.mk (Kd.C_below (by repeat (first | (with_reducible exact HR108_0.out) | (with_reducible refine Kd.C_alloc ?_ _) | (with_reducible refine Kd.C_drewN ?_ _) | (with_reducible refine Kd.C_drew ?_) | exact HR108_0.out)) hb); replace HR108_1 := Aside0.mk (Kd.C_below (by repeat (first | (with_reducible exact HR108_1.out) | (with_reducible refine Kd.C_alloc ?_ _) | (with_reducible refine Kd.C_drewN ?_ _) | (with_reducible refine Kd.C_drew ?_) | exact HR108_1.out)) hb); replace HB := hs_ HB hb; (try clear hb); (try clear hb2); (try clear hk); (try clear hi)))
                     go_roundg k5
                     case measure => have := HJ4.out; have := HK2.out; have := HK3.out; have := HJ11.out; have := HK5.out; omega
                     case rel => exact ⟨(decide (t109 > 0)), (true), (wrap64 (x13_5 + 1)), (by first | rfl | (simp; done) | (simp [*]; done)), (by first | rfl | (simp; done) | (simp [*]; done)), (by first | rfl | (simp; done) | (simp [*]; done)), H', ⟨by have := HJ4.out; have := HK2.out; have := HK3.out; have := HJ11.out; have := HK5.out; omega⟩, ⟨by (with_reducible repeat (first | apply Kd.R_alloc | apply Kd.R_drewN | apply Kd.R_drew)); exact HO_6.out⟩, ⟨by (with_reducible repeat (first | apply Kd.N_alloc | apply Kd.N_drewN | apply Kd.N_drew)); exact HO_7.out⟩, ⟨by (with_reducible repeat (first | apply Kd.R_alloc | apply Kd.R_drewN | apply Kd.R_drew)); exact HO_8.out⟩, ⟨by repeat (first | (with_reducible first | exact HB.out | apply below_alloc | apply pw_below_drewN | apply below_drew1) | exact HB.out)⟩⟩
                    ·replace c22 := Bool.eq_false_iff.mpr c22
                     subst c22
                     have H1 : (telamonref17_Order.l2 k5 x1_4 x6_2 x7_2 x8_2 x9_3 x10_3 (decide (t109 > 0)) (t109 == 2) (wrap64 (x13_5 + 1))) = some (r1, r2) := by rw [if_neg (show ¬ (false = true) by decide)] at H; exact H
                     clear H
                     have H := H1
                     clear H1
                     have H' := Aside0.mk H
                     clear H
                     have p108 : 0 ≤ (x13_5 : Int) := of_decide_eq_true (by first | (with_reducible assumption) | assumption)
                     have q108 : x13_5 < (x7_2.length : Int) := of_decide_eq_true (by first | (with_reducible assumption) | assumption)
                     obtain ⟨ad108, A108_0, c108_0, A108_1, c108_1, e108, hx108_0, hx108_1, hl108_0, hi108_0, hl108_1, hi108_1⟩ := at_T31 (Kd.N_reads' HO_7.out).2.2 x13_5 p108 q108
                     cases e108
                     obtain ⟨ce108, hce108, hMe108, hcc108⟩ := Kd.N_get HO_7.out z31 x13_5 p108 (by first | exact q108 | exact of_decide_eq_true (by first | (with_reducible assumption) | assumption) | (have e_ := (Kd.N_reads' HO_7.out).1; omega))
                     obtain ⟨ua108_0, uc108_0, ua108_1, uc108_1, rfl, ul108_0, ge108_0, ul108_1, ge108_1⟩ := k31_openF hMe108
                     have hv108_0 := hcc108 0 _ rfl
                     rw [Nat.add_zero] at hv108_0
                     replace hv108_0 := Option.some.inj (hv108_0.symm.trans hx108_0)
                     injection hv108_0 with hva_ hvn_ hvc_
                     rw [hva_] at ge108_0
                     rw [hvc_] at ul108_0
                     have HL108_0 := Aside0.mk (show Kd.V k36 36 _ w.heap.size _ _ ((rd_T31 x7_2 x13_5).f0) from Kd.V_mk ul108_0 ge108_0)
                     clear hva_ hvn_ hvc_ ge108_0 ul108_0
                     have hv108_1 := hcc108 1 _ rfl
                     rw [add_field _ _ 1 (by omega)] at hv108_1
                     replace hv108_1 := Option.some.inj (hv108_1.symm.trans hx108_1)
                     injection hv108_1 with hva_ hvn_ hvc_
                     rw [hva_] at ge108_1
                     rw [hvc_] at ul108_1
                     have HL108_1 := Aside0.mk (show Kd.V (Kd.int .i64) 3 _ w.heap.size _ _ ((rd_T31 x7_2 x13_5).f1) from Kd.V_mk ul108_1 ge108_1)
                     clear hva_ hvn_ hvc_ ge108_1 ul108_1 hcc108 hce108
                     have HR108_0 := Aside0.mk hi108_0
                     have HC108_0 := Aside0.mk hl108_0
                     clear hi108_0 hl108_0
                     have HR108_1 := Aside0.mk hi108_1
                     have HC108_1 := Aside0.mk hl108_1
                     clear hi108_1 hl108_1
                     replace p108 := eq_true p108
                     replace q108 := eq_true q108
                     go_wp2_with (first | ((with_reducible refine gate_callee (f := 64) rfl ?_); refine goesL_ (some 50) rfl rfl Try.func64 (by kernel_rfl) rfl #[.agg #[.slice A108_0 ((rd_T31 x7_2 x13_5).f0).length c108_0, .slice A108_1 ((rd_T31 x7_2 x13_5).f1).length c108_1], .int .i64 x10_3] rfl (by (try simp only [List.map_toArray, List.map_cons, List.map_nil]); first | done | rfl | (simp only [List.length_drop, List.length_take]; rfl)) ?_; (with_reducible refine (telamonref17_at.calls k5 _ _ ((rd_T31 x7_2 x13_5).f0) _ _ ((rd_T31 x7_2 x13_5).f1) x10_3 t109 _ ?side1 ?side2 ?side3 ?side4 A20.out).mono ?_); (case side1 => repeat (first | exact (by repeat (first | (with_reducible exact HR108_0.out) | (with_reducible refine Kd.C_alloc ?_ _) | (with_reducible refine Kd.C_drewN ?_ _) | (with_reducible refine Kd.C_drew ?_) | exact HR108_0.out)) | (with_reducible refine Kd.C_alloc ?_ _) | (with_reducible refine Kd.C_drewN ?_ _) | (with_reducible refine Kd.C_drew ?_))); (case side2 => exact HC108_0.out); (case side3 => repeat (first | exact (by repeat (first | (with_reducible exact HR108_1.out) | (with_reducible refine Kd.C_alloc ?_ _) | (with_reducible refine Kd.C_drewN ?_ _) | (with_reducible refine Kd.C_drew ?_) | exact HR108_1.out)) | (with_reducible refine Kd.C_alloc ?_ _) | (with_reducible refine Kd.C_drewN ?_ _) | (with_reducible refine Kd.C_drew ?_))); (case side4 => exact HC108_1.out); rintro e w24 ⟨rfl, hb⟩; refine ⟨_, rfl, ?_⟩; replace HO_6 := Aside0.mk (Kd.R_below (rl_ HO_6) hb); replace HO_7 := Aside0.mk (Kd.N_below (by (with_reducible repeat (first | apply Kd.N_alloc | apply Kd.N_drewN | apply Kd.N_drew)); exact HO_7.out) hb); replace HO_8 := Aside0.mk (Kd.R_below (rl_ HO_8) hb); replace HL108_0 := Aside0.mk (Kd.V_below (by (with_reducible repeat (first | apply Kd.V_alloc | apply Kd.V_drewN | apply Kd.V_drew)); exact HL108_0.out) hb); replace HL108_1 := Aside0.mk (Kd.V_below (by (with_reducible repeat (first | apply Kd.V_alloc | apply Kd.V_drewN | apply Kd.V_drew)); exact HL108_1.out) hb); replace HR108_0 := Aside0.mk (Kd.C_below (by repeat (first | (with_reducible exact HR108_0.out) | (with_reducible refine Kd.C_alloc ?_ _) | (with_reducible refine Kd.C_drewN ?_ _) | (with_reducible refine Kd.C_drew ?_) | exact HR108_0.out)) hb); replace HR108_1 := Aside0.mk (Kd.C_below (by repeat (first | (with_reducible exact HR108_1.out) | (with_reducible refine Kd.C_alloc ?_ _) | (with_reducible refine Kd.C_drewN ?_ _) | (with_reducible refine Kd.C_drew ?_) | exact HR108_1.out)) hb); replace HB := hs_ HB hb; (try clear hb); (try clear hb2); (try clear hk); (try clear hi)))
                     go_roundg k5
                     case measure => have := HJ4.out; have := HK2.out; have := HK3.out; have := HJ11.out; have := HK5.out; omega
                     case rel => exact ⟨(decide (t109 > 0)), ((t109 == 2)), (wrap64 (x13_5 + 1)), (by first | rfl | (simp; done) | (simp [*]; done)), (by first | rfl | (simp; done) | (simp [*]; done)), (by first | rfl | (simp; done) | (simp [*]; done)), H', ⟨by have := HJ4.out; have := HK2.out; have := HK3.out; have := HJ11.out; have := HK5.out; omega⟩, ⟨by (with_reducible repeat (first | apply Kd.R_alloc | apply Kd.R_drewN | apply Kd.R_drew)); exact HO_6.out⟩, ⟨by (with_reducible repeat (first | apply Kd.N_alloc | apply Kd.N_drewN | apply Kd.N_drew)); exact HO_7.out⟩, ⟨by (with_reducible repeat (first | apply Kd.R_alloc | apply Kd.R_drewN | apply Kd.R_drew)); exact HO_8.out⟩, ⟨by repeat (first | (with_reducible first | exact HB.out | apply below_alloc | apply pw_below_drewN | apply below_drew1) | exact HB.out)⟩⟩
                   ·replace c21 := Bool.eq_false_iff.mpr c21
                    subst c21
                    have H1 : (if x12_5 = true then (telamonref17_Order.l2 k5 x1_4 x6_2 x7_2 x8_2 x9_3 x10_3 false true (wrap64 (x13_5 + 1))) else (telamonref17_Order.l2 k5 x1_4 x6_2 x7_2 x8_2 x9_3 x10_3 false (t109 == 2) (wrap64 (x13_5 + 1)))) = some (r1, r2) := by rw [if_neg (show ¬ (false = true) by decide)] at H; exact H
                    clear H
                    have H := H1
                    clear H1
                    by_cases c25 : x12_5 = true
                    ·subst c25
                     have H1 : (telamonref17_Order.l2 k5 x1_4 x6_2 x7_2 x8_2 x9_3 x10_3 false true (wrap64 (x13_5 + 1))) = some (r1, r2) := by rw [if_pos rfl] at H; exact H
                     clear H
                     have H := H1
                     clear H1
                     have H' := Aside0.mk H
                     clear H
                     have p108 : 0 ≤ (x13_5 : Int) := of_decide_eq_true (by first | (with_reducible assumption) | assumption)
                     have q108 : x13_5 < (x7_2.length : Int) := of_decide_eq_true (by first | (with_reducible assumption) | assumption)
                     obtain ⟨ad108, A108_0, c108_0, A108_1, c108_1, e108, hx108_0, hx108_1, hl108_0, hi108_0, hl108_1, hi108_1⟩ := at_T31 (Kd.N_reads' HO_7.out).2.2 x13_5 p108 q108
                     cases e108
                     obtain ⟨ce108, hce108, hMe108, hcc108⟩ := Kd.N_get HO_7.out z31 x13_5 p108 (by first | exact q108 | exact of_decide_eq_true (by first | (with_reducible assumption) | assumption) | (have e_ := (Kd.N_reads' HO_7.out).1; omega))
                     obtain ⟨ua108_0, uc108_0, ua108_1, uc108_1, rfl, ul108_0, ge108_0, ul108_1, ge108_1⟩ := k31_openF hMe108
                     have hv108_0 := hcc108 0 _ rfl
                     rw [Nat.add_zero] at hv108_0
                     replace hv108_0 := Option.some.inj (hv108_0.symm.trans hx108_0)
                     injection hv108_0 with hva_ hvn_ hvc_
                     rw [hva_] at ge108_0
                     rw [hvc_] at ul108_0
                     have HL108_0 := Aside0.mk (show Kd.V k36 36 _ w.heap.size _ _ ((rd_T31 x7_2 x13_5).f0) from Kd.V_mk ul108_0 ge108_0)
                     clear hva_ hvn_ hvc_ ge108_0 ul108_0
                     have hv108_1 := hcc108 1 _ rfl
                     rw [add_field _ _ 1 (by omega)] at hv108_1
                     replace hv108_1 := Option.some.inj (hv108_1.symm.trans hx108_1)
                     injection hv108_1 with hva_ hvn_ hvc_
                     rw [hva_] at ge108_1
                     rw [hvc_] at ul108_1
                     have HL108_1 := Aside0.mk (show Kd.V (Kd.int .i64) 3 _ w.heap.size _ _ ((rd_T31 x7_2 x13_5).f1) from Kd.V_mk ul108_1 ge108_1)
                     clear hva_ hvn_ hvc_ ge108_1 ul108_1 hcc108 hce108
                     have HR108_0 := Aside0.mk hi108_0
                     have HC108_0 := Aside0.mk hl108_0
                     clear hi108_0 hl108_0
                     have HR108_1 := Aside0.mk hi108_1
                     have HC108_1 := Aside0.mk hl108_1
                     clear hi108_1 hl108_1
                     replace p108 := eq_true p108
                     replace q108 := eq_true q108
                     go_wp2_with (first | ((with_reducible refine gate_callee (f := 64) rfl ?_); refine goesL_ (some 50) rfl rfl Try.func64 (by kernel_rfl) rfl #[.agg #[.slice A108_0 ((rd_T31 x7_2 x13_5).f0).length c108_0, .slice A108_1 ((rd_T31 x7_2 x13_5).f1).length c108_1], .int .i64 x10_3] rfl (by (try simp only [List.map_toArray, List.map_cons, List.map_nil]); first | done | rfl | (simp only [List.length_drop, List.length_take]; rfl)) ?_; (with_reducible refine (telamonref17_at.calls k5 _ _ ((rd_T31 x7_2 x13_5).f0) _ _ ((rd_T31 x7_2 x13_5).f1) x10_3 t109 _ ?side1 ?side2 ?side3 ?side4 A20.out).mono ?_); (case side1 => repeat (first | exact (by repeat (first | (with_reducible exact HR108_0.out) | (with_reducible refine Kd.C_alloc ?_ _) | (with_reducible refine Kd.C_drewN ?_ _) | (with_reducible refine Kd.C_drew ?_) | exact HR108_0.out)) | (with_reducible refine Kd.C_alloc ?_ _) | (with_reducible refine Kd.C_drewN ?_ _) | (with_reducible refine Kd.C_drew ?_))); (case side2 => exact HC108_0.out); (case side3 => repeat (first | exact (by repeat (first | (with_reducible exact HR108_1.out) | (with_reducible refine Kd.C_alloc ?_ _) | (with_reducible refine Kd.C_drewN ?_ _) | (with_reducible refine Kd.C_drew ?_) | exact HR108_1.out)) | (with_reducible refine Kd.C_alloc ?_ _) | (with_reducible refine Kd.C_drewN ?_ _) | (with_reducible refine Kd.C_drew ?_))); (case side4 => exact HC108_1.out); rintro e w26 ⟨rfl, hb⟩; refine ⟨_, rfl, ?_⟩; replace HO_6 := Aside0.mk (Kd.R_below (rl_ HO_6) hb); replace HO_7 := Aside0.mk (Kd.N_below (by (with_reducible repeat (first | apply Kd.N_alloc | apply Kd.N_drewN | apply Kd.N_drew)); exact HO_7.out) hb); replace HO_8 := Aside0.mk (Kd.R_below (rl_ HO_8) hb); replace HL108_0 := Aside0.mk (Kd.V_below (by (with_reducible repeat (first | apply Kd.V_alloc | apply Kd.V_drewN | apply Kd.V_drew)); exact HL108_0.out) hb); replace HL108_1 := Aside0.mk (Kd.V_below (by (with_reducible repeat (first | apply Kd.V_alloc | apply Kd.V_drewN | apply Kd.V_drew)); exact HL108_1.out) hb); replace HR108_0 := Aside0.mk (Kd.C_below (by repeat (first | (with_reducible exact HR108_0.out) | (with_reducible refine Kd.C_alloc ?_ _) | (with_reducible refine Kd.C_drewN ?_ _) | (with_reducible refine Kd.C_drew ?_) | exact HR108_0.out)) hb); replace HR108_1 := Aside0.mk (Kd.C_below (by repeat (first | (with_reducible exact HR108_1.out) | (with_reducible refine Kd.C_alloc ?_ _) | (with_reducible refine Kd.C_drewN ?_ _) | (with_reducible refine Kd.C_drew ?_) | exact HR108_1.out)) hb); replace HB := hs_ HB hb; (try clear hb); (try clear hb2); (try clear hk); (try clear hi)))
                     go_roundg k5
                     case measure => have := HJ4.out; have := HK2.out; have := HK3.out; have := HJ11.out; have := HK5.out; omega
                     case rel => exact ⟨(false), (true), (wrap64 (x13_5 + 1)), (by first | rfl | (simp; done) | (simp [*]; done)), (by first | rfl | (simp; done) | (simp [*]; done)), (by first | rfl | (simp; done) | (simp [*]; done)), H', ⟨by have := HJ4.out; have := HK2.out; have := HK3.out; have := HJ11.out; have := HK5.out; omega⟩, ⟨by (with_reducible repeat (first | apply Kd.R_alloc | apply Kd.R_drewN | apply Kd.R_drew)); exact HO_6.out⟩, ⟨by (with_reducible repeat (first | apply Kd.N_alloc | apply Kd.N_drewN | apply Kd.N_drew)); exact HO_7.out⟩, ⟨by (with_reducible repeat (first | apply Kd.R_alloc | apply Kd.R_drewN | apply Kd.R_drew)); exact HO_8.out⟩, ⟨by repeat (first | (with_reducible first | exact HB.out | apply below_alloc | apply pw_below_drewN | apply below_drew1) | exact HB.out)⟩⟩
                    ·replace c25 := Bool.eq_false_iff.mpr c25
                     subst c25
                     have H1 : (telamonref17_Order.l2 k5 x1_4 x6_2 x7_2 x8_2 x9_3 x10_3 false (t109 == 2) (wrap64 (x13_5 + 1))) = some (r1, r2) := by rw [if_neg (show ¬ (false = true) by decide)] at H; exact H
                     clear H
                     have H := H1
                     clear H1
                     have H' := Aside0.mk H
                     clear H
                     have p108 : 0 ≤ (x13_5 : Int) := of_decide_eq_true (by first | (with_reducible assumption) | assumption)
                     have q108 : x13_5 < (x7_2.length : Int) := of_decide_eq_true (by first | (with_reducible assumption) | assumption)
                     obtain ⟨ad108, A108_0, c108_0, A108_1, c108_1, e108, hx108_0, hx108_1, hl108_0, hi108_0, hl108_1, hi108_1⟩ := at_T31 (Kd.N_reads' HO_7.out).2.2 x13_5 p108 q108
                     cases e108
                     obtain ⟨ce108, hce108, hMe108, hcc108⟩ := Kd.N_get HO_7.out z31 x13_5 p108 (by first | exact q108 | exact of_decide_eq_true (by first | (with_reducible assumption) | assumption) | (have e_ := (Kd.N_reads' HO_7.out).1; omega))
                     obtain ⟨ua108_0, uc108_0, ua108_1, uc108_1, rfl, ul108_0, ge108_0, ul108_1, ge108_1⟩ := k31_openF hMe108
                     have hv108_0 := hcc108 0 _ rfl
                     rw [Nat.add_zero] at hv108_0
                     replace hv108_0 := Option.some.inj (hv108_0.symm.trans hx108_0)
                     injection hv108_0 with hva_ hvn_ hvc_
                     rw [hva_] at ge108_0
                     rw [hvc_] at ul108_0
                     have HL108_0 := Aside0.mk (show Kd.V k36 36 _ w.heap.size _ _ ((rd_T31 x7_2 x13_5).f0) from Kd.V_mk ul108_0 ge108_0)
                     clear hva_ hvn_ hvc_ ge108_0 ul108_0
                     have hv108_1 := hcc108 1 _ rfl
                     rw [add_field _ _ 1 (by omega)] at hv108_1
                     replace hv108_1 := Option.some.inj (hv108_1.symm.trans hx108_1)
                     injection hv108_1 with hva_ hvn_ hvc_
                     rw [hva_] at ge108_1
                     rw [hvc_] at ul108_1
                     have HL108_1 := Aside0.mk (show Kd.V (Kd.int .i64) 3 _ w.heap.size _ _ ((rd_T31 x7_2 x13_5).f1) from Kd.V_mk ul108_1 ge108_1)
                     clear hva_ hvn_ hvc_ ge108_1 ul108_1 hcc108 hce108
                     have HR108_0 := Aside0.mk hi108_0
                     have HC108_0 := Aside0.mk hl108_0
                     clear hi108_0 hl108_0
                     have HR108_1 := Aside0.mk hi108_1
                     have HC108_1 := Aside0.mk hl108_1
                     clear hi108_1 hl108_1
                     replace p108 := eq_true p108
                     replace q108 := eq_true q108
                     go_wp2_with (first | ((with_reducible refine gate_callee (f := 64) rfl ?_); refine goesL_ (some 50) rfl rfl Try.func64 (by kernel_rfl) rfl #[.agg #[.slice A108_0 ((rd_T31 x7_2 x13_5).f0).length c108_0, .slice A108_1 ((rd_T31 x7_2 x13_5).f1).length c108_1], .int .i64 x10_3] rfl (by (try simp only [List.map_toArray, List.map_cons, List.map_nil]); first | done | rfl | (simp only [List.length_drop, List.length_take]; rfl)) ?_; (with_reducible refine (telamonref17_at.calls k5 _ _ ((rd_T31 x7_2 x13_5).f0) _ _ ((rd_T31 x7_2 x13_5).f1) x10_3 t109 _ ?side1 ?side2 ?side3 ?side4 A20.out).mono ?_); (case side1 => repeat (first | exact (by repeat (first | (with_reducible exact HR108_0.out) | (with_reducible refine Kd.C_alloc ?_ _) | (with_reducible refine Kd.C_drewN ?_ _) | (with_reducible refine Kd.C_drew ?_) | exact HR108_0.out)) | (with_reducible refine Kd.C_alloc ?_ _) | (with_reducible refine Kd.C_drewN ?_ _) | (with_reducible refine Kd.C_drew ?_))); (case side2 => exact HC108_0.out); (case side3 => repeat (first | exact (by repeat (first | (with_reducible exact HR108_1.out) | (with_reducible refine Kd.C_alloc ?_ _) | (with_reducible refine Kd.C_drewN ?_ _) | (with_reducible refine Kd.C_drew ?_) | exact HR108_1.out)) | (with_reducible refine Kd.C_alloc ?_ _) | (with_reducible refine Kd.C_drewN ?_ _) | (with_reducible refine Kd.C_drew ?_))); (case side4 => exact HC108_1.out); rintro e w27 ⟨rfl, hb⟩; refine ⟨_, rfl, ?_⟩; replace HO_6 := Aside0.mk (Kd.R_below (rl_ HO_6) hb); replace HO_7 := Aside0.mk (Kd.N_below (by (with_reducible repeat (first | apply Kd.N_alloc | apply Kd.N_drewN | apply Kd.N_drew)); exact HO_7.out) hb); replace HO_8 := Aside0.mk (Kd.R_below (rl_ HO_8) hb); replace HL108_0 := Aside0.mk (Kd.V_below (by (with_reducible repeat (first | apply Kd.V_alloc | apply Kd.V_drewN | apply Kd.V_drew)); exact HL108_0.out) hb); replace HL108_1 := Aside0.mk (Kd.V_below (by (with_reducible repeat (first | apply Kd.V_alloc | apply Kd.V_drewN | apply Kd.V_drew)); exact HL108_1.out) hb); replace HR108_0 := Aside0.mk (Kd.C_below (by repeat (first | (with_reducible exact HR108_0.out) | (with_reducible refine Kd.C_alloc ?_ _) | (with_reducible refine Kd.C_drewN ?_ _) | (with_reducible refine Kd.C_drew ?_) | exact HR108_0.out)) hb); replace HR108_1 := Aside0.mk (Kd.C_below (by repeat (first | (with_reducible exact HR108_1.out) | (with_reducible refine Kd.C_alloc ?_ _) | (with_reducible refine Kd.C_drewN ?_ _) | (with_reducible refine Kd.C_drew ?_) | exact HR108_1.out)) hb); replace HB := hs_ HB hb; (try clear hb); (try clear hb2); (try clear hk); (try clear hi)))
                     go_roundg k5
                     case measure => have := HJ4.out; have := HK2.out; have := HK3.out; have := HJ11.out; have := HK5.out; omega
                     case rel => exact ⟨(false), ((t109 == 2)), (wrap64 (x13_5 + 1)), (by first | rfl | (simp; done) | (simp [*]; done)), (by first | rfl | (simp; done) | (simp [*]; done)), (by first | rfl | (simp; done) | (simp [*]; done)), H', ⟨by have := HJ4.out; have := HK2.out; have := HK3.out; have := HJ11.out; have := HK5.out; omega⟩, ⟨by (with_reducible repeat (first | apply Kd.R_alloc | apply Kd.R_drewN | apply Kd.R_drew)); exact HO_6.out⟩, ⟨by (with_reducible repeat (first | apply Kd.N_alloc | apply Kd.N_drewN | apply Kd.N_drew)); exact HO_7.out⟩, ⟨by (with_reducible repeat (first | apply Kd.R_alloc | apply Kd.R_drewN | apply Kd.R_drew)); exact HO_8.out⟩, ⟨by repeat (first | (with_reducible first | exact HB.out | apply below_alloc | apply pw_below_drewN | apply below_drew1) | exact HB.out)⟩⟩
                  ·rw [if_neg c19] at H
                   exact absurd H (by simp)
                 ·rw [if_neg c18] at H
                  have c18b0 : decide (x13_5 < (x7_2.length : Int)) = false := decide_eq_false c18
                  clear c18
                  by_cases c28 : x11_5 = true
                  ·subst c28
                   have H1 : (if x12_5 = true then (telamonref17_Order.l1 k5 x1_4 x6_2 x7_2 x8_2 x10_3 (wrap64 (x10_3 + 1))) else (telamonref17_Order.l1 k5 x1_4 x6_2 x7_2 x8_2 x9_3 (wrap64 (x10_3 + 1)))) = some (r1, r2) := by rw [if_pos rfl] at H; exact H
                   clear H
                   have H := H1
                   clear H1
                   by_cases c29 : x12_5 = true
                   ·subst c29
                    have H1 : (telamonref17_Order.l1 k5 x1_4 x6_2 x7_2 x8_2 x10_3 (wrap64 (x10_3 + 1))) = some (r1, r2) := by rw [if_pos rfl] at H; exact H
                    clear H
                    have H := H1
                    clear H1
                    have H' := Aside0.mk H
                    clear H
                    go_wp2
                    go_roundg k5
                    case measure => have := HJ4.out; have := HK2.out; have := HK3.out; have := HJ11.out; have := HK5.out; omega
                    case rel => exact ⟨(x10_3), (wrap64 (x10_3 + 1)), (by first | rfl | (simp; done) | (simp [*]; done)), (by first | rfl | (simp; done) | (simp [*]; done)), H', ⟨by have := HJ4.out; have := HK2.out; have := HK3.out; have := HJ11.out; have := HK5.out; omega⟩, ⟨by (with_reducible repeat (first | apply Kd.R_alloc | apply Kd.R_drewN | apply Kd.R_drew)); exact HO_6.out⟩, ⟨by (with_reducible repeat (first | apply Kd.N_alloc | apply Kd.N_drewN | apply Kd.N_drew)); exact HO_7.out⟩, ⟨by (with_reducible repeat (first | apply Kd.R_alloc | apply Kd.R_drewN | apply Kd.R_drew)); exact HO_8.out⟩, ⟨by repeat (first | (with_reducible first | exact HB.out | apply below_alloc | apply pw_below_drewN | apply below_drew1) | exact HB.out)⟩⟩
                   ·replace c29 := Bool.eq_false_iff.mpr c29
                    subst c29
                    have H1 : (telamonref17_Order.l1 k5 x1_4 x6_2 x7_2 x8_2 x9_3 (wrap64 (x10_3 + 1))) = some (r1, r2) := by rw [if_neg (show ¬ (false = true) by decide)] at H; exact H
                    clear H
                    have H := H1
                    clear H1
                    have H' := Aside0.mk H
                    clear H
                    go_wp2
                    go_roundg k5
                    case measure => have := HJ4.out; have := HK2.out; have := HK3.out; have := HJ11.out; have := HK5.out; omega
                    case rel => exact ⟨(x9_3), (wrap64 (x10_3 + 1)), (by first | rfl | (simp; done) | (simp [*]; done)), (by first | rfl | (simp; done) | (simp [*]; done)), H', ⟨by have := HJ4.out; have := HK2.out; have := HK3.out; have := HJ11.out; have := HK5.out; omega⟩, ⟨by (with_reducible repeat (first | apply Kd.R_alloc | apply Kd.R_drewN | apply Kd.R_drew)); exact HO_6.out⟩, ⟨by (with_reducible repeat (first | apply Kd.N_alloc | apply Kd.N_drewN | apply Kd.N_drew)); exact HO_7.out⟩, ⟨by (with_reducible repeat (first | apply Kd.R_alloc | apply Kd.R_drewN | apply Kd.R_drew)); exact HO_8.out⟩, ⟨by repeat (first | (with_reducible first | exact HB.out | apply below_alloc | apply pw_below_drewN | apply below_drew1) | exact HB.out)⟩⟩
                  ·replace c28 := Bool.eq_false_iff.mpr c28
                   subst c28
                   have H1 : (telamonref17_Order.l1 k5 x1_4 x6_2 x7_2 x8_2 x9_3 (wrap64 (x10_3 + 1))) = some (r1, r2) := by rw [if_neg (show ¬ (false = true) by decide)] at H; exact H
                   clear H
                   have H := H1
                   clear H1
                   have H' := Aside0.mk H
                   clear H
                   go_wp2
                   go_roundg k5
                   case measure => have := HJ4.out; have := HK2.out; have := HK3.out; have := HJ11.out; have := HK5.out; omega
                   case rel => exact ⟨(x9_3), (wrap64 (x10_3 + 1)), (by first | rfl | (simp; done) | (simp [*]; done)), (by first | rfl | (simp; done) | (simp [*]; done)), H', ⟨by have := HJ4.out; have := HK2.out; have := HK3.out; have := HJ11.out; have := HK5.out; omega⟩, ⟨by (with_reducible repeat (first | apply Kd.R_alloc | apply Kd.R_drewN | apply Kd.R_drew)); exact HO_6.out⟩, ⟨by (with_reducible repeat (first | apply Kd.N_alloc | apply Kd.N_drewN | apply Kd.N_drew)); exact HO_7.out⟩, ⟨by (with_reducible repeat (first | apply Kd.R_alloc | apply Kd.R_drewN | apply Kd.R_drew)); exact HO_8.out⟩, ⟨by repeat (first | (with_reducible first | exact HB.out | apply below_alloc | apply pw_below_drewN | apply below_drew1) | exact HB.out)⟩⟩
              ·rw [if_neg c16] at H
               exact absurd H (by simp)
             ·rw [if_neg c15] at H
              exact absurd H (by simp)
            ·replace c14 := Bool.eq_false_iff.mpr c14
             subst c14
             have H1 : (if x9_3 < 0 then (some (([] : List Int), false)) else (if 0 ≤ x9_3 then (if x9_3 < (x8_2.length : Int) then (if x6_2.length < 17592186044416 then (telamonref17_Order.l3 kj11 x1_4 (x6_2 ++ [x9_3]) x7_2 (x8_2.set (x9_3 : Int).toNat true) x9_3 ([] : List (S31)) 0) else (none)) else (none)) else (none))) = some (r1, r2) := by rw [if_neg (show ¬ (false = true) by decide)] at H; exact H
             clear H
             have H := H1
             clear H1
             by_cases c30 : x9_3 < 0
             ·rw [if_pos c30] at H
              have c30b0 : decide (x9_3 < 0) = true := decide_eq_true c30
              clear c30
              simp only [Option.some.injEq, Prod.mk.injEq] at H
              obtain ⟨rfl, rfl⟩ := H
              go_wp2
              go_ret2
              exact ⟨_, by first | rfl | (simp [errW_none, errW_some] <;> rfl) | (simp [*, errW_none, errW_some] <;> rfl), by first | exact Kd.R_nil _ _ _ _ _ | exact Kd.N_nil _ _ _ _ _ | exact Kd.V_nil _ _ _ _ _ | exact Kd.Q_nil _ _ _ _ _ | exact Kd.S_nil _ _ _ _ _, by repeat (first | (with_reducible first | exact HB.out | apply below_alloc | apply pw_below_drewN | apply below_drew1) | exact HB.out)⟩
             ·rw [if_neg c30] at H
              have c30b0 : decide (x9_3 < 0) = false := decide_eq_false c30
              clear c30
              by_cases c31 : 0 ≤ x9_3
              ·rw [if_pos c31] at H
               have c31b0 : decide (0 ≤ x9_3) = true := decide_eq_true c31
               clear c31
               by_cases c32 : x9_3 < (x8_2.length : Int)
               ·rw [if_pos c32] at H
                have c32b0 : decide (x9_3 < (x8_2.length : Int)) = true := decide_eq_true c32
                clear c32
                obtain ⟨y110, hy110⟩ : ∃ y_ : List Bool, y_ = (x8_2.set (x9_3 : Int).toNat true) := ⟨_, rfl⟩
                replace H : (if x6_2.length < 17592186044416 then (telamonref17_Order.l3 kj11 x1_4 (x6_2 ++ [x9_3]) x7_2 y110 x9_3 ([] : List (S31)) 0) else (none)) = some (r1, r2) := by first | (rw [hy110]; with_reducible exact H) | (have H2_ := (Option.bind_some _ _).symm.trans H; rw [hy110]; with_reducible exact H2_) | (have H2_ := (Option.bind_some _ _).symm.trans H; with_reducible exact H2_) | with_reducible exact H | (rw [hy110]; exact H) | exact H
                have Ny110 := Aside0.mk hy110
                clear hy110
                by_cases c34 : x6_2.length < 17592186044416
                ·rw [if_pos c34] at H
                 have LMc34 := Aside0.mk c34
                 clear c34
                 obtain ⟨y111, hy111⟩ : ∃ y_ : List Int, y_ = (x6_2 ++ [x9_3]) := ⟨_, rfl⟩
                 replace H : (telamonref17_Order.l3 kj11 x1_4 y111 x7_2 y110 x9_3 ([] : List (S31)) 0) = some (r1, r2) := by first | (rw [hy111]; with_reducible exact H) | (have H2_ := (Option.bind_some _ _).symm.trans H; rw [hy111]; with_reducible exact H2_) | (have H2_ := (Option.bind_some _ _).symm.trans H; with_reducible exact H2_) | with_reducible exact H | (rw [hy111]; exact H) | exact H
                 have Ny111 := Aside0.mk hy111
                 clear hy111
                 have H' := Aside0.mk H
                 clear H
                 have p33 : 0 ≤ (x9_3 : Int) := of_decide_eq_true (by first | (with_reducible assumption) | assumption)
                 have q33 : (x9_3 : Int) < ((x8_2.length : Int) : Int) := of_decide_eq_true (by first | (with_reducible assumption) | assumption)
                 obtain ⟨go33, co33, eo33, gb33, gl33, cl33, HG33⟩ := Kd.R_form HO_8.out (by omega)
                 (first | cases eo33 | (injection eo33 with ea_ en_ ec_; (first | subst ea_ | (injection ea_ with ea_; subst ea_)); subst ec_; clear en_))
                 have GB33 := Aside0.mk gb33
                 have GG33 := Aside0.mk HG33
                 clear gb33 gl33 HG33
                 obtain ⟨hx33_0, hf33_0⟩ := Kd.R_celln false HO_8.out (x9_3 : Int) p33 q33
                 replace p33 := eq_true p33
                 replace q33 := eq_true q33
                 have HP35 := Kd.R_putg HO_8.out (x9_3 : Int) true
                 go_wp2_with (first | ((with_reducible refine gate_store (t := 4) (p := 70) rfl ?_); refine store_event (t := 4) (p := 70) (v := ?vo_w36) (w1 := (wc.setCell ⟨go33, (x9_3 : Int).toNat, none⟩ (.bool true))) ?hg ?ho ?hn ?hr ?_; (case ho => rfl); (case hg => rfl); (case hn => rfl); (case hr => first | (go_simp; done) | (go_simp; rfl)); intro w36 hw; have hg : wc.grownBy w36 (some go33) := (by rw [hw]; exact HP35.2); have hp_ : Kd.R Kd.bool 4 w36 w.heap.size (fun k_ => (w.heap.size ≤ k_)) (.slice (some ⟨go33, 0, none⟩) x8_2.length co33) y110 := (by rw [hw, Ny110.out]; exact HP35.1); clear HP35; replace HO_6 := Aside0.mk (Kd.R_over' (v := (.slice (some ⟨go33, 0, none⟩) x8_2.length co33)) (rl_ HO_6) (Kd.R_typed HO_8.out) (by decide) hg); replace HO_7 := Aside0.mk (Kd.N_afterv (v := (.slice (some ⟨go33, 0, none⟩) x8_2.length co33)) (v1 := (.slice (some ⟨go33, 0, none⟩) x8_2.length co33)) (ok := (fun k_ => (P0_ k_ ∨ w.heap.size ≤ k_) ∧ some k_ ≠ (u6 : Value).ownBlock)) (by (with_reducible repeat (first | apply Kd.N_alloc | apply Kd.N_drewN | apply Kd.N_drew)); exact Kd.N_mono HO_7.out (fun _ hk => ⟨⟨hk.1, hk.2.1⟩, hk.2.2⟩)) hg (.inl rfl)); replace HO_8 := Aside0.mk (hp_); replace HB := Aside0.mk ((by rw [hw]; exact below_set (HB.out) GB33.out : Below w.heap.size w w36)); clear hg hw hp_) | ((with_reducible refine gate_builtin (b := .append) (xs := #[.tmp 71, .tmp 73]) rfl ?_); at_builtin; refine Kd.R_append (Kd.int .i64) (w0 := w) w.heap.size rfl (.tmp 71) (.tmp 73) 29 3 (.int .i64 0) 8 rfl Try.underlying29 info3 rfl (by decide) (by omega) u6 x6_2 x9_3 [.int .i64 x9_3] (fun k_ => (w.heap.size ≤ k_)) (fun _ => False) rfl rfl ?aP (fun _ hk => hk.elim) ?aF ?aO ?aB ?aS ?aL ?_; (case aP => exact rfl); (case aB => exact (bl_ HB)); (case aF => exact (fun k_ hk => (Nat.le_trans (below_size (bl_ HB)) hk))); (case aO => exact (rl_ HO_6)); (case aS => exact (below_size (bl_ HB))); (case aL => have := LMc34.out; omega); intro v112 w37 ho hb hg hat; rw [← Ny111.out] at ho; have HO113 := Aside0.mk (ho); replace HO_7 := Aside0.mk (Kd.N_afterv (ok := (fun k_ => (P0_ k_ ∨ w.heap.size ≤ k_) ∧ some k_ ≠ (.slice (some ⟨go33, 0, none⟩) x8_2.length co33 : Value).ownBlock)) (by (with_reducible repeat (first | apply Kd.N_alloc | apply Kd.N_drewN | apply Kd.N_drew)); exact Kd.N_mono HO_7.out (fun _ hk => ⟨⟨hk.1.1, hk.2⟩, hk.1.2⟩)) hg hat); replace HO_8 := Aside0.mk (Kd.R_over' (rl_ HO_8) (Kd.R_typed (rl_ HO_6)) (by decide) hg); replace HB := Aside0.mk (hb); clear HO_6; clear ho hb hg hat))
                 go_loopg [15, 16] kj11 (fun kq v15 v16 w' => ∃ (x15_5 : List (S31)) (x16_5 : Int), v16 = .int .i64 x16_5 ∧ Aside0 (telamonref17_Order.l3 kq x1_4 y111 x7_2 y110 x9_3 x15_5 x16_5 = some (r1, r2)) ∧ Aside0 (kq ≤ kj11) ∧ Aside0 (Kd.R (Kd.int .i64) 3 w' w.heap.size (fun k_ => (w.heap.size ≤ k_)) v112 y111) ∧ Aside0 (Kd.N k31 31 w' w.heap.size (fun k_ => (P0_ k_ ∨ w.heap.size ≤ k_) ∧ some k_ ≠ (v112 : Value).ownBlock ∧ some k_ ≠ ((.slice (some ⟨go33, 0, none⟩) x8_2.length co33) : Value).ownBlock ∧ some k_ ≠ (v15 : Value).ownBlock) (.slice Ao11 x7_2.length co11) x7_2) ∧ Aside0 (Kd.R Kd.bool 4 w' w.heap.size (fun k_ => (w.heap.size ≤ k_)) (.slice (some ⟨go33, 0, none⟩) x8_2.length co33) y110) ∧ Aside0 (Kd.N k31 31 w' w.heap.size (fun k_ => (P0_ k_ ∨ w.heap.size ≤ k_) ∧ some k_ ≠ (v112 : Value).ownBlock ∧ some k_ ≠ ((.slice Ao11 x7_2.length co11) : Value).ownBlock ∧ some k_ ≠ ((.slice (some ⟨go33, 0, none⟩) x8_2.length co33) : Value).ownBlock) v15 x15_5) ∧ Aside0 (Below w.heap.size w w'))
                 case atStart => exact ⟨(([] : List (S31))), (0), (by first | rfl | (simp; done) | (simp [*]; done)), H', ⟨Nat.le_refl _⟩, ⟨by (with_reducible repeat (first | apply Kd.R_alloc | apply Kd.R_drewN | apply Kd.R_drew)); exact HO113.out⟩, ⟨by (with_reducible repeat (first | apply Kd.N_alloc | apply Kd.N_drewN | apply Kd.N_drew)); exact Kd.N_mono HO_7.out (fun _ hk => ⟨hk.1.1, ⟨hk.2, ⟨hk.1.2, (by simp [Value.ownBlock])⟩⟩⟩)⟩, ⟨by (with_reducible repeat (first | apply Kd.R_alloc | apply Kd.R_drewN | apply Kd.R_drew)); exact HO_8.out⟩, ⟨by first | exact Kd.R_nil _ _ _ _ _ | exact Kd.N_nil _ _ _ _ _ | exact Kd.V_nil _ _ _ _ _ | exact Kd.Q_nil _ _ _ _ _ | exact Kd.S_nil _ _ _ _ _⟩, ⟨by repeat (first | (with_reducible first | exact HB.out | apply below_alloc | apply pw_below_drewN | apply below_drew1) | exact HB.out)⟩⟩
                 case round =>
                  clear H'
                  (try clear c1); (try clear p1); (try clear q1); (try clear hx1); (try clear c2); (try clear p2); (try clear c3); (try clear p3); (try clear q3); (try clear hx3); (try clear hf3); (try clear c4); (try clear c4b0); (try clear c4b1); (try clear c6); (try clear p6); (try clear c9); (try clear c9b0); (try clear c10); (try clear c10b0); (try clear c10b1); (try clear p10); (try clear q10); (try clear hx10); (try clear c13); (try clear c13b0); (try clear c14); (try clear c15); (try clear c15b0); (try clear c16); (try clear c16b0); (try clear c18); (try clear c18b0); (try clear c19); (try clear c19b0); (try clear c21); (try clear c22); (try clear c25); (try clear c28); (try clear c29); (try clear c30); (try clear c30b0); (try clear c31); (try clear c31b0); (try clear c32); (try clear c32b0); (try clear p33); (try clear q33); (try clear hx33); (try clear hf33); (try clear c34); (try clear hx107_0); (try clear hx108_0); (try clear hx108_1); (try clear hx33_0); (try clear p1); (try clear p10); (try clear p107); (try clear p108); (try clear p2); (try clear p33); (try clear q1); (try clear q10); (try clear q107); (try clear q108); (try clear q33)
                  obtain ⟨x15_5, x16_5, rfl, HA, HK5, HO_6, HO_7, HO_8, HO_15, HB⟩ := hrel
                  have hl8_5 := (Kd.R_reads' HO_8.out).1
                  rw [hl8_5] at HO_8
                  (try simp only [hl8_5])
                  (try simp only [hl8_5] at HO_6)
                  (try simp only [hl8_5] at HO_7)
                  (try simp only [hl8_5] at HO_15)
                  cases gk with
                  | zero => exact absurd HA.out (by simp [telamonref17_Order.l3])
                  | succ k5 =>
                   have H := HA.out
                   clear HA
                   simp only [telamonref17_Order.l3] at H
                   by_cases c38 : x16_5 < (x7_2.length : Int)
                   ·rw [if_pos c38] at H
                    have c38b0 : decide (x16_5 < (x7_2.length : Int)) = true := decide_eq_true c38
                    clear c38
                    by_cases c39 : 0 ≤ x16_5
                    ·rw [if_pos c39] at H
                     have c39b0 : decide (0 ≤ x16_5) = true := decide_eq_true c39
                     clear c39
                     replace H := Option.bind_eq_some_iff.mp H
                     obtain ⟨t115, A400, H⟩ := H
                     replace H : (if t115 = 2 then (telamonref17_Order.l3 k5 x1_4 y111 x7_2 y110 x9_3 x15_5 (wrap64 (x16_5 + 1))) else (if x15_5.length < 2932031007402 then (telamonref17_Order.l3 k5 x1_4 y111 x7_2 y110 x9_3 (x15_5 ++ [(⟨(rd_T31 x7_2 x16_5).f0, (rd_T31 x7_2 x16_5).f1⟩ : S31)]) (wrap64 (x16_5 + 1))) else (none))) = some (r1, r2) := H
                     have A40 := Aside0.mk A400
                     clear A400
                     by_cases c41 : t115 = 2
                     ·rw [if_pos c41] at H
                      have c41b0 : (t115 == 2) = true := beq_iff_eq.mpr c41
                      have c41b1 : (t115 != 2) = false := bne_eq_false_iff_eq.mpr c41
                      clear c41
                      have H' := Aside0.mk H
                      clear H
                      have p114 : 0 ≤ (x16_5 : Int) := of_decide_eq_true (by first | (with_reducible assumption) | assumption)
                      have q114 : x16_5 < (x7_2.length : Int) := of_decide_eq_true (by first | (with_reducible assumption) | assumption)
                      obtain ⟨ad114, A114_0, c114_0, A114_1, c114_1, e114, hx114_0, hx114_1, hl114_0, hi114_0, hl114_1, hi114_1⟩ := at_T31 (Kd.N_reads' HO_7.out).2.2 x16_5 p114 q114
                      cases e114
                      obtain ⟨ce114, hce114, hMe114, hcc114⟩ := Kd.N_get HO_7.out z31 x16_5 p114 (by first | exact q114 | exact of_decide_eq_true (by first | (with_reducible assumption) | assumption) | (have e_ := (Kd.N_reads' HO_7.out).1; omega))
                      obtain ⟨ua114_0, uc114_0, ua114_1, uc114_1, rfl, ul114_0, ge114_0, ul114_1, ge114_1⟩ := k31_openF hMe114
                      have hv114_0 := hcc114 0 _ rfl
                      rw [Nat.add_zero] at hv114_0
                      replace hv114_0 := Option.some.inj (hv114_0.symm.trans hx114_0)
                      injection hv114_0 with hva_ hvn_ hvc_
                      rw [hva_] at ge114_0
                      rw [hvc_] at ul114_0
                      have HL114_0 := Aside0.mk (show Kd.V k36 36 _ w.heap.size _ _ ((rd_T31 x7_2 x16_5).f0) from Kd.V_mk ul114_0 ge114_0)
                      clear hva_ hvn_ hvc_ ge114_0 ul114_0
                      have hv114_1 := hcc114 1 _ rfl
                      rw [add_field _ _ 1 (by omega)] at hv114_1
                      replace hv114_1 := Option.some.inj (hv114_1.symm.trans hx114_1)
                      injection hv114_1 with hva_ hvn_ hvc_
                      rw [hva_] at ge114_1
                      rw [hvc_] at ul114_1
                      have HL114_1 := Aside0.mk (show Kd.V (Kd.int .i64) 3 _ w.heap.size _ _ ((rd_T31 x7_2 x16_5).f1) from Kd.V_mk ul114_1 ge114_1)
                      clear hva_ hvn_ hvc_ ge114_1 ul114_1 hcc114 hce114
                      have HR114_0 := Aside0.mk hi114_0
                      have HC114_0 := Aside0.mk hl114_0
                      clear hi114_0 hl114_0
                      have HR114_1 := Aside0.mk hi114_1
                      have HC114_1 := Aside0.mk hl114_1
                      clear hi114_1 hl114_1
                      replace p114 := eq_true p114
                      replace q114 := eq_true q114
                      go_wp2_with (first | ((with_reducible refine gate_callee (f := 64) rfl ?_); refine goesL_ (some 86) rfl rfl Try.func64 (by kernel_rfl) rfl #[.agg #[.slice A114_0 ((rd_T31 x7_2 x16_5).f0).length c114_0, .slice A114_1 ((rd_T31 x7_2 x16_5).f1).length c114_1], .int .i64 x9_3] rfl (by (try simp only [List.map_toArray, List.map_cons, List.map_nil]); first | done | rfl | (simp only [List.length_drop, List.length_take]; rfl)) ?_; (with_reducible refine (telamonref17_at.calls k5 _ _ ((rd_T31 x7_2 x16_5).f0) _ _ ((rd_T31 x7_2 x16_5).f1) x9_3 t115 _ ?side1 ?side2 ?side3 ?side4 A40.out).mono ?_); (case side1 => repeat (first | exact (by repeat (first | (with_reducible exact HR114_0.out) | (with_reducible refine Kd.C_alloc ?_ _) | (with_reducible refine Kd.C_drewN ?_ _) | (with_reducible refine Kd.C_drew ?_) | exact HR114_0.out)) | (with_reducible refine Kd.C_alloc ?_ _) | (with_reducible refine Kd.C_drewN ?_ _) | (with_reducible refine Kd.C_drew ?_))); (case side2 => exact HC114_0.out); (case side3 => repeat (first | exact (by repeat (first | (with_reducible exact HR114_1.out) | (with_reducible refine Kd.C_alloc ?_ _) | (with_reducible refine Kd.C_drewN ?_ _) | (with_reducible refine Kd.C_drew ?_) | exact HR114_1.out)) | (with_reducible refine Kd.C_alloc ?_ _) | (with_reducible refine Kd.C_drewN ?_ _) | (with_reducible refine Kd.C_drew ?_))); (case side4 => exact HC114_1.out); rintro e w42 ⟨rfl, hb⟩; refine ⟨_, rfl, ?_⟩; replace HO_6 := Aside0.mk (Kd.R_below (rl_ HO_6) hb); replace HO_7 := Aside0.mk (Kd.N_below (by (with_reducible repeat (first | apply Kd.N_alloc | apply Kd.N_drewN | apply Kd.N_drew)); exact HO_7.out) hb); replace HO_8 := Aside0.mk (Kd.R_below (rl_ HO_8) hb); replace HO_15 := Aside0.mk (Kd.N_below (by (with_reducible repeat (first | apply Kd.N_alloc | apply Kd.N_drewN | apply Kd.N_drew)); exact HO_15.out) hb); replace HL114_0 := Aside0.mk (Kd.V_below (by (with_reducible repeat (first | apply Kd.V_alloc | apply Kd.V_drewN | apply Kd.V_drew)); exact HL114_0.out) hb); replace HL114_1 := Aside0.mk (Kd.V_below (by (with_reducible repeat (first | apply Kd.V_alloc | apply Kd.V_drewN | apply Kd.V_drew)); exact HL114_1.out) hb); replace HR114_0 := Aside0.mk (Kd.C_below (by repeat (first | (with_reducible exact HR114_0.out) | (with_reducible refine Kd.C_alloc ?_ _) | (with_reducible refine Kd.C_drewN ?_ _) | (with_reducible refine Kd.C_drew ?_) | exact HR114_0.out)) hb); replace HR114_1 := Aside0.mk (Kd.C_below (by repeat (first | (with_reducible exact HR114_1.out) | (with_reducible refine Kd.C_alloc ?_ _) | (with_reducible refine Kd.C_drewN ?_ _) | (with_reducible refine Kd.C_drew ?_) | exact HR114_1.out)) hb); replace HB := hs_ HB hb; (try clear hb); (try clear hb2); (try clear hk); (try clear hi)))
                      (try simp only [← hl8_5])
                      go_roundg k5
                      case measure => have := HJ4.out; have := HK2.out; have := HK3.out; have := HJ11.out; have := HK5.out; omega
                      case rel => exact ⟨(x15_5), (wrap64 (x16_5 + 1)), (by first | rfl | (simp; done) | (simp [*]; done)), H', ⟨by have := HJ4.out; have := HK2.out; have := HK3.out; have := HJ11.out; have := HK5.out; omega⟩, ⟨by (try simp only [hl8_5]); (with_reducible repeat (first | apply Kd.R_alloc | apply Kd.R_drewN | apply Kd.R_drew)); exact HO_6.out⟩, ⟨by (try simp only [hl8_5]); (with_reducible repeat (first | apply Kd.N_alloc | apply Kd.N_drewN | apply Kd.N_drew)); exact HO_7.out⟩, ⟨by (try simp only [hl8_5]); (with_reducible repeat (first | apply Kd.R_alloc | apply Kd.R_drewN | apply Kd.R_drew)); exact HO_8.out⟩, ⟨by (try simp only [hl8_5]); (with_reducible repeat (first | apply Kd.N_alloc | apply Kd.N_drewN | apply Kd.N_drew)); exact HO_15.out⟩, ⟨by repeat (first | (with_reducible first | exact HB.out | apply below_alloc | apply pw_below_drewN | apply below_drew1) | exact HB.out)⟩⟩
                     ·rw [if_neg c41] at H
                      have c41b0 : (t115 == 2) = false := beq_eq_false_iff_ne.mpr c41
                      have c41b1 : (t115 != 2) = true := bne_iff_ne.mpr c41
                      by_cases c43 : x15_5.length < 2932031007402
                      ·rw [if_pos c43] at H
                       have LMc43 := Aside0.mk c43
                       clear c43
                       obtain ⟨y117, hy117⟩ : ∃ y_ : List (S31), y_ = (x15_5 ++ [(⟨(rd_T31 x7_2 x16_5).f0, (rd_T31 x7_2 x16_5).f1⟩ : S31)]) := ⟨_, rfl⟩
                       replace H : (telamonref17_Order.l3 k5 x1_4 y111 x7_2 y110 x9_3 y117 (wrap64 (x16_5 + 1))) = some (r1, r2) := by first | (rw [hy117]; with_reducible exact H) | (have H2_ := (Option.bind_some _ _).symm.trans H; rw [hy117]; with_reducible exact H2_) | (have H2_ := (Option.bind_some _ _).symm.trans H; with_reducible exact H2_) | with_reducible exact H | (rw [hy117]; exact H) | exact H
                       have Ny117 := Aside0.mk hy117
                       clear hy117
                       have H' := Aside0.mk H
                       clear H
                       have p114 : 0 ≤ (x16_5 : Int) := of_decide_eq_true (by first | (with_reducible assumption) | assumption)
                       have q114 : x16_5 < (x7_2.length : Int) := of_decide_eq_true (by first | (with_reducible assumption) | assumption)
                       obtain ⟨ad114, A114_0, c114_0, A114_1, c114_1, e114, hx114_0, hx114_1, hl114_0, hi114_0, hl114_1, hi114_1⟩ := at_T31 (Kd.N_reads' HO_7.out).2.2 x16_5 p114 q114
                       cases e114
                       obtain ⟨ce114, hce114, hMe114, hcc114⟩ := Kd.N_get HO_7.out z31 x16_5 p114 (by first | exact q114 | exact of_decide_eq_true (by first | (with_reducible assumption) | assumption) | (have e_ := (Kd.N_reads' HO_7.out).1; omega))
                       obtain ⟨ua114_0, uc114_0, ua114_1, uc114_1, rfl, ul114_0, ge114_0, ul114_1, ge114_1⟩ := k31_openF hMe114
                       have hv114_0 := hcc114 0 _ rfl
                       rw [Nat.add_zero] at hv114_0
                       replace hv114_0 := Option.some.inj (hv114_0.symm.trans hx114_0)
                       injection hv114_0 with hva_ hvn_ hvc_
                       rw [hva_] at ge114_0
                       rw [hvc_] at ul114_0
                       have HL114_0 := Aside0.mk (show Kd.V k36 36 _ w.heap.size _ _ ((rd_T31 x7_2 x16_5).f0) from Kd.V_mk ul114_0 ge114_0)
                       clear hva_ hvn_ hvc_ ge114_0 ul114_0
                       have hv114_1 := hcc114 1 _ rfl
                       rw [add_field _ _ 1 (by omega)] at hv114_1
                       replace hv114_1 := Option.some.inj (hv114_1.symm.trans hx114_1)
                       injection hv114_1 with hva_ hvn_ hvc_
                       rw [hva_] at ge114_1
                       rw [hvc_] at ul114_1
                       have HL114_1 := Aside0.mk (show Kd.V (Kd.int .i64) 3 _ w.heap.size _ _ ((rd_T31 x7_2 x16_5).f1) from Kd.V_mk ul114_1 ge114_1)
                       clear hva_ hvn_ hvc_ ge114_1 ul114_1 hcc114 hce114
                       have HR114_0 := Aside0.mk hi114_0
                       have HC114_0 := Aside0.mk hl114_0
                       clear hi114_0 hl114_0
                       have HR114_1 := Aside0.mk hi114_1
                       have HC114_1 := Aside0.mk hl114_1
                       clear hi114_1 hl114_1
                       replace p114 := eq_true p114
                       replace q114 := eq_true q114
                       go_wp2_with (first | ((with_reducible refine gate_callee (f := 64) rfl ?_); refine goesL_ (some 86) rfl rfl Try.func64 (by kernel_rfl) rfl #[.agg #[.slice A114_0 ((rd_T31 x7_2 x16_5).f0).length c114_0, .slice A114_1 ((rd_T31 x7_2 x16_5).f1).length c114_1], .int .i64 x9_3] rfl (by (try simp only [List.map_toArray, List.map_cons, List.map_nil]); first | done | rfl | (simp only [List.length_drop, List.length_take]; rfl)) ?_; (with_reducible refine (telamonref17_at.calls k5 _ _ ((rd_T31 x7_2 x16_5).f0) _ _ ((rd_T31 x7_2 x16_5).f1) x9_3 t115 _ ?side1 ?side2 ?side3 ?side4 A40.out).mono ?_); (case side1 => repeat (first | exact (by repeat (first | (with_reducible exact HR114_0.out) | (with_reducible refine Kd.C_alloc ?_ _) | (with_reducible refine Kd.C_drewN ?_ _) | (with_reducible refine Kd.C_drew ?_) | exact HR114_0.out)) | (with_reducible refine Kd.C_alloc ?_ _) | (with_reducible refine Kd.C_drewN ?_ _) | (with_reducible refine Kd.C_drew ?_))); (case side2 => exact HC114_0.out); (case side3 => repeat (first | exact (by repeat (first | (with_reducible exact HR114_1.out) | (with_reducible refine Kd.C_alloc ?_ _) | (with_reducible refine Kd.C_drewN ?_ _) | (with_reducible refine Kd.C_drew ?_) | exact HR114_1.out)) | (with_reducible refine Kd.C_alloc ?_ _) | (with_reducible refine Kd.C_drewN ?_ _) | (with_reducible refine Kd.C_drew ?_))); (case side4 => exact HC114_1.out); rintro e w44 ⟨rfl, hb⟩; refine ⟨_, rfl, ?_⟩; replace HO_6 := Aside0.mk (Kd.R_below (rl_ HO_6) hb); replace HO_7 := Aside0.mk (Kd.N_below (by (with_reducible repeat (first | apply Kd.N_alloc | apply Kd.N_drewN | apply Kd.N_drew)); exact HO_7.out) hb); replace HO_8 := Aside0.mk (Kd.R_below (rl_ HO_8) hb); replace HO_15 := Aside0.mk (Kd.N_below (by (with_reducible repeat (first | apply Kd.N_alloc | apply Kd.N_drewN | apply Kd.N_drew)); exact HO_15.out) hb); replace HL114_0 := Aside0.mk (Kd.V_below (by (with_reducible repeat (first | apply Kd.V_alloc | apply Kd.V_drewN | apply Kd.V_drew)); exact HL114_0.out) hb); replace HL114_1 := Aside0.mk (Kd.V_below (by (with_reducible repeat (first | apply Kd.V_alloc | apply Kd.V_drewN | apply Kd.V_drew)); exact HL114_1.out) hb); replace HR114_0 := Aside0.mk (Kd.C_below (by repeat (first | (with_reducible exact HR114_0.out) | (with_reducible refine Kd.C_alloc ?_ _) | (with_reducible refine Kd.C_drewN ?_ _) | (with_reducible refine Kd.C_drew ?_) | exact HR114_0.out)) hb); replace HR114_1 := Aside0.mk (Kd.C_below (by repeat (first | (with_reducible exact HR114_1.out) | (with_reducible refine Kd.C_alloc ?_ _) | (with_reducible refine Kd.C_drewN ?_ _) | (with_reducible refine Kd.C_drew ?_) | exact HR114_1.out)) hb); replace HB := hs_ HB hb; (try clear hb); (try clear hb2); (try clear hk); (try clear hi); have p116 : 0 ≤ (x16_5 : Int) := of_decide_eq_true (by first | (with_reducible assumption) | assumption); have q116 : x16_5 < (x7_2.length : Int) := of_decide_eq_true (by first | (with_reducible assumption) | assumption); obtain ⟨ad116, A116_0, c116_0, A116_1, c116_1, e116, hx116_0, hx116_1, hl116_0, hi116_0, hl116_1, hi116_1⟩ := at_T31 (Kd.N_reads' HO_7.out).2.2 x16_5 p116 q116; obtain rfl : ad114 = ad116 := (by injection e116); obtain ⟨ce116, hce116, hMe116, hcc116⟩ := Kd.N_get HO_7.out z31 x16_5 p116 (by first | exact q116 | exact of_decide_eq_true (by first | (with_reducible assumption) | assumption) | (have e_ := (Kd.N_reads' HO_7.out).1; omega)); obtain ⟨ua116_0, uc116_0, ua116_1, uc116_1, rfl, ul116_0, ge116_0, ul116_1, ge116_1⟩ := k31_openF hMe116; have hv116_0 := hcc116 0 _ rfl; rw [Nat.add_zero] at hv116_0; replace hv116_0 := Option.some.inj (hv116_0.symm.trans hx116_0); injection hv116_0 with hva_ hvn_ hvc_; rw [hva_] at ge116_0; rw [hvc_] at ul116_0; have HL116_0 := Aside0.mk (show Kd.V k36 36 _ w.heap.size _ _ ((rd_T31 x7_2 x16_5).f0) from Kd.V_mk ul116_0 ge116_0); clear hva_ hvn_ hvc_ ge116_0 ul116_0; have hv116_1 := hcc116 1 _ rfl; rw [add_field _ _ 1 (by omega)] at hv116_1; replace hv116_1 := Option.some.inj (hv116_1.symm.trans hx116_1); injection hv116_1 with hva_ hvn_ hvc_; rw [hva_] at ge116_1; rw [hvc_] at ul116_1; have HL116_1 := Aside0.mk (show Kd.V (Kd.int .i64) 3 _ w.heap.size _ _ ((rd_T31 x7_2 x16_5).f1) from Kd.V_mk ul116_1 ge116_1); clear hva_ hvn_ hvc_ ge116_1 ul116_1; clear hcc116 hce116; have HR116_0 := Aside0.mk hi116_0; have HC116_0 := Aside0.mk hl116_0; clear hi116_0 hl116_0; have HR116_1 := Aside0.mk hi116_1; have HC116_1 := Aside0.mk hl116_1; clear hi116_1 hl116_1; replace p116 := eq_true p116; replace q116 := eq_true q116) | ((with_reducible refine gate_builtin (b := .append) (xs := #[.tmp 88, .tmp 93]) rfl ?_); at_builtin; refine Kd.N_append k31 (w0 := w) w.heap.size rfl (.tmp 88) (.tmp 93) 22 31 (.agg #[(.slice none 0 0), (.slice none 0 0)]) 48 rfl Try.underlying22 info31 rfl (by decide) (by omega) u15 x15_5 (⟨(rd_T31 x7_2 x16_5).f0, (rd_T31 x7_2 x16_5).f1⟩ : S31) [.slice A116_0 ((rd_T31 x7_2 x16_5).f0).length c116_0, .slice A116_1 ((rd_T31 x7_2 x16_5).f1).length c116_1] (fun k_ => (P0_ k_ ∨ w.heap.size ≤ k_) ∧ some k_ ≠ (v112 : Value).ownBlock ∧ some k_ ≠ (.slice (some ad114) x7_2.length co11 : Value).ownBlock ∧ some k_ ≠ (.slice (some ⟨go33, 0, none⟩) y110.length co33 : Value).ownBlock) (fun k_ => ((fun k_ => (P0_ k_ ∨ w.heap.size ≤ k_) ∧ some k_ ≠ (v112 : Value).ownBlock ∧ some k_ ≠ (.slice (some ad114) x7_2.length co11 : Value).ownBlock ∧ some k_ ≠ (.slice (some ⟨go33, 0, none⟩) y110.length co33 : Value).ownBlock)) k_ ∧ some k_ ≠ (u15 : Value).ownBlock) rfl rfl ?aP (fun _ hk => hk) ?aF ?aO ?aB ?aS ?aL ?_; (case aP => exact (k31_mkF _ _ (⟨(rd_T31 x7_2 x16_5).f0, (rd_T31 x7_2 x16_5).f1⟩ : S31) (Kd.V_reads' (Kd.V_mono (ok' := (fun k_ => ((fun k_ => (P0_ k_ ∨ w.heap.size ≤ k_) ∧ some k_ ≠ (v112 : Value).ownBlock ∧ some k_ ≠ (.slice (some ad114) x7_2.length co11 : Value).ownBlock ∧ some k_ ≠ (.slice (some ⟨go33, 0, none⟩) y110.length co33 : Value).ownBlock)) k_ ∧ some k_ ≠ (u15 : Value).ownBlock)) (HL116_0.out) (fun k_ hk => ⟨⟨hk.1.1, ⟨hk.1.2.1, ⟨hk.2, hk.1.2.2.1⟩⟩⟩, hk.1.2.2.2⟩))).2.1 (Kd.V_F (Kd.V_mono (ok' := (fun k_ => ((fun k_ => (P0_ k_ ∨ w.heap.size ≤ k_) ∧ some k_ ≠ (v112 : Value).ownBlock ∧ some k_ ≠ (.slice (some ad114) x7_2.length co11 : Value).ownBlock ∧ some k_ ≠ (.slice (some ⟨go33, 0, none⟩) y110.length co33 : Value).ownBlock)) k_ ∧ some k_ ≠ (u15 : Value).ownBlock)) (HL116_0.out) (fun k_ hk => ⟨⟨hk.1.1, ⟨hk.1.2.1, ⟨hk.2, hk.1.2.2.1⟩⟩⟩, hk.1.2.2.2⟩))) (Kd.V_reads' (Kd.V_mono (ok' := (fun k_ => ((fun k_ => (P0_ k_ ∨ w.heap.size ≤ k_) ∧ some k_ ≠ (v112 : Value).ownBlock ∧ some k_ ≠ (.slice (some ad114) x7_2.length co11 : Value).ownBlock ∧ some k_ ≠ (.slice (some ⟨go33, 0, none⟩) y110.length co33 : Value).ownBlock)) k_ ∧ some k_ ≠ (u15 : Value).ownBlock)) (HL116_1.out) (fun k_ hk => ⟨⟨hk.1.1, ⟨hk.1.2.1, ⟨hk.2, hk.1.2.2.1⟩⟩⟩, hk.1.2.2.2⟩))).2.1 (Kd.V_F (Kd.V_mono (ok' := (fun k_ => ((fun k_ => (P0_ k_ ∨ w.heap.size ≤ k_) ∧ some k_ ≠ (v112 : Value).ownBlock ∧ some k_ ≠ (.slice (some ad114) x7_2.length co11 : Value).ownBlock ∧ some k_ ≠ (.slice (some ⟨go33, 0, none⟩) y110.length co33 : Value).ownBlock)) k_ ∧ some k_ ≠ (u15 : Value).ownBlock)) (HL116_1.out) (fun k_ hk => ⟨⟨hk.1.1, ⟨hk.1.2.1, ⟨hk.2, hk.1.2.2.1⟩⟩⟩, hk.1.2.2.2⟩))))); (case aB => exact (bl_ HB)); (case aF => exact (fun k_ hk => ⟨(.inr (Nat.le_trans (below_size (bl_ HB)) hk)), Kd.fresh' (Kd.R_lt (rl_ HO_6)) k_ hk, Kd.fresh' (Kd.N_lt (by (with_reducible repeat (first | apply Kd.N_alloc | apply Kd.N_drewN | apply Kd.N_drew)); exact HO_7.out)) k_ hk, Kd.fresh' (Kd.R_lt (rl_ HO_8)) k_ hk⟩)); (case aO => exact (by (with_reducible repeat (first | apply Kd.N_alloc | apply Kd.N_drewN | apply Kd.N_drew)); exact HO_15.out)); (case aS => exact (below_size (bl_ HB))); (case aL => have := LMc43.out; omega); intro v118 w45 ho hb hg hat; rw [← Ny117.out] at ho; have HO119 := Aside0.mk (ho); replace HO_6 := Aside0.mk (Kd.R_over' (rl_ HO_6) (Kd.N_typed (by (with_reducible repeat (first | apply Kd.N_alloc | apply Kd.N_drewN | apply Kd.N_drew)); exact HO_15.out)) (by decide) hg); replace HO_7 := Aside0.mk (Kd.N_afterv (ok := (fun k_ => (P0_ k_ ∨ w.heap.size ≤ k_) ∧ some k_ ≠ (v112 : Value).ownBlock ∧ some k_ ≠ (.slice (some ⟨go33, 0, none⟩) y110.length co33 : Value).ownBlock)) (by (with_reducible repeat (first | apply Kd.N_alloc | apply Kd.N_drewN | apply Kd.N_drew)); exact Kd.N_mono HO_7.out (fun _ hk => ⟨⟨hk.1, ⟨hk.2.1, hk.2.2.1⟩⟩, hk.2.2.2⟩)) hg hat); replace HO_8 := Aside0.mk (Kd.R_over' (rl_ HO_8) (Kd.N_typed (by (with_reducible repeat (first | apply Kd.N_alloc | apply Kd.N_drewN | apply Kd.N_drew)); exact HO_15.out)) (by decide) hg); replace HL114_0 := Aside0.mk (Kd.V_afterv (ok := (fun k_ => (P0_ k_ ∨ w.heap.size ≤ k_) ∧ some k_ ≠ (v112 : Value).ownBlock ∧ some k_ ≠ (.slice (some ad114) x7_2.length co11 : Value).ownBlock ∧ some k_ ≠ (.slice (some ⟨go33, 0, none⟩) y110.length co33 : Value).ownBlock)) (by (with_reducible repeat (first | apply Kd.V_alloc | apply Kd.V_drewN | apply Kd.V_drew)); exact Kd.V_mono HL114_0.out (fun _ hk => ⟨⟨hk.1.1, ⟨hk.1.2.1, ⟨hk.2, hk.1.2.2.1⟩⟩⟩, hk.1.2.2.2⟩)) hg hat); replace HL114_1 := Aside0.mk (Kd.V_afterv (ok := (fun k_ => (P0_ k_ ∨ w.heap.size ≤ k_) ∧ some k_ ≠ (v112 : Value).ownBlock ∧ some k_ ≠ (.slice (some ad114) x7_2.length co11 : Value).ownBlock ∧ some k_ ≠ (.slice (some ⟨go33, 0, none⟩) y110.length co33 : Value).ownBlock)) (by (with_reducible repeat (first | apply Kd.V_alloc | apply Kd.V_drewN | apply Kd.V_drew)); exact Kd.V_mono HL114_1.out (fun _ hk => ⟨⟨hk.1.1, ⟨hk.1.2.1, ⟨hk.2, hk.1.2.2.1⟩⟩⟩, hk.1.2.2.2⟩)) hg hat); replace HL116_0 := Aside0.mk (Kd.V_afterv (ok := (fun k_ => (P0_ k_ ∨ w.heap.size ≤ k_) ∧ some k_ ≠ (v112 : Value).ownBlock ∧ some k_ ≠ (.slice (some ad114) x7_2.length co11 : Value).ownBlock ∧ some k_ ≠ (.slice (some ⟨go33, 0, none⟩) y110.length co33 : Value).ownBlock)) (by (with_reducible repeat (first | apply Kd.V_alloc | apply Kd.V_drewN | apply Kd.V_drew)); exact Kd.V_mono HL116_0.out (fun _ hk => ⟨⟨hk.1.1, ⟨hk.1.2.1, ⟨hk.2, hk.1.2.2.1⟩⟩⟩, hk.1.2.2.2⟩)) hg hat); replace HL116_1 := Aside0.mk (Kd.V_afterv (ok := (fun k_ => (P0_ k_ ∨ w.heap.size ≤ k_) ∧ some k_ ≠ (v112 : Value).ownBlock ∧ some k_ ≠ (.slice (some ad114) x7_2.length co11 : Value).ownBlock ∧ some k_ ≠ (.slice (some ⟨go33, 0, none⟩) y110.length co33 : Value).ownBlock)) (by (with_reducible repeat (first | apply Kd.V_alloc | apply Kd.V_drewN | apply Kd.V_drew)); exact Kd.V_mono HL116_1.out (fun _ hk => ⟨⟨hk.1.1, ⟨hk.1.2.1, ⟨hk.2, hk.1.2.2.1⟩⟩⟩, hk.1.2.2.2⟩)) hg hat); replace HB := Aside0.mk (hb); clear HO_15; clear ho hb hg hat))
                       (try simp only [← hl8_5])
                       go_roundg k5
                       case measure => have := HJ4.out; have := HK2.out; have := HK3.out; have := HJ11.out; have := HK5.out; omega
                       case rel => exact ⟨(y117), (wrap64 (x16_5 + 1)), (by first | rfl | (simp; done) | (simp [*]; done)), H', ⟨by have := HJ4.out; have := HK2.out; have := HK3.out; have := HJ11.out; have := HK5.out; omega⟩, ⟨by (try simp only [hl8_5]); (with_reducible repeat (first | apply Kd.R_alloc | apply Kd.R_drewN | apply Kd.R_drew)); exact HO_6.out⟩, ⟨by (try simp only [hl8_5]); (with_reducible repeat (first | apply Kd.N_alloc | apply Kd.N_drewN | apply Kd.N_drew)); exact Kd.N_mono HO_7.out (fun _ hk => ⟨hk.1.1, ⟨hk.1.2.1, ⟨hk.1.2.2, hk.2⟩⟩⟩)⟩, ⟨by (try simp only [hl8_5]); (with_reducible repeat (first | apply Kd.R_alloc | apply Kd.R_drewN | apply Kd.R_drew)); exact HO_8.out⟩, ⟨by (try simp only [hl8_5]); (with_reducible repeat (first | apply Kd.N_alloc | apply Kd.N_drewN | apply Kd.N_drew)); exact HO119.out⟩, ⟨by repeat (first | (with_reducible first | exact HB.out | apply below_alloc | apply pw_below_drewN | apply below_drew1) | exact HB.out)⟩⟩
                      ·rw [if_neg c43] at H
                       exact absurd H (by simp)
                    ·rw [if_neg c39] at H
                     exact absurd H (by simp)
                   ·rw [if_neg c38] at H
                    have c38b0 : decide (x16_5 < (x7_2.length : Int)) = false := decide_eq_false c38
                    clear c38
                    have H' := Aside0.mk H
                    clear H
                    go_wp2
                    (try simp only [← hl8_5])
                    go_roundg k5
                    case measure => have := HJ4.out; have := HK2.out; have := HK3.out; have := HJ11.out; have := HK5.out; omega
                    case rel => exact ⟨(y111), (x15_5), (y110), H', ⟨by have := HJ4.out; have := HK2.out; have := HK3.out; have := HJ11.out; have := HK5.out; omega⟩, ⟨by (try simp only [hl8_5]); (with_reducible repeat (first | apply Kd.R_alloc | apply Kd.R_drewN | apply Kd.R_drew)); exact HO_6.out⟩, ⟨by (try simp only [hl8_5]); (with_reducible repeat (first | apply Kd.N_alloc | apply Kd.N_drewN | apply Kd.N_drew)); exact Kd.N_mono HO_15.out (fun _ hk => ⟨hk.1, ⟨hk.2.1, hk.2.2.2⟩⟩)⟩, ⟨by (try simp only [hl8_5]); (with_reducible repeat (first | apply Kd.R_alloc | apply Kd.R_drewN | apply Kd.R_drew)); exact HO_8.out⟩, ⟨by repeat (first | (with_reducible first | exact HB.out | apply below_alloc | apply pw_below_drewN | apply below_drew1) | exact HB.out)⟩⟩
                ·rw [if_neg c34] at H
                 exact absurd H (by simp)
               ·rw [if_neg c32] at H
                exact absurd H (by simp)
              ·rw [if_neg c31] at H
               exact absurd H (by simp)
       ·rw [if_neg c10] at H
        have c10b0 : decide (0 < (x7_2.length : Int)) = false := decide_eq_false c10
        have c10b1 : decide (0 < x7_2.length) = false := decide_eq_false (by omega)
        clear c10
        simp only [Option.some.injEq, Prod.mk.injEq] at H
        obtain ⟨rfl, rfl⟩ := H
        obtain ⟨Ao46, co46, eo46⟩ := Kd.N_slice HO_7.out
        subst eo46
        go_wp2
        go_ret2
        exact ⟨_, by first | rfl | (simp [errW_none, errW_some] <;> rfl) | (simp [*, errW_none, errW_some] <;> rfl), by (with_reducible repeat (first | apply Kd.R_alloc | apply Kd.R_drewN | apply Kd.R_drew)); exact HO_6.out, by repeat (first | (with_reducible first | exact HB.out | apply below_alloc | apply pw_below_drewN | apply below_drew1) | exact HB.out)⟩
  ·rw [if_neg c4] at H
   exact absurd H (by simp)
 ·rw [if_neg c3] at H
  exact absurd H (by simp)

end Go.Proofs.Ytbopadglafbdjaa.PX
