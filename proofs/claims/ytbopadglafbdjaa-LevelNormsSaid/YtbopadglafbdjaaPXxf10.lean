-- by wip/tools/gprint.py of this session over the kit's print; given functions are this session's own text
import Derived.Test.YtbopadglafbdjaaPXx0
import Derived.Test.YtbopadglafbdjaaPXxf40
import Derived.Test.YtbopadglafbdjaaPXxf41
import Derived.Test.YtbopadglafbdjaaPXxf43
import Derived.Test.YtbopadglafbdjaaPXxf44
import Derived.Test.YtbopadglafbdjaaPXxf37
import Derived.Test.YtbopadglafbdjaaPXxf38
import Derived.Test.YtbopadglafbdjaaPXxf39
import Derived.Test.YtbopadglafbdjaaPXxf42
namespace Go.Proofs.Ytbopadglafbdjaa.PX
open Go.RowKit Go.Proofs.YtbopadglafbdjaaW.PrintWords Go.Proofs.YtbopadglafbdjaaW.PrintLast Go.Proofs.YtbopadglafbdjaaW.PrintMore
attribute [local go_sem] max2_int min2_int max_two min_two max_three min_three max_four min_four   -- for this text's walks alone
set_option linter.unusedVariables false
set_option linter.unusedSimpArgs false

/-! ### telamonlaw1_LevelNorms: function 10 -/
-- GIVEN rounds
attribute [local go_sem] max2_int min2_int max_two min_two max_three min_three max_four min_four   -- for this text's walks alone

mutual
def telamonlaw1_LevelNorms.j0 : Nat → Bool → Bool → Int → List (S62) → Int → List (S62) → Option (Bool)
 | 0, _, _, _, _, _, _ => none
 | k + 1, x5, x24, x102000, x102001, x103000, x103001 => if x24 = true then (some x5) else ((telamonlaw1_Lent.f x102000 x102001).bind fun bt106 => ((level_Norm.f k bt106.1 bt106.2).bind fun bt111 => ((level_Norm.f k x103000 x103001).bind fun bt117 => (telamonlaw1_LevelNorms.l0 k bt111.2.2 0 x102000 x102001 bt106.1 bt106.2 bt111.1 bt111.2.1 bt117.1 bt117.2.1))))
def telamonlaw1_LevelNorms.l0 : Nat → Int → Int → Int → List (S62) → Int → List (S62) → Int → List (S62) → Int → List (S62) → Option (Bool)
 | 0, _, _, _, _, _, _, _, _, _, _ => none
 | k + 1, x8, x11, x102000, x102001, x111000, x111001, x117000, x117001, x123000, x123001 => if x11 < (x123001.length : Int) then (if 0 ≤ x11 then (telamonlaw1_LevelNorms.l0 k x8 (wrap64 (x11 + 1)) x102000 x102001 x111000 x111001 x117000 x117001 x123000 (x123001.set (x11 : Int).toNat (⟨(-1), (rd_T62 x123001 x11).f1⟩ : S62))) else (none)) else ((telamonref1_Norm.f k x102000 x102001).bind fun bt124 => ((telamonlaw1_Stay.f k x111000 x111001 x102000 x102001).bind fun t130 => (if t130 = true then ((telamonlaw1_num.f x8).bind fun t131 => (if t131 = bt124.2.2 then ((telamonref1_ExactLevel.f k x117000 x117001 bt124.1 bt124.2.1).bind fun t132 => (some t132)) else (some false))) else (some false))))
end
def telamonlaw1_LevelNorms.f (k : Nat) (a0_0 : Int) (l0_1 : List (S62)) (a1_0 : Int) (l1_1 : List (S62)) : Option (Bool) := (telamonlaw1_alive.f).bind fun t103 => (if t103 = true then ((telamonlaw1_big.f a0_0 l0_1).bind fun t104 => (if t104 = true then (telamonlaw1_LevelNorms.j0 k t103 true a0_0 l0_1 a1_0 l1_1) else ((telamonlaw1_big.f a1_0 l1_1).bind fun t105 => (telamonlaw1_LevelNorms.j0 k t103 t105 a0_0 l0_1 a1_0 l1_1)))) else (telamonlaw1_LevelNorms.j0 k t103 true a0_0 l0_1 a1_0 l1_1))
theorem telamonlaw1_LevelNorms.mono_l : ∀ k, (∀ y0 y1 y2 y3 y4 y5, LeO (telamonlaw1_LevelNorms.j0 k y0 y1 y2 y3 y4 y5) (telamonlaw1_LevelNorms.j0 (k + 1) y0 y1 y2 y3 y4 y5)) ∧ (∀ y0 y1 y2 y3 y4 y5 y6 y7 y8 y9, LeO (telamonlaw1_LevelNorms.l0 k y0 y1 y2 y3 y4 y5 y6 y7 y8 y9) (telamonlaw1_LevelNorms.l0 (k + 1) y0 y1 y2 y3 y4 y5 y6 y7 y8 y9))
 | 0 => ⟨fun _ _ _ _ _ _ r h => by simp [telamonlaw1_LevelNorms.j0] at h, fun _ _ _ _ _ _ _ _ _ _ r h => by simp [telamonlaw1_LevelNorms.l0] at h⟩
 | k + 1 => by
  obtain ⟨ih0, ih1⟩ := telamonlaw1_LevelNorms.mono_l k
  refine ⟨?_, ?_⟩
  ·intro y0 y1 y2 y3 y4 y5
   unfold telamonlaw1_LevelNorms.j0
   repeat' first
   | (with_reducible exact ih0 _ _ _ _ _ _)
   | (with_reducible exact ih1 _ _ _ _ _ _ _ _ _ _)
   | (with_reducible exact level_Norm.mono _ _ _)
   | (with_reducible exact telamonlaw1_Stay.mono _ _ _ _ _)
   | (with_reducible exact telamonref1_ExactLevel.mono _ _ _ _ _)
   | (with_reducible exact telamonref1_Norm.mono _ _ _)
   | (with_reducible exact LeO.refl _)
   | (with_reducible exact LeO.none _)
   | (with_reducible refine LeO.ite ?_ ?_)
   | (with_reducible refine LeO.bind ?_ (fun _ => ?_))
   | exact ih0 _ _ _ _ _ _
   | exact ih1 _ _ _ _ _ _ _ _ _ _
   | exact level_Norm.mono _ _ _
   | exact telamonlaw1_Stay.mono _ _ _ _ _
   | exact telamonref1_ExactLevel.mono _ _ _ _ _
   | exact telamonref1_Norm.mono _ _ _
   | exact LeO.none _
   | refine LeO.ite ?_ ?_
   | refine LeO.bind ?_ (fun _ => ?_)
  ·intro y0 y1 y2 y3 y4 y5 y6 y7 y8 y9
   unfold telamonlaw1_LevelNorms.l0
   repeat' first
   | (with_reducible exact ih0 _ _ _ _ _ _)
   | (with_reducible exact ih1 _ _ _ _ _ _ _ _ _ _)
   | (with_reducible exact level_Norm.mono _ _ _)
   | (with_reducible exact telamonlaw1_Stay.mono _ _ _ _ _)
   | (with_reducible exact telamonref1_ExactLevel.mono _ _ _ _ _)
   | (with_reducible exact telamonref1_Norm.mono _ _ _)
   | (with_reducible exact LeO.refl _)
   | (with_reducible exact LeO.none _)
   | (with_reducible refine LeO.ite ?_ ?_)
   | (with_reducible refine LeO.bind ?_ (fun _ => ?_))
   | exact ih0 _ _ _ _ _ _
   | exact ih1 _ _ _ _ _ _ _ _ _ _
   | exact level_Norm.mono _ _ _
   | exact telamonlaw1_Stay.mono _ _ _ _ _
   | exact telamonref1_ExactLevel.mono _ _ _ _ _
   | exact telamonref1_Norm.mono _ _ _
   | exact LeO.none _
   | refine LeO.ite ?_ ?_
   | refine LeO.bind ?_ (fun _ => ?_)
theorem telamonlaw1_LevelNorms.mono : ∀ a0 a1 a2 a3 k, LeO (telamonlaw1_LevelNorms.f k a0 a1 a2 a3) (telamonlaw1_LevelNorms.f (k + 1) a0 a1 a2 a3) := by
 intro a0 a1 a2 a3 k
 obtain ⟨ih0, ih1⟩ := telamonlaw1_LevelNorms.mono_l k
 unfold telamonlaw1_LevelNorms.f
 repeat' first
   | (with_reducible exact ih0 _ _ _ _ _ _)
   | (with_reducible exact ih1 _ _ _ _ _ _ _ _ _ _)
   | (with_reducible exact level_Norm.mono _ _ _)
   | (with_reducible exact telamonlaw1_Stay.mono _ _ _ _ _)
   | (with_reducible exact telamonref1_ExactLevel.mono _ _ _ _ _)
   | (with_reducible exact telamonref1_Norm.mono _ _ _)
   | (with_reducible exact LeO.refl _)
   | (with_reducible exact LeO.none _)
   | (with_reducible refine LeO.ite ?_ ?_)
   | (with_reducible refine LeO.bind ?_ (fun _ => ?_))
   | exact ih0 _ _ _ _ _ _
   | exact ih1 _ _ _ _ _ _ _ _ _ _
   | exact level_Norm.mono _ _ _
   | exact telamonlaw1_Stay.mono _ _ _ _ _
   | exact telamonref1_ExactLevel.mono _ _ _ _ _
   | exact telamonref1_Norm.mono _ _ _
   | exact LeO.none _
   | refine LeO.ite ?_ ?_
   | refine LeO.bind ?_ (fun _ => ?_)
set_option maxHeartbeats 8000000 in
set_option maxRecDepth 100000 in
theorem telamonlaw1_LevelNorms.calls (k : Nat) (a0_0 : Int) (A0_1 : Option Addr) (c0_1 : Nat) (l0_1 : List (S62)) (a1_0 : Int) (A1_1 : Option Addr) (c1_1 : Nat) (l1_1 : List (S62)) (r : Bool) (hrt : Aside0 (r = true)) (w : World) (hr0_1 : Kd.C k62 w A0_1 l0_1.length l0_1) (hc0_1 : l0_1.length ≤ c0_1) (hr1_1 : Kd.C k62 w A1_1 l1_1.length l1_1) (hc1_1 : l1_1.length ≤ c1_1) (h : telamonlaw1_LevelNorms.f k a0_0 l0_1 a1_0 l1_1 = some r) :
  Calls Try.prog 10 #[.agg #[.int .i64 a0_0, .slice A0_1 l0_1.length c0_1], .agg #[.int .i64 a1_0, .slice A1_1 l1_1.length c1_1]] w fun e w' => e = .returned (.bool r) ∧ Below w.heap.size w w' := by
 have hu43 := Try.underlying43
 have HR0_1 := Aside0.mk hr0_1
 have HC0_1 := Aside0.mk hc0_1
 clear hr0_1 hc0_1
 have HR1_1 := Aside0.mk hr1_1
 have HC1_1 := Aside0.mk hc1_1
 clear hr1_1 hc1_1
 have HB := Aside0.mk (Below.refl w.heap.size w)
 have H : ((telamonlaw1_alive.f).bind fun t103 => (if t103 = true then ((telamonlaw1_big.f a0_0 l0_1).bind fun t104 => (if t104 = true then (telamonlaw1_LevelNorms.j0 k t103 true a0_0 l0_1 a1_0 l1_1) else ((telamonlaw1_big.f a1_0 l1_1).bind fun t105 => (telamonlaw1_LevelNorms.j0 k t103 t105 a0_0 l0_1 a1_0 l1_1)))) else (telamonlaw1_LevelNorms.j0 k t103 true a0_0 l0_1 a1_0 l1_1))) = some r := h
 clear h
 replace H := Option.bind_eq_some_iff.mp H
 obtain ⟨t103, A30, H⟩ := H
 replace H : (if t103 = true then ((telamonlaw1_big.f a0_0 l0_1).bind fun t104 => (if t104 = true then (telamonlaw1_LevelNorms.j0 k t103 true a0_0 l0_1 a1_0 l1_1) else ((telamonlaw1_big.f a1_0 l1_1).bind fun t105 => (telamonlaw1_LevelNorms.j0 k t103 t105 a0_0 l0_1 a1_0 l1_1)))) else (telamonlaw1_LevelNorms.j0 k t103 true a0_0 l0_1 a1_0 l1_1)) = some r := H
 have A3 := Aside0.mk A30
 clear A30
 have HC4 := Aside0.mk H
 clear H
 go_enter Try.func10, Try.ntmps10
 go_upto_region 2 with (first | ((with_reducible refine gate_dst (N := 2) rfl ?_); refine box_event ?hg (N := 2) ?hd (cs := #[.int .i64 a0_0, .slice A0_1 l0_1.length c0_1]) (t := 43) ?hr ?_; (case hd => rfl); (case hg => rfl); (case hr => first | (go_simp; done) | (go_simp; rfl)); intro gb101 hg w5 hbox hb; have BK101 := Aside0.mk (hbox); have GW101 := Aside0.mk ((bs_ hg HB : w.heap.size ≤ gb101)); have GE101 := Aside0.mk ((bs_ hg HB : w.heap.size ≤ gb101)); replace HB := hs_ HB hb; clear hb hbox hg) | ((with_reducible refine gate_dst (N := 3) rfl ?_); refine box_event ?hg (N := 3) ?hd (cs := #[.int .i64 a1_0, .slice A1_1 l1_1.length c1_1]) (t := 43) ?hr ?_; (case hd => rfl); (case hg => rfl); (case hr => first | (go_simp; done) | (go_simp; rfl)); intro gb102 hg w6 hbox hb; have BK102 := Aside0.mk (hbox); have GW102 := Aside0.mk ((bs_ hg HB : w.heap.size ≤ gb102)); have GE102 := Aside0.mk ((bs_ hg HB : w.heap.size ≤ gb102)); have NB101_102 := Aside0.mk ((nl_ hg BK101 : gb101 ≠ gb102)); have NB102_101 := Aside0.mk ((ng_ hg BK101 : gb102 ≠ gb101)); replace BK101 := bb_ BK101 hb; replace HB := hs_ HB hb; clear hb hbox hg) | ((with_reducible refine gate_callee (f := 37) rfl ?_); refine goesL_ (some 14) rfl rfl Try.func37 (by kernel_rfl) rfl #[] rfl (by (try simp only [List.map_toArray, List.map_cons, List.map_nil]); first | done | rfl | (simp only [List.length_drop, List.length_take]; rfl)) ?_; (with_reducible refine (telamonlaw1_alive.calls  t103 _ A3.out).mono ?_); rintro e w7 ⟨rfl, hb⟩; refine ⟨_, rfl, ?_⟩; replace BK101 := bb_ BK101 hb; replace BK102 := bb_ BK102 hb; replace HB := hs_ HB hb; (try clear hb); (try clear hb2); (try clear hk); (try clear hi)))
 (try simp only [Act.put, List.setIfInBounds_toArray, List.set_cons_zero, List.set_cons_succ])
 go_cut [24] (fun v24 wc => ∃ (kq : Nat) (x24_3 : Bool), v24 = .bool x24_3 ∧ Aside0 (telamonlaw1_LevelNorms.j0 kq t103 x24_3 a0_0 l0_1 a1_0 l1_1 = some r) ∧ Aside0 (kq ≤ k) ∧ Aside0 (wc.heap[gb101]? = some (.cells #[.int .i64 a0_0, (.slice A0_1 l0_1.length c0_1)] 43 (0, 0))) ∧ Aside0 (wc.heap[gb102]? = some (.cells #[.int .i64 a1_0, (.slice A1_1 l1_1.length c1_1)] 43 (0, 0))) ∧ Aside0 (Below w.heap.size w wc))
 case first =>
  have H := HC4.out
  clear HC4
  by_cases c8 : t103 = true
  ·subst c8
   have H1 : ((telamonlaw1_big.f a0_0 l0_1).bind fun t104 => (if t104 = true then (telamonlaw1_LevelNorms.j0 k true true a0_0 l0_1 a1_0 l1_1) else ((telamonlaw1_big.f a1_0 l1_1).bind fun t105 => (telamonlaw1_LevelNorms.j0 k true t105 a0_0 l0_1 a1_0 l1_1)))) = some r := by rw [if_pos rfl] at H; exact H
   clear H
   have H := H1
   clear H1
   replace H := Option.bind_eq_some_iff.mp H
   obtain ⟨t104, A90, H⟩ := H
   replace H : (if t104 = true then (telamonlaw1_LevelNorms.j0 k true true a0_0 l0_1 a1_0 l1_1) else ((telamonlaw1_big.f a1_0 l1_1).bind fun t105 => (telamonlaw1_LevelNorms.j0 k true t105 a0_0 l0_1 a1_0 l1_1))) = some r := H
   have A9 := Aside0.mk A90
   clear A90
   by_cases c10 : t104 = true
   ·subst c10
    have H1 : (telamonlaw1_LevelNorms.j0 k true true a0_0 l0_1 a1_0 l1_1) = some r := by rw [if_pos rfl] at H; exact H
    clear H
    have H := H1
    clear H1
    have H' := Aside0.mk H
    clear H
    have hnb11 := NB101_102.out
    have hnc11 := NB102_101.out
    have hcz12_0 : w7.cell? ⟨gb101, 0, none⟩ = some (.int .i64 a0_0) := (blk_cell BK101.out 0).trans rfl
    have hcz12_1 : w7.cell? ⟨gb101, 1, none⟩ = some (.slice A0_1 l0_1.length c0_1) := (blk_cell BK101.out 1).trans rfl
    have hfz12_0 := blk_frozen BK101.out 0
    have hfz12_1 := blk_frozen BK101.out 1
    go_wp2_with (first | (go_at_call 38; (with_reducible refine (telamonlaw1_big.calls a0_0 _ _ l0_1 true _ ?side1 ?side2 A9.out).mono ?_); (case side1 => repeat (first | exact (Kd.C_below HR0_1.out HB.out) | (with_reducible refine Kd.C_alloc ?_ _) | (with_reducible refine Kd.C_drewN ?_ _) | (with_reducible refine Kd.C_drew ?_))); (case side2 => exact HC0_1.out); rintro e w13 ⟨rfl, hb⟩; replace BK101 := bb_ BK101 hb; replace BK102 := bb_ BK102 hb; replace HB := hs_ HB hb; (try clear hb); (try clear hb2); (try clear hk); (try clear hi)))
    go_meet
    case rel => exact ⟨_, (true), (by first | rfl | (simp; done) | (simp [*]; done)), H', ⟨by first | omega | exact Nat.le_refl _⟩, ⟨by (with_reducible repeat (first | refine blk_drewN ?_ _ | refine blk_drew ?_ | refine blk_alloc ?_ _)); exact BK101.out⟩, ⟨by (with_reducible repeat (first | refine blk_drewN ?_ _ | refine blk_drew ?_ | refine blk_alloc ?_ _)); exact BK102.out⟩, ⟨by repeat (first | (with_reducible first | exact HB.out | apply below_alloc | apply pw_below_drewN | apply below_drew1 | refine below_set ?_ GE101.out | refine below_set ?_ GE102.out) | exact HB.out)⟩⟩
   ·replace c10 := Bool.eq_false_iff.mpr c10
    subst c10
    have H1 : ((telamonlaw1_big.f a1_0 l1_1).bind fun t105 => (telamonlaw1_LevelNorms.j0 k true t105 a0_0 l0_1 a1_0 l1_1)) = some r := by rw [if_neg (show ¬ (false = true) by decide)] at H; exact H
    clear H
    have H := H1
    clear H1
    replace H := Option.bind_eq_some_iff.mp H
    obtain ⟨t105, A140, H⟩ := H
    replace H : (telamonlaw1_LevelNorms.j0 k true t105 a0_0 l0_1 a1_0 l1_1) = some r := H
    have A14 := Aside0.mk A140
    clear A140
    have H' := Aside0.mk H
    clear H
    have hnb15 := NB101_102.out
    have hnc15 := NB102_101.out
    have hcz16_0 : w7.cell? ⟨gb101, 0, none⟩ = some (.int .i64 a0_0) := (blk_cell BK101.out 0).trans rfl
    have hcz16_1 : w7.cell? ⟨gb101, 1, none⟩ = some (.slice A0_1 l0_1.length c0_1) := (blk_cell BK101.out 1).trans rfl
    have hfz16_0 := blk_frozen BK101.out 0
    have hfz16_1 := blk_frozen BK101.out 1
    go_wp2_with (first | (go_at_call 38; (with_reducible refine (telamonlaw1_big.calls a0_0 _ _ l0_1 false _ ?side1 ?side2 A9.out).mono ?_); (case side1 => repeat (first | exact (Kd.C_below HR0_1.out HB.out) | (with_reducible refine Kd.C_alloc ?_ _) | (with_reducible refine Kd.C_drewN ?_ _) | (with_reducible refine Kd.C_drew ?_))); (case side2 => exact HC0_1.out); rintro e w17 ⟨rfl, hb⟩; replace BK101 := bb_ BK101 hb; replace BK102 := bb_ BK102 hb; replace HB := hs_ HB hb; (try clear hb); (try clear hb2); (try clear hk); (try clear hi); have hcz18_0 : w17.cell? ⟨gb102, 0, none⟩ = some (.int .i64 a1_0) := (blk_cell BK102.out 0).trans rfl; have hcz18_1 : w17.cell? ⟨gb102, 1, none⟩ = some (.slice A1_1 l1_1.length c1_1) := (blk_cell BK102.out 1).trans rfl; have hfz18_0 := blk_frozen BK102.out 0; have hfz18_1 := blk_frozen BK102.out 1) | (go_at_call 38; (with_reducible refine (telamonlaw1_big.calls a1_0 _ _ l1_1 t105 _ ?side1 ?side2 A14.out).mono ?_); (case side1 => repeat (first | exact (Kd.C_below HR1_1.out HB.out) | (with_reducible refine Kd.C_alloc ?_ _) | (with_reducible refine Kd.C_drewN ?_ _) | (with_reducible refine Kd.C_drew ?_))); (case side2 => exact HC1_1.out); rintro e w19 ⟨rfl, hb⟩; replace BK101 := bb_ BK101 hb; replace BK102 := bb_ BK102 hb; replace HB := hs_ HB hb; (try clear hb); (try clear hb2); (try clear hk); (try clear hi)))
    go_meet
    case rel => exact ⟨_, (t105), (by first | rfl | (simp; done) | (simp [*]; done)), H', ⟨by first | omega | exact Nat.le_refl _⟩, ⟨by (with_reducible repeat (first | refine blk_drewN ?_ _ | refine blk_drew ?_ | refine blk_alloc ?_ _)); exact BK101.out⟩, ⟨by (with_reducible repeat (first | refine blk_drewN ?_ _ | refine blk_drew ?_ | refine blk_alloc ?_ _)); exact BK102.out⟩, ⟨by repeat (first | (with_reducible first | exact HB.out | apply below_alloc | apply pw_below_drewN | apply below_drew1 | refine below_set ?_ GE101.out | refine below_set ?_ GE102.out) | exact HB.out)⟩⟩
  ·replace c8 := Bool.eq_false_iff.mpr c8
   subst c8
   have H1 : (telamonlaw1_LevelNorms.j0 k false true a0_0 l0_1 a1_0 l1_1) = some r := by rw [if_neg (show ¬ (false = true) by decide)] at H; exact H
   clear H
   have H := H1
   clear H1
   have H' := Aside0.mk H
   clear H
   go_wp2
   go_meet
   case rel => exact ⟨_, (true), (by first | rfl | (simp; done) | (simp [*]; done)), H', ⟨by first | omega | exact Nat.le_refl _⟩, ⟨by (with_reducible repeat (first | refine blk_drewN ?_ _ | refine blk_drew ?_ | refine blk_alloc ?_ _)); exact BK101.out⟩, ⟨by (with_reducible repeat (first | refine blk_drewN ?_ _ | refine blk_drew ?_ | refine blk_alloc ?_ _)); exact BK102.out⟩, ⟨by repeat (first | (with_reducible first | exact HB.out | apply below_alloc | apply pw_below_drewN | apply below_drew1 | refine below_set ?_ GE101.out | refine below_set ?_ GE102.out) | exact HB.out)⟩⟩
 case rest =>
  clear HC4
  (try clear c1); (try clear p2); (try clear c3); (try clear c8); (try clear c10); (try clear c11); (try clear c15); (try clear hcz12_0); (try clear hcz12_1); (try clear hcz16_0); (try clear hcz16_1); (try clear hcz18_0); (try clear hcz18_1); (try clear hfz12_0); (try clear hfz12_1); (try clear hfz16_0); (try clear hfz16_1); (try clear hfz18_0); (try clear hfz18_1)
  obtain ⟨kq, x24_3, rfl, HA, HJ3, BK101, BK102, HB⟩ := hcut
  cases kq with
  | zero => exact absurd HA.out (by simp [telamonlaw1_LevelNorms.j0])
  | succ kj3 =>
   have H := HA.out
   clear HA
   simp only [telamonlaw1_LevelNorms.j0] at H
   by_cases c20 : x24_3 = true
   ·subst c20
    have H1 : (some t103) = some r := by rw [if_pos rfl] at H; exact H
    clear H
    have H := H1
    clear H1
    obtain rfl := Option.some.inj H
    go_wp2
    go_ret
    exact ⟨by first | rfl | (simp [errW_none, errW_some] <;> rfl) | (simp [*, errW_none, errW_some] <;> rfl), by repeat (first | (with_reducible first | exact HB.out | apply below_alloc | apply pw_below_drewN | apply below_drew1 | refine below_set ?_ GE101.out | refine below_set ?_ GE102.out) | exact HB.out)⟩
   ·replace c20 := Bool.eq_false_iff.mpr c20
    subst c20
    have H1 : ((telamonlaw1_Lent.f a0_0 l0_1).bind fun bt106 => ((level_Norm.f kj3 bt106.1 bt106.2).bind fun bt111 => ((level_Norm.f kj3 a1_0 l1_1).bind fun bt117 => (telamonlaw1_LevelNorms.l0 kj3 bt111.2.2 0 a0_0 l0_1 bt106.1 bt106.2 bt111.1 bt111.2.1 bt117.1 bt117.2.1)))) = some r := by rw [if_neg (show ¬ (false = true) by decide)] at H; exact H
    clear H
    have H := H1
    clear H1
    replace H := Option.bind_eq_some_iff.mp H
    obtain ⟨⟨t106, t107⟩, A210, H⟩ := H
    replace H : ((level_Norm.f kj3 t106 t107).bind fun bt111 => ((level_Norm.f kj3 a1_0 l1_1).bind fun bt117 => (telamonlaw1_LevelNorms.l0 kj3 bt111.2.2 0 a0_0 l0_1 t106 t107 bt111.1 bt111.2.1 bt117.1 bt117.2.1))) = some r := H
    have EL106 := Aside0.mk (lent_eq A210).1
    have EL107 := Aside0.mk (lent_eq A210).2
    have A21 := Aside0.mk A210
    clear A210
    replace H := Option.bind_eq_some_iff.mp H
    obtain ⟨⟨t111, t112, t115⟩, A220, H⟩ := H
    replace H : ((level_Norm.f kj3 a1_0 l1_1).bind fun bt117 => (telamonlaw1_LevelNorms.l0 kj3 t115 0 a0_0 l0_1 t106 t107 t111 t112 bt117.1 bt117.2.1)) = some r := H
    have A22 := Aside0.mk A220
    clear A220
    replace H := Option.bind_eq_some_iff.mp H
    obtain ⟨⟨t117, t118, t121⟩, A230, H⟩ := H
    replace H : (telamonlaw1_LevelNorms.l0 kj3 t115 0 a0_0 l0_1 t106 t107 t111 t112 t117 t118) = some r := H
    have A23 := Aside0.mk A230
    clear A230
    have H' := Aside0.mk H
    clear H
    have hnb24 := NB101_102.out
    have hnc24 := NB102_101.out
    have hcz25_0 : wc.cell? ⟨gb101, 0, none⟩ = some (.int .i64 a0_0) := (blk_cell BK101.out 0).trans rfl
    have hcz25_1 : wc.cell? ⟨gb101, 1, none⟩ = some (.slice A0_1 l0_1.length c0_1) := (blk_cell BK101.out 1).trans rfl
    have hfz25_0 := blk_frozen BK101.out 0
    have hfz25_1 := blk_frozen BK101.out 1
    go_wp2_with (first | ((with_reducible refine gate_callee (f := 39) rfl ?_); refine goesL_ (some 27) rfl rfl Try.func39 (by kernel_rfl) rfl #[.agg #[.int .i64 a0_0, .slice A0_1 l0_1.length c0_1]] rfl (by (try simp only [List.map_toArray, List.map_cons, List.map_nil]); first | done | rfl | (simp only [List.length_drop, List.length_take]; rfl)) ?_; (with_reducible refine (telamonlaw1_Lent.calls a0_0 _ _ l0_1 t106 t107 _ ?side1 ?side2 A21.out).mono ?_); (case side1 => repeat (first | exact (Kd.C_below HR0_1.out HB.out) | (with_reducible refine Kd.C_alloc ?_ _) | (with_reducible refine Kd.C_drewN ?_ _) | (with_reducible refine Kd.C_drew ?_))); (case side2 => exact HC0_1.out); rintro e w26 ⟨Ao31, co31, rfl, ho0, hb⟩; refine ⟨_, rfl, ?_⟩; have HO109 := Aside0.mk (Kd.R_lower ho0 (below_size (bl_ HB))); replace BK101 := bb_ BK101 hb; replace BK102 := bb_ BK102 hb; replace HB := hs_ HB hb; (try clear hb); (try clear hb2); (try clear hk); (try clear hi); (try clear ho0)) | ((with_reducible refine gate_dst (N := 6) rfl ?_); refine box_event ?hg (N := 6) ?hd (cs := #[.int .i64 0, .slice none 0 0]) (t := 43) ?hr ?_; (case hd => rfl); (case hg => rfl); (case hr => first | (go_simp; done) | (go_simp; rfl)); intro gb110 hg w27 hbox hb; have BK110 := Aside0.mk (hbox); have GW110 := Aside0.mk ((bs_ hg HB : w.heap.size ≤ gb110)); have GE110 := Aside0.mk ((bs_ hg HB : w.heap.size ≤ gb110)); have NB101_110 := Aside0.mk ((nl_ hg BK101 : gb101 ≠ gb110)); have NB110_101 := Aside0.mk ((ng_ hg BK101 : gb110 ≠ gb101)); have NB102_110 := Aside0.mk ((nl_ hg BK102 : gb102 ≠ gb110)); have NB110_102 := Aside0.mk ((ng_ hg BK102 : gb110 ≠ gb102)); replace HO109 := Aside0.mk (Kd.R_below (rl_ HO109) hb); replace BK101 := bb_ BK101 hb; replace BK102 := bb_ BK102 hb; replace HB := hs_ HB hb; clear hb hbox hg; have hnb28 := NB110_101.out; have hnc28 := NB101_110.out; have hnb29 := NB110_102.out; have hnc29 := NB102_110.out; have hcz30_0 : w27.cell? ⟨gb110, 0, none⟩ = some (.int .i64 0) := (blk_cell BK110.out 0).trans rfl; have hcz30_1 : w27.cell? ⟨gb110, 1, none⟩ = some (.slice none 0 0) := (blk_cell BK110.out 1).trans rfl; have hfz30_0 := blk_frozen BK110.out 0; have hfz30_1 := blk_frozen BK110.out 1) | ((with_reducible refine gate_callee (f := 40) rfl ?_); refine goesL_ (some 30) rfl rfl Try.func40 (by kernel_rfl) rfl #[.agg #[.int .i64 t106, .slice Ao31 t107.length co31]] rfl (by (try simp only [List.map_toArray, List.map_cons, List.map_nil]); first | done | rfl | (simp only [List.length_drop, List.length_take]; rfl)) ?_; (with_reducible refine (level_Norm.calls kj3 t106 _ _ t107 t111 t112 t115 _ ?side1 ?side2 A22.out).mono ?_); (case side1 => refine lent_R (x := ⟨-71, 0⟩) (e := 62) (base := w.heap.size) (ok := fun k_ => True) (c := co31) ?_; exact (by (with_reducible repeat (first | apply Kd.R_alloc | apply Kd.R_drewN | apply Kd.R_drew)); exact (Kd.R_mono (Kd.R_far (p := ⟨gb110, 1, none⟩) (Kd.R_far (p := ⟨gb110, 0, none⟩) (Kd.R_types HO109.out BK110.out (by decide)) (fun _ hk => hk.2) (.int .i64 t106)) (fun _ hk => hk.2) (.slice Ao31 t107.length co31)) (fun _ h_ => h_.1)))); (case side2 => exact Nat.le_of_succ_le (lent_cap HO109.out)); rintro e w32 ⟨v113, rfl, ho0, hb⟩; refine ⟨_, rfl, ?_⟩; have HO114 := Aside0.mk (Kd.R_lower (Kd.R_new' ho0 (Kd.R_lt (by (with_reducible repeat (first | apply Kd.R_alloc | apply Kd.R_drewN | apply Kd.R_drew)); exact (Kd.R_mono (Kd.R_far (p := ⟨gb110, 1, none⟩) (Kd.R_far (p := ⟨gb110, 0, none⟩) (Kd.R_types HO109.out BK110.out (by decide)) (fun _ hk => hk.2) (.int .i64 t106)) (fun _ hk => hk.2) (.slice Ao31 t107.length co31)) (fun _ h_ => h_.1))))) (below_size (bl_ HB))); replace HO109 := Aside0.mk (Kd.R_elder' (by (with_reducible repeat (first | apply Kd.R_alloc | apply Kd.R_drewN | apply Kd.R_drew)); exact (Kd.R_mono (Kd.R_far (p := ⟨gb110, 1, none⟩) (Kd.R_far (p := ⟨gb110, 0, none⟩) (Kd.R_types HO109.out BK110.out (by decide)) (fun _ hk => hk.2) (.int .i64 t106)) (fun _ hk => hk.2) (.slice Ao31 t107.length co31)) (fun _ h_ => h_.1))) (Kd.R_base ho0) hb); replace BK101 := Aside0.mk (blk_below (pf_ BK101) hb); replace BK102 := Aside0.mk (blk_below (pf_ BK102) hb); replace BK110 := Aside0.mk (blk_below (g := gb110) (o := .cells #[.int .i64 t106, .slice Ao31 t107.length co31] 43 (0, 0)) (by (with_reducible repeat (first | refine blk_drewN ?_ _ | refine blk_drew ?_ | refine blk_alloc ?_ _)); refine blk_put (cs := #[.int .i64 t106, .slice none 0 0]) ?_ 1 _ rfl; (with_reducible repeat (first | refine blk_drewN ?_ _ | refine blk_drew ?_ | refine blk_alloc ?_ _)); refine blk_put (cs := #[.int .i64 0, .slice none 0 0]) ?_ 0 _ rfl; (with_reducible repeat (first | refine blk_drewN ?_ _ | refine blk_drew ?_ | refine blk_alloc ?_ _)); exact BK110.out) hb); replace HB := hs_ HB hb; (try clear hb); (try clear hb2); (try clear hk); (try clear hi); (try clear ho0)) | ((with_reducible refine gate_dst (N := 7) rfl ?_); refine box_event ?hg (N := 7) ?hd (cs := #[.int .i64 0, .slice none 0 0]) (t := 43) ?hr ?_; (case hd => rfl); (case hg => rfl); (case hr => first | (go_simp; done) | (go_simp; rfl)); intro gb116 hg w33 hbox hb; have BK116 := Aside0.mk (hbox); have GW116 := Aside0.mk ((bs_ hg HB : w.heap.size ≤ gb116)); have GE116 := Aside0.mk ((bs_ hg HB : w.heap.size ≤ gb116)); have NB101_116 := Aside0.mk ((nl_ hg BK101 : gb101 ≠ gb116)); have NB116_101 := Aside0.mk ((ng_ hg BK101 : gb116 ≠ gb101)); have NB102_116 := Aside0.mk ((nl_ hg BK102 : gb102 ≠ gb116)); have NB116_102 := Aside0.mk ((ng_ hg BK102 : gb116 ≠ gb102)); have NB110_116 := Aside0.mk ((nl_ hg BK110 : gb110 ≠ gb116)); have NB116_110 := Aside0.mk ((ng_ hg BK110 : gb116 ≠ gb110)); replace HO109 := Aside0.mk (Kd.R_below (rl_ HO109) hb); replace HO114 := Aside0.mk (Kd.R_below (rl_ HO114) hb); replace BK101 := bb_ BK101 hb; replace BK102 := bb_ BK102 hb; replace BK110 := bb_ BK110 hb; replace HB := hs_ HB hb; clear hb hbox hg; have hnb34 := NB116_101.out; have hnc34 := NB101_116.out; have hnb35 := NB116_102.out; have hnc35 := NB102_116.out; have hnb36 := NB116_110.out; have hnc36 := NB110_116.out; have hcz37_0 : w33.cell? ⟨gb116, 0, none⟩ = some (.int .i64 0) := (blk_cell BK116.out 0).trans rfl; have hcz37_1 : w33.cell? ⟨gb116, 1, none⟩ = some (.slice none 0 0) := (blk_cell BK116.out 1).trans rfl; have hfz37_0 := blk_frozen BK116.out 0; have hfz37_1 := blk_frozen BK116.out 1; obtain ⟨Ao38, co38, eo38⟩ := Kd.R_slice HO114.out; subst eo38; have hcz39_0 : w33.cell? ⟨gb102, 0, none⟩ = some (.int .i64 a1_0) := (blk_cell BK102.out 0).trans rfl; have hcz39_1 : w33.cell? ⟨gb102, 1, none⟩ = some (.slice A1_1 l1_1.length c1_1) := (blk_cell BK102.out 1).trans rfl; have hfz39_0 := blk_frozen BK102.out 0; have hfz39_1 := blk_frozen BK102.out 1) | ((with_reducible refine gate_callee (f := 40) rfl ?_); refine goesL_ (some 35) rfl rfl Try.func40 (by kernel_rfl) rfl #[.agg #[.int .i64 a1_0, .slice A1_1 l1_1.length c1_1]] rfl (by (try simp only [List.map_toArray, List.map_cons, List.map_nil]); first | done | rfl | (simp only [List.length_drop, List.length_take]; rfl)) ?_; (with_reducible refine (level_Norm.calls kj3 a1_0 _ _ l1_1 t117 t118 t121 _ ?side1 ?side2 A23.out).mono ?_); (case side1 => exact Kd.C_below HR1_1.out (bl_ HB)); (case side2 => exact HC1_1.out); rintro e w40 ⟨v119, rfl, ho0, hb⟩; refine ⟨_, rfl, ?_⟩; have HO120 := Aside0.mk (Kd.R_lower (Kd.R_new' (Kd.R_new' ho0 (Kd.R_lt (by (with_reducible repeat (first | apply Kd.R_alloc | apply Kd.R_drewN | apply Kd.R_drew)); exact (Kd.R_mono (Kd.R_far (p := ⟨gb116, 1, none⟩) (Kd.R_far (p := ⟨gb116, 0, none⟩) (Kd.R_types HO109.out BK116.out (by decide)) (fun _ hk => hk.2) (.int .i64 t111)) (fun _ hk => hk.2) (.slice Ao38 t112.length co38)) (fun _ h_ => h_.1))))) (Kd.R_lt (by (with_reducible repeat (first | apply Kd.R_alloc | apply Kd.R_drewN | apply Kd.R_drew)); exact (Kd.R_mono (Kd.R_far (p := ⟨gb116, 1, none⟩) (Kd.R_far (p := ⟨gb116, 0, none⟩) (Kd.R_types HO114.out BK116.out (by decide)) (fun _ hk => hk.2) (.int .i64 t111)) (fun _ hk => hk.2) (.slice Ao38 t112.length co38)) (fun _ h_ => h_.1))))) (below_size (bl_ HB))); replace HO109 := Aside0.mk (Kd.R_elder' (by (with_reducible repeat (first | apply Kd.R_alloc | apply Kd.R_drewN | apply Kd.R_drew)); exact (Kd.R_mono (Kd.R_far (p := ⟨gb116, 1, none⟩) (Kd.R_far (p := ⟨gb116, 0, none⟩) (Kd.R_types HO109.out BK116.out (by decide)) (fun _ hk => hk.2) (.int .i64 t111)) (fun _ hk => hk.2) (.slice Ao38 t112.length co38)) (fun _ h_ => h_.1))) (Kd.R_base ho0) hb); replace HO114 := Aside0.mk (Kd.R_elder' (by (with_reducible repeat (first | apply Kd.R_alloc | apply Kd.R_drewN | apply Kd.R_drew)); exact (Kd.R_mono (Kd.R_far (p := ⟨gb116, 1, none⟩) (Kd.R_far (p := ⟨gb116, 0, none⟩) (Kd.R_types HO114.out BK116.out (by decide)) (fun _ hk => hk.2) (.int .i64 t111)) (fun _ hk => hk.2) (.slice Ao38 t112.length co38)) (fun _ h_ => h_.1))) (Kd.R_base ho0) hb); replace BK101 := Aside0.mk (blk_below (pf_ BK101) hb); replace BK102 := Aside0.mk (blk_below (pf_ BK102) hb); replace BK110 := Aside0.mk (blk_below (pf_ BK110) hb); replace BK116 := Aside0.mk (blk_below (g := gb116) (o := .cells #[.int .i64 t111, .slice Ao38 t112.length co38] 43 (0, 0)) (by (with_reducible repeat (first | refine blk_drewN ?_ _ | refine blk_drew ?_ | refine blk_alloc ?_ _)); refine blk_put (cs := #[.int .i64 t111, .slice none 0 0]) ?_ 1 _ rfl; (with_reducible repeat (first | refine blk_drewN ?_ _ | refine blk_drew ?_ | refine blk_alloc ?_ _)); refine blk_put (cs := #[.int .i64 0, .slice none 0 0]) ?_ 0 _ rfl; (with_reducible repeat (first | refine blk_drewN ?_ _ | refine blk_drew ?_ | refine blk_alloc ?_ _)); exact BK116.out) hb); replace HB := hs_ HB hb; (try clear hb); (try clear hb2); (try clear hk); (try clear hi); (try clear ho0)) | ((with_reducible refine gate_dst (N := 9) rfl ?_); refine box_event ?hg (N := 9) ?hd (cs := #[.int .i64 0, .slice none 0 0]) (t := 43) ?hr ?_; (case hd => rfl); (case hg => rfl); (case hr => first | (go_simp; done) | (go_simp; rfl)); intro gb122 hg w41 hbox hb; have BK122 := Aside0.mk (hbox); have GW122 := Aside0.mk ((bs_ hg HB : w.heap.size ≤ gb122)); have GE122 := Aside0.mk ((bs_ hg HB : w.heap.size ≤ gb122)); have NB101_122 := Aside0.mk ((nl_ hg BK101 : gb101 ≠ gb122)); have NB122_101 := Aside0.mk ((ng_ hg BK101 : gb122 ≠ gb101)); have NB102_122 := Aside0.mk ((nl_ hg BK102 : gb102 ≠ gb122)); have NB122_102 := Aside0.mk ((ng_ hg BK102 : gb122 ≠ gb102)); have NB110_122 := Aside0.mk ((nl_ hg BK110 : gb110 ≠ gb122)); have NB122_110 := Aside0.mk ((ng_ hg BK110 : gb122 ≠ gb110)); have NB116_122 := Aside0.mk ((nl_ hg BK116 : gb116 ≠ gb122)); have NB122_116 := Aside0.mk ((ng_ hg BK116 : gb122 ≠ gb116)); replace HO109 := Aside0.mk (Kd.R_below (rl_ HO109) hb); replace HO114 := Aside0.mk (Kd.R_below (rl_ HO114) hb); replace HO120 := Aside0.mk (Kd.R_below (rl_ HO120) hb); replace BK101 := bb_ BK101 hb; replace BK102 := bb_ BK102 hb; replace BK110 := bb_ BK110 hb; replace BK116 := bb_ BK116 hb; replace HB := hs_ HB hb; clear hb hbox hg; have hnb42 := NB122_101.out; have hnc42 := NB101_122.out; have hnb43 := NB122_102.out; have hnc43 := NB102_122.out; have hnb44 := NB122_110.out; have hnc44 := NB110_122.out; have hnb45 := NB122_116.out; have hnc45 := NB116_122.out; have hcz46_0 : w41.cell? ⟨gb122, 0, none⟩ = some (.int .i64 0) := (blk_cell BK122.out 0).trans rfl; have hcz46_1 : w41.cell? ⟨gb122, 1, none⟩ = some (.slice none 0 0) := (blk_cell BK122.out 1).trans rfl; have hfz46_0 := blk_frozen BK122.out 0; have hfz46_1 := blk_frozen BK122.out 1; obtain ⟨Ao47, co47, eo47⟩ := Kd.R_slice HO120.out; subst eo47))
    go_loopg [11] kj3 (fun kq v11 w' => ∃ (x11_2 : Int) (x111001_2 : List (S62)) (x117001_2 : List (S62)) (x123001_2 : List (S62)) (Au : Option Addr) (cu : Nat) (u117001 : Value) (u123001 : Value), v11 = .int .i64 x11_2 ∧ Aside0 (telamonlaw1_LevelNorms.l0 kq t115 x11_2 a0_0 l0_1 t106 x111001_2 t111 x117001_2 t117 x123001_2 = some r) ∧ Aside0 (x111001_2 = l0_1) ∧ Aside0 (kq ≤ kj3) ∧ Aside0 (Kd.R k62 62 w' w.heap.size (fun k_ => some k_ ≠ (u117001 : Value).ownBlock ∧ some k_ ≠ (u123001 : Value).ownBlock) (.slice Au (x111001_2.length + 1) cu) (x111001_2 ++ [(⟨-71, 0⟩ : S62)])) ∧ Aside0 (Kd.R k62 62 w' w.heap.size (fun k_ => some k_ ≠ (.slice Au (x111001_2.length + 1) cu : Value).ownBlock ∧ some k_ ≠ (u123001 : Value).ownBlock) u117001 x117001_2) ∧ Aside0 (Kd.R k62 62 w' w.heap.size (fun k_ => some k_ ≠ (.slice Au (x111001_2.length + 1) cu : Value).ownBlock ∧ some k_ ≠ (u117001 : Value).ownBlock) u123001 x123001_2) ∧ Aside0 (w'.heap[gb101]? = some (.cells #[.int .i64 a0_0, (.slice A0_1 l0_1.length c0_1)] 43 (0, 0))) ∧ Aside0 (w'.heap[gb102]? = some (.cells #[.int .i64 a1_0, (.slice A1_1 l1_1.length c1_1)] 43 (0, 0))) ∧ Aside0 (w'.heap[gb110]? = some (.cells #[.int .i64 t106, .slice Au x111001_2.length cu] 43 (0, 0))) ∧ Aside0 (w'.heap[gb116]? = some (.cells #[.int .i64 t111, u117001] 43 (0, 0))) ∧ Aside0 (w'.heap[gb122]? = some (.cells #[.int .i64 t117, u123001] 43 (0, 0))) ∧ Aside0 (Below w.heap.size w w'))
    case atStart => exact ⟨(0), (t107), (t112), (t118), (Ao31), (co31), (.slice Ao38 t112.length co38), (.slice Ao47 t118.length co47), (by first | rfl | (simp; done) | (simp [*]; done)), H', ⟨EL107.out⟩, ⟨Nat.le_refl _⟩, ⟨by (with_reducible repeat (first | apply Kd.R_alloc | apply Kd.R_drewN | apply Kd.R_drew)); exact Kd.R_mono (Kd.R_far (p := ⟨gb122, 1, none⟩) (Kd.R_far (p := ⟨gb122, 0, none⟩) (Kd.R_types HO109.out BK122.out (by decide)) (fun _ hk => hk.2) (.int .i64 t117)) (fun _ hk => hk.2) (.slice Ao47 t118.length co47)) (fun _ hk => ⟨hk.1.1.2, hk.1.2⟩)⟩, ⟨by (with_reducible repeat (first | apply Kd.R_alloc | apply Kd.R_drewN | apply Kd.R_drew)); exact Kd.R_mono (Kd.R_far (p := ⟨gb122, 1, none⟩) (Kd.R_far (p := ⟨gb122, 0, none⟩) (Kd.R_types HO114.out BK122.out (by decide)) (fun _ hk => hk.2) (.int .i64 t117)) (fun _ hk => hk.2) (.slice Ao47 t118.length co47)) (fun _ hk => ⟨hk.1.1.2, hk.1.2⟩)⟩, ⟨by (with_reducible repeat (first | apply Kd.R_alloc | apply Kd.R_drewN | apply Kd.R_drew)); exact Kd.R_mono (Kd.R_far (p := ⟨gb122, 1, none⟩) (Kd.R_far (p := ⟨gb122, 0, none⟩) (Kd.R_types HO120.out BK122.out (by decide)) (fun _ hk => hk.2) (.int .i64 t117)) (fun _ hk => hk.2) (.slice Ao47 t118.length co47)) (fun _ hk => ⟨hk.1.1.2, hk.1.2⟩)⟩, ⟨by (with_reducible repeat (first | refine blk_drewN ?_ _ | refine blk_drew ?_ | refine blk_alloc ?_ _)); refine blk_far ?_ NB101_122.out _; (with_reducible repeat (first | refine blk_drewN ?_ _ | refine blk_drew ?_ | refine blk_alloc ?_ _)); refine blk_far ?_ NB101_122.out _; (with_reducible repeat (first | refine blk_drewN ?_ _ | refine blk_drew ?_ | refine blk_alloc ?_ _)); exact BK101.out⟩, ⟨by (with_reducible repeat (first | refine blk_drewN ?_ _ | refine blk_drew ?_ | refine blk_alloc ?_ _)); refine blk_far ?_ NB102_122.out _; (with_reducible repeat (first | refine blk_drewN ?_ _ | refine blk_drew ?_ | refine blk_alloc ?_ _)); refine blk_far ?_ NB102_122.out _; (with_reducible repeat (first | refine blk_drewN ?_ _ | refine blk_drew ?_ | refine blk_alloc ?_ _)); exact BK102.out⟩, ⟨by (with_reducible repeat (first | refine blk_drewN ?_ _ | refine blk_drew ?_ | refine blk_alloc ?_ _)); refine blk_far ?_ NB110_122.out _; (with_reducible repeat (first | refine blk_drewN ?_ _ | refine blk_drew ?_ | refine blk_alloc ?_ _)); refine blk_far ?_ NB110_122.out _; (with_reducible repeat (first | refine blk_drewN ?_ _ | refine blk_drew ?_ | refine blk_alloc ?_ _)); exact BK110.out⟩, ⟨by (with_reducible repeat (first | refine blk_drewN ?_ _ | refine blk_drew ?_ | refine blk_alloc ?_ _)); refine blk_far ?_ NB116_122.out _; (with_reducible repeat (first | refine blk_drewN ?_ _ | refine blk_drew ?_ | refine blk_alloc ?_ _)); refine blk_far ?_ NB116_122.out _; (with_reducible repeat (first | refine blk_drewN ?_ _ | refine blk_drew ?_ | refine blk_alloc ?_ _)); exact BK116.out⟩, ⟨by (with_reducible repeat (first | refine blk_drewN ?_ _ | refine blk_drew ?_ | refine blk_alloc ?_ _)); refine blk_put (cs := #[.int .i64 t117, .slice none 0 0]) ?_ 1 _ rfl; (with_reducible repeat (first | refine blk_drewN ?_ _ | refine blk_drew ?_ | refine blk_alloc ?_ _)); refine blk_put (cs := #[.int .i64 0, .slice none 0 0]) ?_ 0 _ rfl; (with_reducible repeat (first | refine blk_drewN ?_ _ | refine blk_drew ?_ | refine blk_alloc ?_ _)); exact BK122.out⟩, ⟨by repeat (first | (with_reducible first | exact HB.out | apply below_alloc | apply pw_below_drewN | apply below_drew1 | refine below_set ?_ GE101.out | refine below_set ?_ GE102.out | refine below_set ?_ GE110.out | refine below_set ?_ GE116.out | refine below_set ?_ GE122.out) | exact HB.out)⟩⟩
    case round =>
     clear H'
     (try clear c1); (try clear c2); (try clear p2); (try clear c3); (try clear c4); (try clear c8); (try clear c10); (try clear c11); (try clear c15); (try clear c20); (try clear c24); (try clear c28); (try clear c29); (try clear c34); (try clear c35); (try clear c36); (try clear c37); (try clear c39); (try clear c40); (try clear c42); (try clear c43); (try clear c44); (try clear c45); (try clear hcz12_0); (try clear hcz12_1); (try clear hcz16_0); (try clear hcz16_1); (try clear hcz18_0); (try clear hcz18_1); (try clear hcz25_0); (try clear hcz25_1); (try clear hcz30_0); (try clear hcz30_1); (try clear hcz37_0); (try clear hcz37_1); (try clear hcz39_0); (try clear hcz39_1); (try clear hcz46_0); (try clear hcz46_1); (try clear hfz12_0); (try clear hfz12_1); (try clear hfz16_0); (try clear hfz16_1); (try clear hfz18_0); (try clear hfz18_1); (try clear hfz25_0); (try clear hfz25_1); (try clear hfz30_0); (try clear hfz30_1); (try clear hfz37_0); (try clear hfz37_1); (try clear hfz39_0); (try clear hfz39_1); (try clear hfz46_0); (try clear hfz46_1); (try clear p2)
     obtain ⟨x11_2, x111001_2, x117001_2, x123001_2, Au, cu, u117001, u123001, rfl, HA, EX1, HK2, HO_111001, HO_117001, HO_123001, BK101, BK102, BK110, BK116, BK122, HB⟩ := hrel
     cases gk with
     | zero => exact absurd HA.out (by simp [telamonlaw1_LevelNorms.l0])
     | succ k2 =>
      have H := HA.out
      clear HA
      simp only [telamonlaw1_LevelNorms.l0] at H
      by_cases c48 : x11_2 < (x123001_2.length : Int)
      ·rw [if_pos c48] at H
       have c48b0 : decide (x11_2 < (x123001_2.length : Int)) = true := decide_eq_true c48
       clear c48
       by_cases c49 : 0 ≤ x11_2
       ·rw [if_pos c49] at H
        have c49b0 : decide (0 ≤ x11_2) = true := decide_eq_true c49
        clear c49
        obtain ⟨y123, hy123⟩ : ∃ y_ : List (S62), y_ = (x123001_2.set (x11_2 : Int).toNat (⟨(-1), (rd_T62 x123001_2 x11_2).f1⟩ : S62)) := ⟨_, rfl⟩
        replace H : (telamonlaw1_LevelNorms.l0 k2 t115 (wrap64 (x11_2 + 1)) a0_0 l0_1 t106 x111001_2 t111 x117001_2 t117 y123) = some r := by first | (rw [hy123]; with_reducible exact H) | (have H2_ := (Option.bind_some _ _).symm.trans H; rw [hy123]; with_reducible exact H2_) | (have H2_ := (Option.bind_some _ _).symm.trans H; with_reducible exact H2_) | with_reducible exact H | (rw [hy123]; exact H) | exact H
        have Ny123 := Aside0.mk hy123
        clear hy123
        have H' := Aside0.mk H
        clear H
        have hnb51 := NB122_101.out
        have hnc51 := NB101_122.out
        have hnb52 := NB122_102.out
        have hnc52 := NB102_122.out
        have hnb53 := NB122_110.out
        have hnc53 := NB110_122.out
        have hnb54 := NB122_116.out
        have hnc54 := NB116_122.out
        have hcz55_0 : wr.cell? ⟨gb122, 0, none⟩ = some (.int .i64 t117) := (blk_cell BK122.out 0).trans rfl
        have hcz55_1 : wr.cell? ⟨gb122, 1, none⟩ = some (u123001) := (blk_cell BK122.out 1).trans rfl
        have hfz55_0 := blk_frozen BK122.out 0
        have hfz55_1 := blk_frozen BK122.out 1
        obtain ⟨Ao56, co56, eo56⟩ := Kd.R_slice HO_123001.out
        subst eo56
        have p50 : 0 ≤ (x11_2 : Int) := of_decide_eq_true (by first | (with_reducible assumption) | assumption)
        have q50 : (x11_2 : Int) < ((x123001_2.length : Int) : Int) := of_decide_eq_true (by first | (with_reducible assumption) | assumption)
        obtain ⟨go50, co50, eo50, gb50, gl50, cl50, HG50⟩ := Kd.R_form HO_123001.out (by omega)
        (first | cases eo50 | (injection eo50 with ea_ en_ ec_; (first | subst ea_ | (injection ea_ with ea_; subst ea_)); subst ec_; clear en_))
        have GB50 := Aside0.mk gb50
        have GG50 := Aside0.mk HG50
        clear gb50 gl50 HG50
        obtain ⟨ce50, hcl50, hM50, hcc50, hfr50⟩ := Kd.R_elem HO_123001.out z62 (x11_2 : Int) p50 q50
        obtain rfl := k62_openM hM50
        have hx50_0 : wr.cell? ⟨go50, (x11_2 : Int).toNat * 2, none⟩ = some (.int .i64 ((rd_T62 x123001_2 x11_2).f0)) := hcc50 0 _ rfl
        have hx50_1 : wr.cell? ⟨go50, (x11_2 : Int).toNat * 2 + 1, none⟩ = some (.int .i64 ((rd_T62 x123001_2 x11_2).f1)) := hcc50 1 _ rfl
        have hf50_0 : wr.frozen? ⟨go50, (x11_2 : Int).toNat * 2, none⟩ = false := hfr50 0
        have hf50_1 : wr.frozen? ⟨go50, (x11_2 : Int).toNat * 2 + 1, none⟩ = false := hfr50 1
        clear hcl50 hcc50 hfr50 hM50
        replace p50 := eq_true p50
        replace q50 := eq_true q50
        have HX57 := Aside0.mk (show Kd.R k62 62 wr w.heap.size (fun k_ => some k_ ≠ (.slice Au (x111001_2.length + 1) cu : Value).ownBlock ∧ some k_ ≠ (u117001 : Value).ownBlock) (.slice (some ⟨go50, 0, none⟩) x123001_2.length co56) x123001_2 from (rl_ HO_123001))
        obtain ⟨ce57, hcl57, hM57, hcc57, hfr57⟩ := Kd.R_elem HX57.out z62 (x11_2 : Int) (of_decide_eq_true (by first | (with_reducible assumption) | assumption)) (by have h_ : (x11_2 : Int) < ((x123001_2.length : Int) : Int) := of_decide_eq_true (by first | (with_reducible assumption) | assumption); first | exact h_ | (have e_ := (Kd.R_reads' HO_123001.out).1; omega) | simpa using h_)
        obtain rfl := k62_openM hM57
        have HP57 := Kd.R_seg HX57.out (x11_2 : Int) (of_decide_eq_true (by first | (with_reducible assumption) | assumption)) (by have h_ : (x11_2 : Int) < ((x123001_2.length : Int) : Int) := of_decide_eq_true (by first | (with_reducible assumption) | assumption); first | exact h_ | (have e_ := (Kd.R_reads' HO_123001.out).1; omega) | simpa using h_) (seg := [.int .i64 (-1)]) (j := 0) hcl57 hcc57 (show 1 ≤ 2 from by decide) (x' := (⟨(-1), (rd_T62 x123001_2 x11_2).f1⟩ : S62)) (k62_mkM _ _ _ (⟨(-1), (rd_T62 x123001_2 x11_2).f1⟩ : S62) ) (fun _ hk => hk)
        have hx57_0 := hcc57 0 _ rfl
        (try simp only [show (k62).sz = 2 from rfl, Nat.mul_one, Nat.add_zero] at hx57_0)
        have hf57_0 := hfr57 0
        (try simp only [show (k62).sz = 2 from rfl, Nat.mul_one, Nat.add_zero] at hf57_0)
        clear hcl57 hcc57 hfr57 hM57
        go_wp2_with (first | ((with_reducible refine gate_store (t := 3) (p := 49) rfl ?_); refine store_event (t := 3) (p := 49) (v := ?vo_w58) (w1 := (wr.setCell ⟨go50, (x11_2 : Int).toNat * 2, none⟩ (.int .i64 (-1)))) ?hg ?ho ?hn ?hr ?_; (case ho => rfl); (case hg => rfl); (case hn => rfl); (case hr => first | (go_simp; done) | (go_simp; rfl)); intro w58 hw; have hg : wr.grownBy w58 (some go50) := (by rw [hw]; exact HP57.2); have hp_ : Kd.R k62 62 w58 w.heap.size (fun k_ => some k_ ≠ (.slice Au (x111001_2.length + 1) cu : Value).ownBlock ∧ some k_ ≠ (u117001 : Value).ownBlock) (.slice (some ⟨go50, 0, none⟩) x123001_2.length co56) y123 := (by rw [hw, Ny123.out]; exact HP57.1); clear HP57; replace HO_111001 := Aside0.mk (Kd.R_after (v := (.slice (some ⟨go50, 0, none⟩) x123001_2.length co56)) (v1 := (.slice (some ⟨go50, 0, none⟩) x123001_2.length co56)) (ok := (fun k_ => some k_ ≠ (u117001 : Value).ownBlock)) (rl_ HO_111001) hg (.inl rfl)); replace HO_117001 := Aside0.mk (Kd.R_after (v := (.slice (some ⟨go50, 0, none⟩) x123001_2.length co56)) (v1 := (.slice (some ⟨go50, 0, none⟩) x123001_2.length co56)) (ok := (fun k_ => some k_ ≠ (.slice Au (x111001_2.length + 1) cu : Value).ownBlock)) (rl_ HO_117001) hg (.inl rfl)); replace BK101 := Aside0.mk (blk_grown (g := gb101) (o := .cells #[.int .i64 a0_0, .slice A0_1 l0_1.length c0_1] 43 (0, 0)) (pl_ BK101) hg (Kd.R_ne HO_123001.out BK101.out (by decide))); replace BK102 := Aside0.mk (blk_grown (g := gb102) (o := .cells #[.int .i64 a1_0, .slice A1_1 l1_1.length c1_1] 43 (0, 0)) (pl_ BK102) hg (Kd.R_ne HO_123001.out BK102.out (by decide))); replace BK110 := Aside0.mk (blk_grown (g := gb110) (o := .cells #[.int .i64 t106, .slice Au x111001_2.length cu] 43 (0, 0)) (pl_ BK110) hg (Kd.R_ne HO_123001.out BK110.out (by decide))); replace BK116 := Aside0.mk (blk_grown (g := gb116) (o := .cells #[.int .i64 t111, u117001] 43 (0, 0)) (pl_ BK116) hg (Kd.R_ne HO_123001.out BK116.out (by decide))); replace BK122 := Aside0.mk (blk_grown (g := gb122) (o := .cells #[.int .i64 t117, .slice (some ⟨go50, 0, none⟩) x123001_2.length co56] 43 (0, 0)) (pl_ BK122) hg (Kd.R_ne HO_123001.out BK122.out (by decide))); replace HO_123001 := Aside0.mk (hp_); replace HB := Aside0.mk ((by rw [hw]; exact below_set (HB.out) GB50.out : Below w.heap.size w w58)); clear hg hw hp_))
        go_roundg k2
        case measure => have := HJ3.out; have := HK2.out; omega
        case rel => exact ⟨(wrap64 (x11_2 + 1)), (x111001_2), (x117001_2), (y123), (Au), (cu), (u117001), (.slice (some ⟨go50, 0, none⟩) x123001_2.length co56), (by first | rfl | (simp; done) | (simp [*]; done)), H', EX1, ⟨by have := HJ3.out; have := HK2.out; omega⟩, ⟨by (with_reducible repeat (first | apply Kd.R_alloc | apply Kd.R_drewN | apply Kd.R_drew)); exact HO_111001.out⟩, ⟨by (with_reducible repeat (first | apply Kd.R_alloc | apply Kd.R_drewN | apply Kd.R_drew)); exact HO_117001.out⟩, ⟨by (with_reducible repeat (first | apply Kd.R_alloc | apply Kd.R_drewN | apply Kd.R_drew)); exact HO_123001.out⟩, ⟨by (with_reducible repeat (first | refine blk_drewN ?_ _ | refine blk_drew ?_ | refine blk_alloc ?_ _)); exact BK101.out⟩, ⟨by (with_reducible repeat (first | refine blk_drewN ?_ _ | refine blk_drew ?_ | refine blk_alloc ?_ _)); exact BK102.out⟩, ⟨by (with_reducible repeat (first | refine blk_drewN ?_ _ | refine blk_drew ?_ | refine blk_alloc ?_ _)); exact BK110.out⟩, ⟨by (with_reducible repeat (first | refine blk_drewN ?_ _ | refine blk_drew ?_ | refine blk_alloc ?_ _)); exact BK116.out⟩, ⟨by (with_reducible repeat (first | refine blk_drewN ?_ _ | refine blk_drew ?_ | refine blk_alloc ?_ _)); exact BK122.out⟩, ⟨by repeat (first | (with_reducible first | exact HB.out | apply below_alloc | apply pw_below_drewN | apply below_drew1 | refine below_set ?_ GE101.out | refine below_set ?_ GE102.out | refine below_set ?_ GE110.out | refine below_set ?_ GE116.out | refine below_set ?_ GE122.out) | exact HB.out)⟩⟩
       ·rw [if_neg c49] at H
        exact absurd H (by simp)
      ·rw [if_neg c48] at H
       have c48b0 : decide (x11_2 < (x123001_2.length : Int)) = false := decide_eq_false c48
       clear c48
       replace H := Option.bind_eq_some_iff.mp H
       obtain ⟨⟨t124, t125, t128⟩, A590, H⟩ := H
       replace H : ((telamonlaw1_Stay.f k2 t106 x111001_2 a0_0 l0_1).bind fun t130 => (if t130 = true then ((telamonlaw1_num.f t115).bind fun t131 => (if t131 = t128 then ((telamonref1_ExactLevel.f k2 t111 x117001_2 t124 t125).bind fun t132 => (some t132)) else (some false))) else (some false))) = some r := H
       have A59 := Aside0.mk A590
       clear A590
       replace H := Option.bind_eq_some_iff.mp H
       obtain ⟨t130, A600, H⟩ := H
       replace H : (if t130 = true then ((telamonlaw1_num.f t115).bind fun t131 => (if t131 = t128 then ((telamonref1_ExactLevel.f k2 t111 x117001_2 t124 t125).bind fun t132 => (some t132)) else (some false))) else (some false)) = some r := H
       have A60 := Aside0.mk A600
       clear A600
       by_cases c61 : t130 = true
       ·subst c61
        have H1 : ((telamonlaw1_num.f t115).bind fun t131 => (if t131 = t128 then ((telamonref1_ExactLevel.f k2 t111 x117001_2 t124 t125).bind fun t132 => (some t132)) else (some false))) = some r := by rw [if_pos rfl] at H; exact H
        clear H
        have H := H1
        clear H1
        replace H := Option.bind_eq_some_iff.mp H
        obtain ⟨t131, A620, H⟩ := H
        replace H : (if t131 = t128 then ((telamonref1_ExactLevel.f k2 t111 x117001_2 t124 t125).bind fun t132 => (some t132)) else (some false)) = some r := H
        have A62 := Aside0.mk A620
        clear A620
        by_cases c63 : t131 = t128
        ·rw [if_pos c63] at H
         have c63b0 : (t131 == t128) = true := beq_iff_eq.mpr c63
         have c63b1 : (t131 != t128) = false := bne_eq_false_iff_eq.mpr c63
         clear c63
         replace H := Option.bind_eq_some_iff.mp H
         obtain ⟨t132, A640, H⟩ := H
         replace H : (some t132) = some r := H
         have A64 := Aside0.mk A640
         clear A640
         obtain rfl := Option.some.inj H
         have hnb65 := NB122_101.out
         have hnc65 := NB101_122.out
         have hnb66 := NB122_102.out
         have hnc66 := NB102_122.out
         have hnb67 := NB122_110.out
         have hnc67 := NB110_122.out
         have hnb68 := NB122_116.out
         have hnc68 := NB116_122.out
         have hcz69_0 : wr.cell? ⟨gb122, 0, none⟩ = some (.int .i64 t117) := (blk_cell BK122.out 0).trans rfl
         have hcz69_1 : wr.cell? ⟨gb122, 1, none⟩ = some (u123001) := (blk_cell BK122.out 1).trans rfl
         have hfz69_0 := blk_frozen BK122.out 0
         have hfz69_1 := blk_frozen BK122.out 1
         obtain ⟨Ao70, co70, eo70⟩ := Kd.R_slice HO_123001.out
         subst eo70
         have hnb71 := NB101_102.out
         have hnc71 := NB102_101.out
         have hnb72 := NB101_110.out
         have hnc72 := NB110_101.out
         have hnb73 := NB101_116.out
         have hnc73 := NB116_101.out
         have hcz74_0 : wr.cell? ⟨gb101, 0, none⟩ = some (.int .i64 a0_0) := (blk_cell BK101.out 0).trans rfl
         have hcz74_1 : wr.cell? ⟨gb101, 1, none⟩ = some (.slice A0_1 l0_1.length c0_1) := (blk_cell BK101.out 1).trans rfl
         have hfz74_0 := blk_frozen BK101.out 0
         have hfz74_1 := blk_frozen BK101.out 1
         go_wp2_with (first | ((with_reducible refine gate_callee (f := 41) rfl ?_); refine goesL_ (some 52) rfl rfl Try.func41 (by kernel_rfl) rfl #[.agg #[.int .i64 a0_0, .slice A0_1 l0_1.length c0_1]] rfl (by (try simp only [List.map_toArray, List.map_cons, List.map_nil]); first | done | rfl | (simp only [List.length_drop, List.length_take]; rfl)) ?_; (with_reducible refine (telamonref1_Norm.calls k2 a0_0 _ _ l0_1 t124 t125 t128 _ ?side1 ?side2 A59.out).mono ?_); (case side1 => repeat (first | exact (Kd.C_below HR0_1.out HB.out) | (with_reducible refine Kd.C_alloc ?_ _) | (with_reducible refine Kd.C_drewN ?_ _) | (with_reducible refine Kd.C_drew ?_))); (case side2 => exact HC0_1.out); rintro e w75 ⟨v126, rfl, ho0, hb⟩; refine ⟨_, rfl, ?_⟩; have HO127 := Aside0.mk (Kd.R_lower (Kd.R_new' (Kd.R_new' (Kd.R_new' ho0 (Kd.R_lt (rl_ HO_111001))) (Kd.R_lt (rl_ HO_117001))) (Kd.R_lt (rl_ HO_123001))) (below_size (bl_ HB))); replace HO_111001 := Aside0.mk (Kd.R_elder' (rl_ HO_111001) (Kd.R_base ho0) hb); replace HO_117001 := Aside0.mk (Kd.R_elder' (rl_ HO_117001) (Kd.R_base ho0) hb); replace HO_123001 := Aside0.mk (Kd.R_elder' (rl_ HO_123001) (Kd.R_base ho0) hb); replace BK101 := bb_ BK101 hb; replace BK102 := bb_ BK102 hb; replace BK110 := bb_ BK110 hb; replace BK116 := bb_ BK116 hb; replace BK122 := bb_ BK122 hb; replace HB := hs_ HB hb; (try clear hb); (try clear hb2); (try clear hk); (try clear hi); (try clear ho0)) | ((with_reducible refine gate_dst (N := 12) rfl ?_); refine box_event ?hg (N := 12) ?hd (cs := #[.int .i64 0, .slice none 0 0]) (t := 43) ?hr ?_; (case hd => rfl); (case hg => rfl); (case hr => first | (go_simp; done) | (go_simp; rfl)); intro gb129 hg w76 hbox hb; have BK129 := Aside0.mk (hbox); have GW129 := Aside0.mk ((bs_ hg HB : w.heap.size ≤ gb129)); have GE129 := Aside0.mk ((bs_ hg HB : w.heap.size ≤ gb129)); have NB101_129 := Aside0.mk ((nl_ hg BK101 : gb101 ≠ gb129)); have NB129_101 := Aside0.mk ((ng_ hg BK101 : gb129 ≠ gb101)); have NB102_129 := Aside0.mk ((nl_ hg BK102 : gb102 ≠ gb129)); have NB129_102 := Aside0.mk ((ng_ hg BK102 : gb129 ≠ gb102)); have NB110_129 := Aside0.mk ((nl_ hg BK110 : gb110 ≠ gb129)); have NB129_110 := Aside0.mk ((ng_ hg BK110 : gb129 ≠ gb110)); have NB116_129 := Aside0.mk ((nl_ hg BK116 : gb116 ≠ gb129)); have NB129_116 := Aside0.mk ((ng_ hg BK116 : gb129 ≠ gb116)); have NB122_129 := Aside0.mk ((nl_ hg BK122 : gb122 ≠ gb129)); have NB129_122 := Aside0.mk ((ng_ hg BK122 : gb129 ≠ gb122)); replace HO_111001 := Aside0.mk (Kd.R_below (rl_ HO_111001) hb); replace HO_117001 := Aside0.mk (Kd.R_below (rl_ HO_117001) hb); replace HO_123001 := Aside0.mk (Kd.R_below (rl_ HO_123001) hb); replace HO127 := Aside0.mk (Kd.R_below (rl_ HO127) hb); replace BK101 := bb_ BK101 hb; replace BK102 := bb_ BK102 hb; replace BK110 := bb_ BK110 hb; replace BK116 := bb_ BK116 hb; replace BK122 := bb_ BK122 hb; replace HB := hs_ HB hb; clear hb hbox hg; have hnb77 := NB129_101.out; have hnc77 := NB101_129.out; have hnb78 := NB129_102.out; have hnc78 := NB102_129.out; have hnb79 := NB129_110.out; have hnc79 := NB110_129.out; have hnb80 := NB129_116.out; have hnc80 := NB116_129.out; have hnb81 := NB129_122.out; have hnc81 := NB122_129.out; have hcz82_0 : w76.cell? ⟨gb129, 0, none⟩ = some (.int .i64 0) := (blk_cell BK129.out 0).trans rfl; have hcz82_1 : w76.cell? ⟨gb129, 1, none⟩ = some (.slice none 0 0) := (blk_cell BK129.out 1).trans rfl; have hfz82_0 := blk_frozen BK129.out 0; have hfz82_1 := blk_frozen BK129.out 1; obtain ⟨Ao83, co83, eo83⟩ := Kd.R_slice HO127.out; subst eo83; have hnb84 := NB110_102.out; have hnc84 := NB102_110.out; have hnb85 := NB110_116.out; have hnc85 := NB116_110.out; have hcz86_0 : w76.cell? ⟨gb110, 0, none⟩ = some (.int .i64 t106) := (blk_cell BK110.out 0).trans rfl; have hcz86_1 : w76.cell? ⟨gb110, 1, none⟩ = some (.slice Au x111001_2.length cu) := (blk_cell BK110.out 1).trans rfl; have hfz86_0 := blk_frozen BK110.out 0; have hfz86_1 := blk_frozen BK110.out 1; have hcz87_0 : w76.cell? ⟨gb101, 0, none⟩ = some (.int .i64 a0_0) := (blk_cell BK101.out 0).trans rfl; have hcz87_1 : w76.cell? ⟨gb101, 1, none⟩ = some (.slice A0_1 l0_1.length c0_1) := (blk_cell BK101.out 1).trans rfl; have hfz87_0 := blk_frozen BK101.out 0; have hfz87_1 := blk_frozen BK101.out 1) | ((with_reducible refine gate_callee (f := 42) rfl ?_); refine goesL_ (some 57) rfl rfl Try.func42 (by kernel_rfl) rfl #[.agg #[.int .i64 t106, .slice Au x111001_2.length cu], .agg #[.int .i64 a0_0, .slice A0_1 l0_1.length c0_1]] rfl (by (try simp only [List.map_toArray, List.map_cons, List.map_nil]); first | done | rfl | (simp only [List.length_drop, List.length_take]; rfl)) ?_; (with_reducible refine (telamonlaw1_Stay.calls2 k2 t106 _ _ x111001_2 a0_0 _ _ l0_1 _ EL106.out EX1.out ?side1 ?side2 ?side3 ?side4 A60.out).mono ?_); (case side1 => refine lent_RX (x := ⟨-71, 0⟩) (e := 62) (base := w.heap.size) (ok := fun k_ => ((some k_ ≠ (u117001 : Value).ownBlock ∧ some k_ ≠ (.slice Ao70 x123001_2.length co70 : Value).ownBlock) ∧ some k_ ≠ (.slice Ao83 t125.length co83 : Value).ownBlock)) (c := cu) ?_; exact (by (with_reducible repeat (first | apply Kd.R_alloc | apply Kd.R_drewN | apply Kd.R_drew)); exact (Kd.R_mono (Kd.R_far (p := ⟨gb129, 1, none⟩) (Kd.R_far (p := ⟨gb129, 0, none⟩) (Kd.R_types HO_111001.out BK129.out (by decide)) (fun _ hk => hk.2) (.int .i64 t124)) (fun _ hk => hk.2) (.slice Ao83 t125.length co83)) (fun _ h_ => h_.1)))); (case side2 => exact lent_cap HO_111001.out); (case side3 => exact Kd.C_below HR0_1.out (bl_ HB)); (case side4 => exact HC0_1.out); rintro e w89 ⟨rfl, hb⟩; refine ⟨_, rfl, ?_⟩; replace HO_111001 := Aside0.mk (Kd.R_below (by (with_reducible repeat (first | apply Kd.R_alloc | apply Kd.R_drewN | apply Kd.R_drew)); exact (Kd.R_mono (Kd.R_far (p := ⟨gb129, 1, none⟩) (Kd.R_far (p := ⟨gb129, 0, none⟩) (Kd.R_types HO_111001.out BK129.out (by decide)) (fun _ hk => hk.2) (.int .i64 t124)) (fun _ hk => hk.2) (.slice Ao83 t125.length co83)) (fun _ h_ => h_.1))) hb); replace HO_117001 := Aside0.mk (Kd.R_below (by (with_reducible repeat (first | apply Kd.R_alloc | apply Kd.R_drewN | apply Kd.R_drew)); exact (Kd.R_mono (Kd.R_far (p := ⟨gb129, 1, none⟩) (Kd.R_far (p := ⟨gb129, 0, none⟩) (Kd.R_types HO_117001.out BK129.out (by decide)) (fun _ hk => hk.2) (.int .i64 t124)) (fun _ hk => hk.2) (.slice Ao83 t125.length co83)) (fun _ h_ => h_.1))) hb); replace HO_123001 := Aside0.mk (Kd.R_below (by (with_reducible repeat (first | apply Kd.R_alloc | apply Kd.R_drewN | apply Kd.R_drew)); exact (Kd.R_mono (Kd.R_far (p := ⟨gb129, 1, none⟩) (Kd.R_far (p := ⟨gb129, 0, none⟩) (Kd.R_types HO_123001.out BK129.out (by decide)) (fun _ hk => hk.2) (.int .i64 t124)) (fun _ hk => hk.2) (.slice Ao83 t125.length co83)) (fun _ h_ => h_.1))) hb); replace HO127 := Aside0.mk (Kd.R_below (by (with_reducible repeat (first | apply Kd.R_alloc | apply Kd.R_drewN | apply Kd.R_drew)); exact (Kd.R_mono (Kd.R_far (p := ⟨gb129, 1, none⟩) (Kd.R_far (p := ⟨gb129, 0, none⟩) (Kd.R_types HO127.out BK129.out (by decide)) (fun _ hk => hk.2) (.int .i64 t124)) (fun _ hk => hk.2) (.slice Ao83 t125.length co83)) (fun _ h_ => h_.1))) hb); replace BK101 := Aside0.mk (blk_below (pf_ BK101) hb); replace BK102 := Aside0.mk (blk_below (pf_ BK102) hb); replace BK110 := Aside0.mk (blk_below (pf_ BK110) hb); replace BK116 := Aside0.mk (blk_below (pf_ BK116) hb); replace BK122 := Aside0.mk (blk_below (pf_ BK122) hb); replace BK129 := Aside0.mk (blk_below (g := gb129) (o := .cells #[.int .i64 t124, .slice Ao83 t125.length co83] 43 (0, 0)) (by (with_reducible repeat (first | refine blk_drewN ?_ _ | refine blk_drew ?_ | refine blk_alloc ?_ _)); refine blk_put (cs := #[.int .i64 t124, .slice none 0 0]) ?_ 1 _ rfl; (with_reducible repeat (first | refine blk_drewN ?_ _ | refine blk_drew ?_ | refine blk_alloc ?_ _)); refine blk_put (cs := #[.int .i64 0, .slice none 0 0]) ?_ 0 _ rfl; (with_reducible repeat (first | refine blk_drewN ?_ _ | refine blk_drew ?_ | refine blk_alloc ?_ _)); exact BK129.out) hb); replace HB := hs_ HB hb; (try clear hb); (try clear hb2); (try clear hk); (try clear hi)) | (go_at_call 43; (with_reducible refine (telamonlaw1_num.calls t115 t131 _ A62.out).mono ?_); rintro e w' ⟨rfl, ⟨nd, rfl⟩⟩; have hnb90 := NB116_102.out; have hnc90 := NB102_116.out; have hcz91_0 : w89.cell? ⟨gb116, 0, none⟩ = some (.int .i64 t111) := (blk_cell BK116.out 0).trans rfl; have hcz91_1 : w89.cell? ⟨gb116, 1, none⟩ = some (u117001) := (blk_cell BK116.out 1).trans rfl; have hfz91_0 := blk_frozen BK116.out 0; have hfz91_1 := blk_frozen BK116.out 1; have hcz92_0 : w89.cell? ⟨gb129, 0, none⟩ = some (.int .i64 t124) := (blk_cell BK129.out 0).trans rfl; have hcz92_1 : w89.cell? ⟨gb129, 1, none⟩ = some (.slice Ao83 t125.length co83) := (blk_cell BK129.out 1).trans rfl; have hfz92_0 := blk_frozen BK129.out 0; have hfz92_1 := blk_frozen BK129.out 1; obtain ⟨Ao93, co93, eo93⟩ := Kd.R_slice HO_117001.out; subst eo93) | (go_at_call 44; (with_reducible refine (telamonref1_ExactLevel.calls k2 t111 _ _ x117001_2 t124 _ _ t125 t132 _ ?side1 ?side2 ?side3 ?side4 A64.out).mono ?_); (case side1 => repeat (first | exact (Kd.R_reads' HO_117001.out).2.2 | (with_reducible refine Kd.C_alloc ?_ _) | (with_reducible refine Kd.C_drewN ?_ _) | (with_reducible refine Kd.C_drew ?_))); (case side2 => exact (Kd.R_reads' HO_117001.out).2.1); (case side3 => repeat (first | exact (Kd.R_reads' HO127.out).2.2 | (with_reducible refine Kd.C_alloc ?_ _) | (with_reducible refine Kd.C_drewN ?_ _) | (with_reducible refine Kd.C_drew ?_))); (case side4 => exact (Kd.R_reads' HO127.out).2.1); rintro e w94 ⟨rfl, hb⟩; replace HO_111001 := Aside0.mk (Kd.R_below (rl_ HO_111001) hb); replace HO_117001 := Aside0.mk (Kd.R_below (rl_ HO_117001) hb); replace HO_123001 := Aside0.mk (Kd.R_below (rl_ HO_123001) hb); replace HO127 := Aside0.mk (Kd.R_below (rl_ HO127) hb); replace BK101 := bb_ BK101 hb; replace BK102 := bb_ BK102 hb; replace BK110 := bb_ BK110 hb; replace BK116 := bb_ BK116 hb; replace BK122 := bb_ BK122 hb; replace BK129 := bb_ BK129 hb; replace HB := hs_ HB hb; (try clear hb); (try clear hb2); (try clear hk); (try clear hi)))
         go_ret
         exact ⟨by first | rfl | (simp [errW_none, errW_some] <;> rfl) | (simp [*, errW_none, errW_some] <;> rfl), by repeat (first | (with_reducible first | exact HB.out | apply below_alloc | apply pw_below_drewN | apply below_drew1 | refine below_set ?_ GE101.out | refine below_set ?_ GE102.out | refine below_set ?_ GE110.out | refine below_set ?_ GE116.out | refine below_set ?_ GE122.out | refine below_set ?_ GE129.out) | exact HB.out)⟩
        ·rw [if_neg c63] at H
         have c63b0 : (t131 == t128) = false := beq_eq_false_iff_ne.mpr c63
         have c63b1 : (t131 != t128) = true := bne_iff_ne.mpr c63
         obtain rfl := Option.some.inj H
         exact absurd hrt.out (by decide)
       ·replace c61 := Bool.eq_false_iff.mpr c61
        subst c61
        have H1 : (some false) = some r := by rw [if_neg (show ¬ (false = true) by decide)] at H; exact H
        clear H
        have H := H1
        clear H1
        obtain rfl := Option.some.inj H
        exact absurd hrt.out (by decide)


end Go.Proofs.Ytbopadglafbdjaa.PX
