-- by wip/tools/gprint.py of this session over the kit's print; given functions are this session's own text
import Derived.Test.YtbopadglafbdjaaPXx0
import Derived.Test.YtbopadglafbdjaaPXxf73
import Derived.Test.YtbopadglafbdjaaPXxf40
import Derived.Test.YtbopadglafbdjaaPXxf78
import Derived.Test.YtbopadglafbdjaaPXxf45
import Derived.Test.YtbopadglafbdjaaPXxf46
namespace Go.Proofs.Ytbopadglafbdjaa.PX
open Go.RowKit Go.Proofs.YtbopadglafbdjaaW.PrintWords Go.Proofs.YtbopadglafbdjaaW.PrintLast Go.Proofs.YtbopadglafbdjaaW.PrintMore
attribute [local go_sem] max2_int min2_int max_two min_two max_three min_three max_four min_four   -- for this text's walks alone
set_option linter.unusedVariables false
set_option linter.unusedSimpArgs false

/-! ### level_Subst: function 51 -/
mutual
def level_Subst.l0 : Nat → List (S43) → List (S43) → Int → Int → Int → List (S62) → Option (Int × (List (S62)) × Int)
 | 0, _, _, _, _, _, _ => none
 | k + 1, x1, x23, x24, x25, x102000, x102001 => if x25 < x24 then (if 0 ≤ x25 then (if x25 < (x23.length : Int) then ((level_right.f k ((rd_T43 x23 x25).f0) ((rd_T43 x23 x25).f1)).bind fun t110 => (if t110 = true then (level_Subst.l0 k x1 x23 x24 (wrap64 (x25 + 1)) x102000 x102001) else (some (0, ([] : List (S62)), 13)))) else (none)) else (none)) else (level_Subst.l1 k x1 x102001 (x102001.length : Int) 0 x102000 ([] : List (S62)))
def level_Subst.l1 : Nat → List (S43) → List (S62) → Int → Int → Int → List (S62) → Option (Int × (List (S62)) × Int)
 | 0, _, _, _, _, _, _ => none
 | k + 1, x1, x38, x39, x40, x112000, x112001 => if x40 < x39 then (if 0 ≤ x40 then (if x40 < (x38.length : Int) then (if ((rd_T62 x38 x40).f0) ≥ (x1.length : Int) then (some (0, ([] : List (S62)), 13)) else (if 0 ≤ ((rd_T62 x38 x40).f0) then (if ((rd_T62 x38 x40).f0) < (x1.length : Int) then ((level_Suc.f k ((rd_T43 x1 ((rd_T62 x38 x40).f0)).f0) ((rd_T43 x1 ((rd_T62 x38 x40).f0)).f1) ((rd_T62 x38 x40).f1)).bind fun bt120 => (if bt120.2.2 = 0 then ((level_Max.f k x112000 x112001 bt120.1 bt120.2.1).bind fun bt126 => (if bt126.2.2 = 0 then (level_Subst.l1 k x1 x38 x39 (wrap64 (x40 + 1)) bt126.1 bt126.2.1) else (some (0, ([] : List (S62)), 13)))) else (some (0, ([] : List (S62)), 13)))) else (none)) else (none))) else (none)) else (none)) else ((level_told.f k x112000 x112001).bind fun bt112 => (some (bt112.1, bt112.2.1, bt112.2.2)))
end
def level_Subst.f (k : Nat) (a0_0 : Int) (l0_1 : List (S62)) (l1 : List (S43)) : Option (Int × (List (S62)) × Int) := (level_Norm.f k a0_0 l0_1).bind fun bt103 => (if bt103.2.2 = 0 then (level_Subst.l0 k l1 l1 (l1.length : Int) 0 bt103.1 bt103.2.1) else (some (0, ([] : List (S62)), bt103.2.2)))
theorem level_Subst.mono_l : ∀ k, (∀ y0 y1 y2 y3 y4 y5, LeO (level_Subst.l0 k y0 y1 y2 y3 y4 y5) (level_Subst.l0 (k + 1) y0 y1 y2 y3 y4 y5)) ∧ (∀ y0 y1 y2 y3 y4 y5, LeO (level_Subst.l1 k y0 y1 y2 y3 y4 y5) (level_Subst.l1 (k + 1) y0 y1 y2 y3 y4 y5))
 | 0 => ⟨fun _ _ _ _ _ _ r h => by simp [level_Subst.l0] at h, fun _ _ _ _ _ _ r h => by simp [level_Subst.l1] at h⟩
 | k + 1 => by
  obtain ⟨ih0, ih1⟩ := level_Subst.mono_l k
  refine ⟨?_, ?_⟩
  ·intro y0 y1 y2 y3 y4 y5
   unfold level_Subst.l0
   repeat' first
   | (with_reducible exact ih0 _ _ _ _ _ _)
   | (with_reducible exact ih1 _ _ _ _ _ _)
   | (with_reducible exact level_Max.mono _ _ _ _ _)
   | (with_reducible exact level_Norm.mono _ _ _)
   | (with_reducible exact level_Suc.mono _ _ _ _)
   | (with_reducible exact level_right.mono _ _ _)
   | (with_reducible exact level_told.mono _ _ _)
   | (with_reducible exact LeO.refl _)
   | (with_reducible exact LeO.none _)
   | (with_reducible refine LeO.ite ?_ ?_)
   | (with_reducible refine LeO.bind ?_ (fun _ => ?_))
   | exact ih0 _ _ _ _ _ _
   | exact ih1 _ _ _ _ _ _
   | exact level_Max.mono _ _ _ _ _
   | exact level_Norm.mono _ _ _
   | exact level_Suc.mono _ _ _ _
   | exact level_right.mono _ _ _
   | exact level_told.mono _ _ _
   | exact LeO.none _
   | refine LeO.ite ?_ ?_
   | refine LeO.bind ?_ (fun _ => ?_)
  ·intro y0 y1 y2 y3 y4 y5
   unfold level_Subst.l1
   repeat' first
   | (with_reducible exact ih0 _ _ _ _ _ _)
   | (with_reducible exact ih1 _ _ _ _ _ _)
   | (with_reducible exact level_Max.mono _ _ _ _ _)
   | (with_reducible exact level_Norm.mono _ _ _)
   | (with_reducible exact level_Suc.mono _ _ _ _)
   | (with_reducible exact level_right.mono _ _ _)
   | (with_reducible exact level_told.mono _ _ _)
   | (with_reducible exact LeO.refl _)
   | (with_reducible exact LeO.none _)
   | (with_reducible refine LeO.ite ?_ ?_)
   | (with_reducible refine LeO.bind ?_ (fun _ => ?_))
   | exact ih0 _ _ _ _ _ _
   | exact ih1 _ _ _ _ _ _
   | exact level_Max.mono _ _ _ _ _
   | exact level_Norm.mono _ _ _
   | exact level_Suc.mono _ _ _ _
   | exact level_right.mono _ _ _
   | exact level_told.mono _ _ _
   | exact LeO.none _
   | refine LeO.ite ?_ ?_
   | refine LeO.bind ?_ (fun _ => ?_)
theorem level_Subst.mono : ∀ a0 a1 a2 k, LeO (level_Subst.f k a0 a1 a2) (level_Subst.f (k + 1) a0 a1 a2) := by
 intro a0 a1 a2 k
 obtain ⟨ih0, ih1⟩ := level_Subst.mono_l k
 unfold level_Subst.f
 repeat' first
   | (with_reducible exact ih0 _ _ _ _ _ _)
   | (with_reducible exact ih1 _ _ _ _ _ _)
   | (with_reducible exact level_Max.mono _ _ _ _ _)
   | (with_reducible exact level_Norm.mono _ _ _)
   | (with_reducible exact level_Suc.mono _ _ _ _)
   | (with_reducible exact level_right.mono _ _ _)
   | (with_reducible exact level_told.mono _ _ _)
   | (with_reducible exact LeO.refl _)
   | (with_reducible exact LeO.none _)
   | (with_reducible refine LeO.ite ?_ ?_)
   | (with_reducible refine LeO.bind ?_ (fun _ => ?_))
   | exact ih0 _ _ _ _ _ _
   | exact ih1 _ _ _ _ _ _
   | exact level_Max.mono _ _ _ _ _
   | exact level_Norm.mono _ _ _
   | exact level_Suc.mono _ _ _ _
   | exact level_right.mono _ _ _
   | exact level_told.mono _ _ _
   | exact LeO.none _
   | refine LeO.ite ?_ ?_
   | refine LeO.bind ?_ (fun _ => ?_)
def level_Subst.T16 : Bool × List (List Nat × List Nat) := (true, [([], []), ([], []), ([1], [1]), ([0, 2], [0, 2]), ([3], [3]), ([], []), ([5], [5]), ([4, 6], [4, 6]), ([7], [7]), ([8], [8]), ([8], [8]), ([], []), ([11, 9, 7, 0, 1, 2, 3, 4, 5, 6, 7, 8, 9, 11], [9, 11]), ([10, 12, 0, 1, 2, 3, 4, 5, 6, 7, 8, 9, 10, 11, 12], [10])])
def level_Subst.B16 : List Nat := [0, 0, 2, 7, 15, 0, 32, 127, 255, 511, 511, 0, 3071, 8191]
theorem level_Subst.tab16 : rtab .any (opsOf Try.f51 16) = level_Subst.T16 := by kernel_rfl
theorem level_Subst.bits16 : waitsOk level_Subst.T16.2 level_Subst.B16 = true := by kernel_rfl
set_option maxHeartbeats 8000000 in
set_option maxRecDepth 100000 in
theorem level_Subst.calls (k : Nat) (a0_0 : Int) (A0_1 : Option Addr) (c0_1 : Nat) (l0_1 : List (S62)) (A1 : Option Addr) (c1 : Nat) (l1 : List (S43)) (r1 : Int) (r2 : List (S62)) (r3 : Int) (w : World) (hr0_1 : Kd.C k62 w A0_1 l0_1.length l0_1) (hc0_1 : l0_1.length ≤ c0_1) (hr1 : Kd.C k43 w A1 l1.length l1) (hc1 : l1.length ≤ c1) (h : level_Subst.f k a0_0 l0_1 l1 = some (r1, r2, r3)) :
  Calls Try.prog 51 #[.agg #[.int .i64 a0_0, .slice A0_1 l0_1.length c0_1], .slice A1 l1.length c1] w fun e w' => ∃ v1_ : Value, e = .returned (.tuple #[.agg #[.int .i64 r1, v1_], .int .i64 r3]) ∧ Kd.R k62 62 w' w.heap.size (fun _ => True) v1_ r2 ∧ Below w.heap.size w w' := by
 have hu43 := Try.underlying43
 have hu62 := Try.underlying62
 have HR0_1 := Aside0.mk hr0_1
 have HC0_1 := Aside0.mk hc0_1
 clear hr0_1 hc0_1
 have HR1 := Aside0.mk hr1
 have HC1 := Aside0.mk hc1
 clear hr1 hc1
 have HB := Aside0.mk (Below.refl w.heap.size w)
 have H : ((level_Norm.f k a0_0 l0_1).bind fun bt103 => (if bt103.2.2 = 0 then (level_Subst.l0 k l1 l1 (l1.length : Int) 0 bt103.1 bt103.2.1) else (some (0, ([] : List (S62)), bt103.2.2)))) = some (r1, r2, r3) := h
 clear h
 replace H := Option.bind_eq_some_iff.mp H
 obtain ⟨⟨t103, t104, t107⟩, A30, H⟩ := H
 replace H : (if t107 = 0 then (level_Subst.l0 k l1 l1 (l1.length : Int) 0 t103 t104) else (some (0, ([] : List (S62)), t107))) = some (r1, r2, r3) := H
 have A3 := Aside0.mk A30
 clear A30
 by_cases c4 : t107 = 0
 ·rw [if_pos c4] at H
  have c4b0 : (t107 == 0) = true := beq_iff_eq.mpr c4
  have c4b1 : (t107 != 0) = false := bne_eq_false_iff_eq.mpr c4
  clear c4
  have H' := Aside0.mk H
  clear H
  go_enter Try.func51, Try.ntmps51
  go_wp2_with (first | ((with_reducible refine gate_dst (N := 2) rfl ?_); refine box_event ?hg (N := 2) ?hd (cs := #[.int .i64 a0_0, .slice A0_1 l0_1.length c0_1]) (t := 43) ?hr ?_; (case hd => rfl); (case hg => rfl); (case hr => first | (go_simp; done) | (go_simp; rfl)); intro gb101 hg w5 hbox hb; have BK101 := Aside0.mk (hbox); have GW101 := Aside0.mk ((bs_ hg HB : w.heap.size ≤ gb101)); have GE101 := Aside0.mk ((bs_ hg HB : w.heap.size ≤ gb101)); replace HB := hs_ HB hb; clear hb hbox hg) | ((with_reducible refine gate_dst (N := 4) rfl ?_); refine box_event ?hg (N := 4) ?hd (cs := #[.int .i64 0, .slice none 0 0]) (t := 43) ?hr ?_; (case hd => rfl); (case hg => rfl); (case hr => first | (go_simp; done) | (go_simp; rfl)); intro gb102 hg w6 hbox hb; have BK102 := Aside0.mk (hbox); have GW102 := Aside0.mk ((bs_ hg HB : w.heap.size ≤ gb102)); have GE102 := Aside0.mk ((bs_ hg HB : w.heap.size ≤ gb102)); have NB101_102 := Aside0.mk ((nl_ hg BK101 : gb101 ≠ gb102)); have NB102_101 := Aside0.mk ((ng_ hg BK101 : gb102 ≠ gb101)); replace BK101 := bb_ BK101 hb; replace HB := hs_ HB hb; clear hb hbox hg; have hnb7 := NB101_102.out; have hnc7 := NB102_101.out; have hcz8_0 : w6.cell? ⟨gb101, 0, none⟩ = some (.int .i64 a0_0) := (blk_cell BK101.out 0).trans rfl; have hcz8_1 : w6.cell? ⟨gb101, 1, none⟩ = some (.slice A0_1 l0_1.length c0_1) := (blk_cell BK101.out 1).trans rfl; have hfz8_0 := blk_frozen BK101.out 0; have hfz8_1 := blk_frozen BK101.out 1) | ((with_reducible refine gate_callee (f := 40) rfl ?_); refine goesL_ (some 16) rfl rfl Try.func40 (by kernel_rfl) rfl #[.agg #[.int .i64 a0_0, .slice A0_1 l0_1.length c0_1]] rfl (by (try simp only [List.map_toArray, List.map_cons, List.map_nil]); first | done | rfl | (simp only [List.length_drop, List.length_take]; rfl)) ?_; (with_reducible refine (level_Norm.calls k a0_0 _ _ l0_1 t103 t104 t107 _ ?side1 ?side2 A3.out).mono ?_); (case side1 => repeat (first | exact (Kd.C_below HR0_1.out HB.out) | (with_reducible refine Kd.C_alloc ?_ _) | (with_reducible refine Kd.C_drewN ?_ _) | (with_reducible refine Kd.C_drew ?_))); (case side2 => exact HC0_1.out); rintro e w9 ⟨v105, rfl, ho0, hb⟩; refine ⟨_, rfl, ?_⟩; have HO106 := Aside0.mk (Kd.R_lower ho0 (below_size (bl_ HB))); replace BK101 := bb_ BK101 hb; replace BK102 := bb_ BK102 hb; replace HB := hs_ HB hb; (try clear hb); (try clear hb2); (try clear hk); (try clear hi); (try clear ho0); have hcz10_0 : w9.cell? ⟨gb101, 0, none⟩ = some (.int .i64 a0_0) := (blk_cell BK101.out 0).trans rfl; have hcz10_1 : w9.cell? ⟨gb101, 1, none⟩ = some (.slice A0_1 l0_1.length c0_1) := (blk_cell BK101.out 1).trans rfl; have hfz10_0 := blk_frozen BK101.out 0; have hfz10_1 := blk_frozen BK101.out 1; obtain ⟨Ao11, co11, eo11⟩ := Kd.R_slice HO106.out; subst eo11))
  go_loopg [25] k (fun kq v25 w' => ∃ (x25_1 : Int) (x103000_1 : Int), v25 = .int .i64 x25_1 ∧ Aside0 (level_Subst.l0 kq l1 l1 (l1.length : Int) x25_1 t103 t104 = some (r1, r2, r3)) ∧ Aside0 (kq ≤ k) ∧ Aside0 (Kd.R k62 62 w' w.heap.size (fun _ => True) (.slice Ao11 t104.length co11) t104) ∧ Aside0 (w'.heap[gb101]? = some (.cells #[.int .i64 t103, (.slice Ao11 t104.length co11)] 43 (0, 0))) ∧ Aside0 (w'.heap[gb102]? = some (.cells #[.int .i64 x103000_1, (.slice none 0 0)] 43 (0, 0))) ∧ Aside0 (Below w.heap.size w w'))
  case atStart => exact ⟨(0), (0), (by first | rfl | (simp; done) | (simp [*]; done)), H', ⟨Nat.le_refl _⟩, ⟨by (with_reducible repeat (first | apply Kd.R_alloc | apply Kd.R_drewN | apply Kd.R_drew)); exact Kd.R_mono (Kd.R_far (p := ⟨gb101, 1, none⟩) (Kd.R_far (p := ⟨gb101, 0, none⟩) (Kd.R_types HO106.out BK101.out (by decide)) (fun _ hk => hk.2) (.int .i64 t103)) (fun _ hk => hk.2) (.slice Ao11 t104.length co11)) (fun _ hk => trivial)⟩, ⟨by (with_reducible repeat (first | refine blk_drewN ?_ _ | refine blk_drew ?_ | refine blk_alloc ?_ _)); refine blk_put (cs := #[.int .i64 t103, .slice A0_1 l0_1.length c0_1]) ?_ 1 _ rfl; (with_reducible repeat (first | refine blk_drewN ?_ _ | refine blk_drew ?_ | refine blk_alloc ?_ _)); refine blk_put (cs := #[.int .i64 a0_0, .slice A0_1 l0_1.length c0_1]) ?_ 0 _ rfl; (with_reducible repeat (first | refine blk_drewN ?_ _ | refine blk_drew ?_ | refine blk_alloc ?_ _)); exact BK101.out⟩, ⟨by (with_reducible repeat (first | refine blk_drewN ?_ _ | refine blk_drew ?_ | refine blk_alloc ?_ _)); refine blk_far ?_ NB102_101.out _; (with_reducible repeat (first | refine blk_drewN ?_ _ | refine blk_drew ?_ | refine blk_alloc ?_ _)); refine blk_far ?_ NB102_101.out _; (with_reducible repeat (first | refine blk_drewN ?_ _ | refine blk_drew ?_ | refine blk_alloc ?_ _)); exact BK102.out⟩, ⟨by repeat (first | (with_reducible first | exact HB.out | apply below_alloc | apply pw_below_drewN | apply below_drew1 | refine below_set ?_ GE101.out | refine below_set ?_ GE102.out) | exact HB.out)⟩⟩
  case round =>
   clear H'
   (try clear c1); (try clear p2); (try clear c4); (try clear c4b0); (try clear c4b1); (try clear c5); (try clear c7); (try clear hcz10_0); (try clear hcz10_1); (try clear hcz8_0); (try clear hcz8_1); (try clear hfz10_0); (try clear hfz10_1); (try clear hfz8_0); (try clear hfz8_1)
   obtain ⟨x25_1, x103000_1, rfl, HA, HK1, HO_102001, BK101, BK102, HB⟩ := hrel
   cases gk with
   | zero => exact absurd HA.out (by simp [level_Subst.l0])
   | succ k1 =>
    have H := HA.out
    clear HA
    simp only [level_Subst.l0] at H
    by_cases c12 : x25_1 < (l1.length : Int)
    ·rw [if_pos c12] at H
     have c12b0 : decide (x25_1 < (l1.length : Int)) = true := decide_eq_true c12
     clear c12
     by_cases c13 : 0 ≤ x25_1
     ·rw [if_pos c13] at H
      have c13b0 : decide (0 ≤ x25_1) = true := decide_eq_true c13
      clear c13
      by_cases c14 : x25_1 < (l1.length : Int)
      ·rw [if_pos c14] at H
       have c14b0 : decide (x25_1 < (l1.length : Int)) = true := decide_eq_true c14
       clear c14
       replace H := Option.bind_eq_some_iff.mp H
       obtain ⟨t110, A150, H⟩ := H
       replace H : (if t110 = true then (level_Subst.l0 k1 l1 l1 (l1.length : Int) (wrap64 (x25_1 + 1)) t103 t104) else (some (0, ([] : List (S62)), 13))) = some (r1, r2, r3) := H
       have A15 := Aside0.mk A150
       clear A150
       by_cases c16 : t110 = true
       ·subst c16
        have H1 : (level_Subst.l0 k1 l1 l1 (l1.length : Int) (wrap64 (x25_1 + 1)) t103 t104) = some (r1, r2, r3) := by rw [if_pos rfl] at H; exact H
        clear H
        have H := H1
        clear H1
        have H' := Aside0.mk H
        clear H
        have p108 : 0 ≤ (x25_1 : Int) := of_decide_eq_true (by first | (with_reducible assumption) | assumption)
        have q108 : x25_1 < (l1.length : Int) := of_decide_eq_true (by first | (with_reducible assumption) | assumption)
        obtain ⟨ad108, A108_1, c108_1, e108, hx108_0, hx108_1, hl108_1, hi108_1⟩ := at_T43 HR1.out x25_1 p108 q108
        cases e108
        replace hx108_0 := (HB.out.cell (World.block_lt_of_cell? w _ hx108_0)).trans hx108_0
        replace hx108_1 := (HB.out.cell (World.block_lt_of_cell? w _ hx108_1)).trans hx108_1
        have HR108_1 := Aside0.mk hi108_1
        have HC108_1 := Aside0.mk hl108_1
        clear hi108_1 hl108_1
        replace p108 := eq_true p108
        replace q108 := eq_true q108
        go_wp2_with (first | ((with_reducible refine gate_dst (N := 8) rfl ?_); refine box_event ?hg (N := 8) ?hd (cs := #[.int .i64 0, .slice none 0 0]) (t := 43) ?hr ?_; (case hd => rfl); (case hg => rfl); (case hr => first | (go_simp; done) | (go_simp; rfl)); intro gb109 hg w17 hbox hb; have BK109 := Aside0.mk (hbox); have GW109 := Aside0.mk ((bs_ hg HB : w.heap.size ≤ gb109)); have GE109 := Aside0.mk ((bs_ hg HB : w.heap.size ≤ gb109)); have NB101_109 := Aside0.mk ((nl_ hg BK101 : gb101 ≠ gb109)); have NB109_101 := Aside0.mk ((ng_ hg BK101 : gb109 ≠ gb101)); have NB102_109 := Aside0.mk ((nl_ hg BK102 : gb102 ≠ gb109)); have NB109_102 := Aside0.mk ((ng_ hg BK102 : gb109 ≠ gb102)); replace HO_102001 := Aside0.mk (Kd.R_below (rl_ HO_102001) hb); replace BK101 := bb_ BK101 hb; replace BK102 := bb_ BK102 hb; replace HB := hs_ HB hb; clear hb hbox hg; have hnb18 := NB109_101.out; have hnc18 := NB101_109.out; have hnb19 := NB109_102.out; have hnc19 := NB102_109.out; have hcz20_0 : w17.cell? ⟨gb109, 0, none⟩ = some (.int .i64 0) := (blk_cell BK109.out 0).trans rfl; have hcz20_1 : w17.cell? ⟨gb109, 1, none⟩ = some (.slice none 0 0) := (blk_cell BK109.out 1).trans rfl; have hfz20_0 := blk_frozen BK109.out 0; have hfz20_1 := blk_frozen BK109.out 1) | ((with_reducible refine gate_callee (f := 73) rfl ?_); refine goesL_ (some 30) rfl rfl Try.func73 (by kernel_rfl) rfl #[.agg #[.int .i64 ((rd_T43 l1 x25_1).f0), .slice A108_1 ((rd_T43 l1 x25_1).f1).length c108_1]] rfl (by (try simp only [List.map_toArray, List.map_cons, List.map_nil]); first | done | rfl | (simp only [List.length_drop, List.length_take]; rfl)) ?_; (with_reducible refine (level_right.calls k1 ((rd_T43 l1 x25_1).f0) _ _ ((rd_T43 l1 x25_1).f1) true _ ?side1 ?side2 A15.out).mono ?_); (case side1 => exact Kd.C_below HR108_1.out (bl_ HB)); (case side2 => exact HC108_1.out); rintro e w21 ⟨rfl, hb⟩; refine ⟨_, rfl, ?_⟩; replace HO_102001 := Aside0.mk (Kd.R_below (by (with_reducible repeat (first | apply Kd.R_alloc | apply Kd.R_drewN | apply Kd.R_drew)); exact (Kd.R_mono (Kd.R_far (p := ⟨gb109, 1, none⟩) (Kd.R_far (p := ⟨gb109, 0, none⟩) (Kd.R_types HO_102001.out BK109.out (by decide)) (fun _ hk => hk.2) (.int .i64 ((rd_T43 l1 x25_1).f0))) (fun _ hk => hk.2) (.slice A108_1 ((rd_T43 l1 x25_1).f1).length c108_1)) (fun _ h_ => h_.1))) hb); replace BK101 := Aside0.mk (blk_below (pf_ BK101) hb); replace BK102 := Aside0.mk (blk_below (pf_ BK102) hb); replace BK109 := Aside0.mk (blk_below (g := gb109) (o := .cells #[.int .i64 ((rd_T43 l1 x25_1).f0), .slice A108_1 ((rd_T43 l1 x25_1).f1).length c108_1] 43 (0, 0)) (by (with_reducible repeat (first | refine blk_drewN ?_ _ | refine blk_drew ?_ | refine blk_alloc ?_ _)); refine blk_put (cs := #[.int .i64 ((rd_T43 l1 x25_1).f0), .slice none 0 0]) ?_ 1 _ rfl; (with_reducible repeat (first | refine blk_drewN ?_ _ | refine blk_drew ?_ | refine blk_alloc ?_ _)); refine blk_put (cs := #[.int .i64 0, .slice none 0 0]) ?_ 0 _ rfl; (with_reducible repeat (first | refine blk_drewN ?_ _ | refine blk_drew ?_ | refine blk_alloc ?_ _)); exact BK109.out) hb); replace HB := hs_ HB hb; (try clear hb); (try clear hb2); (try clear hk); (try clear hi)))
        go_roundg k1
        case measure => have := HK1.out; omega
        case rel => exact ⟨(wrap64 (x25_1 + 1)), (x103000_1), (by first | rfl | (simp; done) | (simp [*]; done)), H', ⟨by have := HK1.out; omega⟩, ⟨by (with_reducible repeat (first | apply Kd.R_alloc | apply Kd.R_drewN | apply Kd.R_drew)); exact HO_102001.out⟩, ⟨by (with_reducible repeat (first | refine blk_drewN ?_ _ | refine blk_drew ?_ | refine blk_alloc ?_ _)); exact BK101.out⟩, ⟨by (with_reducible repeat (first | refine blk_drewN ?_ _ | refine blk_drew ?_ | refine blk_alloc ?_ _)); exact BK102.out⟩, ⟨by repeat (first | (with_reducible first | exact HB.out | apply below_alloc | apply pw_below_drewN | apply below_drew1 | refine below_set ?_ GE101.out | refine below_set ?_ GE102.out | refine below_set ?_ GE109.out) | exact HB.out)⟩⟩
       ·replace c16 := Bool.eq_false_iff.mpr c16
        subst c16
        have H1 : (some (0, ([] : List (S62)), 13)) = some (r1, r2, r3) := by rw [if_neg (show ¬ (false = true) by decide)] at H; exact H
        clear H
        have H := H1
        clear H1
        simp only [Option.some.injEq, Prod.mk.injEq] at H
        obtain ⟨rfl, rfl, rfl⟩ := H
        have p108 : 0 ≤ (x25_1 : Int) := of_decide_eq_true (by first | (with_reducible assumption) | assumption)
        have q108 : x25_1 < (l1.length : Int) := of_decide_eq_true (by first | (with_reducible assumption) | assumption)
        obtain ⟨ad108, A108_1, c108_1, e108, hx108_0, hx108_1, hl108_1, hi108_1⟩ := at_T43 HR1.out x25_1 p108 q108
        cases e108
        replace hx108_0 := (HB.out.cell (World.block_lt_of_cell? w _ hx108_0)).trans hx108_0
        replace hx108_1 := (HB.out.cell (World.block_lt_of_cell? w _ hx108_1)).trans hx108_1
        have HR108_1 := Aside0.mk hi108_1
        have HC108_1 := Aside0.mk hl108_1
        clear hi108_1 hl108_1
        replace p108 := eq_true p108
        replace q108 := eq_true q108
        go_wp2_with (first | ((with_reducible refine gate_dst (N := 8) rfl ?_); refine box_event ?hg (N := 8) ?hd (cs := #[.int .i64 0, .slice none 0 0]) (t := 43) ?hr ?_; (case hd => rfl); (case hg => rfl); (case hr => first | (go_simp; done) | (go_simp; rfl)); intro gb109 hg w22 hbox hb; have BK109 := Aside0.mk (hbox); have GW109 := Aside0.mk ((bs_ hg HB : w.heap.size ≤ gb109)); have GE109 := Aside0.mk ((bs_ hg HB : w.heap.size ≤ gb109)); have NB101_109 := Aside0.mk ((nl_ hg BK101 : gb101 ≠ gb109)); have NB109_101 := Aside0.mk ((ng_ hg BK101 : gb109 ≠ gb101)); have NB102_109 := Aside0.mk ((nl_ hg BK102 : gb102 ≠ gb109)); have NB109_102 := Aside0.mk ((ng_ hg BK102 : gb109 ≠ gb102)); replace HO_102001 := Aside0.mk (Kd.R_below (rl_ HO_102001) hb); replace BK101 := bb_ BK101 hb; replace BK102 := bb_ BK102 hb; replace HB := hs_ HB hb; clear hb hbox hg; have hnb23 := NB109_101.out; have hnc23 := NB101_109.out; have hnb24 := NB109_102.out; have hnc24 := NB102_109.out; have hcz25_0 : w22.cell? ⟨gb109, 0, none⟩ = some (.int .i64 0) := (blk_cell BK109.out 0).trans rfl; have hcz25_1 : w22.cell? ⟨gb109, 1, none⟩ = some (.slice none 0 0) := (blk_cell BK109.out 1).trans rfl; have hfz25_0 := blk_frozen BK109.out 0; have hfz25_1 := blk_frozen BK109.out 1) | ((with_reducible refine gate_callee (f := 73) rfl ?_); refine goesL_ (some 30) rfl rfl Try.func73 (by kernel_rfl) rfl #[.agg #[.int .i64 ((rd_T43 l1 x25_1).f0), .slice A108_1 ((rd_T43 l1 x25_1).f1).length c108_1]] rfl (by (try simp only [List.map_toArray, List.map_cons, List.map_nil]); first | done | rfl | (simp only [List.length_drop, List.length_take]; rfl)) ?_; (with_reducible refine (level_right.calls k1 ((rd_T43 l1 x25_1).f0) _ _ ((rd_T43 l1 x25_1).f1) false _ ?side1 ?side2 A15.out).mono ?_); (case side1 => exact Kd.C_below HR108_1.out (bl_ HB)); (case side2 => exact HC108_1.out); rintro e w26 ⟨rfl, hb⟩; refine ⟨_, rfl, ?_⟩; replace HO_102001 := Aside0.mk (Kd.R_below (by (with_reducible repeat (first | apply Kd.R_alloc | apply Kd.R_drewN | apply Kd.R_drew)); exact (Kd.R_mono (Kd.R_far (p := ⟨gb109, 1, none⟩) (Kd.R_far (p := ⟨gb109, 0, none⟩) (Kd.R_types HO_102001.out BK109.out (by decide)) (fun _ hk => hk.2) (.int .i64 ((rd_T43 l1 x25_1).f0))) (fun _ hk => hk.2) (.slice A108_1 ((rd_T43 l1 x25_1).f1).length c108_1)) (fun _ h_ => h_.1))) hb); replace BK101 := Aside0.mk (blk_below (pf_ BK101) hb); replace BK102 := Aside0.mk (blk_below (pf_ BK102) hb); replace BK109 := Aside0.mk (blk_below (g := gb109) (o := .cells #[.int .i64 ((rd_T43 l1 x25_1).f0), .slice A108_1 ((rd_T43 l1 x25_1).f1).length c108_1] 43 (0, 0)) (by (with_reducible repeat (first | refine blk_drewN ?_ _ | refine blk_drew ?_ | refine blk_alloc ?_ _)); refine blk_put (cs := #[.int .i64 ((rd_T43 l1 x25_1).f0), .slice none 0 0]) ?_ 1 _ rfl; (with_reducible repeat (first | refine blk_drewN ?_ _ | refine blk_drew ?_ | refine blk_alloc ?_ _)); refine blk_put (cs := #[.int .i64 0, .slice none 0 0]) ?_ 0 _ rfl; (with_reducible repeat (first | refine blk_drewN ?_ _ | refine blk_drew ?_ | refine blk_alloc ?_ _)); exact BK109.out) hb); replace HB := hs_ HB hb; (try clear hb); (try clear hb2); (try clear hk); (try clear hi); have hnb27 := NB102_101.out; have hnc27 := NB101_102.out; have hcz28_0 : w26.cell? ⟨gb102, 0, none⟩ = some (.int .i64 x103000_1) := (blk_cell BK102.out 0).trans rfl; have hcz28_1 : w26.cell? ⟨gb102, 1, none⟩ = some (.slice none 0 0) := (blk_cell BK102.out 1).trans rfl; have hfz28_0 := blk_frozen BK102.out 0; have hfz28_1 := blk_frozen BK102.out 1))
        refine bodyPost_ret (results_ct rfl _ _ gb102 43 #[.int .i64 0, .slice none 0 0] (0, 0) _ rfl (by (with_reducible repeat (first | refine blk_drewN ?_ _ | refine blk_drew ?_ | refine blk_alloc ?_ _)); refine blk_put (cs := #[.int .i64 0, .slice none 0 0]) ?_ 1 _ rfl; (with_reducible repeat (first | refine blk_drewN ?_ _ | refine blk_drew ?_ | refine blk_alloc ?_ _)); refine blk_put (cs := #[.int .i64 x103000_1, .slice none 0 0]) ?_ 0 _ rfl; (with_reducible repeat (first | refine blk_drewN ?_ _ | refine blk_drew ?_ | refine blk_alloc ?_ _)); exact BK102.out) Try.underlying43 rfl (by kernel_rfl)) rfl ?_
        exact ⟨_, by first | rfl | (simp [errW_none, errW_some] <;> rfl) | (simp [*, errW_none, errW_some] <;> rfl), by first | exact Kd.R_nil _ _ _ _ _ | exact Kd.N_nil _ _ _ _ _ | exact Kd.V_nil _ _ _ _ _ | exact Kd.Q_nil _ _ _ _ _ | exact Kd.S_nil _ _ _ _ _, by repeat (first | (with_reducible first | exact HB.out | apply below_alloc | apply pw_below_drewN | apply below_drew1 | refine below_set ?_ GE101.out | refine below_set ?_ GE102.out | refine below_set ?_ GE109.out) | exact HB.out)⟩
      ·rw [if_neg c14] at H
       exact absurd H (by simp)
     ·rw [if_neg c13] at H
      exact absurd H (by simp)
    ·rw [if_neg c12] at H
     have c12b0 : decide (x25_1 < (l1.length : Int)) = false := decide_eq_false c12
     clear c12
     have H' := Aside0.mk H
     clear H
     have hnb29 := NB101_102.out
     have hnc29 := NB102_101.out
     have hcz30_0 : wr.cell? ⟨gb101, 0, none⟩ = some (.int .i64 t103) := (blk_cell BK101.out 0).trans rfl
     have hcz30_1 : wr.cell? ⟨gb101, 1, none⟩ = some (.slice Ao11 t104.length co11) := (blk_cell BK101.out 1).trans rfl
     have hfz30_0 := blk_frozen BK101.out 0
     have hfz30_1 := blk_frozen BK101.out 1
     go_wp2_with (first | ((with_reducible refine gate_dst (N := 9) rfl ?_); refine box_event ?hg (N := 9) ?hd (cs := #[.int .i64 0, .slice none 0 0]) (t := 43) ?hr ?_; (case hd => rfl); (case hg => rfl); (case hr => first | (go_simp; done) | (go_simp; rfl)); intro gb111 hg w31 hbox hb; have BK111 := Aside0.mk (hbox); have GW111 := Aside0.mk ((bs_ hg HB : w.heap.size ≤ gb111)); have GE111 := Aside0.mk ((bs_ hg HB : w.heap.size ≤ gb111)); have NB101_111 := Aside0.mk ((nl_ hg BK101 : gb101 ≠ gb111)); have NB111_101 := Aside0.mk ((ng_ hg BK101 : gb111 ≠ gb101)); have NB102_111 := Aside0.mk ((nl_ hg BK102 : gb102 ≠ gb111)); have NB111_102 := Aside0.mk ((ng_ hg BK102 : gb111 ≠ gb102)); replace HO_102001 := Aside0.mk (Kd.R_below (rl_ HO_102001) hb); replace BK101 := bb_ BK101 hb; replace BK102 := bb_ BK102 hb; replace HB := hs_ HB hb; clear hb hbox hg; have hnb32 := NB111_101.out; have hnc32 := NB101_111.out; have hnb33 := NB111_102.out; have hnc33 := NB102_111.out; have hcz34_0 : w31.cell? ⟨gb111, 0, none⟩ = some (.int .i64 0) := (blk_cell BK111.out 0).trans rfl; have hcz34_1 : w31.cell? ⟨gb111, 1, none⟩ = some (.slice none 0 0) := (blk_cell BK111.out 1).trans rfl; have hfz34_0 := blk_frozen BK111.out 0; have hfz34_1 := blk_frozen BK111.out 1; have hcz35_0 : w31.cell? ⟨gb101, 0, none⟩ = some (.int .i64 t103) := (blk_cell BK101.out 0).trans rfl; have hcz35_1 : w31.cell? ⟨gb101, 1, none⟩ = some (.slice Ao11 t104.length co11) := (blk_cell BK101.out 1).trans rfl; have hfz35_0 := blk_frozen BK101.out 0; have hfz35_1 := blk_frozen BK101.out 1))
     go_loopg [40] k1 (fun kq v40 w' => ∃ (x40_2 : Int) (x103000_2 : Int) (x112000_2 : Int) (x112001_2 : List (S62)) (u112001 : Value), v40 = .int .i64 x40_2 ∧ Aside0 (level_Subst.l1 kq l1 t104 (t104.length : Int) x40_2 x112000_2 x112001_2 = some (r1, r2, r3)) ∧ Aside0 (kq ≤ k1) ∧ Aside0 (Kd.R k62 62 w' w.heap.size (fun k_ => some k_ ≠ (u112001 : Value).ownBlock) (.slice Ao11 t104.length co11) t104) ∧ Aside0 (Kd.R k62 62 w' w.heap.size (fun k_ => some k_ ≠ (u112001 : Value).ownBlock) (.slice Ao11 t104.length co11) t104) ∧ Aside0 (Kd.R k62 62 w' w.heap.size (fun k_ => some k_ ≠ ((.slice Ao11 t104.length co11) : Value).ownBlock ∧ some k_ ≠ ((.slice Ao11 t104.length co11) : Value).ownBlock) u112001 x112001_2) ∧ Aside0 (w'.heap[gb101]? = some (.cells #[.int .i64 t103, (.slice Ao11 t104.length co11)] 43 (0, 0))) ∧ Aside0 (w'.heap[gb102]? = some (.cells #[.int .i64 x103000_2, (.slice none 0 0)] 43 (0, 0))) ∧ Aside0 (w'.heap[gb111]? = some (.cells #[.int .i64 x112000_2, u112001] 43 (0, 0))) ∧ Aside0 (Below w.heap.size w w'))
     case atStart => exact ⟨(0), (x103000_1), (t103), (([] : List (S62))), (.slice none 0 0), (by first | rfl | (simp; done) | (simp [*]; done)), H', ⟨Nat.le_refl _⟩, ⟨by (with_reducible repeat (first | apply Kd.R_alloc | apply Kd.R_drewN | apply Kd.R_drew)); exact Kd.R_mono (Kd.R_far (p := ⟨gb111, 1, none⟩) (Kd.R_far (p := ⟨gb111, 0, none⟩) (Kd.R_types HO_102001.out BK111.out (by decide)) (fun _ hk => hk.2) (.int .i64 t103)) (fun _ hk => hk.2) (.slice none 0 0)) (fun _ hk => (by simp [Value.ownBlock]))⟩, ⟨by (with_reducible repeat (first | apply Kd.R_alloc | apply Kd.R_drewN | apply Kd.R_drew)); exact Kd.R_mono (Kd.R_far (p := ⟨gb111, 1, none⟩) (Kd.R_far (p := ⟨gb111, 0, none⟩) (Kd.R_types HO_102001.out BK111.out (by decide)) (fun _ hk => hk.2) (.int .i64 t103)) (fun _ hk => hk.2) (.slice none 0 0)) (fun _ hk => (by simp [Value.ownBlock]))⟩, ⟨by first | exact Kd.R_nil _ _ _ _ _ | exact Kd.N_nil _ _ _ _ _ | exact Kd.V_nil _ _ _ _ _ | exact Kd.Q_nil _ _ _ _ _ | exact Kd.S_nil _ _ _ _ _⟩, ⟨by (with_reducible repeat (first | refine blk_drewN ?_ _ | refine blk_drew ?_ | refine blk_alloc ?_ _)); refine blk_far ?_ NB101_111.out _; (with_reducible repeat (first | refine blk_drewN ?_ _ | refine blk_drew ?_ | refine blk_alloc ?_ _)); refine blk_far ?_ NB101_111.out _; (with_reducible repeat (first | refine blk_drewN ?_ _ | refine blk_drew ?_ | refine blk_alloc ?_ _)); exact BK101.out⟩, ⟨by (with_reducible repeat (first | refine blk_drewN ?_ _ | refine blk_drew ?_ | refine blk_alloc ?_ _)); refine blk_far ?_ NB102_111.out _; (with_reducible repeat (first | refine blk_drewN ?_ _ | refine blk_drew ?_ | refine blk_alloc ?_ _)); refine blk_far ?_ NB102_111.out _; (with_reducible repeat (first | refine blk_drewN ?_ _ | refine blk_drew ?_ | refine blk_alloc ?_ _)); exact BK102.out⟩, ⟨by (with_reducible repeat (first | refine blk_drewN ?_ _ | refine blk_drew ?_ | refine blk_alloc ?_ _)); refine blk_put (cs := #[.int .i64 t103, .slice none 0 0]) ?_ 1 _ rfl; (with_reducible repeat (first | refine blk_drewN ?_ _ | refine blk_drew ?_ | refine blk_alloc ?_ _)); refine blk_put (cs := #[.int .i64 0, .slice none 0 0]) ?_ 0 _ rfl; (with_reducible repeat (first | refine blk_drewN ?_ _ | refine blk_drew ?_ | refine blk_alloc ?_ _)); exact BK111.out⟩, ⟨by repeat (first | (with_reducible first | exact HB.out | apply below_alloc | apply pw_below_drewN | apply below_drew1 | refine below_set ?_ GE101.out | refine below_set ?_ GE102.out | refine below_set ?_ GE111.out) | exact HB.out)⟩⟩
     case round =>
      clear H'
      (try clear c1); (try clear p1); (try clear q1); (try clear hx1); (try clear c2); (try clear p2); (try clear c3); (try clear c4); (try clear c4b0); (try clear c4b1); (try clear c5); (try clear p6); (try clear c7); (try clear c10); (try clear p10); (try clear q10); (try clear hx10); (try clear c12); (try clear c12b0); (try clear c13); (try clear c13b0); (try clear c14); (try clear c14b0); (try clear c16); (try clear c18); (try clear c19); (try clear c23); (try clear c24); (try clear c27); (try clear c29); (try clear c32); (try clear c33); (try clear hcz10_0); (try clear hcz10_1); (try clear hcz20_0); (try clear hcz20_1); (try clear hcz25_0); (try clear hcz25_1); (try clear hcz28_0); (try clear hcz28_1); (try clear hcz30_0); (try clear hcz30_1); (try clear hcz34_0); (try clear hcz34_1); (try clear hcz35_0); (try clear hcz35_1); (try clear hcz8_0); (try clear hcz8_1); (try clear hfz10_0); (try clear hfz10_1); (try clear hfz20_0); (try clear hfz20_1); (try clear hfz25_0); (try clear hfz25_1); (try clear hfz28_0); (try clear hfz28_1); (try clear hfz30_0); (try clear hfz30_1); (try clear hfz34_0); (try clear hfz34_1); (try clear hfz35_0); (try clear hfz35_1); (try clear hfz8_0); (try clear hfz8_1); (try clear hx108_0); (try clear hx108_1); (try clear p108); (try clear p2); (try clear q108)
      obtain ⟨x40_2, x103000_2, x112000_2, x112001_2, u112001, rfl, HA, HK2, HO_38, HO_102001, HO_112001, BK101, BK102, BK111, HB⟩ := hrel
      cases gk with
      | zero => exact absurd HA.out (by simp [level_Subst.l1])
      | succ k2 =>
       have H := HA.out
       clear HA
       simp only [level_Subst.l1] at H
       by_cases c36 : x40_2 < (t104.length : Int)
       ·rw [if_pos c36] at H
        have c36b0 : decide (x40_2 < (t104.length : Int)) = true := decide_eq_true c36
        clear c36
        by_cases c37 : 0 ≤ x40_2
        ·rw [if_pos c37] at H
         have c37b0 : decide (0 ≤ x40_2) = true := decide_eq_true c37
         clear c37
         by_cases c38 : x40_2 < (t104.length : Int)
         ·rw [if_pos c38] at H
          have c38b0 : decide (x40_2 < (t104.length : Int)) = true := decide_eq_true c38
          clear c38
          by_cases c39 : ((rd_T62 t104 x40_2).f0) ≥ (l1.length : Int)
          ·rw [if_pos c39] at H
           have c39b0 : decide ((l1.length : Int) ≤ ((rd_T62 t104 x40_2).f0)) = true := decide_eq_true c39
           clear c39
           simp only [Option.some.injEq, Prod.mk.injEq] at H
           obtain ⟨rfl, rfl, rfl⟩ := H
           have p117 : 0 ≤ (x40_2 : Int) := of_decide_eq_true (by first | (with_reducible assumption) | assumption)
           have q117 : x40_2 < (t104.length : Int) := of_decide_eq_true (by first | (with_reducible assumption) | assumption)
           obtain ⟨ad117, e117, hx117_0, hx117_1⟩ := at_T62 (Kd.R_reads' HO_38.out).2.2 x40_2 p117 q117
           cases e117
           replace p117 := eq_true p117
           replace q117 := eq_true q117
           go_wp2_with (first | ((with_reducible refine gate_dst (N := 11) rfl ?_); refine box_event ?hg (N := 11) ?hd (cs := #[.int .i64 0, .int .i64 0]) (t := 62) ?hr ?_; (case hd => rfl); (case hg => rfl); (case hr => first | (go_simp; done) | (go_simp; rfl)); intro gb118 hg w40 hbox hb; have BK118 := Aside0.mk (hbox); have GW118 := Aside0.mk ((bs_ hg HB : w.heap.size ≤ gb118)); have GE118 := Aside0.mk ((bs_ hg HB : w.heap.size ≤ gb118)); have NB101_118 := Aside0.mk ((nl_ hg BK101 : gb101 ≠ gb118)); have NB118_101 := Aside0.mk ((ng_ hg BK101 : gb118 ≠ gb101)); have NB102_118 := Aside0.mk ((nl_ hg BK102 : gb102 ≠ gb118)); have NB118_102 := Aside0.mk ((ng_ hg BK102 : gb118 ≠ gb102)); have NB111_118 := Aside0.mk ((nl_ hg BK111 : gb111 ≠ gb118)); have NB118_111 := Aside0.mk ((ng_ hg BK111 : gb118 ≠ gb111)); replace HO_38 := Aside0.mk (Kd.R_below (Kd.R_elderB (rl_ HO_38) gb118 (Nat.le_of_eq hg.symm)) hb); replace HO_102001 := Aside0.mk (Kd.R_below (Kd.R_elderB (rl_ HO_102001) gb118 (Nat.le_of_eq hg.symm)) hb); replace HO_112001 := Aside0.mk (Kd.R_below (Kd.R_elderB (rl_ HO_112001) gb118 (Nat.le_of_eq hg.symm)) hb); replace BK101 := bb_ BK101 hb; replace BK102 := bb_ BK102 hb; replace BK111 := bb_ BK111 hb; replace HB := hs_ HB hb; clear hb hbox hg; have hnb41 := NB118_101.out; have hnc41 := NB101_118.out; have hnb42 := NB118_102.out; have hnc42 := NB102_118.out; have hnb43 := NB118_111.out; have hnc43 := NB111_118.out; have hcz44_0 : w40.cell? ⟨gb118, 0, none⟩ = some (.int .i64 0) := (blk_cell BK118.out 0).trans rfl; have hcz44_1 : w40.cell? ⟨gb118, 1, none⟩ = some (.int .i64 0) := (blk_cell BK118.out 1).trans rfl; have hfz44_0 := blk_frozen BK118.out 0; have hfz44_1 := blk_frozen BK118.out 1; have hnb45 := NB102_101.out; have hnc45 := NB101_102.out; have hnb46 := NB102_111.out; have hnc46 := NB111_102.out; have hcz47_0 : w40.cell? ⟨gb102, 0, none⟩ = some (.int .i64 x103000_2) := (blk_cell BK102.out 0).trans rfl; have hcz47_1 : w40.cell? ⟨gb102, 1, none⟩ = some (.slice none 0 0) := (blk_cell BK102.out 1).trans rfl; have hfz47_0 := blk_frozen BK102.out 0; have hfz47_1 := blk_frozen BK102.out 1))
           refine bodyPost_ret (results_ct rfl _ _ gb102 43 #[.int .i64 0, .slice none 0 0] (0, 0) _ rfl (by (with_reducible repeat (first | refine blk_drewN ?_ _ | refine blk_drew ?_ | refine blk_alloc ?_ _)); refine blk_put (cs := #[.int .i64 0, .slice none 0 0]) ?_ 1 _ rfl; (with_reducible repeat (first | refine blk_drewN ?_ _ | refine blk_drew ?_ | refine blk_alloc ?_ _)); refine blk_put (cs := #[.int .i64 x103000_2, .slice none 0 0]) ?_ 0 _ rfl; (with_reducible repeat (first | refine blk_drewN ?_ _ | refine blk_drew ?_ | refine blk_alloc ?_ _)); refine blk_far ?_ NB102_118.out _; (with_reducible repeat (first | refine blk_drewN ?_ _ | refine blk_drew ?_ | refine blk_alloc ?_ _)); refine blk_far ?_ NB102_118.out _; (with_reducible repeat (first | refine blk_drewN ?_ _ | refine blk_drew ?_ | refine blk_alloc ?_ _)); exact BK102.out) Try.underlying43 rfl (by kernel_rfl)) rfl ?_
           exact ⟨_, by first | rfl | (simp [errW_none, errW_some] <;> rfl) | (simp [*, errW_none, errW_some] <;> rfl), by first | exact Kd.R_nil _ _ _ _ _ | exact Kd.N_nil _ _ _ _ _ | exact Kd.V_nil _ _ _ _ _ | exact Kd.Q_nil _ _ _ _ _ | exact Kd.S_nil _ _ _ _ _, by repeat (first | (with_reducible first | exact HB.out | apply below_alloc | apply pw_below_drewN | apply below_drew1 | refine below_set ?_ GE101.out | refine below_set ?_ GE102.out | refine below_set ?_ GE111.out | refine below_set ?_ GE118.out) | exact HB.out)⟩
          ·rw [if_neg c39] at H
           have c39b0 : decide ((l1.length : Int) ≤ ((rd_T62 t104 x40_2).f0)) = false := decide_eq_false c39
           clear c39
           by_cases c48 : 0 ≤ ((rd_T62 t104 x40_2).f0)
           ·rw [if_pos c48] at H
            have c48b0 : decide (0 ≤ ((rd_T62 t104 x40_2).f0)) = true := decide_eq_true c48
            clear c48
            by_cases c49 : ((rd_T62 t104 x40_2).f0) < (l1.length : Int)
            ·rw [if_pos c49] at H
             have c49b0 : decide (((rd_T62 t104 x40_2).f0) < (l1.length : Int)) = true := decide_eq_true c49
             clear c49
             replace H := Option.bind_eq_some_iff.mp H
             obtain ⟨⟨t120, t121, t124⟩, A500, H⟩ := H
             replace H : (if t124 = 0 then ((level_Max.f k2 x112000_2 x112001_2 t120 t121).bind fun bt126 => (if bt126.2.2 = 0 then (level_Subst.l1 k2 l1 t104 (t104.length : Int) (wrap64 (x40_2 + 1)) bt126.1 bt126.2.1) else (some (0, ([] : List (S62)), 13)))) else (some (0, ([] : List (S62)), 13))) = some (r1, r2, r3) := H
             have A50 := Aside0.mk A500
             clear A500
             by_cases c51 : t124 = 0
             ·rw [if_pos c51] at H
              have c51b0 : (t124 == 0) = true := beq_iff_eq.mpr c51
              have c51b1 : (t124 != 0) = false := bne_eq_false_iff_eq.mpr c51
              clear c51
              replace H := Option.bind_eq_some_iff.mp H
              obtain ⟨⟨t126, t127, t130⟩, A520, H⟩ := H
              replace H : (if t130 = 0 then (level_Subst.l1 k2 l1 t104 (t104.length : Int) (wrap64 (x40_2 + 1)) t126 t127) else (some (0, ([] : List (S62)), 13))) = some (r1, r2, r3) := H
              have A52 := Aside0.mk A520
              clear A520
              by_cases c53 : t130 = 0
              ·rw [if_pos c53] at H
               have c53b0 : (t130 == 0) = true := beq_iff_eq.mpr c53
               have c53b1 : (t130 != 0) = false := bne_eq_false_iff_eq.mpr c53
               clear c53
               have H' := Aside0.mk H
               clear H
               have p117 : 0 ≤ (x40_2 : Int) := of_decide_eq_true (by first | (with_reducible assumption) | assumption)
               have q117 : x40_2 < (t104.length : Int) := of_decide_eq_true (by first | (with_reducible assumption) | assumption)
               obtain ⟨ad117, e117, hx117_0, hx117_1⟩ := at_T62 (Kd.R_reads' HO_38.out).2.2 x40_2 p117 q117
               cases e117
               replace p117 := eq_true p117
               replace q117 := eq_true q117
               try go_wp2_with (first | ((with_reducible refine gate_dst (N := 11) rfl ?_); refine box_event ?hg (N := 11) ?hd (cs := #[.int .i64 0, .int .i64 0]) (t := 62) ?hr ?_; (case hd => rfl); (case hg => rfl); (case hr => first | (go_simp; done) | (go_simp; rfl)); intro gb118 hg w54 hbox hb; have BK118 := Aside0.mk (hbox); have GW118 := Aside0.mk ((bs_ hg HB : w.heap.size ≤ gb118)); have GE118 := Aside0.mk ((bs_ hg HB : w.heap.size ≤ gb118)); have NB101_118 := Aside0.mk ((nl_ hg BK101 : gb101 ≠ gb118)); have NB118_101 := Aside0.mk ((ng_ hg BK101 : gb118 ≠ gb101)); have NB102_118 := Aside0.mk ((nl_ hg BK102 : gb102 ≠ gb118)); have NB118_102 := Aside0.mk ((ng_ hg BK102 : gb118 ≠ gb102)); have NB111_118 := Aside0.mk ((nl_ hg BK111 : gb111 ≠ gb118)); have NB118_111 := Aside0.mk ((ng_ hg BK111 : gb118 ≠ gb111)); replace HO_38 := Aside0.mk (Kd.R_below (Kd.R_elderB (rl_ HO_38) gb118 (Nat.le_of_eq hg.symm)) hb); replace HO_102001 := Aside0.mk (Kd.R_below (Kd.R_elderB (rl_ HO_102001) gb118 (Nat.le_of_eq hg.symm)) hb); replace HO_112001 := Aside0.mk (Kd.R_below (Kd.R_elderB (rl_ HO_112001) gb118 (Nat.le_of_eq hg.symm)) hb); replace BK101 := bb_ BK101 hb; replace BK102 := bb_ BK102 hb; replace BK111 := bb_ BK111 hb; replace HB := hs_ HB hb; clear hb hbox hg; have hnb55 := NB118_101.out; have hnc55 := NB101_118.out; have hnb56 := NB118_102.out; have hnc56 := NB102_118.out; have hnb57 := NB118_111.out; have hnc57 := NB111_118.out; have hcz58_0 : w54.cell? ⟨gb118, 0, none⟩ = some (.int .i64 0) := (blk_cell BK118.out 0).trans rfl; have hcz58_1 : w54.cell? ⟨gb118, 1, none⟩ = some (.int .i64 0) := (blk_cell BK118.out 1).trans rfl; have hfz58_0 := blk_frozen BK118.out 0; have hfz58_1 := blk_frozen BK118.out 1))
               have n0_ : Aside0 (Kd.R k62 62 ((w54.setCell ⟨gb118, 0, none⟩ (.int .i64 ((rd_T62 t104 x40_2).f0))).setCell ⟨gb118, 1, none⟩ (.int .i64 ((rd_T62 t104 x40_2).f1))) w.heap.size (fun k_ => some k_ ≠ (u112001 : Value).ownBlock ∧ k_ ≠ gb118) (.slice (some ad117) t104.length co11) t104) := ⟨by (with_reducible repeat (first | apply Kd.R_alloc | apply Kd.R_drewN | apply Kd.R_drew)); exact Kd.R_mono (Kd.R_far (p := ⟨gb118, 1, none⟩) (Kd.R_far (p := ⟨gb118, 0, none⟩) (Kd.R_mono HO_38.out (fun k_ hk => (⟨hk, hk.2⟩ : _ ∧ k_ ≠ gb118))) (fun _ hk => hk.2) (.int .i64 ((rd_T62 t104 x40_2).f0))) (fun _ hk => hk.2) (.int .i64 ((rd_T62 t104 x40_2).f1))) (fun _ hk => ⟨hk.1.1, hk.1.2⟩)⟩
               have n1_ : Aside0 (Kd.R k62 62 ((w54.setCell ⟨gb118, 0, none⟩ (.int .i64 ((rd_T62 t104 x40_2).f0))).setCell ⟨gb118, 1, none⟩ (.int .i64 ((rd_T62 t104 x40_2).f1))) w.heap.size (fun k_ => some k_ ≠ (u112001 : Value).ownBlock ∧ k_ ≠ gb118) (.slice (some ad117) t104.length co11) t104) := ⟨by (with_reducible repeat (first | apply Kd.R_alloc | apply Kd.R_drewN | apply Kd.R_drew)); exact Kd.R_mono (Kd.R_far (p := ⟨gb118, 1, none⟩) (Kd.R_far (p := ⟨gb118, 0, none⟩) (Kd.R_mono HO_102001.out (fun k_ hk => (⟨hk, hk.2⟩ : _ ∧ k_ ≠ gb118))) (fun _ hk => hk.2) (.int .i64 ((rd_T62 t104 x40_2).f0))) (fun _ hk => hk.2) (.int .i64 ((rd_T62 t104 x40_2).f1))) (fun _ hk => ⟨hk.1.1, hk.1.2⟩)⟩
               have n2_ : Aside0 (Kd.R k62 62 ((w54.setCell ⟨gb118, 0, none⟩ (.int .i64 ((rd_T62 t104 x40_2).f0))).setCell ⟨gb118, 1, none⟩ (.int .i64 ((rd_T62 t104 x40_2).f1))) w.heap.size (fun k_ => some k_ ≠ (.slice (some ad117) t104.length co11 : Value).ownBlock ∧ some k_ ≠ (.slice (some ad117) t104.length co11 : Value).ownBlock ∧ k_ ≠ gb118) u112001 x112001_2) := ⟨by (with_reducible repeat (first | apply Kd.R_alloc | apply Kd.R_drewN | apply Kd.R_drew)); exact Kd.R_mono (Kd.R_far (p := ⟨gb118, 1, none⟩) (Kd.R_far (p := ⟨gb118, 0, none⟩) (Kd.R_mono HO_112001.out (fun k_ hk => (⟨hk, hk.2⟩ : _ ∧ k_ ≠ gb118))) (fun _ hk => hk.2) (.int .i64 ((rd_T62 t104 x40_2).f0))) (fun _ hk => hk.2) (.int .i64 ((rd_T62 t104 x40_2).f1))) (fun _ hk => ⟨hk.1.1.1, ⟨hk.1.1.2, hk.1.2⟩⟩)⟩
               have n3_ : Aside0 (((w54.setCell ⟨gb118, 0, none⟩ (.int .i64 ((rd_T62 t104 x40_2).f0))).setCell ⟨gb118, 1, none⟩ (.int .i64 ((rd_T62 t104 x40_2).f1))).heap[gb101]? = some (.cells #[.int .i64 t103, .slice (some ad117) t104.length co11] 43 (0, 0))) := ⟨by (with_reducible repeat (first | refine blk_drewN ?_ _ | refine blk_drew ?_ | refine blk_alloc ?_ _)); refine blk_far ?_ NB101_118.out _; (with_reducible repeat (first | refine blk_drewN ?_ _ | refine blk_drew ?_ | refine blk_alloc ?_ _)); refine blk_far ?_ NB101_118.out _; (with_reducible repeat (first | refine blk_drewN ?_ _ | refine blk_drew ?_ | refine blk_alloc ?_ _)); exact BK101.out⟩
               have n4_ : Aside0 (((w54.setCell ⟨gb118, 0, none⟩ (.int .i64 ((rd_T62 t104 x40_2).f0))).setCell ⟨gb118, 1, none⟩ (.int .i64 ((rd_T62 t104 x40_2).f1))).heap[gb102]? = some (.cells #[.int .i64 x103000_2, .slice none 0 0] 43 (0, 0))) := ⟨by (with_reducible repeat (first | refine blk_drewN ?_ _ | refine blk_drew ?_ | refine blk_alloc ?_ _)); refine blk_far ?_ NB102_118.out _; (with_reducible repeat (first | refine blk_drewN ?_ _ | refine blk_drew ?_ | refine blk_alloc ?_ _)); refine blk_far ?_ NB102_118.out _; (with_reducible repeat (first | refine blk_drewN ?_ _ | refine blk_drew ?_ | refine blk_alloc ?_ _)); exact BK102.out⟩
               have n5_ : Aside0 (((w54.setCell ⟨gb118, 0, none⟩ (.int .i64 ((rd_T62 t104 x40_2).f0))).setCell ⟨gb118, 1, none⟩ (.int .i64 ((rd_T62 t104 x40_2).f1))).heap[gb111]? = some (.cells #[.int .i64 x112000_2, u112001] 43 (0, 0))) := ⟨by (with_reducible repeat (first | refine blk_drewN ?_ _ | refine blk_drew ?_ | refine blk_alloc ?_ _)); refine blk_far ?_ NB111_118.out _; (with_reducible repeat (first | refine blk_drewN ?_ _ | refine blk_drew ?_ | refine blk_alloc ?_ _)); refine blk_far ?_ NB111_118.out _; (with_reducible repeat (first | refine blk_drewN ?_ _ | refine blk_drew ?_ | refine blk_alloc ?_ _)); exact BK111.out⟩
               have n6_ : Aside0 (((w54.setCell ⟨gb118, 0, none⟩ (.int .i64 ((rd_T62 t104 x40_2).f0))).setCell ⟨gb118, 1, none⟩ (.int .i64 ((rd_T62 t104 x40_2).f1))).heap[gb118]? = some (.cells #[.int .i64 ((rd_T62 t104 x40_2).f0), .int .i64 ((rd_T62 t104 x40_2).f1)] 62 (0, 0))) := ⟨by (with_reducible repeat (first | refine blk_drewN ?_ _ | refine blk_drew ?_ | refine blk_alloc ?_ _)); refine blk_put (cs := #[.int .i64 ((rd_T62 t104 x40_2).f0), .int .i64 0]) ?_ 1 _ rfl; (with_reducible repeat (first | refine blk_drewN ?_ _ | refine blk_drew ?_ | refine blk_alloc ?_ _)); refine blk_put (cs := #[.int .i64 0, .int .i64 0]) ?_ 0 _ rfl; (with_reducible repeat (first | refine blk_drewN ?_ _ | refine blk_drew ?_ | refine blk_alloc ?_ _)); exact BK118.out⟩
               have n7_ : Aside0 (Below w.heap.size w ((w54.setCell ⟨gb118, 0, none⟩ (.int .i64 ((rd_T62 t104 x40_2).f0))).setCell ⟨gb118, 1, none⟩ (.int .i64 ((rd_T62 t104 x40_2).f1)))) := ⟨by repeat (first | (with_reducible first | exact HB.out | apply below_alloc | apply pw_below_drewN | apply below_drew1 | refine below_set ?_ GE101.out | refine below_set ?_ GE102.out | refine below_set ?_ GE111.out | refine below_set ?_ GE118.out) | exact HB.out)⟩
               (try clear HO_38); (try clear HO_102001); (try clear HO_112001); (try clear BK101); (try clear BK102); (try clear BK111); (try clear BK118); (try clear HB)
               generalize ((w54.setCell ⟨gb118, 0, none⟩ (.int .i64 ((rd_T62 t104 x40_2).f0))).setCell ⟨gb118, 1, none⟩ (.int .i64 ((rd_T62 t104 x40_2).f1))) = w59 at n0_ n1_ n2_ n3_ n4_ n5_ n6_ n7_ ⊢
               have HO_38 := n0_
               have HO_102001 := n1_
               have HO_112001 := n2_
               have BK101 := n3_
               have BK102 := n4_
               have BK111 := n5_
               have BK118 := n6_
               have HB := n7_
               clear n0_ n1_ n2_ n3_ n4_ n5_ n6_ n7_
               replace HO_38 := Aside0.mk (Kd.R_drew HO_38.out)
               replace HO_102001 := Aside0.mk (Kd.R_drew HO_102001.out)
               replace HO_112001 := Aside0.mk (Kd.R_drew HO_112001.out)
               replace BK101 := Aside0.mk (blk_drew BK101.out)
               replace BK102 := Aside0.mk (blk_drew BK102.out)
               replace BK111 := Aside0.mk (blk_drew BK111.out)
               replace BK118 := Aside0.mk (blk_drew BK118.out)
               replace HB := Aside0.mk (below_drew1 HB.out)
               have p119 : 0 ≤ (((rd_T62 t104 x40_2).f0) : Int) := of_decide_eq_true (by first | (with_reducible assumption) | assumption)
               have q119 : ((rd_T62 t104 x40_2).f0) < (l1.length : Int) := of_decide_eq_true (by first | (with_reducible assumption) | assumption)
               obtain ⟨ad119, A119_1, c119_1, e119, hx119_0, hx119_1, hl119_1, hi119_1⟩ := at_T43 HR1.out ((rd_T62 t104 x40_2).f0) p119 q119
               have hw119_1 := hx119_1
               have hw119_0 := hx119_0
               cases e119
               replace hx119_0 := (HB.out.cell (World.block_lt_of_cell? w _ hx119_0)).trans hx119_0
               replace hx119_1 := (HB.out.cell (World.block_lt_of_cell? w _ hx119_1)).trans hx119_1
               have HR119_1 := Aside0.mk hi119_1
               have HC119_1 := Aside0.mk hl119_1
               clear hi119_1 hl119_1
               replace p119 := eq_true p119
               replace q119 := eq_true q119
               refine start_ (n := 14) (S := fun w' => w'.cell? ⟨gb118, 0, none⟩ = some (.int .i64 ((rd_T62 t104 x40_2).f0)) ∧ w'.cell? ⟨gb118, 1, none⟩ = some (.int .i64 ((rd_T62 t104 x40_2).f1)) ∧ w'.cell? (ad119.add ((((rd_T62 t104 x40_2).f0)).toNat * 2)) = some (.int .i64 ((rd_T43 l1 ((rd_T62 t104 x40_2).f0)).f0)) ∧ w'.cell? ⟨(ad119.add ((((rd_T62 t104 x40_2).f0)).toNat * 2)).block, (ad119.add ((((rd_T62 t104 x40_2).f0)).toNat * 2)).off + 1, none⟩ = some (.slice A119_1 ((rd_T43 l1 ((rd_T62 t104 x40_2).f0)).f1).length c119_1)) (ds := []) #[false, false, false, false, false, false, false, false, false, false, false, false, false, false] (by kernel_rfl) rfl rfl ⟨(blk_cell BK118.out 0).trans rfl, (blk_cell BK118.out 1).trans rfl, ((HB.out.cell (World.block_lt_of_cell? w _ hw119_0)).trans hw119_0), ((HB.out.cell (World.block_lt_of_cell? w _ hw119_1)).trans hw119_1)⟩ (fun hHeld => ?_); refine with_tabW level_Subst.tab16 level_Subst.bits16 (fun HT_ HW_ => ?_)
               generalize w59.drew = w60 at HO_38 HO_102001 HO_112001 BK101 BK102 BK111 BK118 HB HR119_1 hx119_0 hx119_1 hHeld ⊢
               refine pure_ (i := 0) (N := some 51) (v := ?_) (a' := ?_) #[true, false, false, false, false, false, false, false, false, false, false, false, false, false] rfl rfl (any_of HT_.out (by kernel_rfl)) (fun _ _ _ h => h) (Or.inl ⟨by rfl, ?_⟩) ?_ ?_
               rotate_left
               ·intro w'
                go_simp
                with_reducible rfl
               rotate_left
               ·simp only [Act.put, List.setIfInBounds_toArray, List.set_cons_zero, List.set_cons_succ, i64_w, i32_w]
                rfl
               refine pure_ (i := 1) (N := some 52) (v := ?_) (a' := ?_) #[true, true, false, false, false, false, false, false, false, false, false, false, false, false] rfl rfl (any_of HT_.out (by kernel_rfl)) (fun _ _ _ h => h) (Or.inl ⟨by rfl, ?_⟩) ?_ ?_
               rotate_left
               ·intro w'
                go_simp
                with_reducible rfl
               rotate_left
               ·simp only [Act.put, List.setIfInBounds_toArray, List.set_cons_zero, List.set_cons_succ, i64_w, i32_w]
                rfl
               refine pure_ (i := 5) (N := some 56) (v := ?_) (a' := ?_) #[true, true, false, false, false, true, false, false, false, false, false, false, false, false] rfl rfl (any_of HT_.out (by kernel_rfl)) (fun _ _ _ h => h) (Or.inl ⟨by rfl, ?_⟩) ?_ ?_
               rotate_left
               ·intro w'
                go_simp
                with_reducible rfl
               rotate_left
               ·simp only [Act.put, List.setIfInBounds_toArray, List.set_cons_zero, List.set_cons_succ, i64_w, i32_w]
                rfl
               refine take_ (i := 2) (N := some 53) (v := ?_) (a' := ?_) #[true, true, true, false, false, true, false, false, false, false, false, false, false, false] rfl rfl (take_ofW HT_.out HW_.out (by kernel_rfl)) (fun _ _ _ h => h) (Or.inl ⟨by rfl, ?_⟩) hHeld ?_ ?_
               rotate_left
               ·rintro w' ⟨s0, s1, s2, s3⟩
                go_simp
                with_reducible rfl
               rotate_left
               ·simp only [Act.put, List.setIfInBounds_toArray, List.set_cons_zero, List.set_cons_succ, i64_w, i32_w]
                rfl
               refine pure_ (i := 3) (N := some 54) (v := ?_) (a' := ?_) #[true, true, true, true, false, true, false, false, false, false, false, false, false, false] rfl rfl (any_of HT_.out (by kernel_rfl)) (fun _ _ _ h => h) (Or.inl ⟨by rfl, ?_⟩) ?_ ?_
               rotate_left
               ·intro w'
                go_simp
                with_reducible rfl
               rotate_left
               ·simp only [Act.put, List.setIfInBounds_toArray, List.set_cons_zero, List.set_cons_succ, i64_w, i32_w]
                rfl
               refine take_ (i := 4) (N := some 55) (v := ?_) (a' := ?_) #[true, true, true, true, true, true, false, false, false, false, false, false, false, false] rfl rfl (take_ofW HT_.out HW_.out (by kernel_rfl)) (fun _ _ _ h => h) (Or.inl ⟨by rfl, ?_⟩) hHeld ?_ ?_
               rotate_left
               ·rintro w' ⟨s0, s1, s2, s3⟩
                go_simp
                with_reducible rfl
               rotate_left
               ·simp only [Act.put, List.setIfInBounds_toArray, List.set_cons_zero, List.set_cons_succ, i64_w, i32_w]
                rfl
               refine take_ (i := 6) (N := some 57) (v := ?_) (a' := ?_) #[true, true, true, true, true, true, true, false, false, false, false, false, false, false] rfl rfl (take_ofW HT_.out HW_.out (by kernel_rfl)) (fun _ _ _ h => h) (Or.inl ⟨by rfl, ?_⟩) hHeld ?_ ?_
               rotate_left
               ·rintro w' ⟨s0, s1, s2, s3⟩
                go_simp
                with_reducible rfl
               rotate_left
               ·simp only [Act.put, List.setIfInBounds_toArray, List.set_cons_zero, List.set_cons_succ, i64_w, i32_w]
                rfl
               refine join_ (σ := Value × Nat) 2 #[true, true, true, true, true, true, true, true, true, true, true, true, false, false] (fun s_ => [(58, .tuple #[.agg #[.int .i64 t120, s_.1], .int .i64 t124]), (12, .pointer (some ⟨s_.2, 0, none⟩)), (50, .tuple #[.agg #[.int .i64 t120, s_.1], .int .i64 t124]), (59, .agg #[.int .i64 t120, s_.1]), (60, .int .i64 t124)]) (fun s_ w' => (w'.cell? ⟨gb118, 0, none⟩ = some (.int .i64 ((rd_T62 t104 x40_2).f0)) ∧ w'.cell? ⟨gb118, 1, none⟩ = some (.int .i64 ((rd_T62 t104 x40_2).f1)) ∧ w'.cell? (ad119.add ((((rd_T62 t104 x40_2).f0)).toNat * 2)) = some (.int .i64 ((rd_T43 l1 ((rd_T62 t104 x40_2).f0)).f0)) ∧ w'.cell? ⟨(ad119.add ((((rd_T62 t104 x40_2).f0)).toNat * 2)).block, (ad119.add ((((rd_T62 t104 x40_2).f0)).toNat * 2)).off + 1, none⟩ = some (.slice A119_1 ((rd_T43 l1 ((rd_T62 t104 x40_2).f0)).f1).length c119_1)) ∧ (Kd.R k62 62 w' w.heap.size (fun k_ => some k_ ≠ (.slice (some ad117) t104.length co11 : Value).ownBlock ∧ some k_ ≠ (u112001 : Value).ownBlock ∧ some k_ ≠ (.slice (some ad117) t104.length co11 : Value).ownBlock ∧ k_ ≠ gb118) s_.1 t121) ∧ (Kd.R k62 62 w' w.heap.size (fun k_ => some k_ ≠ (s_.1 : Value).ownBlock ∧ some k_ ≠ (u112001 : Value).ownBlock ∧ k_ ≠ gb118) (.slice (some ad117) t104.length co11) t104) ∧ (Kd.R k62 62 w' w.heap.size (fun k_ => some k_ ≠ (s_.1 : Value).ownBlock ∧ some k_ ≠ (.slice (some ad117) t104.length co11 : Value).ownBlock ∧ some k_ ≠ (.slice (some ad117) t104.length co11 : Value).ownBlock ∧ k_ ≠ gb118) u112001 x112001_2) ∧ (Kd.R k62 62 w' w.heap.size (fun k_ => some k_ ≠ (s_.1 : Value).ownBlock ∧ some k_ ≠ (u112001 : Value).ownBlock ∧ k_ ≠ gb118) (.slice (some ad117) t104.length co11) t104) ∧ (w'.heap[gb101]? = some (.cells #[.int .i64 t103, .slice (some ad117) t104.length co11] 43 (0, 0))) ∧ (w'.heap[gb102]? = some (.cells #[.int .i64 x103000_2, .slice none 0 0] 43 (0, 0))) ∧ (w'.heap[gb111]? = some (.cells #[.int .i64 x112000_2, u112001] 43 (0, 0))) ∧ (w'.heap[gb118]? = some (.cells #[.int .i64 ((rd_T62 t104 x40_2).f0), .int .i64 ((rd_T62 t104 x40_2).f1)] 62 (0, 0))) ∧ (w'.heap[s_.2]? = some (.cells #[.int .i64 0, .slice none 0 0] 43 (0, 0))) ∧ (w.heap.size ≤ s_.2) ∧ (w.heap.size ≤ s_.2) ∧ (gb101 ≠ s_.2) ∧ (s_.2 ≠ gb101) ∧ (gb102 ≠ s_.2) ∧ (s_.2 ≠ gb102) ∧ (gb111 ≠ s_.2) ∧ (s_.2 ≠ gb111) ∧ (gb118 ≠ s_.2) ∧ (s_.2 ≠ gb118) ∧ (Below w.heap.size w w')) ?_ ?_
               rotate_left
               ·intro hCont
                refine two_ (i := 7) (j := 11) (Ni := some 58) (Nj := some 12) #[true, true, true, true, true, true, true, true, false, false, false, false, false, false] #[true, true, true, true, true, true, true, false, false, false, false, true, false, false] rfl rfl rfl rfl (two_of HT_.out (by kernel_rfl)) (by decide) (by decide) (fun K hK => ?_) (fun K hK => ?_)
                ·skip
                 refine goes_ Try.func45 (by kernel_rfl) rfl #[.agg #[.int .i64 ((rd_T43 l1 ((rd_T62 t104 x40_2).f0)).f0), .slice A119_1 ((rd_T43 l1 ((rd_T62 t104 x40_2).f0)).f1).length c119_1], .int .i64 ((rd_T62 t104 x40_2).f1)] (by rfl) rfl rfl (by (try simp only [List.map_toArray, List.map_cons, List.map_nil]); first | done | rfl | (simp only [List.length_drop, List.length_take]; rfl)) ?_
                 with_reducible refine (level_Suc.calls k2 ((rd_T43 l1 ((rd_T62 t104 x40_2).f0)).f0) _ _ ((rd_T43 l1 ((rd_T62 t104 x40_2).f0)).f1) ((rd_T62 t104 x40_2).f1) t120 t121 t124 _ ?side1 ?side2 A50.out).mono ?_
                 (case side1 => repeat (first | exact (Kd.C_below HR119_1.out HB.out) | (with_reducible refine Kd.C_alloc ?_ _) | (with_reducible refine Kd.C_drewN ?_ _) | (with_reducible refine Kd.C_drew ?_)))
                 (case side2 => exact HC119_1.out)
                 rintro e w61 ⟨v122, rfl, ho0, hb⟩
                 refine ⟨_, rfl, ?_⟩
                 have HO123 := Aside0.mk (Kd.R_lower (Kd.R_newB (Kd.R_new' (Kd.R_new' (Kd.R_new' ho0 (Kd.R_lt (rl_ HO_38))) (Kd.R_lt (rl_ HO_102001))) (Kd.R_lt (rl_ HO_112001))) (g := gb118) (o := .cells #[.int .i64 ((rd_T62 t104 x40_2).f0), .int .i64 ((rd_T62 t104 x40_2).f1)] 62 (0, 0)) (pl_ BK118)) (below_size (bl_ HB)))
                 replace HO_38 := Aside0.mk (Kd.R_elder' (rl_ HO_38) (Kd.R_base ho0) hb)
                 replace HO_102001 := Aside0.mk (Kd.R_elder' (rl_ HO_102001) (Kd.R_base ho0) hb)
                 replace HO_112001 := Aside0.mk (Kd.R_elder' (rl_ HO_112001) (Kd.R_base ho0) hb)
                 replace BK101 := bb_ BK101 hb
                 replace BK102 := bb_ BK102 hb
                 replace BK111 := bb_ BK111 hb
                 replace BK118 := bb_ BK118 hb
                 replace HB := hs_ HB hb
                 (try clear hb); (try clear hb2); (try clear hk); (try clear hi); (try clear ho0)
                 refine hK.out _ _ ⟨(blk_cell BK118.out 0).trans rfl, (blk_cell BK118.out 1).trans rfl, ((HB.out.cell (World.block_lt_of_cell? w _ hw119_0)).trans hw119_0), ((HB.out.cell (World.block_lt_of_cell? w _ hw119_1)).trans hw119_1)⟩ (fun hHeld => ?_)
                 clear hK K
                 refine norm_ (a' := ?_) ?_ ?_
                 rotate_left
                 ·show Act.put _ (some 58) _ = _
                  simp only [Act.put, List.setIfInBounds_toArray, List.set_cons_zero, List.set_cons_succ, i64_w, i32_w]
                  rfl
                 refine pure_ (i := 8) (N := some 50) (v := ?_) (a' := ?_) #[true, true, true, true, true, true, true, true, true, false, false, false, false, false] rfl rfl (any_of HT_.out (by kernel_rfl)) (fun _ _ _ h => h) (Or.inl ⟨by rfl, ?_⟩) ?_ ?_
                 rotate_left
                 ·intro w'
                  go_simp
                  with_reducible rfl
                 rotate_left
                 ·simp only [Act.put, List.setIfInBounds_toArray, List.set_cons_zero, List.set_cons_succ, i64_w, i32_w]
                  rfl
                 refine pure_ (i := 9) (N := some 59) (v := ?_) (a' := ?_) #[true, true, true, true, true, true, true, true, true, true, false, false, false, false] rfl rfl (any_of HT_.out (by kernel_rfl)) (fun _ _ _ h => h) (Or.inl ⟨by rfl, ?_⟩) ?_ ?_
                 rotate_left
                 ·intro w'
                  go_simp
                  with_reducible rfl
                 rotate_left
                 ·simp only [Act.put, List.setIfInBounds_toArray, List.set_cons_zero, List.set_cons_succ, i64_w, i32_w]
                  rfl
                 refine pure_ (i := 10) (N := some 60) (v := ?_) (a' := ?_) #[true, true, true, true, true, true, true, true, true, true, true, false, false, false] rfl rfl (any_of HT_.out (by kernel_rfl)) (fun _ _ _ h => h) (Or.inl ⟨by rfl, ?_⟩) ?_ ?_
                 rotate_left
                 ·intro w'
                  go_simp
                  with_reducible rfl
                 rotate_left
                 ·simp only [Act.put, List.setIfInBounds_toArray, List.set_cons_zero, List.set_cons_succ, i64_w, i32_w]
                  rfl
                 refine one_ (i := 11) (N := some 12) #[true, true, true, true, true, true, true, true, true, true, true, true, false, false] rfl rfl (one_of HT_.out (by kernel_rfl)) (by decide) (fun K hK => ?_)
                 refine box_step ?hg (N := 12) ?hd (cs := #[.int .i64 0, .slice none 0 0]) (t := 43) ?hr ?_; (case hd => rfl); (case hg => rfl); (case hr => first | (go_simp; done) | (go_simp; rfl))
                 intro gb125 hg w62 hbox hb
                 have BK125 := Aside0.mk (hbox)
                 have GW125 := Aside0.mk ((bs_ hg HB : w.heap.size ≤ gb125))
                 have GE125 := Aside0.mk ((bs_ hg HB : w.heap.size ≤ gb125))
                 have NB101_125 := Aside0.mk ((nl_ hg BK101 : gb101 ≠ gb125))
                 have NB125_101 := Aside0.mk ((ng_ hg BK101 : gb125 ≠ gb101))
                 have NB102_125 := Aside0.mk ((nl_ hg BK102 : gb102 ≠ gb125))
                 have NB125_102 := Aside0.mk ((ng_ hg BK102 : gb125 ≠ gb102))
                 have NB111_125 := Aside0.mk ((nl_ hg BK111 : gb111 ≠ gb125))
                 have NB125_111 := Aside0.mk ((ng_ hg BK111 : gb125 ≠ gb111))
                 have NB118_125 := Aside0.mk ((nl_ hg BK118 : gb118 ≠ gb125))
                 have NB125_118 := Aside0.mk ((ng_ hg BK118 : gb125 ≠ gb118))
                 replace HO_38 := Aside0.mk (Kd.R_below (rl_ HO_38) hb)
                 replace HO_102001 := Aside0.mk (Kd.R_below (rl_ HO_102001) hb)
                 replace HO_112001 := Aside0.mk (Kd.R_below (rl_ HO_112001) hb)
                 replace HO123 := Aside0.mk (Kd.R_below (rl_ HO123) hb)
                 replace BK101 := bb_ BK101 hb
                 replace BK102 := bb_ BK102 hb
                 replace BK111 := bb_ BK111 hb
                 replace BK118 := bb_ BK118 hb
                 replace HB := hs_ HB hb
                 clear hb hbox hg
                 refine hK.out _ _ ⟨(blk_cell BK118.out 0).trans rfl, (blk_cell BK118.out 1).trans rfl, ((HB.out.cell (World.block_lt_of_cell? w _ hw119_0)).trans hw119_0), ((HB.out.cell (World.block_lt_of_cell? w _ hw119_1)).trans hw119_1)⟩ (fun hHeld => ?_)
                 clear hK K
                 refine norm_ (a' := ?_) ?_ ?_
                 rotate_left
                 ·show Act.put _ (some 12) _ = _
                  simp only [Act.put, List.setIfInBounds_toArray, List.set_cons_zero, List.set_cons_succ, i64_w, i32_w]
                  rfl
                 exact norm_ (by simp only [putAll, Act.put, List.setIfInBounds_toArray, List.set_cons_zero, List.set_cons_succ]) (hCont (v122, gb125) _ ⟨hHeld, (by (with_reducible repeat (first | apply Kd.R_alloc | apply Kd.R_drewN | apply Kd.R_drew)); exact Kd.R_mono HO123.out (fun _ hk => ⟨hk.1.1.2, ⟨hk.1.2, ⟨hk.1.1.1.2, hk.2⟩⟩⟩)), (by (with_reducible repeat (first | apply Kd.R_alloc | apply Kd.R_drewN | apply Kd.R_drew)); exact Kd.R_mono HO_102001.out (fun _ hk => ⟨hk.2, ⟨hk.1.1, hk.1.2⟩⟩)), (by (with_reducible repeat (first | apply Kd.R_alloc | apply Kd.R_drewN | apply Kd.R_drew)); exact Kd.R_mono HO_112001.out (fun _ hk => ⟨hk.2, ⟨hk.1.2.1, ⟨hk.1.1, hk.1.2.2⟩⟩⟩)), (by (with_reducible repeat (first | apply Kd.R_alloc | apply Kd.R_drewN | apply Kd.R_drew)); exact Kd.R_mono HO_38.out (fun _ hk => ⟨hk.2, ⟨hk.1.1, hk.1.2⟩⟩)), (pl_ BK101), (pl_ BK102), (pl_ BK111), (pl_ BK118), (pl_ BK125), GW125.out, GE125.out, NB101_125.out, NB125_101.out, NB102_125.out, NB125_102.out, NB111_125.out, NB125_111.out, NB118_125.out, NB125_118.out, (bl_ HB)⟩)
                ·skip
                 refine box_step ?hg (N := 12) ?hd (cs := #[.int .i64 0, .slice none 0 0]) (t := 43) ?hr ?_; (case hd => rfl); (case hg => rfl); (case hr => first | (go_simp; done) | (go_simp; rfl))
                 intro gb125 hg w61 hbox hb
                 have BK125 := Aside0.mk (hbox)
                 have GW125 := Aside0.mk ((bs_ hg HB : w.heap.size ≤ gb125))
                 have GE125 := Aside0.mk ((bs_ hg HB : w.heap.size ≤ gb125))
                 have NB101_125 := Aside0.mk ((nl_ hg BK101 : gb101 ≠ gb125))
                 have NB125_101 := Aside0.mk ((ng_ hg BK101 : gb125 ≠ gb101))
                 have NB102_125 := Aside0.mk ((nl_ hg BK102 : gb102 ≠ gb125))
                 have NB125_102 := Aside0.mk ((ng_ hg BK102 : gb125 ≠ gb102))
                 have NB111_125 := Aside0.mk ((nl_ hg BK111 : gb111 ≠ gb125))
                 have NB125_111 := Aside0.mk ((ng_ hg BK111 : gb125 ≠ gb111))
                 have NB118_125 := Aside0.mk ((nl_ hg BK118 : gb118 ≠ gb125))
                 have NB125_118 := Aside0.mk ((ng_ hg BK118 : gb125 ≠ gb118))
                 replace HO_38 := Aside0.mk (Kd.R_below (rl_ HO_38) hb)
                 replace HO_102001 := Aside0.mk (Kd.R_below (rl_ HO_102001) hb)
                 replace HO_112001 := Aside0.mk (Kd.R_below (rl_ HO_112001) hb)
                 replace BK101 := bb_ BK101 hb
                 replace BK102 := bb_ BK102 hb
                 replace BK111 := bb_ BK111 hb
                 replace BK118 := bb_ BK118 hb
                 replace HB := hs_ HB hb
                 clear hb hbox hg
                 refine hK.out _ _ ⟨(blk_cell BK118.out 0).trans rfl, (blk_cell BK118.out 1).trans rfl, ((HB.out.cell (World.block_lt_of_cell? w _ hw119_0)).trans hw119_0), ((HB.out.cell (World.block_lt_of_cell? w _ hw119_1)).trans hw119_1)⟩ (fun hHeld => ?_)
                 clear hK K
                 refine norm_ (a' := ?_) ?_ ?_
                 rotate_left
                 ·show Act.put _ (some 12) _ = _
                  simp only [Act.put, List.setIfInBounds_toArray, List.set_cons_zero, List.set_cons_succ, i64_w, i32_w]
                  rfl
                 refine one_ (i := 7) (N := some 58) #[true, true, true, true, true, true, true, true, false, false, false, true, false, false] rfl rfl (one_of HT_.out (by kernel_rfl)) (by decide) (fun K hK => ?_)
                 refine goes_ Try.func45 (by kernel_rfl) rfl #[.agg #[.int .i64 ((rd_T43 l1 ((rd_T62 t104 x40_2).f0)).f0), .slice A119_1 ((rd_T43 l1 ((rd_T62 t104 x40_2).f0)).f1).length c119_1], .int .i64 ((rd_T62 t104 x40_2).f1)] (by rfl) rfl rfl (by (try simp only [List.map_toArray, List.map_cons, List.map_nil]); first | done | rfl | (simp only [List.length_drop, List.length_take]; rfl)) ?_
                 with_reducible refine (level_Suc.calls k2 ((rd_T43 l1 ((rd_T62 t104 x40_2).f0)).f0) _ _ ((rd_T43 l1 ((rd_T62 t104 x40_2).f0)).f1) ((rd_T62 t104 x40_2).f1) t120 t121 t124 _ ?side1 ?side2 A50.out).mono ?_
                 (case side1 => repeat (first | exact (Kd.C_below HR119_1.out HB.out) | (with_reducible refine Kd.C_alloc ?_ _) | (with_reducible refine Kd.C_drewN ?_ _) | (with_reducible refine Kd.C_drew ?_)))
                 (case side2 => exact HC119_1.out)
                 rintro e w62 ⟨v122, rfl, ho0, hb⟩
                 refine ⟨_, rfl, ?_⟩
                 have HO123 := Aside0.mk (Kd.R_lower (Kd.R_newB (Kd.R_new' (Kd.R_new' (Kd.R_new' ho0 (Kd.R_lt (rl_ HO_38))) (Kd.R_lt (rl_ HO_102001))) (Kd.R_lt (rl_ HO_112001))) (g := gb118) (o := .cells #[.int .i64 ((rd_T62 t104 x40_2).f0), .int .i64 ((rd_T62 t104 x40_2).f1)] 62 (0, 0)) (pl_ BK118)) (below_size (bl_ HB)))
                 replace HO_38 := Aside0.mk (Kd.R_elder' (rl_ HO_38) (Kd.R_base ho0) hb)
                 replace HO_102001 := Aside0.mk (Kd.R_elder' (rl_ HO_102001) (Kd.R_base ho0) hb)
                 replace HO_112001 := Aside0.mk (Kd.R_elder' (rl_ HO_112001) (Kd.R_base ho0) hb)
                 replace BK101 := bb_ BK101 hb
                 replace BK102 := bb_ BK102 hb
                 replace BK111 := bb_ BK111 hb
                 replace BK118 := bb_ BK118 hb
                 replace BK125 := bb_ BK125 hb
                 replace HB := hs_ HB hb
                 (try clear hb); (try clear hb2); (try clear hk); (try clear hi); (try clear ho0)
                 refine hK.out _ _ ⟨(blk_cell BK118.out 0).trans rfl, (blk_cell BK118.out 1).trans rfl, ((HB.out.cell (World.block_lt_of_cell? w _ hw119_0)).trans hw119_0), ((HB.out.cell (World.block_lt_of_cell? w _ hw119_1)).trans hw119_1)⟩ (fun hHeld => ?_)
                 clear hK K
                 refine norm_ (a' := ?_) ?_ ?_
                 rotate_left
                 ·show Act.put _ (some 58) _ = _
                  simp only [Act.put, List.setIfInBounds_toArray, List.set_cons_zero, List.set_cons_succ, i64_w, i32_w]
                  rfl
                 refine pure_ (i := 8) (N := some 50) (v := ?_) (a' := ?_) #[true, true, true, true, true, true, true, true, true, false, false, true, false, false] rfl rfl (any_of HT_.out (by kernel_rfl)) (fun _ _ _ h => h) (Or.inl ⟨by rfl, ?_⟩) ?_ ?_
                 rotate_left
                 ·intro w'
                  go_simp
                  with_reducible rfl
                 rotate_left
                 ·simp only [Act.put, List.setIfInBounds_toArray, List.set_cons_zero, List.set_cons_succ, i64_w, i32_w]
                  rfl
                 refine pure_ (i := 9) (N := some 59) (v := ?_) (a' := ?_) #[true, true, true, true, true, true, true, true, true, true, false, true, false, false] rfl rfl (any_of HT_.out (by kernel_rfl)) (fun _ _ _ h => h) (Or.inl ⟨by rfl, ?_⟩) ?_ ?_
                 rotate_left
                 ·intro w'
                  go_simp
                  with_reducible rfl
                 rotate_left
                 ·simp only [Act.put, List.setIfInBounds_toArray, List.set_cons_zero, List.set_cons_succ, i64_w, i32_w]
                  rfl
                 refine pure_ (i := 10) (N := some 60) (v := ?_) (a' := ?_) #[true, true, true, true, true, true, true, true, true, true, true, true, false, false] rfl rfl (any_of HT_.out (by kernel_rfl)) (fun _ _ _ h => h) (Or.inl ⟨by rfl, ?_⟩) ?_ ?_
                 rotate_left
                 ·intro w'
                  go_simp
                  with_reducible rfl
                 rotate_left
                 ·simp only [Act.put, List.setIfInBounds_toArray, List.set_cons_zero, List.set_cons_succ, i64_w, i32_w]
                  rfl
                 exact norm_ (by simp only [putAll, Act.put, List.setIfInBounds_toArray, List.set_cons_zero, List.set_cons_succ]) (hCont (v122, gb125) _ ⟨hHeld, (by (with_reducible repeat (first | apply Kd.R_alloc | apply Kd.R_drewN | apply Kd.R_drew)); exact Kd.R_mono HO123.out (fun _ hk => ⟨hk.1.1.2, ⟨hk.1.2, ⟨hk.1.1.1.2, hk.2⟩⟩⟩)), (by (with_reducible repeat (first | apply Kd.R_alloc | apply Kd.R_drewN | apply Kd.R_drew)); exact Kd.R_mono HO_102001.out (fun _ hk => ⟨hk.2, ⟨hk.1.1, hk.1.2⟩⟩)), (by (with_reducible repeat (first | apply Kd.R_alloc | apply Kd.R_drewN | apply Kd.R_drew)); exact Kd.R_mono HO_112001.out (fun _ hk => ⟨hk.2, ⟨hk.1.2.1, ⟨hk.1.1, hk.1.2.2⟩⟩⟩)), (by (with_reducible repeat (first | apply Kd.R_alloc | apply Kd.R_drewN | apply Kd.R_drew)); exact Kd.R_mono HO_38.out (fun _ hk => ⟨hk.2, ⟨hk.1.1, hk.1.2⟩⟩)), (pl_ BK101), (pl_ BK102), (pl_ BK111), (pl_ BK118), (pl_ BK125), GW125.out, GE125.out, NB101_125.out, NB125_101.out, NB102_125.out, NB125_102.out, NB111_125.out, NB125_111.out, NB118_125.out, NB125_118.out, (bl_ HB)⟩)
               rintro ⟨v122, gb125⟩ w63 ⟨hS_, h0_, h1_, h2_, h3_, h4_, h5_, h6_, h7_, h8_, h9_, h10_, h11_, h12_, h13_, h14_, h15_, h16_, h17_, h18_, h19_⟩
               have n0_ : Aside0 (Kd.R k62 62 w63 w.heap.size (fun k_ => some k_ ≠ (.slice (some ad117) t104.length co11 : Value).ownBlock ∧ some k_ ≠ (u112001 : Value).ownBlock ∧ some k_ ≠ (.slice (some ad117) t104.length co11 : Value).ownBlock ∧ k_ ≠ gb118) v122 t121) := ⟨h0_⟩
               have n1_ : Aside0 (Kd.R k62 62 w63 w.heap.size (fun k_ => some k_ ≠ (v122 : Value).ownBlock ∧ some k_ ≠ (u112001 : Value).ownBlock ∧ k_ ≠ gb118) (.slice (some ad117) t104.length co11) t104) := ⟨h1_⟩
               have n2_ : Aside0 (Kd.R k62 62 w63 w.heap.size (fun k_ => some k_ ≠ (v122 : Value).ownBlock ∧ some k_ ≠ (.slice (some ad117) t104.length co11 : Value).ownBlock ∧ some k_ ≠ (.slice (some ad117) t104.length co11 : Value).ownBlock ∧ k_ ≠ gb118) u112001 x112001_2) := ⟨h2_⟩
               have n3_ : Aside0 (Kd.R k62 62 w63 w.heap.size (fun k_ => some k_ ≠ (v122 : Value).ownBlock ∧ some k_ ≠ (u112001 : Value).ownBlock ∧ k_ ≠ gb118) (.slice (some ad117) t104.length co11) t104) := ⟨h3_⟩
               have n4_ : Aside0 (w63.heap[gb101]? = some (.cells #[.int .i64 t103, .slice (some ad117) t104.length co11] 43 (0, 0))) := ⟨h4_⟩
               have n5_ : Aside0 (w63.heap[gb102]? = some (.cells #[.int .i64 x103000_2, .slice none 0 0] 43 (0, 0))) := ⟨h5_⟩
               have n6_ : Aside0 (w63.heap[gb111]? = some (.cells #[.int .i64 x112000_2, u112001] 43 (0, 0))) := ⟨h6_⟩
               have n7_ : Aside0 (w63.heap[gb118]? = some (.cells #[.int .i64 ((rd_T62 t104 x40_2).f0), .int .i64 ((rd_T62 t104 x40_2).f1)] 62 (0, 0))) := ⟨h7_⟩
               have n8_ : Aside0 (w63.heap[gb125]? = some (.cells #[.int .i64 0, .slice none 0 0] 43 (0, 0))) := ⟨h8_⟩
               have n9_ : Aside0 (w.heap.size ≤ gb125) := ⟨h9_⟩
               have n10_ : Aside0 (w.heap.size ≤ gb125) := ⟨h10_⟩
               have n11_ : Aside0 (gb101 ≠ gb125) := ⟨h11_⟩
               have n12_ : Aside0 (gb125 ≠ gb101) := ⟨h12_⟩
               have n13_ : Aside0 (gb102 ≠ gb125) := ⟨h13_⟩
               have n14_ : Aside0 (gb125 ≠ gb102) := ⟨h14_⟩
               have n15_ : Aside0 (gb111 ≠ gb125) := ⟨h15_⟩
               have n16_ : Aside0 (gb125 ≠ gb111) := ⟨h16_⟩
               have n17_ : Aside0 (gb118 ≠ gb125) := ⟨h17_⟩
               have n18_ : Aside0 (gb125 ≠ gb118) := ⟨h18_⟩
               have n19_ : Aside0 (Below w.heap.size w w63) := ⟨h19_⟩
               clear HO_38 HO_102001 HO_112001 BK101 BK102 BK111 BK118 HB h0_ h1_ h2_ h3_ h4_ h5_ h6_ h7_ h8_ h9_ h10_ h11_ h12_ h13_ h14_ h15_ h16_ h17_ h18_ h19_
               have HO123 := n0_
               have HO_102001 := n1_
               have HO_112001 := n2_
               have HO_38 := n3_
               have BK101 := n4_
               have BK102 := n5_
               have BK111 := n6_
               have BK118 := n7_
               have BK125 := n8_
               have GW125 := n9_
               have GE125 := n10_
               have NB101_125 := n11_
               have NB125_101 := n12_
               have NB102_125 := n13_
               have NB125_102 := n14_
               have NB111_125 := n15_
               have NB125_111 := n16_
               have NB118_125 := n17_
               have NB125_118 := n18_
               have HB := n19_
               clear n0_ n1_ n2_ n3_ n4_ n5_ n6_ n7_ n8_ n9_ n10_ n11_ n12_ n13_ n14_ n15_ n16_ n17_ n18_ n19_
               have hHeld : w63.cell? ⟨gb118, 0, none⟩ = some (.int .i64 ((rd_T62 t104 x40_2).f0)) ∧ w63.cell? ⟨gb118, 1, none⟩ = some (.int .i64 ((rd_T62 t104 x40_2).f1)) ∧ w63.cell? (ad119.add ((((rd_T62 t104 x40_2).f0)).toNat * 2)) = some (.int .i64 ((rd_T43 l1 ((rd_T62 t104 x40_2).f0)).f0)) ∧ w63.cell? ⟨(ad119.add ((((rd_T62 t104 x40_2).f0)).toNat * 2)).block, (ad119.add ((((rd_T62 t104 x40_2).f0)).toNat * 2)).off + 1, none⟩ = some (.slice A119_1 ((rd_T43 l1 ((rd_T62 t104 x40_2).f0)).f1).length c119_1) := hS_
               obtain ⟨Ao65, co65, eo65⟩ := Kd.R_slice HO123.out
               (first | subst eo65 | (injection eo65 with f1_ f2_ f3_; have f4_ := f1_.symm; have f5_ := f3_.symm; clear f1_ f2_ f3_; subst f4_; subst f5_))
               refine norm_ (a' := ?_) ?_ ?_
               rotate_left
               ·simp only [putAll, Act.put, List.setIfInBounds_toArray, List.set_cons_zero, List.set_cons_succ]
                rfl
               refine one_ (i := 12) (N := none) #[true, true, true, true, true, true, true, true, true, true, true, true, true, false] rfl rfl (one_of HT_.out (by kernel_rfl)) (by decide) (fun K hK => ?_)
               have hs64 : w63.cell? ⟨gb125, 0, none⟩ = some (.int .i64 0) := (blk_cell BK125.out 0).trans rfl
               have hfs64 := blk_frozen BK125.out 0
               have hns64_0 := NB101_125.out
               have hns64_1 := NB102_125.out
               have hns64_2 := NB111_125.out
               have hns64_3 := NB118_125.out
               have hms64_0 := NB125_101.out
               have hms64_1 := NB125_102.out
               have hms64_2 := NB125_111.out
               have hms64_3 := NB125_118.out
               have hs66 : w63.cell? ⟨gb125, 1, none⟩ = some (.slice none 0 0) := (blk_cell BK125.out 1).trans rfl
               have hfs66 := blk_frozen BK125.out 1
               have hns66_0 := NB101_125.out
               have hns66_1 := NB102_125.out
               have hns66_2 := NB111_125.out
               have hns66_3 := NB118_125.out
               have hms66_0 := NB125_101.out
               have hms66_1 := NB125_102.out
               have hms66_2 := NB125_111.out
               have hms66_3 := NB125_118.out
               refine skip_ (w1 := ?_) (by rfl) rfl ?_ ?_
               rotate_left
               ·go_simp
                rfl
               refine hK.out _ _ ⟨((cell_far (p := ⟨gb125, _, none⟩) NB118_125.out _).trans (((cell_far (p := ⟨gb125, _, none⟩) NB118_125.out _).trans (hHeld.1)))), ((cell_far (p := ⟨gb125, _, none⟩) NB118_125.out _).trans (((cell_far (p := ⟨gb125, _, none⟩) NB118_125.out _).trans (hHeld.2.1)))), ((cell_far (p := ⟨gb125, _, none⟩) (by first | exact Nat.ne_of_lt (Nat.lt_of_lt_of_le (by have := World.block_lt_of_cell? _ _ hw119_0; first | rwa [add_block] at this | exact this) GW125.out) | (rw [add_block]; exact Nat.ne_of_lt (Nat.lt_of_lt_of_le (by have := World.block_lt_of_cell? _ _ hw119_0; first | rwa [add_block] at this | exact this) GW125.out)) | (show (Addr.add _ _).block ≠ _; rw [add_block]; exact Nat.ne_of_lt (Nat.lt_of_lt_of_le (by have := World.block_lt_of_cell? _ _ hw119_0; first | rwa [add_block] at this | exact this) GW125.out)) | (dsimp only; exact Nat.ne_of_lt (Nat.lt_of_lt_of_le (by have := World.block_lt_of_cell? _ _ hw119_0; first | rwa [add_block] at this | exact this) GW125.out))) _).trans (((cell_far (p := ⟨gb125, _, none⟩) (by first | exact Nat.ne_of_lt (Nat.lt_of_lt_of_le (by have := World.block_lt_of_cell? _ _ hw119_0; first | rwa [add_block] at this | exact this) GW125.out) | (rw [add_block]; exact Nat.ne_of_lt (Nat.lt_of_lt_of_le (by have := World.block_lt_of_cell? _ _ hw119_0; first | rwa [add_block] at this | exact this) GW125.out)) | (show (Addr.add _ _).block ≠ _; rw [add_block]; exact Nat.ne_of_lt (Nat.lt_of_lt_of_le (by have := World.block_lt_of_cell? _ _ hw119_0; first | rwa [add_block] at this | exact this) GW125.out)) | (dsimp only; exact Nat.ne_of_lt (Nat.lt_of_lt_of_le (by have := World.block_lt_of_cell? _ _ hw119_0; first | rwa [add_block] at this | exact this) GW125.out))) _).trans (hHeld.2.2.1)))), ((cell_far (p := ⟨gb125, _, none⟩) (by first | exact Nat.ne_of_lt (Nat.lt_of_lt_of_le (by have := World.block_lt_of_cell? _ _ hw119_1; first | rwa [add_block] at this | exact this) GW125.out) | (rw [add_block]; exact Nat.ne_of_lt (Nat.lt_of_lt_of_le (by have := World.block_lt_of_cell? _ _ hw119_1; first | rwa [add_block] at this | exact this) GW125.out)) | (show (Addr.add _ _).block ≠ _; rw [add_block]; exact Nat.ne_of_lt (Nat.lt_of_lt_of_le (by have := World.block_lt_of_cell? _ _ hw119_1; first | rwa [add_block] at this | exact this) GW125.out)) | (dsimp only; exact Nat.ne_of_lt (Nat.lt_of_lt_of_le (by have := World.block_lt_of_cell? _ _ hw119_1; first | rwa [add_block] at this | exact this) GW125.out))) _).trans (((cell_far (p := ⟨gb125, _, none⟩) (by first | exact Nat.ne_of_lt (Nat.lt_of_lt_of_le (by have := World.block_lt_of_cell? _ _ hw119_1; first | rwa [add_block] at this | exact this) GW125.out) | (rw [add_block]; exact Nat.ne_of_lt (Nat.lt_of_lt_of_le (by have := World.block_lt_of_cell? _ _ hw119_1; first | rwa [add_block] at this | exact this) GW125.out)) | (show (Addr.add _ _).block ≠ _; rw [add_block]; exact Nat.ne_of_lt (Nat.lt_of_lt_of_le (by have := World.block_lt_of_cell? _ _ hw119_1; first | rwa [add_block] at this | exact this) GW125.out)) | (dsimp only; exact Nat.ne_of_lt (Nat.lt_of_lt_of_le (by have := World.block_lt_of_cell? _ _ hw119_1; first | rwa [add_block] at this | exact this) GW125.out))) _).trans (hHeld.2.2.2))))⟩ (fun hHeld => ?_)
               clear hK K
               refine pure_ (i := 13) (N := some 13) (v := ?_) (a' := ?_) #[true, true, true, true, true, true, true, true, true, true, true, true, true, true] rfl rfl (any_of HT_.out (by kernel_rfl)) (fun _ _ _ h => h) (Or.inl ⟨by rfl, ?_⟩) ?_ ?_
               rotate_left
               ·intro w'
                go_simp
                with_reducible rfl
               rotate_left
               ·simp only [Act.put, List.setIfInBounds_toArray, List.set_cons_zero, List.set_cons_succ, i64_w, i32_w]
                rfl
               refine done_ (done_of HT_.out (by kernel_rfl)) ?_
               have hnb67 := NB111_101.out
               have hnc67 := NB101_111.out
               have hnb68 := NB111_102.out
               have hnc68 := NB102_111.out
               have hnb69 := NB111_125.out
               have hnc69 := NB125_111.out
               have hcz70_0 : w63.cell? ⟨gb111, 0, none⟩ = some (.int .i64 x112000_2) := (blk_cell BK111.out 0).trans rfl
               have hcz70_1 : w63.cell? ⟨gb111, 1, none⟩ = some (u112001) := (blk_cell BK111.out 1).trans rfl
               have hfz70_0 := blk_frozen BK111.out 0
               have hfz70_1 := blk_frozen BK111.out 1
               have hnb71 := NB125_101.out
               have hnc71 := NB101_125.out
               have hnb72 := NB125_102.out
               have hnc72 := NB102_125.out
               have hnb73 := NB125_118.out
               have hnc73 := NB118_125.out
               have hcz74_0 : w63.cell? ⟨gb125, 0, none⟩ = some (.int .i64 0) := (blk_cell BK125.out 0).trans rfl
               have hcz74_1 : w63.cell? ⟨gb125, 1, none⟩ = some (.slice none 0 0) := (blk_cell BK125.out 1).trans rfl
               have hfz74_0 := blk_frozen BK125.out 0
               have hfz74_1 := blk_frozen BK125.out 1
               obtain ⟨Ao75, co75, eo75⟩ := Kd.R_slice HO_112001.out
               subst eo75
               try go_wp2_with (first | ((with_reducible refine gate_callee (f := 46) rfl ?_); refine goesL_ (some 67) rfl rfl Try.func46 (by kernel_rfl) rfl #[.agg #[.int .i64 x112000_2, .slice Ao75 x112001_2.length co75], .agg #[.int .i64 t120, .slice Ao65 t121.length co65]] rfl (by (try simp only [List.map_toArray, List.map_cons, List.map_nil]); first | done | rfl | (simp only [List.length_drop, List.length_take]; rfl)) ?_; (with_reducible refine (level_Max.calls k2 x112000_2 _ _ x112001_2 t120 _ _ t121 t126 t127 t130 _ ?side1 ?side2 ?side3 ?side4 A52.out).mono ?_); (case side1 => refine (Kd.R_reads' (e := 62) (base := w.heap.size) (ok := fun k_ => (some k_ ≠ (.slice Ao65 t121.length co65 : Value).ownBlock ∧ (some k_ ≠ (.slice (some ad117) t104.length co11 : Value).ownBlock ∧ (some k_ ≠ (.slice (some ad117) t104.length co11 : Value).ownBlock ∧ k_ ≠ gb118)))) (n := x112001_2.length) (c := co75) ?_).2.2; exact (by (with_reducible repeat (first | apply Kd.R_alloc | apply Kd.R_drewN | apply Kd.R_drew)); exact (Kd.R_mono (Kd.R_far (p := ⟨gb125, 1, none⟩) (Kd.R_far (p := ⟨gb125, 0, none⟩) (Kd.R_types HO_112001.out BK125.out (by decide)) (fun _ hk => hk.2) (.int .i64 t120)) (fun _ hk => hk.2) (.slice Ao65 t121.length co65)) (fun _ h_ => h_.1)))); (case side2 => exact (Kd.R_reads' HO_112001.out).2.1); (case side3 => refine (Kd.R_reads' (e := 62) (base := w.heap.size) (ok := fun k_ => (some k_ ≠ (.slice (some ad117) t104.length co11 : Value).ownBlock ∧ (some k_ ≠ (.slice Ao75 x112001_2.length co75 : Value).ownBlock ∧ (some k_ ≠ (.slice (some ad117) t104.length co11 : Value).ownBlock ∧ k_ ≠ gb118)))) (n := t121.length) (c := co65) ?_).2.2; exact (by (with_reducible repeat (first | apply Kd.R_alloc | apply Kd.R_drewN | apply Kd.R_drew)); exact (Kd.R_mono (Kd.R_far (p := ⟨gb125, 1, none⟩) (Kd.R_far (p := ⟨gb125, 0, none⟩) (Kd.R_types HO123.out BK125.out (by decide)) (fun _ hk => hk.2) (.int .i64 t120)) (fun _ hk => hk.2) (.slice Ao65 t121.length co65)) (fun _ h_ => h_.1)))); (case side4 => exact (Kd.R_reads' HO123.out).2.1); rintro e w76 ⟨v128, rfl, ho0, hb⟩; refine ⟨_, rfl, ?_⟩; have HO129 := Aside0.mk (Kd.R_lower (Kd.R_newB (Kd.R_new' (Kd.R_new' (Kd.R_new' (Kd.R_new' ho0 (Kd.R_lt (by (with_reducible repeat (first | apply Kd.R_alloc | apply Kd.R_drewN | apply Kd.R_drew)); exact (Kd.R_mono (Kd.R_far (p := ⟨gb125, 1, none⟩) (Kd.R_far (p := ⟨gb125, 0, none⟩) (Kd.R_types HO_38.out BK125.out (by decide)) (fun _ hk => hk.2) (.int .i64 t120)) (fun _ hk => hk.2) (.slice Ao65 t121.length co65)) (fun _ h_ => h_.1))))) (Kd.R_lt (by (with_reducible repeat (first | apply Kd.R_alloc | apply Kd.R_drewN | apply Kd.R_drew)); exact (Kd.R_mono (Kd.R_far (p := ⟨gb125, 1, none⟩) (Kd.R_far (p := ⟨gb125, 0, none⟩) (Kd.R_types HO_102001.out BK125.out (by decide)) (fun _ hk => hk.2) (.int .i64 t120)) (fun _ hk => hk.2) (.slice Ao65 t121.length co65)) (fun _ h_ => h_.1))))) (Kd.R_lt (by (with_reducible repeat (first | apply Kd.R_alloc | apply Kd.R_drewN | apply Kd.R_drew)); exact (Kd.R_mono (Kd.R_far (p := ⟨gb125, 1, none⟩) (Kd.R_far (p := ⟨gb125, 0, none⟩) (Kd.R_types HO_112001.out BK125.out (by decide)) (fun _ hk => hk.2) (.int .i64 t120)) (fun _ hk => hk.2) (.slice Ao65 t121.length co65)) (fun _ h_ => h_.1))))) (Kd.R_lt (by (with_reducible repeat (first | apply Kd.R_alloc | apply Kd.R_drewN | apply Kd.R_drew)); exact (Kd.R_mono (Kd.R_far (p := ⟨gb125, 1, none⟩) (Kd.R_far (p := ⟨gb125, 0, none⟩) (Kd.R_types HO123.out BK125.out (by decide)) (fun _ hk => hk.2) (.int .i64 t120)) (fun _ hk => hk.2) (.slice Ao65 t121.length co65)) (fun _ h_ => h_.1))))) (g := gb118) (o := .cells #[.int .i64 ((rd_T62 t104 x40_2).f0), .int .i64 ((rd_T62 t104 x40_2).f1)] 62 (0, 0)) (pf_ BK118)) (below_size (bl_ HB))); replace HO_38 := Aside0.mk (Kd.R_elder' (by (with_reducible repeat (first | apply Kd.R_alloc | apply Kd.R_drewN | apply Kd.R_drew)); exact (Kd.R_mono (Kd.R_far (p := ⟨gb125, 1, none⟩) (Kd.R_far (p := ⟨gb125, 0, none⟩) (Kd.R_types HO_38.out BK125.out (by decide)) (fun _ hk => hk.2) (.int .i64 t120)) (fun _ hk => hk.2) (.slice Ao65 t121.length co65)) (fun _ h_ => h_.1))) (Kd.R_base ho0) hb); replace HO_102001 := Aside0.mk (Kd.R_elder' (by (with_reducible repeat (first | apply Kd.R_alloc | apply Kd.R_drewN | apply Kd.R_drew)); exact (Kd.R_mono (Kd.R_far (p := ⟨gb125, 1, none⟩) (Kd.R_far (p := ⟨gb125, 0, none⟩) (Kd.R_types HO_102001.out BK125.out (by decide)) (fun _ hk => hk.2) (.int .i64 t120)) (fun _ hk => hk.2) (.slice Ao65 t121.length co65)) (fun _ h_ => h_.1))) (Kd.R_base ho0) hb); replace HO_112001 := Aside0.mk (Kd.R_elder' (by (with_reducible repeat (first | apply Kd.R_alloc | apply Kd.R_drewN | apply Kd.R_drew)); exact (Kd.R_mono (Kd.R_far (p := ⟨gb125, 1, none⟩) (Kd.R_far (p := ⟨gb125, 0, none⟩) (Kd.R_types HO_112001.out BK125.out (by decide)) (fun _ hk => hk.2) (.int .i64 t120)) (fun _ hk => hk.2) (.slice Ao65 t121.length co65)) (fun _ h_ => h_.1))) (Kd.R_base ho0) hb); replace HO123 := Aside0.mk (Kd.R_elder' (by (with_reducible repeat (first | apply Kd.R_alloc | apply Kd.R_drewN | apply Kd.R_drew)); exact (Kd.R_mono (Kd.R_far (p := ⟨gb125, 1, none⟩) (Kd.R_far (p := ⟨gb125, 0, none⟩) (Kd.R_types HO123.out BK125.out (by decide)) (fun _ hk => hk.2) (.int .i64 t120)) (fun _ hk => hk.2) (.slice Ao65 t121.length co65)) (fun _ h_ => h_.1))) (Kd.R_base ho0) hb); replace BK101 := Aside0.mk (blk_below (pf_ BK101) hb); replace BK102 := Aside0.mk (blk_below (pf_ BK102) hb); replace BK111 := Aside0.mk (blk_below (pf_ BK111) hb); replace BK118 := Aside0.mk (blk_below (pf_ BK118) hb); replace BK125 := Aside0.mk (blk_below (g := gb125) (o := .cells #[.int .i64 t120, .slice Ao65 t121.length co65] 43 (0, 0)) (by (with_reducible repeat (first | refine blk_drewN ?_ _ | refine blk_drew ?_ | refine blk_alloc ?_ _)); refine blk_put (cs := #[.int .i64 t120, .slice none 0 0]) ?_ 1 _ rfl; (with_reducible repeat (first | refine blk_drewN ?_ _ | refine blk_drew ?_ | refine blk_alloc ?_ _)); refine blk_put (cs := #[.int .i64 0, .slice none 0 0]) ?_ 0 _ rfl; (with_reducible repeat (first | refine blk_drewN ?_ _ | refine blk_drew ?_ | refine blk_alloc ?_ _)); exact BK125.out) hb); replace HB := hs_ HB hb; (try clear hb); (try clear hb2); (try clear hk); (try clear hi); (try clear ho0); have hcz77_0 : w76.cell? ⟨gb111, 0, none⟩ = some (.int .i64 x112000_2) := (blk_cell BK111.out 0).trans rfl; have hcz77_1 : w76.cell? ⟨gb111, 1, none⟩ = some (.slice Ao75 x112001_2.length co75) := (blk_cell BK111.out 1).trans rfl; have hfz77_0 := blk_frozen BK111.out 0; have hfz77_1 := blk_frozen BK111.out 1; obtain ⟨Ao78, co78, eo78⟩ := Kd.R_slice HO129.out; subst eo78))
               go_roundg k2
               case measure => have := HK1.out; have := HK2.out; omega
               case rel => exact ⟨(wrap64 (x40_2 + 1)), (x103000_2), (t126), (t127), (.slice Ao78 t127.length co78), (by first | rfl | (simp; done) | (simp [*]; done)), H', ⟨by have := HK1.out; have := HK2.out; omega⟩, ⟨by (with_reducible repeat (first | apply Kd.R_alloc | apply Kd.R_drewN | apply Kd.R_drew)); exact Kd.R_mono (Kd.R_far (p := ⟨gb111, 1, none⟩) (Kd.R_far (p := ⟨gb111, 0, none⟩) (Kd.R_types HO_38.out BK111.out (by decide)) (fun _ hk => hk.2) (.int .i64 t126)) (fun _ hk => hk.2) (.slice Ao78 t127.length co78)) (fun _ hk => hk.1.2)⟩, ⟨by (with_reducible repeat (first | apply Kd.R_alloc | apply Kd.R_drewN | apply Kd.R_drew)); exact Kd.R_mono (Kd.R_far (p := ⟨gb111, 1, none⟩) (Kd.R_far (p := ⟨gb111, 0, none⟩) (Kd.R_types HO_102001.out BK111.out (by decide)) (fun _ hk => hk.2) (.int .i64 t126)) (fun _ hk => hk.2) (.slice Ao78 t127.length co78)) (fun _ hk => hk.1.2)⟩, ⟨by (with_reducible repeat (first | apply Kd.R_alloc | apply Kd.R_drewN | apply Kd.R_drew)); exact Kd.R_mono (Kd.R_far (p := ⟨gb111, 1, none⟩) (Kd.R_far (p := ⟨gb111, 0, none⟩) (Kd.R_types HO129.out BK111.out (by decide)) (fun _ hk => hk.2) (.int .i64 t126)) (fun _ hk => hk.2) (.slice Ao78 t127.length co78)) (fun _ hk => ⟨hk.1.1.1.1.1.2, hk.1.1.1.1.2⟩)⟩, ⟨by (with_reducible repeat (first | refine blk_drewN ?_ _ | refine blk_drew ?_ | refine blk_alloc ?_ _)); refine blk_far ?_ NB101_111.out _; (with_reducible repeat (first | refine blk_drewN ?_ _ | refine blk_drew ?_ | refine blk_alloc ?_ _)); refine blk_far ?_ NB101_111.out _; (with_reducible repeat (first | refine blk_drewN ?_ _ | refine blk_drew ?_ | refine blk_alloc ?_ _)); exact BK101.out⟩, ⟨by (with_reducible repeat (first | refine blk_drewN ?_ _ | refine blk_drew ?_ | refine blk_alloc ?_ _)); refine blk_far ?_ NB102_111.out _; (with_reducible repeat (first | refine blk_drewN ?_ _ | refine blk_drew ?_ | refine blk_alloc ?_ _)); refine blk_far ?_ NB102_111.out _; (with_reducible repeat (first | refine blk_drewN ?_ _ | refine blk_drew ?_ | refine blk_alloc ?_ _)); exact BK102.out⟩, ⟨by (with_reducible repeat (first | refine blk_drewN ?_ _ | refine blk_drew ?_ | refine blk_alloc ?_ _)); refine blk_put (cs := #[.int .i64 t126, .slice Ao75 x112001_2.length co75]) ?_ 1 _ rfl; (with_reducible repeat (first | refine blk_drewN ?_ _ | refine blk_drew ?_ | refine blk_alloc ?_ _)); refine blk_put (cs := #[.int .i64 x112000_2, .slice Ao75 x112001_2.length co75]) ?_ 0 _ rfl; (with_reducible repeat (first | refine blk_drewN ?_ _ | refine blk_drew ?_ | refine blk_alloc ?_ _)); exact BK111.out⟩, ⟨by repeat (first | (with_reducible first | exact HB.out | apply below_alloc | apply pw_below_drewN | apply below_drew1 | refine below_set ?_ GE101.out | refine below_set ?_ GE102.out | refine below_set ?_ GE111.out | refine below_set ?_ GE118.out | refine below_set ?_ GE125.out) | exact HB.out)⟩⟩
              ·rw [if_neg c53] at H
               have c53b0 : (t130 == 0) = false := beq_eq_false_iff_ne.mpr c53
               have c53b1 : (t130 != 0) = true := bne_iff_ne.mpr c53
               simp only [Option.some.injEq, Prod.mk.injEq] at H
               obtain ⟨rfl, rfl, rfl⟩ := H
               have p117 : 0 ≤ (x40_2 : Int) := of_decide_eq_true (by first | (with_reducible assumption) | assumption)
               have q117 : x40_2 < (t104.length : Int) := of_decide_eq_true (by first | (with_reducible assumption) | assumption)
               obtain ⟨ad117, e117, hx117_0, hx117_1⟩ := at_T62 (Kd.R_reads' HO_38.out).2.2 x40_2 p117 q117
               cases e117
               replace p117 := eq_true p117
               replace q117 := eq_true q117
               try go_wp2_with (first | ((with_reducible refine gate_dst (N := 11) rfl ?_); refine box_event ?hg (N := 11) ?hd (cs := #[.int .i64 0, .int .i64 0]) (t := 62) ?hr ?_; (case hd => rfl); (case hg => rfl); (case hr => first | (go_simp; done) | (go_simp; rfl)); intro gb118 hg w79 hbox hb; have BK118 := Aside0.mk (hbox); have GW118 := Aside0.mk ((bs_ hg HB : w.heap.size ≤ gb118)); have GE118 := Aside0.mk ((bs_ hg HB : w.heap.size ≤ gb118)); have NB101_118 := Aside0.mk ((nl_ hg BK101 : gb101 ≠ gb118)); have NB118_101 := Aside0.mk ((ng_ hg BK101 : gb118 ≠ gb101)); have NB102_118 := Aside0.mk ((nl_ hg BK102 : gb102 ≠ gb118)); have NB118_102 := Aside0.mk ((ng_ hg BK102 : gb118 ≠ gb102)); have NB111_118 := Aside0.mk ((nl_ hg BK111 : gb111 ≠ gb118)); have NB118_111 := Aside0.mk ((ng_ hg BK111 : gb118 ≠ gb111)); replace HO_38 := Aside0.mk (Kd.R_below (Kd.R_elderB (rl_ HO_38) gb118 (Nat.le_of_eq hg.symm)) hb); replace HO_102001 := Aside0.mk (Kd.R_below (Kd.R_elderB (rl_ HO_102001) gb118 (Nat.le_of_eq hg.symm)) hb); replace HO_112001 := Aside0.mk (Kd.R_below (Kd.R_elderB (rl_ HO_112001) gb118 (Nat.le_of_eq hg.symm)) hb); replace BK101 := bb_ BK101 hb; replace BK102 := bb_ BK102 hb; replace BK111 := bb_ BK111 hb; replace HB := hs_ HB hb; clear hb hbox hg; have hnb80 := NB118_101.out; have hnc80 := NB101_118.out; have hnb81 := NB118_102.out; have hnc81 := NB102_118.out; have hnb82 := NB118_111.out; have hnc82 := NB111_118.out; have hcz83_0 : w79.cell? ⟨gb118, 0, none⟩ = some (.int .i64 0) := (blk_cell BK118.out 0).trans rfl; have hcz83_1 : w79.cell? ⟨gb118, 1, none⟩ = some (.int .i64 0) := (blk_cell BK118.out 1).trans rfl; have hfz83_0 := blk_frozen BK118.out 0; have hfz83_1 := blk_frozen BK118.out 1))
               have n0_ : Aside0 (Kd.R k62 62 ((w79.setCell ⟨gb118, 0, none⟩ (.int .i64 ((rd_T62 t104 x40_2).f0))).setCell ⟨gb118, 1, none⟩ (.int .i64 ((rd_T62 t104 x40_2).f1))) w.heap.size (fun k_ => some k_ ≠ (u112001 : Value).ownBlock ∧ k_ ≠ gb118) (.slice (some ad117) t104.length co11) t104) := ⟨by (with_reducible repeat (first | apply Kd.R_alloc | apply Kd.R_drewN | apply Kd.R_drew)); exact Kd.R_mono (Kd.R_far (p := ⟨gb118, 1, none⟩) (Kd.R_far (p := ⟨gb118, 0, none⟩) (Kd.R_mono HO_38.out (fun k_ hk => (⟨hk, hk.2⟩ : _ ∧ k_ ≠ gb118))) (fun _ hk => hk.2) (.int .i64 ((rd_T62 t104 x40_2).f0))) (fun _ hk => hk.2) (.int .i64 ((rd_T62 t104 x40_2).f1))) (fun _ hk => ⟨hk.1.1, hk.1.2⟩)⟩
               have n1_ : Aside0 (Kd.R k62 62 ((w79.setCell ⟨gb118, 0, none⟩ (.int .i64 ((rd_T62 t104 x40_2).f0))).setCell ⟨gb118, 1, none⟩ (.int .i64 ((rd_T62 t104 x40_2).f1))) w.heap.size (fun k_ => some k_ ≠ (u112001 : Value).ownBlock ∧ k_ ≠ gb118) (.slice (some ad117) t104.length co11) t104) := ⟨by (with_reducible repeat (first | apply Kd.R_alloc | apply Kd.R_drewN | apply Kd.R_drew)); exact Kd.R_mono (Kd.R_far (p := ⟨gb118, 1, none⟩) (Kd.R_far (p := ⟨gb118, 0, none⟩) (Kd.R_mono HO_102001.out (fun k_ hk => (⟨hk, hk.2⟩ : _ ∧ k_ ≠ gb118))) (fun _ hk => hk.2) (.int .i64 ((rd_T62 t104 x40_2).f0))) (fun _ hk => hk.2) (.int .i64 ((rd_T62 t104 x40_2).f1))) (fun _ hk => ⟨hk.1.1, hk.1.2⟩)⟩
               have n2_ : Aside0 (Kd.R k62 62 ((w79.setCell ⟨gb118, 0, none⟩ (.int .i64 ((rd_T62 t104 x40_2).f0))).setCell ⟨gb118, 1, none⟩ (.int .i64 ((rd_T62 t104 x40_2).f1))) w.heap.size (fun k_ => some k_ ≠ (.slice (some ad117) t104.length co11 : Value).ownBlock ∧ some k_ ≠ (.slice (some ad117) t104.length co11 : Value).ownBlock ∧ k_ ≠ gb118) u112001 x112001_2) := ⟨by (with_reducible repeat (first | apply Kd.R_alloc | apply Kd.R_drewN | apply Kd.R_drew)); exact Kd.R_mono (Kd.R_far (p := ⟨gb118, 1, none⟩) (Kd.R_far (p := ⟨gb118, 0, none⟩) (Kd.R_mono HO_112001.out (fun k_ hk => (⟨hk, hk.2⟩ : _ ∧ k_ ≠ gb118))) (fun _ hk => hk.2) (.int .i64 ((rd_T62 t104 x40_2).f0))) (fun _ hk => hk.2) (.int .i64 ((rd_T62 t104 x40_2).f1))) (fun _ hk => ⟨hk.1.1.1, ⟨hk.1.1.2, hk.1.2⟩⟩)⟩
               have n3_ : Aside0 (((w79.setCell ⟨gb118, 0, none⟩ (.int .i64 ((rd_T62 t104 x40_2).f0))).setCell ⟨gb118, 1, none⟩ (.int .i64 ((rd_T62 t104 x40_2).f1))).heap[gb101]? = some (.cells #[.int .i64 t103, .slice (some ad117) t104.length co11] 43 (0, 0))) := ⟨by (with_reducible repeat (first | refine blk_drewN ?_ _ | refine blk_drew ?_ | refine blk_alloc ?_ _)); refine blk_far ?_ NB101_118.out _; (with_reducible repeat (first | refine blk_drewN ?_ _ | refine blk_drew ?_ | refine blk_alloc ?_ _)); refine blk_far ?_ NB101_118.out _; (with_reducible repeat (first | refine blk_drewN ?_ _ | refine blk_drew ?_ | refine blk_alloc ?_ _)); exact BK101.out⟩
               have n4_ : Aside0 (((w79.setCell ⟨gb118, 0, none⟩ (.int .i64 ((rd_T62 t104 x40_2).f0))).setCell ⟨gb118, 1, none⟩ (.int .i64 ((rd_T62 t104 x40_2).f1))).heap[gb102]? = some (.cells #[.int .i64 x103000_2, .slice none 0 0] 43 (0, 0))) := ⟨by (with_reducible repeat (first | refine blk_drewN ?_ _ | refine blk_drew ?_ | refine blk_alloc ?_ _)); refine blk_far ?_ NB102_118.out _; (with_reducible repeat (first | refine blk_drewN ?_ _ | refine blk_drew ?_ | refine blk_alloc ?_ _)); refine blk_far ?_ NB102_118.out _; (with_reducible repeat (first | refine blk_drewN ?_ _ | refine blk_drew ?_ | refine blk_alloc ?_ _)); exact BK102.out⟩
               have n5_ : Aside0 (((w79.setCell ⟨gb118, 0, none⟩ (.int .i64 ((rd_T62 t104 x40_2).f0))).setCell ⟨gb118, 1, none⟩ (.int .i64 ((rd_T62 t104 x40_2).f1))).heap[gb111]? = some (.cells #[.int .i64 x112000_2, u112001] 43 (0, 0))) := ⟨by (with_reducible repeat (first | refine blk_drewN ?_ _ | refine blk_drew ?_ | refine blk_alloc ?_ _)); refine blk_far ?_ NB111_118.out _; (with_reducible repeat (first | refine blk_drewN ?_ _ | refine blk_drew ?_ | refine blk_alloc ?_ _)); refine blk_far ?_ NB111_118.out _; (with_reducible repeat (first | refine blk_drewN ?_ _ | refine blk_drew ?_ | refine blk_alloc ?_ _)); exact BK111.out⟩
               have n6_ : Aside0 (((w79.setCell ⟨gb118, 0, none⟩ (.int .i64 ((rd_T62 t104 x40_2).f0))).setCell ⟨gb118, 1, none⟩ (.int .i64 ((rd_T62 t104 x40_2).f1))).heap[gb118]? = some (.cells #[.int .i64 ((rd_T62 t104 x40_2).f0), .int .i64 ((rd_T62 t104 x40_2).f1)] 62 (0, 0))) := ⟨by (with_reducible repeat (first | refine blk_drewN ?_ _ | refine blk_drew ?_ | refine blk_alloc ?_ _)); refine blk_put (cs := #[.int .i64 ((rd_T62 t104 x40_2).f0), .int .i64 0]) ?_ 1 _ rfl; (with_reducible repeat (first | refine blk_drewN ?_ _ | refine blk_drew ?_ | refine blk_alloc ?_ _)); refine blk_put (cs := #[.int .i64 0, .int .i64 0]) ?_ 0 _ rfl; (with_reducible repeat (first | refine blk_drewN ?_ _ | refine blk_drew ?_ | refine blk_alloc ?_ _)); exact BK118.out⟩
               have n7_ : Aside0 (Below w.heap.size w ((w79.setCell ⟨gb118, 0, none⟩ (.int .i64 ((rd_T62 t104 x40_2).f0))).setCell ⟨gb118, 1, none⟩ (.int .i64 ((rd_T62 t104 x40_2).f1)))) := ⟨by repeat (first | (with_reducible first | exact HB.out | apply below_alloc | apply pw_below_drewN | apply below_drew1 | refine below_set ?_ GE101.out | refine below_set ?_ GE102.out | refine below_set ?_ GE111.out | refine below_set ?_ GE118.out) | exact HB.out)⟩
               (try clear HO_38); (try clear HO_102001); (try clear HO_112001); (try clear BK101); (try clear BK102); (try clear BK111); (try clear BK118); (try clear HB)
               generalize ((w79.setCell ⟨gb118, 0, none⟩ (.int .i64 ((rd_T62 t104 x40_2).f0))).setCell ⟨gb118, 1, none⟩ (.int .i64 ((rd_T62 t104 x40_2).f1))) = w84 at n0_ n1_ n2_ n3_ n4_ n5_ n6_ n7_ ⊢
               have HO_38 := n0_
               have HO_102001 := n1_
               have HO_112001 := n2_
               have BK101 := n3_
               have BK102 := n4_
               have BK111 := n5_
               have BK118 := n6_
               have HB := n7_
               clear n0_ n1_ n2_ n3_ n4_ n5_ n6_ n7_
               replace HO_38 := Aside0.mk (Kd.R_drew HO_38.out)
               replace HO_102001 := Aside0.mk (Kd.R_drew HO_102001.out)
               replace HO_112001 := Aside0.mk (Kd.R_drew HO_112001.out)
               replace BK101 := Aside0.mk (blk_drew BK101.out)
               replace BK102 := Aside0.mk (blk_drew BK102.out)
               replace BK111 := Aside0.mk (blk_drew BK111.out)
               replace BK118 := Aside0.mk (blk_drew BK118.out)
               replace HB := Aside0.mk (below_drew1 HB.out)
               have p119 : 0 ≤ (((rd_T62 t104 x40_2).f0) : Int) := of_decide_eq_true (by first | (with_reducible assumption) | assumption)
               have q119 : ((rd_T62 t104 x40_2).f0) < (l1.length : Int) := of_decide_eq_true (by first | (with_reducible assumption) | assumption)
               obtain ⟨ad119, A119_1, c119_1, e119, hx119_0, hx119_1, hl119_1, hi119_1⟩ := at_T43 HR1.out ((rd_T62 t104 x40_2).f0) p119 q119
               have hw119_1 := hx119_1
               have hw119_0 := hx119_0
               cases e119
               replace hx119_0 := (HB.out.cell (World.block_lt_of_cell? w _ hx119_0)).trans hx119_0
               replace hx119_1 := (HB.out.cell (World.block_lt_of_cell? w _ hx119_1)).trans hx119_1
               have HR119_1 := Aside0.mk hi119_1
               have HC119_1 := Aside0.mk hl119_1
               clear hi119_1 hl119_1
               replace p119 := eq_true p119
               replace q119 := eq_true q119
               refine start_ (n := 14) (S := fun w' => w'.cell? ⟨gb118, 0, none⟩ = some (.int .i64 ((rd_T62 t104 x40_2).f0)) ∧ w'.cell? ⟨gb118, 1, none⟩ = some (.int .i64 ((rd_T62 t104 x40_2).f1)) ∧ w'.cell? (ad119.add ((((rd_T62 t104 x40_2).f0)).toNat * 2)) = some (.int .i64 ((rd_T43 l1 ((rd_T62 t104 x40_2).f0)).f0)) ∧ w'.cell? ⟨(ad119.add ((((rd_T62 t104 x40_2).f0)).toNat * 2)).block, (ad119.add ((((rd_T62 t104 x40_2).f0)).toNat * 2)).off + 1, none⟩ = some (.slice A119_1 ((rd_T43 l1 ((rd_T62 t104 x40_2).f0)).f1).length c119_1)) (ds := []) #[false, false, false, false, false, false, false, false, false, false, false, false, false, false] (by kernel_rfl) rfl rfl ⟨(blk_cell BK118.out 0).trans rfl, (blk_cell BK118.out 1).trans rfl, ((HB.out.cell (World.block_lt_of_cell? w _ hw119_0)).trans hw119_0), ((HB.out.cell (World.block_lt_of_cell? w _ hw119_1)).trans hw119_1)⟩ (fun hHeld => ?_); refine with_tabW level_Subst.tab16 level_Subst.bits16 (fun HT_ HW_ => ?_)
               generalize w84.drew = w85 at HO_38 HO_102001 HO_112001 BK101 BK102 BK111 BK118 HB HR119_1 hx119_0 hx119_1 hHeld ⊢
               refine pure_ (i := 0) (N := some 51) (v := ?_) (a' := ?_) #[true, false, false, false, false, false, false, false, false, false, false, false, false, false] rfl rfl (any_of HT_.out (by kernel_rfl)) (fun _ _ _ h => h) (Or.inl ⟨by rfl, ?_⟩) ?_ ?_
               rotate_left
               ·intro w'
                go_simp
                with_reducible rfl
               rotate_left
               ·simp only [Act.put, List.setIfInBounds_toArray, List.set_cons_zero, List.set_cons_succ, i64_w, i32_w]
                rfl
               refine pure_ (i := 1) (N := some 52) (v := ?_) (a' := ?_) #[true, true, false, false, false, false, false, false, false, false, false, false, false, false] rfl rfl (any_of HT_.out (by kernel_rfl)) (fun _ _ _ h => h) (Or.inl ⟨by rfl, ?_⟩) ?_ ?_
               rotate_left
               ·intro w'
                go_simp
                with_reducible rfl
               rotate_left
               ·simp only [Act.put, List.setIfInBounds_toArray, List.set_cons_zero, List.set_cons_succ, i64_w, i32_w]
                rfl
               refine pure_ (i := 5) (N := some 56) (v := ?_) (a' := ?_) #[true, true, false, false, false, true, false, false, false, false, false, false, false, false] rfl rfl (any_of HT_.out (by kernel_rfl)) (fun _ _ _ h => h) (Or.inl ⟨by rfl, ?_⟩) ?_ ?_
               rotate_left
               ·intro w'
                go_simp
                with_reducible rfl
               rotate_left
               ·simp only [Act.put, List.setIfInBounds_toArray, List.set_cons_zero, List.set_cons_succ, i64_w, i32_w]
                rfl
               refine take_ (i := 2) (N := some 53) (v := ?_) (a' := ?_) #[true, true, true, false, false, true, false, false, false, false, false, false, false, false] rfl rfl (take_ofW HT_.out HW_.out (by kernel_rfl)) (fun _ _ _ h => h) (Or.inl ⟨by rfl, ?_⟩) hHeld ?_ ?_
               rotate_left
               ·rintro w' ⟨s0, s1, s2, s3⟩
                go_simp
                with_reducible rfl
               rotate_left
               ·simp only [Act.put, List.setIfInBounds_toArray, List.set_cons_zero, List.set_cons_succ, i64_w, i32_w]
                rfl
               refine pure_ (i := 3) (N := some 54) (v := ?_) (a' := ?_) #[true, true, true, true, false, true, false, false, false, false, false, false, false, false] rfl rfl (any_of HT_.out (by kernel_rfl)) (fun _ _ _ h => h) (Or.inl ⟨by rfl, ?_⟩) ?_ ?_
               rotate_left
               ·intro w'
                go_simp
                with_reducible rfl
               rotate_left
               ·simp only [Act.put, List.setIfInBounds_toArray, List.set_cons_zero, List.set_cons_succ, i64_w, i32_w]
                rfl
               refine take_ (i := 4) (N := some 55) (v := ?_) (a' := ?_) #[true, true, true, true, true, true, false, false, false, false, false, false, false, false] rfl rfl (take_ofW HT_.out HW_.out (by kernel_rfl)) (fun _ _ _ h => h) (Or.inl ⟨by rfl, ?_⟩) hHeld ?_ ?_
               rotate_left
               ·rintro w' ⟨s0, s1, s2, s3⟩
                go_simp
                with_reducible rfl
               rotate_left
               ·simp only [Act.put, List.setIfInBounds_toArray, List.set_cons_zero, List.set_cons_succ, i64_w, i32_w]
                rfl
               refine take_ (i := 6) (N := some 57) (v := ?_) (a' := ?_) #[true, true, true, true, true, true, true, false, false, false, false, false, false, false] rfl rfl (take_ofW HT_.out HW_.out (by kernel_rfl)) (fun _ _ _ h => h) (Or.inl ⟨by rfl, ?_⟩) hHeld ?_ ?_
               rotate_left
               ·rintro w' ⟨s0, s1, s2, s3⟩
                go_simp
                with_reducible rfl
               rotate_left
               ·simp only [Act.put, List.setIfInBounds_toArray, List.set_cons_zero, List.set_cons_succ, i64_w, i32_w]
                rfl
               refine join_ (σ := Value × Nat) 2 #[true, true, true, true, true, true, true, true, true, true, true, true, false, false] (fun s_ => [(58, .tuple #[.agg #[.int .i64 t120, s_.1], .int .i64 t124]), (12, .pointer (some ⟨s_.2, 0, none⟩)), (50, .tuple #[.agg #[.int .i64 t120, s_.1], .int .i64 t124]), (59, .agg #[.int .i64 t120, s_.1]), (60, .int .i64 t124)]) (fun s_ w' => (w'.cell? ⟨gb118, 0, none⟩ = some (.int .i64 ((rd_T62 t104 x40_2).f0)) ∧ w'.cell? ⟨gb118, 1, none⟩ = some (.int .i64 ((rd_T62 t104 x40_2).f1)) ∧ w'.cell? (ad119.add ((((rd_T62 t104 x40_2).f0)).toNat * 2)) = some (.int .i64 ((rd_T43 l1 ((rd_T62 t104 x40_2).f0)).f0)) ∧ w'.cell? ⟨(ad119.add ((((rd_T62 t104 x40_2).f0)).toNat * 2)).block, (ad119.add ((((rd_T62 t104 x40_2).f0)).toNat * 2)).off + 1, none⟩ = some (.slice A119_1 ((rd_T43 l1 ((rd_T62 t104 x40_2).f0)).f1).length c119_1)) ∧ (Kd.R k62 62 w' w.heap.size (fun k_ => some k_ ≠ (.slice (some ad117) t104.length co11 : Value).ownBlock ∧ some k_ ≠ (u112001 : Value).ownBlock ∧ some k_ ≠ (.slice (some ad117) t104.length co11 : Value).ownBlock ∧ k_ ≠ gb118) s_.1 t121) ∧ (Kd.R k62 62 w' w.heap.size (fun k_ => some k_ ≠ (s_.1 : Value).ownBlock ∧ some k_ ≠ (u112001 : Value).ownBlock ∧ k_ ≠ gb118) (.slice (some ad117) t104.length co11) t104) ∧ (Kd.R k62 62 w' w.heap.size (fun k_ => some k_ ≠ (s_.1 : Value).ownBlock ∧ some k_ ≠ (.slice (some ad117) t104.length co11 : Value).ownBlock ∧ some k_ ≠ (.slice (some ad117) t104.length co11 : Value).ownBlock ∧ k_ ≠ gb118) u112001 x112001_2) ∧ (Kd.R k62 62 w' w.heap.size (fun k_ => some k_ ≠ (s_.1 : Value).ownBlock ∧ some k_ ≠ (u112001 : Value).ownBlock ∧ k_ ≠ gb118) (.slice (some ad117) t104.length co11) t104) ∧ (w'.heap[gb101]? = some (.cells #[.int .i64 t103, .slice (some ad117) t104.length co11] 43 (0, 0))) ∧ (w'.heap[gb102]? = some (.cells #[.int .i64 x103000_2, .slice none 0 0] 43 (0, 0))) ∧ (w'.heap[gb111]? = some (.cells #[.int .i64 x112000_2, u112001] 43 (0, 0))) ∧ (w'.heap[gb118]? = some (.cells #[.int .i64 ((rd_T62 t104 x40_2).f0), .int .i64 ((rd_T62 t104 x40_2).f1)] 62 (0, 0))) ∧ (w'.heap[s_.2]? = some (.cells #[.int .i64 0, .slice none 0 0] 43 (0, 0))) ∧ (w.heap.size ≤ s_.2) ∧ (w.heap.size ≤ s_.2) ∧ (gb101 ≠ s_.2) ∧ (s_.2 ≠ gb101) ∧ (gb102 ≠ s_.2) ∧ (s_.2 ≠ gb102) ∧ (gb111 ≠ s_.2) ∧ (s_.2 ≠ gb111) ∧ (gb118 ≠ s_.2) ∧ (s_.2 ≠ gb118) ∧ (Below w.heap.size w w')) ?_ ?_
               rotate_left
               ·intro hCont
                refine two_ (i := 7) (j := 11) (Ni := some 58) (Nj := some 12) #[true, true, true, true, true, true, true, true, false, false, false, false, false, false] #[true, true, true, true, true, true, true, false, false, false, false, true, false, false] rfl rfl rfl rfl (two_of HT_.out (by kernel_rfl)) (by decide) (by decide) (fun K hK => ?_) (fun K hK => ?_)
                ·skip
                 refine goes_ Try.func45 (by kernel_rfl) rfl #[.agg #[.int .i64 ((rd_T43 l1 ((rd_T62 t104 x40_2).f0)).f0), .slice A119_1 ((rd_T43 l1 ((rd_T62 t104 x40_2).f0)).f1).length c119_1], .int .i64 ((rd_T62 t104 x40_2).f1)] (by rfl) rfl rfl (by (try simp only [List.map_toArray, List.map_cons, List.map_nil]); first | done | rfl | (simp only [List.length_drop, List.length_take]; rfl)) ?_
                 with_reducible refine (level_Suc.calls k2 ((rd_T43 l1 ((rd_T62 t104 x40_2).f0)).f0) _ _ ((rd_T43 l1 ((rd_T62 t104 x40_2).f0)).f1) ((rd_T62 t104 x40_2).f1) t120 t121 t124 _ ?side1 ?side2 A50.out).mono ?_
                 (case side1 => repeat (first | exact (Kd.C_below HR119_1.out HB.out) | (with_reducible refine Kd.C_alloc ?_ _) | (with_reducible refine Kd.C_drewN ?_ _) | (with_reducible refine Kd.C_drew ?_)))
                 (case side2 => exact HC119_1.out)
                 rintro e w86 ⟨v122, rfl, ho0, hb⟩
                 refine ⟨_, rfl, ?_⟩
                 have HO123 := Aside0.mk (Kd.R_lower (Kd.R_newB (Kd.R_new' (Kd.R_new' (Kd.R_new' ho0 (Kd.R_lt (rl_ HO_38))) (Kd.R_lt (rl_ HO_102001))) (Kd.R_lt (rl_ HO_112001))) (g := gb118) (o := .cells #[.int .i64 ((rd_T62 t104 x40_2).f0), .int .i64 ((rd_T62 t104 x40_2).f1)] 62 (0, 0)) (pl_ BK118)) (below_size (bl_ HB)))
                 replace HO_38 := Aside0.mk (Kd.R_elder' (rl_ HO_38) (Kd.R_base ho0) hb)
                 replace HO_102001 := Aside0.mk (Kd.R_elder' (rl_ HO_102001) (Kd.R_base ho0) hb)
                 replace HO_112001 := Aside0.mk (Kd.R_elder' (rl_ HO_112001) (Kd.R_base ho0) hb)
                 replace BK101 := bb_ BK101 hb
                 replace BK102 := bb_ BK102 hb
                 replace BK111 := bb_ BK111 hb
                 replace BK118 := bb_ BK118 hb
                 replace HB := hs_ HB hb
                 (try clear hb); (try clear hb2); (try clear hk); (try clear hi); (try clear ho0)
                 refine hK.out _ _ ⟨(blk_cell BK118.out 0).trans rfl, (blk_cell BK118.out 1).trans rfl, ((HB.out.cell (World.block_lt_of_cell? w _ hw119_0)).trans hw119_0), ((HB.out.cell (World.block_lt_of_cell? w _ hw119_1)).trans hw119_1)⟩ (fun hHeld => ?_)
                 clear hK K
                 refine norm_ (a' := ?_) ?_ ?_
                 rotate_left
                 ·show Act.put _ (some 58) _ = _
                  simp only [Act.put, List.setIfInBounds_toArray, List.set_cons_zero, List.set_cons_succ, i64_w, i32_w]
                  rfl
                 refine pure_ (i := 8) (N := some 50) (v := ?_) (a' := ?_) #[true, true, true, true, true, true, true, true, true, false, false, false, false, false] rfl rfl (any_of HT_.out (by kernel_rfl)) (fun _ _ _ h => h) (Or.inl ⟨by rfl, ?_⟩) ?_ ?_
                 rotate_left
                 ·intro w'
                  go_simp
                  with_reducible rfl
                 rotate_left
                 ·simp only [Act.put, List.setIfInBounds_toArray, List.set_cons_zero, List.set_cons_succ, i64_w, i32_w]
                  rfl
                 refine pure_ (i := 9) (N := some 59) (v := ?_) (a' := ?_) #[true, true, true, true, true, true, true, true, true, true, false, false, false, false] rfl rfl (any_of HT_.out (by kernel_rfl)) (fun _ _ _ h => h) (Or.inl ⟨by rfl, ?_⟩) ?_ ?_
                 rotate_left
                 ·intro w'
                  go_simp
                  with_reducible rfl
                 rotate_left
                 ·simp only [Act.put, List.setIfInBounds_toArray, List.set_cons_zero, List.set_cons_succ, i64_w, i32_w]
                  rfl
                 refine pure_ (i := 10) (N := some 60) (v := ?_) (a' := ?_) #[true, true, true, true, true, true, true, true, true, true, true, false, false, false] rfl rfl (any_of HT_.out (by kernel_rfl)) (fun _ _ _ h => h) (Or.inl ⟨by rfl, ?_⟩) ?_ ?_
                 rotate_left
                 ·intro w'
                  go_simp
                  with_reducible rfl
                 rotate_left
                 ·simp only [Act.put, List.setIfInBounds_toArray, List.set_cons_zero, List.set_cons_succ, i64_w, i32_w]
                  rfl
                 refine one_ (i := 11) (N := some 12) #[true, true, true, true, true, true, true, true, true, true, true, true, false, false] rfl rfl (one_of HT_.out (by kernel_rfl)) (by decide) (fun K hK => ?_)
                 refine box_step ?hg (N := 12) ?hd (cs := #[.int .i64 0, .slice none 0 0]) (t := 43) ?hr ?_; (case hd => rfl); (case hg => rfl); (case hr => first | (go_simp; done) | (go_simp; rfl))
                 intro gb125 hg w87 hbox hb
                 have BK125 := Aside0.mk (hbox)
                 have GW125 := Aside0.mk ((bs_ hg HB : w.heap.size ≤ gb125))
                 have GE125 := Aside0.mk ((bs_ hg HB : w.heap.size ≤ gb125))
                 have NB101_125 := Aside0.mk ((nl_ hg BK101 : gb101 ≠ gb125))
                 have NB125_101 := Aside0.mk ((ng_ hg BK101 : gb125 ≠ gb101))
                 have NB102_125 := Aside0.mk ((nl_ hg BK102 : gb102 ≠ gb125))
                 have NB125_102 := Aside0.mk ((ng_ hg BK102 : gb125 ≠ gb102))
                 have NB111_125 := Aside0.mk ((nl_ hg BK111 : gb111 ≠ gb125))
                 have NB125_111 := Aside0.mk ((ng_ hg BK111 : gb125 ≠ gb111))
                 have NB118_125 := Aside0.mk ((nl_ hg BK118 : gb118 ≠ gb125))
                 have NB125_118 := Aside0.mk ((ng_ hg BK118 : gb125 ≠ gb118))
                 replace HO_38 := Aside0.mk (Kd.R_below (rl_ HO_38) hb)
                 replace HO_102001 := Aside0.mk (Kd.R_below (rl_ HO_102001) hb)
                 replace HO_112001 := Aside0.mk (Kd.R_below (rl_ HO_112001) hb)
                 replace HO123 := Aside0.mk (Kd.R_below (rl_ HO123) hb)
                 replace BK101 := bb_ BK101 hb
                 replace BK102 := bb_ BK102 hb
                 replace BK111 := bb_ BK111 hb
                 replace BK118 := bb_ BK118 hb
                 replace HB := hs_ HB hb
                 clear hb hbox hg
                 refine hK.out _ _ ⟨(blk_cell BK118.out 0).trans rfl, (blk_cell BK118.out 1).trans rfl, ((HB.out.cell (World.block_lt_of_cell? w _ hw119_0)).trans hw119_0), ((HB.out.cell (World.block_lt_of_cell? w _ hw119_1)).trans hw119_1)⟩ (fun hHeld => ?_)
                 clear hK K
                 refine norm_ (a' := ?_) ?_ ?_
                 rotate_left
                 ·show Act.put _ (some 12) _ = _
                  simp only [Act.put, List.setIfInBounds_toArray, List.set_cons_zero, List.set_cons_succ, i64_w, i32_w]
                  rfl
                 exact norm_ (by simp only [putAll, Act.put, List.setIfInBounds_toArray, List.set_cons_zero, List.set_cons_succ]) (hCont (v122, gb125) _ ⟨hHeld, (by (with_reducible repeat (first | apply Kd.R_alloc | apply Kd.R_drewN | apply Kd.R_drew)); exact Kd.R_mono HO123.out (fun _ hk => ⟨hk.1.1.2, ⟨hk.1.2, ⟨hk.1.1.1.2, hk.2⟩⟩⟩)), (by (with_reducible repeat (first | apply Kd.R_alloc | apply Kd.R_drewN | apply Kd.R_drew)); exact Kd.R_mono HO_102001.out (fun _ hk => ⟨hk.2, ⟨hk.1.1, hk.1.2⟩⟩)), (by (with_reducible repeat (first | apply Kd.R_alloc | apply Kd.R_drewN | apply Kd.R_drew)); exact Kd.R_mono HO_112001.out (fun _ hk => ⟨hk.2, ⟨hk.1.2.1, ⟨hk.1.1, hk.1.2.2⟩⟩⟩)), (by (with_reducible repeat (first | apply Kd.R_alloc | apply Kd.R_drewN | apply Kd.R_drew)); exact Kd.R_mono HO_38.out (fun _ hk => ⟨hk.2, ⟨hk.1.1, hk.1.2⟩⟩)), (pl_ BK101), (pl_ BK102), (pl_ BK111), (pl_ BK118), (pl_ BK125), GW125.out, GE125.out, NB101_125.out, NB125_101.out, NB102_125.out, NB125_102.out, NB111_125.out, NB125_111.out, NB118_125.out, NB125_118.out, (bl_ HB)⟩)
                ·skip
                 refine box_step ?hg (N := 12) ?hd (cs := #[.int .i64 0, .slice none 0 0]) (t := 43) ?hr ?_; (case hd => rfl); (case hg => rfl); (case hr => first | (go_simp; done) | (go_simp; rfl))
                 intro gb125 hg w86 hbox hb
                 have BK125 := Aside0.mk (hbox)
                 have GW125 := Aside0.mk ((bs_ hg HB : w.heap.size ≤ gb125))
                 have GE125 := Aside0.mk ((bs_ hg HB : w.heap.size ≤ gb125))
                 have NB101_125 := Aside0.mk ((nl_ hg BK101 : gb101 ≠ gb125))
                 have NB125_101 := Aside0.mk ((ng_ hg BK101 : gb125 ≠ gb101))
                 have NB102_125 := Aside0.mk ((nl_ hg BK102 : gb102 ≠ gb125))
                 have NB125_102 := Aside0.mk ((ng_ hg BK102 : gb125 ≠ gb102))
                 have NB111_125 := Aside0.mk ((nl_ hg BK111 : gb111 ≠ gb125))
                 have NB125_111 := Aside0.mk ((ng_ hg BK111 : gb125 ≠ gb111))
                 have NB118_125 := Aside0.mk ((nl_ hg BK118 : gb118 ≠ gb125))
                 have NB125_118 := Aside0.mk ((ng_ hg BK118 : gb125 ≠ gb118))
                 replace HO_38 := Aside0.mk (Kd.R_below (rl_ HO_38) hb)
                 replace HO_102001 := Aside0.mk (Kd.R_below (rl_ HO_102001) hb)
                 replace HO_112001 := Aside0.mk (Kd.R_below (rl_ HO_112001) hb)
                 replace BK101 := bb_ BK101 hb
                 replace BK102 := bb_ BK102 hb
                 replace BK111 := bb_ BK111 hb
                 replace BK118 := bb_ BK118 hb
                 replace HB := hs_ HB hb
                 clear hb hbox hg
                 refine hK.out _ _ ⟨(blk_cell BK118.out 0).trans rfl, (blk_cell BK118.out 1).trans rfl, ((HB.out.cell (World.block_lt_of_cell? w _ hw119_0)).trans hw119_0), ((HB.out.cell (World.block_lt_of_cell? w _ hw119_1)).trans hw119_1)⟩ (fun hHeld => ?_)
                 clear hK K
                 refine norm_ (a' := ?_) ?_ ?_
                 rotate_left
                 ·show Act.put _ (some 12) _ = _
                  simp only [Act.put, List.setIfInBounds_toArray, List.set_cons_zero, List.set_cons_succ, i64_w, i32_w]
                  rfl
                 refine one_ (i := 7) (N := some 58) #[true, true, true, true, true, true, true, true, false, false, false, true, false, false] rfl rfl (one_of HT_.out (by kernel_rfl)) (by decide) (fun K hK => ?_)
                 refine goes_ Try.func45 (by kernel_rfl) rfl #[.agg #[.int .i64 ((rd_T43 l1 ((rd_T62 t104 x40_2).f0)).f0), .slice A119_1 ((rd_T43 l1 ((rd_T62 t104 x40_2).f0)).f1).length c119_1], .int .i64 ((rd_T62 t104 x40_2).f1)] (by rfl) rfl rfl (by (try simp only [List.map_toArray, List.map_cons, List.map_nil]); first | done | rfl | (simp only [List.length_drop, List.length_take]; rfl)) ?_
                 with_reducible refine (level_Suc.calls k2 ((rd_T43 l1 ((rd_T62 t104 x40_2).f0)).f0) _ _ ((rd_T43 l1 ((rd_T62 t104 x40_2).f0)).f1) ((rd_T62 t104 x40_2).f1) t120 t121 t124 _ ?side1 ?side2 A50.out).mono ?_
                 (case side1 => repeat (first | exact (Kd.C_below HR119_1.out HB.out) | (with_reducible refine Kd.C_alloc ?_ _) | (with_reducible refine Kd.C_drewN ?_ _) | (with_reducible refine Kd.C_drew ?_)))
                 (case side2 => exact HC119_1.out)
                 rintro e w87 ⟨v122, rfl, ho0, hb⟩
                 refine ⟨_, rfl, ?_⟩
                 have HO123 := Aside0.mk (Kd.R_lower (Kd.R_newB (Kd.R_new' (Kd.R_new' (Kd.R_new' ho0 (Kd.R_lt (rl_ HO_38))) (Kd.R_lt (rl_ HO_102001))) (Kd.R_lt (rl_ HO_112001))) (g := gb118) (o := .cells #[.int .i64 ((rd_T62 t104 x40_2).f0), .int .i64 ((rd_T62 t104 x40_2).f1)] 62 (0, 0)) (pl_ BK118)) (below_size (bl_ HB)))
                 replace HO_38 := Aside0.mk (Kd.R_elder' (rl_ HO_38) (Kd.R_base ho0) hb)
                 replace HO_102001 := Aside0.mk (Kd.R_elder' (rl_ HO_102001) (Kd.R_base ho0) hb)
                 replace HO_112001 := Aside0.mk (Kd.R_elder' (rl_ HO_112001) (Kd.R_base ho0) hb)
                 replace BK101 := bb_ BK101 hb
                 replace BK102 := bb_ BK102 hb
                 replace BK111 := bb_ BK111 hb
                 replace BK118 := bb_ BK118 hb
                 replace BK125 := bb_ BK125 hb
                 replace HB := hs_ HB hb
                 (try clear hb); (try clear hb2); (try clear hk); (try clear hi); (try clear ho0)
                 refine hK.out _ _ ⟨(blk_cell BK118.out 0).trans rfl, (blk_cell BK118.out 1).trans rfl, ((HB.out.cell (World.block_lt_of_cell? w _ hw119_0)).trans hw119_0), ((HB.out.cell (World.block_lt_of_cell? w _ hw119_1)).trans hw119_1)⟩ (fun hHeld => ?_)
                 clear hK K
                 refine norm_ (a' := ?_) ?_ ?_
                 rotate_left
                 ·show Act.put _ (some 58) _ = _
                  simp only [Act.put, List.setIfInBounds_toArray, List.set_cons_zero, List.set_cons_succ, i64_w, i32_w]
                  rfl
                 refine pure_ (i := 8) (N := some 50) (v := ?_) (a' := ?_) #[true, true, true, true, true, true, true, true, true, false, false, true, false, false] rfl rfl (any_of HT_.out (by kernel_rfl)) (fun _ _ _ h => h) (Or.inl ⟨by rfl, ?_⟩) ?_ ?_
                 rotate_left
                 ·intro w'
                  go_simp
                  with_reducible rfl
                 rotate_left
                 ·simp only [Act.put, List.setIfInBounds_toArray, List.set_cons_zero, List.set_cons_succ, i64_w, i32_w]
                  rfl
                 refine pure_ (i := 9) (N := some 59) (v := ?_) (a' := ?_) #[true, true, true, true, true, true, true, true, true, true, false, true, false, false] rfl rfl (any_of HT_.out (by kernel_rfl)) (fun _ _ _ h => h) (Or.inl ⟨by rfl, ?_⟩) ?_ ?_
                 rotate_left
                 ·intro w'
                  go_simp
                  with_reducible rfl
                 rotate_left
                 ·simp only [Act.put, List.setIfInBounds_toArray, List.set_cons_zero, List.set_cons_succ, i64_w, i32_w]
                  rfl
                 refine pure_ (i := 10) (N := some 60) (v := ?_) (a' := ?_) #[true, true, true, true, true, true, true, true, true, true, true, true, false, false] rfl rfl (any_of HT_.out (by kernel_rfl)) (fun _ _ _ h => h) (Or.inl ⟨by rfl, ?_⟩) ?_ ?_
                 rotate_left
                 ·intro w'
                  go_simp
                  with_reducible rfl
                 rotate_left
                 ·simp only [Act.put, List.setIfInBounds_toArray, List.set_cons_zero, List.set_cons_succ, i64_w, i32_w]
                  rfl
                 exact norm_ (by simp only [putAll, Act.put, List.setIfInBounds_toArray, List.set_cons_zero, List.set_cons_succ]) (hCont (v122, gb125) _ ⟨hHeld, (by (with_reducible repeat (first | apply Kd.R_alloc | apply Kd.R_drewN | apply Kd.R_drew)); exact Kd.R_mono HO123.out (fun _ hk => ⟨hk.1.1.2, ⟨hk.1.2, ⟨hk.1.1.1.2, hk.2⟩⟩⟩)), (by (with_reducible repeat (first | apply Kd.R_alloc | apply Kd.R_drewN | apply Kd.R_drew)); exact Kd.R_mono HO_102001.out (fun _ hk => ⟨hk.2, ⟨hk.1.1, hk.1.2⟩⟩)), (by (with_reducible repeat (first | apply Kd.R_alloc | apply Kd.R_drewN | apply Kd.R_drew)); exact Kd.R_mono HO_112001.out (fun _ hk => ⟨hk.2, ⟨hk.1.2.1, ⟨hk.1.1, hk.1.2.2⟩⟩⟩)), (by (with_reducible repeat (first | apply Kd.R_alloc | apply Kd.R_drewN | apply Kd.R_drew)); exact Kd.R_mono HO_38.out (fun _ hk => ⟨hk.2, ⟨hk.1.1, hk.1.2⟩⟩)), (pl_ BK101), (pl_ BK102), (pl_ BK111), (pl_ BK118), (pl_ BK125), GW125.out, GE125.out, NB101_125.out, NB125_101.out, NB102_125.out, NB125_102.out, NB111_125.out, NB125_111.out, NB118_125.out, NB125_118.out, (bl_ HB)⟩)
               rintro ⟨v122, gb125⟩ w88 ⟨hS_, h0_, h1_, h2_, h3_, h4_, h5_, h6_, h7_, h8_, h9_, h10_, h11_, h12_, h13_, h14_, h15_, h16_, h17_, h18_, h19_⟩
               have n0_ : Aside0 (Kd.R k62 62 w88 w.heap.size (fun k_ => some k_ ≠ (.slice (some ad117) t104.length co11 : Value).ownBlock ∧ some k_ ≠ (u112001 : Value).ownBlock ∧ some k_ ≠ (.slice (some ad117) t104.length co11 : Value).ownBlock ∧ k_ ≠ gb118) v122 t121) := ⟨h0_⟩
               have n1_ : Aside0 (Kd.R k62 62 w88 w.heap.size (fun k_ => some k_ ≠ (v122 : Value).ownBlock ∧ some k_ ≠ (u112001 : Value).ownBlock ∧ k_ ≠ gb118) (.slice (some ad117) t104.length co11) t104) := ⟨h1_⟩
               have n2_ : Aside0 (Kd.R k62 62 w88 w.heap.size (fun k_ => some k_ ≠ (v122 : Value).ownBlock ∧ some k_ ≠ (.slice (some ad117) t104.length co11 : Value).ownBlock ∧ some k_ ≠ (.slice (some ad117) t104.length co11 : Value).ownBlock ∧ k_ ≠ gb118) u112001 x112001_2) := ⟨h2_⟩
               have n3_ : Aside0 (Kd.R k62 62 w88 w.heap.size (fun k_ => some k_ ≠ (v122 : Value).ownBlock ∧ some k_ ≠ (u112001 : Value).ownBlock ∧ k_ ≠ gb118) (.slice (some ad117) t104.length co11) t104) := ⟨h3_⟩
               have n4_ : Aside0 (w88.heap[gb101]? = some (.cells #[.int .i64 t103, .slice (some ad117) t104.length co11] 43 (0, 0))) := ⟨h4_⟩
               have n5_ : Aside0 (w88.heap[gb102]? = some (.cells #[.int .i64 x103000_2, .slice none 0 0] 43 (0, 0))) := ⟨h5_⟩
               have n6_ : Aside0 (w88.heap[gb111]? = some (.cells #[.int .i64 x112000_2, u112001] 43 (0, 0))) := ⟨h6_⟩
               have n7_ : Aside0 (w88.heap[gb118]? = some (.cells #[.int .i64 ((rd_T62 t104 x40_2).f0), .int .i64 ((rd_T62 t104 x40_2).f1)] 62 (0, 0))) := ⟨h7_⟩
               have n8_ : Aside0 (w88.heap[gb125]? = some (.cells #[.int .i64 0, .slice none 0 0] 43 (0, 0))) := ⟨h8_⟩
               have n9_ : Aside0 (w.heap.size ≤ gb125) := ⟨h9_⟩
               have n10_ : Aside0 (w.heap.size ≤ gb125) := ⟨h10_⟩
               have n11_ : Aside0 (gb101 ≠ gb125) := ⟨h11_⟩
               have n12_ : Aside0 (gb125 ≠ gb101) := ⟨h12_⟩
               have n13_ : Aside0 (gb102 ≠ gb125) := ⟨h13_⟩
               have n14_ : Aside0 (gb125 ≠ gb102) := ⟨h14_⟩
               have n15_ : Aside0 (gb111 ≠ gb125) := ⟨h15_⟩
               have n16_ : Aside0 (gb125 ≠ gb111) := ⟨h16_⟩
               have n17_ : Aside0 (gb118 ≠ gb125) := ⟨h17_⟩
               have n18_ : Aside0 (gb125 ≠ gb118) := ⟨h18_⟩
               have n19_ : Aside0 (Below w.heap.size w w88) := ⟨h19_⟩
               clear HO_38 HO_102001 HO_112001 BK101 BK102 BK111 BK118 HB h0_ h1_ h2_ h3_ h4_ h5_ h6_ h7_ h8_ h9_ h10_ h11_ h12_ h13_ h14_ h15_ h16_ h17_ h18_ h19_
               have HO123 := n0_
               have HO_102001 := n1_
               have HO_112001 := n2_
               have HO_38 := n3_
               have BK101 := n4_
               have BK102 := n5_
               have BK111 := n6_
               have BK118 := n7_
               have BK125 := n8_
               have GW125 := n9_
               have GE125 := n10_
               have NB101_125 := n11_
               have NB125_101 := n12_
               have NB102_125 := n13_
               have NB125_102 := n14_
               have NB111_125 := n15_
               have NB125_111 := n16_
               have NB118_125 := n17_
               have NB125_118 := n18_
               have HB := n19_
               clear n0_ n1_ n2_ n3_ n4_ n5_ n6_ n7_ n8_ n9_ n10_ n11_ n12_ n13_ n14_ n15_ n16_ n17_ n18_ n19_
               have hHeld : w88.cell? ⟨gb118, 0, none⟩ = some (.int .i64 ((rd_T62 t104 x40_2).f0)) ∧ w88.cell? ⟨gb118, 1, none⟩ = some (.int .i64 ((rd_T62 t104 x40_2).f1)) ∧ w88.cell? (ad119.add ((((rd_T62 t104 x40_2).f0)).toNat * 2)) = some (.int .i64 ((rd_T43 l1 ((rd_T62 t104 x40_2).f0)).f0)) ∧ w88.cell? ⟨(ad119.add ((((rd_T62 t104 x40_2).f0)).toNat * 2)).block, (ad119.add ((((rd_T62 t104 x40_2).f0)).toNat * 2)).off + 1, none⟩ = some (.slice A119_1 ((rd_T43 l1 ((rd_T62 t104 x40_2).f0)).f1).length c119_1) := hS_
               obtain ⟨Ao90, co90, eo90⟩ := Kd.R_slice HO123.out
               (first | subst eo90 | (injection eo90 with f1_ f2_ f3_; have f4_ := f1_.symm; have f5_ := f3_.symm; clear f1_ f2_ f3_; subst f4_; subst f5_))
               refine norm_ (a' := ?_) ?_ ?_
               rotate_left
               ·simp only [putAll, Act.put, List.setIfInBounds_toArray, List.set_cons_zero, List.set_cons_succ]
                rfl
               refine one_ (i := 12) (N := none) #[true, true, true, true, true, true, true, true, true, true, true, true, true, false] rfl rfl (one_of HT_.out (by kernel_rfl)) (by decide) (fun K hK => ?_)
               have hs89 : w88.cell? ⟨gb125, 0, none⟩ = some (.int .i64 0) := (blk_cell BK125.out 0).trans rfl
               have hfs89 := blk_frozen BK125.out 0
               have hns89_0 := NB101_125.out
               have hns89_1 := NB102_125.out
               have hns89_2 := NB111_125.out
               have hns89_3 := NB118_125.out
               have hms89_0 := NB125_101.out
               have hms89_1 := NB125_102.out
               have hms89_2 := NB125_111.out
               have hms89_3 := NB125_118.out
               have hs91 : w88.cell? ⟨gb125, 1, none⟩ = some (.slice none 0 0) := (blk_cell BK125.out 1).trans rfl
               have hfs91 := blk_frozen BK125.out 1
               have hns91_0 := NB101_125.out
               have hns91_1 := NB102_125.out
               have hns91_2 := NB111_125.out
               have hns91_3 := NB118_125.out
               have hms91_0 := NB125_101.out
               have hms91_1 := NB125_102.out
               have hms91_2 := NB125_111.out
               have hms91_3 := NB125_118.out
               refine skip_ (w1 := ?_) (by rfl) rfl ?_ ?_
               rotate_left
               ·go_simp
                rfl
               refine hK.out _ _ ⟨((cell_far (p := ⟨gb125, _, none⟩) NB118_125.out _).trans (((cell_far (p := ⟨gb125, _, none⟩) NB118_125.out _).trans (hHeld.1)))), ((cell_far (p := ⟨gb125, _, none⟩) NB118_125.out _).trans (((cell_far (p := ⟨gb125, _, none⟩) NB118_125.out _).trans (hHeld.2.1)))), ((cell_far (p := ⟨gb125, _, none⟩) (by first | exact Nat.ne_of_lt (Nat.lt_of_lt_of_le (by have := World.block_lt_of_cell? _ _ hw119_0; first | rwa [add_block] at this | exact this) GW125.out) | (rw [add_block]; exact Nat.ne_of_lt (Nat.lt_of_lt_of_le (by have := World.block_lt_of_cell? _ _ hw119_0; first | rwa [add_block] at this | exact this) GW125.out)) | (show (Addr.add _ _).block ≠ _; rw [add_block]; exact Nat.ne_of_lt (Nat.lt_of_lt_of_le (by have := World.block_lt_of_cell? _ _ hw119_0; first | rwa [add_block] at this | exact this) GW125.out)) | (dsimp only; exact Nat.ne_of_lt (Nat.lt_of_lt_of_le (by have := World.block_lt_of_cell? _ _ hw119_0; first | rwa [add_block] at this | exact this) GW125.out))) _).trans (((cell_far (p := ⟨gb125, _, none⟩) (by first | exact Nat.ne_of_lt (Nat.lt_of_lt_of_le (by have := World.block_lt_of_cell? _ _ hw119_0; first | rwa [add_block] at this | exact this) GW125.out) | (rw [add_block]; exact Nat.ne_of_lt (Nat.lt_of_lt_of_le (by have := World.block_lt_of_cell? _ _ hw119_0; first | rwa [add_block] at this | exact this) GW125.out)) | (show (Addr.add _ _).block ≠ _; rw [add_block]; exact Nat.ne_of_lt (Nat.lt_of_lt_of_le (by have := World.block_lt_of_cell? _ _ hw119_0; first | rwa [add_block] at this | exact this) GW125.out)) | (dsimp only; exact Nat.ne_of_lt (Nat.lt_of_lt_of_le (by have := World.block_lt_of_cell? _ _ hw119_0; first | rwa [add_block] at this | exact this) GW125.out))) _).trans (hHeld.2.2.1)))), ((cell_far (p := ⟨gb125, _, none⟩) (by first | exact Nat.ne_of_lt (Nat.lt_of_lt_of_le (by have := World.block_lt_of_cell? _ _ hw119_1; first | rwa [add_block] at this | exact this) GW125.out) | (rw [add_block]; exact Nat.ne_of_lt (Nat.lt_of_lt_of_le (by have := World.block_lt_of_cell? _ _ hw119_1; first | rwa [add_block] at this | exact this) GW125.out)) | (show (Addr.add _ _).block ≠ _; rw [add_block]; exact Nat.ne_of_lt (Nat.lt_of_lt_of_le (by have := World.block_lt_of_cell? _ _ hw119_1; first | rwa [add_block] at this | exact this) GW125.out)) | (dsimp only; exact Nat.ne_of_lt (Nat.lt_of_lt_of_le (by have := World.block_lt_of_cell? _ _ hw119_1; first | rwa [add_block] at this | exact this) GW125.out))) _).trans (((cell_far (p := ⟨gb125, _, none⟩) (by first | exact Nat.ne_of_lt (Nat.lt_of_lt_of_le (by have := World.block_lt_of_cell? _ _ hw119_1; first | rwa [add_block] at this | exact this) GW125.out) | (rw [add_block]; exact Nat.ne_of_lt (Nat.lt_of_lt_of_le (by have := World.block_lt_of_cell? _ _ hw119_1; first | rwa [add_block] at this | exact this) GW125.out)) | (show (Addr.add _ _).block ≠ _; rw [add_block]; exact Nat.ne_of_lt (Nat.lt_of_lt_of_le (by have := World.block_lt_of_cell? _ _ hw119_1; first | rwa [add_block] at this | exact this) GW125.out)) | (dsimp only; exact Nat.ne_of_lt (Nat.lt_of_lt_of_le (by have := World.block_lt_of_cell? _ _ hw119_1; first | rwa [add_block] at this | exact this) GW125.out))) _).trans (hHeld.2.2.2))))⟩ (fun hHeld => ?_)
               clear hK K
               refine pure_ (i := 13) (N := some 13) (v := ?_) (a' := ?_) #[true, true, true, true, true, true, true, true, true, true, true, true, true, true] rfl rfl (any_of HT_.out (by kernel_rfl)) (fun _ _ _ h => h) (Or.inl ⟨by rfl, ?_⟩) ?_ ?_
               rotate_left
               ·intro w'
                go_simp
                with_reducible rfl
               rotate_left
               ·simp only [Act.put, List.setIfInBounds_toArray, List.set_cons_zero, List.set_cons_succ, i64_w, i32_w]
                rfl
               refine done_ (done_of HT_.out (by kernel_rfl)) ?_
               have hnb92 := NB111_101.out
               have hnc92 := NB101_111.out
               have hnb93 := NB111_102.out
               have hnc93 := NB102_111.out
               have hnb94 := NB111_125.out
               have hnc94 := NB125_111.out
               have hcz95_0 : w88.cell? ⟨gb111, 0, none⟩ = some (.int .i64 x112000_2) := (blk_cell BK111.out 0).trans rfl
               have hcz95_1 : w88.cell? ⟨gb111, 1, none⟩ = some (u112001) := (blk_cell BK111.out 1).trans rfl
               have hfz95_0 := blk_frozen BK111.out 0
               have hfz95_1 := blk_frozen BK111.out 1
               have hnb96 := NB125_101.out
               have hnc96 := NB101_125.out
               have hnb97 := NB125_102.out
               have hnc97 := NB102_125.out
               have hnb98 := NB125_118.out
               have hnc98 := NB118_125.out
               have hcz99_0 : w88.cell? ⟨gb125, 0, none⟩ = some (.int .i64 0) := (blk_cell BK125.out 0).trans rfl
               have hcz99_1 : w88.cell? ⟨gb125, 1, none⟩ = some (.slice none 0 0) := (blk_cell BK125.out 1).trans rfl
               have hfz99_0 := blk_frozen BK125.out 0
               have hfz99_1 := blk_frozen BK125.out 1
               obtain ⟨Ao100, co100, eo100⟩ := Kd.R_slice HO_112001.out
               subst eo100
               try go_wp2_with (first | ((with_reducible refine gate_callee (f := 46) rfl ?_); refine goesL_ (some 67) rfl rfl Try.func46 (by kernel_rfl) rfl #[.agg #[.int .i64 x112000_2, .slice Ao100 x112001_2.length co100], .agg #[.int .i64 t120, .slice Ao90 t121.length co90]] rfl (by (try simp only [List.map_toArray, List.map_cons, List.map_nil]); first | done | rfl | (simp only [List.length_drop, List.length_take]; rfl)) ?_; (with_reducible refine (level_Max.calls k2 x112000_2 _ _ x112001_2 t120 _ _ t121 t126 t127 t130 _ ?side1 ?side2 ?side3 ?side4 A52.out).mono ?_); (case side1 => refine (Kd.R_reads' (e := 62) (base := w.heap.size) (ok := fun k_ => (some k_ ≠ (.slice Ao90 t121.length co90 : Value).ownBlock ∧ (some k_ ≠ (.slice (some ad117) t104.length co11 : Value).ownBlock ∧ (some k_ ≠ (.slice (some ad117) t104.length co11 : Value).ownBlock ∧ k_ ≠ gb118)))) (n := x112001_2.length) (c := co100) ?_).2.2; exact (by (with_reducible repeat (first | apply Kd.R_alloc | apply Kd.R_drewN | apply Kd.R_drew)); exact (Kd.R_mono (Kd.R_far (p := ⟨gb125, 1, none⟩) (Kd.R_far (p := ⟨gb125, 0, none⟩) (Kd.R_types HO_112001.out BK125.out (by decide)) (fun _ hk => hk.2) (.int .i64 t120)) (fun _ hk => hk.2) (.slice Ao90 t121.length co90)) (fun _ h_ => h_.1)))); (case side2 => exact (Kd.R_reads' HO_112001.out).2.1); (case side3 => refine (Kd.R_reads' (e := 62) (base := w.heap.size) (ok := fun k_ => (some k_ ≠ (.slice (some ad117) t104.length co11 : Value).ownBlock ∧ (some k_ ≠ (.slice Ao100 x112001_2.length co100 : Value).ownBlock ∧ (some k_ ≠ (.slice (some ad117) t104.length co11 : Value).ownBlock ∧ k_ ≠ gb118)))) (n := t121.length) (c := co90) ?_).2.2; exact (by (with_reducible repeat (first | apply Kd.R_alloc | apply Kd.R_drewN | apply Kd.R_drew)); exact (Kd.R_mono (Kd.R_far (p := ⟨gb125, 1, none⟩) (Kd.R_far (p := ⟨gb125, 0, none⟩) (Kd.R_types HO123.out BK125.out (by decide)) (fun _ hk => hk.2) (.int .i64 t120)) (fun _ hk => hk.2) (.slice Ao90 t121.length co90)) (fun _ h_ => h_.1)))); (case side4 => exact (Kd.R_reads' HO123.out).2.1); rintro e w101 ⟨v128, rfl, ho0, hb⟩; refine ⟨_, rfl, ?_⟩; have HO129 := Aside0.mk (Kd.R_lower (Kd.R_newB (Kd.R_new' (Kd.R_new' (Kd.R_new' (Kd.R_new' ho0 (Kd.R_lt (by (with_reducible repeat (first | apply Kd.R_alloc | apply Kd.R_drewN | apply Kd.R_drew)); exact (Kd.R_mono (Kd.R_far (p := ⟨gb125, 1, none⟩) (Kd.R_far (p := ⟨gb125, 0, none⟩) (Kd.R_types HO_38.out BK125.out (by decide)) (fun _ hk => hk.2) (.int .i64 t120)) (fun _ hk => hk.2) (.slice Ao90 t121.length co90)) (fun _ h_ => h_.1))))) (Kd.R_lt (by (with_reducible repeat (first | apply Kd.R_alloc | apply Kd.R_drewN | apply Kd.R_drew)); exact (Kd.R_mono (Kd.R_far (p := ⟨gb125, 1, none⟩) (Kd.R_far (p := ⟨gb125, 0, none⟩) (Kd.R_types HO_102001.out BK125.out (by decide)) (fun _ hk => hk.2) (.int .i64 t120)) (fun _ hk => hk.2) (.slice Ao90 t121.length co90)) (fun _ h_ => h_.1))))) (Kd.R_lt (by (with_reducible repeat (first | apply Kd.R_alloc | apply Kd.R_drewN | apply Kd.R_drew)); exact (Kd.R_mono (Kd.R_far (p := ⟨gb125, 1, none⟩) (Kd.R_far (p := ⟨gb125, 0, none⟩) (Kd.R_types HO_112001.out BK125.out (by decide)) (fun _ hk => hk.2) (.int .i64 t120)) (fun _ hk => hk.2) (.slice Ao90 t121.length co90)) (fun _ h_ => h_.1))))) (Kd.R_lt (by (with_reducible repeat (first | apply Kd.R_alloc | apply Kd.R_drewN | apply Kd.R_drew)); exact (Kd.R_mono (Kd.R_far (p := ⟨gb125, 1, none⟩) (Kd.R_far (p := ⟨gb125, 0, none⟩) (Kd.R_types HO123.out BK125.out (by decide)) (fun _ hk => hk.2) (.int .i64 t120)) (fun _ hk => hk.2) (.slice Ao90 t121.length co90)) (fun _ h_ => h_.1))))) (g := gb118) (o := .cells #[.int .i64 ((rd_T62 t104 x40_2).f0), .int .i64 ((rd_T62 t104 x40_2).f1)] 62 (0, 0)) (pf_ BK118)) (below_size (bl_ HB))); replace HO_38 := Aside0.mk (Kd.R_elder' (by (with_reducible repeat (first | apply Kd.R_alloc | apply Kd.R_drewN | apply Kd.R_drew)); exact (Kd.R_mono (Kd.R_far (p := ⟨gb125, 1, none⟩) (Kd.R_far (p := ⟨gb125, 0, none⟩) (Kd.R_types HO_38.out BK125.out (by decide)) (fun _ hk => hk.2) (.int .i64 t120)) (fun _ hk => hk.2) (.slice Ao90 t121.length co90)) (fun _ h_ => h_.1))) (Kd.R_base ho0) hb); replace HO_102001 := Aside0.mk (Kd.R_elder' (by (with_reducible repeat (first | apply Kd.R_alloc | apply Kd.R_drewN | apply Kd.R_drew)); exact (Kd.R_mono (Kd.R_far (p := ⟨gb125, 1, none⟩) (Kd.R_far (p := ⟨gb125, 0, none⟩) (Kd.R_types HO_102001.out BK125.out (by decide)) (fun _ hk => hk.2) (.int .i64 t120)) (fun _ hk => hk.2) (.slice Ao90 t121.length co90)) (fun _ h_ => h_.1))) (Kd.R_base ho0) hb); replace HO_112001 := Aside0.mk (Kd.R_elder' (by (with_reducible repeat (first | apply Kd.R_alloc | apply Kd.R_drewN | apply Kd.R_drew)); exact (Kd.R_mono (Kd.R_far (p := ⟨gb125, 1, none⟩) (Kd.R_far (p := ⟨gb125, 0, none⟩) (Kd.R_types HO_112001.out BK125.out (by decide)) (fun _ hk => hk.2) (.int .i64 t120)) (fun _ hk => hk.2) (.slice Ao90 t121.length co90)) (fun _ h_ => h_.1))) (Kd.R_base ho0) hb); replace HO123 := Aside0.mk (Kd.R_elder' (by (with_reducible repeat (first | apply Kd.R_alloc | apply Kd.R_drewN | apply Kd.R_drew)); exact (Kd.R_mono (Kd.R_far (p := ⟨gb125, 1, none⟩) (Kd.R_far (p := ⟨gb125, 0, none⟩) (Kd.R_types HO123.out BK125.out (by decide)) (fun _ hk => hk.2) (.int .i64 t120)) (fun _ hk => hk.2) (.slice Ao90 t121.length co90)) (fun _ h_ => h_.1))) (Kd.R_base ho0) hb); replace BK101 := Aside0.mk (blk_below (pf_ BK101) hb); replace BK102 := Aside0.mk (blk_below (pf_ BK102) hb); replace BK111 := Aside0.mk (blk_below (pf_ BK111) hb); replace BK118 := Aside0.mk (blk_below (pf_ BK118) hb); replace BK125 := Aside0.mk (blk_below (g := gb125) (o := .cells #[.int .i64 t120, .slice Ao90 t121.length co90] 43 (0, 0)) (by (with_reducible repeat (first | refine blk_drewN ?_ _ | refine blk_drew ?_ | refine blk_alloc ?_ _)); refine blk_put (cs := #[.int .i64 t120, .slice none 0 0]) ?_ 1 _ rfl; (with_reducible repeat (first | refine blk_drewN ?_ _ | refine blk_drew ?_ | refine blk_alloc ?_ _)); refine blk_put (cs := #[.int .i64 0, .slice none 0 0]) ?_ 0 _ rfl; (with_reducible repeat (first | refine blk_drewN ?_ _ | refine blk_drew ?_ | refine blk_alloc ?_ _)); exact BK125.out) hb); replace HB := hs_ HB hb; (try clear hb); (try clear hb2); (try clear hk); (try clear hi); (try clear ho0); have hcz102_0 : w101.cell? ⟨gb111, 0, none⟩ = some (.int .i64 x112000_2) := (blk_cell BK111.out 0).trans rfl; have hcz102_1 : w101.cell? ⟨gb111, 1, none⟩ = some (.slice Ao100 x112001_2.length co100) := (blk_cell BK111.out 1).trans rfl; have hfz102_0 := blk_frozen BK111.out 0; have hfz102_1 := blk_frozen BK111.out 1; obtain ⟨Ao103, co103, eo103⟩ := Kd.R_slice HO129.out; subst eo103; have hnb104 := NB102_101.out; have hnc104 := NB101_102.out; have hcz105_0 : w101.cell? ⟨gb102, 0, none⟩ = some (.int .i64 x103000_2) := (blk_cell BK102.out 0).trans rfl; have hcz105_1 : w101.cell? ⟨gb102, 1, none⟩ = some (.slice none 0 0) := (blk_cell BK102.out 1).trans rfl; have hfz105_0 := blk_frozen BK102.out 0; have hfz105_1 := blk_frozen BK102.out 1))
               refine bodyPost_ret (results_ct rfl _ _ gb102 43 #[.int .i64 0, .slice none 0 0] (0, 0) _ rfl (by (with_reducible repeat (first | refine blk_drewN ?_ _ | refine blk_drew ?_ | refine blk_alloc ?_ _)); refine blk_put (cs := #[.int .i64 0, .slice none 0 0]) ?_ 1 _ rfl; (with_reducible repeat (first | refine blk_drewN ?_ _ | refine blk_drew ?_ | refine blk_alloc ?_ _)); refine blk_put (cs := #[.int .i64 x103000_2, .slice none 0 0]) ?_ 0 _ rfl; (with_reducible repeat (first | refine blk_drewN ?_ _ | refine blk_drew ?_ | refine blk_alloc ?_ _)); refine blk_far ?_ NB102_111.out _; (with_reducible repeat (first | refine blk_drewN ?_ _ | refine blk_drew ?_ | refine blk_alloc ?_ _)); refine blk_far ?_ NB102_111.out _; (with_reducible repeat (first | refine blk_drewN ?_ _ | refine blk_drew ?_ | refine blk_alloc ?_ _)); exact BK102.out) Try.underlying43 rfl (by kernel_rfl)) rfl ?_
               exact ⟨_, by first | rfl | (simp [errW_none, errW_some] <;> rfl) | (simp [*, errW_none, errW_some] <;> rfl), by first | exact Kd.R_nil _ _ _ _ _ | exact Kd.N_nil _ _ _ _ _ | exact Kd.V_nil _ _ _ _ _ | exact Kd.Q_nil _ _ _ _ _ | exact Kd.S_nil _ _ _ _ _, by repeat (first | (with_reducible first | exact HB.out | apply below_alloc | apply pw_below_drewN | apply below_drew1 | refine below_set ?_ GE101.out | refine below_set ?_ GE102.out | refine below_set ?_ GE111.out | refine below_set ?_ GE118.out | refine below_set ?_ GE125.out) | exact HB.out)⟩
             ·rw [if_neg c51] at H
              have c51b0 : (t124 == 0) = false := beq_eq_false_iff_ne.mpr c51
              have c51b1 : (t124 != 0) = true := bne_iff_ne.mpr c51
              simp only [Option.some.injEq, Prod.mk.injEq] at H
              obtain ⟨rfl, rfl, rfl⟩ := H
              have p117 : 0 ≤ (x40_2 : Int) := of_decide_eq_true (by first | (with_reducible assumption) | assumption)
              have q117 : x40_2 < (t104.length : Int) := of_decide_eq_true (by first | (with_reducible assumption) | assumption)
              obtain ⟨ad117, e117, hx117_0, hx117_1⟩ := at_T62 (Kd.R_reads' HO_38.out).2.2 x40_2 p117 q117
              cases e117
              replace p117 := eq_true p117
              replace q117 := eq_true q117
              try go_wp2_with (first | ((with_reducible refine gate_dst (N := 11) rfl ?_); refine box_event ?hg (N := 11) ?hd (cs := #[.int .i64 0, .int .i64 0]) (t := 62) ?hr ?_; (case hd => rfl); (case hg => rfl); (case hr => first | (go_simp; done) | (go_simp; rfl)); intro gb118 hg w106 hbox hb; have BK118 := Aside0.mk (hbox); have GW118 := Aside0.mk ((bs_ hg HB : w.heap.size ≤ gb118)); have GE118 := Aside0.mk ((bs_ hg HB : w.heap.size ≤ gb118)); have NB101_118 := Aside0.mk ((nl_ hg BK101 : gb101 ≠ gb118)); have NB118_101 := Aside0.mk ((ng_ hg BK101 : gb118 ≠ gb101)); have NB102_118 := Aside0.mk ((nl_ hg BK102 : gb102 ≠ gb118)); have NB118_102 := Aside0.mk ((ng_ hg BK102 : gb118 ≠ gb102)); have NB111_118 := Aside0.mk ((nl_ hg BK111 : gb111 ≠ gb118)); have NB118_111 := Aside0.mk ((ng_ hg BK111 : gb118 ≠ gb111)); replace HO_38 := Aside0.mk (Kd.R_below (Kd.R_elderB (rl_ HO_38) gb118 (Nat.le_of_eq hg.symm)) hb); replace HO_102001 := Aside0.mk (Kd.R_below (Kd.R_elderB (rl_ HO_102001) gb118 (Nat.le_of_eq hg.symm)) hb); replace HO_112001 := Aside0.mk (Kd.R_below (Kd.R_elderB (rl_ HO_112001) gb118 (Nat.le_of_eq hg.symm)) hb); replace BK101 := bb_ BK101 hb; replace BK102 := bb_ BK102 hb; replace BK111 := bb_ BK111 hb; replace HB := hs_ HB hb; clear hb hbox hg; have hnb107 := NB118_101.out; have hnc107 := NB101_118.out; have hnb108 := NB118_102.out; have hnc108 := NB102_118.out; have hnb109 := NB118_111.out; have hnc109 := NB111_118.out; have hcz110_0 : w106.cell? ⟨gb118, 0, none⟩ = some (.int .i64 0) := (blk_cell BK118.out 0).trans rfl; have hcz110_1 : w106.cell? ⟨gb118, 1, none⟩ = some (.int .i64 0) := (blk_cell BK118.out 1).trans rfl; have hfz110_0 := blk_frozen BK118.out 0; have hfz110_1 := blk_frozen BK118.out 1))
              have n0_ : Aside0 (Kd.R k62 62 ((w106.setCell ⟨gb118, 0, none⟩ (.int .i64 ((rd_T62 t104 x40_2).f0))).setCell ⟨gb118, 1, none⟩ (.int .i64 ((rd_T62 t104 x40_2).f1))) w.heap.size (fun k_ => some k_ ≠ (u112001 : Value).ownBlock ∧ k_ ≠ gb118) (.slice (some ad117) t104.length co11) t104) := ⟨by (with_reducible repeat (first | apply Kd.R_alloc | apply Kd.R_drewN | apply Kd.R_drew)); exact Kd.R_mono (Kd.R_far (p := ⟨gb118, 1, none⟩) (Kd.R_far (p := ⟨gb118, 0, none⟩) (Kd.R_mono HO_38.out (fun k_ hk => (⟨hk, hk.2⟩ : _ ∧ k_ ≠ gb118))) (fun _ hk => hk.2) (.int .i64 ((rd_T62 t104 x40_2).f0))) (fun _ hk => hk.2) (.int .i64 ((rd_T62 t104 x40_2).f1))) (fun _ hk => ⟨hk.1.1, hk.1.2⟩)⟩
              have n1_ : Aside0 (Kd.R k62 62 ((w106.setCell ⟨gb118, 0, none⟩ (.int .i64 ((rd_T62 t104 x40_2).f0))).setCell ⟨gb118, 1, none⟩ (.int .i64 ((rd_T62 t104 x40_2).f1))) w.heap.size (fun k_ => some k_ ≠ (u112001 : Value).ownBlock ∧ k_ ≠ gb118) (.slice (some ad117) t104.length co11) t104) := ⟨by (with_reducible repeat (first | apply Kd.R_alloc | apply Kd.R_drewN | apply Kd.R_drew)); exact Kd.R_mono (Kd.R_far (p := ⟨gb118, 1, none⟩) (Kd.R_far (p := ⟨gb118, 0, none⟩) (Kd.R_mono HO_102001.out (fun k_ hk => (⟨hk, hk.2⟩ : _ ∧ k_ ≠ gb118))) (fun _ hk => hk.2) (.int .i64 ((rd_T62 t104 x40_2).f0))) (fun _ hk => hk.2) (.int .i64 ((rd_T62 t104 x40_2).f1))) (fun _ hk => ⟨hk.1.1, hk.1.2⟩)⟩
              have n2_ : Aside0 (Kd.R k62 62 ((w106.setCell ⟨gb118, 0, none⟩ (.int .i64 ((rd_T62 t104 x40_2).f0))).setCell ⟨gb118, 1, none⟩ (.int .i64 ((rd_T62 t104 x40_2).f1))) w.heap.size (fun k_ => some k_ ≠ (.slice (some ad117) t104.length co11 : Value).ownBlock ∧ some k_ ≠ (.slice (some ad117) t104.length co11 : Value).ownBlock ∧ k_ ≠ gb118) u112001 x112001_2) := ⟨by (with_reducible repeat (first | apply Kd.R_alloc | apply Kd.R_drewN | apply Kd.R_drew)); exact Kd.R_mono (Kd.R_far (p := ⟨gb118, 1, none⟩) (Kd.R_far (p := ⟨gb118, 0, none⟩) (Kd.R_mono HO_112001.out (fun k_ hk => (⟨hk, hk.2⟩ : _ ∧ k_ ≠ gb118))) (fun _ hk => hk.2) (.int .i64 ((rd_T62 t104 x40_2).f0))) (fun _ hk => hk.2) (.int .i64 ((rd_T62 t104 x40_2).f1))) (fun _ hk => ⟨hk.1.1.1, ⟨hk.1.1.2, hk.1.2⟩⟩)⟩
              have n3_ : Aside0 (((w106.setCell ⟨gb118, 0, none⟩ (.int .i64 ((rd_T62 t104 x40_2).f0))).setCell ⟨gb118, 1, none⟩ (.int .i64 ((rd_T62 t104 x40_2).f1))).heap[gb101]? = some (.cells #[.int .i64 t103, .slice (some ad117) t104.length co11] 43 (0, 0))) := ⟨by (with_reducible repeat (first | refine blk_drewN ?_ _ | refine blk_drew ?_ | refine blk_alloc ?_ _)); refine blk_far ?_ NB101_118.out _; (with_reducible repeat (first | refine blk_drewN ?_ _ | refine blk_drew ?_ | refine blk_alloc ?_ _)); refine blk_far ?_ NB101_118.out _; (with_reducible repeat (first | refine blk_drewN ?_ _ | refine blk_drew ?_ | refine blk_alloc ?_ _)); exact BK101.out⟩
              have n4_ : Aside0 (((w106.setCell ⟨gb118, 0, none⟩ (.int .i64 ((rd_T62 t104 x40_2).f0))).setCell ⟨gb118, 1, none⟩ (.int .i64 ((rd_T62 t104 x40_2).f1))).heap[gb102]? = some (.cells #[.int .i64 x103000_2, .slice none 0 0] 43 (0, 0))) := ⟨by (with_reducible repeat (first | refine blk_drewN ?_ _ | refine blk_drew ?_ | refine blk_alloc ?_ _)); refine blk_far ?_ NB102_118.out _; (with_reducible repeat (first | refine blk_drewN ?_ _ | refine blk_drew ?_ | refine blk_alloc ?_ _)); refine blk_far ?_ NB102_118.out _; (with_reducible repeat (first | refine blk_drewN ?_ _ | refine blk_drew ?_ | refine blk_alloc ?_ _)); exact BK102.out⟩
              have n5_ : Aside0 (((w106.setCell ⟨gb118, 0, none⟩ (.int .i64 ((rd_T62 t104 x40_2).f0))).setCell ⟨gb118, 1, none⟩ (.int .i64 ((rd_T62 t104 x40_2).f1))).heap[gb111]? = some (.cells #[.int .i64 x112000_2, u112001] 43 (0, 0))) := ⟨by (with_reducible repeat (first | refine blk_drewN ?_ _ | refine blk_drew ?_ | refine blk_alloc ?_ _)); refine blk_far ?_ NB111_118.out _; (with_reducible repeat (first | refine blk_drewN ?_ _ | refine blk_drew ?_ | refine blk_alloc ?_ _)); refine blk_far ?_ NB111_118.out _; (with_reducible repeat (first | refine blk_drewN ?_ _ | refine blk_drew ?_ | refine blk_alloc ?_ _)); exact BK111.out⟩
              have n6_ : Aside0 (((w106.setCell ⟨gb118, 0, none⟩ (.int .i64 ((rd_T62 t104 x40_2).f0))).setCell ⟨gb118, 1, none⟩ (.int .i64 ((rd_T62 t104 x40_2).f1))).heap[gb118]? = some (.cells #[.int .i64 ((rd_T62 t104 x40_2).f0), .int .i64 ((rd_T62 t104 x40_2).f1)] 62 (0, 0))) := ⟨by (with_reducible repeat (first | refine blk_drewN ?_ _ | refine blk_drew ?_ | refine blk_alloc ?_ _)); refine blk_put (cs := #[.int .i64 ((rd_T62 t104 x40_2).f0), .int .i64 0]) ?_ 1 _ rfl; (with_reducible repeat (first | refine blk_drewN ?_ _ | refine blk_drew ?_ | refine blk_alloc ?_ _)); refine blk_put (cs := #[.int .i64 0, .int .i64 0]) ?_ 0 _ rfl; (with_reducible repeat (first | refine blk_drewN ?_ _ | refine blk_drew ?_ | refine blk_alloc ?_ _)); exact BK118.out⟩
              have n7_ : Aside0 (Below w.heap.size w ((w106.setCell ⟨gb118, 0, none⟩ (.int .i64 ((rd_T62 t104 x40_2).f0))).setCell ⟨gb118, 1, none⟩ (.int .i64 ((rd_T62 t104 x40_2).f1)))) := ⟨by repeat (first | (with_reducible first | exact HB.out | apply below_alloc | apply pw_below_drewN | apply below_drew1 | refine below_set ?_ GE101.out | refine below_set ?_ GE102.out | refine below_set ?_ GE111.out | refine below_set ?_ GE118.out) | exact HB.out)⟩
              (try clear HO_38); (try clear HO_102001); (try clear HO_112001); (try clear BK101); (try clear BK102); (try clear BK111); (try clear BK118); (try clear HB)
              generalize ((w106.setCell ⟨gb118, 0, none⟩ (.int .i64 ((rd_T62 t104 x40_2).f0))).setCell ⟨gb118, 1, none⟩ (.int .i64 ((rd_T62 t104 x40_2).f1))) = w111 at n0_ n1_ n2_ n3_ n4_ n5_ n6_ n7_ ⊢
              have HO_38 := n0_
              have HO_102001 := n1_
              have HO_112001 := n2_
              have BK101 := n3_
              have BK102 := n4_
              have BK111 := n5_
              have BK118 := n6_
              have HB := n7_
              clear n0_ n1_ n2_ n3_ n4_ n5_ n6_ n7_
              replace HO_38 := Aside0.mk (Kd.R_drew HO_38.out)
              replace HO_102001 := Aside0.mk (Kd.R_drew HO_102001.out)
              replace HO_112001 := Aside0.mk (Kd.R_drew HO_112001.out)
              replace BK101 := Aside0.mk (blk_drew BK101.out)
              replace BK102 := Aside0.mk (blk_drew BK102.out)
              replace BK111 := Aside0.mk (blk_drew BK111.out)
              replace BK118 := Aside0.mk (blk_drew BK118.out)
              replace HB := Aside0.mk (below_drew1 HB.out)
              have p119 : 0 ≤ (((rd_T62 t104 x40_2).f0) : Int) := of_decide_eq_true (by first | (with_reducible assumption) | assumption)
              have q119 : ((rd_T62 t104 x40_2).f0) < (l1.length : Int) := of_decide_eq_true (by first | (with_reducible assumption) | assumption)
              obtain ⟨ad119, A119_1, c119_1, e119, hx119_0, hx119_1, hl119_1, hi119_1⟩ := at_T43 HR1.out ((rd_T62 t104 x40_2).f0) p119 q119
              have hw119_1 := hx119_1
              have hw119_0 := hx119_0
              cases e119
              replace hx119_0 := (HB.out.cell (World.block_lt_of_cell? w _ hx119_0)).trans hx119_0
              replace hx119_1 := (HB.out.cell (World.block_lt_of_cell? w _ hx119_1)).trans hx119_1
              have HR119_1 := Aside0.mk hi119_1
              have HC119_1 := Aside0.mk hl119_1
              clear hi119_1 hl119_1
              replace p119 := eq_true p119
              replace q119 := eq_true q119
              refine start_ (n := 14) (S := fun w' => w'.cell? ⟨gb118, 0, none⟩ = some (.int .i64 ((rd_T62 t104 x40_2).f0)) ∧ w'.cell? ⟨gb118, 1, none⟩ = some (.int .i64 ((rd_T62 t104 x40_2).f1)) ∧ w'.cell? (ad119.add ((((rd_T62 t104 x40_2).f0)).toNat * 2)) = some (.int .i64 ((rd_T43 l1 ((rd_T62 t104 x40_2).f0)).f0)) ∧ w'.cell? ⟨(ad119.add ((((rd_T62 t104 x40_2).f0)).toNat * 2)).block, (ad119.add ((((rd_T62 t104 x40_2).f0)).toNat * 2)).off + 1, none⟩ = some (.slice A119_1 ((rd_T43 l1 ((rd_T62 t104 x40_2).f0)).f1).length c119_1)) (ds := []) #[false, false, false, false, false, false, false, false, false, false, false, false, false, false] (by kernel_rfl) rfl rfl ⟨(blk_cell BK118.out 0).trans rfl, (blk_cell BK118.out 1).trans rfl, ((HB.out.cell (World.block_lt_of_cell? w _ hw119_0)).trans hw119_0), ((HB.out.cell (World.block_lt_of_cell? w _ hw119_1)).trans hw119_1)⟩ (fun hHeld => ?_); refine with_tabW level_Subst.tab16 level_Subst.bits16 (fun HT_ HW_ => ?_)
              generalize w111.drew = w112 at HO_38 HO_102001 HO_112001 BK101 BK102 BK111 BK118 HB HR119_1 hx119_0 hx119_1 hHeld ⊢
              refine pure_ (i := 0) (N := some 51) (v := ?_) (a' := ?_) #[true, false, false, false, false, false, false, false, false, false, false, false, false, false] rfl rfl (any_of HT_.out (by kernel_rfl)) (fun _ _ _ h => h) (Or.inl ⟨by rfl, ?_⟩) ?_ ?_
              rotate_left
              ·intro w'
               go_simp
               with_reducible rfl
              rotate_left
              ·simp only [Act.put, List.setIfInBounds_toArray, List.set_cons_zero, List.set_cons_succ, i64_w, i32_w]
               rfl
              refine pure_ (i := 1) (N := some 52) (v := ?_) (a' := ?_) #[true, true, false, false, false, false, false, false, false, false, false, false, false, false] rfl rfl (any_of HT_.out (by kernel_rfl)) (fun _ _ _ h => h) (Or.inl ⟨by rfl, ?_⟩) ?_ ?_
              rotate_left
              ·intro w'
               go_simp
               with_reducible rfl
              rotate_left
              ·simp only [Act.put, List.setIfInBounds_toArray, List.set_cons_zero, List.set_cons_succ, i64_w, i32_w]
               rfl
              refine pure_ (i := 5) (N := some 56) (v := ?_) (a' := ?_) #[true, true, false, false, false, true, false, false, false, false, false, false, false, false] rfl rfl (any_of HT_.out (by kernel_rfl)) (fun _ _ _ h => h) (Or.inl ⟨by rfl, ?_⟩) ?_ ?_
              rotate_left
              ·intro w'
               go_simp
               with_reducible rfl
              rotate_left
              ·simp only [Act.put, List.setIfInBounds_toArray, List.set_cons_zero, List.set_cons_succ, i64_w, i32_w]
               rfl
              refine take_ (i := 2) (N := some 53) (v := ?_) (a' := ?_) #[true, true, true, false, false, true, false, false, false, false, false, false, false, false] rfl rfl (take_ofW HT_.out HW_.out (by kernel_rfl)) (fun _ _ _ h => h) (Or.inl ⟨by rfl, ?_⟩) hHeld ?_ ?_
              rotate_left
              ·rintro w' ⟨s0, s1, s2, s3⟩
               go_simp
               with_reducible rfl
              rotate_left
              ·simp only [Act.put, List.setIfInBounds_toArray, List.set_cons_zero, List.set_cons_succ, i64_w, i32_w]
               rfl
              refine pure_ (i := 3) (N := some 54) (v := ?_) (a' := ?_) #[true, true, true, true, false, true, false, false, false, false, false, false, false, false] rfl rfl (any_of HT_.out (by kernel_rfl)) (fun _ _ _ h => h) (Or.inl ⟨by rfl, ?_⟩) ?_ ?_
              rotate_left
              ·intro w'
               go_simp
               with_reducible rfl
              rotate_left
              ·simp only [Act.put, List.setIfInBounds_toArray, List.set_cons_zero, List.set_cons_succ, i64_w, i32_w]
               rfl
              refine take_ (i := 4) (N := some 55) (v := ?_) (a' := ?_) #[true, true, true, true, true, true, false, false, false, false, false, false, false, false] rfl rfl (take_ofW HT_.out HW_.out (by kernel_rfl)) (fun _ _ _ h => h) (Or.inl ⟨by rfl, ?_⟩) hHeld ?_ ?_
              rotate_left
              ·rintro w' ⟨s0, s1, s2, s3⟩
               go_simp
               with_reducible rfl
              rotate_left
              ·simp only [Act.put, List.setIfInBounds_toArray, List.set_cons_zero, List.set_cons_succ, i64_w, i32_w]
               rfl
              refine take_ (i := 6) (N := some 57) (v := ?_) (a' := ?_) #[true, true, true, true, true, true, true, false, false, false, false, false, false, false] rfl rfl (take_ofW HT_.out HW_.out (by kernel_rfl)) (fun _ _ _ h => h) (Or.inl ⟨by rfl, ?_⟩) hHeld ?_ ?_
              rotate_left
              ·rintro w' ⟨s0, s1, s2, s3⟩
               go_simp
               with_reducible rfl
              rotate_left
              ·simp only [Act.put, List.setIfInBounds_toArray, List.set_cons_zero, List.set_cons_succ, i64_w, i32_w]
               rfl
              refine join_ (σ := Value × Nat) 2 #[true, true, true, true, true, true, true, true, true, true, true, true, false, false] (fun s_ => [(58, .tuple #[.agg #[.int .i64 t120, s_.1], .int .i64 t124]), (12, .pointer (some ⟨s_.2, 0, none⟩)), (50, .tuple #[.agg #[.int .i64 t120, s_.1], .int .i64 t124]), (59, .agg #[.int .i64 t120, s_.1]), (60, .int .i64 t124)]) (fun s_ w' => (w'.cell? ⟨gb118, 0, none⟩ = some (.int .i64 ((rd_T62 t104 x40_2).f0)) ∧ w'.cell? ⟨gb118, 1, none⟩ = some (.int .i64 ((rd_T62 t104 x40_2).f1)) ∧ w'.cell? (ad119.add ((((rd_T62 t104 x40_2).f0)).toNat * 2)) = some (.int .i64 ((rd_T43 l1 ((rd_T62 t104 x40_2).f0)).f0)) ∧ w'.cell? ⟨(ad119.add ((((rd_T62 t104 x40_2).f0)).toNat * 2)).block, (ad119.add ((((rd_T62 t104 x40_2).f0)).toNat * 2)).off + 1, none⟩ = some (.slice A119_1 ((rd_T43 l1 ((rd_T62 t104 x40_2).f0)).f1).length c119_1)) ∧ (Kd.R k62 62 w' w.heap.size (fun k_ => some k_ ≠ (.slice (some ad117) t104.length co11 : Value).ownBlock ∧ some k_ ≠ (u112001 : Value).ownBlock ∧ some k_ ≠ (.slice (some ad117) t104.length co11 : Value).ownBlock ∧ k_ ≠ gb118) s_.1 t121) ∧ (Kd.R k62 62 w' w.heap.size (fun k_ => some k_ ≠ (s_.1 : Value).ownBlock ∧ some k_ ≠ (u112001 : Value).ownBlock ∧ k_ ≠ gb118) (.slice (some ad117) t104.length co11) t104) ∧ (Kd.R k62 62 w' w.heap.size (fun k_ => some k_ ≠ (s_.1 : Value).ownBlock ∧ some k_ ≠ (.slice (some ad117) t104.length co11 : Value).ownBlock ∧ some k_ ≠ (.slice (some ad117) t104.length co11 : Value).ownBlock ∧ k_ ≠ gb118) u112001 x112001_2) ∧ (Kd.R k62 62 w' w.heap.size (fun k_ => some k_ ≠ (s_.1 : Value).ownBlock ∧ some k_ ≠ (u112001 : Value).ownBlock ∧ k_ ≠ gb118) (.slice (some ad117) t104.length co11) t104) ∧ (w'.heap[gb101]? = some (.cells #[.int .i64 t103, .slice (some ad117) t104.length co11] 43 (0, 0))) ∧ (w'.heap[gb102]? = some (.cells #[.int .i64 x103000_2, .slice none 0 0] 43 (0, 0))) ∧ (w'.heap[gb111]? = some (.cells #[.int .i64 x112000_2, u112001] 43 (0, 0))) ∧ (w'.heap[gb118]? = some (.cells #[.int .i64 ((rd_T62 t104 x40_2).f0), .int .i64 ((rd_T62 t104 x40_2).f1)] 62 (0, 0))) ∧ (w'.heap[s_.2]? = some (.cells #[.int .i64 0, .slice none 0 0] 43 (0, 0))) ∧ (w.heap.size ≤ s_.2) ∧ (w.heap.size ≤ s_.2) ∧ (gb101 ≠ s_.2) ∧ (s_.2 ≠ gb101) ∧ (gb102 ≠ s_.2) ∧ (s_.2 ≠ gb102) ∧ (gb111 ≠ s_.2) ∧ (s_.2 ≠ gb111) ∧ (gb118 ≠ s_.2) ∧ (s_.2 ≠ gb118) ∧ (Below w.heap.size w w')) ?_ ?_
              rotate_left
              ·intro hCont
               refine two_ (i := 7) (j := 11) (Ni := some 58) (Nj := some 12) #[true, true, true, true, true, true, true, true, false, false, false, false, false, false] #[true, true, true, true, true, true, true, false, false, false, false, true, false, false] rfl rfl rfl rfl (two_of HT_.out (by kernel_rfl)) (by decide) (by decide) (fun K hK => ?_) (fun K hK => ?_)
               ·skip
                refine goes_ Try.func45 (by kernel_rfl) rfl #[.agg #[.int .i64 ((rd_T43 l1 ((rd_T62 t104 x40_2).f0)).f0), .slice A119_1 ((rd_T43 l1 ((rd_T62 t104 x40_2).f0)).f1).length c119_1], .int .i64 ((rd_T62 t104 x40_2).f1)] (by rfl) rfl rfl (by (try simp only [List.map_toArray, List.map_cons, List.map_nil]); first | done | rfl | (simp only [List.length_drop, List.length_take]; rfl)) ?_
                with_reducible refine (level_Suc.calls k2 ((rd_T43 l1 ((rd_T62 t104 x40_2).f0)).f0) _ _ ((rd_T43 l1 ((rd_T62 t104 x40_2).f0)).f1) ((rd_T62 t104 x40_2).f1) t120 t121 t124 _ ?side1 ?side2 A50.out).mono ?_
                (case side1 => repeat (first | exact (Kd.C_below HR119_1.out HB.out) | (with_reducible refine Kd.C_alloc ?_ _) | (with_reducible refine Kd.C_drewN ?_ _) | (with_reducible refine Kd.C_drew ?_)))
                (case side2 => exact HC119_1.out)
                rintro e w113 ⟨v122, rfl, ho0, hb⟩
                refine ⟨_, rfl, ?_⟩
                have HO123 := Aside0.mk (Kd.R_lower (Kd.R_newB (Kd.R_new' (Kd.R_new' (Kd.R_new' ho0 (Kd.R_lt (rl_ HO_38))) (Kd.R_lt (rl_ HO_102001))) (Kd.R_lt (rl_ HO_112001))) (g := gb118) (o := .cells #[.int .i64 ((rd_T62 t104 x40_2).f0), .int .i64 ((rd_T62 t104 x40_2).f1)] 62 (0, 0)) (pl_ BK118)) (below_size (bl_ HB)))
                replace HO_38 := Aside0.mk (Kd.R_elder' (rl_ HO_38) (Kd.R_base ho0) hb)
                replace HO_102001 := Aside0.mk (Kd.R_elder' (rl_ HO_102001) (Kd.R_base ho0) hb)
                replace HO_112001 := Aside0.mk (Kd.R_elder' (rl_ HO_112001) (Kd.R_base ho0) hb)
                replace BK101 := bb_ BK101 hb
                replace BK102 := bb_ BK102 hb
                replace BK111 := bb_ BK111 hb
                replace BK118 := bb_ BK118 hb
                replace HB := hs_ HB hb
                (try clear hb); (try clear hb2); (try clear hk); (try clear hi); (try clear ho0)
                refine hK.out _ _ ⟨(blk_cell BK118.out 0).trans rfl, (blk_cell BK118.out 1).trans rfl, ((HB.out.cell (World.block_lt_of_cell? w _ hw119_0)).trans hw119_0), ((HB.out.cell (World.block_lt_of_cell? w _ hw119_1)).trans hw119_1)⟩ (fun hHeld => ?_)
                clear hK K
                refine norm_ (a' := ?_) ?_ ?_
                rotate_left
                ·show Act.put _ (some 58) _ = _
                 simp only [Act.put, List.setIfInBounds_toArray, List.set_cons_zero, List.set_cons_succ, i64_w, i32_w]
                 rfl
                refine pure_ (i := 8) (N := some 50) (v := ?_) (a' := ?_) #[true, true, true, true, true, true, true, true, true, false, false, false, false, false] rfl rfl (any_of HT_.out (by kernel_rfl)) (fun _ _ _ h => h) (Or.inl ⟨by rfl, ?_⟩) ?_ ?_
                rotate_left
                ·intro w'
                 go_simp
                 with_reducible rfl
                rotate_left
                ·simp only [Act.put, List.setIfInBounds_toArray, List.set_cons_zero, List.set_cons_succ, i64_w, i32_w]
                 rfl
                refine pure_ (i := 9) (N := some 59) (v := ?_) (a' := ?_) #[true, true, true, true, true, true, true, true, true, true, false, false, false, false] rfl rfl (any_of HT_.out (by kernel_rfl)) (fun _ _ _ h => h) (Or.inl ⟨by rfl, ?_⟩) ?_ ?_
                rotate_left
                ·intro w'
                 go_simp
                 with_reducible rfl
                rotate_left
                ·simp only [Act.put, List.setIfInBounds_toArray, List.set_cons_zero, List.set_cons_succ, i64_w, i32_w]
                 rfl
                refine pure_ (i := 10) (N := some 60) (v := ?_) (a' := ?_) #[true, true, true, true, true, true, true, true, true, true, true, false, false, false] rfl rfl (any_of HT_.out (by kernel_rfl)) (fun _ _ _ h => h) (Or.inl ⟨by rfl, ?_⟩) ?_ ?_
                rotate_left
                ·intro w'
                 go_simp
                 with_reducible rfl
                rotate_left
                ·simp only [Act.put, List.setIfInBounds_toArray, List.set_cons_zero, List.set_cons_succ, i64_w, i32_w]
                 rfl
                refine one_ (i := 11) (N := some 12) #[true, true, true, true, true, true, true, true, true, true, true, true, false, false] rfl rfl (one_of HT_.out (by kernel_rfl)) (by decide) (fun K hK => ?_)
                refine box_step ?hg (N := 12) ?hd (cs := #[.int .i64 0, .slice none 0 0]) (t := 43) ?hr ?_; (case hd => rfl); (case hg => rfl); (case hr => first | (go_simp; done) | (go_simp; rfl))
                intro gb125 hg w114 hbox hb
                have BK125 := Aside0.mk (hbox)
                have GW125 := Aside0.mk ((bs_ hg HB : w.heap.size ≤ gb125))
                have GE125 := Aside0.mk ((bs_ hg HB : w.heap.size ≤ gb125))
                have NB101_125 := Aside0.mk ((nl_ hg BK101 : gb101 ≠ gb125))
                have NB125_101 := Aside0.mk ((ng_ hg BK101 : gb125 ≠ gb101))
                have NB102_125 := Aside0.mk ((nl_ hg BK102 : gb102 ≠ gb125))
                have NB125_102 := Aside0.mk ((ng_ hg BK102 : gb125 ≠ gb102))
                have NB111_125 := Aside0.mk ((nl_ hg BK111 : gb111 ≠ gb125))
                have NB125_111 := Aside0.mk ((ng_ hg BK111 : gb125 ≠ gb111))
                have NB118_125 := Aside0.mk ((nl_ hg BK118 : gb118 ≠ gb125))
                have NB125_118 := Aside0.mk ((ng_ hg BK118 : gb125 ≠ gb118))
                replace HO_38 := Aside0.mk (Kd.R_below (rl_ HO_38) hb)
                replace HO_102001 := Aside0.mk (Kd.R_below (rl_ HO_102001) hb)
                replace HO_112001 := Aside0.mk (Kd.R_below (rl_ HO_112001) hb)
                replace HO123 := Aside0.mk (Kd.R_below (rl_ HO123) hb)
                replace BK101 := bb_ BK101 hb
                replace BK102 := bb_ BK102 hb
                replace BK111 := bb_ BK111 hb
                replace BK118 := bb_ BK118 hb
                replace HB := hs_ HB hb
                clear hb hbox hg
                refine hK.out _ _ ⟨(blk_cell BK118.out 0).trans rfl, (blk_cell BK118.out 1).trans rfl, ((HB.out.cell (World.block_lt_of_cell? w _ hw119_0)).trans hw119_0), ((HB.out.cell (World.block_lt_of_cell? w _ hw119_1)).trans hw119_1)⟩ (fun hHeld => ?_)
                clear hK K
                refine norm_ (a' := ?_) ?_ ?_
                rotate_left
                ·show Act.put _ (some 12) _ = _
                 simp only [Act.put, List.setIfInBounds_toArray, List.set_cons_zero, List.set_cons_succ, i64_w, i32_w]
                 rfl
                exact norm_ (by simp only [putAll, Act.put, List.setIfInBounds_toArray, List.set_cons_zero, List.set_cons_succ]) (hCont (v122, gb125) _ ⟨hHeld, (by (with_reducible repeat (first | apply Kd.R_alloc | apply Kd.R_drewN | apply Kd.R_drew)); exact Kd.R_mono HO123.out (fun _ hk => ⟨hk.1.1.2, ⟨hk.1.2, ⟨hk.1.1.1.2, hk.2⟩⟩⟩)), (by (with_reducible repeat (first | apply Kd.R_alloc | apply Kd.R_drewN | apply Kd.R_drew)); exact Kd.R_mono HO_102001.out (fun _ hk => ⟨hk.2, ⟨hk.1.1, hk.1.2⟩⟩)), (by (with_reducible repeat (first | apply Kd.R_alloc | apply Kd.R_drewN | apply Kd.R_drew)); exact Kd.R_mono HO_112001.out (fun _ hk => ⟨hk.2, ⟨hk.1.2.1, ⟨hk.1.1, hk.1.2.2⟩⟩⟩)), (by (with_reducible repeat (first | apply Kd.R_alloc | apply Kd.R_drewN | apply Kd.R_drew)); exact Kd.R_mono HO_38.out (fun _ hk => ⟨hk.2, ⟨hk.1.1, hk.1.2⟩⟩)), (pl_ BK101), (pl_ BK102), (pl_ BK111), (pl_ BK118), (pl_ BK125), GW125.out, GE125.out, NB101_125.out, NB125_101.out, NB102_125.out, NB125_102.out, NB111_125.out, NB125_111.out, NB118_125.out, NB125_118.out, (bl_ HB)⟩)
               ·skip
                refine box_step ?hg (N := 12) ?hd (cs := #[.int .i64 0, .slice none 0 0]) (t := 43) ?hr ?_; (case hd => rfl); (case hg => rfl); (case hr => first | (go_simp; done) | (go_simp; rfl))
                intro gb125 hg w113 hbox hb
                have BK125 := Aside0.mk (hbox)
                have GW125 := Aside0.mk ((bs_ hg HB : w.heap.size ≤ gb125))
                have GE125 := Aside0.mk ((bs_ hg HB : w.heap.size ≤ gb125))
                have NB101_125 := Aside0.mk ((nl_ hg BK101 : gb101 ≠ gb125))
                have NB125_101 := Aside0.mk ((ng_ hg BK101 : gb125 ≠ gb101))
                have NB102_125 := Aside0.mk ((nl_ hg BK102 : gb102 ≠ gb125))
                have NB125_102 := Aside0.mk ((ng_ hg BK102 : gb125 ≠ gb102))
                have NB111_125 := Aside0.mk ((nl_ hg BK111 : gb111 ≠ gb125))
                have NB125_111 := Aside0.mk ((ng_ hg BK111 : gb125 ≠ gb111))
                have NB118_125 := Aside0.mk ((nl_ hg BK118 : gb118 ≠ gb125))
                have NB125_118 := Aside0.mk ((ng_ hg BK118 : gb125 ≠ gb118))
                replace HO_38 := Aside0.mk (Kd.R_below (rl_ HO_38) hb)
                replace HO_102001 := Aside0.mk (Kd.R_below (rl_ HO_102001) hb)
                replace HO_112001 := Aside0.mk (Kd.R_below (rl_ HO_112001) hb)
                replace BK101 := bb_ BK101 hb
                replace BK102 := bb_ BK102 hb
                replace BK111 := bb_ BK111 hb
                replace BK118 := bb_ BK118 hb
                replace HB := hs_ HB hb
                clear hb hbox hg
                refine hK.out _ _ ⟨(blk_cell BK118.out 0).trans rfl, (blk_cell BK118.out 1).trans rfl, ((HB.out.cell (World.block_lt_of_cell? w _ hw119_0)).trans hw119_0), ((HB.out.cell (World.block_lt_of_cell? w _ hw119_1)).trans hw119_1)⟩ (fun hHeld => ?_)
                clear hK K
                refine norm_ (a' := ?_) ?_ ?_
                rotate_left
                ·show Act.put _ (some 12) _ = _
                 simp only [Act.put, List.setIfInBounds_toArray, List.set_cons_zero, List.set_cons_succ, i64_w, i32_w]
                 rfl
                refine one_ (i := 7) (N := some 58) #[true, true, true, true, true, true, true, true, false, false, false, true, false, false] rfl rfl (one_of HT_.out (by kernel_rfl)) (by decide) (fun K hK => ?_)
                refine goes_ Try.func45 (by kernel_rfl) rfl #[.agg #[.int .i64 ((rd_T43 l1 ((rd_T62 t104 x40_2).f0)).f0), .slice A119_1 ((rd_T43 l1 ((rd_T62 t104 x40_2).f0)).f1).length c119_1], .int .i64 ((rd_T62 t104 x40_2).f1)] (by rfl) rfl rfl (by (try simp only [List.map_toArray, List.map_cons, List.map_nil]); first | done | rfl | (simp only [List.length_drop, List.length_take]; rfl)) ?_
                with_reducible refine (level_Suc.calls k2 ((rd_T43 l1 ((rd_T62 t104 x40_2).f0)).f0) _ _ ((rd_T43 l1 ((rd_T62 t104 x40_2).f0)).f1) ((rd_T62 t104 x40_2).f1) t120 t121 t124 _ ?side1 ?side2 A50.out).mono ?_
                (case side1 => repeat (first | exact (Kd.C_below HR119_1.out HB.out) | (with_reducible refine Kd.C_alloc ?_ _) | (with_reducible refine Kd.C_drewN ?_ _) | (with_reducible refine Kd.C_drew ?_)))
                (case side2 => exact HC119_1.out)
                rintro e w114 ⟨v122, rfl, ho0, hb⟩
                refine ⟨_, rfl, ?_⟩
                have HO123 := Aside0.mk (Kd.R_lower (Kd.R_newB (Kd.R_new' (Kd.R_new' (Kd.R_new' ho0 (Kd.R_lt (rl_ HO_38))) (Kd.R_lt (rl_ HO_102001))) (Kd.R_lt (rl_ HO_112001))) (g := gb118) (o := .cells #[.int .i64 ((rd_T62 t104 x40_2).f0), .int .i64 ((rd_T62 t104 x40_2).f1)] 62 (0, 0)) (pl_ BK118)) (below_size (bl_ HB)))
                replace HO_38 := Aside0.mk (Kd.R_elder' (rl_ HO_38) (Kd.R_base ho0) hb)
                replace HO_102001 := Aside0.mk (Kd.R_elder' (rl_ HO_102001) (Kd.R_base ho0) hb)
                replace HO_112001 := Aside0.mk (Kd.R_elder' (rl_ HO_112001) (Kd.R_base ho0) hb)
                replace BK101 := bb_ BK101 hb
                replace BK102 := bb_ BK102 hb
                replace BK111 := bb_ BK111 hb
                replace BK118 := bb_ BK118 hb
                replace BK125 := bb_ BK125 hb
                replace HB := hs_ HB hb
                (try clear hb); (try clear hb2); (try clear hk); (try clear hi); (try clear ho0)
                refine hK.out _ _ ⟨(blk_cell BK118.out 0).trans rfl, (blk_cell BK118.out 1).trans rfl, ((HB.out.cell (World.block_lt_of_cell? w _ hw119_0)).trans hw119_0), ((HB.out.cell (World.block_lt_of_cell? w _ hw119_1)).trans hw119_1)⟩ (fun hHeld => ?_)
                clear hK K
                refine norm_ (a' := ?_) ?_ ?_
                rotate_left
                ·show Act.put _ (some 58) _ = _
                 simp only [Act.put, List.setIfInBounds_toArray, List.set_cons_zero, List.set_cons_succ, i64_w, i32_w]
                 rfl
                refine pure_ (i := 8) (N := some 50) (v := ?_) (a' := ?_) #[true, true, true, true, true, true, true, true, true, false, false, true, false, false] rfl rfl (any_of HT_.out (by kernel_rfl)) (fun _ _ _ h => h) (Or.inl ⟨by rfl, ?_⟩) ?_ ?_
                rotate_left
                ·intro w'
                 go_simp
                 with_reducible rfl
                rotate_left
                ·simp only [Act.put, List.setIfInBounds_toArray, List.set_cons_zero, List.set_cons_succ, i64_w, i32_w]
                 rfl
                refine pure_ (i := 9) (N := some 59) (v := ?_) (a' := ?_) #[true, true, true, true, true, true, true, true, true, true, false, true, false, false] rfl rfl (any_of HT_.out (by kernel_rfl)) (fun _ _ _ h => h) (Or.inl ⟨by rfl, ?_⟩) ?_ ?_
                rotate_left
                ·intro w'
                 go_simp
                 with_reducible rfl
                rotate_left
                ·simp only [Act.put, List.setIfInBounds_toArray, List.set_cons_zero, List.set_cons_succ, i64_w, i32_w]
                 rfl
                refine pure_ (i := 10) (N := some 60) (v := ?_) (a' := ?_) #[true, true, true, true, true, true, true, true, true, true, true, true, false, false] rfl rfl (any_of HT_.out (by kernel_rfl)) (fun _ _ _ h => h) (Or.inl ⟨by rfl, ?_⟩) ?_ ?_
                rotate_left
                ·intro w'
                 go_simp
                 with_reducible rfl
                rotate_left
                ·simp only [Act.put, List.setIfInBounds_toArray, List.set_cons_zero, List.set_cons_succ, i64_w, i32_w]
                 rfl
                exact norm_ (by simp only [putAll, Act.put, List.setIfInBounds_toArray, List.set_cons_zero, List.set_cons_succ]) (hCont (v122, gb125) _ ⟨hHeld, (by (with_reducible repeat (first | apply Kd.R_alloc | apply Kd.R_drewN | apply Kd.R_drew)); exact Kd.R_mono HO123.out (fun _ hk => ⟨hk.1.1.2, ⟨hk.1.2, ⟨hk.1.1.1.2, hk.2⟩⟩⟩)), (by (with_reducible repeat (first | apply Kd.R_alloc | apply Kd.R_drewN | apply Kd.R_drew)); exact Kd.R_mono HO_102001.out (fun _ hk => ⟨hk.2, ⟨hk.1.1, hk.1.2⟩⟩)), (by (with_reducible repeat (first | apply Kd.R_alloc | apply Kd.R_drewN | apply Kd.R_drew)); exact Kd.R_mono HO_112001.out (fun _ hk => ⟨hk.2, ⟨hk.1.2.1, ⟨hk.1.1, hk.1.2.2⟩⟩⟩)), (by (with_reducible repeat (first | apply Kd.R_alloc | apply Kd.R_drewN | apply Kd.R_drew)); exact Kd.R_mono HO_38.out (fun _ hk => ⟨hk.2, ⟨hk.1.1, hk.1.2⟩⟩)), (pl_ BK101), (pl_ BK102), (pl_ BK111), (pl_ BK118), (pl_ BK125), GW125.out, GE125.out, NB101_125.out, NB125_101.out, NB102_125.out, NB125_102.out, NB111_125.out, NB125_111.out, NB118_125.out, NB125_118.out, (bl_ HB)⟩)
              rintro ⟨v122, gb125⟩ w115 ⟨hS_, h0_, h1_, h2_, h3_, h4_, h5_, h6_, h7_, h8_, h9_, h10_, h11_, h12_, h13_, h14_, h15_, h16_, h17_, h18_, h19_⟩
              have n0_ : Aside0 (Kd.R k62 62 w115 w.heap.size (fun k_ => some k_ ≠ (.slice (some ad117) t104.length co11 : Value).ownBlock ∧ some k_ ≠ (u112001 : Value).ownBlock ∧ some k_ ≠ (.slice (some ad117) t104.length co11 : Value).ownBlock ∧ k_ ≠ gb118) v122 t121) := ⟨h0_⟩
              have n1_ : Aside0 (Kd.R k62 62 w115 w.heap.size (fun k_ => some k_ ≠ (v122 : Value).ownBlock ∧ some k_ ≠ (u112001 : Value).ownBlock ∧ k_ ≠ gb118) (.slice (some ad117) t104.length co11) t104) := ⟨h1_⟩
              have n2_ : Aside0 (Kd.R k62 62 w115 w.heap.size (fun k_ => some k_ ≠ (v122 : Value).ownBlock ∧ some k_ ≠ (.slice (some ad117) t104.length co11 : Value).ownBlock ∧ some k_ ≠ (.slice (some ad117) t104.length co11 : Value).ownBlock ∧ k_ ≠ gb118) u112001 x112001_2) := ⟨h2_⟩
              have n3_ : Aside0 (Kd.R k62 62 w115 w.heap.size (fun k_ => some k_ ≠ (v122 : Value).ownBlock ∧ some k_ ≠ (u112001 : Value).ownBlock ∧ k_ ≠ gb118) (.slice (some ad117) t104.length co11) t104) := ⟨h3_⟩
              have n4_ : Aside0 (w115.heap[gb101]? = some (.cells #[.int .i64 t103, .slice (some ad117) t104.length co11] 43 (0, 0))) := ⟨h4_⟩
              have n5_ : Aside0 (w115.heap[gb102]? = some (.cells #[.int .i64 x103000_2, .slice none 0 0] 43 (0, 0))) := ⟨h5_⟩
              have n6_ : Aside0 (w115.heap[gb111]? = some (.cells #[.int .i64 x112000_2, u112001] 43 (0, 0))) := ⟨h6_⟩
              have n7_ : Aside0 (w115.heap[gb118]? = some (.cells #[.int .i64 ((rd_T62 t104 x40_2).f0), .int .i64 ((rd_T62 t104 x40_2).f1)] 62 (0, 0))) := ⟨h7_⟩
              have n8_ : Aside0 (w115.heap[gb125]? = some (.cells #[.int .i64 0, .slice none 0 0] 43 (0, 0))) := ⟨h8_⟩
              have n9_ : Aside0 (w.heap.size ≤ gb125) := ⟨h9_⟩
              have n10_ : Aside0 (w.heap.size ≤ gb125) := ⟨h10_⟩
              have n11_ : Aside0 (gb101 ≠ gb125) := ⟨h11_⟩
              have n12_ : Aside0 (gb125 ≠ gb101) := ⟨h12_⟩
              have n13_ : Aside0 (gb102 ≠ gb125) := ⟨h13_⟩
              have n14_ : Aside0 (gb125 ≠ gb102) := ⟨h14_⟩
              have n15_ : Aside0 (gb111 ≠ gb125) := ⟨h15_⟩
              have n16_ : Aside0 (gb125 ≠ gb111) := ⟨h16_⟩
              have n17_ : Aside0 (gb118 ≠ gb125) := ⟨h17_⟩
              have n18_ : Aside0 (gb125 ≠ gb118) := ⟨h18_⟩
              have n19_ : Aside0 (Below w.heap.size w w115) := ⟨h19_⟩
              clear HO_38 HO_102001 HO_112001 BK101 BK102 BK111 BK118 HB h0_ h1_ h2_ h3_ h4_ h5_ h6_ h7_ h8_ h9_ h10_ h11_ h12_ h13_ h14_ h15_ h16_ h17_ h18_ h19_
              have HO123 := n0_
              have HO_102001 := n1_
              have HO_112001 := n2_
              have HO_38 := n3_
              have BK101 := n4_
              have BK102 := n5_
              have BK111 := n6_
              have BK118 := n7_
              have BK125 := n8_
              have GW125 := n9_
              have GE125 := n10_
              have NB101_125 := n11_
              have NB125_101 := n12_
              have NB102_125 := n13_
              have NB125_102 := n14_
              have NB111_125 := n15_
              have NB125_111 := n16_
              have NB118_125 := n17_
              have NB125_118 := n18_
              have HB := n19_
              clear n0_ n1_ n2_ n3_ n4_ n5_ n6_ n7_ n8_ n9_ n10_ n11_ n12_ n13_ n14_ n15_ n16_ n17_ n18_ n19_
              have hHeld : w115.cell? ⟨gb118, 0, none⟩ = some (.int .i64 ((rd_T62 t104 x40_2).f0)) ∧ w115.cell? ⟨gb118, 1, none⟩ = some (.int .i64 ((rd_T62 t104 x40_2).f1)) ∧ w115.cell? (ad119.add ((((rd_T62 t104 x40_2).f0)).toNat * 2)) = some (.int .i64 ((rd_T43 l1 ((rd_T62 t104 x40_2).f0)).f0)) ∧ w115.cell? ⟨(ad119.add ((((rd_T62 t104 x40_2).f0)).toNat * 2)).block, (ad119.add ((((rd_T62 t104 x40_2).f0)).toNat * 2)).off + 1, none⟩ = some (.slice A119_1 ((rd_T43 l1 ((rd_T62 t104 x40_2).f0)).f1).length c119_1) := hS_
              obtain ⟨Ao117, co117, eo117⟩ := Kd.R_slice HO123.out
              (first | subst eo117 | (injection eo117 with f1_ f2_ f3_; have f4_ := f1_.symm; have f5_ := f3_.symm; clear f1_ f2_ f3_; subst f4_; subst f5_))
              refine norm_ (a' := ?_) ?_ ?_
              rotate_left
              ·simp only [putAll, Act.put, List.setIfInBounds_toArray, List.set_cons_zero, List.set_cons_succ]
               rfl
              refine one_ (i := 12) (N := none) #[true, true, true, true, true, true, true, true, true, true, true, true, true, false] rfl rfl (one_of HT_.out (by kernel_rfl)) (by decide) (fun K hK => ?_)
              have hs116 : w115.cell? ⟨gb125, 0, none⟩ = some (.int .i64 0) := (blk_cell BK125.out 0).trans rfl
              have hfs116 := blk_frozen BK125.out 0
              have hns116_0 := NB101_125.out
              have hns116_1 := NB102_125.out
              have hns116_2 := NB111_125.out
              have hns116_3 := NB118_125.out
              have hms116_0 := NB125_101.out
              have hms116_1 := NB125_102.out
              have hms116_2 := NB125_111.out
              have hms116_3 := NB125_118.out
              have hs118 : w115.cell? ⟨gb125, 1, none⟩ = some (.slice none 0 0) := (blk_cell BK125.out 1).trans rfl
              have hfs118 := blk_frozen BK125.out 1
              have hns118_0 := NB101_125.out
              have hns118_1 := NB102_125.out
              have hns118_2 := NB111_125.out
              have hns118_3 := NB118_125.out
              have hms118_0 := NB125_101.out
              have hms118_1 := NB125_102.out
              have hms118_2 := NB125_111.out
              have hms118_3 := NB125_118.out
              refine skip_ (w1 := ?_) (by rfl) rfl ?_ ?_
              rotate_left
              ·go_simp
               rfl
              refine hK.out _ _ ⟨((cell_far (p := ⟨gb125, _, none⟩) NB118_125.out _).trans (((cell_far (p := ⟨gb125, _, none⟩) NB118_125.out _).trans (hHeld.1)))), ((cell_far (p := ⟨gb125, _, none⟩) NB118_125.out _).trans (((cell_far (p := ⟨gb125, _, none⟩) NB118_125.out _).trans (hHeld.2.1)))), ((cell_far (p := ⟨gb125, _, none⟩) (by first | exact Nat.ne_of_lt (Nat.lt_of_lt_of_le (by have := World.block_lt_of_cell? _ _ hw119_0; first | rwa [add_block] at this | exact this) GW125.out) | (rw [add_block]; exact Nat.ne_of_lt (Nat.lt_of_lt_of_le (by have := World.block_lt_of_cell? _ _ hw119_0; first | rwa [add_block] at this | exact this) GW125.out)) | (show (Addr.add _ _).block ≠ _; rw [add_block]; exact Nat.ne_of_lt (Nat.lt_of_lt_of_le (by have := World.block_lt_of_cell? _ _ hw119_0; first | rwa [add_block] at this | exact this) GW125.out)) | (dsimp only; exact Nat.ne_of_lt (Nat.lt_of_lt_of_le (by have := World.block_lt_of_cell? _ _ hw119_0; first | rwa [add_block] at this | exact this) GW125.out))) _).trans (((cell_far (p := ⟨gb125, _, none⟩) (by first | exact Nat.ne_of_lt (Nat.lt_of_lt_of_le (by have := World.block_lt_of_cell? _ _ hw119_0; first | rwa [add_block] at this | exact this) GW125.out) | (rw [add_block]; exact Nat.ne_of_lt (Nat.lt_of_lt_of_le (by have := World.block_lt_of_cell? _ _ hw119_0; first | rwa [add_block] at this | exact this) GW125.out)) | (show (Addr.add _ _).block ≠ _; rw [add_block]; exact Nat.ne_of_lt (Nat.lt_of_lt_of_le (by have := World.block_lt_of_cell? _ _ hw119_0; first | rwa [add_block] at this | exact this) GW125.out)) | (dsimp only; exact Nat.ne_of_lt (Nat.lt_of_lt_of_le (by have := World.block_lt_of_cell? _ _ hw119_0; first | rwa [add_block] at this | exact this) GW125.out))) _).trans (hHeld.2.2.1)))), ((cell_far (p := ⟨gb125, _, none⟩) (by first | exact Nat.ne_of_lt (Nat.lt_of_lt_of_le (by have := World.block_lt_of_cell? _ _ hw119_1; first | rwa [add_block] at this | exact this) GW125.out) | (rw [add_block]; exact Nat.ne_of_lt (Nat.lt_of_lt_of_le (by have := World.block_lt_of_cell? _ _ hw119_1; first | rwa [add_block] at this | exact this) GW125.out)) | (show (Addr.add _ _).block ≠ _; rw [add_block]; exact Nat.ne_of_lt (Nat.lt_of_lt_of_le (by have := World.block_lt_of_cell? _ _ hw119_1; first | rwa [add_block] at this | exact this) GW125.out)) | (dsimp only; exact Nat.ne_of_lt (Nat.lt_of_lt_of_le (by have := World.block_lt_of_cell? _ _ hw119_1; first | rwa [add_block] at this | exact this) GW125.out))) _).trans (((cell_far (p := ⟨gb125, _, none⟩) (by first | exact Nat.ne_of_lt (Nat.lt_of_lt_of_le (by have := World.block_lt_of_cell? _ _ hw119_1; first | rwa [add_block] at this | exact this) GW125.out) | (rw [add_block]; exact Nat.ne_of_lt (Nat.lt_of_lt_of_le (by have := World.block_lt_of_cell? _ _ hw119_1; first | rwa [add_block] at this | exact this) GW125.out)) | (show (Addr.add _ _).block ≠ _; rw [add_block]; exact Nat.ne_of_lt (Nat.lt_of_lt_of_le (by have := World.block_lt_of_cell? _ _ hw119_1; first | rwa [add_block] at this | exact this) GW125.out)) | (dsimp only; exact Nat.ne_of_lt (Nat.lt_of_lt_of_le (by have := World.block_lt_of_cell? _ _ hw119_1; first | rwa [add_block] at this | exact this) GW125.out))) _).trans (hHeld.2.2.2))))⟩ (fun hHeld => ?_)
              clear hK K
              refine pure_ (i := 13) (N := some 13) (v := ?_) (a' := ?_) #[true, true, true, true, true, true, true, true, true, true, true, true, true, true] rfl rfl (any_of HT_.out (by kernel_rfl)) (fun _ _ _ h => h) (Or.inl ⟨by rfl, ?_⟩) ?_ ?_
              rotate_left
              ·intro w'
               go_simp
               with_reducible rfl
              rotate_left
              ·simp only [Act.put, List.setIfInBounds_toArray, List.set_cons_zero, List.set_cons_succ, i64_w, i32_w]
               rfl
              refine done_ (done_of HT_.out (by kernel_rfl)) ?_
              have hnb119 := NB102_101.out
              have hnc119 := NB101_102.out
              have hnb120 := NB102_111.out
              have hnc120 := NB111_102.out
              have hnb121 := NB102_125.out
              have hnc121 := NB125_102.out
              have hcz122_0 : w115.cell? ⟨gb102, 0, none⟩ = some (.int .i64 x103000_2) := (blk_cell BK102.out 0).trans rfl
              have hcz122_1 : w115.cell? ⟨gb102, 1, none⟩ = some (.slice none 0 0) := (blk_cell BK102.out 1).trans rfl
              have hfz122_0 := blk_frozen BK102.out 0
              have hfz122_1 := blk_frozen BK102.out 1
              try go_wp2
              refine bodyPost_ret (results_ct rfl _ _ gb102 43 #[.int .i64 0, .slice none 0 0] (0, 0) _ rfl (by (with_reducible repeat (first | refine blk_drewN ?_ _ | refine blk_drew ?_ | refine blk_alloc ?_ _)); refine blk_put (cs := #[.int .i64 0, .slice none 0 0]) ?_ 1 _ rfl; (with_reducible repeat (first | refine blk_drewN ?_ _ | refine blk_drew ?_ | refine blk_alloc ?_ _)); refine blk_put (cs := #[.int .i64 x103000_2, .slice none 0 0]) ?_ 0 _ rfl; (with_reducible repeat (first | refine blk_drewN ?_ _ | refine blk_drew ?_ | refine blk_alloc ?_ _)); refine blk_far ?_ NB102_125.out _; (with_reducible repeat (first | refine blk_drewN ?_ _ | refine blk_drew ?_ | refine blk_alloc ?_ _)); refine blk_far ?_ NB102_125.out _; (with_reducible repeat (first | refine blk_drewN ?_ _ | refine blk_drew ?_ | refine blk_alloc ?_ _)); exact BK102.out) Try.underlying43 rfl (by kernel_rfl)) rfl ?_
              exact ⟨_, by first | rfl | (simp [errW_none, errW_some] <;> rfl) | (simp [*, errW_none, errW_some] <;> rfl), by first | exact Kd.R_nil _ _ _ _ _ | exact Kd.N_nil _ _ _ _ _ | exact Kd.V_nil _ _ _ _ _ | exact Kd.Q_nil _ _ _ _ _ | exact Kd.S_nil _ _ _ _ _, by repeat (first | (with_reducible first | exact HB.out | apply below_alloc | apply pw_below_drewN | apply below_drew1 | refine below_set ?_ GE101.out | refine below_set ?_ GE102.out | refine below_set ?_ GE111.out | refine below_set ?_ GE118.out | refine below_set ?_ GE125.out) | exact HB.out)⟩
            ·rw [if_neg c49] at H
             exact absurd H (by simp)
           ·rw [if_neg c48] at H
            exact absurd H (by simp)
         ·rw [if_neg c38] at H
          exact absurd H (by simp)
        ·rw [if_neg c37] at H
         exact absurd H (by simp)
       ·rw [if_neg c36] at H
        have c36b0 : decide (x40_2 < (t104.length : Int)) = false := decide_eq_false c36
        clear c36
        replace H := Option.bind_eq_some_iff.mp H
        obtain ⟨⟨t112, t113, t116⟩, A1230, H⟩ := H
        replace H : (some (t112, t113, t116)) = some (r1, r2, r3) := H
        have A123 := Aside0.mk A1230
        clear A1230
        simp only [Option.some.injEq, Prod.mk.injEq] at H
        obtain ⟨rfl, rfl, rfl⟩ := H
        have hnb124 := NB111_101.out
        have hnc124 := NB101_111.out
        have hnb125 := NB111_102.out
        have hnc125 := NB102_111.out
        have hcz126_0 : wr.cell? ⟨gb111, 0, none⟩ = some (.int .i64 x112000_2) := (blk_cell BK111.out 0).trans rfl
        have hcz126_1 : wr.cell? ⟨gb111, 1, none⟩ = some (u112001) := (blk_cell BK111.out 1).trans rfl
        have hfz126_0 := blk_frozen BK111.out 0
        have hfz126_1 := blk_frozen BK111.out 1
        obtain ⟨Ao127, co127, eo127⟩ := Kd.R_slice HO_112001.out
        subst eo127
        go_wp2_with (first | ((with_reducible refine gate_callee (f := 78) rfl ?_); refine goesL_ (some 75) rfl rfl Try.func78 (by kernel_rfl) rfl #[.agg #[.int .i64 x112000_2, .slice Ao127 x112001_2.length co127]] rfl (by (try simp only [List.map_toArray, List.map_cons, List.map_nil]); first | done | rfl | (simp only [List.length_drop, List.length_take]; rfl)) ?_; (with_reducible refine (level_told.calls k2 x112000_2 _ _ x112001_2 t112 t113 t116 _ ?side1 ?side2 A123.out).mono ?_); (case side1 => repeat (first | exact (Kd.R_reads' HO_112001.out).2.2 | (with_reducible refine Kd.C_alloc ?_ _) | (with_reducible refine Kd.C_drewN ?_ _) | (with_reducible refine Kd.C_drew ?_))); (case side2 => exact (Kd.R_reads' HO_112001.out).2.1); rintro e w128 ⟨v114, rfl, ho0, hb⟩; refine ⟨_, rfl, ?_⟩; have HO115 := Aside0.mk (Kd.R_lower (Kd.R_new' (Kd.R_new' (Kd.R_new' ho0 (Kd.R_lt (rl_ HO_38))) (Kd.R_lt (rl_ HO_102001))) (Kd.R_lt (rl_ HO_112001))) (below_size (bl_ HB))); replace HO_38 := Aside0.mk (Kd.R_elder' (rl_ HO_38) (Kd.R_base ho0) hb); replace HO_102001 := Aside0.mk (Kd.R_elder' (rl_ HO_102001) (Kd.R_base ho0) hb); replace HO_112001 := Aside0.mk (Kd.R_elder' (rl_ HO_112001) (Kd.R_base ho0) hb); replace BK101 := bb_ BK101 hb; replace BK102 := bb_ BK102 hb; replace BK111 := bb_ BK111 hb; replace HB := hs_ HB hb; (try clear hb); (try clear hb2); (try clear hk); (try clear hi); (try clear ho0); have hnb129 := NB102_101.out; have hnc129 := NB101_102.out; have hcz130_0 : w128.cell? ⟨gb102, 0, none⟩ = some (.int .i64 x103000_2) := (blk_cell BK102.out 0).trans rfl; have hcz130_1 : w128.cell? ⟨gb102, 1, none⟩ = some (.slice none 0 0) := (blk_cell BK102.out 1).trans rfl; have hfz130_0 := blk_frozen BK102.out 0; have hfz130_1 := blk_frozen BK102.out 1; obtain ⟨Ao131, co131, eo131⟩ := Kd.R_slice HO115.out; subst eo131))
        refine bodyPost_ret (results_ct rfl _ _ gb102 43 #[.int .i64 t112, .slice Ao131 t113.length co131] (0, 0) _ rfl (by (with_reducible repeat (first | refine blk_drewN ?_ _ | refine blk_drew ?_ | refine blk_alloc ?_ _)); refine blk_put (cs := #[.int .i64 t112, .slice none 0 0]) ?_ 1 _ rfl; (with_reducible repeat (first | refine blk_drewN ?_ _ | refine blk_drew ?_ | refine blk_alloc ?_ _)); refine blk_put (cs := #[.int .i64 x103000_2, .slice none 0 0]) ?_ 0 _ rfl; (with_reducible repeat (first | refine blk_drewN ?_ _ | refine blk_drew ?_ | refine blk_alloc ?_ _)); exact BK102.out) Try.underlying43 rfl (by kernel_rfl)) rfl ?_
        exact ⟨_, by first | rfl | (simp [errW_none, errW_some] <;> rfl) | (simp [*, errW_none, errW_some] <;> rfl), by (with_reducible repeat (first | apply Kd.R_alloc | apply Kd.R_drewN | apply Kd.R_drew)); exact Kd.R_mono (Kd.R_far (p := ⟨gb102, 1, none⟩) (Kd.R_far (p := ⟨gb102, 0, none⟩) (Kd.R_types HO115.out BK102.out (by decide)) (fun _ hk => hk.2) (.int .i64 t112)) (fun _ hk => hk.2) (.slice Ao131 t113.length co131)) (fun _ hk => trivial), by repeat (first | (with_reducible first | exact HB.out | apply below_alloc | apply pw_below_drewN | apply below_drew1 | refine below_set ?_ GE101.out | refine below_set ?_ GE102.out | refine below_set ?_ GE111.out) | exact HB.out)⟩
 ·rw [if_neg c4] at H
  have c4b0 : (t107 == 0) = false := beq_eq_false_iff_ne.mpr c4
  have c4b1 : (t107 != 0) = true := bne_iff_ne.mpr c4
  simp only [Option.some.injEq, Prod.mk.injEq] at H
  obtain ⟨rfl, rfl, rfl⟩ := H
  go_enter Try.func51, Try.ntmps51
  go_wp2_with (first | ((with_reducible refine gate_dst (N := 2) rfl ?_); refine box_event ?hg (N := 2) ?hd (cs := #[.int .i64 a0_0, .slice A0_1 l0_1.length c0_1]) (t := 43) ?hr ?_; (case hd => rfl); (case hg => rfl); (case hr => first | (go_simp; done) | (go_simp; rfl)); intro gb101 hg w132 hbox hb; have BK101 := Aside0.mk (hbox); have GW101 := Aside0.mk ((bs_ hg HB : w.heap.size ≤ gb101)); have GE101 := Aside0.mk ((bs_ hg HB : w.heap.size ≤ gb101)); replace HB := hs_ HB hb; clear hb hbox hg) | ((with_reducible refine gate_dst (N := 4) rfl ?_); refine box_event ?hg (N := 4) ?hd (cs := #[.int .i64 0, .slice none 0 0]) (t := 43) ?hr ?_; (case hd => rfl); (case hg => rfl); (case hr => first | (go_simp; done) | (go_simp; rfl)); intro gb102 hg w133 hbox hb; have BK102 := Aside0.mk (hbox); have GW102 := Aside0.mk ((bs_ hg HB : w.heap.size ≤ gb102)); have GE102 := Aside0.mk ((bs_ hg HB : w.heap.size ≤ gb102)); have NB101_102 := Aside0.mk ((nl_ hg BK101 : gb101 ≠ gb102)); have NB102_101 := Aside0.mk ((ng_ hg BK101 : gb102 ≠ gb101)); replace BK101 := bb_ BK101 hb; replace HB := hs_ HB hb; clear hb hbox hg; have hnb134 := NB101_102.out; have hnc134 := NB102_101.out; have hcz135_0 : w133.cell? ⟨gb101, 0, none⟩ = some (.int .i64 a0_0) := (blk_cell BK101.out 0).trans rfl; have hcz135_1 : w133.cell? ⟨gb101, 1, none⟩ = some (.slice A0_1 l0_1.length c0_1) := (blk_cell BK101.out 1).trans rfl; have hfz135_0 := blk_frozen BK101.out 0; have hfz135_1 := blk_frozen BK101.out 1) | ((with_reducible refine gate_callee (f := 40) rfl ?_); refine goesL_ (some 16) rfl rfl Try.func40 (by kernel_rfl) rfl #[.agg #[.int .i64 a0_0, .slice A0_1 l0_1.length c0_1]] rfl (by (try simp only [List.map_toArray, List.map_cons, List.map_nil]); first | done | rfl | (simp only [List.length_drop, List.length_take]; rfl)) ?_; (with_reducible refine (level_Norm.calls k a0_0 _ _ l0_1 t103 t104 t107 _ ?side1 ?side2 A3.out).mono ?_); (case side1 => repeat (first | exact (Kd.C_below HR0_1.out HB.out) | (with_reducible refine Kd.C_alloc ?_ _) | (with_reducible refine Kd.C_drewN ?_ _) | (with_reducible refine Kd.C_drew ?_))); (case side2 => exact HC0_1.out); rintro e w136 ⟨v105, rfl, ho0, hb⟩; refine ⟨_, rfl, ?_⟩; have HO106 := Aside0.mk (Kd.R_lower ho0 (below_size (bl_ HB))); replace BK101 := bb_ BK101 hb; replace BK102 := bb_ BK102 hb; replace HB := hs_ HB hb; (try clear hb); (try clear hb2); (try clear hk); (try clear hi); (try clear ho0); have hcz137_0 : w136.cell? ⟨gb101, 0, none⟩ = some (.int .i64 a0_0) := (blk_cell BK101.out 0).trans rfl; have hcz137_1 : w136.cell? ⟨gb101, 1, none⟩ = some (.slice A0_1 l0_1.length c0_1) := (blk_cell BK101.out 1).trans rfl; have hfz137_0 := blk_frozen BK101.out 0; have hfz137_1 := blk_frozen BK101.out 1; obtain ⟨Ao138, co138, eo138⟩ := Kd.R_slice HO106.out; subst eo138; have hcz139_0 : w136.cell? ⟨gb102, 0, none⟩ = some (.int .i64 0) := (blk_cell BK102.out 0).trans rfl; have hcz139_1 : w136.cell? ⟨gb102, 1, none⟩ = some (.slice none 0 0) := (blk_cell BK102.out 1).trans rfl; have hfz139_0 := blk_frozen BK102.out 0; have hfz139_1 := blk_frozen BK102.out 1))
  refine bodyPost_ret (results_ct rfl _ _ gb102 43 #[.int .i64 0, .slice none 0 0] (0, 0) _ rfl (by (with_reducible repeat (first | refine blk_drewN ?_ _ | refine blk_drew ?_ | refine blk_alloc ?_ _)); refine blk_put (cs := #[.int .i64 0, .slice none 0 0]) ?_ 1 _ rfl; (with_reducible repeat (first | refine blk_drewN ?_ _ | refine blk_drew ?_ | refine blk_alloc ?_ _)); refine blk_put (cs := #[.int .i64 0, .slice none 0 0]) ?_ 0 _ rfl; (with_reducible repeat (first | refine blk_drewN ?_ _ | refine blk_drew ?_ | refine blk_alloc ?_ _)); refine blk_far ?_ NB102_101.out _; (with_reducible repeat (first | refine blk_drewN ?_ _ | refine blk_drew ?_ | refine blk_alloc ?_ _)); refine blk_far ?_ NB102_101.out _; (with_reducible repeat (first | refine blk_drewN ?_ _ | refine blk_drew ?_ | refine blk_alloc ?_ _)); exact BK102.out) Try.underlying43 rfl (by kernel_rfl)) rfl ?_
  exact ⟨_, by first | rfl | (simp [errW_none, errW_some] <;> rfl) | (simp [*, errW_none, errW_some] <;> rfl), by first | exact Kd.R_nil _ _ _ _ _ | exact Kd.N_nil _ _ _ _ _ | exact Kd.V_nil _ _ _ _ _ | exact Kd.Q_nil _ _ _ _ _ | exact Kd.S_nil _ _ _ _ _, by repeat (first | (with_reducible first | exact HB.out | apply below_alloc | apply pw_below_drewN | apply below_drew1 | refine below_set ?_ GE101.out | refine below_set ?_ GE102.out) | exact HB.out)⟩

end Go.Proofs.Ytbopadglafbdjaa.PX
