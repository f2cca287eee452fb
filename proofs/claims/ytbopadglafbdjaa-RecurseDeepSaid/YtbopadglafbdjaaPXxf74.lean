-- by wip/tools/gprint.py of this session over the kit's print; given functions are this session's own text
import Derived.Test.YtbopadglafbdjaaPXx0
import Derived.Test.YtbopadglafbdjaaPXxf79
namespace Go.Proofs.Ytbopadglafbdjaa.PX
open Go.RowKit Go.Proofs.YtbopadglafbdjaaW.PrintWords Go.Proofs.YtbopadglafbdjaaW.PrintLast Go.Proofs.YtbopadglafbdjaaW.PrintMore
attribute [local go_sem] max2_int min2_int max_two min_two max_three min_three max_four min_four   -- for this text's walks alone
set_option linter.unusedVariables false
set_option linter.unusedSimpArgs false

/-! ### level_norm: function 74 -/
mutual
def level_norm.l0 : Nat → List (S62) → List (S62) → Int → Int → Int → List (S62) → Option (Int × (List (S62)))
 | 0, _, _, _, _, _, _ => none
 | k + 1, x3, x10, x11, x12, x102000, x102001 => if x12 < x11 then (if 0 ≤ x12 then (if x12 < (x10.length : Int) then ((api_LVar_int.f k x3 (([(⟨(rd_T62 x10 x12).f0, (rd_T62 x10 x12).f1⟩ : S62)] : List (S62)))).bind fun t108 => (level_norm.l0 k t108 x10 x11 (wrap64 (x12 + 1)) x102000 x102001)) else (none)) else (none)) else (level_norm.l1 k x3 (x3.length : Int) 0 x102000 x3)
def level_norm.l1 : Nat → List (S62) → Int → Int → Int → List (S62) → Option (Int × (List (S62)))
 | 0, _, _, _, _, _ => none
 | k + 1, x25, x26, x27, x112000, x112001 => if x27 < x26 then (if 0 ≤ x27 then (if x27 < (x25.length : Int) then (if ((rd_T62 x25 x27).f1) ≥ x112000 then (level_norm.l1 k x25 x26 (wrap64 (x27 + 1)) 0 x112001) else (level_norm.l1 k x25 x26 (wrap64 (x27 + 1)) x112000 x112001)) else (none)) else (none)) else (some (x112000, x112001))
end
def level_norm.f (k : Nat) (a0_0 : Int) (l0_1 : List (S62)) : Option (Int × (List (S62))) := level_norm.l0 k ([] : List (S62)) l0_1 (l0_1.length : Int) 0 a0_0 l0_1
theorem level_norm.mono_l : ∀ k, (∀ y0 y1 y2 y3 y4 y5, LeO (level_norm.l0 k y0 y1 y2 y3 y4 y5) (level_norm.l0 (k + 1) y0 y1 y2 y3 y4 y5)) ∧ (∀ y0 y1 y2 y3 y4, LeO (level_norm.l1 k y0 y1 y2 y3 y4) (level_norm.l1 (k + 1) y0 y1 y2 y3 y4))
 | 0 => ⟨fun _ _ _ _ _ _ r h => by simp [level_norm.l0] at h, fun _ _ _ _ _ r h => by simp [level_norm.l1] at h⟩
 | k + 1 => by
  obtain ⟨ih0, ih1⟩ := level_norm.mono_l k
  refine ⟨?_, ?_⟩
  ·intro y0 y1 y2 y3 y4 y5
   unfold level_norm.l0
   repeat' first
   | (with_reducible exact ih0 _ _ _ _ _ _)
   | (with_reducible exact ih1 _ _ _ _ _)
   | (with_reducible exact api_LVar_int.mono _ _ _)
   | (with_reducible exact LeO.refl _)
   | (with_reducible exact LeO.none _)
   | (with_reducible refine LeO.ite ?_ ?_)
   | (with_reducible refine LeO.bind ?_ (fun _ => ?_))
   | exact ih0 _ _ _ _ _ _
   | exact ih1 _ _ _ _ _
   | exact api_LVar_int.mono _ _ _
   | exact LeO.none _
   | refine LeO.ite ?_ ?_
   | refine LeO.bind ?_ (fun _ => ?_)
  ·intro y0 y1 y2 y3 y4
   unfold level_norm.l1
   repeat' first
   | (with_reducible exact ih0 _ _ _ _ _ _)
   | (with_reducible exact ih1 _ _ _ _ _)
   | (with_reducible exact api_LVar_int.mono _ _ _)
   | (with_reducible exact LeO.refl _)
   | (with_reducible exact LeO.none _)
   | (with_reducible refine LeO.ite ?_ ?_)
   | (with_reducible refine LeO.bind ?_ (fun _ => ?_))
   | exact ih0 _ _ _ _ _ _
   | exact ih1 _ _ _ _ _
   | exact api_LVar_int.mono _ _ _
   | exact LeO.none _
   | refine LeO.ite ?_ ?_
   | refine LeO.bind ?_ (fun _ => ?_)
theorem level_norm.mono : ∀ a0 a1 k, LeO (level_norm.f k a0 a1) (level_norm.f (k + 1) a0 a1) := by
 intro a0 a1 k
 obtain ⟨ih0, ih1⟩ := level_norm.mono_l k
 unfold level_norm.f
 repeat' first
   | (with_reducible exact ih0 _ _ _ _ _ _)
   | (with_reducible exact ih1 _ _ _ _ _)
   | (with_reducible exact api_LVar_int.mono _ _ _)
   | (with_reducible exact LeO.refl _)
   | (with_reducible exact LeO.none _)
   | (with_reducible refine LeO.ite ?_ ?_)
   | (with_reducible refine LeO.bind ?_ (fun _ => ?_))
   | exact ih0 _ _ _ _ _ _
   | exact ih1 _ _ _ _ _
   | exact api_LVar_int.mono _ _ _
   | exact LeO.none _
   | refine LeO.ite ?_ ?_
   | refine LeO.bind ?_ (fun _ => ?_)
set_option maxHeartbeats 8000000 in
set_option maxRecDepth 100000 in
theorem level_norm.calls (k : Nat) (a0_0 : Int) (A0_1 : Option Addr) (c0_1 : Nat) (l0_1 : List (S62)) (r1 : Int) (r2 : List (S62)) (w : World) (hr0_1 : Kd.C k62 w A0_1 l0_1.length l0_1) (hc0_1 : l0_1.length ≤ c0_1) (h : level_norm.f k a0_0 l0_1 = some (r1, r2)) :
  Calls Try.prog 74 #[.agg #[.int .i64 a0_0, .slice A0_1 l0_1.length c0_1]] w fun e w' => ∃ v1_ : Value, e = .returned (.agg #[.int .i64 r1, v1_]) ∧ Kd.R k62 62 w' w.heap.size (fun _ => True) v1_ r2 ∧ Below w.heap.size w w' := by
 have hu43 := Try.underlying43
 have hu62 := Try.underlying62
 have HR0_1 := Aside0.mk hr0_1
 have HC0_1 := Aside0.mk hc0_1
 clear hr0_1 hc0_1
 have HB := Aside0.mk (Below.refl w.heap.size w)
 have H : (level_norm.l0 k ([] : List (S62)) l0_1 (l0_1.length : Int) 0 a0_0 l0_1) = some (r1, r2) := h
 clear h
 have H' := Aside0.mk H
 clear H
 go_enter Try.func74, Try.ntmps74
 go_wp2_with (first | ((with_reducible refine gate_dst (N := 1) rfl ?_); refine box_event ?hg (N := 1) ?hd (cs := #[.int .i64 a0_0, .slice A0_1 l0_1.length c0_1]) (t := 43) ?hr ?_; (case hd => rfl); (case hg => rfl); (case hr => first | (go_simp; done) | (go_simp; rfl)); intro gb101 hg w2 hbox hb; have BK101 := Aside0.mk (hbox); have GW101 := Aside0.mk ((bs_ hg HB : w.heap.size ≤ gb101)); have GE101 := Aside0.mk ((bs_ hg HB : w.heap.size ≤ gb101)); replace HB := hs_ HB hb; clear hb hbox hg) | ((with_reducible refine gate_dst (N := 2) rfl ?_); refine box_event ?hg (N := 2) ?hd (cs := #[.int .i64 0, .slice none 0 0]) (t := 43) ?hr ?_; (case hd => rfl); (case hg => rfl); (case hr => first | (go_simp; done) | (go_simp; rfl)); intro gb102 hg w3 hbox hb; have BK102 := Aside0.mk (hbox); have GW102 := Aside0.mk ((bs_ hg HB : w.heap.size ≤ gb102)); have GE102 := Aside0.mk ((bs_ hg HB : w.heap.size ≤ gb102)); have NB101_102 := Aside0.mk ((nl_ hg BK101 : gb101 ≠ gb102)); have NB102_101 := Aside0.mk ((ng_ hg BK101 : gb102 ≠ gb101)); replace BK101 := bb_ BK101 hb; replace HB := hs_ HB hb; clear hb hbox hg; have hnb4 := NB101_102.out; have hnc4 := NB102_101.out; have hcz5_0 : w3.cell? ⟨gb101, 0, none⟩ = some (.int .i64 a0_0) := (blk_cell BK101.out 0).trans rfl; have hcz5_1 : w3.cell? ⟨gb101, 1, none⟩ = some (.slice A0_1 l0_1.length c0_1) := (blk_cell BK101.out 1).trans rfl; have hfz5_0 := blk_frozen BK101.out 0; have hfz5_1 := blk_frozen BK101.out 1))
 go_loopg [3, 12] k (fun kq v3 v12 w' => ∃ (x3_1 : List (S62)) (x12_1 : Int), v12 = .int .i64 x12_1 ∧ Aside0 (level_norm.l0 kq x3_1 l0_1 (l0_1.length : Int) x12_1 a0_0 l0_1 = some (r1, r2)) ∧ Aside0 (kq ≤ k) ∧ Aside0 (Kd.R k62 62 w' w.heap.size (fun _ => True) v3 x3_1) ∧ Aside0 (w'.heap[gb101]? = some (.cells #[.int .i64 a0_0, (.slice A0_1 l0_1.length c0_1)] 43 (0, 0))) ∧ Aside0 (w'.heap[gb102]? = some (.cells #[.int .i64 0, (.slice none 0 0)] 43 (0, 0))) ∧ Aside0 (Below w.heap.size w w'))
 case atStart => exact ⟨(([] : List (S62))), (0), (by first | rfl | (simp; done) | (simp [*]; done)), H', ⟨Nat.le_refl _⟩, ⟨by first | exact Kd.R_nil _ _ _ _ _ | exact Kd.N_nil _ _ _ _ _ | exact Kd.V_nil _ _ _ _ _ | exact Kd.Q_nil _ _ _ _ _ | exact Kd.S_nil _ _ _ _ _⟩, ⟨by (with_reducible repeat (first | refine blk_drewN ?_ _ | refine blk_drew ?_ | refine blk_alloc ?_ _)); exact BK101.out⟩, ⟨by (with_reducible repeat (first | refine blk_drewN ?_ _ | refine blk_drew ?_ | refine blk_alloc ?_ _)); exact BK102.out⟩, ⟨by repeat (first | (with_reducible first | exact HB.out | apply below_alloc | apply pw_below_drewN | apply below_drew1 | refine below_set ?_ GE101.out | refine below_set ?_ GE102.out) | exact HB.out)⟩⟩
 case round =>
  clear H'
  (try clear p2); (try clear c4); (try clear hcz5_0); (try clear hcz5_1); (try clear hfz5_0); (try clear hfz5_1)
  obtain ⟨x3_1, x12_1, rfl, HA, HK1, HO_3, BK101, BK102, HB⟩ := hrel
  cases gk with
  | zero => exact absurd HA.out (by simp [level_norm.l0])
  | succ k1 =>
   have H := HA.out
   clear HA
   simp only [level_norm.l0] at H
   by_cases c6 : x12_1 < (l0_1.length : Int)
   ·rw [if_pos c6] at H
    have c6b0 : decide (x12_1 < (l0_1.length : Int)) = true := decide_eq_true c6
    clear c6
    by_cases c7 : 0 ≤ x12_1
    ·rw [if_pos c7] at H
     have c7b0 : decide (0 ≤ x12_1) = true := decide_eq_true c7
     clear c7
     by_cases c8 : x12_1 < (l0_1.length : Int)
     ·rw [if_pos c8] at H
      have c8b0 : decide (x12_1 < (l0_1.length : Int)) = true := decide_eq_true c8
      clear c8
      obtain ⟨y105, hy105⟩ : ∃ y_ : List (S62), y_ = (([(⟨(rd_T62 l0_1 x12_1).f0, (rd_T62 l0_1 x12_1).f1⟩ : S62)] : List (S62))) := ⟨_, rfl⟩
      replace H : ((api_LVar_int.f k1 x3_1 y105).bind fun t108 => (level_norm.l0 k1 t108 l0_1 (l0_1.length : Int) (wrap64 (x12_1 + 1)) a0_0 l0_1)) = some (r1, r2) := by first | (rw [hy105]; with_reducible exact H) | (have H2_ := (Option.bind_some _ _).symm.trans H; rw [hy105]; with_reducible exact H2_) | (have H2_ := (Option.bind_some _ _).symm.trans H; with_reducible exact H2_) | with_reducible exact H | (rw [hy105]; exact H) | exact H
      have Ny105 := Aside0.mk hy105
      clear hy105
      replace H := Option.bind_eq_some_iff.mp H
      obtain ⟨t108, A90, H⟩ := H
      replace H : (level_norm.l0 k1 t108 l0_1 (l0_1.length : Int) (wrap64 (x12_1 + 1)) a0_0 l0_1) = some (r1, r2) := H
      have A9 := Aside0.mk A90
      clear A90
      have H' := Aside0.mk H
      clear H
      have p103 : 0 ≤ (x12_1 : Int) := of_decide_eq_true (by first | (with_reducible assumption) | assumption)
      have q103 : x12_1 < (l0_1.length : Int) := of_decide_eq_true (by first | (with_reducible assumption) | assumption)
      obtain ⟨ad103, e103, hx103_0, hx103_1⟩ := at_T62 HR0_1.out x12_1 p103 q103
      cases e103
      replace hx103_0 := (HB.out.cell (World.block_lt_of_cell? w _ hx103_0)).trans hx103_0
      replace hx103_1 := (HB.out.cell (World.block_lt_of_cell? w _ hx103_1)).trans hx103_1
      replace p103 := eq_true p103
      replace q103 := eq_true q103
      go_wp2_with (first | ((with_reducible refine gate_dst (N := 5) rfl ?_); refine box_event ?hg (N := 5) ?hd (cs := #[.int .i64 0, .int .i64 0]) (t := 62) ?hr ?_; (case hd => rfl); (case hg => rfl); (case hr => first | (go_simp; done) | (go_simp; rfl)); intro gb104 hg w10 hbox hb; have BK104 := Aside0.mk (hbox); have GW104 := Aside0.mk ((bs_ hg HB : w.heap.size ≤ gb104)); have GE104 := Aside0.mk ((bs_ hg HB : w.heap.size ≤ gb104)); have NB101_104 := Aside0.mk ((nl_ hg BK101 : gb101 ≠ gb104)); have NB104_101 := Aside0.mk ((ng_ hg BK101 : gb104 ≠ gb101)); have NB102_104 := Aside0.mk ((nl_ hg BK102 : gb102 ≠ gb104)); have NB104_102 := Aside0.mk ((ng_ hg BK102 : gb104 ≠ gb102)); replace HO_3 := Aside0.mk (Kd.R_below (Kd.R_elderB (rl_ HO_3) gb104 (Nat.le_of_eq hg.symm)) hb); replace BK101 := bb_ BK101 hb; replace BK102 := bb_ BK102 hb; replace HB := hs_ HB hb; clear hb hbox hg; have hnb11 := NB104_101.out; have hnc11 := NB101_104.out; have hnb12 := NB104_102.out; have hnc12 := NB102_104.out; have hcz13_0 : w10.cell? ⟨gb104, 0, none⟩ = some (.int .i64 0) := (blk_cell BK104.out 0).trans rfl; have hcz13_1 : w10.cell? ⟨gb104, 1, none⟩ = some (.int .i64 0) := (blk_cell BK104.out 1).trans rfl; have hfz13_0 := blk_frozen BK104.out 0; have hfz13_1 := blk_frozen BK104.out 1) | ((with_reducible refine gate_dst (N := 18) rfl ?_); refine Kd.R_lit k62 _ 62 ?hg (N := 18) ?hd (xs := ([(⟨(rd_T62 l0_1 x12_1).f0, (rd_T62 l0_1 x12_1).f1⟩ : S62)] : List (S62))) (inner := [.int .i64 ((rd_T62 l0_1 x12_1).f0), .int .i64 ((rd_T62 l0_1 x12_1).f1)]) (ok := fun _ => True) (okp := fun _ => True) ?hr ?hp (fun _ hk => hk) trivial (Below.refl _ _) (Nat.le_refl _) (by simp) ?_; (case hd => rfl); (case hg => rfl); (case hr => first | (go_simp; done) | (go_simp; rfl)); (case hp => exact (Reps.c2 (show Kd.M k62 _ _ _ (⟨(rd_T62 l0_1 x12_1).f0, (rd_T62 l0_1 x12_1).f1⟩ : S62) [.int .i64 ((rd_T62 l0_1 x12_1).f0), .int .i64 ((rd_T62 l0_1 x12_1).f1)] from (k62_mkM _ _ _ (⟨(rd_T62 l0_1 x12_1).f0, (rd_T62 l0_1 x12_1).f1⟩ : S62) )) (Reps.none _ _))); intro v106 w14 ho15 hb hg_ hnew_; clear hg_ hnew_; (first | rw [← Ny105.out] at ho15 | (simp only [Int.reduceToNat] at ho15; rw [← Ny105.out] at ho15)); have HO107 := Aside0.mk (Kd.R_lower (Kd.R_newB (Kd.R_new' ho15 (Kd.R_lt (by (with_reducible repeat (first | apply Kd.R_alloc | apply Kd.R_drewN | apply Kd.R_drew)); exact (Kd.R_mono (Kd.R_far (p := ⟨gb104, 1, none⟩) (Kd.R_far (p := ⟨gb104, 0, none⟩) (Kd.R_mono HO_3.out (fun k_ hk => (⟨hk, hk.2⟩ : _ ∧ k_ ≠ gb104))) (fun _ hk => hk.2) (.int .i64 ((rd_T62 l0_1 x12_1).f0))) (fun _ hk => hk.2) (.int .i64 ((rd_T62 l0_1 x12_1).f1))) (fun _ h_ => h_.1))))) (g := gb104) (o := .cells #[.int .i64 ((rd_T62 l0_1 x12_1).f0), .int .i64 ((rd_T62 l0_1 x12_1).f1)] 62 (0, 0)) (by (with_reducible repeat (first | refine blk_drewN ?_ _ | refine blk_drew ?_ | refine blk_alloc ?_ _)); refine blk_put (cs := #[.int .i64 ((rd_T62 l0_1 x12_1).f0), .int .i64 0]) ?_ 1 _ rfl; (with_reducible repeat (first | refine blk_drewN ?_ _ | refine blk_drew ?_ | refine blk_alloc ?_ _)); refine blk_put (cs := #[.int .i64 0, .int .i64 0]) ?_ 0 _ rfl; (with_reducible repeat (first | refine blk_drewN ?_ _ | refine blk_drew ?_ | refine blk_alloc ?_ _)); exact BK104.out)) (below_size (bl_ HB))); replace HO_3 := Aside0.mk (Kd.R_elder' (by (with_reducible repeat (first | apply Kd.R_alloc | apply Kd.R_drewN | apply Kd.R_drew)); exact (Kd.R_mono (Kd.R_far (p := ⟨gb104, 1, none⟩) (Kd.R_far (p := ⟨gb104, 0, none⟩) (Kd.R_mono HO_3.out (fun k_ hk => (⟨hk, hk.2⟩ : _ ∧ k_ ≠ gb104))) (fun _ hk => hk.2) (.int .i64 ((rd_T62 l0_1 x12_1).f0))) (fun _ hk => hk.2) (.int .i64 ((rd_T62 l0_1 x12_1).f1))) (fun _ h_ => h_.1))) (Kd.R_base ho15) hb); replace BK101 := Aside0.mk (blk_below (pf_ BK101) hb); replace BK102 := Aside0.mk (blk_below (pf_ BK102) hb); replace BK104 := Aside0.mk (blk_below (g := gb104) (o := .cells #[.int .i64 ((rd_T62 l0_1 x12_1).f0), .int .i64 ((rd_T62 l0_1 x12_1).f1)] 62 (0, 0)) (by (with_reducible repeat (first | refine blk_drewN ?_ _ | refine blk_drew ?_ | refine blk_alloc ?_ _)); refine blk_put (cs := #[.int .i64 ((rd_T62 l0_1 x12_1).f0), .int .i64 0]) ?_ 1 _ rfl; (with_reducible repeat (first | refine blk_drewN ?_ _ | refine blk_drew ?_ | refine blk_alloc ?_ _)); refine blk_put (cs := #[.int .i64 0, .int .i64 0]) ?_ 0 _ rfl; (with_reducible repeat (first | refine blk_drewN ?_ _ | refine blk_drew ?_ | refine blk_alloc ?_ _)); exact BK104.out) hb); replace HB := hs_ HB hb; clear hb ho15; obtain ⟨Ao16, co16, eo16⟩ := Kd.R_slice HO_3.out; subst eo16; obtain ⟨Ao17, co17, eo17⟩ := Kd.R_slice HO107.out; subst eo17) | ((with_reducible refine gate_callee (f := 79) rfl ?_); refine goesL_ (some 19) rfl rfl Try.func79 (by kernel_rfl) rfl #[.slice Ao16 x3_1.length co16, .slice Ao17 y105.length co17, .func (.func 80) #[] #[], .func (.func 81) #[] #[]] rfl (by (try simp only [List.map_toArray, List.map_cons, List.map_nil]); first | done | rfl | (simp only [List.length_drop, List.length_take]; rfl)) ?_; (with_reducible refine (api_LVar_int.calls k1 (fun k_ => some k_ = (.slice Ao16 x3_1.length co16 : Value).ownBlock) _ _ x3_1 (fun k_ => some k_ = (.slice Ao17 y105.length co17 : Value).ownBlock) _ _ y105 t108 _ ?side1 ?side2 A9.out).mono ?_); (case side1 => exact Kd.R_V (Kd.R_tight rfl (Kd.R_types (Kd.R_types (HO_3.out) BK101.out (by decide)) BK102.out (by decide)))); (case side2 => exact Kd.R_V (Kd.R_tight rfl (Kd.R_types (Kd.R_types (HO107.out) BK101.out (by decide)) BK102.out (by decide)))); rintro e w18 ⟨v109, rfl, ho0, hb⟩; refine ⟨_, rfl, ?_⟩; have HO110 := Aside0.mk (Kd.R_lower (Kd.R_newB (Kd.R_new' (Kd.R_new' (Kd.R_mono (ok' := fun k_ => True) ho0 (fun _ hk_ => trivial)) (Kd.R_lt (rl_ HO_3))) (Kd.R_lt (rl_ HO107))) (g := gb104) (o := .cells #[.int .i64 ((rd_T62 l0_1 x12_1).f0), .int .i64 ((rd_T62 l0_1 x12_1).f1)] 62 (0, 0)) (pl_ BK104)) (below_size (bl_ HB))); replace HO_3 := Aside0.mk (Kd.R_elder' (rl_ HO_3) (Kd.R_base ho0) hb); replace HO107 := Aside0.mk (Kd.R_elder' (rl_ HO107) (Kd.R_base ho0) hb); replace BK101 := bb_ BK101 hb; replace BK102 := bb_ BK102 hb; replace BK104 := bb_ BK104 hb; replace HB := hs_ HB hb; (try clear hb); (try clear hb2); (try clear hk); (try clear hi); (try clear ho0)))
      go_roundg k1
      case measure => have := HK1.out; omega
      case rel => exact ⟨(t108), (wrap64 (x12_1 + 1)), (by first | rfl | (simp; done) | (simp [*]; done)), H', ⟨by have := HK1.out; omega⟩, ⟨by (with_reducible repeat (first | apply Kd.R_alloc | apply Kd.R_drewN | apply Kd.R_drew)); exact Kd.R_mono HO110.out (fun _ hk => trivial)⟩, ⟨by (with_reducible repeat (first | refine blk_drewN ?_ _ | refine blk_drew ?_ | refine blk_alloc ?_ _)); exact BK101.out⟩, ⟨by (with_reducible repeat (first | refine blk_drewN ?_ _ | refine blk_drew ?_ | refine blk_alloc ?_ _)); exact BK102.out⟩, ⟨by repeat (first | (with_reducible first | exact HB.out | apply below_alloc | apply pw_below_drewN | apply below_drew1 | refine below_set ?_ GE101.out | refine below_set ?_ GE102.out | refine below_set ?_ GE104.out) | exact HB.out)⟩⟩
     ·rw [if_neg c8] at H
      exact absurd H (by simp)
    ·rw [if_neg c7] at H
     exact absurd H (by simp)
   ·rw [if_neg c6] at H
    have c6b0 : decide (x12_1 < (l0_1.length : Int)) = false := decide_eq_false c6
    clear c6
    have H' := Aside0.mk H
    clear H
    have hnb19 := NB101_102.out
    have hnc19 := NB102_101.out
    have hcz20_0 : wr.cell? ⟨gb101, 0, none⟩ = some (.int .i64 a0_0) := (blk_cell BK101.out 0).trans rfl
    have hcz20_1 : wr.cell? ⟨gb101, 1, none⟩ = some (.slice A0_1 l0_1.length c0_1) := (blk_cell BK101.out 1).trans rfl
    have hfz20_0 := blk_frozen BK101.out 0
    have hfz20_1 := blk_frozen BK101.out 1
    obtain ⟨Ao21, co21, eo21⟩ := Kd.R_slice HO_3.out
    subst eo21
    go_wp2_with (first | ((with_reducible refine gate_dst (N := 6) rfl ?_); refine box_event ?hg (N := 6) ?hd (cs := #[.int .i64 0, .slice none 0 0]) (t := 43) ?hr ?_; (case hd => rfl); (case hg => rfl); (case hr => first | (go_simp; done) | (go_simp; rfl)); intro gb111 hg w22 hbox hb; have BK111 := Aside0.mk (hbox); have GW111 := Aside0.mk ((bs_ hg HB : w.heap.size ≤ gb111)); have GE111 := Aside0.mk ((bs_ hg HB : w.heap.size ≤ gb111)); have NB101_111 := Aside0.mk ((nl_ hg BK101 : gb101 ≠ gb111)); have NB111_101 := Aside0.mk ((ng_ hg BK101 : gb111 ≠ gb101)); have NB102_111 := Aside0.mk ((nl_ hg BK102 : gb102 ≠ gb111)); have NB111_102 := Aside0.mk ((ng_ hg BK102 : gb111 ≠ gb102)); replace HO_3 := Aside0.mk (Kd.R_below (rl_ HO_3) hb); replace BK101 := bb_ BK101 hb; replace BK102 := bb_ BK102 hb; replace HB := hs_ HB hb; clear hb hbox hg; have hnb23 := NB111_101.out; have hnc23 := NB101_111.out; have hnb24 := NB111_102.out; have hnc24 := NB102_111.out; have hcz25_0 : w22.cell? ⟨gb111, 0, none⟩ = some (.int .i64 0) := (blk_cell BK111.out 0).trans rfl; have hcz25_1 : w22.cell? ⟨gb111, 1, none⟩ = some (.slice none 0 0) := (blk_cell BK111.out 1).trans rfl; have hfz25_0 := blk_frozen BK111.out 0; have hfz25_1 := blk_frozen BK111.out 1))
    go_loopg [27] k1 (fun kq v27 w' => ∃ (x27_2 : Int) (x112000_2 : Int), v27 = .int .i64 x27_2 ∧ Aside0 (level_norm.l1 kq x3_1 (x3_1.length : Int) x27_2 x112000_2 x3_1 = some (r1, r2)) ∧ Aside0 (kq ≤ k1) ∧ Aside0 (Kd.R k62 62 w' w.heap.size (fun _ => True) (.slice Ao21 x3_1.length co21) x3_1) ∧ Aside0 (Kd.R k62 62 w' w.heap.size (fun _ => True) (.slice Ao21 x3_1.length co21) x3_1) ∧ Aside0 (w'.heap[gb101]? = some (.cells #[.int .i64 a0_0, (.slice A0_1 l0_1.length c0_1)] 43 (0, 0))) ∧ Aside0 (w'.heap[gb102]? = some (.cells #[.int .i64 0, (.slice none 0 0)] 43 (0, 0))) ∧ Aside0 (w'.heap[gb111]? = some (.cells #[.int .i64 x112000_2, (.slice Ao21 x3_1.length co21)] 43 (0, 0))) ∧ Aside0 (Below w.heap.size w w'))
    case atStart => exact ⟨(0), (a0_0), (by first | rfl | (simp; done) | (simp [*]; done)), H', ⟨Nat.le_refl _⟩, ⟨by (with_reducible repeat (first | apply Kd.R_alloc | apply Kd.R_drewN | apply Kd.R_drew)); exact Kd.R_mono (Kd.R_far (p := ⟨gb111, 1, none⟩) (Kd.R_far (p := ⟨gb111, 0, none⟩) (Kd.R_types HO_3.out BK111.out (by decide)) (fun _ hk => hk.2) (.int .i64 a0_0)) (fun _ hk => hk.2) (.slice Ao21 x3_1.length co21)) (fun _ hk => trivial)⟩, ⟨by (with_reducible repeat (first | apply Kd.R_alloc | apply Kd.R_drewN | apply Kd.R_drew)); exact Kd.R_mono (Kd.R_far (p := ⟨gb111, 1, none⟩) (Kd.R_far (p := ⟨gb111, 0, none⟩) (Kd.R_types HO_3.out BK111.out (by decide)) (fun _ hk => hk.2) (.int .i64 a0_0)) (fun _ hk => hk.2) (.slice Ao21 x3_1.length co21)) (fun _ hk => trivial)⟩, ⟨by (with_reducible repeat (first | refine blk_drewN ?_ _ | refine blk_drew ?_ | refine blk_alloc ?_ _)); refine blk_far ?_ NB101_111.out _; (with_reducible repeat (first | refine blk_drewN ?_ _ | refine blk_drew ?_ | refine blk_alloc ?_ _)); refine blk_far ?_ NB101_111.out _; (with_reducible repeat (first | refine blk_drewN ?_ _ | refine blk_drew ?_ | refine blk_alloc ?_ _)); exact BK101.out⟩, ⟨by (with_reducible repeat (first | refine blk_drewN ?_ _ | refine blk_drew ?_ | refine blk_alloc ?_ _)); refine blk_far ?_ NB102_111.out _; (with_reducible repeat (first | refine blk_drewN ?_ _ | refine blk_drew ?_ | refine blk_alloc ?_ _)); refine blk_far ?_ NB102_111.out _; (with_reducible repeat (first | refine blk_drewN ?_ _ | refine blk_drew ?_ | refine blk_alloc ?_ _)); exact BK102.out⟩, ⟨by (with_reducible repeat (first | refine blk_drewN ?_ _ | refine blk_drew ?_ | refine blk_alloc ?_ _)); refine blk_put (cs := #[.int .i64 a0_0, .slice none 0 0]) ?_ 1 _ rfl; (with_reducible repeat (first | refine blk_drewN ?_ _ | refine blk_drew ?_ | refine blk_alloc ?_ _)); refine blk_put (cs := #[.int .i64 0, .slice none 0 0]) ?_ 0 _ rfl; (with_reducible repeat (first | refine blk_drewN ?_ _ | refine blk_drew ?_ | refine blk_alloc ?_ _)); exact BK111.out⟩, ⟨by repeat (first | (with_reducible first | exact HB.out | apply below_alloc | apply pw_below_drewN | apply below_drew1 | refine below_set ?_ GE101.out | refine below_set ?_ GE102.out | refine below_set ?_ GE111.out) | exact HB.out)⟩⟩
    case round =>
     clear H'
     (try clear c1); (try clear p1); (try clear q1); (try clear hx1); (try clear c2); (try clear p2); (try clear c4); (try clear c6); (try clear c6b0); (try clear p6); (try clear c7); (try clear c7b0); (try clear c8); (try clear c8b0); (try clear p10); (try clear q10); (try clear hx10); (try clear c11); (try clear c12); (try clear c19); (try clear c23); (try clear c24); (try clear hcz13_0); (try clear hcz13_1); (try clear hcz20_0); (try clear hcz20_1); (try clear hcz25_0); (try clear hcz25_1); (try clear hcz5_0); (try clear hcz5_1); (try clear hfz13_0); (try clear hfz13_1); (try clear hfz20_0); (try clear hfz20_1); (try clear hfz25_0); (try clear hfz25_1); (try clear hfz5_0); (try clear hfz5_1); (try clear hx103_0); (try clear hx103_1); (try clear p103); (try clear p2); (try clear q103)
     obtain ⟨x27_2, x112000_2, rfl, HA, HK2, HO_25, HO_112001, BK101, BK102, BK111, HB⟩ := hrel
     cases gk with
     | zero => exact absurd HA.out (by simp [level_norm.l1])
     | succ k2 =>
      have H := HA.out
      clear HA
      simp only [level_norm.l1] at H
      by_cases c26 : x27_2 < (x3_1.length : Int)
      ·rw [if_pos c26] at H
       have c26b0 : decide (x27_2 < (x3_1.length : Int)) = true := decide_eq_true c26
       clear c26
       by_cases c27 : 0 ≤ x27_2
       ·rw [if_pos c27] at H
        have c27b0 : decide (0 ≤ x27_2) = true := decide_eq_true c27
        clear c27
        by_cases c28 : x27_2 < (x3_1.length : Int)
        ·rw [if_pos c28] at H
         have c28b0 : decide (x27_2 < (x3_1.length : Int)) = true := decide_eq_true c28
         clear c28
         by_cases c29 : ((rd_T62 x3_1 x27_2).f1) ≥ x112000_2
         ·rw [if_pos c29] at H
          have c29b0 : decide (x112000_2 ≤ ((rd_T62 x3_1 x27_2).f1)) = true := decide_eq_true c29
          clear c29
          have H' := Aside0.mk H
          clear H
          have p112 : 0 ≤ (x27_2 : Int) := of_decide_eq_true (by first | (with_reducible assumption) | assumption)
          have q112 : x27_2 < (x3_1.length : Int) := of_decide_eq_true (by first | (with_reducible assumption) | assumption)
          obtain ⟨ad112, e112, hx112_0, hx112_1⟩ := at_T62 (Kd.R_reads' HO_25.out).2.2 x27_2 p112 q112
          cases e112
          replace p112 := eq_true p112
          replace q112 := eq_true q112
          go_wp2_with (first | ((with_reducible refine gate_dst (N := 8) rfl ?_); refine box_event ?hg (N := 8) ?hd (cs := #[.int .i64 0, .int .i64 0]) (t := 62) ?hr ?_; (case hd => rfl); (case hg => rfl); (case hr => first | (go_simp; done) | (go_simp; rfl)); intro gb113 hg w30 hbox hb; have BK113 := Aside0.mk (hbox); have GW113 := Aside0.mk ((bs_ hg HB : w.heap.size ≤ gb113)); have GE113 := Aside0.mk ((bs_ hg HB : w.heap.size ≤ gb113)); have NB101_113 := Aside0.mk ((nl_ hg BK101 : gb101 ≠ gb113)); have NB113_101 := Aside0.mk ((ng_ hg BK101 : gb113 ≠ gb101)); have NB102_113 := Aside0.mk ((nl_ hg BK102 : gb102 ≠ gb113)); have NB113_102 := Aside0.mk ((ng_ hg BK102 : gb113 ≠ gb102)); have NB111_113 := Aside0.mk ((nl_ hg BK111 : gb111 ≠ gb113)); have NB113_111 := Aside0.mk ((ng_ hg BK111 : gb113 ≠ gb111)); replace HO_25 := Aside0.mk (Kd.R_below (Kd.R_elderB (rl_ HO_25) gb113 (Nat.le_of_eq hg.symm)) hb); replace HO_112001 := Aside0.mk (Kd.R_below (Kd.R_elderB (rl_ HO_112001) gb113 (Nat.le_of_eq hg.symm)) hb); replace BK101 := bb_ BK101 hb; replace BK102 := bb_ BK102 hb; replace BK111 := bb_ BK111 hb; replace HB := hs_ HB hb; clear hb hbox hg; have hnb31 := NB113_101.out; have hnc31 := NB101_113.out; have hnb32 := NB113_102.out; have hnc32 := NB102_113.out; have hnb33 := NB113_111.out; have hnc33 := NB111_113.out; have hcz34_0 : w30.cell? ⟨gb113, 0, none⟩ = some (.int .i64 0) := (blk_cell BK113.out 0).trans rfl; have hcz34_1 : w30.cell? ⟨gb113, 1, none⟩ = some (.int .i64 0) := (blk_cell BK113.out 1).trans rfl; have hfz34_0 := blk_frozen BK113.out 0; have hfz34_1 := blk_frozen BK113.out 1; have hnb35 := NB111_101.out; have hnc35 := NB101_111.out; have hnb36 := NB111_102.out; have hnc36 := NB102_111.out; have hcz37_0 : w30.cell? ⟨gb111, 0, none⟩ = some (.int .i64 x112000_2) := (blk_cell BK111.out 0).trans rfl; have hcz37_1 : w30.cell? ⟨gb111, 1, none⟩ = some (.slice (some ad112) x3_1.length co21) := (blk_cell BK111.out 1).trans rfl; have hfz37_0 := blk_frozen BK111.out 0; have hfz37_1 := blk_frozen BK111.out 1))
          go_roundg k2
          case measure => have := HK1.out; have := HK2.out; omega
          case rel => exact ⟨(wrap64 (x27_2 + 1)), (0), (by first | rfl | (simp; done) | (simp [*]; done)), H', ⟨by have := HK1.out; have := HK2.out; omega⟩, ⟨by (with_reducible repeat (first | apply Kd.R_alloc | apply Kd.R_drewN | apply Kd.R_drew)); exact Kd.R_mono (Kd.R_far (p := ⟨gb111, 0, none⟩) (Kd.R_far (p := ⟨gb113, 1, none⟩) (Kd.R_far (p := ⟨gb113, 0, none⟩) (Kd.R_types (Kd.R_mono HO_25.out (fun k_ hk => (⟨hk, hk.2⟩ : _ ∧ k_ ≠ gb113))) BK111.out (by decide)) (fun _ hk => hk.1.2) (.int .i64 ((rd_T62 x3_1 x27_2).f0))) (fun _ hk => hk.1.2) (.int .i64 ((rd_T62 x3_1 x27_2).f1))) (fun _ hk => hk.2) (.int .i64 0)) (fun _ hk => trivial)⟩, ⟨by (with_reducible repeat (first | apply Kd.R_alloc | apply Kd.R_drewN | apply Kd.R_drew)); exact Kd.R_mono (Kd.R_far (p := ⟨gb111, 0, none⟩) (Kd.R_far (p := ⟨gb113, 1, none⟩) (Kd.R_far (p := ⟨gb113, 0, none⟩) (Kd.R_types (Kd.R_mono HO_112001.out (fun k_ hk => (⟨hk, hk.2⟩ : _ ∧ k_ ≠ gb113))) BK111.out (by decide)) (fun _ hk => hk.1.2) (.int .i64 ((rd_T62 x3_1 x27_2).f0))) (fun _ hk => hk.1.2) (.int .i64 ((rd_T62 x3_1 x27_2).f1))) (fun _ hk => hk.2) (.int .i64 0)) (fun _ hk => trivial)⟩, ⟨by (with_reducible repeat (first | refine blk_drewN ?_ _ | refine blk_drew ?_ | refine blk_alloc ?_ _)); refine blk_far ?_ NB101_111.out _; (with_reducible repeat (first | refine blk_drewN ?_ _ | refine blk_drew ?_ | refine blk_alloc ?_ _)); refine blk_far ?_ NB101_113.out _; (with_reducible repeat (first | refine blk_drewN ?_ _ | refine blk_drew ?_ | refine blk_alloc ?_ _)); refine blk_far ?_ NB101_113.out _; (with_reducible repeat (first | refine blk_drewN ?_ _ | refine blk_drew ?_ | refine blk_alloc ?_ _)); exact BK101.out⟩, ⟨by (with_reducible repeat (first | refine blk_drewN ?_ _ | refine blk_drew ?_ | refine blk_alloc ?_ _)); refine blk_far ?_ NB102_111.out _; (with_reducible repeat (first | refine blk_drewN ?_ _ | refine blk_drew ?_ | refine blk_alloc ?_ _)); refine blk_far ?_ NB102_113.out _; (with_reducible repeat (first | refine blk_drewN ?_ _ | refine blk_drew ?_ | refine blk_alloc ?_ _)); refine blk_far ?_ NB102_113.out _; (with_reducible repeat (first | refine blk_drewN ?_ _ | refine blk_drew ?_ | refine blk_alloc ?_ _)); exact BK102.out⟩, ⟨by (with_reducible repeat (first | refine blk_drewN ?_ _ | refine blk_drew ?_ | refine blk_alloc ?_ _)); refine blk_put (cs := #[.int .i64 x112000_2, .slice (some ad112) x3_1.length co21]) ?_ 0 _ rfl; (with_reducible repeat (first | refine blk_drewN ?_ _ | refine blk_drew ?_ | refine blk_alloc ?_ _)); refine blk_far ?_ NB111_113.out _; (with_reducible repeat (first | refine blk_drewN ?_ _ | refine blk_drew ?_ | refine blk_alloc ?_ _)); refine blk_far ?_ NB111_113.out _; (with_reducible repeat (first | refine blk_drewN ?_ _ | refine blk_drew ?_ | refine blk_alloc ?_ _)); exact BK111.out⟩, ⟨by repeat (first | (with_reducible first | exact HB.out | apply below_alloc | apply pw_below_drewN | apply below_drew1 | refine below_set ?_ GE101.out | refine below_set ?_ GE102.out | refine below_set ?_ GE111.out | refine below_set ?_ GE113.out) | exact HB.out)⟩⟩
         ·rw [if_neg c29] at H
          have c29b0 : decide (x112000_2 ≤ ((rd_T62 x3_1 x27_2).f1)) = false := decide_eq_false c29
          clear c29
          have H' := Aside0.mk H
          clear H
          have p112 : 0 ≤ (x27_2 : Int) := of_decide_eq_true (by first | (with_reducible assumption) | assumption)
          have q112 : x27_2 < (x3_1.length : Int) := of_decide_eq_true (by first | (with_reducible assumption) | assumption)
          obtain ⟨ad112, e112, hx112_0, hx112_1⟩ := at_T62 (Kd.R_reads' HO_25.out).2.2 x27_2 p112 q112
          cases e112
          replace p112 := eq_true p112
          replace q112 := eq_true q112
          go_wp2_with (first | ((with_reducible refine gate_dst (N := 8) rfl ?_); refine box_event ?hg (N := 8) ?hd (cs := #[.int .i64 0, .int .i64 0]) (t := 62) ?hr ?_; (case hd => rfl); (case hg => rfl); (case hr => first | (go_simp; done) | (go_simp; rfl)); intro gb113 hg w38 hbox hb; have BK113 := Aside0.mk (hbox); have GW113 := Aside0.mk ((bs_ hg HB : w.heap.size ≤ gb113)); have GE113 := Aside0.mk ((bs_ hg HB : w.heap.size ≤ gb113)); have NB101_113 := Aside0.mk ((nl_ hg BK101 : gb101 ≠ gb113)); have NB113_101 := Aside0.mk ((ng_ hg BK101 : gb113 ≠ gb101)); have NB102_113 := Aside0.mk ((nl_ hg BK102 : gb102 ≠ gb113)); have NB113_102 := Aside0.mk ((ng_ hg BK102 : gb113 ≠ gb102)); have NB111_113 := Aside0.mk ((nl_ hg BK111 : gb111 ≠ gb113)); have NB113_111 := Aside0.mk ((ng_ hg BK111 : gb113 ≠ gb111)); replace HO_25 := Aside0.mk (Kd.R_below (Kd.R_elderB (rl_ HO_25) gb113 (Nat.le_of_eq hg.symm)) hb); replace HO_112001 := Aside0.mk (Kd.R_below (Kd.R_elderB (rl_ HO_112001) gb113 (Nat.le_of_eq hg.symm)) hb); replace BK101 := bb_ BK101 hb; replace BK102 := bb_ BK102 hb; replace BK111 := bb_ BK111 hb; replace HB := hs_ HB hb; clear hb hbox hg; have hnb39 := NB113_101.out; have hnc39 := NB101_113.out; have hnb40 := NB113_102.out; have hnc40 := NB102_113.out; have hnb41 := NB113_111.out; have hnc41 := NB111_113.out; have hcz42_0 : w38.cell? ⟨gb113, 0, none⟩ = some (.int .i64 0) := (blk_cell BK113.out 0).trans rfl; have hcz42_1 : w38.cell? ⟨gb113, 1, none⟩ = some (.int .i64 0) := (blk_cell BK113.out 1).trans rfl; have hfz42_0 := blk_frozen BK113.out 0; have hfz42_1 := blk_frozen BK113.out 1; have hnb43 := NB111_101.out; have hnc43 := NB101_111.out; have hnb44 := NB111_102.out; have hnc44 := NB102_111.out; have hcz45_0 : w38.cell? ⟨gb111, 0, none⟩ = some (.int .i64 x112000_2) := (blk_cell BK111.out 0).trans rfl; have hcz45_1 : w38.cell? ⟨gb111, 1, none⟩ = some (.slice (some ad112) x3_1.length co21) := (blk_cell BK111.out 1).trans rfl; have hfz45_0 := blk_frozen BK111.out 0; have hfz45_1 := blk_frozen BK111.out 1))
          go_roundg k2
          case measure => have := HK1.out; have := HK2.out; omega
          case rel => exact ⟨(wrap64 (x27_2 + 1)), (x112000_2), (by first | rfl | (simp; done) | (simp [*]; done)), H', ⟨by have := HK1.out; have := HK2.out; omega⟩, ⟨by (with_reducible repeat (first | apply Kd.R_alloc | apply Kd.R_drewN | apply Kd.R_drew)); exact Kd.R_mono (Kd.R_far (p := ⟨gb113, 1, none⟩) (Kd.R_far (p := ⟨gb113, 0, none⟩) (Kd.R_mono HO_25.out (fun k_ hk => (⟨hk, hk.2⟩ : _ ∧ k_ ≠ gb113))) (fun _ hk => hk.2) (.int .i64 ((rd_T62 x3_1 x27_2).f0))) (fun _ hk => hk.2) (.int .i64 ((rd_T62 x3_1 x27_2).f1))) (fun _ hk => trivial)⟩, ⟨by (with_reducible repeat (first | apply Kd.R_alloc | apply Kd.R_drewN | apply Kd.R_drew)); exact Kd.R_mono (Kd.R_far (p := ⟨gb113, 1, none⟩) (Kd.R_far (p := ⟨gb113, 0, none⟩) (Kd.R_mono HO_112001.out (fun k_ hk => (⟨hk, hk.2⟩ : _ ∧ k_ ≠ gb113))) (fun _ hk => hk.2) (.int .i64 ((rd_T62 x3_1 x27_2).f0))) (fun _ hk => hk.2) (.int .i64 ((rd_T62 x3_1 x27_2).f1))) (fun _ hk => trivial)⟩, ⟨by (with_reducible repeat (first | refine blk_drewN ?_ _ | refine blk_drew ?_ | refine blk_alloc ?_ _)); refine blk_far ?_ NB101_113.out _; (with_reducible repeat (first | refine blk_drewN ?_ _ | refine blk_drew ?_ | refine blk_alloc ?_ _)); refine blk_far ?_ NB101_113.out _; (with_reducible repeat (first | refine blk_drewN ?_ _ | refine blk_drew ?_ | refine blk_alloc ?_ _)); exact BK101.out⟩, ⟨by (with_reducible repeat (first | refine blk_drewN ?_ _ | refine blk_drew ?_ | refine blk_alloc ?_ _)); refine blk_far ?_ NB102_113.out _; (with_reducible repeat (first | refine blk_drewN ?_ _ | refine blk_drew ?_ | refine blk_alloc ?_ _)); refine blk_far ?_ NB102_113.out _; (with_reducible repeat (first | refine blk_drewN ?_ _ | refine blk_drew ?_ | refine blk_alloc ?_ _)); exact BK102.out⟩, ⟨by (with_reducible repeat (first | refine blk_drewN ?_ _ | refine blk_drew ?_ | refine blk_alloc ?_ _)); refine blk_far ?_ NB111_113.out _; (with_reducible repeat (first | refine blk_drewN ?_ _ | refine blk_drew ?_ | refine blk_alloc ?_ _)); refine blk_far ?_ NB111_113.out _; (with_reducible repeat (first | refine blk_drewN ?_ _ | refine blk_drew ?_ | refine blk_alloc ?_ _)); exact BK111.out⟩, ⟨by repeat (first | (with_reducible first | exact HB.out | apply below_alloc | apply pw_below_drewN | apply below_drew1 | refine below_set ?_ GE101.out | refine below_set ?_ GE102.out | refine below_set ?_ GE111.out | refine below_set ?_ GE113.out) | exact HB.out)⟩⟩
        ·rw [if_neg c28] at H
         exact absurd H (by simp)
       ·rw [if_neg c27] at H
        exact absurd H (by simp)
      ·rw [if_neg c26] at H
       have c26b0 : decide (x27_2 < (x3_1.length : Int)) = false := decide_eq_false c26
       clear c26
       simp only [Option.some.injEq, Prod.mk.injEq] at H
       obtain ⟨rfl, rfl⟩ := H
       have hnb46 := NB111_101.out
       have hnc46 := NB101_111.out
       have hnb47 := NB111_102.out
       have hnc47 := NB102_111.out
       have hcz48_0 : wr.cell? ⟨gb111, 0, none⟩ = some (.int .i64 x112000_2) := (blk_cell BK111.out 0).trans rfl
       have hcz48_1 : wr.cell? ⟨gb111, 1, none⟩ = some (.slice Ao21 x3_1.length co21) := (blk_cell BK111.out 1).trans rfl
       have hfz48_0 := blk_frozen BK111.out 0
       have hfz48_1 := blk_frozen BK111.out 1
       have hnb49 := NB102_101.out
       have hnc49 := NB101_102.out
       have hcz50_0 : wr.cell? ⟨gb102, 0, none⟩ = some (.int .i64 0) := (blk_cell BK102.out 0).trans rfl
       have hcz50_1 : wr.cell? ⟨gb102, 1, none⟩ = some (.slice none 0 0) := (blk_cell BK102.out 1).trans rfl
       have hfz50_0 := blk_frozen BK102.out 0
       have hfz50_1 := blk_frozen BK102.out 1
       go_wp2
       refine bodyPost_ret (results_cell_row rfl _ _ gb102 43 #[.int .i64 x112000_2, .slice Ao21 x3_1.length co21] (0, 0) _ rfl (by (with_reducible repeat (first | refine blk_drewN ?_ _ | refine blk_drew ?_ | refine blk_alloc ?_ _)); refine blk_put (cs := #[.int .i64 x112000_2, .slice none 0 0]) ?_ 1 _ rfl; (with_reducible repeat (first | refine blk_drewN ?_ _ | refine blk_drew ?_ | refine blk_alloc ?_ _)); refine blk_put (cs := #[.int .i64 0, .slice none 0 0]) ?_ 0 _ rfl; (with_reducible repeat (first | refine blk_drewN ?_ _ | refine blk_drew ?_ | refine blk_alloc ?_ _)); exact BK102.out) Try.underlying43 rfl (by kernel_rfl)) rfl ?_
       exact ⟨_, by first | rfl | (simp [errW_none, errW_some] <;> rfl) | (simp [*, errW_none, errW_some] <;> rfl), by (with_reducible repeat (first | apply Kd.R_alloc | apply Kd.R_drewN | apply Kd.R_drew)); exact Kd.R_mono (Kd.R_far (p := ⟨gb102, 1, none⟩) (Kd.R_far (p := ⟨gb102, 0, none⟩) (Kd.R_types HO_112001.out BK102.out (by decide)) (fun _ hk => hk.2) (.int .i64 x112000_2)) (fun _ hk => hk.2) (.slice Ao21 x3_1.length co21)) (fun _ hk => trivial), by repeat (first | (with_reducible first | exact HB.out | apply below_alloc | apply pw_below_drewN | apply below_drew1 | refine below_set ?_ GE101.out | refine below_set ?_ GE102.out | refine below_set ?_ GE111.out) | exact HB.out)⟩

end Go.Proofs.Ytbopadglafbdjaa.PX
