-- by wip/tools/gprint.py of this session over the kit's print; given functions are this session's own text
import Derived.Test.YtbopadglafbdjaaPXx0
import Derived.Test.YtbopadglafbdjaaPXxf41
import Derived.Test.YtbopadglafbdjaaPXxf82
namespace Go.Proofs.Ytbopadglafbdjaa.PX
open Go.RowKit Go.Proofs.YtbopadglafbdjaaW.PrintWords Go.Proofs.YtbopadglafbdjaaW.PrintLast Go.Proofs.YtbopadglafbdjaaW.PrintMore
attribute [local go_sem] max2_int min2_int max_two min_two max_three min_three max_four min_four   -- for this text's walks alone
set_option linter.unusedVariables false
set_option linter.unusedSimpArgs false

/-! ### telamonref1_Max: function 48 -/
def telamonref1_Max.j0 : Nat → Bool → Int → List (S62) → Int → List (S62) → Option (Int × (List (S62)) × Int)
 | 0, _, _, _, _, _ => none
 | k + 1, x24, x102000, x102001, x103000, x103001 => if x24 = true then (some (0, ([] : List (S62)), 13)) else (if ([] : List (S62)).length + x102001.length < 8796093022208 then ((some (([] : List (S62)) ++ x102001 : List (S62))).bind fun y114 => (if y114.length + x103001.length < 8796093022208 then ((some (y114 ++ x103001 : List (S62))).bind fun y117 => (if x103000 > x102000 then ((telamonref1_fits.f k x103000 y117).bind fun bt121 => (some (bt121.1, bt121.2.1, bt121.2.2))) else ((telamonref1_fits.f k x102000 y117).bind fun bt126 => (some (bt126.1, bt126.2.1, bt126.2.2))))) else (none))) else (none))
def telamonref1_Max.f (k : Nat) (a0_0 : Int) (l0_1 : List (S62)) (a1_0 : Int) (l1_1 : List (S62)) : Option (Int × (List (S62)) × Int) := (telamonref1_Norm.f k a0_0 l0_1).bind fun bt104 => ((telamonref1_Norm.f k a1_0 l1_1).bind fun bt109 => (if bt104.2.2 = 0 then (telamonref1_Max.j0 k (bt109.2.2 != 0) bt104.1 bt104.2.1 bt109.1 bt109.2.1) else (telamonref1_Max.j0 k true bt104.1 bt104.2.1 bt109.1 bt109.2.1)))
theorem telamonref1_Max.mono_l : ∀ k, (∀ y0 y1 y2 y3 y4, LeO (telamonref1_Max.j0 k y0 y1 y2 y3 y4) (telamonref1_Max.j0 (k + 1) y0 y1 y2 y3 y4))
 | 0 => fun _ _ _ _ _ r h => by simp [telamonref1_Max.j0] at h
 | k + 1 => by
  have ih0 := telamonref1_Max.mono_l k
  ·intro y0 y1 y2 y3 y4
   unfold telamonref1_Max.j0
   repeat' first
   | (with_reducible exact ih0 _ _ _ _ _)
   | (with_reducible exact telamonref1_Norm.mono _ _ _)
   | (with_reducible exact telamonref1_fits.mono _ _ _)
   | (with_reducible exact LeO.refl _)
   | (with_reducible exact LeO.none _)
   | (with_reducible refine LeO.ite ?_ ?_)
   | (with_reducible refine LeO.bind ?_ (fun _ => ?_))
   | exact ih0 _ _ _ _ _
   | exact telamonref1_Norm.mono _ _ _
   | exact telamonref1_fits.mono _ _ _
   | exact LeO.none _
   | refine LeO.ite ?_ ?_
   | refine LeO.bind ?_ (fun _ => ?_)
theorem telamonref1_Max.mono : ∀ a0 a1 a2 a3 k, LeO (telamonref1_Max.f k a0 a1 a2 a3) (telamonref1_Max.f (k + 1) a0 a1 a2 a3) := by
 intro a0 a1 a2 a3 k
 have ih0 := telamonref1_Max.mono_l k
 unfold telamonref1_Max.f
 repeat' first
   | (with_reducible exact ih0 _ _ _ _ _)
   | (with_reducible exact telamonref1_Norm.mono _ _ _)
   | (with_reducible exact telamonref1_fits.mono _ _ _)
   | (with_reducible exact LeO.refl _)
   | (with_reducible exact LeO.none _)
   | (with_reducible refine LeO.ite ?_ ?_)
   | (with_reducible refine LeO.bind ?_ (fun _ => ?_))
   | exact ih0 _ _ _ _ _
   | exact telamonref1_Norm.mono _ _ _
   | exact telamonref1_fits.mono _ _ _
   | exact LeO.none _
   | refine LeO.ite ?_ ?_
   | refine LeO.bind ?_ (fun _ => ?_)
def telamonref1_Max.T5 : Bool × List (List Nat × List Nat) := (true, [([], []), ([0], [0]), ([], []), ([2], [2]), ([3], [3]), ([], []), ([5], [5]), ([4, 6, 4], [4, 6]), ([1, 7], [1, 7]), ([], []), ([9, 8, 7, 0, 1, 2, 3, 4, 5, 6, 7, 8, 9], [8, 9])])
def telamonref1_Max.B5 : List Nat := [0, 1, 0, 4, 12, 0, 32, 124, 255, 0, 1023]
theorem telamonref1_Max.tab5 : rtab .any (opsOf Try.f48 5) = telamonref1_Max.T5 := by kernel_rfl
theorem telamonref1_Max.bits5 : waitsOk telamonref1_Max.T5.2 telamonref1_Max.B5 = true := by kernel_rfl
set_option maxHeartbeats 8000000 in
set_option maxRecDepth 100000 in
theorem telamonref1_Max.calls (k : Nat) (a0_0 : Int) (A0_1 : Option Addr) (c0_1 : Nat) (l0_1 : List (S62)) (a1_0 : Int) (A1_1 : Option Addr) (c1_1 : Nat) (l1_1 : List (S62)) (r1 : Int) (r2 : List (S62)) (r3 : Int) (w : World) (hr0_1 : Kd.C k62 w A0_1 l0_1.length l0_1) (hc0_1 : l0_1.length ≤ c0_1) (hr1_1 : Kd.C k62 w A1_1 l1_1.length l1_1) (hc1_1 : l1_1.length ≤ c1_1) (h : telamonref1_Max.f k a0_0 l0_1 a1_0 l1_1 = some (r1, r2, r3)) :
  Calls Try.prog 48 #[.agg #[.int .i64 a0_0, .slice A0_1 l0_1.length c0_1], .agg #[.int .i64 a1_0, .slice A1_1 l1_1.length c1_1]] w fun e w' => ∃ v1_ : Value, e = .returned (.tuple #[.agg #[.int .i64 r1, v1_], .int .i64 r3]) ∧ Kd.R k62 62 w' w.heap.size (fun _ => True) v1_ r2 ∧ Below w.heap.size w w' := by
 have hu43 := Try.underlying43
 have HR0_1 := Aside0.mk hr0_1
 have HC0_1 := Aside0.mk hc0_1
 clear hr0_1 hc0_1
 have HR1_1 := Aside0.mk hr1_1
 have HC1_1 := Aside0.mk hc1_1
 clear hr1_1 hc1_1
 have HB := Aside0.mk (Below.refl w.heap.size w)
 have H : ((telamonref1_Norm.f k a0_0 l0_1).bind fun bt104 => ((telamonref1_Norm.f k a1_0 l1_1).bind fun bt109 => (if bt104.2.2 = 0 then (telamonref1_Max.j0 k (bt109.2.2 != 0) bt104.1 bt104.2.1 bt109.1 bt109.2.1) else (telamonref1_Max.j0 k true bt104.1 bt104.2.1 bt109.1 bt109.2.1)))) = some (r1, r2, r3) := h
 clear h
 replace H := Option.bind_eq_some_iff.mp H
 obtain ⟨⟨t104, t105, t108⟩, A30, H⟩ := H
 replace H : ((telamonref1_Norm.f k a1_0 l1_1).bind fun bt109 => (if t108 = 0 then (telamonref1_Max.j0 k (bt109.2.2 != 0) t104 t105 bt109.1 bt109.2.1) else (telamonref1_Max.j0 k true t104 t105 bt109.1 bt109.2.1))) = some (r1, r2, r3) := H
 have A3 := Aside0.mk A30
 clear A30
 replace H := Option.bind_eq_some_iff.mp H
 obtain ⟨⟨t109, t110, t113⟩, A40, H⟩ := H
 replace H : (if t108 = 0 then (telamonref1_Max.j0 k (t113 != 0) t104 t105 t109 t110) else (telamonref1_Max.j0 k true t104 t105 t109 t110)) = some (r1, r2, r3) := H
 have A4 := Aside0.mk A40
 clear A40
 have HC5 := Aside0.mk H
 clear H
 go_enter Try.func48, Try.ntmps48
 go_upto_region 3 with (first | ((with_reducible refine gate_dst (N := 2) rfl ?_); refine box_event ?hg (N := 2) ?hd (cs := #[.int .i64 a0_0, .slice A0_1 l0_1.length c0_1]) (t := 43) ?hr ?_; (case hd => rfl); (case hg => rfl); (case hr => first | (go_simp; done) | (go_simp; rfl)); intro gb101 hg w6 hbox hb; have BK101 := Aside0.mk (hbox); have GW101 := Aside0.mk ((bs_ hg HB : w.heap.size ≤ gb101)); have GE101 := Aside0.mk ((bs_ hg HB : w.heap.size ≤ gb101)); replace HB := hs_ HB hb; clear hb hbox hg) | ((with_reducible refine gate_dst (N := 3) rfl ?_); refine box_event ?hg (N := 3) ?hd (cs := #[.int .i64 a1_0, .slice A1_1 l1_1.length c1_1]) (t := 43) ?hr ?_; (case hd => rfl); (case hg => rfl); (case hr => first | (go_simp; done) | (go_simp; rfl)); intro gb102 hg w7 hbox hb; have BK102 := Aside0.mk (hbox); have GW102 := Aside0.mk ((bs_ hg HB : w.heap.size ≤ gb102)); have GE102 := Aside0.mk ((bs_ hg HB : w.heap.size ≤ gb102)); have NB101_102 := Aside0.mk ((nl_ hg BK101 : gb101 ≠ gb102)); have NB102_101 := Aside0.mk ((ng_ hg BK101 : gb102 ≠ gb101)); replace BK101 := bb_ BK101 hb; replace HB := hs_ HB hb; clear hb hbox hg) | ((with_reducible refine gate_dst (N := 4) rfl ?_); refine box_event ?hg (N := 4) ?hd (cs := #[.int .i64 0, .slice none 0 0]) (t := 43) ?hr ?_; (case hd => rfl); (case hg => rfl); (case hr => first | (go_simp; done) | (go_simp; rfl)); intro gb103 hg w8 hbox hb; have BK103 := Aside0.mk (hbox); have GW103 := Aside0.mk ((bs_ hg HB : w.heap.size ≤ gb103)); have GE103 := Aside0.mk ((bs_ hg HB : w.heap.size ≤ gb103)); have NB101_103 := Aside0.mk ((nl_ hg BK101 : gb101 ≠ gb103)); have NB103_101 := Aside0.mk ((ng_ hg BK101 : gb103 ≠ gb101)); have NB102_103 := Aside0.mk ((nl_ hg BK102 : gb102 ≠ gb103)); have NB103_102 := Aside0.mk ((ng_ hg BK102 : gb103 ≠ gb102)); replace BK101 := bb_ BK101 hb; replace BK102 := bb_ BK102 hb; replace HB := hs_ HB hb; clear hb hbox hg; have hnb9 := NB101_102.out; have hnc9 := NB102_101.out; have hnb10 := NB101_103.out; have hnc10 := NB103_101.out; have hcz11_0 : w8.cell? ⟨gb101, 0, none⟩ = some (.int .i64 a0_0) := (blk_cell BK101.out 0).trans rfl; have hcz11_1 : w8.cell? ⟨gb101, 1, none⟩ = some (.slice A0_1 l0_1.length c0_1) := (blk_cell BK101.out 1).trans rfl; have hfz11_0 := blk_frozen BK101.out 0; have hfz11_1 := blk_frozen BK101.out 1) | ((with_reducible refine gate_callee (f := 41) rfl ?_); refine goesL_ (some 11) rfl rfl Try.func41 (by kernel_rfl) rfl #[.agg #[.int .i64 a0_0, .slice A0_1 l0_1.length c0_1]] rfl (by (try simp only [List.map_toArray, List.map_cons, List.map_nil]); first | done | rfl | (simp only [List.length_drop, List.length_take]; rfl)) ?_; (with_reducible refine (telamonref1_Norm.calls k a0_0 _ _ l0_1 t104 t105 t108 _ ?side1 ?side2 A3.out).mono ?_); (case side1 => repeat (first | exact (Kd.C_below HR0_1.out HB.out) | (with_reducible refine Kd.C_alloc ?_ _) | (with_reducible refine Kd.C_drewN ?_ _) | (with_reducible refine Kd.C_drew ?_))); (case side2 => exact HC0_1.out); rintro e w12 ⟨v106, rfl, ho0, hb⟩; refine ⟨_, rfl, ?_⟩; have HO107 := Aside0.mk (Kd.R_lower ho0 (below_size (bl_ HB))); replace BK101 := bb_ BK101 hb; replace BK102 := bb_ BK102 hb; replace BK103 := bb_ BK103 hb; replace HB := hs_ HB hb; (try clear hb); (try clear hb2); (try clear hk); (try clear hi); (try clear ho0); have hcz13_0 : w12.cell? ⟨gb101, 0, none⟩ = some (.int .i64 a0_0) := (blk_cell BK101.out 0).trans rfl; have hcz13_1 : w12.cell? ⟨gb101, 1, none⟩ = some (.slice A0_1 l0_1.length c0_1) := (blk_cell BK101.out 1).trans rfl; have hfz13_0 := blk_frozen BK101.out 0; have hfz13_1 := blk_frozen BK101.out 1; obtain ⟨Ao14, co14, eo14⟩ := Kd.R_slice HO107.out; subst eo14; have hnb15 := NB102_103.out; have hnc15 := NB103_102.out; have hcz16_0 : w12.cell? ⟨gb102, 0, none⟩ = some (.int .i64 a1_0) := (blk_cell BK102.out 0).trans rfl; have hcz16_1 : w12.cell? ⟨gb102, 1, none⟩ = some (.slice A1_1 l1_1.length c1_1) := (blk_cell BK102.out 1).trans rfl; have hfz16_0 := blk_frozen BK102.out 0; have hfz16_1 := blk_frozen BK102.out 1) | ((with_reducible refine gate_callee (f := 41) rfl ?_); refine goesL_ (some 16) rfl rfl Try.func41 (by kernel_rfl) rfl #[.agg #[.int .i64 a1_0, .slice A1_1 l1_1.length c1_1]] rfl (by (try simp only [List.map_toArray, List.map_cons, List.map_nil]); first | done | rfl | (simp only [List.length_drop, List.length_take]; rfl)) ?_; (with_reducible refine (telamonref1_Norm.calls k a1_0 _ _ l1_1 t109 t110 t113 _ ?side1 ?side2 A4.out).mono ?_); (case side1 => exact Kd.C_below HR1_1.out (bl_ HB)); (case side2 => exact HC1_1.out); rintro e w17 ⟨v111, rfl, ho0, hb⟩; refine ⟨_, rfl, ?_⟩; have HO112 := Aside0.mk (Kd.R_lower (Kd.R_new' ho0 (Kd.R_lt (by (with_reducible repeat (first | apply Kd.R_alloc | apply Kd.R_drewN | apply Kd.R_drew)); exact (Kd.R_mono (Kd.R_far (p := ⟨gb101, 1, none⟩) (Kd.R_far (p := ⟨gb101, 0, none⟩) (Kd.R_types HO107.out BK101.out (by decide)) (fun _ hk => hk.2) (.int .i64 t104)) (fun _ hk => hk.2) (.slice Ao14 t105.length co14)) (fun _ h_ => h_.1))))) (below_size (bl_ HB))); replace HO107 := Aside0.mk (Kd.R_elder' (by (with_reducible repeat (first | apply Kd.R_alloc | apply Kd.R_drewN | apply Kd.R_drew)); exact (Kd.R_mono (Kd.R_far (p := ⟨gb101, 1, none⟩) (Kd.R_far (p := ⟨gb101, 0, none⟩) (Kd.R_types HO107.out BK101.out (by decide)) (fun _ hk => hk.2) (.int .i64 t104)) (fun _ hk => hk.2) (.slice Ao14 t105.length co14)) (fun _ h_ => h_.1))) (Kd.R_base ho0) hb); replace BK101 := Aside0.mk (blk_below (g := gb101) (o := .cells #[.int .i64 t104, .slice Ao14 t105.length co14] 43 (0, 0)) (by (with_reducible repeat (first | refine blk_drewN ?_ _ | refine blk_drew ?_ | refine blk_alloc ?_ _)); refine blk_put (cs := #[.int .i64 t104, .slice A0_1 l0_1.length c0_1]) ?_ 1 _ rfl; (with_reducible repeat (first | refine blk_drewN ?_ _ | refine blk_drew ?_ | refine blk_alloc ?_ _)); refine blk_put (cs := #[.int .i64 a0_0, .slice A0_1 l0_1.length c0_1]) ?_ 0 _ rfl; (with_reducible repeat (first | refine blk_drewN ?_ _ | refine blk_drew ?_ | refine blk_alloc ?_ _)); exact BK101.out) hb); replace BK102 := Aside0.mk (blk_below (pf_ BK102) hb); replace BK103 := Aside0.mk (blk_below (pf_ BK103) hb); replace HB := hs_ HB hb; (try clear hb); (try clear hb2); (try clear hk); (try clear hi); (try clear ho0); have hcz18_0 : w17.cell? ⟨gb102, 0, none⟩ = some (.int .i64 a1_0) := (blk_cell BK102.out 0).trans rfl; have hcz18_1 : w17.cell? ⟨gb102, 1, none⟩ = some (.slice A1_1 l1_1.length c1_1) := (blk_cell BK102.out 1).trans rfl; have hfz18_0 := blk_frozen BK102.out 0; have hfz18_1 := blk_frozen BK102.out 1; obtain ⟨Ao19, co19, eo19⟩ := Kd.R_slice HO112.out; subst eo19))
 (try simp only [Act.put, List.setIfInBounds_toArray, List.set_cons_zero, List.set_cons_succ])
 go_cut [24] (fun v24 wc => ∃ (kq : Nat) (x24_4 : Bool), v24 = .bool x24_4 ∧ Aside0 (telamonref1_Max.j0 kq x24_4 t104 t105 t109 t110 = some (r1, r2, r3)) ∧ Aside0 (kq ≤ k) ∧ Aside0 (Kd.R k62 62 wc w.heap.size (fun k_ => some k_ ≠ ((.slice Ao19 t110.length co19) : Value).ownBlock) (.slice Ao14 t105.length co14) t105) ∧ Aside0 (Kd.R k62 62 wc w.heap.size (fun k_ => some k_ ≠ ((.slice Ao14 t105.length co14) : Value).ownBlock) (.slice Ao19 t110.length co19) t110) ∧ Aside0 (wc.heap[gb101]? = some (.cells #[.int .i64 t104, (.slice Ao14 t105.length co14)] 43 (0, 0))) ∧ Aside0 (wc.heap[gb102]? = some (.cells #[.int .i64 t109, (.slice Ao19 t110.length co19)] 43 (0, 0))) ∧ Aside0 (wc.heap[gb103]? = some (.cells #[.int .i64 0, (.slice none 0 0)] 43 (0, 0))) ∧ Aside0 (Below w.heap.size w wc))
 case first =>
  have H := HC5.out
  clear HC5
  by_cases c20 : t108 = 0
  ·rw [if_pos c20] at H
   have c20b0 : (t108 == 0) = true := beq_iff_eq.mpr c20
   have c20b1 : (t108 != 0) = false := bne_eq_false_iff_eq.mpr c20
   clear c20
   (first | rw [c20b0] | (simp only [i64_w, i32_w]; rw [c20b0]) | skip)
   have H' := Aside0.mk H
   clear H
   go_wp2
   go_meet
   case rel => exact ⟨_, ((t113 != 0)), (by first | rfl | (simp; done) | (simp [*]; done)), H', ⟨by first | omega | exact Nat.le_refl _⟩, ⟨by (with_reducible repeat (first | apply Kd.R_alloc | apply Kd.R_drewN | apply Kd.R_drew)); exact Kd.R_mono (Kd.R_far (p := ⟨gb102, 1, none⟩) (Kd.R_far (p := ⟨gb102, 0, none⟩) (Kd.R_types HO107.out BK102.out (by decide)) (fun _ hk => hk.2) (.int .i64 t109)) (fun _ hk => hk.2) (.slice Ao19 t110.length co19)) (fun _ hk => hk.1.2)⟩, ⟨by (with_reducible repeat (first | apply Kd.R_alloc | apply Kd.R_drewN | apply Kd.R_drew)); exact Kd.R_mono (Kd.R_far (p := ⟨gb102, 1, none⟩) (Kd.R_far (p := ⟨gb102, 0, none⟩) (Kd.R_types HO112.out BK102.out (by decide)) (fun _ hk => hk.2) (.int .i64 t109)) (fun _ hk => hk.2) (.slice Ao19 t110.length co19)) (fun _ hk => hk.1.2)⟩, ⟨by (with_reducible repeat (first | refine blk_drewN ?_ _ | refine blk_drew ?_ | refine blk_alloc ?_ _)); refine blk_far ?_ NB101_102.out _; (with_reducible repeat (first | refine blk_drewN ?_ _ | refine blk_drew ?_ | refine blk_alloc ?_ _)); refine blk_far ?_ NB101_102.out _; (with_reducible repeat (first | refine blk_drewN ?_ _ | refine blk_drew ?_ | refine blk_alloc ?_ _)); exact BK101.out⟩, ⟨by (with_reducible repeat (first | refine blk_drewN ?_ _ | refine blk_drew ?_ | refine blk_alloc ?_ _)); refine blk_put (cs := #[.int .i64 t109, .slice A1_1 l1_1.length c1_1]) ?_ 1 _ rfl; (with_reducible repeat (first | refine blk_drewN ?_ _ | refine blk_drew ?_ | refine blk_alloc ?_ _)); refine blk_put (cs := #[.int .i64 a1_0, .slice A1_1 l1_1.length c1_1]) ?_ 0 _ rfl; (with_reducible repeat (first | refine blk_drewN ?_ _ | refine blk_drew ?_ | refine blk_alloc ?_ _)); exact BK102.out⟩, ⟨by (with_reducible repeat (first | refine blk_drewN ?_ _ | refine blk_drew ?_ | refine blk_alloc ?_ _)); refine blk_far ?_ NB103_102.out _; (with_reducible repeat (first | refine blk_drewN ?_ _ | refine blk_drew ?_ | refine blk_alloc ?_ _)); refine blk_far ?_ NB103_102.out _; (with_reducible repeat (first | refine blk_drewN ?_ _ | refine blk_drew ?_ | refine blk_alloc ?_ _)); exact BK103.out⟩, ⟨by repeat (first | (with_reducible first | exact HB.out | apply below_alloc | apply pw_below_drewN | apply below_drew1 | refine below_set ?_ GE101.out | refine below_set ?_ GE102.out | refine below_set ?_ GE103.out) | exact HB.out)⟩⟩
  ·rw [if_neg c20] at H
   have c20b0 : (t108 == 0) = false := beq_eq_false_iff_ne.mpr c20
   have c20b1 : (t108 != 0) = true := bne_iff_ne.mpr c20
   (first | rw [c20b0] | (simp only [i64_w, i32_w]; rw [c20b0]) | skip)
   have H' := Aside0.mk H
   clear H
   go_wp2
   go_meet
   case rel => exact ⟨_, (true), (by first | rfl | (simp; done) | (simp [*]; done)), H', ⟨by first | omega | exact Nat.le_refl _⟩, ⟨by (with_reducible repeat (first | apply Kd.R_alloc | apply Kd.R_drewN | apply Kd.R_drew)); exact Kd.R_mono (Kd.R_far (p := ⟨gb102, 1, none⟩) (Kd.R_far (p := ⟨gb102, 0, none⟩) (Kd.R_types HO107.out BK102.out (by decide)) (fun _ hk => hk.2) (.int .i64 t109)) (fun _ hk => hk.2) (.slice Ao19 t110.length co19)) (fun _ hk => hk.1.2)⟩, ⟨by (with_reducible repeat (first | apply Kd.R_alloc | apply Kd.R_drewN | apply Kd.R_drew)); exact Kd.R_mono (Kd.R_far (p := ⟨gb102, 1, none⟩) (Kd.R_far (p := ⟨gb102, 0, none⟩) (Kd.R_types HO112.out BK102.out (by decide)) (fun _ hk => hk.2) (.int .i64 t109)) (fun _ hk => hk.2) (.slice Ao19 t110.length co19)) (fun _ hk => hk.1.2)⟩, ⟨by (with_reducible repeat (first | refine blk_drewN ?_ _ | refine blk_drew ?_ | refine blk_alloc ?_ _)); refine blk_far ?_ NB101_102.out _; (with_reducible repeat (first | refine blk_drewN ?_ _ | refine blk_drew ?_ | refine blk_alloc ?_ _)); refine blk_far ?_ NB101_102.out _; (with_reducible repeat (first | refine blk_drewN ?_ _ | refine blk_drew ?_ | refine blk_alloc ?_ _)); exact BK101.out⟩, ⟨by (with_reducible repeat (first | refine blk_drewN ?_ _ | refine blk_drew ?_ | refine blk_alloc ?_ _)); refine blk_put (cs := #[.int .i64 t109, .slice A1_1 l1_1.length c1_1]) ?_ 1 _ rfl; (with_reducible repeat (first | refine blk_drewN ?_ _ | refine blk_drew ?_ | refine blk_alloc ?_ _)); refine blk_put (cs := #[.int .i64 a1_0, .slice A1_1 l1_1.length c1_1]) ?_ 0 _ rfl; (with_reducible repeat (first | refine blk_drewN ?_ _ | refine blk_drew ?_ | refine blk_alloc ?_ _)); exact BK102.out⟩, ⟨by (with_reducible repeat (first | refine blk_drewN ?_ _ | refine blk_drew ?_ | refine blk_alloc ?_ _)); refine blk_far ?_ NB103_102.out _; (with_reducible repeat (first | refine blk_drewN ?_ _ | refine blk_drew ?_ | refine blk_alloc ?_ _)); refine blk_far ?_ NB103_102.out _; (with_reducible repeat (first | refine blk_drewN ?_ _ | refine blk_drew ?_ | refine blk_alloc ?_ _)); exact BK103.out⟩, ⟨by repeat (first | (with_reducible first | exact HB.out | apply below_alloc | apply pw_below_drewN | apply below_drew1 | refine below_set ?_ GE101.out | refine below_set ?_ GE102.out | refine below_set ?_ GE103.out) | exact HB.out)⟩⟩
 case rest =>
  clear HC5
  (try clear c1); (try clear c2); (try clear p2); (try clear c4); (try clear c9); (try clear c10); (try clear c15); (try clear c20); (try clear c20b0); (try clear c20b1); (try clear hcz11_0); (try clear hcz11_1); (try clear hcz13_0); (try clear hcz13_1); (try clear hcz16_0); (try clear hcz16_1); (try clear hcz18_0); (try clear hcz18_1); (try clear hfz11_0); (try clear hfz11_1); (try clear hfz13_0); (try clear hfz13_1); (try clear hfz16_0); (try clear hfz16_1); (try clear hfz18_0); (try clear hfz18_1)
  obtain ⟨kq, x24_4, rfl, HA, HJ4, HO_102001, HO_103001, BK101, BK102, BK103, HB⟩ := hcut
  cases kq with
  | zero => exact absurd HA.out (by simp [telamonref1_Max.j0])
  | succ kj4 =>
   have H := HA.out
   clear HA
   simp only [telamonref1_Max.j0] at H
   by_cases c21 : x24_4 = true
   ·subst c21
    have H1 : (some (0, ([] : List (S62)), 13)) = some (r1, r2, r3) := by rw [if_pos rfl] at H; exact H
    clear H
    have H := H1
    clear H1
    simp only [Option.some.injEq, Prod.mk.injEq] at H
    obtain ⟨rfl, rfl, rfl⟩ := H
    have hnb22 := NB103_101.out
    have hnc22 := NB101_103.out
    have hnb23 := NB103_102.out
    have hnc23 := NB102_103.out
    have hcz24_0 : wc.cell? ⟨gb103, 0, none⟩ = some (.int .i64 0) := (blk_cell BK103.out 0).trans rfl
    have hcz24_1 : wc.cell? ⟨gb103, 1, none⟩ = some (.slice none 0 0) := (blk_cell BK103.out 1).trans rfl
    have hfz24_0 := blk_frozen BK103.out 0
    have hfz24_1 := blk_frozen BK103.out 1
    go_wp2
    refine bodyPost_ret (results_ct rfl _ _ gb103 43 #[.int .i64 0, .slice none 0 0] (0, 0) _ rfl (by (with_reducible repeat (first | refine blk_drewN ?_ _ | refine blk_drew ?_ | refine blk_alloc ?_ _)); refine blk_put (cs := #[.int .i64 0, .slice none 0 0]) ?_ 1 _ rfl; (with_reducible repeat (first | refine blk_drewN ?_ _ | refine blk_drew ?_ | refine blk_alloc ?_ _)); refine blk_put (cs := #[.int .i64 0, .slice none 0 0]) ?_ 0 _ rfl; (with_reducible repeat (first | refine blk_drewN ?_ _ | refine blk_drew ?_ | refine blk_alloc ?_ _)); exact BK103.out) Try.underlying43 rfl (by kernel_rfl)) rfl ?_
    exact ⟨_, by first | rfl | (simp [errW_none, errW_some] <;> rfl) | (simp [*, errW_none, errW_some] <;> rfl), by first | exact Kd.R_nil _ _ _ _ _ | exact Kd.N_nil _ _ _ _ _ | exact Kd.V_nil _ _ _ _ _ | exact Kd.Q_nil _ _ _ _ _ | exact Kd.S_nil _ _ _ _ _, by repeat (first | (with_reducible first | exact HB.out | apply below_alloc | apply pw_below_drewN | apply below_drew1 | refine below_set ?_ GE101.out | refine below_set ?_ GE102.out | refine below_set ?_ GE103.out) | exact HB.out)⟩
   ·replace c21 := Bool.eq_false_iff.mpr c21
    subst c21
    have H1 : (if ([] : List (S62)).length + t105.length < 8796093022208 then ((some (([] : List (S62)) ++ t105 : List (S62))).bind fun y114 => (if y114.length + t110.length < 8796093022208 then ((some (y114 ++ t110 : List (S62))).bind fun y117 => (if t109 > t104 then ((telamonref1_fits.f kj4 t109 y117).bind fun bt121 => (some (bt121.1, bt121.2.1, bt121.2.2))) else ((telamonref1_fits.f kj4 t104 y117).bind fun bt126 => (some (bt126.1, bt126.2.1, bt126.2.2))))) else (none))) else (none)) = some (r1, r2, r3) := by rw [if_neg (show ¬ (false = true) by decide)] at H; exact H
    clear H
    have H := H1
    clear H1
    by_cases c25 : ([] : List (S62)).length + t105.length < 8796093022208
    ·rw [if_pos c25] at H
     have LMc25 := Aside0.mk c25
     clear c25
     obtain ⟨y114, hy114⟩ : ∃ y_ : List (S62), y_ = (([] : List (S62)) ++ t105) := ⟨_, rfl⟩
     replace H : (if y114.length + t110.length < 8796093022208 then ((some (y114 ++ t110 : List (S62))).bind fun y117 => (if t109 > t104 then ((telamonref1_fits.f kj4 t109 y117).bind fun bt121 => (some (bt121.1, bt121.2.1, bt121.2.2))) else ((telamonref1_fits.f kj4 t104 y117).bind fun bt126 => (some (bt126.1, bt126.2.1, bt126.2.2))))) else (none)) = some (r1, r2, r3) := by first | (rw [hy114]; with_reducible exact H) | (have H2_ := (Option.bind_some _ _).symm.trans H; rw [hy114]; with_reducible exact H2_) | (have H2_ := (Option.bind_some _ _).symm.trans H; with_reducible exact H2_) | with_reducible exact H | (rw [hy114]; exact H) | exact H
     have Ny114 := Aside0.mk hy114
     clear hy114
     by_cases c26 : y114.length + t110.length < 8796093022208
     ·rw [if_pos c26] at H
      have LMc26 := Aside0.mk c26
      clear c26
      obtain ⟨y117, hy117⟩ : ∃ y_ : List (S62), y_ = (y114 ++ t110) := ⟨_, rfl⟩
      replace H : (if t109 > t104 then ((telamonref1_fits.f kj4 t109 y117).bind fun bt121 => (some (bt121.1, bt121.2.1, bt121.2.2))) else ((telamonref1_fits.f kj4 t104 y117).bind fun bt126 => (some (bt126.1, bt126.2.1, bt126.2.2)))) = some (r1, r2, r3) := by first | (rw [hy117]; with_reducible exact H) | (have H2_ := (Option.bind_some _ _).symm.trans H; rw [hy117]; with_reducible exact H2_) | (have H2_ := (Option.bind_some _ _).symm.trans H; with_reducible exact H2_) | with_reducible exact H | (rw [hy117]; exact H) | exact H
      have Ny117 := Aside0.mk hy117
      clear hy117
      by_cases c27 : t109 > t104
      ·rw [if_pos c27] at H
       have c27b0 : decide (t104 < t109) = true := decide_eq_true c27
       clear c27
       replace H := Option.bind_eq_some_iff.mp H
       obtain ⟨⟨t121, t122, t125⟩, A280, H⟩ := H
       replace H : (some (t121, t122, t125)) = some (r1, r2, r3) := H
       have A28 := Aside0.mk A280
       clear A280
       simp only [Option.some.injEq, Prod.mk.injEq] at H
       obtain ⟨rfl, rfl, rfl⟩ := H
       try go_wp2
       replace HO_102001 := Aside0.mk (Kd.R_drew HO_102001.out)
       replace HO_103001 := Aside0.mk (Kd.R_drew HO_103001.out)
       replace BK101 := Aside0.mk (blk_drew BK101.out)
       replace BK102 := Aside0.mk (blk_drew BK102.out)
       replace BK103 := Aside0.mk (blk_drew BK103.out)
       replace HB := Aside0.mk (below_drew1 HB.out)
       refine start_ (n := 11) (S := fun w' => w'.cell? ⟨gb101, 0, none⟩ = some (.int .i64 t104) ∧ w'.cell? ⟨gb101, 1, none⟩ = some (.slice Ao14 t105.length co14) ∧ w'.cell? ⟨gb102, 0, none⟩ = some (.int .i64 t109) ∧ w'.cell? ⟨gb102, 1, none⟩ = some (.slice Ao19 t110.length co19)) (ds := []) #[false, false, false, false, false, false, false, false, false, false, false] (by kernel_rfl) rfl rfl ⟨(blk_cell BK101.out 0).trans rfl, (blk_cell BK101.out 1).trans rfl, (blk_cell BK102.out 0).trans rfl, (blk_cell BK102.out 1).trans rfl⟩ (fun hHeld => ?_); refine with_tabW telamonref1_Max.tab5 telamonref1_Max.bits5 (fun HT_ HW_ => ?_)
       generalize wc.drew = w29 at HO_102001 HO_103001 BK101 BK102 BK103 HB hHeld ⊢
       refine pure_ (i := 0) (N := some 26) (v := ?_) (a' := ?_) #[true, false, false, false, false, false, false, false, false, false, false] rfl rfl (any_of HT_.out (by kernel_rfl)) (fun _ _ _ h => h) (Or.inl ⟨by rfl, ?_⟩) ?_ ?_
       rotate_left
       ·intro w'
        go_simp
        with_reducible rfl
       rotate_left
       ·simp only [Act.put, List.setIfInBounds_toArray, List.set_cons_zero, List.set_cons_succ, i64_w, i32_w]
        rfl
       refine pure_ (i := 2) (N := some 28) (v := ?_) (a' := ?_) #[true, false, true, false, false, false, false, false, false, false, false] rfl rfl (any_of HT_.out (by kernel_rfl)) (fun _ _ _ h => h) (Or.inl ⟨by rfl, ?_⟩) ?_ ?_
       rotate_left
       ·intro w'
        go_simp
        with_reducible rfl
       rotate_left
       ·simp only [Act.put, List.setIfInBounds_toArray, List.set_cons_zero, List.set_cons_succ, i64_w, i32_w]
        rfl
       refine pure_ (i := 5) (N := some 31) (v := ?_) (a' := ?_) #[true, false, true, false, false, true, false, false, false, false, false] rfl rfl (any_of HT_.out (by kernel_rfl)) (fun _ _ _ h => h) (Or.inl ⟨by rfl, ?_⟩) ?_ ?_
       rotate_left
       ·intro w'
        go_simp
        with_reducible rfl
       rotate_left
       ·simp only [Act.put, List.setIfInBounds_toArray, List.set_cons_zero, List.set_cons_succ, i64_w, i32_w]
        rfl
       refine take_ (i := 1) (N := some 27) (v := ?_) (a' := ?_) #[true, true, true, false, false, true, false, false, false, false, false] rfl rfl (take_ofW HT_.out HW_.out (by kernel_rfl)) (fun _ _ _ h => h) (Or.inl ⟨by rfl, ?_⟩) hHeld ?_ ?_
       rotate_left
       ·rintro w' ⟨s0, s1, s2, s3⟩
        go_simp
        with_reducible rfl
       rotate_left
       ·simp only [Act.put, List.setIfInBounds_toArray, List.set_cons_zero, List.set_cons_succ, i64_w, i32_w]
        rfl
       refine take_ (i := 3) (N := some 29) (v := ?_) (a' := ?_) #[true, true, true, true, false, true, false, false, false, false, false] rfl rfl (take_ofW HT_.out HW_.out (by kernel_rfl)) (fun _ _ _ h => h) (Or.inl ⟨by rfl, ?_⟩) hHeld ?_ ?_
       rotate_left
       ·rintro w' ⟨s0, s1, s2, s3⟩
        go_simp
        with_reducible rfl
       rotate_left
       ·simp only [Act.put, List.setIfInBounds_toArray, List.set_cons_zero, List.set_cons_succ, i64_w, i32_w]
        rfl
       refine take_ (i := 6) (N := some 32) (v := ?_) (a' := ?_) #[true, true, true, true, false, true, true, false, false, false, false] rfl rfl (take_ofW HT_.out HW_.out (by kernel_rfl)) (fun _ _ _ h => h) (Or.inl ⟨by rfl, ?_⟩) hHeld ?_ ?_
       rotate_left
       ·rintro w' ⟨s0, s1, s2, s3⟩
        go_simp
        with_reducible rfl
       rotate_left
       ·simp only [Act.put, List.setIfInBounds_toArray, List.set_cons_zero, List.set_cons_succ, i64_w, i32_w]
        rfl
       refine join_ (σ := Value × Value × Nat) 1 #[true, true, true, true, true, true, true, true, true, true, false] (fun s_ => [(30, s_.1), (33, s_.2.1), (8, .pointer (some ⟨s_.2.2, 0, none⟩)), (34, .agg #[.int .i64 t104, s_.2.1])]) (fun s_ w' => (w'.cell? ⟨gb101, 0, none⟩ = some (.int .i64 t104) ∧ w'.cell? ⟨gb101, 1, none⟩ = some (.slice Ao14 t105.length co14) ∧ w'.cell? ⟨gb102, 0, none⟩ = some (.int .i64 t109) ∧ w'.cell? ⟨gb102, 1, none⟩ = some (.slice Ao19 t110.length co19)) ∧ (Kd.R k62 62 w' w.heap.size (fun k_ => some k_ ≠ (.slice Ao14 t105.length co14 : Value).ownBlock ∧ some k_ ≠ (.slice Ao19 t110.length co19 : Value).ownBlock) s_.2.1 y117) ∧ (Kd.R k62 62 w' w.heap.size (fun k_ => some k_ ≠ (s_.2.1 : Value).ownBlock ∧ some k_ ≠ (.slice Ao19 t110.length co19 : Value).ownBlock) (.slice Ao14 t105.length co14) t105) ∧ (Kd.R k62 62 w' w.heap.size (fun k_ => some k_ ≠ (s_.2.1 : Value).ownBlock ∧ some k_ ≠ (.slice Ao14 t105.length co14 : Value).ownBlock) (.slice Ao19 t110.length co19) t110) ∧ (w'.heap[gb101]? = some (.cells #[.int .i64 t104, .slice Ao14 t105.length co14] 43 (0, 0))) ∧ (w'.heap[gb102]? = some (.cells #[.int .i64 t109, .slice Ao19 t110.length co19] 43 (0, 0))) ∧ (w'.heap[gb103]? = some (.cells #[.int .i64 0, .slice none 0 0] 43 (0, 0))) ∧ (w'.heap[s_.2.2]? = some (.cells #[.int .i64 0, .slice none 0 0] 43 (0, 0))) ∧ (w.heap.size ≤ s_.2.2) ∧ (w.heap.size ≤ s_.2.2) ∧ (gb101 ≠ s_.2.2) ∧ (s_.2.2 ≠ gb101) ∧ (gb102 ≠ s_.2.2) ∧ (s_.2.2 ≠ gb102) ∧ (gb103 ≠ s_.2.2) ∧ (s_.2.2 ≠ gb103) ∧ (Below w.heap.size w w')) ?_ ?_
       rotate_left
       ·intro hCont
        refine two_ (i := 4) (j := 9) (Ni := some 30) (Nj := some 8) #[true, true, true, true, true, true, true, false, false, false, false] #[true, true, true, true, false, true, true, false, false, true, false] rfl rfl rfl rfl (two_of HT_.out (by kernel_rfl)) (by decide) (by decide) (fun K hK => ?_) (fun K hK => ?_)
        ·skip
         refine Kd.R_append_rows_step k62 (w0 := w) w.heap.size (by rfl) (.const (.slice none 0 0)) (.tmp 29) 41 62 (.agg #[(.int .i64 0), (.int .i64 0)]) 16 rfl Try.underlying41 info62 rfl (by decide) (by omega) (.slice none 0 0) ([] : List (S62)) t105 _ _ _ (fun k_ => some k_ ≠ (.slice Ao14 t105.length co14 : Value).ownBlock ∧ some k_ ≠ (.slice Ao19 t110.length co19 : Value).ownBlock) (fun _ => False) rfl rfl ?aO ?aR (fun _ _ h => h) (fun _ h => h.elim) ?aF ?aB ?aS ?aL ?_
         (case aR => repeat (first | exact (Kd.R_reads' HO_102001.out).2.2 | (with_reducible refine Kd.C_alloc ?_ _) | (with_reducible refine Kd.C_drewN ?_ _) | (with_reducible refine Kd.C_drew ?_)))
         (case aB => exact (bl_ HB))
         (case aF => exact (fun k_ hk => ⟨Kd.fresh' (Kd.R_lt (rl_ HO_102001)) k_ hk, Kd.fresh' (Kd.R_lt (rl_ HO_103001)) k_ hk⟩))
         (case aO => exact ((Kd.R_nil _ _ _ _ (fun k_ => some k_ ≠ (.slice Ao14 t105.length co14 : Value).ownBlock ∧ some k_ ≠ (.slice Ao19 t110.length co19 : Value).ownBlock))))
         (case aS => exact (below_size (bl_ HB)))
         (case aL => have := LMc25.out; omega)
         intro v115 w30 ho hb hg hat
         rw [← Ny114.out] at ho
         have HO116 := Aside0.mk (ho)
         replace HO_102001 := Aside0.mk (Kd.R_after (Kd.R_apart_nil (rl_ HO_102001)) hg hat)
         replace HO_103001 := Aside0.mk (Kd.R_after (Kd.R_apart_nil (rl_ HO_103001)) hg hat)
         replace BK101 := Aside0.mk (blk_grown (g := gb101) (o := .cells #[.int .i64 t104, .slice Ao14 t105.length co14] 43 (0, 0)) (pl_ BK101) hg (by simp [Value.ownBlock]))
         replace BK102 := Aside0.mk (blk_grown (g := gb102) (o := .cells #[.int .i64 t109, .slice Ao19 t110.length co19] 43 (0, 0)) (pl_ BK102) hg (by simp [Value.ownBlock]))
         replace BK103 := Aside0.mk (blk_grown (g := gb103) (o := .cells #[.int .i64 0, .slice none 0 0] 43 (0, 0)) (pl_ BK103) hg (by simp [Value.ownBlock]))
         replace HB := Aside0.mk (hb)
         clear ho hb hg hat
         refine hK.out _ _ ⟨(blk_cell BK101.out 0).trans rfl, (blk_cell BK101.out 1).trans rfl, (blk_cell BK102.out 0).trans rfl, (blk_cell BK102.out 1).trans rfl⟩ (fun hHeld => ?_)
         clear hK K
         refine norm_ (a' := ?_) ?_ ?_
         rotate_left
         ·show Act.put _ (some 30) _ = _
          simp only [Act.put, List.setIfInBounds_toArray, List.set_cons_zero, List.set_cons_succ, i64_w, i32_w]
          rfl
         refine two_ (i := 7) (j := 9) (Ni := some 33) (Nj := some 8) #[true, true, true, true, true, true, true, true, false, false, false] #[true, true, true, true, true, true, true, false, false, true, false] rfl rfl rfl rfl (two_of HT_.out (by kernel_rfl)) (by decide) (by decide) (fun K hK => ?_) (fun K hK => ?_)
         ·skip
          refine Kd.R_append_rows_step k62 (w0 := w) w.heap.size (by rfl) (.tmp 30) (.tmp 32) 41 62 (.agg #[(.int .i64 0), (.int .i64 0)]) 16 rfl Try.underlying41 info62 rfl (by decide) (by omega) v115 y114 t110 _ _ _ (fun k_ => some k_ ≠ (.slice Ao14 t105.length co14 : Value).ownBlock ∧ some k_ ≠ (.slice Ao19 t110.length co19 : Value).ownBlock) (fun _ => False) rfl rfl ?aO ?aR (fun _ _ h => h) (fun _ h => h.elim) ?aF ?aB ?aS ?aL ?_
          (case aR => repeat (first | exact (Kd.R_reads' HO_103001.out).2.2 | (with_reducible refine Kd.C_alloc ?_ _) | (with_reducible refine Kd.C_drewN ?_ _) | (with_reducible refine Kd.C_drew ?_)))
          (case aB => exact (bl_ HB))
          (case aF => exact (fun k_ hk => ⟨Kd.fresh' (Kd.R_lt (rl_ HO_102001)) k_ hk, Kd.fresh' (Kd.R_lt (rl_ HO_103001)) k_ hk⟩))
          (case aO => exact (rl_ HO116))
          (case aS => exact (below_size (bl_ HB)))
          (case aL => have := LMc26.out; omega)
          intro v118 w31 ho hb hg hat
          rw [← Ny117.out] at ho
          have HO119 := Aside0.mk (ho)
          replace HO_102001 := Aside0.mk (Kd.R_after (ok := (fun k_ => some k_ ≠ (.slice Ao19 t110.length co19 : Value).ownBlock)) (rl_ HO_102001) hg hat)
          replace HO_103001 := Aside0.mk (Kd.R_after (ok := (fun k_ => some k_ ≠ (.slice Ao14 t105.length co14 : Value).ownBlock)) (rl_ HO_103001) hg hat)
          replace BK101 := Aside0.mk (blk_grown (g := gb101) (o := .cells #[.int .i64 t104, .slice Ao14 t105.length co14] 43 (0, 0)) (pl_ BK101) hg (Kd.R_ne HO116.out BK101.out (by decide)))
          replace BK102 := Aside0.mk (blk_grown (g := gb102) (o := .cells #[.int .i64 t109, .slice Ao19 t110.length co19] 43 (0, 0)) (pl_ BK102) hg (Kd.R_ne HO116.out BK102.out (by decide)))
          replace BK103 := Aside0.mk (blk_grown (g := gb103) (o := .cells #[.int .i64 0, .slice none 0 0] 43 (0, 0)) (pl_ BK103) hg (Kd.R_ne HO116.out BK103.out (by decide)))
          replace HB := Aside0.mk (hb)
          clear HO116 ho hb hg hat
          obtain ⟨Ao32, co32, eo32⟩ := Kd.R_slice HO119.out
          (first | subst eo32 | (injection eo32 with f1_ f2_ f3_; have f4_ := f1_.symm; have f5_ := f3_.symm; clear f1_ f2_ f3_; subst f4_; subst f5_))
          refine hK.out _ _ ⟨(blk_cell BK101.out 0).trans rfl, (blk_cell BK101.out 1).trans rfl, (blk_cell BK102.out 0).trans rfl, (blk_cell BK102.out 1).trans rfl⟩ (fun hHeld => ?_)
          clear hK K
          refine norm_ (a' := ?_) ?_ ?_
          rotate_left
          ·show Act.put _ (some 33) _ = _
           simp only [Act.put, List.setIfInBounds_toArray, List.set_cons_zero, List.set_cons_succ, i64_w, i32_w]
           rfl
          refine pure_ (i := 8) (N := some 34) (v := ?_) (a' := ?_) #[true, true, true, true, true, true, true, true, true, false, false] rfl rfl (any_of HT_.out (by kernel_rfl)) (fun _ _ _ h => h) (Or.inl ⟨by rfl, ?_⟩) ?_ ?_
          rotate_left
          ·intro w'
           go_simp
           with_reducible rfl
          rotate_left
          ·simp only [Act.put, List.setIfInBounds_toArray, List.set_cons_zero, List.set_cons_succ, i64_w, i32_w]
           rfl
          refine one_ (i := 9) (N := some 8) #[true, true, true, true, true, true, true, true, true, true, false] rfl rfl (one_of HT_.out (by kernel_rfl)) (by decide) (fun K hK => ?_)
          refine box_step ?hg (N := 8) ?hd (cs := #[.int .i64 0, .slice none 0 0]) (t := 43) ?hr ?_; (case hd => rfl); (case hg => rfl); (case hr => first | (go_simp; done) | (go_simp; rfl))
          intro gb120 hg w33 hbox hb
          have BK120 := Aside0.mk (hbox)
          have GW120 := Aside0.mk ((bs_ hg HB : w.heap.size ≤ gb120))
          have GE120 := Aside0.mk ((bs_ hg HB : w.heap.size ≤ gb120))
          have NB101_120 := Aside0.mk ((nl_ hg BK101 : gb101 ≠ gb120))
          have NB120_101 := Aside0.mk ((ng_ hg BK101 : gb120 ≠ gb101))
          have NB102_120 := Aside0.mk ((nl_ hg BK102 : gb102 ≠ gb120))
          have NB120_102 := Aside0.mk ((ng_ hg BK102 : gb120 ≠ gb102))
          have NB103_120 := Aside0.mk ((nl_ hg BK103 : gb103 ≠ gb120))
          have NB120_103 := Aside0.mk ((ng_ hg BK103 : gb120 ≠ gb103))
          replace HO_102001 := Aside0.mk (Kd.R_below (rl_ HO_102001) hb)
          replace HO_103001 := Aside0.mk (Kd.R_below (rl_ HO_103001) hb)
          replace HO119 := Aside0.mk (Kd.R_below (rl_ HO119) hb)
          replace BK101 := bb_ BK101 hb
          replace BK102 := bb_ BK102 hb
          replace BK103 := bb_ BK103 hb
          replace HB := hs_ HB hb
          clear hb hbox hg
          refine hK.out _ _ ⟨(blk_cell BK101.out 0).trans rfl, (blk_cell BK101.out 1).trans rfl, (blk_cell BK102.out 0).trans rfl, (blk_cell BK102.out 1).trans rfl⟩ (fun hHeld => ?_)
          clear hK K
          refine norm_ (a' := ?_) ?_ ?_
          rotate_left
          ·show Act.put _ (some 8) _ = _
           simp only [Act.put, List.setIfInBounds_toArray, List.set_cons_zero, List.set_cons_succ, i64_w, i32_w]
           rfl
          exact norm_ (by simp only [putAll, Act.put, List.setIfInBounds_toArray, List.set_cons_zero, List.set_cons_succ]) (hCont (v115, .slice Ao32 y117.length co32, gb120) _ ⟨hHeld, (rl_ HO119), (by (with_reducible repeat (first | apply Kd.R_alloc | apply Kd.R_drewN | apply Kd.R_drew)); exact Kd.R_mono HO_102001.out (fun _ hk => ⟨hk.2, hk.1⟩)), (by (with_reducible repeat (first | apply Kd.R_alloc | apply Kd.R_drewN | apply Kd.R_drew)); exact Kd.R_mono HO_103001.out (fun _ hk => ⟨hk.2, hk.1⟩)), (pl_ BK101), (pl_ BK102), (pl_ BK103), (pl_ BK120), GW120.out, GE120.out, NB101_120.out, NB120_101.out, NB102_120.out, NB120_102.out, NB103_120.out, NB120_103.out, (bl_ HB)⟩)
         ·skip
          refine box_step ?hg (N := 8) ?hd (cs := #[.int .i64 0, .slice none 0 0]) (t := 43) ?hr ?_; (case hd => rfl); (case hg => rfl); (case hr => first | (go_simp; done) | (go_simp; rfl))
          intro gb120 hg w31 hbox hb
          have BK120 := Aside0.mk (hbox)
          have GW120 := Aside0.mk ((bs_ hg HB : w.heap.size ≤ gb120))
          have GE120 := Aside0.mk ((bs_ hg HB : w.heap.size ≤ gb120))
          have NB101_120 := Aside0.mk ((nl_ hg BK101 : gb101 ≠ gb120))
          have NB120_101 := Aside0.mk ((ng_ hg BK101 : gb120 ≠ gb101))
          have NB102_120 := Aside0.mk ((nl_ hg BK102 : gb102 ≠ gb120))
          have NB120_102 := Aside0.mk ((ng_ hg BK102 : gb120 ≠ gb102))
          have NB103_120 := Aside0.mk ((nl_ hg BK103 : gb103 ≠ gb120))
          have NB120_103 := Aside0.mk ((ng_ hg BK103 : gb120 ≠ gb103))
          replace HO_102001 := Aside0.mk (Kd.R_below (rl_ HO_102001) hb)
          replace HO_103001 := Aside0.mk (Kd.R_below (rl_ HO_103001) hb)
          replace HO116 := Aside0.mk (Kd.R_below (rl_ HO116) hb)
          replace BK101 := bb_ BK101 hb
          replace BK102 := bb_ BK102 hb
          replace BK103 := bb_ BK103 hb
          replace HB := hs_ HB hb
          clear hb hbox hg
          refine hK.out _ _ ⟨(blk_cell BK101.out 0).trans rfl, (blk_cell BK101.out 1).trans rfl, (blk_cell BK102.out 0).trans rfl, (blk_cell BK102.out 1).trans rfl⟩ (fun hHeld => ?_)
          clear hK K
          refine norm_ (a' := ?_) ?_ ?_
          rotate_left
          ·show Act.put _ (some 8) _ = _
           simp only [Act.put, List.setIfInBounds_toArray, List.set_cons_zero, List.set_cons_succ, i64_w, i32_w]
           rfl
          refine one_ (i := 7) (N := some 33) #[true, true, true, true, true, true, true, true, false, true, false] rfl rfl (one_of HT_.out (by kernel_rfl)) (by decide) (fun K hK => ?_)
          refine Kd.R_append_rows_step k62 (w0 := w) w.heap.size (by rfl) (.tmp 30) (.tmp 32) 41 62 (.agg #[(.int .i64 0), (.int .i64 0)]) 16 rfl Try.underlying41 info62 rfl (by decide) (by omega) v115 y114 t110 _ _ _ (fun k_ => some k_ ≠ (.slice Ao14 t105.length co14 : Value).ownBlock ∧ some k_ ≠ (.slice Ao19 t110.length co19 : Value).ownBlock) (fun _ => False) rfl rfl ?aO ?aR (fun _ _ h => h) (fun _ h => h.elim) ?aF ?aB ?aS ?aL ?_
          (case aR => repeat (first | exact (Kd.R_reads' HO_103001.out).2.2 | (with_reducible refine Kd.C_alloc ?_ _) | (with_reducible refine Kd.C_drewN ?_ _) | (with_reducible refine Kd.C_drew ?_)))
          (case aB => exact (bl_ HB))
          (case aF => exact (fun k_ hk => ⟨Kd.fresh' (Kd.R_lt (rl_ HO_102001)) k_ hk, Kd.fresh' (Kd.R_lt (rl_ HO_103001)) k_ hk⟩))
          (case aO => exact (rl_ HO116))
          (case aS => exact (below_size (bl_ HB)))
          (case aL => have := LMc26.out; omega)
          intro v118 w32 ho hb hg hat
          rw [← Ny117.out] at ho
          have HO119 := Aside0.mk (ho)
          replace HO_102001 := Aside0.mk (Kd.R_after (ok := (fun k_ => some k_ ≠ (.slice Ao19 t110.length co19 : Value).ownBlock)) (rl_ HO_102001) hg hat)
          replace HO_103001 := Aside0.mk (Kd.R_after (ok := (fun k_ => some k_ ≠ (.slice Ao14 t105.length co14 : Value).ownBlock)) (rl_ HO_103001) hg hat)
          replace BK101 := Aside0.mk (blk_grown (g := gb101) (o := .cells #[.int .i64 t104, .slice Ao14 t105.length co14] 43 (0, 0)) (pl_ BK101) hg (Kd.R_ne HO116.out BK101.out (by decide)))
          replace BK102 := Aside0.mk (blk_grown (g := gb102) (o := .cells #[.int .i64 t109, .slice Ao19 t110.length co19] 43 (0, 0)) (pl_ BK102) hg (Kd.R_ne HO116.out BK102.out (by decide)))
          replace BK103 := Aside0.mk (blk_grown (g := gb103) (o := .cells #[.int .i64 0, .slice none 0 0] 43 (0, 0)) (pl_ BK103) hg (Kd.R_ne HO116.out BK103.out (by decide)))
          replace BK120 := Aside0.mk (blk_grown (g := gb120) (o := .cells #[.int .i64 0, .slice none 0 0] 43 (0, 0)) (pl_ BK120) hg (Kd.R_ne HO116.out BK120.out (by decide)))
          replace HB := Aside0.mk (hb)
          clear HO116 ho hb hg hat
          obtain ⟨Ao33, co33, eo33⟩ := Kd.R_slice HO119.out
          (first | subst eo33 | (injection eo33 with f1_ f2_ f3_; have f4_ := f1_.symm; have f5_ := f3_.symm; clear f1_ f2_ f3_; subst f4_; subst f5_))
          refine hK.out _ _ ⟨(blk_cell BK101.out 0).trans rfl, (blk_cell BK101.out 1).trans rfl, (blk_cell BK102.out 0).trans rfl, (blk_cell BK102.out 1).trans rfl⟩ (fun hHeld => ?_)
          clear hK K
          refine norm_ (a' := ?_) ?_ ?_
          rotate_left
          ·show Act.put _ (some 33) _ = _
           simp only [Act.put, List.setIfInBounds_toArray, List.set_cons_zero, List.set_cons_succ, i64_w, i32_w]
           rfl
          refine pure_ (i := 8) (N := some 34) (v := ?_) (a' := ?_) #[true, true, true, true, true, true, true, true, true, true, false] rfl rfl (any_of HT_.out (by kernel_rfl)) (fun _ _ _ h => h) (Or.inl ⟨by rfl, ?_⟩) ?_ ?_
          rotate_left
          ·intro w'
           go_simp
           with_reducible rfl
          rotate_left
          ·simp only [Act.put, List.setIfInBounds_toArray, List.set_cons_zero, List.set_cons_succ, i64_w, i32_w]
           rfl
          exact norm_ (by simp only [putAll, Act.put, List.setIfInBounds_toArray, List.set_cons_zero, List.set_cons_succ]) (hCont (v115, .slice Ao33 y117.length co33, gb120) _ ⟨hHeld, (rl_ HO119), (by (with_reducible repeat (first | apply Kd.R_alloc | apply Kd.R_drewN | apply Kd.R_drew)); exact Kd.R_mono HO_102001.out (fun _ hk => ⟨hk.2, hk.1⟩)), (by (with_reducible repeat (first | apply Kd.R_alloc | apply Kd.R_drewN | apply Kd.R_drew)); exact Kd.R_mono HO_103001.out (fun _ hk => ⟨hk.2, hk.1⟩)), (pl_ BK101), (pl_ BK102), (pl_ BK103), (pl_ BK120), GW120.out, GE120.out, NB101_120.out, NB120_101.out, NB102_120.out, NB120_102.out, NB103_120.out, NB120_103.out, (bl_ HB)⟩)
        ·skip
         refine box_step ?hg (N := 8) ?hd (cs := #[.int .i64 0, .slice none 0 0]) (t := 43) ?hr ?_; (case hd => rfl); (case hg => rfl); (case hr => first | (go_simp; done) | (go_simp; rfl))
         intro gb120 hg w30 hbox hb
         have BK120 := Aside0.mk (hbox)
         have GW120 := Aside0.mk ((bs_ hg HB : w.heap.size ≤ gb120))
         have GE120 := Aside0.mk ((bs_ hg HB : w.heap.size ≤ gb120))
         have NB101_120 := Aside0.mk ((nl_ hg BK101 : gb101 ≠ gb120))
         have NB120_101 := Aside0.mk ((ng_ hg BK101 : gb120 ≠ gb101))
         have NB102_120 := Aside0.mk ((nl_ hg BK102 : gb102 ≠ gb120))
         have NB120_102 := Aside0.mk ((ng_ hg BK102 : gb120 ≠ gb102))
         have NB103_120 := Aside0.mk ((nl_ hg BK103 : gb103 ≠ gb120))
         have NB120_103 := Aside0.mk ((ng_ hg BK103 : gb120 ≠ gb103))
         replace HO_102001 := Aside0.mk (Kd.R_below (rl_ HO_102001) hb)
         replace HO_103001 := Aside0.mk (Kd.R_below (rl_ HO_103001) hb)
         replace BK101 := bb_ BK101 hb
         replace BK102 := bb_ BK102 hb
         replace BK103 := bb_ BK103 hb
         replace HB := hs_ HB hb
         clear hb hbox hg
         refine hK.out _ _ ⟨(blk_cell BK101.out 0).trans rfl, (blk_cell BK101.out 1).trans rfl, (blk_cell BK102.out 0).trans rfl, (blk_cell BK102.out 1).trans rfl⟩ (fun hHeld => ?_)
         clear hK K
         refine norm_ (a' := ?_) ?_ ?_
         rotate_left
         ·show Act.put _ (some 8) _ = _
          simp only [Act.put, List.setIfInBounds_toArray, List.set_cons_zero, List.set_cons_succ, i64_w, i32_w]
          rfl
         refine one_ (i := 4) (N := some 30) #[true, true, true, true, true, true, true, false, false, true, false] rfl rfl (one_of HT_.out (by kernel_rfl)) (by decide) (fun K hK => ?_)
         refine Kd.R_append_rows_step k62 (w0 := w) w.heap.size (by rfl) (.const (.slice none 0 0)) (.tmp 29) 41 62 (.agg #[(.int .i64 0), (.int .i64 0)]) 16 rfl Try.underlying41 info62 rfl (by decide) (by omega) (.slice none 0 0) ([] : List (S62)) t105 _ _ _ (fun k_ => some k_ ≠ (.slice Ao14 t105.length co14 : Value).ownBlock ∧ some k_ ≠ (.slice Ao19 t110.length co19 : Value).ownBlock) (fun _ => False) rfl rfl ?aO ?aR (fun _ _ h => h) (fun _ h => h.elim) ?aF ?aB ?aS ?aL ?_
         (case aR => repeat (first | exact (Kd.R_reads' HO_102001.out).2.2 | (with_reducible refine Kd.C_alloc ?_ _) | (with_reducible refine Kd.C_drewN ?_ _) | (with_reducible refine Kd.C_drew ?_)))
         (case aB => exact (bl_ HB))
         (case aF => exact (fun k_ hk => ⟨Kd.fresh' (Kd.R_lt (rl_ HO_102001)) k_ hk, Kd.fresh' (Kd.R_lt (rl_ HO_103001)) k_ hk⟩))
         (case aO => exact ((Kd.R_nil _ _ _ _ (fun k_ => some k_ ≠ (.slice Ao14 t105.length co14 : Value).ownBlock ∧ some k_ ≠ (.slice Ao19 t110.length co19 : Value).ownBlock))))
         (case aS => exact (below_size (bl_ HB)))
         (case aL => have := LMc25.out; omega)
         intro v115 w31 ho hb hg hat
         rw [← Ny114.out] at ho
         have HO116 := Aside0.mk (ho)
         replace HO_102001 := Aside0.mk (Kd.R_after (Kd.R_apart_nil (rl_ HO_102001)) hg hat)
         replace HO_103001 := Aside0.mk (Kd.R_after (Kd.R_apart_nil (rl_ HO_103001)) hg hat)
         replace BK101 := Aside0.mk (blk_grown (g := gb101) (o := .cells #[.int .i64 t104, .slice Ao14 t105.length co14] 43 (0, 0)) (pl_ BK101) hg (by simp [Value.ownBlock]))
         replace BK102 := Aside0.mk (blk_grown (g := gb102) (o := .cells #[.int .i64 t109, .slice Ao19 t110.length co19] 43 (0, 0)) (pl_ BK102) hg (by simp [Value.ownBlock]))
         replace BK103 := Aside0.mk (blk_grown (g := gb103) (o := .cells #[.int .i64 0, .slice none 0 0] 43 (0, 0)) (pl_ BK103) hg (by simp [Value.ownBlock]))
         replace BK120 := Aside0.mk (blk_grown (g := gb120) (o := .cells #[.int .i64 0, .slice none 0 0] 43 (0, 0)) (pl_ BK120) hg (by simp [Value.ownBlock]))
         replace HB := Aside0.mk (hb)
         clear ho hb hg hat
         refine hK.out _ _ ⟨(blk_cell BK101.out 0).trans rfl, (blk_cell BK101.out 1).trans rfl, (blk_cell BK102.out 0).trans rfl, (blk_cell BK102.out 1).trans rfl⟩ (fun hHeld => ?_)
         clear hK K
         refine norm_ (a' := ?_) ?_ ?_
         rotate_left
         ·show Act.put _ (some 30) _ = _
          simp only [Act.put, List.setIfInBounds_toArray, List.set_cons_zero, List.set_cons_succ, i64_w, i32_w]
          rfl
         refine one_ (i := 7) (N := some 33) #[true, true, true, true, true, true, true, true, false, true, false] rfl rfl (one_of HT_.out (by kernel_rfl)) (by decide) (fun K hK => ?_)
         refine Kd.R_append_rows_step k62 (w0 := w) w.heap.size (by rfl) (.tmp 30) (.tmp 32) 41 62 (.agg #[(.int .i64 0), (.int .i64 0)]) 16 rfl Try.underlying41 info62 rfl (by decide) (by omega) v115 y114 t110 _ _ _ (fun k_ => some k_ ≠ (.slice Ao14 t105.length co14 : Value).ownBlock ∧ some k_ ≠ (.slice Ao19 t110.length co19 : Value).ownBlock) (fun _ => False) rfl rfl ?aO ?aR (fun _ _ h => h) (fun _ h => h.elim) ?aF ?aB ?aS ?aL ?_
         (case aR => repeat (first | exact (Kd.R_reads' HO_103001.out).2.2 | (with_reducible refine Kd.C_alloc ?_ _) | (with_reducible refine Kd.C_drewN ?_ _) | (with_reducible refine Kd.C_drew ?_)))
         (case aB => exact (bl_ HB))
         (case aF => exact (fun k_ hk => ⟨Kd.fresh' (Kd.R_lt (rl_ HO_102001)) k_ hk, Kd.fresh' (Kd.R_lt (rl_ HO_103001)) k_ hk⟩))
         (case aO => exact (rl_ HO116))
         (case aS => exact (below_size (bl_ HB)))
         (case aL => have := LMc26.out; omega)
         intro v118 w32 ho hb hg hat
         rw [← Ny117.out] at ho
         have HO119 := Aside0.mk (ho)
         replace HO_102001 := Aside0.mk (Kd.R_after (ok := (fun k_ => some k_ ≠ (.slice Ao19 t110.length co19 : Value).ownBlock)) (rl_ HO_102001) hg hat)
         replace HO_103001 := Aside0.mk (Kd.R_after (ok := (fun k_ => some k_ ≠ (.slice Ao14 t105.length co14 : Value).ownBlock)) (rl_ HO_103001) hg hat)
         replace BK101 := Aside0.mk (blk_grown (g := gb101) (o := .cells #[.int .i64 t104, .slice Ao14 t105.length co14] 43 (0, 0)) (pl_ BK101) hg (Kd.R_ne HO116.out BK101.out (by decide)))
         replace BK102 := Aside0.mk (blk_grown (g := gb102) (o := .cells #[.int .i64 t109, .slice Ao19 t110.length co19] 43 (0, 0)) (pl_ BK102) hg (Kd.R_ne HO116.out BK102.out (by decide)))
         replace BK103 := Aside0.mk (blk_grown (g := gb103) (o := .cells #[.int .i64 0, .slice none 0 0] 43 (0, 0)) (pl_ BK103) hg (Kd.R_ne HO116.out BK103.out (by decide)))
         replace BK120 := Aside0.mk (blk_grown (g := gb120) (o := .cells #[.int .i64 0, .slice none 0 0] 43 (0, 0)) (pl_ BK120) hg (Kd.R_ne HO116.out BK120.out (by decide)))
         replace HB := Aside0.mk (hb)
         clear HO116 ho hb hg hat
         obtain ⟨Ao33, co33, eo33⟩ := Kd.R_slice HO119.out
         (first | subst eo33 | (injection eo33 with f1_ f2_ f3_; have f4_ := f1_.symm; have f5_ := f3_.symm; clear f1_ f2_ f3_; subst f4_; subst f5_))
         refine hK.out _ _ ⟨(blk_cell BK101.out 0).trans rfl, (blk_cell BK101.out 1).trans rfl, (blk_cell BK102.out 0).trans rfl, (blk_cell BK102.out 1).trans rfl⟩ (fun hHeld => ?_)
         clear hK K
         refine norm_ (a' := ?_) ?_ ?_
         rotate_left
         ·show Act.put _ (some 33) _ = _
          simp only [Act.put, List.setIfInBounds_toArray, List.set_cons_zero, List.set_cons_succ, i64_w, i32_w]
          rfl
         refine pure_ (i := 8) (N := some 34) (v := ?_) (a' := ?_) #[true, true, true, true, true, true, true, true, true, true, false] rfl rfl (any_of HT_.out (by kernel_rfl)) (fun _ _ _ h => h) (Or.inl ⟨by rfl, ?_⟩) ?_ ?_
         rotate_left
         ·intro w'
          go_simp
          with_reducible rfl
         rotate_left
         ·simp only [Act.put, List.setIfInBounds_toArray, List.set_cons_zero, List.set_cons_succ, i64_w, i32_w]
          rfl
         exact norm_ (by simp only [putAll, Act.put, List.setIfInBounds_toArray, List.set_cons_zero, List.set_cons_succ]) (hCont (v115, .slice Ao33 y117.length co33, gb120) _ ⟨hHeld, (rl_ HO119), (by (with_reducible repeat (first | apply Kd.R_alloc | apply Kd.R_drewN | apply Kd.R_drew)); exact Kd.R_mono HO_102001.out (fun _ hk => ⟨hk.2, hk.1⟩)), (by (with_reducible repeat (first | apply Kd.R_alloc | apply Kd.R_drewN | apply Kd.R_drew)); exact Kd.R_mono HO_103001.out (fun _ hk => ⟨hk.2, hk.1⟩)), (pl_ BK101), (pl_ BK102), (pl_ BK103), (pl_ BK120), GW120.out, GE120.out, NB101_120.out, NB120_101.out, NB102_120.out, NB120_102.out, NB103_120.out, NB120_103.out, (bl_ HB)⟩)
       rintro ⟨v115, v118, gb120⟩ w34 ⟨hS_, h0_, h1_, h2_, h3_, h4_, h5_, h6_, h7_, h8_, h9_, h10_, h11_, h12_, h13_, h14_, h15_⟩
       have n0_ : Aside0 (Kd.R k62 62 w34 w.heap.size (fun k_ => some k_ ≠ (.slice Ao14 t105.length co14 : Value).ownBlock ∧ some k_ ≠ (.slice Ao19 t110.length co19 : Value).ownBlock) v118 y117) := ⟨h0_⟩
       have n1_ : Aside0 (Kd.R k62 62 w34 w.heap.size (fun k_ => some k_ ≠ (v118 : Value).ownBlock ∧ some k_ ≠ (.slice Ao19 t110.length co19 : Value).ownBlock) (.slice Ao14 t105.length co14) t105) := ⟨h1_⟩
       have n2_ : Aside0 (Kd.R k62 62 w34 w.heap.size (fun k_ => some k_ ≠ (v118 : Value).ownBlock ∧ some k_ ≠ (.slice Ao14 t105.length co14 : Value).ownBlock) (.slice Ao19 t110.length co19) t110) := ⟨h2_⟩
       have n3_ : Aside0 (w34.heap[gb101]? = some (.cells #[.int .i64 t104, .slice Ao14 t105.length co14] 43 (0, 0))) := ⟨h3_⟩
       have n4_ : Aside0 (w34.heap[gb102]? = some (.cells #[.int .i64 t109, .slice Ao19 t110.length co19] 43 (0, 0))) := ⟨h4_⟩
       have n5_ : Aside0 (w34.heap[gb103]? = some (.cells #[.int .i64 0, .slice none 0 0] 43 (0, 0))) := ⟨h5_⟩
       have n6_ : Aside0 (w34.heap[gb120]? = some (.cells #[.int .i64 0, .slice none 0 0] 43 (0, 0))) := ⟨h6_⟩
       have n7_ : Aside0 (w.heap.size ≤ gb120) := ⟨h7_⟩
       have n8_ : Aside0 (w.heap.size ≤ gb120) := ⟨h8_⟩
       have n9_ : Aside0 (gb101 ≠ gb120) := ⟨h9_⟩
       have n10_ : Aside0 (gb120 ≠ gb101) := ⟨h10_⟩
       have n11_ : Aside0 (gb102 ≠ gb120) := ⟨h11_⟩
       have n12_ : Aside0 (gb120 ≠ gb102) := ⟨h12_⟩
       have n13_ : Aside0 (gb103 ≠ gb120) := ⟨h13_⟩
       have n14_ : Aside0 (gb120 ≠ gb103) := ⟨h14_⟩
       have n15_ : Aside0 (Below w.heap.size w w34) := ⟨h15_⟩
       clear HO_102001 HO_103001 BK101 BK102 BK103 HB h0_ h1_ h2_ h3_ h4_ h5_ h6_ h7_ h8_ h9_ h10_ h11_ h12_ h13_ h14_ h15_
       have HO119 := n0_
       have HO_102001 := n1_
       have HO_103001 := n2_
       have BK101 := n3_
       have BK102 := n4_
       have BK103 := n5_
       have BK120 := n6_
       have GW120 := n7_
       have GE120 := n8_
       have NB101_120 := n9_
       have NB120_101 := n10_
       have NB102_120 := n11_
       have NB120_102 := n12_
       have NB103_120 := n13_
       have NB120_103 := n14_
       have HB := n15_
       clear n0_ n1_ n2_ n3_ n4_ n5_ n6_ n7_ n8_ n9_ n10_ n11_ n12_ n13_ n14_ n15_
       have hHeld : w34.cell? ⟨gb101, 0, none⟩ = some (.int .i64 t104) ∧ w34.cell? ⟨gb101, 1, none⟩ = some (.slice Ao14 t105.length co14) ∧ w34.cell? ⟨gb102, 0, none⟩ = some (.int .i64 t109) ∧ w34.cell? ⟨gb102, 1, none⟩ = some (.slice Ao19 t110.length co19) := hS_
       obtain ⟨Ao35, co35, eo35⟩ := Kd.R_slice HO119.out
       (first | subst eo35 | (injection eo35 with f1_ f2_ f3_; have f4_ := f1_.symm; have f5_ := f3_.symm; clear f1_ f2_ f3_; subst f4_; subst f5_))
       refine norm_ (a' := ?_) ?_ ?_
       rotate_left
       ·simp only [putAll, Act.put, List.setIfInBounds_toArray, List.set_cons_zero, List.set_cons_succ]
        rfl
       refine one_ (i := 10) (N := none) #[true, true, true, true, true, true, true, true, true, true, true] rfl rfl (one_of HT_.out (by kernel_rfl)) (by decide) (fun K hK => ?_)
       have hs36 : w34.cell? ⟨gb120, 0, none⟩ = some (.int .i64 0) := (blk_cell BK120.out 0).trans rfl
       have hfs36 := blk_frozen BK120.out 0
       have hns36_0 := NB101_120.out
       have hns36_1 := NB102_120.out
       have hns36_2 := NB103_120.out
       have hms36_0 := NB120_101.out
       have hms36_1 := NB120_102.out
       have hms36_2 := NB120_103.out
       have hs37 : w34.cell? ⟨gb120, 1, none⟩ = some (.slice none 0 0) := (blk_cell BK120.out 1).trans rfl
       have hfs37 := blk_frozen BK120.out 1
       have hns37_0 := NB101_120.out
       have hns37_1 := NB102_120.out
       have hns37_2 := NB103_120.out
       have hms37_0 := NB120_101.out
       have hms37_1 := NB120_102.out
       have hms37_2 := NB120_103.out
       refine skip_ (w1 := ?_) (by rfl) rfl ?_ ?_
       rotate_left
       ·go_simp
        rfl
       refine hK.out _ _ ⟨((cell_far (p := ⟨gb120, _, none⟩) NB101_120.out _).trans (((cell_far (p := ⟨gb120, _, none⟩) NB101_120.out _).trans (hHeld.1)))), ((cell_far (p := ⟨gb120, _, none⟩) NB101_120.out _).trans (((cell_far (p := ⟨gb120, _, none⟩) NB101_120.out _).trans (hHeld.2.1)))), ((cell_far (p := ⟨gb120, _, none⟩) NB102_120.out _).trans (((cell_far (p := ⟨gb120, _, none⟩) NB102_120.out _).trans (hHeld.2.2.1)))), ((cell_far (p := ⟨gb120, _, none⟩) NB102_120.out _).trans (((cell_far (p := ⟨gb120, _, none⟩) NB102_120.out _).trans (hHeld.2.2.2))))⟩ (fun hHeld => ?_)
       clear hK K
       refine done_ (done_of HT_.out (by kernel_rfl)) ?_
       have hnb38 := NB102_101.out
       have hnc38 := NB101_102.out
       have hnb39 := NB102_103.out
       have hnc39 := NB103_102.out
       have hnb40 := NB102_120.out
       have hnc40 := NB120_102.out
       have hcz41_0 : w34.cell? ⟨gb102, 0, none⟩ = some (.int .i64 t109) := (blk_cell BK102.out 0).trans rfl
       have hcz41_1 : w34.cell? ⟨gb102, 1, none⟩ = some (.slice Ao19 t110.length co19) := (blk_cell BK102.out 1).trans rfl
       have hfz41_0 := blk_frozen BK102.out 0
       have hfz41_1 := blk_frozen BK102.out 1
       have hnb42 := NB120_101.out
       have hnc42 := NB101_120.out
       have hnb43 := NB120_103.out
       have hnc43 := NB103_120.out
       have hcz44_0 : w34.cell? ⟨gb120, 0, none⟩ = some (.int .i64 0) := (blk_cell BK120.out 0).trans rfl
       have hcz44_1 : w34.cell? ⟨gb120, 1, none⟩ = some (.slice none 0 0) := (blk_cell BK120.out 1).trans rfl
       have hfz44_0 := blk_frozen BK120.out 0
       have hfz44_1 := blk_frozen BK120.out 1
       try go_wp2_with (first | ((with_reducible refine gate_callee (f := 82) rfl ?_); refine goesL_ (some 44) rfl rfl Try.func82 (by kernel_rfl) rfl #[.agg #[.int .i64 t109, .slice Ao35 y117.length co35]] rfl (by (try simp only [List.map_toArray, List.map_cons, List.map_nil]); first | done | rfl | (simp only [List.length_drop, List.length_take]; rfl)) ?_; (with_reducible refine (telamonref1_fits.calls kj4 t109 _ _ y117 t121 t122 t125 _ ?side1 ?side2 A28.out).mono ?_); (case side1 => refine (Kd.R_reads' (e := 62) (base := w.heap.size) (ok := fun k_ => (some k_ ≠ (.slice Ao14 t105.length co14 : Value).ownBlock ∧ some k_ ≠ (.slice Ao19 t110.length co19 : Value).ownBlock)) (n := y117.length) (c := co35) ?_).2.2; exact (by (with_reducible repeat (first | apply Kd.R_alloc | apply Kd.R_drewN | apply Kd.R_drew)); exact (Kd.R_mono (Kd.R_far (p := ⟨gb120, 0, none⟩) (Kd.R_far (p := ⟨gb120, 1, none⟩) (Kd.R_far (p := ⟨gb120, 0, none⟩) (Kd.R_types HO119.out BK120.out (by decide)) (fun _ hk => hk.2) (.int .i64 t104)) (fun _ hk => hk.2) (.slice Ao35 y117.length co35)) (fun _ hk => hk.2) (.int .i64 t109)) (fun _ h_ => h_.1)))); (case side2 => exact (Kd.R_reads' HO119.out).2.1); rintro e w45 ⟨v123, rfl, ho0, hb⟩; refine ⟨_, rfl, ?_⟩; have HO124 := Aside0.mk (Kd.R_lower (Kd.R_new' (Kd.R_new' (Kd.R_new' ho0 (Kd.R_lt (by (with_reducible repeat (first | apply Kd.R_alloc | apply Kd.R_drewN | apply Kd.R_drew)); exact (Kd.R_mono (Kd.R_far (p := ⟨gb120, 0, none⟩) (Kd.R_far (p := ⟨gb120, 1, none⟩) (Kd.R_far (p := ⟨gb120, 0, none⟩) (Kd.R_types HO_102001.out BK120.out (by decide)) (fun _ hk => hk.2) (.int .i64 t104)) (fun _ hk => hk.2) (.slice Ao35 y117.length co35)) (fun _ hk => hk.2) (.int .i64 t109)) (fun _ h_ => h_.1))))) (Kd.R_lt (by (with_reducible repeat (first | apply Kd.R_alloc | apply Kd.R_drewN | apply Kd.R_drew)); exact (Kd.R_mono (Kd.R_far (p := ⟨gb120, 0, none⟩) (Kd.R_far (p := ⟨gb120, 1, none⟩) (Kd.R_far (p := ⟨gb120, 0, none⟩) (Kd.R_types HO_103001.out BK120.out (by decide)) (fun _ hk => hk.2) (.int .i64 t104)) (fun _ hk => hk.2) (.slice Ao35 y117.length co35)) (fun _ hk => hk.2) (.int .i64 t109)) (fun _ h_ => h_.1))))) (Kd.R_lt (by (with_reducible repeat (first | apply Kd.R_alloc | apply Kd.R_drewN | apply Kd.R_drew)); exact (Kd.R_mono (Kd.R_far (p := ⟨gb120, 0, none⟩) (Kd.R_far (p := ⟨gb120, 1, none⟩) (Kd.R_far (p := ⟨gb120, 0, none⟩) (Kd.R_types HO119.out BK120.out (by decide)) (fun _ hk => hk.2) (.int .i64 t104)) (fun _ hk => hk.2) (.slice Ao35 y117.length co35)) (fun _ hk => hk.2) (.int .i64 t109)) (fun _ h_ => h_.1))))) (below_size (bl_ HB))); replace HO_102001 := Aside0.mk (Kd.R_elder' (by (with_reducible repeat (first | apply Kd.R_alloc | apply Kd.R_drewN | apply Kd.R_drew)); exact (Kd.R_mono (Kd.R_far (p := ⟨gb120, 0, none⟩) (Kd.R_far (p := ⟨gb120, 1, none⟩) (Kd.R_far (p := ⟨gb120, 0, none⟩) (Kd.R_types HO_102001.out BK120.out (by decide)) (fun _ hk => hk.2) (.int .i64 t104)) (fun _ hk => hk.2) (.slice Ao35 y117.length co35)) (fun _ hk => hk.2) (.int .i64 t109)) (fun _ h_ => h_.1))) (Kd.R_base ho0) hb); replace HO_103001 := Aside0.mk (Kd.R_elder' (by (with_reducible repeat (first | apply Kd.R_alloc | apply Kd.R_drewN | apply Kd.R_drew)); exact (Kd.R_mono (Kd.R_far (p := ⟨gb120, 0, none⟩) (Kd.R_far (p := ⟨gb120, 1, none⟩) (Kd.R_far (p := ⟨gb120, 0, none⟩) (Kd.R_types HO_103001.out BK120.out (by decide)) (fun _ hk => hk.2) (.int .i64 t104)) (fun _ hk => hk.2) (.slice Ao35 y117.length co35)) (fun _ hk => hk.2) (.int .i64 t109)) (fun _ h_ => h_.1))) (Kd.R_base ho0) hb); replace HO119 := Aside0.mk (Kd.R_elder' (by (with_reducible repeat (first | apply Kd.R_alloc | apply Kd.R_drewN | apply Kd.R_drew)); exact (Kd.R_mono (Kd.R_far (p := ⟨gb120, 0, none⟩) (Kd.R_far (p := ⟨gb120, 1, none⟩) (Kd.R_far (p := ⟨gb120, 0, none⟩) (Kd.R_types HO119.out BK120.out (by decide)) (fun _ hk => hk.2) (.int .i64 t104)) (fun _ hk => hk.2) (.slice Ao35 y117.length co35)) (fun _ hk => hk.2) (.int .i64 t109)) (fun _ h_ => h_.1))) (Kd.R_base ho0) hb); replace BK101 := Aside0.mk (blk_below (pf_ BK101) hb); replace BK102 := Aside0.mk (blk_below (pf_ BK102) hb); replace BK103 := Aside0.mk (blk_below (pf_ BK103) hb); replace BK120 := Aside0.mk (blk_below (g := gb120) (o := .cells #[.int .i64 t109, .slice Ao35 y117.length co35] 43 (0, 0)) (by (with_reducible repeat (first | refine blk_drewN ?_ _ | refine blk_drew ?_ | refine blk_alloc ?_ _)); refine blk_put (cs := #[.int .i64 t104, .slice Ao35 y117.length co35]) ?_ 0 _ rfl; (with_reducible repeat (first | refine blk_drewN ?_ _ | refine blk_drew ?_ | refine blk_alloc ?_ _)); refine blk_put (cs := #[.int .i64 t104, .slice none 0 0]) ?_ 1 _ rfl; (with_reducible repeat (first | refine blk_drewN ?_ _ | refine blk_drew ?_ | refine blk_alloc ?_ _)); refine blk_put (cs := #[.int .i64 0, .slice none 0 0]) ?_ 0 _ rfl; (with_reducible repeat (first | refine blk_drewN ?_ _ | refine blk_drew ?_ | refine blk_alloc ?_ _)); exact BK120.out) hb); replace HB := hs_ HB hb; (try clear hb); (try clear hb2); (try clear hk); (try clear hi); (try clear ho0); have hnb46 := NB103_101.out; have hnc46 := NB101_103.out; have hcz47_0 : w45.cell? ⟨gb103, 0, none⟩ = some (.int .i64 0) := (blk_cell BK103.out 0).trans rfl; have hcz47_1 : w45.cell? ⟨gb103, 1, none⟩ = some (.slice none 0 0) := (blk_cell BK103.out 1).trans rfl; have hfz47_0 := blk_frozen BK103.out 0; have hfz47_1 := blk_frozen BK103.out 1; obtain ⟨Ao48, co48, eo48⟩ := Kd.R_slice HO124.out; subst eo48))
       refine bodyPost_ret (results_ct rfl _ _ gb103 43 #[.int .i64 t121, .slice Ao48 t122.length co48] (0, 0) _ rfl (by (with_reducible repeat (first | refine blk_drewN ?_ _ | refine blk_drew ?_ | refine blk_alloc ?_ _)); refine blk_put (cs := #[.int .i64 t121, .slice none 0 0]) ?_ 1 _ rfl; (with_reducible repeat (first | refine blk_drewN ?_ _ | refine blk_drew ?_ | refine blk_alloc ?_ _)); refine blk_put (cs := #[.int .i64 0, .slice none 0 0]) ?_ 0 _ rfl; (with_reducible repeat (first | refine blk_drewN ?_ _ | refine blk_drew ?_ | refine blk_alloc ?_ _)); exact BK103.out) Try.underlying43 rfl (by kernel_rfl)) rfl ?_
       exact ⟨_, by first | rfl | (simp [errW_none, errW_some] <;> rfl) | (simp [*, errW_none, errW_some] <;> rfl), by (with_reducible repeat (first | apply Kd.R_alloc | apply Kd.R_drewN | apply Kd.R_drew)); exact Kd.R_mono (Kd.R_far (p := ⟨gb103, 1, none⟩) (Kd.R_far (p := ⟨gb103, 0, none⟩) (Kd.R_types HO124.out BK103.out (by decide)) (fun _ hk => hk.2) (.int .i64 t121)) (fun _ hk => hk.2) (.slice Ao48 t122.length co48)) (fun _ hk => trivial), by repeat (first | (with_reducible first | exact HB.out | apply below_alloc | apply pw_below_drewN | apply below_drew1 | refine below_set ?_ GE101.out | refine below_set ?_ GE102.out | refine below_set ?_ GE103.out | refine below_set ?_ GE120.out) | exact HB.out)⟩
      ·rw [if_neg c27] at H
       have c27b0 : decide (t104 < t109) = false := decide_eq_false c27
       clear c27
       replace H := Option.bind_eq_some_iff.mp H
       obtain ⟨⟨t126, t127, t130⟩, A490, H⟩ := H
       replace H : (some (t126, t127, t130)) = some (r1, r2, r3) := H
       have A49 := Aside0.mk A490
       clear A490
       simp only [Option.some.injEq, Prod.mk.injEq] at H
       obtain ⟨rfl, rfl, rfl⟩ := H
       try go_wp2
       replace HO_102001 := Aside0.mk (Kd.R_drew HO_102001.out)
       replace HO_103001 := Aside0.mk (Kd.R_drew HO_103001.out)
       replace BK101 := Aside0.mk (blk_drew BK101.out)
       replace BK102 := Aside0.mk (blk_drew BK102.out)
       replace BK103 := Aside0.mk (blk_drew BK103.out)
       replace HB := Aside0.mk (below_drew1 HB.out)
       refine start_ (n := 11) (S := fun w' => w'.cell? ⟨gb101, 0, none⟩ = some (.int .i64 t104) ∧ w'.cell? ⟨gb101, 1, none⟩ = some (.slice Ao14 t105.length co14) ∧ w'.cell? ⟨gb102, 0, none⟩ = some (.int .i64 t109) ∧ w'.cell? ⟨gb102, 1, none⟩ = some (.slice Ao19 t110.length co19)) (ds := []) #[false, false, false, false, false, false, false, false, false, false, false] (by kernel_rfl) rfl rfl ⟨(blk_cell BK101.out 0).trans rfl, (blk_cell BK101.out 1).trans rfl, (blk_cell BK102.out 0).trans rfl, (blk_cell BK102.out 1).trans rfl⟩ (fun hHeld => ?_); refine with_tabW telamonref1_Max.tab5 telamonref1_Max.bits5 (fun HT_ HW_ => ?_)
       generalize wc.drew = w50 at HO_102001 HO_103001 BK101 BK102 BK103 HB hHeld ⊢
       refine pure_ (i := 0) (N := some 26) (v := ?_) (a' := ?_) #[true, false, false, false, false, false, false, false, false, false, false] rfl rfl (any_of HT_.out (by kernel_rfl)) (fun _ _ _ h => h) (Or.inl ⟨by rfl, ?_⟩) ?_ ?_
       rotate_left
       ·intro w'
        go_simp
        with_reducible rfl
       rotate_left
       ·simp only [Act.put, List.setIfInBounds_toArray, List.set_cons_zero, List.set_cons_succ, i64_w, i32_w]
        rfl
       refine pure_ (i := 2) (N := some 28) (v := ?_) (a' := ?_) #[true, false, true, false, false, false, false, false, false, false, false] rfl rfl (any_of HT_.out (by kernel_rfl)) (fun _ _ _ h => h) (Or.inl ⟨by rfl, ?_⟩) ?_ ?_
       rotate_left
       ·intro w'
        go_simp
        with_reducible rfl
       rotate_left
       ·simp only [Act.put, List.setIfInBounds_toArray, List.set_cons_zero, List.set_cons_succ, i64_w, i32_w]
        rfl
       refine pure_ (i := 5) (N := some 31) (v := ?_) (a' := ?_) #[true, false, true, false, false, true, false, false, false, false, false] rfl rfl (any_of HT_.out (by kernel_rfl)) (fun _ _ _ h => h) (Or.inl ⟨by rfl, ?_⟩) ?_ ?_
       rotate_left
       ·intro w'
        go_simp
        with_reducible rfl
       rotate_left
       ·simp only [Act.put, List.setIfInBounds_toArray, List.set_cons_zero, List.set_cons_succ, i64_w, i32_w]
        rfl
       refine take_ (i := 1) (N := some 27) (v := ?_) (a' := ?_) #[true, true, true, false, false, true, false, false, false, false, false] rfl rfl (take_ofW HT_.out HW_.out (by kernel_rfl)) (fun _ _ _ h => h) (Or.inl ⟨by rfl, ?_⟩) hHeld ?_ ?_
       rotate_left
       ·rintro w' ⟨s0, s1, s2, s3⟩
        go_simp
        with_reducible rfl
       rotate_left
       ·simp only [Act.put, List.setIfInBounds_toArray, List.set_cons_zero, List.set_cons_succ, i64_w, i32_w]
        rfl
       refine take_ (i := 3) (N := some 29) (v := ?_) (a' := ?_) #[true, true, true, true, false, true, false, false, false, false, false] rfl rfl (take_ofW HT_.out HW_.out (by kernel_rfl)) (fun _ _ _ h => h) (Or.inl ⟨by rfl, ?_⟩) hHeld ?_ ?_
       rotate_left
       ·rintro w' ⟨s0, s1, s2, s3⟩
        go_simp
        with_reducible rfl
       rotate_left
       ·simp only [Act.put, List.setIfInBounds_toArray, List.set_cons_zero, List.set_cons_succ, i64_w, i32_w]
        rfl
       refine take_ (i := 6) (N := some 32) (v := ?_) (a' := ?_) #[true, true, true, true, false, true, true, false, false, false, false] rfl rfl (take_ofW HT_.out HW_.out (by kernel_rfl)) (fun _ _ _ h => h) (Or.inl ⟨by rfl, ?_⟩) hHeld ?_ ?_
       rotate_left
       ·rintro w' ⟨s0, s1, s2, s3⟩
        go_simp
        with_reducible rfl
       rotate_left
       ·simp only [Act.put, List.setIfInBounds_toArray, List.set_cons_zero, List.set_cons_succ, i64_w, i32_w]
        rfl
       refine join_ (σ := Value × Value × Nat) 1 #[true, true, true, true, true, true, true, true, true, true, false] (fun s_ => [(30, s_.1), (33, s_.2.1), (8, .pointer (some ⟨s_.2.2, 0, none⟩)), (34, .agg #[.int .i64 t104, s_.2.1])]) (fun s_ w' => (w'.cell? ⟨gb101, 0, none⟩ = some (.int .i64 t104) ∧ w'.cell? ⟨gb101, 1, none⟩ = some (.slice Ao14 t105.length co14) ∧ w'.cell? ⟨gb102, 0, none⟩ = some (.int .i64 t109) ∧ w'.cell? ⟨gb102, 1, none⟩ = some (.slice Ao19 t110.length co19)) ∧ (Kd.R k62 62 w' w.heap.size (fun k_ => some k_ ≠ (.slice Ao14 t105.length co14 : Value).ownBlock ∧ some k_ ≠ (.slice Ao19 t110.length co19 : Value).ownBlock) s_.2.1 y117) ∧ (Kd.R k62 62 w' w.heap.size (fun k_ => some k_ ≠ (s_.2.1 : Value).ownBlock ∧ some k_ ≠ (.slice Ao19 t110.length co19 : Value).ownBlock) (.slice Ao14 t105.length co14) t105) ∧ (Kd.R k62 62 w' w.heap.size (fun k_ => some k_ ≠ (s_.2.1 : Value).ownBlock ∧ some k_ ≠ (.slice Ao14 t105.length co14 : Value).ownBlock) (.slice Ao19 t110.length co19) t110) ∧ (w'.heap[gb101]? = some (.cells #[.int .i64 t104, .slice Ao14 t105.length co14] 43 (0, 0))) ∧ (w'.heap[gb102]? = some (.cells #[.int .i64 t109, .slice Ao19 t110.length co19] 43 (0, 0))) ∧ (w'.heap[gb103]? = some (.cells #[.int .i64 0, .slice none 0 0] 43 (0, 0))) ∧ (w'.heap[s_.2.2]? = some (.cells #[.int .i64 0, .slice none 0 0] 43 (0, 0))) ∧ (w.heap.size ≤ s_.2.2) ∧ (w.heap.size ≤ s_.2.2) ∧ (gb101 ≠ s_.2.2) ∧ (s_.2.2 ≠ gb101) ∧ (gb102 ≠ s_.2.2) ∧ (s_.2.2 ≠ gb102) ∧ (gb103 ≠ s_.2.2) ∧ (s_.2.2 ≠ gb103) ∧ (Below w.heap.size w w')) ?_ ?_
       rotate_left
       ·intro hCont
        refine two_ (i := 4) (j := 9) (Ni := some 30) (Nj := some 8) #[true, true, true, true, true, true, true, false, false, false, false] #[true, true, true, true, false, true, true, false, false, true, false] rfl rfl rfl rfl (two_of HT_.out (by kernel_rfl)) (by decide) (by decide) (fun K hK => ?_) (fun K hK => ?_)
        ·skip
         refine Kd.R_append_rows_step k62 (w0 := w) w.heap.size (by rfl) (.const (.slice none 0 0)) (.tmp 29) 41 62 (.agg #[(.int .i64 0), (.int .i64 0)]) 16 rfl Try.underlying41 info62 rfl (by decide) (by omega) (.slice none 0 0) ([] : List (S62)) t105 _ _ _ (fun k_ => some k_ ≠ (.slice Ao14 t105.length co14 : Value).ownBlock ∧ some k_ ≠ (.slice Ao19 t110.length co19 : Value).ownBlock) (fun _ => False) rfl rfl ?aO ?aR (fun _ _ h => h) (fun _ h => h.elim) ?aF ?aB ?aS ?aL ?_
         (case aR => repeat (first | exact (Kd.R_reads' HO_102001.out).2.2 | (with_reducible refine Kd.C_alloc ?_ _) | (with_reducible refine Kd.C_drewN ?_ _) | (with_reducible refine Kd.C_drew ?_)))
         (case aB => exact (bl_ HB))
         (case aF => exact (fun k_ hk => ⟨Kd.fresh' (Kd.R_lt (rl_ HO_102001)) k_ hk, Kd.fresh' (Kd.R_lt (rl_ HO_103001)) k_ hk⟩))
         (case aO => exact ((Kd.R_nil _ _ _ _ (fun k_ => some k_ ≠ (.slice Ao14 t105.length co14 : Value).ownBlock ∧ some k_ ≠ (.slice Ao19 t110.length co19 : Value).ownBlock))))
         (case aS => exact (below_size (bl_ HB)))
         (case aL => have := LMc25.out; omega)
         intro v115 w51 ho hb hg hat
         rw [← Ny114.out] at ho
         have HO116 := Aside0.mk (ho)
         replace HO_102001 := Aside0.mk (Kd.R_after (Kd.R_apart_nil (rl_ HO_102001)) hg hat)
         replace HO_103001 := Aside0.mk (Kd.R_after (Kd.R_apart_nil (rl_ HO_103001)) hg hat)
         replace BK101 := Aside0.mk (blk_grown (g := gb101) (o := .cells #[.int .i64 t104, .slice Ao14 t105.length co14] 43 (0, 0)) (pl_ BK101) hg (by simp [Value.ownBlock]))
         replace BK102 := Aside0.mk (blk_grown (g := gb102) (o := .cells #[.int .i64 t109, .slice Ao19 t110.length co19] 43 (0, 0)) (pl_ BK102) hg (by simp [Value.ownBlock]))
         replace BK103 := Aside0.mk (blk_grown (g := gb103) (o := .cells #[.int .i64 0, .slice none 0 0] 43 (0, 0)) (pl_ BK103) hg (by simp [Value.ownBlock]))
         replace HB := Aside0.mk (hb)
         clear ho hb hg hat
         refine hK.out _ _ ⟨(blk_cell BK101.out 0).trans rfl, (blk_cell BK101.out 1).trans rfl, (blk_cell BK102.out 0).trans rfl, (blk_cell BK102.out 1).trans rfl⟩ (fun hHeld => ?_)
         clear hK K
         refine norm_ (a' := ?_) ?_ ?_
         rotate_left
         ·show Act.put _ (some 30) _ = _
          simp only [Act.put, List.setIfInBounds_toArray, List.set_cons_zero, List.set_cons_succ, i64_w, i32_w]
          rfl
         refine two_ (i := 7) (j := 9) (Ni := some 33) (Nj := some 8) #[true, true, true, true, true, true, true, true, false, false, false] #[true, true, true, true, true, true, true, false, false, true, false] rfl rfl rfl rfl (two_of HT_.out (by kernel_rfl)) (by decide) (by decide) (fun K hK => ?_) (fun K hK => ?_)
         ·skip
          refine Kd.R_append_rows_step k62 (w0 := w) w.heap.size (by rfl) (.tmp 30) (.tmp 32) 41 62 (.agg #[(.int .i64 0), (.int .i64 0)]) 16 rfl Try.underlying41 info62 rfl (by decide) (by omega) v115 y114 t110 _ _ _ (fun k_ => some k_ ≠ (.slice Ao14 t105.length co14 : Value).ownBlock ∧ some k_ ≠ (.slice Ao19 t110.length co19 : Value).ownBlock) (fun _ => False) rfl rfl ?aO ?aR (fun _ _ h => h) (fun _ h => h.elim) ?aF ?aB ?aS ?aL ?_
          (case aR => repeat (first | exact (Kd.R_reads' HO_103001.out).2.2 | (with_reducible refine Kd.C_alloc ?_ _) | (with_reducible refine Kd.C_drewN ?_ _) | (with_reducible refine Kd.C_drew ?_)))
          (case aB => exact (bl_ HB))
          (case aF => exact (fun k_ hk => ⟨Kd.fresh' (Kd.R_lt (rl_ HO_102001)) k_ hk, Kd.fresh' (Kd.R_lt (rl_ HO_103001)) k_ hk⟩))
          (case aO => exact (rl_ HO116))
          (case aS => exact (below_size (bl_ HB)))
          (case aL => have := LMc26.out; omega)
          intro v118 w52 ho hb hg hat
          rw [← Ny117.out] at ho
          have HO119 := Aside0.mk (ho)
          replace HO_102001 := Aside0.mk (Kd.R_after (ok := (fun k_ => some k_ ≠ (.slice Ao19 t110.length co19 : Value).ownBlock)) (rl_ HO_102001) hg hat)
          replace HO_103001 := Aside0.mk (Kd.R_after (ok := (fun k_ => some k_ ≠ (.slice Ao14 t105.length co14 : Value).ownBlock)) (rl_ HO_103001) hg hat)
          replace BK101 := Aside0.mk (blk_grown (g := gb101) (o := .cells #[.int .i64 t104, .slice Ao14 t105.length co14] 43 (0, 0)) (pl_ BK101) hg (Kd.R_ne HO116.out BK101.out (by decide)))
          replace BK102 := Aside0.mk (blk_grown (g := gb102) (o := .cells #[.int .i64 t109, .slice Ao19 t110.length co19] 43 (0, 0)) (pl_ BK102) hg (Kd.R_ne HO116.out BK102.out (by decide)))
          replace BK103 := Aside0.mk (blk_grown (g := gb103) (o := .cells #[.int .i64 0, .slice none 0 0] 43 (0, 0)) (pl_ BK103) hg (Kd.R_ne HO116.out BK103.out (by decide)))
          replace HB := Aside0.mk (hb)
          clear HO116 ho hb hg hat
          obtain ⟨Ao53, co53, eo53⟩ := Kd.R_slice HO119.out
          (first | subst eo53 | (injection eo53 with f1_ f2_ f3_; have f4_ := f1_.symm; have f5_ := f3_.symm; clear f1_ f2_ f3_; subst f4_; subst f5_))
          refine hK.out _ _ ⟨(blk_cell BK101.out 0).trans rfl, (blk_cell BK101.out 1).trans rfl, (blk_cell BK102.out 0).trans rfl, (blk_cell BK102.out 1).trans rfl⟩ (fun hHeld => ?_)
          clear hK K
          refine norm_ (a' := ?_) ?_ ?_
          rotate_left
          ·show Act.put _ (some 33) _ = _
           simp only [Act.put, List.setIfInBounds_toArray, List.set_cons_zero, List.set_cons_succ, i64_w, i32_w]
           rfl
          refine pure_ (i := 8) (N := some 34) (v := ?_) (a' := ?_) #[true, true, true, true, true, true, true, true, true, false, false] rfl rfl (any_of HT_.out (by kernel_rfl)) (fun _ _ _ h => h) (Or.inl ⟨by rfl, ?_⟩) ?_ ?_
          rotate_left
          ·intro w'
           go_simp
           with_reducible rfl
          rotate_left
          ·simp only [Act.put, List.setIfInBounds_toArray, List.set_cons_zero, List.set_cons_succ, i64_w, i32_w]
           rfl
          refine one_ (i := 9) (N := some 8) #[true, true, true, true, true, true, true, true, true, true, false] rfl rfl (one_of HT_.out (by kernel_rfl)) (by decide) (fun K hK => ?_)
          refine box_step ?hg (N := 8) ?hd (cs := #[.int .i64 0, .slice none 0 0]) (t := 43) ?hr ?_; (case hd => rfl); (case hg => rfl); (case hr => first | (go_simp; done) | (go_simp; rfl))
          intro gb120 hg w54 hbox hb
          have BK120 := Aside0.mk (hbox)
          have GW120 := Aside0.mk ((bs_ hg HB : w.heap.size ≤ gb120))
          have GE120 := Aside0.mk ((bs_ hg HB : w.heap.size ≤ gb120))
          have NB101_120 := Aside0.mk ((nl_ hg BK101 : gb101 ≠ gb120))
          have NB120_101 := Aside0.mk ((ng_ hg BK101 : gb120 ≠ gb101))
          have NB102_120 := Aside0.mk ((nl_ hg BK102 : gb102 ≠ gb120))
          have NB120_102 := Aside0.mk ((ng_ hg BK102 : gb120 ≠ gb102))
          have NB103_120 := Aside0.mk ((nl_ hg BK103 : gb103 ≠ gb120))
          have NB120_103 := Aside0.mk ((ng_ hg BK103 : gb120 ≠ gb103))
          replace HO_102001 := Aside0.mk (Kd.R_below (rl_ HO_102001) hb)
          replace HO_103001 := Aside0.mk (Kd.R_below (rl_ HO_103001) hb)
          replace HO119 := Aside0.mk (Kd.R_below (rl_ HO119) hb)
          replace BK101 := bb_ BK101 hb
          replace BK102 := bb_ BK102 hb
          replace BK103 := bb_ BK103 hb
          replace HB := hs_ HB hb
          clear hb hbox hg
          refine hK.out _ _ ⟨(blk_cell BK101.out 0).trans rfl, (blk_cell BK101.out 1).trans rfl, (blk_cell BK102.out 0).trans rfl, (blk_cell BK102.out 1).trans rfl⟩ (fun hHeld => ?_)
          clear hK K
          refine norm_ (a' := ?_) ?_ ?_
          rotate_left
          ·show Act.put _ (some 8) _ = _
           simp only [Act.put, List.setIfInBounds_toArray, List.set_cons_zero, List.set_cons_succ, i64_w, i32_w]
           rfl
          exact norm_ (by simp only [putAll, Act.put, List.setIfInBounds_toArray, List.set_cons_zero, List.set_cons_succ]) (hCont (v115, .slice Ao53 y117.length co53, gb120) _ ⟨hHeld, (rl_ HO119), (by (with_reducible repeat (first | apply Kd.R_alloc | apply Kd.R_drewN | apply Kd.R_drew)); exact Kd.R_mono HO_102001.out (fun _ hk => ⟨hk.2, hk.1⟩)), (by (with_reducible repeat (first | apply Kd.R_alloc | apply Kd.R_drewN | apply Kd.R_drew)); exact Kd.R_mono HO_103001.out (fun _ hk => ⟨hk.2, hk.1⟩)), (pl_ BK101), (pl_ BK102), (pl_ BK103), (pl_ BK120), GW120.out, GE120.out, NB101_120.out, NB120_101.out, NB102_120.out, NB120_102.out, NB103_120.out, NB120_103.out, (bl_ HB)⟩)
         ·skip
          refine box_step ?hg (N := 8) ?hd (cs := #[.int .i64 0, .slice none 0 0]) (t := 43) ?hr ?_; (case hd => rfl); (case hg => rfl); (case hr => first | (go_simp; done) | (go_simp; rfl))
          intro gb120 hg w52 hbox hb
          have BK120 := Aside0.mk (hbox)
          have GW120 := Aside0.mk ((bs_ hg HB : w.heap.size ≤ gb120))
          have GE120 := Aside0.mk ((bs_ hg HB : w.heap.size ≤ gb120))
          have NB101_120 := Aside0.mk ((nl_ hg BK101 : gb101 ≠ gb120))
          have NB120_101 := Aside0.mk ((ng_ hg BK101 : gb120 ≠ gb101))
          have NB102_120 := Aside0.mk ((nl_ hg BK102 : gb102 ≠ gb120))
          have NB120_102 := Aside0.mk ((ng_ hg BK102 : gb120 ≠ gb102))
          have NB103_120 := Aside0.mk ((nl_ hg BK103 : gb103 ≠ gb120))
          have NB120_103 := Aside0.mk ((ng_ hg BK103 : gb120 ≠ gb103))
          replace HO_102001 := Aside0.mk (Kd.R_below (rl_ HO_102001) hb)
          replace HO_103001 := Aside0.mk (Kd.R_below (rl_ HO_103001) hb)
          replace HO116 := Aside0.mk (Kd.R_below (rl_ HO116) hb)
          replace BK101 := bb_ BK101 hb
          replace BK102 := bb_ BK102 hb
          replace BK103 := bb_ BK103 hb
          replace HB := hs_ HB hb
          clear hb hbox hg
          refine hK.out _ _ ⟨(blk_cell BK101.out 0).trans rfl, (blk_cell BK101.out 1).trans rfl, (blk_cell BK102.out 0).trans rfl, (blk_cell BK102.out 1).trans rfl⟩ (fun hHeld => ?_)
          clear hK K
          refine norm_ (a' := ?_) ?_ ?_
          rotate_left
          ·show Act.put _ (some 8) _ = _
           simp only [Act.put, List.setIfInBounds_toArray, List.set_cons_zero, List.set_cons_succ, i64_w, i32_w]
           rfl
          refine one_ (i := 7) (N := some 33) #[true, true, true, true, true, true, true, true, false, true, false] rfl rfl (one_of HT_.out (by kernel_rfl)) (by decide) (fun K hK => ?_)
          refine Kd.R_append_rows_step k62 (w0 := w) w.heap.size (by rfl) (.tmp 30) (.tmp 32) 41 62 (.agg #[(.int .i64 0), (.int .i64 0)]) 16 rfl Try.underlying41 info62 rfl (by decide) (by omega) v115 y114 t110 _ _ _ (fun k_ => some k_ ≠ (.slice Ao14 t105.length co14 : Value).ownBlock ∧ some k_ ≠ (.slice Ao19 t110.length co19 : Value).ownBlock) (fun _ => False) rfl rfl ?aO ?aR (fun _ _ h => h) (fun _ h => h.elim) ?aF ?aB ?aS ?aL ?_
          (case aR => repeat (first | exact (Kd.R_reads' HO_103001.out).2.2 | (with_reducible refine Kd.C_alloc ?_ _) | (with_reducible refine Kd.C_drewN ?_ _) | (with_reducible refine Kd.C_drew ?_)))
          (case aB => exact (bl_ HB))
          (case aF => exact (fun k_ hk => ⟨Kd.fresh' (Kd.R_lt (rl_ HO_102001)) k_ hk, Kd.fresh' (Kd.R_lt (rl_ HO_103001)) k_ hk⟩))
          (case aO => exact (rl_ HO116))
          (case aS => exact (below_size (bl_ HB)))
          (case aL => have := LMc26.out; omega)
          intro v118 w53 ho hb hg hat
          rw [← Ny117.out] at ho
          have HO119 := Aside0.mk (ho)
          replace HO_102001 := Aside0.mk (Kd.R_after (ok := (fun k_ => some k_ ≠ (.slice Ao19 t110.length co19 : Value).ownBlock)) (rl_ HO_102001) hg hat)
          replace HO_103001 := Aside0.mk (Kd.R_after (ok := (fun k_ => some k_ ≠ (.slice Ao14 t105.length co14 : Value).ownBlock)) (rl_ HO_103001) hg hat)
          replace BK101 := Aside0.mk (blk_grown (g := gb101) (o := .cells #[.int .i64 t104, .slice Ao14 t105.length co14] 43 (0, 0)) (pl_ BK101) hg (Kd.R_ne HO116.out BK101.out (by decide)))
          replace BK102 := Aside0.mk (blk_grown (g := gb102) (o := .cells #[.int .i64 t109, .slice Ao19 t110.length co19] 43 (0, 0)) (pl_ BK102) hg (Kd.R_ne HO116.out BK102.out (by decide)))
          replace BK103 := Aside0.mk (blk_grown (g := gb103) (o := .cells #[.int .i64 0, .slice none 0 0] 43 (0, 0)) (pl_ BK103) hg (Kd.R_ne HO116.out BK103.out (by decide)))
          replace BK120 := Aside0.mk (blk_grown (g := gb120) (o := .cells #[.int .i64 0, .slice none 0 0] 43 (0, 0)) (pl_ BK120) hg (Kd.R_ne HO116.out BK120.out (by decide)))
          replace HB := Aside0.mk (hb)
          clear HO116 ho hb hg hat
          obtain ⟨Ao54, co54, eo54⟩ := Kd.R_slice HO119.out
          (first | subst eo54 | (injection eo54 with f1_ f2_ f3_; have f4_ := f1_.symm; have f5_ := f3_.symm; clear f1_ f2_ f3_; subst f4_; subst f5_))
          refine hK.out _ _ ⟨(blk_cell BK101.out 0).trans rfl, (blk_cell BK101.out 1).trans rfl, (blk_cell BK102.out 0).trans rfl, (blk_cell BK102.out 1).trans rfl⟩ (fun hHeld => ?_)
          clear hK K
          refine norm_ (a' := ?_) ?_ ?_
          rotate_left
          ·show Act.put _ (some 33) _ = _
           simp only [Act.put, List.setIfInBounds_toArray, List.set_cons_zero, List.set_cons_succ, i64_w, i32_w]
           rfl
          refine pure_ (i := 8) (N := some 34) (v := ?_) (a' := ?_) #[true, true, true, true, true, true, true, true, true, true, false] rfl rfl (any_of HT_.out (by kernel_rfl)) (fun _ _ _ h => h) (Or.inl ⟨by rfl, ?_⟩) ?_ ?_
          rotate_left
          ·intro w'
           go_simp
           with_reducible rfl
          rotate_left
          ·simp only [Act.put, List.setIfInBounds_toArray, List.set_cons_zero, List.set_cons_succ, i64_w, i32_w]
           rfl
          exact norm_ (by simp only [putAll, Act.put, List.setIfInBounds_toArray, List.set_cons_zero, List.set_cons_succ]) (hCont (v115, .slice Ao54 y117.length co54, gb120) _ ⟨hHeld, (rl_ HO119), (by (with_reducible repeat (first | apply Kd.R_alloc | apply Kd.R_drewN | apply Kd.R_drew)); exact Kd.R_mono HO_102001.out (fun _ hk => ⟨hk.2, hk.1⟩)), (by (with_reducible repeat (first | apply Kd.R_alloc | apply Kd.R_drewN | apply Kd.R_drew)); exact Kd.R_mono HO_103001.out (fun _ hk => ⟨hk.2, hk.1⟩)), (pl_ BK101), (pl_ BK102), (pl_ BK103), (pl_ BK120), GW120.out, GE120.out, NB101_120.out, NB120_101.out, NB102_120.out, NB120_102.out, NB103_120.out, NB120_103.out, (bl_ HB)⟩)
        ·skip
         refine box_step ?hg (N := 8) ?hd (cs := #[.int .i64 0, .slice none 0 0]) (t := 43) ?hr ?_; (case hd => rfl); (case hg => rfl); (case hr => first | (go_simp; done) | (go_simp; rfl))
         intro gb120 hg w51 hbox hb
         have BK120 := Aside0.mk (hbox)
         have GW120 := Aside0.mk ((bs_ hg HB : w.heap.size ≤ gb120))
         have GE120 := Aside0.mk ((bs_ hg HB : w.heap.size ≤ gb120))
         have NB101_120 := Aside0.mk ((nl_ hg BK101 : gb101 ≠ gb120))
         have NB120_101 := Aside0.mk ((ng_ hg BK101 : gb120 ≠ gb101))
         have NB102_120 := Aside0.mk ((nl_ hg BK102 : gb102 ≠ gb120))
         have NB120_102 := Aside0.mk ((ng_ hg BK102 : gb120 ≠ gb102))
         have NB103_120 := Aside0.mk ((nl_ hg BK103 : gb103 ≠ gb120))
         have NB120_103 := Aside0.mk ((ng_ hg BK103 : gb120 ≠ gb103))
         replace HO_102001 := Aside0.mk (Kd.R_below (rl_ HO_102001) hb)
         replace HO_103001 := Aside0.mk (Kd.R_below (rl_ HO_103001) hb)
         replace BK101 := bb_ BK101 hb
         replace BK102 := bb_ BK102 hb
         replace BK103 := bb_ BK103 hb
         replace HB := hs_ HB hb
         clear hb hbox hg
         refine hK.out _ _ ⟨(blk_cell BK101.out 0).trans rfl, (blk_cell BK101.out 1).trans rfl, (blk_cell BK102.out 0).trans rfl, (blk_cell BK102.out 1).trans rfl⟩ (fun hHeld => ?_)
         clear hK K
         refine norm_ (a' := ?_) ?_ ?_
         rotate_left
         ·show Act.put _ (some 8) _ = _
          simp only [Act.put, List.setIfInBounds_toArray, List.set_cons_zero, List.set_cons_succ, i64_w, i32_w]
          rfl
         refine one_ (i := 4) (N := some 30) #[true, true, true, true, true, true, true, false, false, true, false] rfl rfl (one_of HT_.out (by kernel_rfl)) (by decide) (fun K hK => ?_)
         refine Kd.R_append_rows_step k62 (w0 := w) w.heap.size (by rfl) (.const (.slice none 0 0)) (.tmp 29) 41 62 (.agg #[(.int .i64 0), (.int .i64 0)]) 16 rfl Try.underlying41 info62 rfl (by decide) (by omega) (.slice none 0 0) ([] : List (S62)) t105 _ _ _ (fun k_ => some k_ ≠ (.slice Ao14 t105.length co14 : Value).ownBlock ∧ some k_ ≠ (.slice Ao19 t110.length co19 : Value).ownBlock) (fun _ => False) rfl rfl ?aO ?aR (fun _ _ h => h) (fun _ h => h.elim) ?aF ?aB ?aS ?aL ?_
         (case aR => repeat (first | exact (Kd.R_reads' HO_102001.out).2.2 | (with_reducible refine Kd.C_alloc ?_ _) | (with_reducible refine Kd.C_drewN ?_ _) | (with_reducible refine Kd.C_drew ?_)))
         (case aB => exact (bl_ HB))
         (case aF => exact (fun k_ hk => ⟨Kd.fresh' (Kd.R_lt (rl_ HO_102001)) k_ hk, Kd.fresh' (Kd.R_lt (rl_ HO_103001)) k_ hk⟩))
         (case aO => exact ((Kd.R_nil _ _ _ _ (fun k_ => some k_ ≠ (.slice Ao14 t105.length co14 : Value).ownBlock ∧ some k_ ≠ (.slice Ao19 t110.length co19 : Value).ownBlock))))
         (case aS => exact (below_size (bl_ HB)))
         (case aL => have := LMc25.out; omega)
         intro v115 w52 ho hb hg hat
         rw [← Ny114.out] at ho
         have HO116 := Aside0.mk (ho)
         replace HO_102001 := Aside0.mk (Kd.R_after (Kd.R_apart_nil (rl_ HO_102001)) hg hat)
         replace HO_103001 := Aside0.mk (Kd.R_after (Kd.R_apart_nil (rl_ HO_103001)) hg hat)
         replace BK101 := Aside0.mk (blk_grown (g := gb101) (o := .cells #[.int .i64 t104, .slice Ao14 t105.length co14] 43 (0, 0)) (pl_ BK101) hg (by simp [Value.ownBlock]))
         replace BK102 := Aside0.mk (blk_grown (g := gb102) (o := .cells #[.int .i64 t109, .slice Ao19 t110.length co19] 43 (0, 0)) (pl_ BK102) hg (by simp [Value.ownBlock]))
         replace BK103 := Aside0.mk (blk_grown (g := gb103) (o := .cells #[.int .i64 0, .slice none 0 0] 43 (0, 0)) (pl_ BK103) hg (by simp [Value.ownBlock]))
         replace BK120 := Aside0.mk (blk_grown (g := gb120) (o := .cells #[.int .i64 0, .slice none 0 0] 43 (0, 0)) (pl_ BK120) hg (by simp [Value.ownBlock]))
         replace HB := Aside0.mk (hb)
         clear ho hb hg hat
         refine hK.out _ _ ⟨(blk_cell BK101.out 0).trans rfl, (blk_cell BK101.out 1).trans rfl, (blk_cell BK102.out 0).trans rfl, (blk_cell BK102.out 1).trans rfl⟩ (fun hHeld => ?_)
         clear hK K
         refine norm_ (a' := ?_) ?_ ?_
         rotate_left
         ·show Act.put _ (some 30) _ = _
          simp only [Act.put, List.setIfInBounds_toArray, List.set_cons_zero, List.set_cons_succ, i64_w, i32_w]
          rfl
         refine one_ (i := 7) (N := some 33) #[true, true, true, true, true, true, true, true, false, true, false] rfl rfl (one_of HT_.out (by kernel_rfl)) (by decide) (fun K hK => ?_)
         refine Kd.R_append_rows_step k62 (w0 := w) w.heap.size (by rfl) (.tmp 30) (.tmp 32) 41 62 (.agg #[(.int .i64 0), (.int .i64 0)]) 16 rfl Try.underlying41 info62 rfl (by decide) (by omega) v115 y114 t110 _ _ _ (fun k_ => some k_ ≠ (.slice Ao14 t105.length co14 : Value).ownBlock ∧ some k_ ≠ (.slice Ao19 t110.length co19 : Value).ownBlock) (fun _ => False) rfl rfl ?aO ?aR (fun _ _ h => h) (fun _ h => h.elim) ?aF ?aB ?aS ?aL ?_
         (case aR => repeat (first | exact (Kd.R_reads' HO_103001.out).2.2 | (with_reducible refine Kd.C_alloc ?_ _) | (with_reducible refine Kd.C_drewN ?_ _) | (with_reducible refine Kd.C_drew ?_)))
         (case aB => exact (bl_ HB))
         (case aF => exact (fun k_ hk => ⟨Kd.fresh' (Kd.R_lt (rl_ HO_102001)) k_ hk, Kd.fresh' (Kd.R_lt (rl_ HO_103001)) k_ hk⟩))
         (case aO => exact (rl_ HO116))
         (case aS => exact (below_size (bl_ HB)))
         (case aL => have := LMc26.out; omega)
         intro v118 w53 ho hb hg hat
         rw [← Ny117.out] at ho
         have HO119 := Aside0.mk (ho)
         replace HO_102001 := Aside0.mk (Kd.R_after (ok := (fun k_ => some k_ ≠ (.slice Ao19 t110.length co19 : Value).ownBlock)) (rl_ HO_102001) hg hat)
         replace HO_103001 := Aside0.mk (Kd.R_after (ok := (fun k_ => some k_ ≠ (.slice Ao14 t105.length co14 : Value).ownBlock)) (rl_ HO_103001) hg hat)
         replace BK101 := Aside0.mk (blk_grown (g := gb101) (o := .cells #[.int .i64 t104, .slice Ao14 t105.length co14] 43 (0, 0)) (pl_ BK101) hg (Kd.R_ne HO116.out BK101.out (by decide)))
         replace BK102 := Aside0.mk (blk_grown (g := gb102) (o := .cells #[.int .i64 t109, .slice Ao19 t110.length co19] 43 (0, 0)) (pl_ BK102) hg (Kd.R_ne HO116.out BK102.out (by decide)))
         replace BK103 := Aside0.mk (blk_grown (g := gb103) (o := .cells #[.int .i64 0, .slice none 0 0] 43 (0, 0)) (pl_ BK103) hg (Kd.R_ne HO116.out BK103.out (by decide)))
         replace BK120 := Aside0.mk (blk_grown (g := gb120) (o := .cells #[.int .i64 0, .slice none 0 0] 43 (0, 0)) (pl_ BK120) hg (Kd.R_ne HO116.out BK120.out (by decide)))
         replace HB := Aside0.mk (hb)
         clear HO116 ho hb hg hat
         obtain ⟨Ao54, co54, eo54⟩ := Kd.R_slice HO119.out
         (first | subst eo54 | (injection eo54 with f1_ f2_ f3_; have f4_ := f1_.symm; have f5_ := f3_.symm; clear f1_ f2_ f3_; subst f4_; subst f5_))
         refine hK.out _ _ ⟨(blk_cell BK101.out 0).trans rfl, (blk_cell BK101.out 1).trans rfl, (blk_cell BK102.out 0).trans rfl, (blk_cell BK102.out 1).trans rfl⟩ (fun hHeld => ?_)
         clear hK K
         refine norm_ (a' := ?_) ?_ ?_
         rotate_left
         ·show Act.put _ (some 33) _ = _
          simp only [Act.put, List.setIfInBounds_toArray, List.set_cons_zero, List.set_cons_succ, i64_w, i32_w]
          rfl
         refine pure_ (i := 8) (N := some 34) (v := ?_) (a' := ?_) #[true, true, true, true, true, true, true, true, true, true, false] rfl rfl (any_of HT_.out (by kernel_rfl)) (fun _ _ _ h => h) (Or.inl ⟨by rfl, ?_⟩) ?_ ?_
         rotate_left
         ·intro w'
          go_simp
          with_reducible rfl
         rotate_left
         ·simp only [Act.put, List.setIfInBounds_toArray, List.set_cons_zero, List.set_cons_succ, i64_w, i32_w]
          rfl
         exact norm_ (by simp only [putAll, Act.put, List.setIfInBounds_toArray, List.set_cons_zero, List.set_cons_succ]) (hCont (v115, .slice Ao54 y117.length co54, gb120) _ ⟨hHeld, (rl_ HO119), (by (with_reducible repeat (first | apply Kd.R_alloc | apply Kd.R_drewN | apply Kd.R_drew)); exact Kd.R_mono HO_102001.out (fun _ hk => ⟨hk.2, hk.1⟩)), (by (with_reducible repeat (first | apply Kd.R_alloc | apply Kd.R_drewN | apply Kd.R_drew)); exact Kd.R_mono HO_103001.out (fun _ hk => ⟨hk.2, hk.1⟩)), (pl_ BK101), (pl_ BK102), (pl_ BK103), (pl_ BK120), GW120.out, GE120.out, NB101_120.out, NB120_101.out, NB102_120.out, NB120_102.out, NB103_120.out, NB120_103.out, (bl_ HB)⟩)
       rintro ⟨v115, v118, gb120⟩ w55 ⟨hS_, h0_, h1_, h2_, h3_, h4_, h5_, h6_, h7_, h8_, h9_, h10_, h11_, h12_, h13_, h14_, h15_⟩
       have n0_ : Aside0 (Kd.R k62 62 w55 w.heap.size (fun k_ => some k_ ≠ (.slice Ao14 t105.length co14 : Value).ownBlock ∧ some k_ ≠ (.slice Ao19 t110.length co19 : Value).ownBlock) v118 y117) := ⟨h0_⟩
       have n1_ : Aside0 (Kd.R k62 62 w55 w.heap.size (fun k_ => some k_ ≠ (v118 : Value).ownBlock ∧ some k_ ≠ (.slice Ao19 t110.length co19 : Value).ownBlock) (.slice Ao14 t105.length co14) t105) := ⟨h1_⟩
       have n2_ : Aside0 (Kd.R k62 62 w55 w.heap.size (fun k_ => some k_ ≠ (v118 : Value).ownBlock ∧ some k_ ≠ (.slice Ao14 t105.length co14 : Value).ownBlock) (.slice Ao19 t110.length co19) t110) := ⟨h2_⟩
       have n3_ : Aside0 (w55.heap[gb101]? = some (.cells #[.int .i64 t104, .slice Ao14 t105.length co14] 43 (0, 0))) := ⟨h3_⟩
       have n4_ : Aside0 (w55.heap[gb102]? = some (.cells #[.int .i64 t109, .slice Ao19 t110.length co19] 43 (0, 0))) := ⟨h4_⟩
       have n5_ : Aside0 (w55.heap[gb103]? = some (.cells #[.int .i64 0, .slice none 0 0] 43 (0, 0))) := ⟨h5_⟩
       have n6_ : Aside0 (w55.heap[gb120]? = some (.cells #[.int .i64 0, .slice none 0 0] 43 (0, 0))) := ⟨h6_⟩
       have n7_ : Aside0 (w.heap.size ≤ gb120) := ⟨h7_⟩
       have n8_ : Aside0 (w.heap.size ≤ gb120) := ⟨h8_⟩
       have n9_ : Aside0 (gb101 ≠ gb120) := ⟨h9_⟩
       have n10_ : Aside0 (gb120 ≠ gb101) := ⟨h10_⟩
       have n11_ : Aside0 (gb102 ≠ gb120) := ⟨h11_⟩
       have n12_ : Aside0 (gb120 ≠ gb102) := ⟨h12_⟩
       have n13_ : Aside0 (gb103 ≠ gb120) := ⟨h13_⟩
       have n14_ : Aside0 (gb120 ≠ gb103) := ⟨h14_⟩
       have n15_ : Aside0 (Below w.heap.size w w55) := ⟨h15_⟩
       clear HO_102001 HO_103001 BK101 BK102 BK103 HB h0_ h1_ h2_ h3_ h4_ h5_ h6_ h7_ h8_ h9_ h10_ h11_ h12_ h13_ h14_ h15_
       have HO119 := n0_
       have HO_102001 := n1_
       have HO_103001 := n2_
       have BK101 := n3_
       have BK102 := n4_
       have BK103 := n5_
       have BK120 := n6_
       have GW120 := n7_
       have GE120 := n8_
       have NB101_120 := n9_
       have NB120_101 := n10_
       have NB102_120 := n11_
       have NB120_102 := n12_
       have NB103_120 := n13_
       have NB120_103 := n14_
       have HB := n15_
       clear n0_ n1_ n2_ n3_ n4_ n5_ n6_ n7_ n8_ n9_ n10_ n11_ n12_ n13_ n14_ n15_
       have hHeld : w55.cell? ⟨gb101, 0, none⟩ = some (.int .i64 t104) ∧ w55.cell? ⟨gb101, 1, none⟩ = some (.slice Ao14 t105.length co14) ∧ w55.cell? ⟨gb102, 0, none⟩ = some (.int .i64 t109) ∧ w55.cell? ⟨gb102, 1, none⟩ = some (.slice Ao19 t110.length co19) := hS_
       obtain ⟨Ao56, co56, eo56⟩ := Kd.R_slice HO119.out
       (first | subst eo56 | (injection eo56 with f1_ f2_ f3_; have f4_ := f1_.symm; have f5_ := f3_.symm; clear f1_ f2_ f3_; subst f4_; subst f5_))
       refine norm_ (a' := ?_) ?_ ?_
       rotate_left
       ·simp only [putAll, Act.put, List.setIfInBounds_toArray, List.set_cons_zero, List.set_cons_succ]
        rfl
       refine one_ (i := 10) (N := none) #[true, true, true, true, true, true, true, true, true, true, true] rfl rfl (one_of HT_.out (by kernel_rfl)) (by decide) (fun K hK => ?_)
       have hs57 : w55.cell? ⟨gb120, 0, none⟩ = some (.int .i64 0) := (blk_cell BK120.out 0).trans rfl
       have hfs57 := blk_frozen BK120.out 0
       have hns57_0 := NB101_120.out
       have hns57_1 := NB102_120.out
       have hns57_2 := NB103_120.out
       have hms57_0 := NB120_101.out
       have hms57_1 := NB120_102.out
       have hms57_2 := NB120_103.out
       have hs58 : w55.cell? ⟨gb120, 1, none⟩ = some (.slice none 0 0) := (blk_cell BK120.out 1).trans rfl
       have hfs58 := blk_frozen BK120.out 1
       have hns58_0 := NB101_120.out
       have hns58_1 := NB102_120.out
       have hns58_2 := NB103_120.out
       have hms58_0 := NB120_101.out
       have hms58_1 := NB120_102.out
       have hms58_2 := NB120_103.out
       refine skip_ (w1 := ?_) (by rfl) rfl ?_ ?_
       rotate_left
       ·go_simp
        rfl
       refine hK.out _ _ ⟨((cell_far (p := ⟨gb120, _, none⟩) NB101_120.out _).trans (((cell_far (p := ⟨gb120, _, none⟩) NB101_120.out _).trans (hHeld.1)))), ((cell_far (p := ⟨gb120, _, none⟩) NB101_120.out _).trans (((cell_far (p := ⟨gb120, _, none⟩) NB101_120.out _).trans (hHeld.2.1)))), ((cell_far (p := ⟨gb120, _, none⟩) NB102_120.out _).trans (((cell_far (p := ⟨gb120, _, none⟩) NB102_120.out _).trans (hHeld.2.2.1)))), ((cell_far (p := ⟨gb120, _, none⟩) NB102_120.out _).trans (((cell_far (p := ⟨gb120, _, none⟩) NB102_120.out _).trans (hHeld.2.2.2))))⟩ (fun hHeld => ?_)
       clear hK K
       refine done_ (done_of HT_.out (by kernel_rfl)) ?_
       have hnb59 := NB102_101.out
       have hnc59 := NB101_102.out
       have hnb60 := NB102_103.out
       have hnc60 := NB103_102.out
       have hnb61 := NB102_120.out
       have hnc61 := NB120_102.out
       have hcz62_0 : w55.cell? ⟨gb102, 0, none⟩ = some (.int .i64 t109) := (blk_cell BK102.out 0).trans rfl
       have hcz62_1 : w55.cell? ⟨gb102, 1, none⟩ = some (.slice Ao19 t110.length co19) := (blk_cell BK102.out 1).trans rfl
       have hfz62_0 := blk_frozen BK102.out 0
       have hfz62_1 := blk_frozen BK102.out 1
       have hnb63 := NB120_101.out
       have hnc63 := NB101_120.out
       have hnb64 := NB120_103.out
       have hnc64 := NB103_120.out
       have hcz65_0 : w55.cell? ⟨gb120, 0, none⟩ = some (.int .i64 0) := (blk_cell BK120.out 0).trans rfl
       have hcz65_1 : w55.cell? ⟨gb120, 1, none⟩ = some (.slice none 0 0) := (blk_cell BK120.out 1).trans rfl
       have hfz65_0 := blk_frozen BK120.out 0
       have hfz65_1 := blk_frozen BK120.out 1
       try go_wp2_with (first | ((with_reducible refine gate_callee (f := 82) rfl ?_); refine goesL_ (some 44) rfl rfl Try.func82 (by kernel_rfl) rfl #[.agg #[.int .i64 t104, .slice Ao56 y117.length co56]] rfl (by (try simp only [List.map_toArray, List.map_cons, List.map_nil]); first | done | rfl | (simp only [List.length_drop, List.length_take]; rfl)) ?_; (with_reducible refine (telamonref1_fits.calls kj4 t104 _ _ y117 t126 t127 t130 _ ?side1 ?side2 A49.out).mono ?_); (case side1 => refine (Kd.R_reads' (e := 62) (base := w.heap.size) (ok := fun k_ => (some k_ ≠ (.slice Ao14 t105.length co14 : Value).ownBlock ∧ some k_ ≠ (.slice Ao19 t110.length co19 : Value).ownBlock)) (n := y117.length) (c := co56) ?_).2.2; exact (by (with_reducible repeat (first | apply Kd.R_alloc | apply Kd.R_drewN | apply Kd.R_drew)); exact (Kd.R_mono (Kd.R_far (p := ⟨gb120, 1, none⟩) (Kd.R_far (p := ⟨gb120, 0, none⟩) (Kd.R_types HO119.out BK120.out (by decide)) (fun _ hk => hk.2) (.int .i64 t104)) (fun _ hk => hk.2) (.slice Ao56 y117.length co56)) (fun _ h_ => h_.1)))); (case side2 => exact (Kd.R_reads' HO119.out).2.1); rintro e w66 ⟨v128, rfl, ho0, hb⟩; refine ⟨_, rfl, ?_⟩; have HO129 := Aside0.mk (Kd.R_lower (Kd.R_new' (Kd.R_new' (Kd.R_new' ho0 (Kd.R_lt (by (with_reducible repeat (first | apply Kd.R_alloc | apply Kd.R_drewN | apply Kd.R_drew)); exact (Kd.R_mono (Kd.R_far (p := ⟨gb120, 1, none⟩) (Kd.R_far (p := ⟨gb120, 0, none⟩) (Kd.R_types HO_102001.out BK120.out (by decide)) (fun _ hk => hk.2) (.int .i64 t104)) (fun _ hk => hk.2) (.slice Ao56 y117.length co56)) (fun _ h_ => h_.1))))) (Kd.R_lt (by (with_reducible repeat (first | apply Kd.R_alloc | apply Kd.R_drewN | apply Kd.R_drew)); exact (Kd.R_mono (Kd.R_far (p := ⟨gb120, 1, none⟩) (Kd.R_far (p := ⟨gb120, 0, none⟩) (Kd.R_types HO_103001.out BK120.out (by decide)) (fun _ hk => hk.2) (.int .i64 t104)) (fun _ hk => hk.2) (.slice Ao56 y117.length co56)) (fun _ h_ => h_.1))))) (Kd.R_lt (by (with_reducible repeat (first | apply Kd.R_alloc | apply Kd.R_drewN | apply Kd.R_drew)); exact (Kd.R_mono (Kd.R_far (p := ⟨gb120, 1, none⟩) (Kd.R_far (p := ⟨gb120, 0, none⟩) (Kd.R_types HO119.out BK120.out (by decide)) (fun _ hk => hk.2) (.int .i64 t104)) (fun _ hk => hk.2) (.slice Ao56 y117.length co56)) (fun _ h_ => h_.1))))) (below_size (bl_ HB))); replace HO_102001 := Aside0.mk (Kd.R_elder' (by (with_reducible repeat (first | apply Kd.R_alloc | apply Kd.R_drewN | apply Kd.R_drew)); exact (Kd.R_mono (Kd.R_far (p := ⟨gb120, 1, none⟩) (Kd.R_far (p := ⟨gb120, 0, none⟩) (Kd.R_types HO_102001.out BK120.out (by decide)) (fun _ hk => hk.2) (.int .i64 t104)) (fun _ hk => hk.2) (.slice Ao56 y117.length co56)) (fun _ h_ => h_.1))) (Kd.R_base ho0) hb); replace HO_103001 := Aside0.mk (Kd.R_elder' (by (with_reducible repeat (first | apply Kd.R_alloc | apply Kd.R_drewN | apply Kd.R_drew)); exact (Kd.R_mono (Kd.R_far (p := ⟨gb120, 1, none⟩) (Kd.R_far (p := ⟨gb120, 0, none⟩) (Kd.R_types HO_103001.out BK120.out (by decide)) (fun _ hk => hk.2) (.int .i64 t104)) (fun _ hk => hk.2) (.slice Ao56 y117.length co56)) (fun _ h_ => h_.1))) (Kd.R_base ho0) hb); replace HO119 := Aside0.mk (Kd.R_elder' (by (with_reducible repeat (first | apply Kd.R_alloc | apply Kd.R_drewN | apply Kd.R_drew)); exact (Kd.R_mono (Kd.R_far (p := ⟨gb120, 1, none⟩) (Kd.R_far (p := ⟨gb120, 0, none⟩) (Kd.R_types HO119.out BK120.out (by decide)) (fun _ hk => hk.2) (.int .i64 t104)) (fun _ hk => hk.2) (.slice Ao56 y117.length co56)) (fun _ h_ => h_.1))) (Kd.R_base ho0) hb); replace BK101 := Aside0.mk (blk_below (pf_ BK101) hb); replace BK102 := Aside0.mk (blk_below (pf_ BK102) hb); replace BK103 := Aside0.mk (blk_below (pf_ BK103) hb); replace BK120 := Aside0.mk (blk_below (g := gb120) (o := .cells #[.int .i64 t104, .slice Ao56 y117.length co56] 43 (0, 0)) (by (with_reducible repeat (first | refine blk_drewN ?_ _ | refine blk_drew ?_ | refine blk_alloc ?_ _)); refine blk_put (cs := #[.int .i64 t104, .slice none 0 0]) ?_ 1 _ rfl; (with_reducible repeat (first | refine blk_drewN ?_ _ | refine blk_drew ?_ | refine blk_alloc ?_ _)); refine blk_put (cs := #[.int .i64 0, .slice none 0 0]) ?_ 0 _ rfl; (with_reducible repeat (first | refine blk_drewN ?_ _ | refine blk_drew ?_ | refine blk_alloc ?_ _)); exact BK120.out) hb); replace HB := hs_ HB hb; (try clear hb); (try clear hb2); (try clear hk); (try clear hi); (try clear ho0); have hnb67 := NB103_101.out; have hnc67 := NB101_103.out; have hcz68_0 : w66.cell? ⟨gb103, 0, none⟩ = some (.int .i64 0) := (blk_cell BK103.out 0).trans rfl; have hcz68_1 : w66.cell? ⟨gb103, 1, none⟩ = some (.slice none 0 0) := (blk_cell BK103.out 1).trans rfl; have hfz68_0 := blk_frozen BK103.out 0; have hfz68_1 := blk_frozen BK103.out 1; obtain ⟨Ao69, co69, eo69⟩ := Kd.R_slice HO129.out; subst eo69))
       refine bodyPost_ret (results_ct rfl _ _ gb103 43 #[.int .i64 t126, .slice Ao69 t127.length co69] (0, 0) _ rfl (by (with_reducible repeat (first | refine blk_drewN ?_ _ | refine blk_drew ?_ | refine blk_alloc ?_ _)); refine blk_put (cs := #[.int .i64 t126, .slice none 0 0]) ?_ 1 _ rfl; (with_reducible repeat (first | refine blk_drewN ?_ _ | refine blk_drew ?_ | refine blk_alloc ?_ _)); refine blk_put (cs := #[.int .i64 0, .slice none 0 0]) ?_ 0 _ rfl; (with_reducible repeat (first | refine blk_drewN ?_ _ | refine blk_drew ?_ | refine blk_alloc ?_ _)); exact BK103.out) Try.underlying43 rfl (by kernel_rfl)) rfl ?_
       exact ⟨_, by first | rfl | (simp [errW_none, errW_some] <;> rfl) | (simp [*, errW_none, errW_some] <;> rfl), by (with_reducible repeat (first | apply Kd.R_alloc | apply Kd.R_drewN | apply Kd.R_drew)); exact Kd.R_mono (Kd.R_far (p := ⟨gb103, 1, none⟩) (Kd.R_far (p := ⟨gb103, 0, none⟩) (Kd.R_types HO129.out BK103.out (by decide)) (fun _ hk => hk.2) (.int .i64 t126)) (fun _ hk => hk.2) (.slice Ao69 t127.length co69)) (fun _ hk => trivial), by repeat (first | (with_reducible first | exact HB.out | apply below_alloc | apply pw_below_drewN | apply below_drew1 | refine below_set ?_ GE101.out | refine below_set ?_ GE102.out | refine below_set ?_ GE103.out | refine below_set ?_ GE120.out) | exact HB.out)⟩
     ·rw [if_neg c26] at H
      exact absurd H (by simp)
    ·rw [if_neg c25] at H
     exact absurd H (by simp)

end Go.Proofs.Ytbopadglafbdjaa.PX
