-- by wip/tools/gprint.py of this session over the kit's print; given functions are this session's own text
import Derived.Test.YtbopadglafbdjaaPXx0
import Derived.Test.YtbopadglafbdjaaSE
import Derived.Test.YtbopadglafbdjaaMA
import Derived.WalkMore
import Derived.RangeFuncNested
import Derived.RangeFuncBound
import Derived.RangeFuncCalls
import Derived.RangeFuncLeaves
import Derived.OwnWalkIn
import Derived.TacticsInMore
import Derived.LoopNIn
import Derived.LoopIn
namespace Go.Proofs.Ytbopadglafbdjaa.PX
open Go.RowKit Go.Proofs.YtbopadglafbdjaaW.PrintWords Go.Proofs.YtbopadglafbdjaaW.PrintLast Go.Proofs.YtbopadglafbdjaaW.PrintMore
attribute [local go_sem] max2_int min2_int max_two min_two max_three min_three max_four min_four   -- for this text's walks alone
set_option linter.unusedVariables false
set_option linter.unusedSimpArgs false

/-! ### lsolve_Solve: function 29 -/
-- GIVEN
-- IMPORTS Derived.Test.YtbopadglafbdjaaSE,Derived.Test.YtbopadglafbdjaaMA,Derived.WalkMore,Derived.RangeFuncNested,Derived.RangeFuncBound,Derived.RangeFuncCalls,Derived.RangeFuncLeaves,Derived.OwnWalkIn,Derived.TacticsInMore,Derived.LoopNIn,Derived.LoopIn
set_option linter.unusedVariables false
set_option linter.unusedSimpArgs false
/-- What the solver tells. -/
def solveF (a0 : Int) (l1 : List S45) : List Int × Int :=
  if a0 < 0 ∨ a0 > 500 ∨ (l1.length : Int) > 2000 then ([], 2)
  else if (M.askB a0 l1).2 = 0 then
    (roundsR a0 (M.askB a0 l1).1 (a0.toNat + 2) 0 (List.replicate a0.toNat 0)).elim ([], 52) fun c => if overB c (M.askB a0 l1).1 then ([], 52) else (c, 0)
  else ([], (M.askB a0 l1).2)
def lsolve_Solve.f (a0 : Int) (l1 : List S45) : Option (List Int × Int) := some (solveF a0 l1)
theorem res29 {l : List Value} {v0 v1 v2 v3 : Value} {W : World} {b4 b5 : Nat} {v : Value} {e : Int} (k4 : W.heap[b4]? = some (.cells #[v] 29 (0, 0))) (k5 : W.heap[b5]? = some (.cells #[.int .i64 e] 46 (0, 0))) :
    (results Try.f29 (v0 :: v1 :: v2 :: v3 :: .pointer (some ⟨b4, 0, none⟩) :: .pointer (some ⟨b5, 0, none⟩) :: l).toArray).run Try.prog W = .ok (.tuple #[v, .int .i64 e]) W := by
  have c4 : W.cell? ⟨b4, 0, none⟩ = some v := (blk_cell k4 0).trans rfl
  have c5 : W.cell? ⟨b5, 0, none⟩ = some (.int .i64 e) := (blk_cell k5 0).trans rfl
  simp [results, Try.f29, go_sem, c4, c5]
set_option maxHeartbeats 8000000 in
set_option maxRecDepth 100000 in
theorem lsolve_Solve.calls (a0 : Int) (A1 : Option Addr) (c1 : Nat) (l1 : List (S45)) (r1 : List Int) (r2 : Int) (w : World) (hr1 : Kd.C k45 w A1 l1.length l1) (hc1 : l1.length ≤ c1) (h : lsolve_Solve.f a0 l1 = some (r1, r2)) :
  Calls Try.prog 29 #[.int .i64 a0, .slice A1 l1.length c1] w fun e w' => ∃ v0_ : Value, e = .returned (.tuple #[v0_, .int .i64 r2]) ∧ Kd.R (Kd.int .i64) 3 w' w.heap.size (fun _ => True) v0_ r1 ∧ Below w.heap.size w w' := by
 have hu94 := Try.underlying94
 have hu101 := Try.underlying101
 have hu43 := Try.underlying43
 have HR1 := Aside0.mk hr1
 have HC1 := Aside0.mk hc1
 clear hr1 hc1
 have HB := Aside0.mk (Below.refl w.heap.size w)
 have hf : solveF a0 l1 = (r1, r2) := Option.some.inj h
 clear h
 unfold solveF at hf
 have HF := Aside0.mk hf
 clear hf
 refine (callsIn_wide (n := 6)).1 (callsIn_of_wp_marks Try.func29 rfl trivial (wpIn_wide.2 ?_) rfl)
 simp only [Try.ntmps29, List.size_toArray, List.length_cons, List.length_nil, Nat.reduceAdd, Nat.reduceSub, Array.replicate_succ, Array.replicate_zero, List.push_toArray, List.append_toArray, List.nil_append, List.cons_append]
 go_upto_region 1 with (first | ((with_reducible refine gate_dst (N := 2) rfl ?_); (try (refine gate_guard (by rfl) ?_; dsimp only)); refine box_event ?hg (N := 2) ?hd (cs := #[.int .i64 a0]) (t := 3) ?hr ?_; (case hd => rfl); (case hg => rfl); (case hr => first | (go_simp; done) | (go_simp; rfl)); intro gb101 hg w4 hbox hb; have BK101 := Aside0.mk (hbox); have GW101 := Aside0.mk ((bs_ hg HB : w.heap.size ≤ gb101)); have GE101 := Aside0.mk ((bs_ hg HB : w.heap.size ≤ gb101)); replace HB := hs_ HB hb; clear hb hbox hg) | ((with_reducible refine gate_dst (N := 4) rfl ?_); (try (refine gate_guard (by rfl) ?_; dsimp only)); refine box_event ?hg (N := 4) ?hd (cs := #[.slice none 0 0]) (t := 29) ?hr ?_; (case hd => rfl); (case hg => rfl); (case hr => first | (go_simp; done) | (go_simp; rfl)); intro gb102 hg w5 hbox hb; have BK102 := Aside0.mk (hbox); have GW102 := Aside0.mk ((bs_ hg HB : w.heap.size ≤ gb102)); have GE102 := Aside0.mk ((bs_ hg HB : w.heap.size ≤ gb102)); have NB101_102 := Aside0.mk ((nl_ hg BK101 : gb101 ≠ gb102)); have NB102_101 := Aside0.mk ((ng_ hg BK101 : gb102 ≠ gb101)); replace BK101 := bb_ BK101 hb; replace HB := hs_ HB hb; clear hb hbox hg) | ((with_reducible refine gate_dst (N := 5) rfl ?_); (try (refine gate_guard (by rfl) ?_; dsimp only)); refine box_event ?hg (N := 5) ?hd (cs := #[.int .i64 0]) (t := 46) ?hr ?_; (case hd => rfl); (case hg => rfl); (case hr => first | (go_simp; done) | (go_simp; rfl)); intro gb103 hg w6 hbox hb; have BK103 := Aside0.mk (hbox); have GW103 := Aside0.mk ((bs_ hg HB : w.heap.size ≤ gb103)); have GE103 := Aside0.mk ((bs_ hg HB : w.heap.size ≤ gb103)); have NB101_103 := Aside0.mk ((nl_ hg BK101 : gb101 ≠ gb103)); have NB103_101 := Aside0.mk ((ng_ hg BK101 : gb103 ≠ gb101)); have NB102_103 := Aside0.mk ((nl_ hg BK102 : gb102 ≠ gb103)); have NB103_102 := Aside0.mk ((ng_ hg BK102 : gb103 ≠ gb102)); replace BK101 := bb_ BK101 hb; replace BK102 := bb_ BK102 hb; replace HB := hs_ HB hb; clear hb hbox hg))
 (try simp only [Act.put, List.setIfInBounds_toArray, List.set_cons_zero, List.set_cons_succ])
 apply wp_scope_straight
 have hnb8_ := NB101_102.out
 have hnc8_ := NB102_101.out
 have hnb9_ := NB101_103.out
 have hnc9_ := NB103_101.out
 have hnb20 := NB102_103.out
 have hnc20 := NB103_102.out
 have hcz10_0 : w6.cell? ⟨gb101, 0, none⟩ = some (.int .i64 a0) := (blk_cell BK101.out 0).trans rfl
 have hfz10_0 := blk_frozen BK101.out 0
 have hcz21_0 : w6.cell? ⟨gb102, 0, none⟩ = some (.slice none 0 0) := (blk_cell BK102.out 0).trans rfl
 have hfz21_0 := blk_frozen BK102.out 0
 have hcz23_0 : w6.cell? ⟨gb103, 0, none⟩ = some (.int .i64 0) := (blk_cell BK103.out 0).trans rfl
 have hfz23_0 := blk_frozen BK103.out 0
 by_cases hx : a0 < 0 ∨ a0 > 500 ∨ (l1.length : Int) > 2000
 ·have hf := HF.out
  rw [if_pos hx] at hf
  obtain ⟨rfl, rfl⟩ := Prod.mk.inj hf
  clear hf HF
  by_cases c7 : a0 < 0
  ·have c7b0 : decide (a0 < 0) = true := decide_eq_true c7
   clear hx
   go_wp2
   refine marks_ret0 (res29 (by (with_reducible repeat (first | refine blk_drewN ?_ _ | refine blk_drew ?_ | refine blk_alloc ?_ _)); refine blk_far ?_ NB102_103.out _; (with_reducible repeat (first | refine blk_drewN ?_ _ | refine blk_drew ?_ | refine blk_alloc ?_ _)); refine blk_put (cs := #[.slice none 0 0]) ?_ 0 _ rfl; (with_reducible repeat (first | refine blk_drewN ?_ _ | refine blk_drew ?_ | refine blk_alloc ?_ _)); exact BK102.out) (by (with_reducible repeat (first | refine blk_drewN ?_ _ | refine blk_drew ?_ | refine blk_alloc ?_ _)); refine blk_put (cs := #[.int .i64 0]) ?_ 0 _ rfl; (with_reducible repeat (first | refine blk_drewN ?_ _ | refine blk_drew ?_ | refine blk_alloc ?_ _)); refine blk_far ?_ NB103_102.out _; (with_reducible repeat (first | refine blk_drewN ?_ _ | refine blk_drew ?_ | refine blk_alloc ?_ _)); exact BK103.out)) rfl ?_
   exact ⟨_, by first | rfl | (simp [errW_none, errW_some] <;> rfl) | (simp [*, errW_none, errW_some] <;> rfl), by first | exact Kd.R_nil _ _ _ _ _ | exact Kd.N_nil _ _ _ _ _ | exact Kd.V_nil _ _ _ _ _ | exact Kd.Q_nil _ _ _ _ _ | exact Kd.S_nil _ _ _ _ _, by repeat (first | (with_reducible first | exact HB.out | apply below_alloc | apply pw_below_drewN | apply below_drew1 | refine below_set ?_ GE101.out | refine below_set ?_ GE102.out | refine below_set ?_ GE103.out) | exact HB.out)⟩
  ·have c7b0 : decide (a0 < 0) = false := decide_eq_false c7
   by_cases c11 : a0 > 500
   ·have c11b0 : decide (500 < a0) = true := decide_eq_true c11
    clear hx
    go_wp2
    refine marks_ret0 (res29 (by (with_reducible repeat (first | refine blk_drewN ?_ _ | refine blk_drew ?_ | refine blk_alloc ?_ _)); refine blk_far ?_ NB102_103.out _; (with_reducible repeat (first | refine blk_drewN ?_ _ | refine blk_drew ?_ | refine blk_alloc ?_ _)); refine blk_put (cs := #[.slice none 0 0]) ?_ 0 _ rfl; (with_reducible repeat (first | refine blk_drewN ?_ _ | refine blk_drew ?_ | refine blk_alloc ?_ _)); exact BK102.out) (by (with_reducible repeat (first | refine blk_drewN ?_ _ | refine blk_drew ?_ | refine blk_alloc ?_ _)); refine blk_put (cs := #[.int .i64 0]) ?_ 0 _ rfl; (with_reducible repeat (first | refine blk_drewN ?_ _ | refine blk_drew ?_ | refine blk_alloc ?_ _)); refine blk_far ?_ NB103_102.out _; (with_reducible repeat (first | refine blk_drewN ?_ _ | refine blk_drew ?_ | refine blk_alloc ?_ _)); exact BK103.out)) rfl ?_
    exact ⟨_, by first | rfl | (simp [errW_none, errW_some] <;> rfl) | (simp [*, errW_none, errW_some] <;> rfl), by first | exact Kd.R_nil _ _ _ _ _ | exact Kd.N_nil _ _ _ _ _ | exact Kd.V_nil _ _ _ _ _ | exact Kd.Q_nil _ _ _ _ _ | exact Kd.S_nil _ _ _ _ _, by repeat (first | (with_reducible first | exact HB.out | apply below_alloc | apply pw_below_drewN | apply below_drew1 | refine below_set ?_ GE101.out | refine below_set ?_ GE102.out | refine below_set ?_ GE103.out) | exact HB.out)⟩
   ·have c11b0 : decide (500 < a0) = false := decide_eq_false c11
    have c13b0 : decide ((2000 : Int) < (l1.length : Int)) = true := decide_eq_true (by omega)
    have c13 : (2000 : Int) < (l1.length : Int) := by omega
    clear hx
    go_wp2
    refine marks_ret0 (res29 (by (with_reducible repeat (first | refine blk_drewN ?_ _ | refine blk_drew ?_ | refine blk_alloc ?_ _)); refine blk_far ?_ NB102_103.out _; (with_reducible repeat (first | refine blk_drewN ?_ _ | refine blk_drew ?_ | refine blk_alloc ?_ _)); refine blk_put (cs := #[.slice none 0 0]) ?_ 0 _ rfl; (with_reducible repeat (first | refine blk_drewN ?_ _ | refine blk_drew ?_ | refine blk_alloc ?_ _)); exact BK102.out) (by (with_reducible repeat (first | refine blk_drewN ?_ _ | refine blk_drew ?_ | refine blk_alloc ?_ _)); refine blk_put (cs := #[.int .i64 0]) ?_ 0 _ rfl; (with_reducible repeat (first | refine blk_drewN ?_ _ | refine blk_drew ?_ | refine blk_alloc ?_ _)); refine blk_far ?_ NB103_102.out _; (with_reducible repeat (first | refine blk_drewN ?_ _ | refine blk_drew ?_ | refine blk_alloc ?_ _)); exact BK103.out)) rfl ?_
    exact ⟨_, by first | rfl | (simp [errW_none, errW_some] <;> rfl) | (simp [*, errW_none, errW_some] <;> rfl), by first | exact Kd.R_nil _ _ _ _ _ | exact Kd.N_nil _ _ _ _ _ | exact Kd.V_nil _ _ _ _ _ | exact Kd.Q_nil _ _ _ _ _ | exact Kd.S_nil _ _ _ _ _, by repeat (first | (with_reducible first | exact HB.out | apply below_alloc | apply pw_below_drewN | apply below_drew1 | refine below_set ?_ GE101.out | refine below_set ?_ GE102.out | refine below_set ?_ GE103.out) | exact HB.out)⟩
 ·have hf := HF.out
  rw [if_neg hx] at hf
  have c7b0 : decide (a0 < 0) = false := decide_eq_false (by omega)
  have c11b0 : decide (500 < a0) = false := decide_eq_false (by omega)
  have c13b0 : decide ((2000 : Int) < (l1.length : Int)) = false := decide_eq_false (by omega)
  have c13 : ¬ (2000 : Int) < (l1.length : Int) := by omega
  have HLEN := Aside0.mk (show l1.length ≤ 2000 by omega)
  have HA0 := Aside0.mk (show 0 ≤ a0 ∧ a0 ≤ 500 by omega)
  clear HF hx
  obtain ⟨t104, t107, hask⟩ : ∃ t104 t107, M.askB a0 l1 = (t104, t107) := ⟨_, _, rfl⟩
  rw [hask] at hf
  dsimp only at hf
  have A24 := Aside0.mk hask
  clear hask
  by_cases c25 : t107 = 0
  ·rw [if_pos c25] at hf
   have c25b0 : (t107 == 0) = true := beq_iff_eq.mpr c25
   have c25b1 : (t107 != 0) = false := bne_eq_false_iff_eq.mpr c25
   clear c25
   have HF := Aside0.mk hf
   clear hf
   go_upto_region 6 with (first | ((with_reducible refine gate_callee (f := 70) rfl ?_); refine goesL_ (some 29) rfl rfl Try.func70 (by kernel_rfl) rfl #[.int .i64 a0, .slice A1 l1.length c1] rfl (by (try simp only [List.map_toArray, List.map_cons, List.map_nil]); first | done | rfl | (simp only [List.length_drop, List.length_take]; rfl)) ?_; (with_reducible refine (M.ask_calls a0 _ _ l1 t104 t107 _ ?side1 ?side2 HLEN.out A24.out).mono ?_); (case side1 => repeat (first | exact (Kd.C_below HR1.out HB.out) | (with_reducible refine Kd.C_alloc ?_ _) | (with_reducible refine Kd.C_drewN ?_ _) | (with_reducible refine Kd.C_drew ?_))); (case side2 => exact HC1.out); rintro e w31 ⟨v105, rfl, ho0, hb⟩; refine ⟨_, rfl, ?_⟩; have HO106 := Aside0.mk (Kd.S_lower ho0 (below_size (bl_ HB))); replace BK101 := bb_ BK101 hb; replace BK102 := bb_ BK102 hb; replace BK103 := bb_ BK103 hb; replace HB := hs_ HB hb; (try clear hb); (try clear hb2); (try clear hk); (try clear hi); (try clear ho0)) | ((with_reducible refine gate_dst (N := 6) rfl ?_); (try (refine gate_guard (by rfl) ?_; dsimp only)); refine box_event ?hg (N := 6) ?hd (cs := #[.slice none 0 0]) (t := 94) ?hr ?_; (case hd => rfl); (case hg => rfl); (case hr => first | (go_simp; done) | (go_simp; rfl)); intro gb108 hg w32 hbox hb; have BK108 := Aside0.mk (hbox); have GW108 := Aside0.mk ((bs_ hg HB : w.heap.size ≤ gb108)); have GE108 := Aside0.mk ((bs_ hg HB : w.heap.size ≤ gb108)); have NB101_108 := Aside0.mk ((nl_ hg BK101 : gb101 ≠ gb108)); have NB108_101 := Aside0.mk ((ng_ hg BK101 : gb108 ≠ gb101)); have NB102_108 := Aside0.mk ((nl_ hg BK102 : gb102 ≠ gb108)); have NB108_102 := Aside0.mk ((ng_ hg BK102 : gb108 ≠ gb102)); have NB103_108 := Aside0.mk ((nl_ hg BK103 : gb103 ≠ gb108)); have NB108_103 := Aside0.mk ((ng_ hg BK103 : gb108 ≠ gb103)); replace HO106 := Aside0.mk (Kd.S_below (by (with_reducible repeat (first | apply Kd.S_alloc | apply Kd.S_drewN | apply Kd.S_drew)); exact HO106.out) hb); replace BK101 := bb_ BK101 hb; replace BK102 := bb_ BK102 hb; replace BK103 := bb_ BK103 hb; replace HB := hs_ HB hb; clear hb hbox hg; obtain ⟨Ao33, co33, eo33⟩ := Kd.S_slice HO106.out; subst eo33; have hnb34 := NB108_101.out; have hnc34 := NB101_108.out; have hnb35 := NB108_102.out; have hnc35 := NB102_108.out; have hnb36 := NB108_103.out; have hnc36 := NB103_108.out; have hcz37_0 : w32.cell? ⟨gb108, 0, none⟩ = some (.slice none 0 0) := (blk_cell BK108.out 0).trans rfl; have hfz37_0 := blk_frozen BK108.out 0; have hcz38_0 : w32.cell? ⟨gb101, 0, none⟩ = some (.int .i64 a0) := (blk_cell BK101.out 0).trans rfl; have hfz38_0 := blk_frozen BK101.out 0))
   have K1 := Aside0.mk (show (w32.setCell ⟨gb108, 0, none⟩ (.slice Ao33 t104.length co33)).heap[gb101]? = _ from blk_far BK101.out NB101_108.out _)
   have K2 := Aside0.mk (show (w32.setCell ⟨gb108, 0, none⟩ (.slice Ao33 t104.length co33)).heap[gb102]? = _ from blk_far BK102.out NB102_108.out _)
   have K3 := Aside0.mk (show (w32.setCell ⟨gb108, 0, none⟩ (.slice Ao33 t104.length co33)).heap[gb103]? = _ from blk_far BK103.out NB103_108.out _)
   have K8 := Aside0.mk (show (w32.setCell ⟨gb108, 0, none⟩ (.slice Ao33 t104.length co33)).heap[gb108]? = some (.cells #[.slice Ao33 t104.length co33] 94 (0, 0)) from blk_put BK108.out 0 _ rfl)
   have HS6 := Aside0.mk (Kd.S_mono (Kd.S_far (p := ⟨gb108, 0, none⟩) (Kd.S_types HO106.out BK108.out (by decide)) (fun _ hk => hk.2) (.slice Ao33 t104.length co33)) (fun _ h_ => h_.1))
   have HB6 := Aside0.mk (HB.out.setCell (p := ⟨gb108, 0, none⟩) GE108.out (.slice Ao33 t104.length co33))
   generalize hW6 : w32.setCell ⟨gb108, 0, none⟩ (.slice Ao33 t104.length co33) = W6 at K1 K2 K3 K8 HS6 HB6 ⊢
   clear hW6 hcz10_0 hfz10_0 hcz21_0 hfz21_0 hcz23_0 hfz23_0 hcz37_0 hfz37_0 hcz38_0 hfz38_0 BK101 BK102 BK103 BK108 HO106 HB hnb34 hnc34 hnb35 hnc35 hnb36 hnc36
   have hcz1 : W6.cell? ⟨gb101, 0, none⟩ = some (.int .i64 a0) := (blk_cell K1.out 0).trans rfl
   have c26b1 : decide (0 ≤ a0) = true := decide_eq_true HA0.out.1
   have c27b1 : decide (a0.toNat ≤ 35184372088832) = true := decide_eq_true (by have := HA0.out; omega)
   go_wp2_with (first | ((with_reducible refine gate_dst (N := 36) rfl ?_); (try (refine gate_guard (by rfl) ?_; dsimp only)); refine Kd.R_make (Kd.int .i64) _ 3 rfl (N := 36) rfl 29 _ _ rfl a0 rfl rfl Try.underlying29 (.int .i64 0) 8 info3 rfl (by decide) (by omega) 0 (ok := fun _ => True) (okp := fun _ => True) rfl (fun _ hk => hk) trivial (of_decide_eq_true (by first | (with_reducible assumption) | assumption)) (Nat.le_trans (Nat.mul_le_mul_right _ (of_decide_eq_true (by first | (with_reducible assumption) | assumption) : a0.toNat ≤ 35184372088832)) (by omega)) (Below.refl _ _) (Nat.le_refl _) ?_; intro v110 w39 ho40 hb hg_ hnew_; clear hg_ hnew_; have HV := Aside0.mk ho40; have HB39 := Aside0.mk hb; obtain ⟨Ao42, co42, eo42⟩ := Kd.R_slice HV.out; subst eo42; clear ho40 hb) | ((with_reducible refine gate_dst (N := 8) rfl ?_); (try (refine gate_guard (by rfl) ?_; dsimp only)); refine box_event ?hg (N := 8) ?hd (cs := #[.slice none 0 0]) (t := 29) ?hr ?_; (case hd => rfl); (case hg => rfl); (case hr => first | (go_simp; done) | (go_simp; rfl)); intro gb112 hg w41 hbox hb; have BK112 := Aside0.mk hbox; have HG112 := Aside0.mk hg; have HB41 := Aside0.mk hb; clear hbox hb hg; have hcz47_0 : w41.cell? ⟨gb112, 0, none⟩ = some (.slice none 0 0) := (blk_cell BK112.out 0).trans rfl; have hfz47_0 := blk_frozen BK112.out 0))
   apply wp_label
   go_wp2_with ((with_reducible refine gate_dst (N := 9) rfl ?_); (try (refine gate_guard (by rfl) ?_; dsimp only)); refine box_event ?hg (N := 9) ?hd (cs := #[.int .i64 0]) (t := 3) ?hr ?_; (case hd => rfl); (case hg => rfl); (case hr => first | (go_simp; done) | (go_simp; rfl)); intro gb113 hg w48 hbox hb; have BK113 := Aside0.mk hbox; have HG113 := Aside0.mk hg; have HB48 := Aside0.mk hb; clear hbox hb hg; have hcz54_0 : w48.cell? ⟨gb113, 0, none⟩ = some (.int .i64 0) := (blk_cell BK113.out 0).trans rfl; have hfz54_0 := blk_frozen BK113.out 0)
   have hL1 := blk_lt BK112.out
   have hL0 := HG112.out
   have hs41 : (w41.setCell ⟨gb112, 0, none⟩ (.slice Ao42 a0.toNat co42)).heap.size = w41.heap.size := by simp [World.setCell]
   have hG := HG113.out
   rw [hs41] at hG
   have hb48 := HB48.out
   rw [hs41] at hb48
   have hs39 := HB39.out.size
   have hv := HV.out
   rw [List.length_replicate] at hv
   have hFix : Fix a0 w39.heap.size gb101 gb102 gb103 gb108 gb112 W6 Ao33 co33 t104 (.slice Ao42 a0.toNat co42) :=
     ⟨K1.out, K2.out, K3.out, K8.out, (Kd.S_reads' HS6.out).2.2, (Kd.S_reads' HS6.out).2.1, NB102_103.out, hs39, by omega, by have := M.askB_on HA0.out.1 l1; rwa [A24.out] at this⟩
   have hw7 : Below W6.heap.size W6 (w41.setCell ⟨gb112, 0, none⟩ (.slice Ao42 a0.toNat co42)) := (HB39.out.trans (HB41.out.mono hs39)).setCell (p := ⟨gb112, 0, none⟩) (by show _ ≤ gb112; omega) _
   have hk8 : (w41.setCell ⟨gb112, 0, none⟩ (.slice Ao42 a0.toNat co42)).heap[gb112]? = some (.cells #[.slice Ao42 a0.toNat co42] 29 (0, 0)) := blk_put BK112.out 0 _ rfl
   have hRnd : Rnd a0 w39.heap.size gb112 W6 (.slice Ao42 a0.toNat co42) 0 (List.replicate a0.toNat 0) [] gb113 (w48.setCell ⟨gb113, 0, none⟩ (.int .i64 0)) := by
     refine ⟨(hw7.trans (hb48.mono (by omega))).setCell (p := ⟨gb113, 0, none⟩) (by show _ ≤ gb113; omega) _, ?_, ?_, ?_, blk_put BK113.out 0 _ rfl, by omega, by omega, Marks.nil _ _, by simp; have := HA0.out; omega⟩
     · have := hb48.size; have : (w48.setCell ⟨gb113, 0, none⟩ (.int .i64 0)).heap.size = w48.heap.size := by simp [World.setCell]
       omega
     · have h1 := Kd.R_mono (ok' := fun k => W6.heap.size ≤ k ∧ k < w39.heap.size) (Kd.R_bound hv) (fun k hk => ⟨hk.2.1, hk.2.2.1⟩)
       have h2 := Kd.R_far (Kd.R_below h1 HB41.out) (p := ⟨gb112, 0, none⟩) (fun k hk => by show k ≠ gb112; have := hk.2; omega) (.slice Ao42 a0.toNat co42)
       exact Kd.R_far (Kd.R_step h2 (fun k _ hk => hb48.block k (by rw [hs41] at hk; exact hk))) (p := ⟨gb113, 0, none⟩) (fun k hk => by show k ≠ gb113; have := hk.2; omega) (.int .i64 0)
     · exact blk_far ((hb48.block gb112 (by omega)).trans hk8) (by show gb112 ≠ gb113; omega) _
   have HFX := Aside0.mk hFix
   clear hFix hw7 hk8 hv hb48 hG hs41 hL0 hL1 hcz1 hcz47_0 hfz47_0 hcz54_0 hfz54_0
   refine wpIn_wide.1 (wpIn_loop_rounds (a0.toNat + 2) (solve_rounds _ (by kernel_rfl) a0 HA0.out.1 HA0.out.2 w39.heap.size gb101 gb102 gb103 gb108 gb112 W6 Ao33 co33 t104 (.slice Ao42 a0.toNat co42) HFX.out _ _ _ _ _ (a0.toNat + 2) 0 (List.replicate a0.toNat 0) [] gb113 _ _ _ _ _ _ _ _ _ _ _ _ _ _ _ _ _ _ _ _ _ _ _ _ _ _ _ _ _ _ _ _ _ _ _ _ _ _ _ _ _ _ _ _ _ _ _ _ _ _ _ _ _ _ _ _ _ _ _ _ _ _ _ _ _ _ _ _ _ _ (Int.le_refl _) (by have := HA0.out; omega) (by have := HA0.out; omega) hRnd ?hexit ?hret))
   case hret =>
    intro hnone ds b9' W' u10 u11 u12 u13 u14 u15 u16 u17 u18 u19 u20 u21 u22 u23 u24 u25 u26 u27 u28 u29 u30 u31 u32 u33 u34 u35 u36 u37 u38 u39 u40 u41 u42 u43 u44 u45 u46 u47 u48 u49 u50 u51 u52 u53 u54 u55 u56 u57 u58 u59 u60 u61 u62 u63 u64 u65 u66 u67 u68 u69 u70 u71 u72 u73 u74 u75 u76 u77 u78 hm hs
    have hf := HF.out
    rw [hnone] at hf
    obtain ⟨h1_, h2_⟩ := Prod.mk.inj hf
    subst h1_
    subst h2_
    refine marks_ret (L := w39.heap.size) (ds := ds) rfl hm (fun wz hT => ⟨_, res29 (hT.cells _ _ _ _ hs.k4) (hT.cells _ _ _ _ hs.k5), ⟨_, rfl, Kd.R_nil _ _ _ _ _, ?_⟩⟩)
    have := HB6.out.size
    exact (HB6.out.trans (hs.bl w.heap.size GE102.out GE103.out this)).trans (hT.below.mono (by omega))
   case hexit =>
    intro c' hc' r' ds b9' W' u10 u11 u12 u13 u14 u15 u16 u17 u18 u19 u20 u21 u22 u23 u24 u25 u26 u27 u28 u29 u30 u31 u32 u33 u34 u35 u36 u37 u38 u39 u40 u41 u42 u43 u44 u45 u46 u47 u48 u49 u50 u51 u52 u53 u54 u55 u56 u57 u58 u59 u60 u61 u62 u63 u64 u65 u66 u67 u68 u69 u70 u71 u72 u73 u74 u75 u76 u77 u78 hR'
    have hf := HF.out
    rw [hc'] at hf
    dsimp only [Option.elim] at hf
    have HF2 := Aside0.mk hf
    have HR2 := Aside0.mk hR'
    have hl := hR'.len
    have hl2 : a0.toNat = c'.length := by omega
    have hk8 := hR'.k8
    have hrow := hR'.row
    rw [hl2] at hk8 hrow
    have HK8 := Aside0.mk hk8
    have HROW := Aside0.mk hrow
    have hc6 : W'.cell? ⟨gb108, 0, none⟩ = some (.slice Ao33 t104.length co33) := (blk_cell ((hR'.bl.block gb108 (blk_lt K8.out)).trans K8.out) 0).trans rfl
    clear hf hR' hk8 hrow hl hRnd hl2
    dsimp only [actS]
    go_wp2
    have h4 := (HR2.out.bl.block gb102 (blk_lt K2.out)).trans K2.out
    have h5 := (HR2.out.bl.block gb103 (blk_lt K3.out)).trans K3.out
    have H4 := Aside0.mk h4
    have H5 := Aside0.mk h5
    have hvv := Kd.R_reads' HROW.out
    refine wpIn_wide.1 (solve_last _ (by kernel_rfl) gb102 gb103 gb112 W' Ao33 co33 t104 Ao42 co42 c' h4 h5 NB102_103.out HK8.out (Kd.C_below HFX.out.row HR2.out.bl) hvv.2.2 hvv.2.1 _ _ _ _ _ _ _ _ ?hexit2 ?hret2 _ _ _ _ _ _ _ _ _ _ _ _ _ _ _ _ _ _ _ _ _ _ _ _ _ _ _ _ _ _ _ _ _ _ _ _ _ _ _ _ _ _ _ _ _ _ _ _ _ _ _ _ _ _ _ _ _ _ _ _ _ _ _ _ _ _ _)
    case hret2 =>
     intro hov W2 z9 z10 z11 z12 z13 z14 z15 z16 z17 z18 z19 z20 z21 z22 z23 z24 z25 z26 z27 z28 z29 z30 z31 z32 z33 z34 z35 z36 z37 z38 z39 z40 z41 z42 z43 z44 z45 z46 z47 z48 z49 z50 z51 z52 z53 z54 z55 z56 z57 z58 z59 z60 z61 z62 z63 z64 z65 z66 z67 z68 z69 z70 z71 z72 z73 z74 z75 z76 z77 z78 hb
     have hf := HF2.out
     rw [hov, if_pos rfl] at hf
     obtain ⟨h1_, h2_⟩ := Prod.mk.inj hf
     subst h1_
     subst h2_
     have g4 := blk_below H4.out hb
     have g5 := blk_below H5.out hb
     refine marks_ret (L := w39.heap.size) (ds := ds) rfl (((HR2.out.mks.below hb).setCell (p := ⟨gb102, 0, none⟩) g4 _).setCell (p := ⟨gb103, 0, none⟩) (blk_far g5 NB103_102.out _) _)
       (fun wz hT => ⟨_, res29 (hT.cells _ _ _ _ (blk_far (blk_put g4 0 _ rfl) NB102_103.out _)) (hT.cells _ _ _ _ (blk_put (blk_far g5 NB103_102.out _) 0 _ rfl)), ⟨_, rfl, Kd.R_nil _ _ _ _ _, ?_⟩⟩)
     have h6 := HB6.out.size
     have h7 := HFX.out.hL
     have h8 := HR2.out.bl.size
     exact ((((HB6.out.trans (HR2.out.bl.mono h6)).trans (hb.mono (by omega))).setCell (p := ⟨gb102, 0, none⟩) GE102.out _).setCell (p := ⟨gb103, 0, none⟩) GE103.out _).trans (hT.below.mono (by omega))
    case hexit2 =>
     intro hov W2 z9 z10 z11 z12 z13 z14 z15 z16 z17 z18 z19 z20 z21 z22 z23 z24 z25 z26 z27 z28 z29 z30 z31 z32 z33 z34 z35 z36 z37 z38 z39 z40 z41 z42 z43 z44 z45 z46 z47 z48 z49 z50 z51 z52 z53 z54 z55 z56 z57 z58 z59 z60 z61 z62 z63 z64 z65 z66 z67 z68 z69 z70 z71 z72 z73 z74 z75 z76 z77 z78 hb
     have hf := HF2.out
     rw [hov, if_neg (by decide)] at hf
     obtain ⟨h1_, h2_⟩ := Prod.mk.inj hf
     subst h1_
     subst h2_
     have g4 := blk_below H4.out hb
     have g5 := blk_below H5.out hb
     have g8 := blk_below HK8.out hb
     have G4 := Aside0.mk g4
     have G5 := Aside0.mk g5
     have HBZ := Aside0.mk hb
     have q4 : W2.cell? ⟨gb102, 0, none⟩ = some (.slice none 0 0) := (blk_cell g4 0).trans rfl
     have q5 : W2.cell? ⟨gb103, 0, none⟩ = some (.int .i64 0) := (blk_cell g5 0).trans rfl
     have q8 : W2.cell? ⟨gb112, 0, none⟩ = some (.slice Ao42 c'.length co42) := (blk_cell g8 0).trans rfl
     have e4 := blk_frozen g4 0
     have e5 := blk_frozen g5 0
     have n45 := NB102_103.out
     have n54 := NB103_102.out
     clear hf g4 g5 g8 hb hvv h4 h5 hc6
     go_wp2
     refine marks_ret (L := w39.heap.size) (ds := ds) rfl (((HR2.out.mks.below HBZ.out).setCell (p := ⟨gb102, 0, none⟩) G4.out _).setCell (p := ⟨gb103, 0, none⟩) (blk_far G5.out NB103_102.out _) _)
       (fun wz hT => ⟨_, res29 (hT.cells _ _ _ _ (blk_far (blk_put G4.out 0 _ rfl) NB102_103.out _)) (hT.cells _ _ _ _ (blk_put (blk_far G5.out NB103_102.out _) 0 _ rfl)), ⟨_, rfl, ?_, ?_⟩⟩)
     · have h3 := blk_lt K2.out
       have h3' := blk_lt K3.out
       have h1 := Kd.R_far (Kd.R_far (Kd.R_below HROW.out HBZ.out) (p := ⟨gb102, 0, none⟩) (fun k hk => by show k ≠ gb102; have := hk.1; omega) (.slice Ao42 c'.length co42)) (p := ⟨gb103, 0, none⟩) (fun k hk => by show k ≠ gb103; have := hk.1; omega) (.int .i64 0)
       exact Kd.R_lower (Kd.R_mono (Kd.R_move (Kd.R_bound h1) (fun k hk => by obtain ⟨_, _, _, q, _, cells, hc⟩ := hk; exact (hT.cells _ _ _ _ hc).trans hc.symm)) (fun _ _ => trivial)) HB6.out.size
     · have h6 := HB6.out.size
       have h7 := HFX.out.hL
       have h8 := HR2.out.bl.size
       exact ((((HB6.out.trans (HR2.out.bl.mono h6)).trans (HBZ.out.mono (by omega))).setCell (p := ⟨gb102, 0, none⟩) GE102.out _).setCell (p := ⟨gb103, 0, none⟩) GE103.out _).trans (hT.below.mono (by omega))
  ·rw [if_neg c25] at hf
   have c25b0 : (t107 == 0) = false := beq_eq_false_iff_ne.mpr c25
   have c25b1 : (t107 != 0) = true := bne_iff_ne.mpr c25
   obtain ⟨h1_, h2_⟩ := Prod.mk.inj hf
   subst h1_
   subst h2_
   clear hf
   go_wp2_with (first | ((with_reducible refine gate_callee (f := 70) rfl ?_); refine goesL_ (some 29) rfl rfl Try.func70 (by kernel_rfl) rfl #[.int .i64 a0, .slice A1 l1.length c1] rfl (by (try simp only [List.map_toArray, List.map_cons, List.map_nil]); first | done | rfl | (simp only [List.length_drop, List.length_take]; rfl)) ?_; (with_reducible refine (M.ask_calls a0 _ _ l1 t104 t107 _ ?side1 ?side2 HLEN.out A24.out).mono ?_); (case side1 => repeat (first | exact (Kd.C_below HR1.out HB.out) | (with_reducible refine Kd.C_alloc ?_ _) | (with_reducible refine Kd.C_drewN ?_ _) | (with_reducible refine Kd.C_drew ?_))); (case side2 => exact HC1.out); rintro e w31 ⟨v105, rfl, ho0, hb⟩; refine ⟨_, rfl, ?_⟩; have HO106 := Aside0.mk (Kd.S_lower ho0 (below_size (bl_ HB))); replace BK101 := bb_ BK101 hb; replace BK102 := bb_ BK102 hb; replace BK103 := bb_ BK103 hb; replace HB := hs_ HB hb; (try clear hb); (try clear hb2); (try clear hk); (try clear hi); (try clear ho0)) | ((with_reducible refine gate_dst (N := 6) rfl ?_); (try (refine gate_guard (by rfl) ?_; dsimp only)); refine box_event ?hg (N := 6) ?hd (cs := #[.slice none 0 0]) (t := 94) ?hr ?_; (case hd => rfl); (case hg => rfl); (case hr => first | (go_simp; done) | (go_simp; rfl)); intro gb108 hg w124 hbox hb; have BK108 := Aside0.mk (hbox); have GW108 := Aside0.mk ((bs_ hg HB : w.heap.size ≤ gb108)); have GE108 := Aside0.mk ((bs_ hg HB : w.heap.size ≤ gb108)); have NB101_108 := Aside0.mk ((nl_ hg BK101 : gb101 ≠ gb108)); have NB108_101 := Aside0.mk ((ng_ hg BK101 : gb108 ≠ gb101)); have NB102_108 := Aside0.mk ((nl_ hg BK102 : gb102 ≠ gb108)); have NB108_102 := Aside0.mk ((ng_ hg BK102 : gb108 ≠ gb102)); have NB103_108 := Aside0.mk ((nl_ hg BK103 : gb103 ≠ gb108)); have NB108_103 := Aside0.mk ((ng_ hg BK103 : gb108 ≠ gb103)); replace HO106 := Aside0.mk (Kd.S_below (by (with_reducible repeat (first | apply Kd.S_alloc | apply Kd.S_drewN | apply Kd.S_drew)); exact HO106.out) hb); replace BK101 := bb_ BK101 hb; replace BK102 := bb_ BK102 hb; replace BK103 := bb_ BK103 hb; replace HB := hs_ HB hb; clear hb hbox hg; obtain ⟨Ao125, co125, eo125⟩ := Kd.S_slice HO106.out; subst eo125; have hnb126 := NB108_101.out; have hnc126 := NB101_108.out; have hnb127 := NB108_102.out; have hnc127 := NB102_108.out; have hnb128 := NB108_103.out; have hnc128 := NB103_108.out; have hcz129_0 : w124.cell? ⟨gb108, 0, none⟩ = some (.slice none 0 0) := (blk_cell BK108.out 0).trans rfl; have hfz129_0 := blk_frozen BK108.out 0; have hnb130 := NB102_103.out; have hnc130 := NB103_102.out; have hcz131_0 : w124.cell? ⟨gb102, 0, none⟩ = some (.slice none 0 0) := (blk_cell BK102.out 0).trans rfl; have hfz131_0 := blk_frozen BK102.out 0; have hcz132_0 : w124.cell? ⟨gb103, 0, none⟩ = some (.int .i64 0) := (blk_cell BK103.out 0).trans rfl; have hfz132_0 := blk_frozen BK103.out 0))
   refine marks_ret0 (res29 (by (with_reducible repeat (first | refine blk_drewN ?_ _ | refine blk_drew ?_ | refine blk_alloc ?_ _)); refine blk_far ?_ NB102_103.out _; (with_reducible repeat (first | refine blk_drewN ?_ _ | refine blk_drew ?_ | refine blk_alloc ?_ _)); refine blk_put (cs := #[.slice none 0 0]) ?_ 0 _ rfl; (with_reducible repeat (first | refine blk_drewN ?_ _ | refine blk_drew ?_ | refine blk_alloc ?_ _)); refine blk_far ?_ NB102_108.out _; (with_reducible repeat (first | refine blk_drewN ?_ _ | refine blk_drew ?_ | refine blk_alloc ?_ _)); exact BK102.out) (by (with_reducible repeat (first | refine blk_drewN ?_ _ | refine blk_drew ?_ | refine blk_alloc ?_ _)); refine blk_put (cs := #[.int .i64 0]) ?_ 0 _ rfl; (with_reducible repeat (first | refine blk_drewN ?_ _ | refine blk_drew ?_ | refine blk_alloc ?_ _)); refine blk_far ?_ NB103_102.out _; (with_reducible repeat (first | refine blk_drewN ?_ _ | refine blk_drew ?_ | refine blk_alloc ?_ _)); refine blk_far ?_ NB103_108.out _; (with_reducible repeat (first | refine blk_drewN ?_ _ | refine blk_drew ?_ | refine blk_alloc ?_ _)); exact BK103.out)) rfl ?_
   exact ⟨_, by first | rfl | (simp [errW_none, errW_some] <;> rfl) | (simp [*, errW_none, errW_some] <;> rfl), by first | exact Kd.R_nil _ _ _ _ _ | exact Kd.N_nil _ _ _ _ _ | exact Kd.V_nil _ _ _ _ _ | exact Kd.Q_nil _ _ _ _ _ | exact Kd.S_nil _ _ _ _ _, by repeat (first | (with_reducible first | exact HB.out | apply below_alloc | apply pw_below_drewN | apply below_drew1 | refine below_set ?_ GE101.out | refine below_set ?_ GE102.out | refine below_set ?_ GE103.out | refine below_set ?_ GE108.out) | exact HB.out)⟩

end Go.Proofs.Ytbopadglafbdjaa.PX
