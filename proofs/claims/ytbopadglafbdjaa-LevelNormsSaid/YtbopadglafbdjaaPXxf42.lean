-- by wip/tools/gprint.py of this session over the kit's print; given functions are this session's own text
import Derived.Test.YtbopadglafbdjaaPXx0
import Derived.Test.YtbopadglafbdjaaPXxf44
namespace Go.Proofs.Ytbopadglafbdjaa.PX
open Go.RowKit Go.Proofs.YtbopadglafbdjaaW.PrintWords Go.Proofs.YtbopadglafbdjaaW.PrintLast Go.Proofs.YtbopadglafbdjaaW.PrintMore
attribute [local go_sem] max2_int min2_int max_two min_two max_three min_three max_four min_four   -- for this text's walks alone
set_option linter.unusedVariables false
set_option linter.unusedSimpArgs false

/-! ### telamonlaw1_Stay: function 42 -/
-- GIVEN rounds
attribute [local go_sem] max2_int min2_int max_two min_two max_three min_three max_four min_four
/-- A cut up to a place within the capacity. -/
theorem cut_cap {P : Program} (t e : TypeId) (kh : IntKind) {i : TypeInfo} (ht : P.underlying t = some (.slice e)) (hi : P.info? e = some i) (A : Option Addr) (n c : Nat) (j : Int) (h0 : 0 ≤ j) (hm : j ≤ c) :
    ∀ W : World, (Instr.slice t (.slice A n c) none (some (.int kh j)) none).run P W = .ok (.slice A j.toNat c) W := by
  intro W
  have hel : P.elem t = e := by simp [Program.elem, ht]
  have hu : P.underlying t = some (.slice (P.elem t)) := by rw [hel]; exact ht
  have ha : (A.map fun x => x.add 0) = A := by cases A <;> simp [Addr.add]
  rw [run_slice_h W t A n c hu kh j h0 (by omega), hel]
  simp [sizeOf, typeInfo, hi, sliced, Result.andThen, ha]
theorem lent_C {w : World} {A : Option Addr} {l : List S62} {x : S62} (h : Kd.C k62 w A (l ++ [x]).length (l ++ [x])) : Kd.C k62 w A l.length l := by
  have := Kd.C_take (m := l.length) h (by simp)
  simpa using this
/-- What Stay tells of a level and what it was lent as. -/
def telamonlaw1_Stay.f (k : Nat) (a0_0 : Int) (l0_1 : List S62) (a1_0 : Int) (l1_1 : List S62) : Option Bool := telamonref1_ExactLevel.f k a0_0 l0_1 a1_0 l1_1
theorem telamonlaw1_Stay.mono : ∀ a0 a1 a2 a3 k, LeO (telamonlaw1_Stay.f k a0 a1 a2 a3) (telamonlaw1_Stay.f (k + 1) a0 a1 a2 a3) := fun a0 a1 a2 a3 k => telamonref1_ExactLevel.mono a0 a1 a2 a3 k
set_option maxHeartbeats 8000000 in
set_option maxRecDepth 100000 in
theorem telamonlaw1_Stay.calls (k : Nat) (a0_0 : Int) (A0_1 : Option Addr) (c0_1 : Nat) (l0_1 : List S62) (A1_1 : Option Addr) (c1_1 : Nat) (w : World) (hx : Kd.C k62 w A0_1 (l0_1 ++ [(⟨-71, 0⟩ : S62)]).length (l0_1 ++ [(⟨-71, 0⟩ : S62)])) (hc0_1 : l0_1.length + 1 ≤ c0_1)
  (hr1_1 : Kd.C k62 w A1_1 l0_1.length l0_1) (hc1_1 : l0_1.length ≤ c1_1) (h : telamonlaw1_Stay.f k a0_0 l0_1 a0_0 l0_1 = some true) :
  Calls Try.prog 42 #[.agg #[.int .i64 a0_0, .slice A0_1 l0_1.length c0_1], .agg #[.int .i64 a0_0, .slice A1_1 l0_1.length c1_1]] w fun e w' => e = .returned (.bool true) ∧ Below w.heap.size w w' := by
 have hu43 := Try.underlying43
 have hu62 := Try.underlying62
 have HC0_1 := Aside0.mk hc0_1
 clear hc0_1
 have HR1_1 := Aside0.mk hr1_1
 have HC1_1 := Aside0.mk hc1_1
 clear hr1_1 hc1_1
 have HB := Aside0.mk (Below.refl w.heap.size w)
 have A3 := Aside0.mk h
 clear h
 unfold telamonlaw1_Stay.f at A3
 have hmax := Kd.C_max hx
 have E71 : (rd_T62 (l0_1 ++ [⟨-71, 0⟩]) (l0_1.length : Int)).f0 = -71 := by simp [rd_T62, List.getD_eq_getElem?_getD]
 have HR107 := Aside0.mk hx
 clear hx
 simp only [List.length_append, List.length_cons, List.length_nil] at hmax
 obtain ⟨ji5, hji5⟩ : ∃ j_ : Int, (wrap64 ((l0_1.length : Int) + 1)) = j_ := ⟨_, rfl⟩
 have hji5w : (IntKind.i64.wrap ((l0_1.length : Int) + 1)) = ji5 := (i64_w _).trans hji5
 have hje : ji5 = (l0_1.length : Int) + 1 := by rw [← hji5]; unfold wrap64; omega
 have hj0 : 0 ≤ ji5 := by omega
 have hj1 : ji5 ≤ (c0_1 : Int) := by have := HC0_1.out; omega
 obtain ⟨y104, hy104⟩ : ∃ y_ : List S62, y_ = l0_1 ++ [⟨-71, 0⟩] := ⟨_, rfl⟩
 have hy17 : y104.length = ji5.toNat := by rw [hy104, hje]; simp <;> omega
 rw [← hy104] at E71
 have HRy := Aside0.mk (show Kd.C k62 w A0_1 y104.length y104 by rw [hy104]; exact HR107.out)
 have c9 : (l0_1.length : Int) < (y104.length : Int) := by rw [hy17, hje]; omega
 have c9b0 : decide ((l0_1.length : Int) < (y104.length : Int)) = true := decide_eq_true c9
 have c9b1 : decide (l0_1.length < y104.length) = true := decide_eq_true (Int.ofNat_lt.mp c9)
 have c8b0 : decide (0 ≤ (l0_1.length : Int)) = true := decide_eq_true (by omega)
 have c8b1 : decide (0 ≤ l0_1.length) = true := decide_eq_true (by omega)
 have c6b0 := eq_true hj0
 have c6b1 : decide (0 ≤ (ji5)) = true := decide_eq_true hj0
 obtain ⟨i017, hi017, _, hsz17, _⟩ := info_parts info62
 have hcut := cut_cap (P := Try.prog) 41 62 .i64 Try.underlying41 hi017 A0_1 l0_1.length c0_1 ji5 hj0 hj1
 rw [← hy17] at hcut
 have HCUT := Aside0.mk hcut
 clear hy104 hmax hje c9 hcut hj1 hj0 hy17
 go_enter Try.func42, Try.ntmps42
 go_wp2_with (first | ((with_reducible refine gate_dst (N := 2) rfl ?_); refine box_event ?hg (N := 2) ?hd (cs := #[.int .i64 a0_0, .slice A0_1 l0_1.length c0_1]) (t := 43) ?hr ?_; (case hd => rfl); (case hg => rfl); (case hr => first | (go_simp; done) | (go_simp; rfl)); intro gb101 hg w10 hbox hb; have BK101 := Aside0.mk (hbox); have GW101 := Aside0.mk ((bs_ hg HB : w.heap.size ≤ gb101)); have GE101 := Aside0.mk ((bs_ hg HB : w.heap.size ≤ gb101)); replace HB := hs_ HB hb; clear hb hbox hg) | ((with_reducible refine gate_dst (N := 3) rfl ?_); refine box_event ?hg (N := 3) ?hd (cs := #[.int .i64 a0_0, .slice A1_1 l0_1.length c1_1]) (t := 43) ?hr ?_; (case hd => rfl); (case hg => rfl); (case hr => first | (go_simp; done) | (go_simp; rfl)); intro gb102 hg w11 hbox hb; have BK102 := Aside0.mk (hbox); have GW102 := Aside0.mk ((bs_ hg HB : w.heap.size ≤ gb102)); have GE102 := Aside0.mk ((bs_ hg HB : w.heap.size ≤ gb102)); have NB101_102 := Aside0.mk ((nl_ hg BK101 : gb101 ≠ gb102)); have NB102_101 := Aside0.mk ((ng_ hg BK101 : gb102 ≠ gb101)); replace BK101 := bb_ BK101 hb; replace HB := hs_ HB hb; clear hb hbox hg; have hnb12 := NB102_101.out; have hnc12 := NB101_102.out; have hcz13_0 : w11.cell? ⟨gb102, 0, none⟩ = some (.int .i64 a0_0) := (blk_cell BK102.out 0).trans rfl; have hcz13_1 : w11.cell? ⟨gb102, 1, none⟩ = some (.slice A1_1 l0_1.length c1_1) := (blk_cell BK102.out 1).trans rfl; have hfz13_0 := blk_frozen BK102.out 0; have hfz13_1 := blk_frozen BK102.out 1; have hcz14_0 : w11.cell? ⟨gb101, 0, none⟩ = some (.int .i64 a0_0) := (blk_cell BK101.out 0).trans rfl; have hcz14_1 : w11.cell? ⟨gb101, 1, none⟩ = some (.slice A0_1 l0_1.length c0_1) := (blk_cell BK101.out 1).trans rfl; have hfz14_0 := blk_frozen BK101.out 0; have hfz14_1 := blk_frozen BK101.out 1) | ((with_reducible refine gate_callee (f := 44) rfl ?_); refine goesL_ (some 11) rfl rfl Try.func44 (by kernel_rfl) rfl #[.agg #[.int .i64 a0_0, .slice A0_1 l0_1.length c0_1], .agg #[.int .i64 a0_0, .slice A1_1 l0_1.length c1_1]] rfl (by (try simp only [List.map_toArray, List.map_cons, List.map_nil]); first | done | rfl | (simp only [List.length_drop, List.length_take]; rfl)) ?_; (with_reducible refine (telamonref1_ExactLevel.calls k a0_0 _ _ l0_1 a0_0 _ _ l0_1 true _ ?side1 ?side2 ?side3 ?side4 A3.out).mono ?_); (case side1 => repeat (first | exact (Kd.C_below (lent_C HR107.out) HB.out) | (with_reducible refine Kd.C_alloc ?_ _) | (with_reducible refine Kd.C_drewN ?_ _) | (with_reducible refine Kd.C_drew ?_))); (case side2 => exact Nat.le_of_succ_le HC0_1.out); (case side3 => repeat (first | exact (Kd.C_below HR1_1.out HB.out) | (with_reducible refine Kd.C_alloc ?_ _) | (with_reducible refine Kd.C_drewN ?_ _) | (with_reducible refine Kd.C_drew ?_))); (case side4 => exact HC1_1.out); rintro e w15 ⟨rfl, hb⟩; refine ⟨_, rfl, ?_⟩; replace BK101 := bb_ BK101 hb; replace BK102 := bb_ BK102 hb; replace HB := hs_ HB hb; (try clear hb); (try clear hb2); (try clear hk); (try clear hi); have hcz16_0 : w15.cell? ⟨gb101, 0, none⟩ = some (.int .i64 a0_0) := (blk_cell BK101.out 0).trans rfl; have hcz16_1 : w15.cell? ⟨gb101, 1, none⟩ = some (.slice A0_1 l0_1.length c0_1) := (blk_cell BK101.out 1).trans rfl; have hfz16_0 := blk_frozen BK101.out 0; have hfz16_1 := blk_frozen BK101.out 1; have hcut17 := HCUT.out; have p108 : 0 ≤ ((l0_1.length : Int) : Int) := of_decide_eq_true (by first | (with_reducible assumption) | assumption); have q108 : (l0_1.length : Int) < (y104.length : Int) := of_decide_eq_true (by first | (with_reducible assumption) | assumption); obtain ⟨ad108, e108, hx108_0, hx108_1⟩ := at_T62 HRy.out (l0_1.length : Int) p108 q108; cases e108; replace hx108_0 := (HB.out.cell (World.block_lt_of_cell? w _ hx108_0)).trans hx108_0; replace hx108_1 := (HB.out.cell (World.block_lt_of_cell? w _ hx108_1)).trans hx108_1; (try simp only [Go.IntWalk.toNatUp] at hx108_0); (try simp only [Go.IntWalk.toNatUp] at hx108_1); rw [E71] at hx108_0; replace p108 := eq_true p108; replace q108 := eq_true q108))
 go_ret
 exact ⟨rfl, (bl_ HB)⟩
theorem telamonlaw1_Stay.calls2 (k : Nat) (N0 : Int) (A0 : Option Addr) (c0 : Nat) (l0 : List S62) (N1 : Int) (A1 : Option Addr) (c1 : Nat) (l1 : List S62) (w : World) (eN : N0 = N1) (el : l0 = l1) (hx : Kd.C k62 w A0 (l0 ++ [(⟨-71, 0⟩ : S62)]).length (l0 ++ [(⟨-71, 0⟩ : S62)])) (hc0 : l0.length + 1 ≤ c0)
  (hr1 : Kd.C k62 w A1 l1.length l1) (hc1 : l1.length ≤ c1) (h : telamonlaw1_Stay.f k N0 l0 N1 l1 = some true) :
  Calls Try.prog 42 #[.agg #[.int .i64 N0, .slice A0 l0.length c0], .agg #[.int .i64 N1, .slice A1 l1.length c1]] w fun e w' => e = .returned (.bool true) ∧ Below w.heap.size w w' := by
  subst eN; subst el
  exact telamonlaw1_Stay.calls k N0 A0 c0 l0 A1 c1 w hx hc0 hr1 hc1 h

end Go.Proofs.Ytbopadglafbdjaa.PX
