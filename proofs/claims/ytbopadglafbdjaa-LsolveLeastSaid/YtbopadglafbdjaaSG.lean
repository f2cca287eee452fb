/- What the solver's iterator over the variables that must grow tells, at whatever invariant of its caller's that keeps its boxes, the limits and the values. -/
import Derived.Test.YtbopadglafbdjaaRFI
import Derived.Test.YtbopadglafbdjaaMS0
import Derived.Test.YtbopadglafbdjaaPXx0
import Derived.Test.YtbopadglafbdjaaPXxf53
import Derived.RangeFuncNested
import Derived.RangeFuncBound
import Derived.RangeFuncCalls
import Derived.RangeFuncLeaves
import Derived.OwnWalkIn
import Derived.TacticsInMore
import Derived.LoopNIn
import Derived.LoopIn
namespace Go.Proofs.Ytbopadglafbdjaa.PX
open Go.RowKit Go.Proofs.YtbopadglafbdjaaW.PrintWords Go.Proofs.YtbopadglafbdjaaW.PrintLast Go.Proofs.YtbopadglafbdjaaW.PrintMore
attribute [local go_sem] max2_int min2_int max_two min_two max_three min_three max_four min_four   -- for this text's walks alone
attribute [local go_sem] Oper.semAt_some
set_option linter.unusedVariables false
set_option linter.unusedSimpArgs false

set_option maxHeartbeats 1000000 in
theorem lsolve_grown.calls (F : Fence) (n : Nat) (h71 : F.fn 71) (hro : F.round = none) (A : Option Addr) (m c : Nat) (A' : Option Addr) (m' c' : Nat) (w : World) :
    CallsIn F n Try.prog 71 #[.slice A m c, .slice A' m' c'] w fun e w' => e = .returned (.func (.func 85) #[] #[.pointer (some ⟨w.heap.size, 0, none⟩), .pointer (some ⟨w.heap.size + 1, 0, none⟩)]) ∧ w' = (w.alloc (.cells #[.slice A m c] 92)).alloc (.cells #[.slice A' m' c'] 29) := by
  refine callsIn_of_wp Try.func71 rfl h71 ?_ hro
  simp only [Try.ntmps71, List.size_toArray, List.length_cons, List.length_nil, Nat.reduceAdd, Nat.reduceSub, Array.replicate_succ, Array.replicate_zero, List.push_toArray, List.append_toArray, List.nil_append, List.cons_append]
  gi_wp2
  go_ret
  exact ⟨by simp, rfl⟩

def encG (p : Int × Int) : Array Value := #[.int .i64 p.1, .int .i64 p.2]

/-- What the iterator wants of the invariant: its two boxes, the limits, the values as they stand. -/
structure Facts (B1 B2 : Nat) (A1 : Option Addr) (c1 : Nat) (lims : List S101) (Av : Option Addr) (cv : Nat) (c0 : List Int) (pre : List (Int × Int)) (W : World) : Prop where
  b1 : W.heap[B1]? = some (.cells #[.slice A1 lims.length c1] 92 (0, 0))
  b2 : W.heap[B2]? = some (.cells #[.slice Av c0.length cv] 29 (0, 0))
  row : Kd.C k101 W A1 lims.length lims
  vals : Kd.C (Kd.int .i64) W Av c0.length (M.stV c0 pre)

theorem Facts.below {B1 B2 A1 c1 lims Av cv c0 pre} {W W' : World} (h : Facts B1 B2 A1 c1 lims Av cv c0 pre W) (hb : Below W.heap.size W W') : Facts B1 B2 A1 c1 lims Av cv c0 pre W' :=
  ⟨(hb.block _ (blk_lt h.b1)).trans h.b1, (hb.block _ (blk_lt h.b2)).trans h.b2, Kd.C_below h.row hb, Kd.C_below h.vals hb⟩

set_option maxHeartbeats 4000000 in
set_option maxRecDepth 100000 in
theorem lsolve_grown_1.yields (n : Nat) (hn : 1 ≤ n) (l B1 B2 : Nat) (A1 : Option Addr) (c1 : Nat) (lims : List S101) (Av : Option Addr) (cv : Nat) (c0 : List Int)
    (I Jx : List (Int × Int) → World → Prop) (Bk : World → Prop) (N : Nat) (hBk : ∀ A C, Bk A → KeepsFrom N A C → Bk C)
    (hIf : ∀ pre W, I pre W → Facts B1 B2 A1 c1 lims Av cv c0 pre W) (hIs : ∀ pre W W', I pre W → Below W.heap.size W W' → I pre W')
    (hcv : c0.length ≤ cv) (hon : ∀ x ∈ lims, x.f1 < (c0.length : Int))
    (hY : ∀ pre x W, I pre W → Bk W → (pre ++ [x] <+: M.ysR c0 lims) → YieldAt Fence.wide (n - 1) Try.prog l (encG x) W fun e W' =>
      (e = .returned (.bool true) ∧ I (pre ++ [x]) W' ∧ Bk W') ∨ (e = .returned (.bool false) ∧ Jx (pre ++ [x]) W'))
    (W : World) (h0 : I [] W) (hb0 : Bk W) :
    CallsIn Fence.wide n Try.prog 85 #[.func (.yield l) #[] #[], .pointer (some ⟨B1, 0, none⟩), .pointer (some ⟨B2, 0, none⟩)] W fun e W' => (∃ v, e = .returned v) ∧
      ((∃ ys, ys = M.ysR c0 lims ∧ I ys W' ∧ Bk W') ∨ (∃ pre, pre <+: M.ysR c0 lims ∧ Jx pre W')) := by
  have hu101 := Try.underlying101
  have hu43 := Try.underlying43
  have HBk := Aside0.mk hBk
  have HIf := Aside0.mk hIf
  have HIs := Aside0.mk hIs
  have HY := Aside0.mk hY
  have HCV := Aside0.mk hcv
  have HON := Aside0.mk hon
  have hcl : lims.length ≤ 9223372036854775807 := Kd.C_max (hIf _ _ h0).row
  have H0 := Aside0.mk h0
  have HB0 := Aside0.mk hb0
  clear hBk hIf hIs hY hcv hon h0 hb0
  refine callsIn_of_wp Try.func85 rfl trivial ?_ rfl
  simp only [Try.ntmps85, List.size_toArray, List.length_cons, List.length_nil, Nat.reduceAdd, Nat.reduceSub, Array.replicate_succ, Array.replicate_zero, List.push_toArray, List.append_toArray, List.nil_append, List.cons_append]
  have hc1 : W.cell? ⟨B1, 0, none⟩ = some (.slice A1 lims.length c1) := (blk_cell (HIf.out _ _ H0.out).b1 0).trans rfl
  gi_wp2
  clear hc1
  gi_loopw [9] (fun i wr => ∃ q : Nat, q ≤ lims.length ∧ i = .int .i64 (q : Int) ∧ Aside0 (I (M.ysR c0 (lims.take q)) wr) ∧ Aside0 (Bk wr))
    (fun i _ => lims.length - (intOf i).toNat)
  case atStart => exact ⟨0, Nat.zero_le _, rfl, ⟨by simpa [M.ysR] using H0.out⟩, HB0⟩
  case round =>
    obtain ⟨q, hq, rfl, HJ, HBq⟩ := hrel
    by_cases hlt : q < lims.length
    · have hF0 := HIf.out _ _ HJ.out
      obtain ⟨ad, A3, c3, rfl, hx0, hx1, hx2, hx3, hl3, hi3⟩ := at_T101 hF0.row (q : Int) (by omega) (by omega)
      simp only [Int.toNat_natCast] at hx0 hx1 hx2 hx3
      have HL3 := Aside0.mk hl3
      have HI3 := Aside0.mk hi3
      clear hF0 hl3 hi3
      have HJ2 := Aside0.mk (HIs.out _ _ (wr.alloc (.cells #[.int .i64 (rd_T101 lims (q : Int)).f0.f0, .slice A3 (rd_T101 lims (q : Int)).f0.f1.length c3, .int .i64 (rd_T101 lims (q : Int)).f1, .int .i64 (rd_T101 lims (q : Int)).f2] 101)) HJ.out (below_alloc (Below.refl _ _) _))
      have HBq2 := Aside0.mk (HBk.out _ _ HBq.out (keepsFrom_of_below (below_alloc (Below.refl wr.heap.size wr) (.cells #[.int .i64 (rd_T101 lims (q : Int)).f0.f0, .slice A3 (rd_T101 lims (q : Int)).f0.f1.length c3, .int .i64 (rd_T101 lims (q : Int)).f1, .int .i64 (rd_T101 lims (q : Int)).f2] 101))))
      by_cases hneg : (rd_T101 lims (q : Int)).f1 < 0
      · have hy : M.ysR c0 (lims.take (q + 1)) = M.ysR c0 (lims.take q) := by rw [M.ysR_take hlt]; simp [M.updR, hneg]
        have HYQ := Aside0.mk hy
        clear hy
        gi_wp2
        go_roundw
        case rel => exact ⟨q + 1, by omega, by go_num, ⟨by rw [HYQ.out]; exact HJ2.out⟩, HBq2⟩
        case measure => simp [intOf]; omega
      · have hFb := (HIf.out _ _ HJ2.out).b2
        have hcb : (wr.alloc (.cells #[.int .i64 (rd_T101 lims (q : Int)).f0.f0, .slice A3 (rd_T101 lims (q : Int)).f0.f1.length c3, .int .i64 (rd_T101 lims (q : Int)).f1, .int .i64 (rd_T101 lims (q : Int)).f2] 101)).cell? ⟨B2, 0, none⟩ = some (.slice Av c0.length cv) := (blk_cell hFb 0).trans rfl
        clear hFb
        have hx : rd_T101 lims (q : Int) ∈ lims := by simp [rd_T101, List.getD_eq_getElem?_getD, List.getElem?_eq_getElem hlt]
        have hon' := HON.out _ hx
        have HON2 := Aside0.mk hon'
        have BX := Aside0.mk (blk_new wr (.cells #[.int .i64 (rd_T101 lims (q : Int)).f0.f0, .slice A3 (rd_T101 lims (q : Int)).f0.f1.length c3, .int .i64 (rd_T101 lims (q : Int)).f1, .int .i64 (rd_T101 lims (q : Int)).f2] 101))
        gi_wp2_with fail
        refine wpIn_wide.2 ?_
        clear hcb
        generalize hwa : wr.alloc (.cells #[.int .i64 (rd_T101 lims (q : Int)).f0.f0, .slice A3 (rd_T101 lims (q : Int)).f0.f1.length c3, .int .i64 (rd_T101 lims (q : Int)).f1, .int .i64 (rd_T101 lims (q : Int)).f2] 101) = wa at HJ2 HBq2 BX ⊢
        have HI3a := Aside0.mk (show k62.C wa A3 (rd_T101 lims (q : Int)).f0.f1.length (rd_T101 lims (q : Int)).f0.f1 by rw [← hwa]; exact Kd.C_alloc HI3.out _)
        clear hwa hx0 hx1 hx2 hx3
        generalize hbx : wr.heap.size = bx at BX ⊢
        clear hbx
        have HJ3 := Aside0.mk (HIs.out _ _ wa.drew HJ2.out (below_drew (Below.refl _ _)))
        have HBq3 := Aside0.mk (HBk.out _ _ HBq2.out (keepsFrom_of_below (below_drew (Below.refl wa.heap.size wa))))
        have BX3 := Aside0.mk (blk_drew BX.out)
        have HI4 := Aside0.mk (Kd.C_drew HI3a.out)
        obtain ⟨ke, hke⟩ := (M.Eval_all (rd_T101 lims (q : Int)).f0.f0 (rd_T101 lims (q : Int)).f0.f1 (M.stV c0 (M.ysR c0 (lims.take q)))).ex
        have HKE := Aside0.mk hke
        have HSL := Aside0.mk (M.stV_len (M.ysR c0 (lims.take q)) c0)
        clear hke
        refine start_ (n := 8) (S := fun w' => w'.cell? ⟨bx, 0, none⟩ = some (.int .i64 (rd_T101 lims (q : Int)).f0.f0) ∧ w'.cell? ⟨bx, 1, none⟩ = some (.slice A3 (rd_T101 lims (q : Int)).f0.f1.length c3) ∧ w'.cell? ⟨bx, 2, none⟩ = some (.int .i64 (rd_T101 lims (q : Int)).f1) ∧ w'.cell? ⟨bx, 3, none⟩ = some (.int .i64 (rd_T101 lims (q : Int)).f2) ∧ w'.cell? ⟨B2, 0, none⟩ = some (.slice Av c0.length cv)) (ds := []) #[false, false, false, false, false, false, false, false] (by kernel_rfl) rfl rfl ⟨(blk_cell BX3.out 0).trans rfl, (blk_cell BX3.out 1).trans rfl, (blk_cell BX3.out 2).trans rfl, (blk_cell BX3.out 3).trans rfl, (blk_cell (HIf.out _ _ HJ3.out).b2 0).trans rfl⟩ (fun hHeld => ?_)
        refine pure_ (i := 0) (N := some 16) (v := ?_) (a' := ?_) #[true, false, false, false, false, false, false, false] rfl rfl (by kernel_rfl) (fun _ _ _ h => h) (Or.inl ⟨by rfl, ?_⟩) ?_ ?_
        rotate_left
        · intro w'
          go_simp
          with_reducible rfl
        rotate_left
        · simp only [Act.put, List.setIfInBounds_toArray, List.set_cons_zero, List.set_cons_succ, i64_w, i32_w]
          rfl
        refine pure_ (i := 4) (N := some 20) (v := ?_) (a' := ?_) #[true, false, false, false, true, false, false, false] rfl rfl (by kernel_rfl) (fun _ _ _ h => h) (Or.inl ⟨by rfl, ?_⟩) ?_ ?_
        rotate_left
        · intro w'
          go_simp
          with_reducible rfl
        rotate_left
        · simp only [Act.put, List.setIfInBounds_toArray, List.set_cons_zero, List.set_cons_succ, i64_w, i32_w]
          rfl
        refine take_ (i := 1) (N := some 17) (v := ?_) (a' := ?_) #[true, true, false, false, true, false, false, false] rfl rfl (by kernel_rfl) (fun _ _ _ h => h) (Or.inl ⟨by rfl, ?_⟩) hHeld ?_ ?_
        rotate_left
        · rintro w' ⟨s0, s1, s2, s3, s4⟩
          go_simp
          with_reducible rfl
        rotate_left
        · simp only [Act.put, List.setIfInBounds_toArray, List.set_cons_zero, List.set_cons_succ, i64_w, i32_w]
          rfl
        refine take_ (i := 2) (N := some 18) (v := ?_) (a' := ?_) #[true, true, true, false, true, false, false, false] rfl rfl (by kernel_rfl) (fun _ _ _ h => h) (Or.inl ⟨by rfl, ?_⟩) hHeld ?_ ?_
        rotate_left
        · rintro w' ⟨s0, s1, s2, s3, s4⟩
          go_simp
          with_reducible rfl
        rotate_left
        · simp only [Act.put, List.setIfInBounds_toArray, List.set_cons_zero, List.set_cons_succ, i64_w, i32_w]
          rfl
        refine take_ (i := 5) (N := some 21) (v := ?_) (a' := ?_) #[true, true, true, false, true, true, false, false] rfl rfl (by kernel_rfl) (fun _ _ _ h => h) (Or.inl ⟨by rfl, ?_⟩) hHeld ?_ ?_
        rotate_left
        · rintro w' ⟨s0, s1, s2, s3, s4⟩
          go_simp
          with_reducible rfl
        rotate_left
        · simp only [Act.put, List.setIfInBounds_toArray, List.set_cons_zero, List.set_cons_succ, i64_w, i32_w]
          rfl
        refine one_ (i := 3) (N := some 19) #[true, true, true, true, true, true, false, false] rfl rfl (by kernel_rfl) (by decide) (fun K hK => ?_)
        refine goes_ Try.func53 (by kernel_rfl) rfl #[.agg #[.int .i64 (rd_T101 lims (q : Int)).f0.f0, .slice A3 (rd_T101 lims (q : Int)).f0.f1.length c3], .slice Av c0.length cv] (by rfl) rfl rfl (by simp only [List.map_toArray, List.map_cons, List.map_nil]; rfl) ?_
        have hlv : c0.length = (M.stV c0 (M.ysR c0 (lims.take q))).length := HSL.out.symm
        rw [hlv]
        with_reducible refine (level_Eval.calls ke (rd_T101 lims (q : Int)).f0.f0 _ _ (rd_T101 lims (q : Int)).f0.f1 _ _ _ _ _ HI4.out HL3.out ?hv ?hc HKE.out).mono ?_
        case hv => rw [← hlv]; exact (HIf.out _ _ HJ3.out).vals
        case hc => rw [← hlv]; exact HCV.out
        rintro e w3 ⟨rfl, hb⟩
        refine ⟨_, rfl, ?_⟩
        have HJ5 := Aside0.mk (HIs.out _ _ w3 HJ3.out hb)
        have HBq5 := Aside0.mk (HBk.out _ _ HBq3.out (keepsFrom_of_below hb))
        have BX5 := Aside0.mk ((hb.block _ (blk_lt BX3.out)).trans BX3.out)
        clear hb hlv
        refine hK.out _ _ ⟨(blk_cell BX5.out 0).trans rfl, (blk_cell BX5.out 1).trans rfl, (blk_cell BX5.out 2).trans rfl, (blk_cell BX5.out 3).trans rfl, (blk_cell (HIf.out _ _ HJ5.out).b2 0).trans rfl⟩ (fun hHeld => ?_)
        clear hK K
        refine norm_ (a' := ?_) ?_ ?_
        rotate_left
        · show Act.put _ (some 19) _ = _
          simp only [Act.put, List.setIfInBounds_toArray, List.set_cons_zero, List.set_cons_succ, i64_w, i32_w]
          rfl
        refine pure_ (i := 6) (N := some 22) (v := ?_) (a' := ?_) #[true, true, true, true, true, true, true, false] rfl rfl (by kernel_rfl) (fun _ _ _ h => h) (Or.inl ⟨by rfl, ?_⟩) ?_ ?_
        rotate_left
        · intro w'
          go_simp
          with_reducible rfl
        rotate_left
        · simp only [Act.put, List.setIfInBounds_toArray, List.set_cons_zero, List.set_cons_succ, i64_w, i32_w]
          rfl
        refine pure_ (i := 7) (N := some 6) (v := ?_) (a' := ?_) #[true, true, true, true, true, true, true, true] rfl rfl (by kernel_rfl) (fun _ _ _ h => h) (Or.inl ⟨by rfl, ?_⟩) ?_ ?_
        rotate_left
        · intro w'
          go_simp
          with_reducible rfl
        rotate_left
        · simp only [Act.put, List.setIfInBounds_toArray, List.set_cons_zero, List.set_cons_succ, i64_w, i32_w]
          rfl
        refine done_ (by kernel_rfl) ?_

        have HY5 := Aside0.mk (M.ysR_take hlt c0)
        have hFc := HIf.out _ _ HJ5.out
        obtain ⟨av, rfl, hxv⟩ := Kd.at_int hFc.vals (rd_T101 lims (q : Int)).f1 (by omega) hon'
        have hcb2 : w3.cell? ⟨B2, 0, none⟩ = some (.slice (some av) c0.length cv) := (blk_cell hFc.b2 0).trans rfl
        have hcx : w3.cell? ⟨bx, 1 + 1, none⟩ = some (.int .i64 (rd_T101 lims (q : Int)).f1) := (blk_cell BX5.out 2).trans rfl
        have hcx' : w3.cell? ⟨bx, 2, none⟩ = some (.int .i64 (rd_T101 lims (q : Int)).f1) := (blk_cell BX5.out 2).trans rfl
        clear hFc hx
        generalize hk : wrap64 (M.evalR (rd_T101 lims (q : Int)).f0.f0 (rd_T101 lims (q : Int)).f0.f1 (M.stV c0 (M.ysR c0 (lims.take q))) - (rd_T101 lims (q : Int)).f2) = kk
        have HK := Aside0.mk hk
        clear hk
        by_cases hgt : kk > rd (M.stV c0 (M.ysR c0 (lims.take q))) (rd_T101 lims (q : Int)).f1
        · have hyy : M.ysR c0 (lims.take (q + 1)) = M.ysR c0 (lims.take q) ++ [((rd_T101 lims (q : Int)).f1, kk)] := by rw [HY5.out]; simp [M.updR, hneg, HK.out, hgt]
          have HYY := Aside0.mk hyy
          obtain ⟨fn, tmps, assign, body, hy, hR⟩ := HY.out _ ((rd_T101 lims (q : Int)).f1, kk) _ HJ5.out HBq5.out (by rw [← hyy]; exact M.ysR_prefix _ _ _)
          dsimp only [encG] at hy
          clear hyy
          gi_wp2
          refine hR.mono ?_
          clear hy hR hxv hcb2 hcx hcx' hHeld
          rintro e W2 (⟨rfl, hJ2, hb2⟩ | ⟨rfl, hJx2⟩)
          · have HJ6 := Aside0.mk hJ2
            have HBq6 := Aside0.mk hb2
            clear hJ2 hb2
            gi_wp2
            go_roundw
            case rel => exact ⟨q + 1, by omega, by go_num, ⟨by rw [HYY.out]; exact HJ6.out⟩, HBq6⟩
            case measure => simp [intOf]; omega
          · have HJ6 := Aside0.mk hJx2
            clear hJx2
            gi_wp2
            refine bodyPost_ret (results_none rfl _ _ _) rfl ?_
            exact ⟨⟨_, rfl⟩, .inr ⟨_, by rw [← HYY.out]; exact M.ysR_prefix _ _ _, HJ6.out⟩⟩
        · have hyy : M.ysR c0 (lims.take (q + 1)) = M.ysR c0 (lims.take q) := by rw [HY5.out]; simp [M.updR, HK.out, hgt]
          have HYY := Aside0.mk hyy
          clear hyy
          gi_wp2
          refine ⟨(fun f h => by cases h), ?_⟩
          gi_wp2
          go_roundw
          case rel => exact ⟨q + 1, by omega, by go_num, ⟨by rw [HYY.out]; exact HJ5.out⟩, HBq5⟩
          case measure => simp [intOf]; omega
    · gi_wp2
      go_end0
      exact ⟨⟨_, rfl⟩, .inl ⟨_, rfl, by
          have := HJ.out
          rwa [List.take_of_length_le (by omega)] at this, HBq.out⟩⟩
theorem lsolve_grown_1.seq (n : Nat) (hn : 1 ≤ n) (B1 B2 : Nat) (A1 : Option Addr) (c1 : Nat) (lims : List S101) (Av : Option Addr) (cv : Nat) (c0 : List Int)
    (I : List (Int × Int) → World → Prop) (N : Nat) (hIf : ∀ pre W, I pre W → Facts B1 B2 A1 c1 lims Av cv c0 pre W) (hIs : ∀ pre W W', I pre W → Below W.heap.size W W' → I pre W')
    (hcv : c0.length ≤ cv) (hon : ∀ x ∈ lims, x.f1 < (c0.length : Int)) :
    SeqT Fence.wide n Try.prog 85 #[.pointer (some ⟨B1, 0, none⟩), .pointer (some ⟨B2, 0, none⟩)] encG I (fun pre x => pre ++ [x] <+: M.ysR c0 lims) (fun ys => ys = M.ysR c0 lims) (fun pre => pre <+: M.ysR c0 lims) N :=
  fun l W Jx Bk hBk h0 hb0 hY => lsolve_grown_1.yields n hn l B1 B2 A1 c1 lims Av cv c0 I Jx Bk N hBk hIf hIs hcv hon (fun pre x W1 h1 h2 h3 => hY pre x W1 h1 h2 h3) W h0 hb0
end Go.Proofs.Ytbopadglafbdjaa.PX
