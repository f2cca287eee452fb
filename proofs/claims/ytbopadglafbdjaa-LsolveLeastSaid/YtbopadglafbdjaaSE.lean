/- The solver's last loop, walked: the limits without a variable. -/
import Derived.Test.YtbopadglafbdjaaSR
import Derived.RangeFuncNested
import Derived.RangeFuncBound
import Derived.RangeFuncCalls
import Derived.RangeFuncLeaves
import Derived.OwnWalkIn
import Derived.TacticsInMore
import Derived.LoopNIn
import Derived.LoopIn
set_option linter.unusedVariables false
set_option linter.unusedSimpArgs false
namespace Go.Proofs.Ytbopadglafbdjaa.PX
open Go Go.RowKit Go.Proofs.YtbopadglafbdjaaW.PrintWords Go.Proofs.YtbopadglafbdjaaW.PrintLast Go.Proofs.YtbopadglafbdjaaW.PrintMore
attribute [local go_sem] max2_int min2_int max_two min_two max_three min_three max_four min_four
attribute [local go_sem] Oper.semAt_some

/-- A code's last loop. -/
def lastIn : Code → Option Code
  | .seq a b => (lastIn b).or (lastIn a)
  | .block _ c => lastIn c
  | .cond _ a b => (lastIn b).or (lastIn a)
  | .loop c => some c
  | .scope c => lastIn c
  | _ => none
/-- Is there a limit without a variable that does not hold? -/
def overB (c : List Int) (lims : List S101) : Bool := lims.any fun x => decide (x.f1 < 0) && decide (M.evalR x.f0.f0 x.f0.f1 c > x.f2)
theorem overB_take {c : List Int} {lims : List S101} {q : Nat} (h : q < lims.length) : overB c (lims.take (q + 1)) = (overB c (lims.take q) || (decide ((rd_T101 lims (q : Int)).f1 < 0) && decide (M.evalR (rd_T101 lims (q : Int)).f0.f0 (rd_T101 lims (q : Int)).f0.f1 c > (rd_T101 lims (q : Int)).f2))) := by
  have e : rd_T101 lims (q : Int) = lims[q] := by simp [rd_T101, List.getD_eq_getElem?_getD, List.getElem?_eq_getElem h]
  rw [List.take_succ_eq_append_getElem h, overB, List.any_append, e]
  simp [overB]
theorem overB_pre {c : List Int} {lims : List S101} {q : Nat} (h : overB c (lims.take q) = true) : overB c lims = true := by
  rw [← List.take_append_drop q lims, overB, List.any_append]
  unfold overB at h
  rw [h]; rfl
set_option maxHeartbeats 8000000 in
set_option maxRecDepth 100000 in
theorem solve_last (body : Code) (hB : Try.f29.body.bind lastIn = some body) (b4 b5 b8 : Nat) (W8 : World) (A : Option Addr) (cl : Nat) (lims : List S101) (Av : Option Addr) (cv : Nat) (c : List Int)
    (h4 : W8.heap[b4]? = some (.cells #[.slice none 0 0] 29 (0, 0))) (h5 : W8.heap[b5]? = some (.cells #[.int .i64 0] 46 (0, 0))) (n45 : b4 ≠ b5) (h8 : W8.heap[b8]? = some (.cells #[.slice Av c.length cv] 29 (0, 0)))
    (hrow : Kd.C k101 W8 A lims.length lims) (hvals : Kd.C (Kd.int .i64) W8 Av c.length c) (hcv : c.length ≤ cv) (v0 v1 v2 v3 v6 v7 : Value) (defs : List Deferred) (Q : Exit → Act → World → Prop)
    (hexit : overB c lims = false → ∀ W' u9 u10 u11 u12 u13 u14 u15 u16 u17 u18 u19 u20 u21 u22 u23 u24 u25 u26 u27 u28 u29 u30 u31 u32 u33 u34 u35 u36 u37 u38 u39 u40 u41 u42 u43 u44 u45 u46 u47 u48 u49 u50 u51 u52 u53 u54 u55 u56 u57 u58 u59 u60 u61 u62 u63 u64 u65 u66 u67 u68 u69 u70 u71 u72 u73 u74 u75 u76 u77 u78, Below W8.heap.size W8 W' → Q (.exit 4) { tmps := (v0 :: v1 :: v2 :: v3 :: .pointer (some ⟨b4, 0, none⟩) :: .pointer (some ⟨b5, 0, none⟩) :: v6 :: v7 :: .pointer (some ⟨b8, 0, none⟩) :: u9 :: u10 :: u11 :: u12 :: u13 :: u14 :: u15 :: u16 :: u17 :: u18 :: u19 :: u20 :: u21 :: u22 :: u23 :: u24 :: u25 :: u26 :: u27 :: u28 :: u29 :: u30 :: u31 :: u32 :: u33 :: u34 :: u35 :: u36 :: u37 :: u38 :: u39 :: u40 :: u41 :: u42 :: u43 :: u44 :: u45 :: u46 :: u47 :: u48 :: u49 :: u50 :: u51 :: u52 :: u53 :: u54 :: u55 :: u56 :: u57 :: u58 :: u59 :: u60 :: u61 :: u62 :: u63 :: u64 :: u65 :: u66 :: u67 :: u68 :: u69 :: u70 :: u71 :: u72 :: u73 :: u74 :: u75 :: u76 :: u77 :: u78 :: []).toArray, defers := defs } W')
    (hret : overB c lims = true → ∀ W' u9 u10 u11 u12 u13 u14 u15 u16 u17 u18 u19 u20 u21 u22 u23 u24 u25 u26 u27 u28 u29 u30 u31 u32 u33 u34 u35 u36 u37 u38 u39 u40 u41 u42 u43 u44 u45 u46 u47 u48 u49 u50 u51 u52 u53 u54 u55 u56 u57 u58 u59 u60 u61 u62 u63 u64 u65 u66 u67 u68 u69 u70 u71 u72 u73 u74 u75 u76 u77 u78, Below W8.heap.size W8 W' → Q .ret { tmps := (v0 :: v1 :: v2 :: v3 :: .pointer (some ⟨b4, 0, none⟩) :: .pointer (some ⟨b5, 0, none⟩) :: v6 :: v7 :: .pointer (some ⟨b8, 0, none⟩) :: u9 :: u10 :: u11 :: u12 :: u13 :: u14 :: u15 :: u16 :: u17 :: u18 :: u19 :: u20 :: u21 :: u22 :: u23 :: u24 :: u25 :: u26 :: u27 :: u28 :: u29 :: u30 :: u31 :: u32 :: u33 :: u34 :: u35 :: u36 :: u37 :: u38 :: u39 :: u40 :: u41 :: u42 :: u43 :: u44 :: u45 :: u46 :: u47 :: u48 :: u49 :: u50 :: u51 :: u52 :: u53 :: u54 :: u55 :: u56 :: u57 :: u58 :: u59 :: u60 :: u61 :: u62 :: u63 :: u64 :: u65 :: u66 :: u67 :: u68 :: u69 :: u70 :: u71 :: u72 :: u73 :: u74 :: u75 :: u76 :: u77 :: u78 :: []).toArray, defers := defs } ((W'.setCell ⟨b4, 0, none⟩ (.slice none 0 0)).setCell ⟨b5, 0, none⟩ (.int .i64 52)))
    (u9 u10 u11 u12 u13 u14 u15 u16 u17 u18 u19 u20 u21 u22 u23 u24 u25 u26 u27 u28 u29 u30 u31 u32 u33 u34 u35 u36 u37 u38 u39 u40 u41 u42 u43 u44 u45 u46 u47 u48 u49 u50 u51 u52 u53 u54 u55 u56 u57 u58 u62 u63 u64 u65 u66 u67 u68 u69 u70 u71 u72 u73 u74 u75 u76 u77 u78 : Value) : (Code.loop body).wpIn Fence.wide 6 Try.prog Q { tmps := (v0 :: v1 :: v2 :: v3 :: .pointer (some ⟨b4, 0, none⟩) :: .pointer (some ⟨b5, 0, none⟩) :: v6 :: v7 :: .pointer (some ⟨b8, 0, none⟩) :: u9 :: u10 :: u11 :: u12 :: u13 :: u14 :: u15 :: u16 :: u17 :: u18 :: u19 :: u20 :: u21 :: u22 :: u23 :: u24 :: u25 :: u26 :: u27 :: u28 :: u29 :: u30 :: u31 :: u32 :: u33 :: u34 :: u35 :: u36 :: u37 :: u38 :: u39 :: u40 :: u41 :: u42 :: u43 :: u44 :: u45 :: u46 :: u47 :: u48 :: u49 :: u50 :: u51 :: u52 :: u53 :: u54 :: u55 :: u56 :: u57 :: u58 :: (.slice A lims.length cl) :: (.int .i64 lims.length) :: (.int .i64 0) :: u62 :: u63 :: u64 :: u65 :: u66 :: u67 :: u68 :: u69 :: u70 :: u71 :: u72 :: u73 :: u74 :: u75 :: u76 :: u77 :: u78 :: []).toArray, defers := defs } W8 := by
  simp only [Try.f29, Option.bind_some, lastIn, Option.or, Option.some.injEq] at hB
  subst hB
  refine wpIn_mono (Q := fun e a w => (∀ ch, e ≠ .panic ch) ∧ Q e a w) ?_ (fun _ _ _ h => h.2)
  have hu101 := Try.underlying101
  have hu43 := Try.underlying43
  have H4 := Aside0.mk h4
  have H5 := Aside0.mk h5
  have HK8 := Aside0.mk h8
  have HROW := Aside0.mk hrow
  have HVAL := Aside0.mk hvals
  have HCV := Aside0.mk hcv
  have HEX := Aside0.mk hexit
  have HRT := Aside0.mk hret
  have hcl : lims.length ≤ 9223372036854775807 := Kd.C_max hrow
  clear h4 h5 h8 hrow hvals hcv hexit hret
  gi_loopw [61] (fun i wr => ∃ q : Nat, q ≤ lims.length ∧ i = .int .i64 (q : Int) ∧ Aside0 (overB c (lims.take q) = false) ∧ Aside0 (Below W8.heap.size W8 wr))
    (fun i _ => lims.length - (intOf i).toNat)
  case atStart => exact ⟨0, Nat.zero_le _, rfl, ⟨by simp [overB]⟩, ⟨Below.refl _ _⟩⟩
  case round =>
    obtain ⟨q, hq, rfl, HOV, HB⟩ := hrel
    by_cases hlt : q < lims.length
    · obtain ⟨ad, A3, c3, rfl, hx0, hx1, hx2, hx3, hl3, hi3⟩ := at_T101 (Kd.C_below HROW.out HB.out) (q : Int) (by omega) (by omega)
      simp only [Int.toNat_natCast] at hx0 hx1 hx2 hx3
      have HL3 := Aside0.mk hl3
      have HI3 := Aside0.mk hi3
      have HTK := Aside0.mk (overB_take (c := c) hlt)
      clear hl3 hi3
      have BX := Aside0.mk (blk_new wr (.cells #[.int .i64 (rd_T101 lims (q : Int)).f0.f0, .slice A3 (rd_T101 lims (q : Int)).f0.f1.length c3, .int .i64 (rd_T101 lims (q : Int)).f1, .int .i64 (rd_T101 lims (q : Int)).f2] 101))
      gi_wp2_with fail
      refine wpIn_wide.2 ?_
      generalize hwa : wr.alloc (.cells #[.int .i64 (rd_T101 lims (q : Int)).f0.f0, .slice A3 (rd_T101 lims (q : Int)).f0.f1.length c3, .int .i64 (rd_T101 lims (q : Int)).f1, .int .i64 (rd_T101 lims (q : Int)).f2] 101) = wa at BX ⊢
      have HB2 := Aside0.mk (show Below W8.heap.size W8 wa by rw [← hwa]; exact HB.out.alloc HB.out.size _)
      have HI3a := Aside0.mk (show k62.C wa A3 (rd_T101 lims (q : Int)).f0.f1.length (rd_T101 lims (q : Int)).f0.f1 by rw [← hwa]; exact Kd.C_alloc HI3.out _)
      clear hwa hx0 hx1 hx2 hx3
      generalize hbx : wr.heap.size = bx at BX ⊢
      clear hbx
      have HB3 := Aside0.mk (show Below W8.heap.size W8 wa.drew from below_drew HB2.out)
      have BX3 := Aside0.mk (blk_drew BX.out)
      have HI4 := Aside0.mk (Kd.C_drew HI3a.out)
      by_cases hneg : (rd_T101 lims (q : Int)).f1 < 0
      · have hnb : decide ((rd_T101 lims (q : Int)).f1 < 0) = true := decide_eq_true hneg
        obtain ⟨ke, hke⟩ := (M.Eval_all (rd_T101 lims (q : Int)).f0.f0 (rd_T101 lims (q : Int)).f0.f1 c).ex
        have HKE := Aside0.mk hke
        clear hke
        refine start_ (n := 12) (S := fun w' => w'.cell? ⟨bx, 0, none⟩ = some (.int .i64 (rd_T101 lims (q : Int)).f0.f0) ∧ w'.cell? ⟨bx, 1, none⟩ = some (.slice A3 (rd_T101 lims (q : Int)).f0.f1.length c3) ∧ w'.cell? ⟨bx, 2, none⟩ = some (.int .i64 (rd_T101 lims (q : Int)).f1) ∧ w'.cell? ⟨bx, 3, none⟩ = some (.int .i64 (rd_T101 lims (q : Int)).f2) ∧ w'.cell? ⟨b8, 0, none⟩ = some (.slice Av c.length cv)) (ds := []) #[false, false, false, false, false, false, false, false, false, false, false, false] (by kernel_rfl) rfl rfl ⟨(blk_cell BX3.out 0).trans rfl, (blk_cell BX3.out 1).trans rfl, (blk_cell BX3.out 2).trans rfl, (blk_cell BX3.out 3).trans rfl, (blk_cell (HB3.out.block _ (blk_lt HK8.out) |>.trans HK8.out) 0).trans rfl⟩ (fun hHeld => ?_)
        refine pure_ (i := 0) (N := some 65) (v := ?_) (a' := ?_) #[true, false, false, false, false, false, false, false, false, false, false, false] rfl rfl (by kernel_rfl) (fun _ _ _ h => absurd rfl (And.left (show _ ∧ _ from h) _)) (Or.inl ⟨by rfl, ?_⟩) ?_ ?_
        rotate_left
        · intro w'
          go_simp
          with_reducible rfl
        rotate_left
        · simp only [Act.put, List.setIfInBounds_toArray, List.set_cons_zero, List.set_cons_succ, i64_w, i32_w]
          rfl
        refine take_ (i := 1) (N := some 66) (v := ?_) (a' := ?_) #[true, true, false, false, false, false, false, false, false, false, false, false] rfl rfl (by kernel_rfl) (fun _ _ _ h => absurd rfl (And.left (show _ ∧ _ from h) _)) (Or.inl ⟨by rfl, ?_⟩) hHeld ?_ ?_
        rotate_left
        · rintro w' ⟨s0, s1, s2, s3, s4⟩
          go_simp
          with_reducible rfl
        rotate_left
        · simp only [Act.put, List.setIfInBounds_toArray, List.set_cons_zero, List.set_cons_succ, i64_w, i32_w]
          rfl
        refine pure_ (i := 2) (N := some 67) (v := ?_) (a' := ?_) #[true, true, true, false, false, false, false, false, false, false, false, false] rfl rfl (by kernel_rfl) (fun _ _ _ h => absurd rfl (And.left (show _ ∧ _ from h) _)) (Or.inl ⟨by rfl, ?_⟩) ?_ ?_
        rotate_left
        · intro w'
          go_simp
          with_reducible rfl
        rotate_left
        · simp only [Act.put, List.setIfInBounds_toArray, List.set_cons_zero, List.set_cons_succ, i64_w, i32_w]
          rfl
        refine pure_ (i := 3) (N := some 68) (v := ?_) (a' := ?_) #[true, true, true, true, false, false, false, false, false, false, false, false] rfl rfl (by kernel_rfl) (fun _ _ _ h => absurd rfl (And.left (show _ ∧ _ from h) _)) (Or.inl ⟨by rfl, ?_⟩) ?_ ?_
        rotate_left
        · intro w'
          go_simp
          with_reducible rfl
        rotate_left
        · simp only [Act.put, List.setIfInBounds_toArray, List.set_cons_zero, List.set_cons_succ, i64_w, i32_w]
          rfl
        refine pure_ (i := 4) (N := some 69) (v := ?_) (a' := ?_) #[true, true, true, true, true, false, false, false, false, false, false, false] rfl rfl (by kernel_rfl) (fun _ _ _ h => absurd rfl (And.left (show _ ∧ _ from h) _)) (Or.inl ⟨by rfl, ?_⟩) ?_ ?_
        rotate_left
        · intro w'
          go_simp
          with_reducible rfl
        rotate_left
        · simp only [Act.put, List.setIfInBounds_toArray, List.set_cons_zero, List.set_cons_succ, i64_w, i32_w]
          rfl
        refine pure_ (i := 8) (N := some 73) (v := ?_) (a' := ?_) #[true, true, true, true, true, false, false, false, true, false, false, false] rfl rfl (by kernel_rfl) (fun _ _ _ h => absurd rfl (And.left (show _ ∧ _ from h) _)) (Or.inl ⟨by rfl, ?_⟩) ?_ ?_
        rotate_left
        · intro w'
          go_simp
          with_reducible rfl
        rotate_left
        · simp only [Act.put, List.setIfInBounds_toArray, List.set_cons_zero, List.set_cons_succ, i64_w, i32_w]
          rfl
        refine take_ (i := 5) (N := some 70) (v := ?_) (a' := ?_) #[true, true, true, true, true, true, false, false, true, false, false, false] rfl rfl (by kernel_rfl) (fun _ _ _ h => absurd rfl (And.left (show _ ∧ _ from h) _)) (Or.inl ⟨by rfl, ?_⟩) hHeld ?_ ?_
        rotate_left
        · rintro w' ⟨s0, s1, s2, s3, s4⟩
          go_simp
          with_reducible rfl
        rotate_left
        · simp only [Act.put, List.setIfInBounds_toArray, List.set_cons_zero, List.set_cons_succ, i64_w, i32_w]
          rfl
        refine take_ (i := 6) (N := some 71) (v := ?_) (a' := ?_) #[true, true, true, true, true, true, true, false, true, false, false, false] rfl rfl (by kernel_rfl) (fun _ _ _ h => absurd rfl (And.left (show _ ∧ _ from h) _)) (Or.inl ⟨by rfl, ?_⟩) hHeld ?_ ?_
        rotate_left
        · rintro w' ⟨s0, s1, s2, s3, s4⟩
          go_simp
          with_reducible rfl
        rotate_left
        · simp only [Act.put, List.setIfInBounds_toArray, List.set_cons_zero, List.set_cons_succ, i64_w, i32_w]
          rfl
        refine take_ (i := 9) (N := some 74) (v := ?_) (a' := ?_) #[true, true, true, true, true, true, true, false, true, true, false, false] rfl rfl (by kernel_rfl) (fun _ _ _ h => absurd rfl (And.left (show _ ∧ _ from h) _)) (Or.inl ⟨by rfl, ?_⟩) hHeld ?_ ?_
        rotate_left
        · rintro w' ⟨s0, s1, s2, s3, s4⟩
          go_simp
          with_reducible rfl
        rotate_left
        · simp only [Act.put, List.setIfInBounds_toArray, List.set_cons_zero, List.set_cons_succ, i64_w, i32_w]
          rfl
        refine one_ (i := 7) (N := some 72) #[true, true, true, true, true, true, true, true, true, true, false, false] rfl rfl (by kernel_rfl) (by decide) (fun K hK => ?_)
        refine goes_ Try.func53 (by kernel_rfl) rfl #[.agg #[.int .i64 (rd_T101 lims (q : Int)).f0.f0, .slice A3 (rd_T101 lims (q : Int)).f0.f1.length c3], .slice Av c.length cv] (by rfl) rfl rfl (by simp only [List.map_toArray, List.map_cons, List.map_nil]; rfl) ?_
        with_reducible refine (level_Eval.calls ke (rd_T101 lims (q : Int)).f0.f0 _ _ (rd_T101 lims (q : Int)).f0.f1 _ _ c _ _ HI4.out HL3.out (Kd.C_below HVAL.out HB3.out) HCV.out HKE.out).mono ?_
        rintro e w3 ⟨rfl, hb⟩
        refine ⟨_, rfl, ?_⟩
        have HB5 := Aside0.mk (HB3.out.trans (hb.mono HB3.out.size))
        have BX5 := Aside0.mk ((hb.block _ (blk_lt BX3.out)).trans BX3.out)
        clear hb
        refine hK.out _ _ ⟨(blk_cell BX5.out 0).trans rfl, (blk_cell BX5.out 1).trans rfl, (blk_cell BX5.out 2).trans rfl, (blk_cell BX5.out 3).trans rfl, (blk_cell (HB5.out.block _ (blk_lt HK8.out) |>.trans HK8.out) 0).trans rfl⟩ (fun hHeld => ?_)
        clear hK K
        refine norm_ (a' := ?_) ?_ ?_
        rotate_left
        · show Act.put _ (some 72) _ = _
          simp only [Act.put, List.setIfInBounds_toArray, List.set_cons_zero, List.set_cons_succ, i64_w, i32_w]
          rfl
        refine pure_ (i := 10) (N := some 75) (v := ?_) (a' := ?_) #[true, true, true, true, true, true, true, true, true, true, true, false] rfl rfl (by kernel_rfl) (fun _ _ _ h => absurd rfl (And.left (show _ ∧ _ from h) _)) (Or.inl ⟨by rfl, ?_⟩) ?_ ?_
        rotate_left
        · intro w'
          go_simp
          with_reducible rfl
        rotate_left
        · simp only [Act.put, List.setIfInBounds_toArray, List.set_cons_zero, List.set_cons_succ, i64_w, i32_w]
          rfl
        refine pure_ (i := 11) (N := some 76) (v := ?_) (a' := ?_) #[true, true, true, true, true, true, true, true, true, true, true, true] rfl rfl (by kernel_rfl) (fun _ _ _ h => absurd rfl (And.left (show _ ∧ _ from h) _)) (Or.inl ⟨by rfl, ?_⟩) ?_ ?_
        rotate_left
        · intro w'
          go_simp
          with_reducible rfl
        rotate_left
        · simp only [Act.put, List.setIfInBounds_toArray, List.set_cons_zero, List.set_cons_succ, i64_w, i32_w]
          rfl
        refine done_ (by kernel_rfl) ?_
        have F4 := Aside0.mk ((HB5.out.block b4 (blk_lt H4.out)).trans H4.out)
        have F5 := Aside0.mk ((HB5.out.block b5 (blk_lt H5.out)).trans H5.out)
        have c4 : w3.cell? ⟨b4, 0, none⟩ = some (.slice none 0 0) := (blk_cell F4.out 0).trans rfl
        have c5 : w3.cell? ⟨b5, 0, none⟩ = some (.int .i64 0) := (blk_cell F5.out 0).trans rfl
        have f4 := blk_frozen F4.out 0
        have f5 := blk_frozen F5.out 0
        have n54 := Ne.symm n45
        by_cases hgt : M.evalR (rd_T101 lims (q : Int)).f0.f0 (rd_T101 lims (q : Int)).f0.f1 c > (rd_T101 lims (q : Int)).f2
        · have hov : overB c lims = true := overB_pre (q := q + 1) (by rw [HTK.out]; simp [hneg, hgt])
          have HOK := Aside0.mk hov
          clear hov
          gi_wp2
          exact ⟨(fun ch h => by cases h), HRT.out HOK.out w3 _ _ _ _ _ _ _ _ _ _ _ _ _ _ _ _ _ _ _ _ _ _ _ _ _ _ _ _ _ _ _ _ _ _ _ _ _ _ _ _ _ _ _ _ _ _ _ _ _ _ _ _ _ _ _ _ _ _ _ _ _ _ _ _ _ _ _ _ _ _ HB5.out⟩
        · have HOK := Aside0.mk (show overB c (lims.take (q + 1)) = false by rw [HTK.out, HOV.out]; simp [hgt])
          gi_wp2
          go_roundw
          case rel => exact ⟨q + 1, by omega, by go_num, HOK, HB5⟩
          case measure => simp [intOf]; omega
      · have hnb : decide ((rd_T101 lims (q : Int)).f1 < 0) = false := decide_eq_false hneg
        have HOK := Aside0.mk (show overB c (lims.take (q + 1)) = false by rw [HTK.out, HOV.out]; simp [hneg])
        refine start_ (n := 12) (S := fun w' => w'.cell? ⟨bx, 0, none⟩ = some (.int .i64 (rd_T101 lims (q : Int)).f0.f0) ∧ w'.cell? ⟨bx, 1, none⟩ = some (.slice A3 (rd_T101 lims (q : Int)).f0.f1.length c3) ∧ w'.cell? ⟨bx, 2, none⟩ = some (.int .i64 (rd_T101 lims (q : Int)).f1) ∧ w'.cell? ⟨bx, 3, none⟩ = some (.int .i64 (rd_T101 lims (q : Int)).f2) ∧ w'.cell? ⟨b8, 0, none⟩ = some (.slice Av c.length cv)) (ds := []) #[false, false, false, false, false, false, false, false, false, false, false, false] (by kernel_rfl) rfl rfl ⟨(blk_cell BX3.out 0).trans rfl, (blk_cell BX3.out 1).trans rfl, (blk_cell BX3.out 2).trans rfl, (blk_cell BX3.out 3).trans rfl, (blk_cell (HB3.out.block _ (blk_lt HK8.out) |>.trans HK8.out) 0).trans rfl⟩ (fun hHeld => ?_)
        refine pure_ (i := 0) (N := some 65) (v := ?_) (a' := ?_) #[true, false, false, false, false, false, false, false, false, false, false, false] rfl rfl (by kernel_rfl) (fun _ _ _ h => absurd rfl (And.left (show _ ∧ _ from h) _)) (Or.inl ⟨by rfl, ?_⟩) ?_ ?_
        rotate_left
        · intro w'
          go_simp
          with_reducible rfl
        rotate_left
        · simp only [Act.put, List.setIfInBounds_toArray, List.set_cons_zero, List.set_cons_succ, i64_w, i32_w]
          rfl
        refine take_ (i := 1) (N := some 66) (v := ?_) (a' := ?_) #[true, true, false, false, false, false, false, false, false, false, false, false] rfl rfl (by kernel_rfl) (fun _ _ _ h => absurd rfl (And.left (show _ ∧ _ from h) _)) (Or.inl ⟨by rfl, ?_⟩) hHeld ?_ ?_
        rotate_left
        · rintro w' ⟨s0, s1, s2, s3, s4⟩
          go_simp
          with_reducible rfl
        rotate_left
        · simp only [Act.put, List.setIfInBounds_toArray, List.set_cons_zero, List.set_cons_succ, i64_w, i32_w]
          rfl
        refine pure_ (i := 2) (N := some 67) (v := ?_) (a' := ?_) #[true, true, true, false, false, false, false, false, false, false, false, false] rfl rfl (by kernel_rfl) (fun _ _ _ h => absurd rfl (And.left (show _ ∧ _ from h) _)) (Or.inl ⟨by rfl, ?_⟩) ?_ ?_
        rotate_left
        · intro w'
          go_simp
          with_reducible rfl
        rotate_left
        · simp only [Act.put, List.setIfInBounds_toArray, List.set_cons_zero, List.set_cons_succ, i64_w, i32_w]
          rfl
        refine pure_ (i := 3) (N := some 68) (v := ?_) (a' := ?_) #[true, true, true, true, false, false, false, false, false, false, false, false] rfl rfl (by kernel_rfl) (fun _ _ _ h => absurd rfl (And.left (show _ ∧ _ from h) _)) (Or.inl ⟨by rfl, ?_⟩) ?_ ?_
        rotate_left
        · intro w'
          go_simp
          with_reducible rfl
        rotate_left
        · simp only [Act.put, List.setIfInBounds_toArray, List.set_cons_zero, List.set_cons_succ, i64_w, i32_w]
          rfl
        refine pure_ (i := 4) (N := some 69) (v := undef) (a' := ?_) #[true, true, true, true, true, false, false, false, false, false, false, false] rfl rfl (by kernel_rfl) (fun _ _ _ h => absurd rfl (And.left (show _ ∧ _ from h) _)) (Or.inr ⟨by rfl, rfl⟩) ?_ ?_
        rotate_left
        · simp only [Act.put, List.setIfInBounds_toArray, List.set_cons_zero, List.set_cons_succ, i64_w, i32_w]
          rfl
        refine pure_ (i := 5) (N := some 70) (v := undef) (a' := ?_) #[true, true, true, true, true, true, false, false, false, false, false, false] rfl rfl (by kernel_rfl) (fun _ _ _ h => absurd rfl (And.left (show _ ∧ _ from h) _)) (Or.inr ⟨by rfl, rfl⟩) ?_ ?_
        rotate_left
        · simp only [Act.put, List.setIfInBounds_toArray, List.set_cons_zero, List.set_cons_succ, i64_w, i32_w]
          rfl
        refine pure_ (i := 6) (N := some 71) (v := undef) (a' := ?_) #[true, true, true, true, true, true, true, false, false, false, false, false] rfl rfl (by kernel_rfl) (fun _ _ _ h => absurd rfl (And.left (show _ ∧ _ from h) _)) (Or.inr ⟨by rfl, rfl⟩) ?_ ?_
        rotate_left
        · simp only [Act.put, List.setIfInBounds_toArray, List.set_cons_zero, List.set_cons_succ, i64_w, i32_w]
          rfl
        refine pure_ (i := 7) (N := some 72) (v := undef) (a' := ?_) #[true, true, true, true, true, true, true, true, false, false, false, false] rfl rfl (by kernel_rfl) (fun _ _ _ h => absurd rfl (And.left (show _ ∧ _ from h) _)) (Or.inr ⟨by rfl, rfl⟩) ?_ ?_
        rotate_left
        · simp only [Act.put, List.setIfInBounds_toArray, List.set_cons_zero, List.set_cons_succ, i64_w, i32_w]
          rfl
        refine pure_ (i := 8) (N := some 73) (v := undef) (a' := ?_) #[true, true, true, true, true, true, true, true, true, false, false, false] rfl rfl (by kernel_rfl) (fun _ _ _ h => absurd rfl (And.left (show _ ∧ _ from h) _)) (Or.inr ⟨by rfl, rfl⟩) ?_ ?_
        rotate_left
        · simp only [Act.put, List.setIfInBounds_toArray, List.set_cons_zero, List.set_cons_succ, i64_w, i32_w]
          rfl
        refine pure_ (i := 9) (N := some 74) (v := undef) (a' := ?_) #[true, true, true, true, true, true, true, true, true, true, false, false] rfl rfl (by kernel_rfl) (fun _ _ _ h => absurd rfl (And.left (show _ ∧ _ from h) _)) (Or.inr ⟨by rfl, rfl⟩) ?_ ?_
        rotate_left
        · simp only [Act.put, List.setIfInBounds_toArray, List.set_cons_zero, List.set_cons_succ, i64_w, i32_w]
          rfl
        refine pure_ (i := 10) (N := some 75) (v := undef) (a' := ?_) #[true, true, true, true, true, true, true, true, true, true, true, false] rfl rfl (by kernel_rfl) (fun _ _ _ h => absurd rfl (And.left (show _ ∧ _ from h) _)) (Or.inr ⟨by rfl, rfl⟩) ?_ ?_
        rotate_left
        · simp only [Act.put, List.setIfInBounds_toArray, List.set_cons_zero, List.set_cons_succ, i64_w, i32_w]
          rfl
        refine pure_ (i := 11) (N := some 76) (v := ?_) (a' := ?_) #[true, true, true, true, true, true, true, true, true, true, true, true] rfl rfl (by kernel_rfl) (fun _ _ _ h => absurd rfl (And.left (show _ ∧ _ from h) _)) (Or.inl ⟨by rfl, ?_⟩) ?_ ?_
        rotate_left
        · intro w'
          go_simp
          with_reducible rfl
        rotate_left
        · simp only [Act.put, List.setIfInBounds_toArray, List.set_cons_zero, List.set_cons_succ, i64_w, i32_w]
          rfl
        refine done_ (by kernel_rfl) ?_
        gi_wp2
        go_roundw
        case rel => exact ⟨q + 1, by omega, by go_num, HOK, HB3⟩
        case measure => simp [intOf]; omega
    · have HOK := Aside0.mk (show overB c lims = false by have := HOV.out; rwa [List.take_of_length_le (by omega)] at this)
      gi_wp2
      exact ⟨(fun ch h => by cases h), HEX.out HOK.out wr _ _ _ _ _ _ _ _ _ _ _ _ _ _ _ _ _ _ _ _ _ _ _ _ _ _ _ _ _ _ _ _ _ _ _ _ _ _ _ _ _ _ _ _ _ _ _ _ _ _ _ _ _ _ _ _ _ _ _ _ _ _ _ _ _ _ _ _ _ _ HB.out⟩
end Go.Proofs.Ytbopadglafbdjaa.PX
