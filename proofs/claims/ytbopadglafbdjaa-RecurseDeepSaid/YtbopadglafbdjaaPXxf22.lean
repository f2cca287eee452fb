-- by wip/tools/gprint.py of this session over the kit's print; given functions are this session's own text
import Derived.Test.YtbopadglafbdjaaPXx0
import Derived.RangeFuncNested
import Derived.RangeFuncBound
import Derived.RangeFuncCalls
import Derived.RangeFuncLeaves
import Derived.OwnWalkIn
import Derived.TacticsInMore
import Derived.LoopNIn
import Derived.LoopIn
namespace Go.Proofs.Ytbopadglafbdjaa.PX
open Go.RowKit Go.Proofs.YtbopadglafbdjaaW.PrintWords Go.Proofs.YtbopadglafbdjaaW.PrintLast Go.Proofs.YtbopadglafbdjaaW.PrintMore
attribute [local go_sem] max2_int min2_int max_two min_two max_three min_three max_four min_four   -- for this text's walks alone
set_option linter.unusedVariables false
set_option linter.unusedSimpArgs false

/-! ### recurse_Vars: function 22 -/
-- GIVEN
-- IMPORTS Derived.RangeFuncNested,Derived.RangeFuncBound,Derived.RangeFuncCalls,Derived.RangeFuncLeaves,Derived.OwnWalkIn,Derived.TacticsInMore,Derived.LoopNIn,Derived.LoopIn
set_option linter.unusedVariables false
set_option linter.unusedSimpArgs false
attribute [local go_sem] Oper.semAt_some

mutual
/-- A counter behind a pattern. -/
def cP (n : Int) : S36 → Int
  | ⟨f, _, kids⟩ => if f = 1 then wrap64 (n + 1) else if f = 2 then cL n kids else n
/-- A counter behind patterns. -/
def cL (n : Int) : List S36 → Int
  | [] => n
  | p :: l => cL (cP n p) l
end
theorem cL_snoc (l : List S36) (p : S36) : ∀ n, cL n (l ++ [p]) = cP (cL n l) p := by
  induction l with
  | nil => intro n; simp [cL]
  | cons q l ih => intro n; simp only [List.cons_append, cL]; exact ih _
theorem cL_take {l : List S36} {q : Nat} (h : q < l.length) (n : Int) : cL n (l.take (q + 1)) = cP (cL n (l.take q)) (rd_T36 l (q : Int)) := by
  rw [List.take_succ_eq_append_getElem h, cL_snoc]
  congr 1
  simp [rd_T36, List.getD_eq_getElem?_getD, List.getElem?_eq_getElem h]
theorem cP_one {n : Int} {p : S36} (h : p.f0 = 1) : cP n p = wrap64 (n + 1) := by cases p; simp only [cP]; rw [if_pos h]
theorem cP_two {n : Int} {p : S36} (h : p.f0 = 2) : cP n p = cL n p.f2 := by
  cases p with
  | mk f s k => simp only at h; subst h; simp only [cP]; simp
theorem cP_else {n : Int} {p : S36} (h : ¬ p.f0 = 1) (h2 : ¬ p.f0 = 2) : cP n p = n := by cases p; simp only [cP]; rw [if_neg h, if_neg h2]
theorem size_kid {l : List S36} {q : Nat} (h : q < l.length) : SizeOf.sizeOf (rd_T36 l (q : Int)).f2 < SizeOf.sizeOf l := by
  have e : rd_T36 l (q : Int) = l[q] := by simp [rd_T36, List.getD_eq_getElem?_getD, List.getElem?_eq_getElem h]
  rw [e]
  have h1 : SizeOf.sizeOf l[q] < SizeOf.sizeOf l := List.sizeOf_lt_of_mem (List.getElem_mem h)
  have h2 : SizeOf.sizeOf (l[q]).f2 < SizeOf.sizeOf l[q] := by cases l[q] with | mk f s k => simp; omega
  omega
set_option maxHeartbeats 4000000 in
set_option maxRecDepth 100000 in
theorem counter_all.calls : ∀ (s : Nat) (l : List S36), SizeOf.sizeOf l ≤ s → ∀ (B : Nat) (A : Option Addr) (c : Nat) (n : Int) (w0 w : World), Kd.C k36 w0 A l.length l → l.length ≤ c → w0.heap.size ≤ B → Below w0.heap.size w0 w → w.heap[B]? = some (.cells #[.int .i64 n] 87 (0, 0)) →
    Calls Try.prog 65 #[.pointer (some ⟨B, 0, none⟩), .slice A l.length c] w fun e w' => (∃ v, e = .returned v) ∧ w'.heap[B]? = some (.cells #[.int .i64 (cL n l)] 87 (0, 0)) ∧ Below w0.heap.size w0 w' := by
  intro s
  induction s with
  | zero => intro l hl; exfalso; cases l <;> simp at hl
  | succ s ih =>
    intro l hl B A c n w0 w hr hc hB hb hbx
    have HR := Aside0.mk hr
    have HC := Aside0.mk hc
    have HB := Aside0.mk hb
    have HX := Aside0.mk hbx
    have hcl : l.length ≤ 9223372036854775807 := Kd.C_max hr
    have hu36 := Try.underlying36
    have hu87 := Try.underlying87
    clear hr hc hb hbx
    refine (callsIn_wide (n := 6)).1 ?_
    refine callsIn_of_wp Try.func65 rfl trivial ?_ rfl
    simp only [Try.ntmps65, List.size_toArray, List.length_cons, List.length_nil, Nat.reduceAdd, Nat.reduceSub, Array.replicate_succ, Array.replicate_zero, List.push_toArray, List.append_toArray, List.nil_append, List.cons_append]
    gi_wp2
    gi_loopw [11] (fun i wr => ∃ q : Nat, q ≤ l.length ∧ i = .int .i64 (q : Int) ∧ Aside0 (wr.heap[B]? = some (.cells #[.int .i64 (cL n (l.take q))] 87 (0, 0))) ∧ Aside0 (Below w0.heap.size w0 wr))
      (fun i _ => l.length - (intOf i).toNat)
    case atStart => exact ⟨0, Nat.zero_le _, rfl, ⟨by simpa [cL] using HX.out⟩, HB⟩
    case round =>
      obtain ⟨q, hq, rfl, HXq, HBq⟩ := hrel
      by_cases hlt : q < l.length
      · obtain ⟨ad, A2, c2, rfl, hx0, hx1, hx2, hl2, hi2⟩ := at_T36 HR.out (q : Int) (by omega) (by omega)
        simp only [Int.toNat_natCast] at hx0 hx1 hx2
        replace hx0 := (HBq.out.cell (World.block_lt_of_cell? w0 _ hx0)).trans hx0
        replace hx1 := (HBq.out.cell (World.block_lt_of_cell? w0 _ hx1)).trans hx1
        replace hx2 := (HBq.out.cell (World.block_lt_of_cell? w0 _ hx2)).trans hx2
        have HL2 := Aside0.mk hl2
        have HTK := Aside0.mk (cL_take hlt n)
        have HSZ := Aside0.mk (size_kid hlt)
        clear hl2
        have HB2 := Aside0.mk (HBq.out.alloc HBq.out.size (.cells #[.int .i64 (rd_T36 l (q : Int)).f0, .string (rd_T36 l (q : Int)).f1, .slice A2 (rd_T36 l (q : Int)).f2.length c2] 36))
        have HX2 := Aside0.mk (blk_alloc HXq.out (.cells #[.int .i64 (rd_T36 l (q : Int)).f0, .string (rd_T36 l (q : Int)).f1, .slice A2 (rd_T36 l (q : Int)).f2.length c2] 36))
        have hcB : (wr.alloc (.cells #[.int .i64 (rd_T36 l (q : Int)).f0, .string (rd_T36 l (q : Int)).f1, .slice A2 (rd_T36 l (q : Int)).f2.length c2] 36)).cell? ⟨B, 0, none⟩ = some (.int .i64 (cL n (l.take q))) := (blk_cell HX2.out 0).trans rfl
        have hfB := blk_frozen HX2.out 0
        have hltB := blk_lt HXq.out
        have hneB : B ≠ wr.heap.size := by omega
        have hneB' := Ne.symm hneB
        clear hltB
        by_cases h1 : (rd_T36 l (q : Int)).f0 = 1
        · have HP := Aside0.mk (cP_one (n := cL n (l.take q)) h1)
          rw [h1] at HX2 HB2 hcB hfB
          gi_wp2
          go_roundw
          case rel => exact ⟨q + 1, by omega, by go_num, ⟨by rw [HTK.out, HP.out]; exact blk_put HX2.out 0 _ rfl⟩, ⟨HB2.out.setCell (p := ⟨B, 0, none⟩) hB _⟩⟩
          case measure => simp [intOf]; omega
        · by_cases h2 : (rd_T36 l (q : Int)).f0 = 2
          · have HP := Aside0.mk (cP_two (n := cL n (l.take q)) h2)
            rw [h2] at HX2 HB2 hcB hfB
            have IH := Aside0.mk (ih (rd_T36 l (q : Int)).f2 (by have := HSZ.out; omega) B A2 c2 (cL n (l.take q)) w0 _ hi2 HL2.out hB HB2.out HX2.out)
            clear hcB hfB hneB hneB' hi2
            gi_wp2_with fail
            refine ⟨trivial, ?_⟩
            refine (callsIn_wide.2 IH.out).mono ?_
            rintro e w2 ⟨⟨v, rfl⟩, hx2', hb2⟩
            have HX3 := Aside0.mk hx2'
            have HB3 := Aside0.mk hb2
            clear hx2' hb2
            gi_wp2
            go_roundw
            case rel => exact ⟨q + 1, by omega, by go_num, ⟨by rw [HTK.out, HP.out]; exact HX3.out⟩, HB3⟩
            case measure => simp [intOf]; omega
          · have HP := Aside0.mk (cP_else (n := cL n (l.take q)) h1 h2)
            gi_wp2
            go_roundw
            case rel => exact ⟨q + 1, by omega, by go_num, ⟨by rw [HTK.out, HP.out]; exact HX2.out⟩, HB2⟩
            case measure => simp [intOf]; omega
      · gi_wp2
        go_end0
        exact ⟨⟨_, rfl⟩, by have := HXq.out; rwa [List.take_of_length_le (by omega)] at this, HBq.out⟩
/-- How many variables patterns have. -/
def recurse_Vars.f (l0 : List S36) : Option Int := some (cL 0 l0)
set_option maxHeartbeats 4000000 in
set_option maxRecDepth 100000 in
theorem recurse_Vars.calls (A0 : Option Addr) (c0 : Nat) (l0 : List (S36)) (r : Int) (w : World) (hr0 : Kd.C k36 w A0 l0.length l0) (hc0 : l0.length ≤ c0) (h : recurse_Vars.f l0 = some r) :
    Calls Try.prog 22 #[.slice A0 l0.length c0] w fun e w' => e = .returned (.int .i64 r) ∧ Below w.heap.size w w' := by
  obtain rfl := Option.some.inj h
  clear h
  have HR := Aside0.mk hr0
  have HC := Aside0.mk hc0
  have hu87 := Try.underlying87
  clear hr0 hc0
  refine (callsIn_wide (n := 6)).1 ?_
  refine callsIn_of_wp Try.func22 rfl trivial ?_ rfl
  simp only [Try.ntmps22, List.size_toArray, List.length_cons, List.length_nil, Nat.reduceAdd, Nat.reduceSub, Array.replicate_succ, Array.replicate_zero, List.push_toArray, List.append_toArray, List.nil_append, List.cons_append]
  gi_wp2_with fail
  refine ⟨trivial, ?_⟩
  refine (callsIn_wide.2 (counter_all.calls _ l0 (Nat.le_refl _) w.heap.size A0 c0 0 w _ HR.out HC.out (Nat.le_refl _) (below_alloc (Below.refl _ _) _) (blk_new w _))).mono ?_
  rintro e w2 ⟨⟨v, rfl⟩, hx, hb⟩
  have HX := Aside0.mk hx
  have HB := Aside0.mk hb
  have hcB : w2.cell? ⟨w.heap.size, 0, none⟩ = some (.int .i64 (cL 0 l0)) := (blk_cell hx 0).trans rfl
  clear hx hb
  gi_wp2
  go_ret
  exact ⟨rfl, HB.out⟩

end Go.Proofs.Ytbopadglafbdjaa.PX
