/- LevelSubsts in plain Lean. -/
import Derived.Test.YtbopadglafbdjaaMSb
import Derived.Test.YtbopadglafbdjaaPXxf14
set_option linter.unusedVariables false
set_option linter.unusedSimpArgs false
namespace Go.Proofs.Ytbopadglafbdjaa.M
open Go.RowKit Go.Proofs.Ytbopadglafbdjaa.PX Go.Proofs.YtbopadglafbdjaaW.PrintWords Go.Proofs.YtbopadglafbdjaaW.PrintLast Go.Proofs.YtbopadglafbdjaaW.PrintMore

def inL (args : List S43) (vals : List Int) : List Int := args.map fun a => evalR a.f0 a.f1 vals
theorem inL_rd (args : List S43) (vals : List Int) {i : Int} (h0 : 0 ≤ i) (h1 : i < (args.length : Int)) : rd (inL args vals) i = evalR (rd_T43 args i).f0 (rd_T43 args i).f1 vals := by
  have hlt : i.toNat < args.length := by omega
  simp [rd, rd_T43, inL, List.getD_eq_getElem?_getD, List.getElem?_map, List.getElem?_eq_getElem hlt]
theorem inL_val (args : List S43) {vals : List Int} (h : Low vals) {i : Int} (h0 : 0 ≤ i) (h1 : i < (args.length : Int)) : val (inL args vals) i = evalR (rd_T43 args i).f0 (rd_T43 args i).f1 vals := by
  unfold val
  rw [if_pos (by simpa [inL] using h1), inL_rd args vals h0 h1]
  have := (eval_bounds h (rd_T43 args i).f0 (rd_T43 args i).f1).1
  unfold mx; split <;> omega
/-- Up to a number: the running state, round by round. -/
theorem fold_upTo {args : List S43} (hA : args.all rightA = true) {vals : List Int} (h : Low vals) (c : Int) : ∀ (rest : List S62) (s : Int × List S62), Fit s → (∀ v ∈ rest, (0 ≤ v.f0 ∧ 0 ≤ v.f1) ∧ v.f0 < (args.length : Int)) →
    (UpTo vals c (rest.foldl (stp args) s).1 (rest.foldl (stp args) s).2 ↔ UpTo vals c s.1 s.2 ∧ ∀ v ∈ rest, evalR (rd_T43 args v.f0).f0 (rd_T43 args v.f0).f1 vals + v.f1 ≤ c)
  | [], s, _, _ => by simp
  | v :: rest, s, hs, hv => by
    have hv0 := hv v (by simp)
    have hr := arg_right hA hv0.1.1 hv0.2
    have q := (rightB_iff _ _).1 hr
    have g := (rightB_iff _ _).1 (right_can hr)
    rw [List.foldl_cons, fold_upTo hA h c rest _ (stp_fit hA hs hv0.1 hv0.2) (fun w hw => hv w (by simp [hw]))]
    simp only [List.forall_mem_cons]
    rw [← and_assoc]
    refine and_congr_left fun _ => ?_
    have he : evalR (rd_T43 args v.f0).f0 (rd_T43 args v.f0).f1 vals + v.f1 ≤ c ↔ aN args v.f0 + v.f1 ≤ c ∧ ∀ w ∈ aL args v.f0, val vals w.f0 + (w.f1 + v.f1) ≤ c := by
      rw [show (evalR (rd_T43 args v.f0).f0 (rd_T43 args v.f0).f1 vals + v.f1 ≤ c ↔ evalR (rd_T43 args v.f0).f0 (rd_T43 args v.f0).f1 vals ≤ c - v.f1) from by omega, evalR_le h _ _ _ hr, ← upTo_can vals _ _ _ q.1.1 (fun w hw => (q.2.2 w hw).2.1)]
      unfold UpTo
      refine and_congr (by simp only [aN]; omega) (forall_congr' fun w => forall_congr' fun hw => by omega)
    rw [he]
    unfold UpTo
    simp only [stp, List.mem_append, or_imp, forall_and, List.forall_mem_map, addV]
    have hside : aN args v.f0 = 0 → aL args v.f0 ≠ [] → (∀ w ∈ aL args v.f0, val vals w.f0 + (w.f1 + v.f1) ≤ c) → aN args v.f0 + v.f1 ≤ c := by
      intro h0 hne hall
      obtain ⟨w, hw⟩ := List.exists_mem_of_ne_nil _ hne
      have h1 := hall w hw
      have h2 := (g.2.2 w hw).2.1
      have h3 := val_nonneg vals w.f0
      omega
    have hnn : 0 ≤ aN args v.f0 := g.1.1
    by_cases d : aN args v.f0 + v.f1 > s.1 ∧ (aN args v.f0 > 0 ∨ aL args v.f0 = [])
    · simp only [d, and_self, if_true]
      constructor
      · rintro ⟨a, b, e⟩; exact ⟨⟨by omega, b⟩, a, e⟩
      · rintro ⟨⟨a, b⟩, e, f⟩; exact ⟨e, b, f⟩
    · rw [if_neg d]
      constructor
      · rintro ⟨a, b, e⟩
        refine ⟨⟨a, b⟩, ?_, e⟩
        by_cases d1 : aN args v.f0 + v.f1 > s.1
        · have d2 : ¬ (aN args v.f0 > 0 ∨ aL args v.f0 = []) := fun x => d ⟨d1, x⟩
          exact hside (by have : ¬ aN args v.f0 > 0 := fun x => d2 (.inl x); omega) (fun x => d2 (.inr x)) e
        · omega
      · rintro ⟨⟨a, b⟩, e, f⟩; exact ⟨a, b, f⟩
theorem val_le {vals : List Int} (h : ∀ v ∈ vals, v ≤ 1000000) (i : Int) : val vals i ≤ 1000000 := by
  unfold val mx
  rcases rd_mem vals i with e | e
  · rw [e]; split <;> (try split) <;> omega
  · have := h _ e; split <;> (try split) <;> omega
theorem subst_eval {vals : List Int} (h1 : ∀ v ∈ vals, v ≤ 1000000) (h : Low vals) (N : Int) (l : List S62) (args : List S43) (ho : (substR N l args).2.2 = 0) :
    evalR (substR N l args).1 (substR N l args).2.1 vals = evalR N l (inL args vals) := by
  unfold substR at ho ⊢
  cases r1 : rightB N l
  · rw [r1] at ho; simp at ho
  · rw [r1] at ho
    simp only [if_true] at ho ⊢
    cases hA : args.all rightA
    · rw [hA] at ho; simp at ho
    · rw [hA] at ho
      simp only [if_true] at ho ⊢
      unfold tailR at ho ⊢
      cases hI : (can l).all (inB args)
      · rw [hI] at ho; simp at ho
      · rw [hI] at ho
        simp only [if_true] at ho ⊢
        have q := (rightB_iff _ _).1 r1
        have g := (rightB_iff _ _).1 (right_can r1)
        have hin : ∀ v ∈ can l, (0 ≤ v.f0 ∧ 0 ≤ v.f1) ∧ v.f0 < (args.length : Int) := fun v hv => ⟨⟨(g.2.2 v hv).1.1, (g.2.2 v hv).2.1⟩, by
          have := List.all_eq_true.1 hI v hv; simpa [inB] using this⟩
        have hfit : Fit (zN N (can l), []) := ⟨by simp only; omega, by simp⟩
        have hf := (fold_grow hA (can l) _ hfit hin).1
        obtain ⟨e, hr⟩ := toldR_ok ho
        rw [e]
        simp only
        have hlow : Low (inL args vals) := fun v hv => by
          obtain ⟨a, ha, rfl⟩ := List.mem_map.1 hv
          have hr := List.all_eq_true.1 hA a ha
          have hq := (rightB_iff _ _).1 hr
          have := (evalR_le h 1001000 _ _ hr).2 ⟨by omega, fun v hv => by have := val_le h1 v.f0; have := (hq.2.2 v hv).2; omega⟩
          omega
        refine le_ext fun c => ?_
        rw [evalR_le h c _ _ hr, upTo_can _ _ _ _ hf.n (fun v hv => (hf.v v hv).2), fold_upTo hA h c (can l) _ hfit hin, evalR_le hlow c _ _ r1, ← upTo_can _ _ _ _ q.1.1 (fun v hv => (q.2.2 v hv).2.1)]
        unfold UpTo
        simp only [List.not_mem_nil, false_imp_iff, implies_true, and_true]
        refine and_congr_right fun _ => forall_congr' fun v => forall_congr' fun hv => ?_
        rw [inL_val args h (hin v hv).1.1 (hin v hv).2]
theorem at_i {xs pre rest : List Int} {v : Int} (h : xs = pre ++ v :: rest) (hl : xs.length ≤ 1000000000000) :
    ((pre.length : Int) < (xs.length : Int)) = True ∧ ((0 : Int) ≤ (pre.length : Int)) = True ∧ rd xs (pre.length : Int) = v ∧ wrap64 ((pre.length : Int) + 1) = ((pre ++ [v]).length : Int) ∧ xs = (pre ++ [v]) ++ rest := by
  subst h
  simp only [List.length_append, List.length_cons] at hl
  refine ⟨by simp; omega, by simp, by simp [rd, List.getD_eq_getElem?_getD], ?_, by simp⟩
  unfold wrap64; simp only [List.length_append, List.length_cons, List.length_nil]; omega
theorem at_i_end {xs pre : List Int} (h : xs = pre ++ []) : ((pre.length : Int) < (xs.length : Int)) = False := by subst h; simp
theorem args_len {args : List S43} (h : ∀ a ∈ args, a.f1.length ≤ 200) (i : Int) : (rd_T43 args i).f1.length ≤ 1000000 := by
  unfold rd_T43
  rw [List.getD_eq_getElem?_getD]
  cases e : args[i.toNat]? with
  | none => simp [z43]
  | some a => have := h a (List.mem_of_getElem? e); simp; omega
theorem tailR_len (args : List S43) (s : Int × List S62) (r : List S62) : (tailR args s r).2.1.length ≤ 64 := by
  unfold tailR; split
  · exact toldR_len _ _
  · simp
theorem toldR_len' (N : Int) (l : List S62) : (toldR N l).2.1.length ≤ 64 := toldR_len N l
theorem substR_len (N : Int) (l : List S62) (args : List S43) : (substR N l args).2.1.length ≤ 64 := by
  unfold substR
  repeat' split
  all_goals first | exact tailR_len _ _ _ | simp
theorem substs_l1 (N : Int) (l : List S62) (args : List S43) (vals : List Int) (hl : l.length ≤ 200) (hal : args.length ≤ 100) (hvl : vals.length ≤ 100) (ha : ∀ a ∈ args, a.f1.length ≤ 200) : ∀ rest pre, vals = pre ++ rest → (∀ v ∈ pre, v ≤ 1000000) →
    Ev (fun k => telamonlaw1_LevelSubsts.l1 k args vals (inL args vals) (pre.length : Int) N l) true
  | [], pre, h, hp => Ev.succ (by
    simp only [telamonlaw1_LevelSubsts.l1, at_i_end h, if_false, telamonlaw1_num.f, Option.bind_some]
    have h1 : ∀ v ∈ vals, v ≤ 1000000 := fun v hv => hp v (by rw [h] at hv; simpa using hv)
    have hlow : Low vals := fun v hv => by have := h1 v hv; omega
    refine Ev.bind (subst_is N l args (by omega) (by omega) (args_len ha)) (Ev.bind (rsubst_is N l args (by omega) (by omega) (args_len ha)) ?_)
    simp only [if_true]
    have hlen := substR_len N l args
    refine Ev.bind (exact_self _ _ (by omega)) ?_
    refine Ev.succ ?_
    simp only [telamonlaw1_LevelSubsts.j3, Bool.not_true, Bool.false_eq_true, if_false]
    by_cases c : (substR N l args).2.2 = 0
    · simp only [c, if_true]
      refine Ev.bind (eval_is _ _ vals (by omega)) (Ev.bind (reval_is N l _ (by omega)) ?_)
      rw [subst_eval h1 hlow N l args c]
      exact (Ev.pure _).eq (by simp)
    · simp only [c, if_false]; exact Ev.pure _)
  | v :: rest, pre, h, hp => Ev.succ (by
    obtain ⟨h1, h2, h3, h4, h5⟩ := at_i h (by omega)
    simp only [telamonlaw1_LevelSubsts.l1, h1, h2, h3, h4, if_true]
    by_cases c : v > 1000000
    · simp only [c, if_true]; exact Ev.pure _
    · simp only [c, if_false]
      exact substs_l1 N l args vals hl hal hvl ha rest _ h5 (fun w hw => by
        rcases List.mem_append.1 hw with hw | hw
        · exact hp w hw
        · simp at hw; subst hw; omega))
theorem substs_l0 (N : Int) (l : List S62) (args : List S43) (vals : List Int) (hl : l.length ≤ 200) (hal : args.length ≤ 100) (hvl : vals.length ≤ 100) : ∀ rest pre, args = pre ++ rest → (∀ a ∈ pre, a.f1.length ≤ 200) →
    Ev (fun k => telamonlaw1_LevelSubsts.l0 k args vals (inL pre vals) (pre.length : Int) N l) true
  | [], pre, h, hp => Ev.succ (by
    simp only [telamonlaw1_LevelSubsts.l0, at_lv_end h, if_false]
    have e : pre = args := by simpa using h.symm
    subst e
    exact substs_l1 N l pre vals hl hal hvl hp vals [] rfl (by simp))
  | v :: rest, pre, h, hp => Ev.succ (by
    obtain ⟨h1, h2, h3, h4, h5⟩ := at_lv h (by omega)
    simp only [telamonlaw1_LevelSubsts.l0, h1, h2, h3, h4, if_true, telamonlaw1_big.f, Option.bind_some, decide_eq_true_eq]
    by_cases c : (v.f1.length : Int) > 200
    · simp only [c, if_true]; exact Ev.pure _
    · simp only [c, if_false]
      have hlen : (inL pre vals).length < 17592186044416 := by
        have : args.length = pre.length + (rest.length + 1) := by rw [h]; simp
        simp only [inL, List.length_map]; omega
      refine Ev.bind (reval_is v.f0 v.f1 vals (by omega)) ?_
      simp only [hlen, if_true]
      have := substs_l0 N l args vals hl hal hvl rest _ h5 (fun w hw => by
        rcases List.mem_append.1 hw with hw | hw
        · exact hp w hw
        · simp at hw; subst hw; omega)
      simpa [inL] using this)
theorem Substs (N : Int) (l : List S62) (args : List S43) (vals : List Int) : Ev (fun k => telamonlaw1_LevelSubsts.f k N l args vals) true := by
  simp only [telamonlaw1_LevelSubsts.f, telamonlaw1_alive.f, Option.bind_some, if_true, telamonlaw1_big.f, decide_eq_true_eq]
  have hb : Ev (fun k => telamonlaw1_LevelSubsts.j0 k args vals true true N l) true := Ev.succ (by simp only [telamonlaw1_LevelSubsts.j0, if_true]; exact Ev.pure _)
  by_cases c1 : (l.length : Int) > 200
  · simp only [c1, if_true]; exact hb
  · simp only [c1, if_false]
    by_cases c2 : (args.length : Int) > 100
    · simp only [c2, if_true]; exact hb
    · simp only [c2, if_false]
      by_cases c3 : (vals.length : Int) > 100
      · simp only [c3, decide_true]; exact hb
      · simp only [c3, decide_false]
        refine Ev.succ ?_
        simp only [telamonlaw1_LevelSubsts.j0, Bool.false_eq_true, if_false]
        exact substs_l0 N l args vals (by omega) (by omega) (by omega) args [] rfl (by simp)
end Go.Proofs.Ytbopadglafbdjaa.M
