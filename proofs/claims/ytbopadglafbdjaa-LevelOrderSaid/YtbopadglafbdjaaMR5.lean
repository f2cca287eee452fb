/- Two levels that are one. -/
import Derived.Test.YtbopadglafbdjaaMR1
import Derived.Test.YtbopadglafbdjaaPXxf55
set_option linter.unusedVariables false
set_option linter.unusedSimpArgs false
namespace Go.Proofs.Ytbopadglafbdjaa.M
open Go.RowKit Go.Proofs.Ytbopadglafbdjaa.PX Go.Proofs.YtbopadglafbdjaaW.PrintWords Go.Proofs.YtbopadglafbdjaaW.PrintLast Go.Proofs.YtbopadglafbdjaaW.PrintMore

theorem same_l0 (xs ys : List S62) (hl : xs.length ≤ 1000000) (he : xs.length = ys.length) : ∀ rest rest' pre pre', xs = pre ++ rest → ys = pre' ++ rest' → pre.length = pre'.length →
    Ev (fun k => api_LVar.l0 k xs ys (xs.length : Int) (pre.length : Int)) (eqL rest rest')
  | [], rest', pre, pre', h, h', hp => Ev.succ (by
    simp only [api_LVar.l0, at_end h, if_false]
    have : rest' = [] := by
      have e1 : xs.length = pre.length := by rw [h]; simp
      have e2 : ys.length = pre'.length + rest'.length := by rw [h']; simp
      exact List.eq_nil_of_length_eq_zero (by omega)
    subst this
    exact Ev.pure _)
  | v :: rest, rest', pre, pre', h, h', hp => Ev.succ (by
    have e1 : xs.length = pre.length + (rest.length + 1) := by rw [h]; simp
    have e2 : ys.length = pre'.length + rest'.length := by rw [h']; simp
    cases rest' with
    | nil => simp at e2; omega
    | cons w rest' =>
      obtain ⟨h1, h2, h3, h4, h5⟩ := at_split h (by omega)
      obtain ⟨g1, g2, g3, g4, g5⟩ := at_split h' (by omega)
      rw [← hp] at g1 g3
      simp only [api_LVar.l0, h1, h2, h3, h4, g1, g3, if_true]
      by_cases c : (!v.f0 == w.f0 || !v.f1 == w.f1) = true
      · simp only [c, if_true]
        refine (Ev.pure _).eq ?_
        simp only [eqL]
        cases e0 : (v.f0 == w.f0) <;> cases e1 : (v.f1 == w.f1) <;> simp [e0, e1] at c ⊢
      · simp only [c, if_false]
        refine (same_l0 xs ys hl he rest rest' _ (pre' ++ [w]) h5 g5 (by simp [hp])).eq ?_
        simp only [eqL]
        cases e0 : (v.f0 == w.f0) <;> cases e1 : (v.f1 == w.f1) <;> simp [e0, e1] at c ⊢)
theorem equal_is (a b : List S62) (hl : a.length ≤ 1000000) : Ev (fun k => api_LVar.f k a b) (eqL a b) := by
  unfold api_LVar.f
  by_cases h : (a.length : Int) = (b.length : Int)
  · simp only [h, if_true]
    have := same_l0 a b hl (by omega) a b [] [] rfl rfl rfl
    rw [h] at this
    exact this
  · simp only [h, if_false]
    refine (Ev.pure _).eq ?_
    cases e : eqL a b
    · rfl
    · rw [eqL_iff] at e; subst e; exact absurd rfl h
/-! ### One -/
def sameR (N : Int) (l : List S62) (M : Int) (m : List S62) : Bool := (rightB N l && rightB M m) && ((zN N (can l) == zN M (can m)) && eqL (can l) (can m))
theorem same_is (N : Int) (l : List S62) (M : Int) (m : List S62) (hl : l.length ≤ 1000000) (hm : m.length ≤ 1000000) : Ev (fun k => level_Same.f k N l M m) (sameR N l M m) := by
  unfold level_Same.f
  refine Ev.bind (Norm_is N l (by omega)) ?_
  unfold normR sameR
  cases h : rightB N l
  · exact Ev.pure _
  · simp only [if_true]
    refine Ev.bind (Norm_is M m (by omega)) ?_
    unfold normR
    cases g : rightB M m
    · exact Ev.pure _
    · simp only [if_true, Bool.and_self, Bool.true_and]
      by_cases c : zN N (can l) = zN M (can m)
      · simp only [c, if_true, beq_self_eq_true, Bool.true_and]
        exact Ev.bind (equal_is (can l) (can m) (by have := can_len l; omega)) (Ev.pure _)
      · simp only [c, if_false]
        refine (Ev.pure _).eq ?_
        simp [c]
/-- Both ways at most: one. -/
theorem leq_both (N M : Int) (l m : List S62) : (leqR N l M m && leqR M m N l) = sameR N l M m := by
  refine Bool.eq_iff_iff.2 ?_
  unfold leqR sameR
  cases h : rightB N l
  · simp
  · cases g : rightB M m
    · simp
    · have hr := (rightB_iff _ _).1 (right_can h)
      have gr := (rightB_iff _ _).1 (right_can g)
      rw [leqB_is _ _ _ _ (fun v hv => (hr.2.2 v hv).1.1), leqB_is _ _ _ _ (fun v hv => (gr.2.2 v hv).1.1)]
      simp only [Bool.true_and, Bool.and_true, Bool.and_self, Bool.and_eq_true, decide_eq_true_eq, List.all_eq_true, beq_iff_eq, eqL_iff, topF_le]
      constructor
      · rintro ⟨⟨a1, a2⟩, b1, b2⟩
        have hsub : ∀ x ∈ can l, x ∈ can m := by
          intro x hx
          obtain ⟨y, hy, hq⟩ := List.any_eq_true.1 (a2 x hx)
          obtain ⟨z, hz, hq'⟩ := List.any_eq_true.1 (b2 y hy)
          simp only [Bool.and_eq_true, beq_iff_eq, decide_eq_true_eq] at hq hq'
          have := (can_ss l).one hx hz (by omega)
          subst this
          have : x = y := S62.ext hq.1 (by omega)
          exact this ▸ hy
        have hsub' : ∀ x ∈ can m, x ∈ can l := by
          intro x hx
          obtain ⟨y, hy, hq⟩ := List.any_eq_true.1 (b2 x hx)
          obtain ⟨z, hz, hq'⟩ := List.any_eq_true.1 (a2 y hy)
          simp only [Bool.and_eq_true, beq_iff_eq, decide_eq_true_eq] at hq hq'
          have := (can_ss m).one hx hz (by omega)
          subst this
          have : x = y := S62.ext hq.1 (by omega)
          exact this ▸ hy
        have e : can l = can m := (can_ss l).ext (can_ss m) fun x => ⟨hsub x, hsub' x⟩
        refine ⟨?_, e⟩
        rw [← e] at a1 b1 gr ⊢
        rcases zN_cases N (can l) with ⟨e1, v1, q1, q2⟩ | ⟨e1, q1⟩ <;> rcases zN_cases M (can l) with ⟨e2, v2, r1, r2⟩ | ⟨e2, r1⟩
        · omega
        · rcases b1 with b1 | ⟨v, hv, b1⟩
          · have := gr.1.1; omega
          · have := r1 v hv; omega
        · rcases a1 with a1 | ⟨v, hv, a1⟩
          · have := hr.1.1; omega
          · have := q1 v hv; omega
        · rcases a1 with a1 | ⟨v, hv, a1⟩
          · rcases b1 with b1 | ⟨v, hv, b1⟩
            · omega
            · have := r1 v hv; omega
          · have := q1 v hv; omega
      · rintro ⟨e1, e2⟩
        rw [e1, e2]
        have hs : ∀ x ∈ can m, holdB (can m) x = true := fun x hx => List.any_eq_true.2 ⟨x, hx, by simp⟩
        exact ⟨⟨.inl (Int.le_refl _), hs⟩, .inl (Int.le_refl _), hs⟩
end Go.Proofs.Ytbopadglafbdjaa.M
