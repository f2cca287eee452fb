/- LevelSteps in plain Lean. -/
import Derived.Test.YtbopadglafbdjaaMP
import Derived.Test.YtbopadglafbdjaaPXxf12
set_option linter.unusedVariables false
set_option linter.unusedSimpArgs false
namespace Go.Proofs.Ytbopadglafbdjaa.M
open Go.RowKit Go.Proofs.Ytbopadglafbdjaa.PX Go.Proofs.YtbopadglafbdjaaW.PrintWords Go.Proofs.YtbopadglafbdjaaW.PrintLast Go.Proofs.YtbopadglafbdjaaW.PrintMore

theorem suc_one (a n : Int) (ha : 0 ≤ a ∧ a ≤ 1000) (hn : 0 ≤ n ∧ n ≤ 1200) : sucR 0 [⟨3, a⟩] n = if a + n ≤ 1000 then (0, [⟨3, a + n⟩], 0) else (0, [], 13) := by
  have h1 : rightB 0 [⟨3, a⟩] = true := by rw [rightB_iff]; refine ⟨by omega, by simp, ?_⟩; intro v hv; simp at hv; subst hv; simp only; omega
  unfold sucR
  rw [if_pos h1, if_neg (by omega)]
  by_cases c : n > 1000
  · rw [if_pos c, if_neg (by omega)]
  · rw [if_neg c, can_one]
    unfold toldR
    simp only [List.map_cons, List.map_nil, addV, can_one]
    have h2 : zN (zN 0 [⟨3, a⟩] + n) [⟨3, a + n⟩] = 0 := by
      rw [zN_zero]
      rcases zN_cases (0 + n) [⟨3, a + n⟩] with h | ⟨_, h⟩
      · exact h.1
      · have := h ⟨3, a + n⟩ (by simp); simp only at this; omega
    rw [h2]
    by_cases c2 : a + n ≤ 1000
    · have h3 : rightB 0 [⟨3, a + n⟩] = true := by rw [rightB_iff]; refine ⟨by omega, by simp, ?_⟩; intro v hv; simp at hv; subst hv; simp only; omega
      rw [if_pos h3, if_pos c2]
    · have h3 : ¬ rightB 0 [⟨3, a + n⟩] = true := by rw [rightB_iff]; rintro ⟨_, _, h⟩; have := h ⟨3, a + n⟩ (by simp); simp only at this; omega
      rw [if_neg h3, if_neg c2]
theorem steps_l0 (n fr : Int) (hn : 0 ≤ n ∧ n ≤ 1200) (hf : 0 ≤ fr ∧ fr ≤ 1000) : ∀ (r : Nat) (i : Int), n - i = r → 0 ≤ i → fr + i ≤ 1000 → Ev (fun k => telamonlaw1_LevelSteps.l0 k n fr i 0 [⟨3, fr + i⟩]) true := by
  intro r
  induction r with
  | zero =>
    intro i hi h0 h1
    refine Ev.succ ?_
    have e : i = n := by omega
    subst e
    simp only [telamonlaw1_LevelSteps.l0, show ¬ i < i by omega, if_false, telamonlaw1_V.f, telamonlaw1_num.f, Option.bind_some, wr (fr + i) (by omega) (by omega)]
    refine Ev.bind (suc_is 0 [⟨3, fr⟩] i (by simp)) ?_
    rw [suc_one fr i hf (by omega), if_pos h1]
    simp only [if_true]
    refine Ev.bind (exact_self _ _ (by simp)) ?_
    simp only [if_true]
    exact Ev.bind (exact_self _ _ (by simp)) (Ev.pure _)
  | succ r ih =>
    intro i hi h0 h1
    refine Ev.succ ?_
    simp only [telamonlaw1_LevelSteps.l0, show i < n by omega, if_true, telamonlaw1_num.f, Option.bind_some, wr (fr + i) (by omega) (by omega), wr (fr + i + 1) (by omega) (by omega), wr (i + 1) (by omega) (by omega)]
    refine Ev.bind (suc_is 0 [⟨3, fr + i⟩] 1 (by simp)) ?_
    rw [suc_one (fr + i) 1 (by omega) (by omega)]
    by_cases c : fr + i + 1 ≤ 1000
    · simp only [show ¬ fr + i + 1 > 1000 by omega, if_false, if_pos c, if_true]
      have := ih (i + 1) (by omega) (by omega) (by omega)
      rwa [← Int.add_assoc] at this
    · simp only [show fr + i + 1 > 1000 by omega, if_true, if_neg c, List.length_nil]
      exact Ev.pure _
theorem Steps (n fr : Int) : Ev (fun k => telamonlaw1_LevelSteps.f k n fr) true := by
  simp only [telamonlaw1_LevelSteps.f, telamonlaw1_alive.f, Option.bind_some, if_true]
  have hb : Ev (fun k => telamonlaw1_LevelSteps.j0 k n fr true true) true := Ev.succ (by simp only [telamonlaw1_LevelSteps.j0, if_true]; exact Ev.pure _)
  by_cases c1 : n < 0
  · simp only [c1, if_true]; exact hb
  · by_cases c2 : n > 1200
    · simp only [c1, c2, if_true, if_false]; exact hb
    · by_cases c3 : fr < 0
      · simp only [c1, c2, c3, if_true, if_false]; exact hb
      · by_cases c4 : fr > 1000
        · simp only [c1, c2, c3, c4, if_true, if_false, decide_true]; exact hb
        · simp only [c1, c2, c3, c4, if_false, decide_false]
          refine Ev.succ ?_
          simp only [telamonlaw1_LevelSteps.j0, Bool.false_eq_true, if_false, telamonlaw1_V.f, Option.bind_some]
          have := steps_l0 n fr (by omega) (by omega) n.toNat 0 (by omega) (by omega) (by omega)
          simpa using this
end Go.Proofs.Ytbopadglafbdjaa.M
