/- LevelNorms in plain Lean. -/
import Derived.Test.YtbopadglafbdjaaMR1
import Derived.Test.YtbopadglafbdjaaPXxf10
set_option linter.unusedVariables false
set_option linter.unusedSimpArgs false
namespace Go.Proofs.Ytbopadglafbdjaa.M
open Go.RowKit Go.Proofs.Ytbopadglafbdjaa.PX Go.Proofs.YtbopadglafbdjaaW.PrintWords Go.Proofs.YtbopadglafbdjaaW.PrintLast Go.Proofs.YtbopadglafbdjaaW.PrintMore

theorem lent_is (N : Int) (l : List S62) (hl : l.length ≤ 200) : telamonlaw1_Lent.f N l = some (N, l) := by
  unfold telamonlaw1_Lent.f
  simp only [Option.bind_some, List.nil_append]
  rw [if_pos (by simp; omega), if_pos (by simp; omega), if_pos (by omega), if_pos (by simp only [List.length_append, List.length_cons, List.length_nil]; omega)]
  simp
theorem norms_l0 (N : Int) (l : List S62) (hl : l.length ≤ 200) (K : Int) : ∀ (n : Nat) (L : List S62) (i : Int), L.length ≤ 1000000 → 0 ≤ i → ((L.length : Int) - i).toNat ≤ n →
    Ev (fun k => telamonlaw1_LevelNorms.l0 k (normR N l).2.2 i N l N l (normR N l).1 (normR N l).2.1 K L) true := by
  have hend : ∀ (L : List S62) (i : Int), ¬ i < (L.length : Int) → Ev (fun k => telamonlaw1_LevelNorms.l0 k (normR N l).2.2 i N l N l (normR N l).1 (normR N l).2.1 K L) true := fun L i h => Ev.succ (by
    simp only [telamonlaw1_LevelNorms.l0, h, if_false, telamonlaw1_num.f, Option.bind_some]
    refine Ev.bind (RNorm_is N l (by omega)) ?_
    refine Ev.bind (g := fun k => telamonlaw1_Stay.f k N l N l) (exact_self N l (by omega)) ?_
    simp only [if_true]
    have hlen : (normR N l).2.1.length ≤ 1000000 := by have := normR_len N l; omega
    exact Ev.bind (exact_self _ _ hlen) (Ev.pure _))
  intro n
  induction n with
  | zero =>
    intro L i hL h0 hn
    exact hend L i (by omega)
  | succ n ih =>
    intro L i hL h0 hn
    by_cases c : i < (L.length : Int)
    · refine Ev.succ ?_
      simp only [telamonlaw1_LevelNorms.l0, c, h0, if_true, wr (i + 1) (by omega) (by omega)]
      exact ih _ (i + 1) (by simpa using hL) (by omega) (by simp; omega)
    · exact hend L i c
theorem Norms (N : Int) (l : List S62) (M : Int) (m : List S62) : Ev (fun k => telamonlaw1_LevelNorms.f k N l M m) true := by
  simp only [telamonlaw1_LevelNorms.f, telamonlaw1_alive.f, Option.bind_some, if_true, telamonlaw1_big.f, decide_eq_true_eq]
  have hb : Ev (fun k => telamonlaw1_LevelNorms.j0 k true true N l M m) true := Ev.succ (by simp only [telamonlaw1_LevelNorms.j0, if_true]; exact Ev.pure _)
  by_cases c1 : (l.length : Int) > 200
  · simp only [c1, if_true]; exact hb
  · simp only [c1, if_false]
    by_cases c2 : (m.length : Int) > 200
    · simp only [c2, decide_true]; exact hb
    · simp only [c2, decide_false]
      refine Ev.succ ?_
      simp only [telamonlaw1_LevelNorms.j0, Bool.false_eq_true, if_false, lent_is N l (by omega), Option.bind_some]
      refine Ev.bind (Norm_is N l (by omega)) (Ev.bind (Norm_is M m (by omega)) ?_)
      exact norms_l0 N l (by omega) _ _ _ 0 (by have := normR_len M m; omega) (by omega) (Nat.le_refl _)
end Go.Proofs.Ytbopadglafbdjaa.M
