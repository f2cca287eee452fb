/- LevelMakes in plain Lean. -/
import Derived.Test.YtbopadglafbdjaaMR2
import Derived.Test.YtbopadglafbdjaaMR3
import Derived.Test.YtbopadglafbdjaaPXxf11
set_option linter.unusedVariables false
set_option linter.unusedSimpArgs false
namespace Go.Proofs.Ytbopadglafbdjaa.M
open Go.RowKit Go.Proofs.Ytbopadglafbdjaa.PX Go.Proofs.YtbopadglafbdjaaW.PrintWords Go.Proofs.YtbopadglafbdjaaW.PrintLast Go.Proofs.YtbopadglafbdjaaW.PrintMore

theorem Makes (N : Int) (l : List S62) (M : Int) (m : List S62) (n : Int) : Ev (fun k => telamonlaw1_LevelMakes.f k N l M m n) true := by
  simp only [telamonlaw1_LevelMakes.f, telamonlaw1_alive.f, Option.bind_some, if_true, telamonlaw1_big.f, decide_eq_true_eq]
  have hb : Ev (fun k => telamonlaw1_LevelMakes.j0 k n true true N l M m) true := Ev.succ (by simp only [telamonlaw1_LevelMakes.j0, if_true]; exact Ev.pure _)
  by_cases c1 : (l.length : Int) > 200
  · simp only [c1, if_true]; exact hb
  · simp only [c1, if_false]
    by_cases c2 : (m.length : Int) > 200
    · simp only [c2, decide_true]; exact hb
    · simp only [c2, decide_false]
      refine Ev.succ ?_
      simp only [telamonlaw1_LevelMakes.j0, Bool.false_eq_true, if_false, telamonlaw1_num.f, Option.bind_some]
      refine Ev.bind (suc_is N l n (by omega)) (Ev.bind (max_is N l M m (by omega) (by omega)) (Ev.bind (rsuc_is N l n (by omega)) (Ev.bind (rmax_is N l M m (by omega) (by omega)) ?_)))
      simp only [if_true]
      have h1 := sucR_len N l n
      have h2 := maxR_len N l M m
      refine Ev.bind (exact_self _ _ (by omega)) ?_
      simp only [if_true]
      exact Ev.bind (exact_self _ _ (by omega)) (Ev.pure _)
end Go.Proofs.Ytbopadglafbdjaa.M
