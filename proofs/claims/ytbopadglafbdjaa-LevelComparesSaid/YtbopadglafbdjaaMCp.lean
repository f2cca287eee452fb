/- LevelCompares in plain Lean. -/
import Derived.Test.YtbopadglafbdjaaMR5
import Derived.Test.YtbopadglafbdjaaPXxf15
set_option linter.unusedVariables false
set_option linter.unusedSimpArgs false
namespace Go.Proofs.Ytbopadglafbdjaa.M
open Go.RowKit Go.Proofs.Ytbopadglafbdjaa.PX Go.Proofs.YtbopadglafbdjaaW.PrintWords Go.Proofs.YtbopadglafbdjaaW.PrintLast Go.Proofs.YtbopadglafbdjaaW.PrintMore

theorem Compares (N : Int) (l : List S62) (M : Int) (m : List S62) : Ev (fun k => telamonlaw1_LevelCompares.f k N l M m) true := by
  simp only [telamonlaw1_LevelCompares.f, telamonlaw1_alive.f, Option.bind_some, if_true, telamonlaw1_big.f, decide_eq_true_eq]
  have hb : Ev (fun k => telamonlaw1_LevelCompares.j0 k true true N l M m) true := Ev.succ (by simp only [telamonlaw1_LevelCompares.j0, if_true]; exact Ev.pure _)
  by_cases c1 : (l.length : Int) > 200
  · simp only [c1, if_true]; exact hb
  · simp only [c1, if_false]
    by_cases c2 : (m.length : Int) > 200
    · simp only [c2, decide_true]; exact hb
    · simp only [c2, decide_false]
      refine Ev.succ ?_
      simp only [telamonlaw1_LevelCompares.j0, Bool.false_eq_true, if_false]
      refine Ev.bind (leq_is N l M m (by omega) (by omega)) (Ev.bind (rleq_is N l M m (by omega) (by omega)) ?_)
      simp only [beq_self_eq_true, if_true]
      refine Ev.bind (same_is N l M m (by omega) (by omega)) (Ev.bind (rsame_is N l M m (by omega) (by omega)) ?_)
      exact (Ev.pure _).eq (by simp)
end Go.Proofs.Ytbopadglafbdjaa.M
