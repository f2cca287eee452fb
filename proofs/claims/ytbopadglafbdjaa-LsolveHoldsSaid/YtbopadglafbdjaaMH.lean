/- LsolveHolds in plain Lean. -/
import Derived.Test.YtbopadglafbdjaaMSp
import Derived.Test.YtbopadglafbdjaaPXxf7
set_option linter.unusedVariables false
set_option linter.unusedSimpArgs false
namespace Go.Proofs.Ytbopadglafbdjaa.M
open Go.RowKit Go.Proofs.Ytbopadglafbdjaa.PX Go.Proofs.YtbopadglafbdjaaW.PrintWords Go.Proofs.YtbopadglafbdjaaW.PrintLast Go.Proofs.YtbopadglafbdjaaW.PrintMore

theorem rright_all (N : Int) (l : List S62) : Ev (fun k => telamonref1_right.f k N l) (rightB N l) := by
  by_cases c : l.length ≤ 64
  · exact rright_is N l (by omega)
  · have hb : rightB N l = false := by simp [rightB, c]
    rw [hb]
    have hj : Ev (fun k => telamonref1_right.j0 k true N l) false := Ev.succ (by simp only [telamonref1_right.j0, if_true]; exact Ev.pure _)
    unfold telamonref1_right.f
    have h : decide ((l.length : Int) > 64) = true := decide_eq_true (by omega)
    by_cases c1 : N < 0
    · simp only [c1, if_true]; exact hj
    · by_cases c2 : N > 1000
      · simp only [c1, c2, if_true, if_false]; exact hj
      · simp only [c1, c2, if_false, h]; exact hj
theorem reval_all (N : Int) (l : List S62) (vals : List Int) : Ev (fun k => telamonref1_Eval.f k N l vals) (evalR N l vals) := by
  by_cases c : rightB N l = true
  · exact reval_is N l vals (by have := right_len c; omega)
  · unfold telamonref1_Eval.f evalR
    rw [if_neg c]
    refine Ev.bind (rright_all N l) ?_
    simp only [c]
    exact Ev.pure _
def holdsB (l : List S45) (c : List Int) : Bool := l.all fun x => decide (evalR x.f0.f0 x.f0.f1 c ≤ evalR x.f1.f0 x.f1.f1 c)
theorem holds_l0 (xs : List S45) (c : List Int) (hl : xs.length ≤ 1000000) : ∀ rest pre, xs = pre ++ rest → Ev (fun k => telamonlaw19_holds.l0 k xs c (pre.length : Int)) (holdsB rest c)
  | [], pre, h => Ev.succ (by
    have e : ((pre.length : Int) < (xs.length : Int)) = False := by subst h; simp
    simp only [telamonlaw19_holds.l0, e, if_false]
    exact Ev.pure _)
  | x :: rest, pre, h => Ev.succ (by
    obtain ⟨h1, h2, h3, h4, h5⟩ := at_split45 h (by omega)
    simp only [telamonlaw19_holds.l0, h1, h2, h3, h4, if_true]
    refine Ev.bind (reval_all _ _ _) (Ev.bind (reval_all _ _ _) ?_)
    by_cases g : evalR x.f0.f0 x.f0.f1 c > evalR x.f1.f0 x.f1.f1 c
    · simp only [g, if_true]
      refine (Ev.pure _).eq ?_
      unfold holdsB
      rw [List.all_cons, decide_eq_false (by omega)]; rfl
    · simp only [g, if_false]
      refine (holds_l0 xs c hl rest _ h5).eq ?_
      unfold holdsB
      rw [List.all_cons, decide_eq_true (by omega)]; rfl)
theorem holds_is (l : List S45) (c : List Int) (hl : l.length ≤ 1000000) : Ev (fun k => telamonlaw19_holds.f k l c) (holdsB l c) := holds_l0 l c hl l [] rfl
theorem holdsB_iff (l : List S45) (c : List Int) : holdsB l c = true ↔ ∀ x ∈ l, evalR x.f0.f0 x.f0.f1 c ≤ evalR x.f1.f0 x.f1.f1 c := by simp [holdsB, List.all_eq_true]

theorem solve_bad {a0 : Int} {l : List S45} (h : (askB a0 l).2 ≠ 0) : (solveF a0 l).1 = [] ∧ (solveF a0 l).2 ≠ 0 := by
  unfold solveF
  split
  · exact ⟨rfl, by decide⟩
  · exact ⟨rfl, h⟩
theorem Holds (a0 : Int) (l : List S45) (a2 : Int) : Ev (fun k => telamonlaw19_LsolveHolds.f k a0 l a2) true := by
  simp only [telamonlaw19_LsolveHolds.f, alive19, Option.bind_some, if_true]
  have hb : Ev (fun k => telamonlaw19_LsolveHolds.j0 k a0 l a2 true true) true := Ev.succ (by simp only [telamonlaw19_LsolveHolds.j0, if_true]; exact Ev.pure _)
  by_cases c1 : a0 < 1
  · simp only [c1, if_true]; exact hb
  by_cases c2 : a0 > 50
  · simp only [c1, c2, if_true, if_false]; exact hb
  by_cases c3 : (l.length : Int) > 100
  · simp only [c1, c2, c3, if_true, if_false]; exact hb
  by_cases c4 : a2 < 0
  · simp only [c1, c2, c3, c4, if_false, decide_true]; exact hb
  simp only [c1, c2, c3, c4, if_false, decide_false]
  refine Ev.succ ?_
  simp only [telamonlaw19_LsolveHolds.j0, Bool.false_eq_true, if_false, lsolve_Solve.f, Option.bind_some, telamonlaw19_num.f]
  obtain ⟨ms, e, hask⟩ : ∃ ms e, askB a0 l = (ms, e) := ⟨_, _, rfl⟩
  by_cases he : e = 0
  · subst he
    have hn : (a0.toNat : Int) = a0 := by omega
    rcases solve_spec (by omega) (by omega) (by omega) hask with ⟨x, hx, hs⟩ | ⟨_, hs⟩
    · rw [hs]
      have hask' : askB (a0.toNat : Int) l = (ms, 0) := by rw [hn]; exact hask
      have hlen : (x.length : Int) = a0 := by have := hx.1.1.1; omega
      have hh : holdsB l x = true := (holdsB_iff l x).2 ((sol_iff hask' hx.1.1).1 hx.1)
      simp only [if_true, hlen]
      refine Ev.bind (holds_is l x (by omega)) (Ev.succ ?_)
      rw [hh]
      have t0 : 0 ≤ Int.tmod a2 a0 := Int.tmod_nonneg _ (by omega)
      have t1 : Int.tmod a2 a0 < a0 := Int.tmod_lt_of_pos _ (by omega)
      simp only [telamonlaw19_LsolveHolds.j1, Bool.not_true, Bool.false_eq_true, if_false, if_neg (show ¬ a0 = 0 by omega), if_pos t0, if_pos (show Int.tmod a2 a0 < (x.length : Int) by omega)]
      by_cases z : rd x (Int.tmod a2 a0) = 0
      · simp only [z, if_true]; exact Ev.pure _
      · simp only [z, if_false]
        have hg : 0 ≤ rd x (Int.tmod a2 a0) ∧ rd x (Int.tmod a2 a0) ≤ 1000 := hx.1.1.get _
        rw [wr (rd x (Int.tmod a2 a0) - 1) (by omega) (by omega)]
        refine Ev.bind (holds_is l _ (by omega)) ((Ev.pure _).eq ?_)
        have hy : InR a0.toNat (x.set (Int.tmod a2 a0).toNat (rd x (Int.tmod a2 a0) - 1)) := set_inR hx.1.1 _ (by omega) (by omega)
        have hf : holdsB l (x.set (Int.tmod a2 a0).toNat (rd x (Int.tmod a2 a0) - 1)) = false := by
          refine Bool.eq_false_iff.2 (fun ht => ?_)
          have := hx.2 _ ((sol_iff hask' hy).2 ((holdsB_iff _ _).1 ht)) (Int.tmod a2 a0).toNat
          rw [getD_set, if_pos ⟨rfl, by omega⟩] at this
          change rd x (Int.tmod a2 a0) ≤ rd x (Int.tmod a2 a0) - 1 at this
          omega
        rw [hf]; rfl
    · rw [hs]
      simp
      exact Ev.pure _
  · have := solve_bad (a0 := a0) (l := l) (by rw [hask]; exact he)
    simp only [if_neg this.2, this.1]
    exact Ev.pure _
end Go.Proofs.Ytbopadglafbdjaa.M
