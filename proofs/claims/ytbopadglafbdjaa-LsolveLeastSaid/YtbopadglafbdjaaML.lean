/- Plain Lean about levels, whatever their length: what the program's functions tell. -/
import Derived.Test.YtbopadglafbdjaaMP0
import Derived.Test.YtbopadglafbdjaaPXxf53
import Derived.Test.YtbopadglafbdjaaPXxf57
set_option linter.unusedVariables false
set_option linter.unusedSimpArgs false
namespace Go.Proofs.Ytbopadglafbdjaa.M
open Go.RowKit Go.Proofs.Ytbopadglafbdjaa.PX Go.Proofs.YtbopadglafbdjaaW.PrintWords Go.Proofs.YtbopadglafbdjaaW.PrintLast Go.Proofs.YtbopadglafbdjaaW.PrintMore

theorem right_all (N : Int) (l : List S62) : Ev (fun k => level_right.f k N l) (rightB N l) := by
  by_cases c : l.length ≤ 64
  · exact right_is N l (by omega)
  · simp only [level_right.f, fine_is, Option.bind_some]
    have hb : rightB N l = false := by simp [rightB, c]
    rw [hb]
    have h : ((l.length : Int) > 64) := by omega
    cases e0 : fineB N
    · simp only [Bool.false_eq_true, if_false]
      refine Ev.succ ?_
      simp only [level_right.j0, if_true]
      exact Ev.pure _
    · simp only [if_true, h, decide_true]
      refine Ev.succ ?_
      simp only [level_right.j0, if_true]
      exact Ev.pure _
theorem right_len {N : Int} {l : List S62} (h : rightB N l = true) : l.length ≤ 64 := ((rightB_iff N l).1 h).2.1
theorem Norm_all (N : Int) (l : List S62) : Ev (fun k => level_Norm.f k N l) (normR N l) := by
  unfold level_Norm.f
  refine Ev.bind (right_all N l) ?_
  unfold normR
  cases h : rightB N l
  · simp; exact Ev.pure _
  · simp only [if_true]; exact Ev.bind (norm_is N l (by have := right_len h; omega)) (Ev.pure _)
def vbnd (n : Int) (v : S62) : Int := mx n (v.f0 + 1)
def bndR (N : Int) (l : List S62) : Int := if rightB N l then l.foldl vbnd 0 else 0
theorem bnd_l0 (xs : List S62) (hl : xs.length ≤ 1000000) (h0 : ∀ v ∈ xs, 0 ≤ v.f0 ∧ v.f0 ≤ 1000) : ∀ rest pre n, xs = pre ++ rest →
    Ev (fun k => level_Bound.l0 k n xs (xs.length : Int) (pre.length : Int)) (rest.foldl vbnd n)
  | [], pre, n, h => Ev.succ (by
    simp only [level_Bound.l0, at_end h, if_false]
    exact Ev.pure _)
  | v :: rest, pre, n, h => Ev.succ (by
    obtain ⟨h1, h2, h3, h4, h5⟩ := at_split h (by omega)
    have hv := h0 v (by rw [h]; simp)
    simp only [level_Bound.l0, h1, h2, h3, h4, if_true, wr (v.f0 + 1) (by omega) (by omega)]
    exact bnd_l0 xs hl h0 rest _ (vbnd n v) h5)
theorem Bound_all (N : Int) (l : List S62) : Ev (fun k => level_Bound.f k N l) (bndR N l) := by
  unfold level_Bound.f
  refine Ev.bind (right_all N l) ?_
  unfold bndR
  cases h : rightB N l
  · exact Ev.pure _
  · simp only [if_true]
    exact bnd_l0 l (by have := right_len h; omega) (fun v hv => (((rightB_iff N l).1 h).2.2 v hv).1) l [] 0 rfl
/-- May a level stand in a limit of n variables? -/
def okL (n : Int) (x : S43) : Bool := rightB x.f0 x.f1 && decide (bndR x.f0 x.f1 ≤ n)
theorem normR_code (N : Int) (l : List S62) : (normR N l).2.2 = if rightB N l = true then 0 else 13 := by
  unfold normR; cases rightB N l <;> simp
end Go.Proofs.Ytbopadglafbdjaa.M
