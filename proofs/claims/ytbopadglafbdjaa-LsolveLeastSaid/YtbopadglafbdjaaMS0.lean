/- Plain Lean: what a round of the solver tells: the variables that must grow, one behind the other. -/
import Derived.Test.YtbopadglafbdjaaML
import Derived.Test.YtbopadglafbdjaaMV0
set_option linter.unusedVariables false
set_option linter.unusedSimpArgs false
namespace Go.Proofs.Ytbopadglafbdjaa.M
open Go.RowKit Go.Proofs.Ytbopadglafbdjaa.PX Go.Proofs.YtbopadglafbdjaaW.PrintWords Go.Proofs.YtbopadglafbdjaaW.PrintLast Go.Proofs.YtbopadglafbdjaaW.PrintMore

theorem Eval_all (N : Int) (l : List S62) (vals : List Int) : Ev (fun k => level_Eval.f k N l vals) (evalR N l vals) := by
  by_cases c : rightB N l = true
  · exact eval_is N l vals (by have := right_len c; omega)
  · unfold level_Eval.f evalR
    rw [if_neg c]
    refine Ev.bind (right_all N l) ?_
    simp only [c]
    exact Ev.pure _
/-- What a limit asks of its variable, at the values c: the variable, and what it must be. -/
def updR (c : List Int) (x : S101) : Option (Int × Int) :=
  if x.f1 < 0 then none else if wrap64 (evalR x.f0.f0 x.f0.f1 c - x.f2) > rd c x.f1 then some (x.f1, wrap64 (evalR x.f0.f0 x.f0.f1 c - x.f2)) else none
def setV (c : List Int) (p : Int × Int) : List Int := c.set p.1.toNat p.2
def stV (c : List Int) (l : List (Int × Int)) : List Int := l.foldl setV c
theorem stV_len (l : List (Int × Int)) : ∀ c, (stV c l).length = c.length := by
  induction l with
  | nil => exact fun c => rfl
  | cons p l ih => exact fun c => (ih _).trans (by simp [setV])
theorem stV_snoc (c : List Int) (l : List (Int × Int)) (p : Int × Int) : stV c (l ++ [p]) = setV (stV c l) p := by simp [stV]
/-- The variables that grow in a round, in line. -/
def ysR : List Int → List S101 → List (Int × Int)
  | _, [] => []
  | c, x :: r => match updR c x with
    | none => ysR c r
    | some p => p :: ysR (setV c p) r
theorem ysR_snoc (l : List S101) (x : S101) : ∀ c, ysR c (l ++ [x]) = ysR c l ++ (updR (stV c (ysR c l)) x).toList := by
  induction l with
  | nil => intro c; simp only [List.nil_append, ysR, stV, List.foldl_nil]; cases updR c x <;> rfl
  | cons y l ih =>
    intro c
    simp only [List.cons_append, ysR]
    cases updR c y with
    | none => exact ih c
    | some p => simp only [ih, List.cons_append, stV, List.foldl_cons]
theorem ysR_take {l : List S101} {q : Nat} (h : q < l.length) (c : List Int) : ysR c (l.take (q + 1)) = ysR c (l.take q) ++ (updR (stV c (ysR c (l.take q))) (rd_T101 l (q : Int))).toList := by
  rw [List.take_succ_eq_append_getElem h, ysR_snoc]
  congr 3
  simp [rd_T101, List.getD_eq_getElem?_getD, List.getElem?_eq_getElem h]
theorem ysR_prefix (l : List S101) (q : Nat) : ∀ c, ysR c (l.take q) <+: ysR c l := by
  induction l generalizing q with
  | nil => intro c; simp
  | cons x l ih =>
    intro c
    cases q with
    | zero => exact ⟨ysR c (x :: l), rfl⟩
    | succ q =>
      simp only [List.take_succ_cons, ysR]
      cases updR c x with
      | none => exact ih q c
      | some p => exact List.cons_prefix_cons.2 ⟨rfl, ih q _⟩
theorem updR_on {c : List Int} {x : S101} {p : Int × Int} (h : updR c x = some p) : p.1 = x.f1 ∧ 0 ≤ p.1 ∧ p.2 > rd c x.f1 ∧ p.2 = wrap64 (evalR x.f0.f0 x.f0.f1 c - x.f2) := by
  unfold updR at h
  split at h
  · cases h
  · split at h
    · next h1 h2 => cases h; exact ⟨rfl, by show 0 ≤ x.f1; omega, h2, rfl⟩
    · cases h
theorem ysR_on {l : List S101} {n : Int} (h : ∀ x ∈ l, x.f1 < n) : ∀ c, ∀ p ∈ ysR c l, 0 ≤ p.1 ∧ p.1 < n := by
  induction l with
  | nil => intro c p hp; simp [ysR] at hp
  | cons x l ih =>
    intro c p hp
    simp only [ysR] at hp
    cases hu : updR c x with
    | none => rw [hu] at hp; exact ih (fun y hy => h y (List.mem_cons_of_mem _ hy)) _ p hp
    | some q =>
      rw [hu] at hp
      rcases List.mem_cons.1 hp with rfl | hp
      · have := updR_on hu
        exact ⟨this.2.1, by rw [this.1]; exact h x (List.mem_cons_self ..)⟩
      · exact ih (fun y hy => h y (List.mem_cons_of_mem _ hy)) _ p hp
end Go.Proofs.Ytbopadglafbdjaa.M
