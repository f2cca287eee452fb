/- LevelValues in plain Lean. -/
import Derived.Test.YtbopadglafbdjaaMV
import Derived.Test.YtbopadglafbdjaaPXxf57
import Derived.Test.YtbopadglafbdjaaPXxf58
import Derived.Test.YtbopadglafbdjaaPXxf17
set_option linter.unusedVariables false
set_option linter.unusedSimpArgs false
namespace Go.Proofs.Ytbopadglafbdjaa.M
open Go.RowKit Go.Proofs.Ytbopadglafbdjaa.PX Go.Proofs.YtbopadglafbdjaaW.PrintWords Go.Proofs.YtbopadglafbdjaaW.PrintLast Go.Proofs.YtbopadglafbdjaaW.PrintMore

def bndS (n : Int) (v : S62) : Int := mx n (v.f0 + 1)
def boundR (N : Int) (l : List S62) : Int := if rightB N l then l.foldl bndS 0 else 0
theorem bound_l0 (xs : List S62) (hl : xs.length ≤ 1000000) (h0 : ∀ v ∈ xs, 0 ≤ v.f0 ∧ v.f0 ≤ 1000) : ∀ rest pre n, xs = pre ++ rest →
    Ev (fun k => level_Bound.l0 k n xs (xs.length : Int) (pre.length : Int)) (rest.foldl bndS n)
  | [], pre, n, h => Ev.succ (by
    simp only [level_Bound.l0, at_end h, if_false]
    exact Ev.pure _)
  | v :: rest, pre, n, h => Ev.succ (by
    obtain ⟨h1, h2, h3, h4, h5⟩ := at_split h (by omega)
    have hv := h0 v (by rw [h]; simp)
    simp only [level_Bound.l0, h1, h2, h3, h4, if_true, wr (v.f0 + 1) (by omega) (by omega)]
    exact bound_l0 xs hl h0 rest _ (bndS n v) h5)
theorem bound_is (N : Int) (l : List S62) (hl : l.length ≤ 1000000) : Ev (fun k => level_Bound.f k N l) (boundR N l) := by
  unfold level_Bound.f
  refine Ev.bind (right_is N l (by omega)) ?_
  unfold boundR
  cases h : rightB N l
  · exact Ev.pure _
  · simp only [if_true]
    exact bound_l0 l hl (fun v hv => (((rightB_iff N l).1 h).2.2 v hv).1) l [] 0 rfl
theorem rbound_l0 (N : Int) (xs : List S62) (hl : xs.length ≤ 1000000) (h0 : ∀ v ∈ xs, 0 ≤ v.f0 ∧ v.f0 ≤ 1000) : ∀ rest pre n, xs = pre ++ rest →
    Ev (fun k => telamonref1_Bound.l0 k n (pre.length : Int) N xs) (rest.foldl bndS n)
  | [], pre, n, h => Ev.succ (by
    simp only [telamonref1_Bound.l0, at_end h, if_false]
    exact Ev.pure _)
  | v :: rest, pre, n, h => Ev.succ (by
    obtain ⟨h1, h2, h3, h4, h5⟩ := at_split h (by omega)
    have hv := h0 v (by rw [h]; simp)
    simp only [telamonref1_Bound.l0, h1, h2, h3, h4, if_true, wr (v.f0 + 1) (by omega) (by omega)]
    have e : bndS n v = if n < v.f0 + 1 then v.f0 + 1 else n := rfl
    by_cases c : v.f0 ≥ n
    · simp only [c, if_true]
      have := rbound_l0 N xs hl h0 rest _ (bndS n v) h5
      rw [e, if_pos (by omega)] at this
      rw [List.foldl_cons, e, if_pos (by omega)]
      exact this
    · simp only [c, if_false]
      have := rbound_l0 N xs hl h0 rest _ (bndS n v) h5
      rw [e, if_neg (by omega)] at this
      rw [List.foldl_cons, e, if_neg (by omega)]
      exact this)
theorem rbound_is (N : Int) (l : List S62) (hl : l.length ≤ 1000000) : Ev (fun k => telamonref1_Bound.f k N l) (boundR N l) := by
  unfold telamonref1_Bound.f
  refine Ev.bind (rright_is N l (by omega)) ?_
  unfold boundR
  cases h : rightB N l
  · exact Ev.pure _
  · simp only [if_true]
    exact rbound_l0 N l hl (fun v hv => (((rightB_iff N l).1 h).2.2 v hv).1) l [] 0 rfl
theorem at_int {xs pre rest : List Int} {v : Int} (h : xs = pre ++ v :: rest) (hl : xs.length ≤ 1000000000000) :
    ((pre.length : Int) < (xs.length : Int)) = True ∧ ((0 : Int) ≤ (pre.length : Int)) = True ∧ rd xs (pre.length : Int) = v ∧ wrap64 ((pre.length : Int) + 1) = ((pre ++ [v]).length : Int) ∧ xs = (pre ++ [v]) ++ rest := by
  subst h
  simp only [List.length_append, List.length_cons] at hl
  refine ⟨by simp; omega, by simp, by simp [rd, List.getD_eq_getElem?_getD], ?_, by simp⟩
  unfold wrap64; simp only [List.length_append, List.length_cons, List.length_nil]; omega
theorem at_int_end {xs pre : List Int} (h : xs = pre ++ []) : ((pre.length : Int) < (xs.length : Int)) = False := by subst h; simp
theorem values_tail (N : Int) (l : List S62) (M : Int) (m : List S62) (n : Int) (vals : List Int) (hl : l.length ≤ 200) (hm : m.length ≤ 200) (hn : 0 ≤ n ∧ n ≤ 100) (hlow : Low vals) :
    Ev (fun k => telamonlaw1_LevelValues.j2 k n vals (evalR N l vals) (evalR M m vals) false N l M m) true := by
  refine Ev.succ ?_
  simp only [telamonlaw1_LevelValues.j2, Bool.false_eq_true, if_false]
  refine Ev.bind (leq_is N l M m (by omega) (by omega)) ?_
  have hj3 : Ev (fun k => telamonlaw1_LevelValues.j3 k n vals (evalR N l vals) (evalR M m vals) false N l M m) true := Ev.succ (by
    simp only [telamonlaw1_LevelValues.j3, Bool.false_eq_true, if_false, telamonlaw1_num.f, telamonlaw1_max2.f, Option.bind_some]
    refine Ev.bind (max_is N l M m (by omega) (by omega)) ?_
    have hj4 : Ev (fun k => telamonlaw1_LevelValues.j4 k n vals (evalR N l vals) false N l) true := Ev.succ (by
      simp only [telamonlaw1_LevelValues.j4, Bool.false_eq_true, if_false, telamonlaw1_num.f, Option.bind_some]
      refine Ev.bind (suc_is N l n (by omega)) ?_
      by_cases c : (sucR N l n).2.2 = 0
      · obtain ⟨r1, hn', r2, e⟩ := suc_eval hlow N l n c
        simp only [c, if_true]
        refine Ev.bind (eval_is _ _ vals (by have := sucR_len N l n; omega)) ?_
        have hb := eval_bounds hlow N l
        refine (Ev.pure _).eq ?_
        rw [e, wr _ (by omega) (by omega)]
        simp
      · simp only [c, if_false]; exact Ev.pure _)
    by_cases c : (maxR N l M m).2.2 = 0
    · obtain ⟨r1, r2, r3, e⟩ := max_eval hlow N M l m c
      simp only [c, if_true]
      refine Ev.bind (eval_is _ _ vals (by have := maxR_len N l M m; omega)) ?_
      rw [e]
      have hmx : ∀ {a b : Int} {β : Type} (g : Int → Option β), ((if a < b then some b else some a).bind g) = g (mx a b) := by
        intro a b β g; unfold mx; split <;> rfl
      simp only [hmx, bne_self_eq_false]
      exact hj4
    · simp only [c, if_false]; exact hj4)
  by_cases c : leqR N l M m = true
  · simp only [c, if_true]
    have : ¬ evalR N l vals > evalR M m vals := by
      by_cases rm : rightB M m = true
      · obtain ⟨r1, r2, h⟩ := leq_upTo vals (evalR M m vals) N M l m c ((evalR_le hlow _ M m rm).1 (Int.le_refl _))
        have := (evalR_le hlow (evalR M m vals) N l r1).2 h
        omega
      · unfold leqR at c
        simp [rm] at c
    simp only [this, decide_false]
    exact hj3
  · simp only [c, if_false]
    exact hj3
theorem values_l0 (N : Int) (l : List S62) (M : Int) (m : List S62) (n : Int) (vals : List Int) (hl : l.length ≤ 200) (hm : m.length ≤ 200) (hn : 0 ≤ n ∧ n ≤ 100) (hv : vals.length ≤ 100) :
    ∀ rest pre, vals = pre ++ rest → (∀ v ∈ pre, v ≤ 1000000) → Ev (fun k => telamonlaw1_LevelValues.l0 k n vals (pre.length : Int) N l M m) true
  | [], pre, h, hp => Ev.succ (by
    simp only [telamonlaw1_LevelValues.l0, at_int_end h, if_false]
    have hlow : Low vals := by rw [h]; simpa [Low] using hp
    refine Ev.bind (eval_is N l vals (by omega)) (Ev.bind (eval_is M m vals (by omega)) (Ev.bind (reval_is N l vals (by omega)) ?_))
    simp only [if_true]
    refine Ev.bind (bound_is N l (by omega)) (Ev.bind (rbound_is N l (by omega)) ?_)
    simp only [bne_self_eq_false]
    exact values_tail N l M m n vals hl hm hn hlow)
  | v :: rest, pre, h, hp => Ev.succ (by
    obtain ⟨h1, h2, h3, h4, h5⟩ := at_int h (by omega)
    simp only [telamonlaw1_LevelValues.l0, h1, h2, h3, h4, if_true]
    by_cases c : v > 1000000
    · simp only [c, if_true]; exact Ev.pure _
    · simp only [c, if_false]
      exact values_l0 N l M m n vals hl hm hn hv rest _ h5 (fun w hw => by
        rcases List.mem_append.1 hw with hw | hw
        · exact hp w hw
        · simp at hw; subst hw; omega))
theorem Values (N : Int) (l : List S62) (M : Int) (m : List S62) (n : Int) (vals : List Int) : Ev (fun k => telamonlaw1_LevelValues.f k N l M m n vals) true := by
  simp only [telamonlaw1_LevelValues.f, telamonlaw1_alive.f, Option.bind_some, if_true, telamonlaw1_big.f, decide_eq_true_eq]
  have hb : Ev (fun k => telamonlaw1_LevelValues.j0 k n vals true true N l M m) true := Ev.succ (by simp only [telamonlaw1_LevelValues.j0, if_true]; exact Ev.pure _)
  by_cases c1 : (l.length : Int) > 200
  · simp only [c1, if_true]; exact hb
  · simp only [c1, if_false]
    by_cases c2 : (m.length : Int) > 200
    · simp only [c2, if_true]; exact hb
    · simp only [c2, if_false]
      by_cases c3 : (vals.length : Int) > 100
      · simp only [c3, if_true]; exact hb
      · simp only [c3, if_false]
        by_cases c4 : n < 0
        · simp only [c4, if_true]; exact hb
        · simp only [c4, if_false]
          by_cases c5 : n > 100
          · simp only [c5, decide_true]; exact hb
          · simp only [c5, decide_false]
            refine Ev.succ ?_
            simp only [telamonlaw1_LevelValues.j0, Bool.false_eq_true, if_false]
            exact values_l0 N l M m n vals (by omega) (by omega) (by omega) (by omega) vals [] rfl (by simp)
end Go.Proofs.Ytbopadglafbdjaa.M
