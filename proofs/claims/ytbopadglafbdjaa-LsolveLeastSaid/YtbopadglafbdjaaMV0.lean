/- Plain Lean about levels: the numbers that levels are by a valuation. -/
import Derived.Test.YtbopadglafbdjaaMR0
import Derived.Test.YtbopadglafbdjaaPXxf50
import Derived.Test.YtbopadglafbdjaaPXxf53
set_option linter.unusedVariables false
set_option linter.unusedSimpArgs false
namespace Go.Proofs.Ytbopadglafbdjaa.M
open Go.RowKit Go.Proofs.Ytbopadglafbdjaa.PX Go.Proofs.YtbopadglafbdjaaW.PrintWords Go.Proofs.YtbopadglafbdjaaW.PrintLast Go.Proofs.YtbopadglafbdjaaW.PrintMore

theorem mx_le (a b c : Int) : mx a b ≤ c ↔ a ≤ c ∧ b ≤ c := by unfold mx; split <;> omega
/-- What a variable is by a valuation. -/
def val (vals : List Int) (i : Int) : Int := if i < (vals.length : Int) then mx 0 (rd vals i) else 0
theorem val_nonneg (vals : List Int) (i : Int) : 0 ≤ val vals i := by unfold val mx; split <;> (try split) <;> omega
def evS (vals : List Int) (n : Int) (v : S62) : Int := mx n (wrap64 (val vals v.f0 + v.f1))
def evalR (N : Int) (l : List S62) (vals : List Int) : Int := if rightB N l then l.foldl (evS vals) N else 0
theorem eval_l0 (vals : List Int) (xs : List S62) (hl : xs.length ≤ 1000000) (h0 : ∀ v ∈ xs, 0 ≤ v.f0) : ∀ rest pre n, xs = pre ++ rest →
    Ev (fun k => level_Eval.l0 k vals n xs (xs.length : Int) (pre.length : Int)) (rest.foldl (evS vals) n)
  | [], pre, n, h => Ev.succ (by
    simp only [level_Eval.l0, at_end h, if_false]
    exact Ev.pure _)
  | v :: rest, pre, n, h => Ev.succ (by
    obtain ⟨h1, h2, h3, h4, h5⟩ := at_split h (by omega)
    have hv := h0 v (by rw [h]; simp)
    simp only [level_Eval.l0, h1, h2, h3, h4, if_true]
    rw [List.foldl_cons]
    by_cases c : v.f0 < (vals.length : Int)
    · simp only [c, if_true, show 0 ≤ v.f0 from hv]
      have := eval_l0 vals xs hl h0 rest _ (evS vals n v) h5
      simpa [evS, val, c] using this
    · simp only [c, if_false]
      have := eval_l0 vals xs hl h0 rest _ (evS vals n v) h5
      simpa [evS, val, c] using this)
theorem eval_is (N : Int) (l : List S62) (vals : List Int) (hl : l.length ≤ 1000000) : Ev (fun k => level_Eval.f k N l vals) (evalR N l vals) := by
  unfold level_Eval.f
  refine Ev.bind (right_is N l (by omega)) ?_
  unfold evalR
  cases h : rightB N l
  · exact Ev.pure _
  · simp only [if_true]
    exact eval_l0 vals l hl (fun v hv => (((rightB_iff N l).1 h).2.2 v hv).1.1) l [] N rfl
theorem reval_l0 (vals : List Int) (N : Int) (xs : List S62) (hl : xs.length ≤ 1000000) (h0 : ∀ v ∈ xs, 0 ≤ v.f0) : ∀ rest pre n, xs = pre ++ rest →
    Ev (fun k => telamonref1_Eval.l0 k vals n (pre.length : Int) N xs) (rest.foldl (evS vals) n)
  | [], pre, n, h => Ev.succ (by
    simp only [telamonref1_Eval.l0, at_end h, if_false]
    exact Ev.pure _)
  | v :: rest, pre, n, h => Ev.succ (by
    obtain ⟨h1, h2, h3, h4, h5⟩ := at_split h (by omega)
    have hv := h0 v (by rw [h]; simp)
    simp only [telamonref1_Eval.l0, h1, h2, h3, if_true]
    rw [List.foldl_cons]
    have hj : ∀ x, x = val vals v.f0 → Ev (fun k => telamonref1_Eval.j2 k vals n (pre.length : Int) x N xs) (rest.foldl (evS vals) (evS vals n v)) := fun x hx => Ev.succ (by
      simp only [telamonref1_Eval.j2, h1, h2, h3, h4, if_true]
      have := reval_l0 vals N xs hl h0 rest _ (evS vals n v) h5
      have e : evS vals n v = if n < wrap64 (x + v.f1) then wrap64 (x + v.f1) else n := by rw [hx]; rfl
      by_cases c : wrap64 (x + v.f1) > n
      · simp only [c, if_true]; rw [e, if_pos c] at this ⊢; exact this
      · simp only [c, if_false]; rw [e, if_neg c] at this ⊢; exact this)
    by_cases c : v.f0 < (vals.length : Int)
    · simp only [c, if_true, show 0 ≤ v.f0 from hv]
      refine Ev.succ ?_
      simp only [telamonref1_Eval.j1, h1, h2, h3, c, show 0 ≤ v.f0 from hv, if_true]
      by_cases c2 : rd vals v.f0 > 0
      · simp only [c2, decide_true, if_true]
        exact hj _ (by simp only [val, c, if_true, mx, show (0 : Int) < rd vals v.f0 from c2])
      · simp only [c2, decide_false, Bool.false_eq_true, if_false]
        exact hj _ (by simp only [val, c, if_true, mx, show ¬ (0 : Int) < rd vals v.f0 from c2, if_false])
    · simp only [c, if_false]
      refine Ev.succ ?_
      simp only [telamonref1_Eval.j1, Bool.false_eq_true, if_false]
      exact hj _ (by simp only [val, c, if_false]))
theorem reval_is (N : Int) (l : List S62) (vals : List Int) (hl : l.length ≤ 1000000) : Ev (fun k => telamonref1_Eval.f k N l vals) (evalR N l vals) := by
  unfold telamonref1_Eval.f
  refine Ev.bind (rright_is N l (by omega)) ?_
  unfold evalR
  cases h : rightB N l
  · exact Ev.pure _
  · simp only [if_true]
    exact reval_l0 vals N l hl (fun v hv => (((rightB_iff N l).1 h).2.2 v hv).1.1) l [] N rfl

/-! ### Up to a number -/
def UpTo (vals : List Int) (c N : Int) (l : List S62) : Prop := N ≤ c ∧ ∀ v ∈ l, val vals v.f0 + v.f1 ≤ c
/-- No value goes round. -/
def Low (vals : List Int) : Prop := ∀ v ∈ vals, v ≤ 2000000
theorem rd_mem (xs : List Int) (i : Int) : rd xs i = 0 ∨ rd xs i ∈ xs := by
  unfold rd
  rw [List.getD_eq_getElem?_getD]
  cases h : xs[i.toNat]? with
  | none => left; rfl
  | some x => right; simpa using List.mem_of_getElem? h
theorem val_low {vals : List Int} (h : Low vals) (i : Int) : val vals i ≤ 2000000 := by
  unfold val mx
  rcases rd_mem vals i with e | e
  · rw [e]; split <;> (try split) <;> omega
  · have := h _ e; split <;> (try split) <;> omega
theorem fold_le {vals : List Int} (h : Low vals) (c : Int) : ∀ (l : List S62) (N : Int), (∀ v ∈ l, 0 ≤ v.f1 ∧ v.f1 ≤ 1000) → (l.foldl (evS vals) N ≤ c ↔ UpTo vals c N l)
  | [], N, _ => by simp [UpTo]
  | v :: l, N, hv => by
    have h1 := hv v (by simp)
    have h2 := val_low h v.f0
    have h3 := val_nonneg vals v.f0
    rw [List.foldl_cons, fold_le h c l _ (fun w hw => hv w (by simp [hw]))]
    unfold UpTo evS
    rw [mx_le, wr _ (by omega) (by omega)]
    simp only [List.forall_mem_cons]
    constructor
    · rintro ⟨⟨a, b⟩, d⟩; exact ⟨a, b, d⟩
    · rintro ⟨a, b, d⟩; exact ⟨⟨a, b⟩, d⟩
theorem evalR_le {vals : List Int} (h : Low vals) (c N : Int) (l : List S62) (hr : rightB N l = true) : evalR N l vals ≤ c ↔ UpTo vals c N l := by
  unfold evalR
  rw [if_pos hr]
  exact fold_le h c l N (fun v hv => (((rightB_iff N l).1 hr).2.2 v hv).2)
theorem upTo_can (vals : List Int) (c N : Int) (l : List S62) (hN : 0 ≤ N) (hl : ∀ v ∈ l, 0 ≤ v.f1) : UpTo vals c (zN N (can l)) (can l) ↔ UpTo vals c N l := by
  have hv : (∀ v ∈ can l, val vals v.f0 + v.f1 ≤ c) ↔ ∀ v ∈ l, val vals v.f0 + v.f1 ≤ c := by
    constructor
    · intro h v hv
      obtain ⟨z, hz, e0, e1⟩ := can_top hv
      have := h z hz
      rw [e0] at this
      omega
    · exact fun h v hv => h v (can_mem hv)
  unfold UpTo
  rw [hv]
  refine and_congr_left fun hall => ?_
  rcases zN_cases N (can l) with ⟨e, v, hm, h1⟩ | ⟨e, h1⟩
  · rw [e]
    have h2 := hall v (can_mem hm)
    have h3 := val_nonneg vals v.f0
    constructor <;> intro _ <;> omega
  · rw [e]
theorem le_ext {a b : Int} (h : ∀ c, a ≤ c ↔ b ≤ c) : a = b := by
  have h1 := (h b).2 (Int.le_refl _)
  have h2 := (h a).1 (Int.le_refl _)
  omega
theorem eval_bounds {vals : List Int} (h : Low vals) (N : Int) (l : List S62) : 0 ≤ evalR N l vals ∧ evalR N l vals ≤ 2001000 := by
  by_cases r : rightB N l = true
  · have q := (rightB_iff _ _).1 r
    constructor
    · have := ((evalR_le h (evalR N l vals) N l r).1 (Int.le_refl _)).1
      omega
    · refine (evalR_le h _ N l r).2 ⟨by omega, fun v hv => ?_⟩
      have := val_low h v.f0
      have := (q.2.2 v hv).2
      omega
  · unfold evalR; rw [if_neg r]; omega
end Go.Proofs.Ytbopadglafbdjaa.M
