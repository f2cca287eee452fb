/- Plain Lean: what the solver's 'ask' tells of a list of limits. -/
import Derived.Test.YtbopadglafbdjaaML
import Derived.Test.YtbopadglafbdjaaPXxf70
set_option linter.unusedVariables false
set_option linter.unusedSimpArgs false
namespace Go.Proofs.Ytbopadglafbdjaa.M
open Go.RowKit Go.Proofs.Ytbopadglafbdjaa.PX Go.Proofs.YtbopadglafbdjaaW.PrintWords Go.Proofs.YtbopadglafbdjaaW.PrintLast Go.Proofs.YtbopadglafbdjaaW.PrintMore

/-- A limit as the solver keeps it; none: its B is not a number alone, or one variable. -/
def limR (x : S45) : Option S101 :=
  if (normR x.f1.f0 x.f1.f1).2.1.length = 0 then some ⟨⟨(normR x.f0.f0 x.f0.f1).1, (normR x.f0.f0 x.f0.f1).2.1⟩, -1, (normR x.f1.f0 x.f1.f1).1⟩
  else if (normR x.f1.f0 x.f1.f1).2.1.length = 1 ∧ (normR x.f1.f0 x.f1.f1).1 = 0 then
    some ⟨⟨(normR x.f0.f0 x.f0.f1).1, (normR x.f0.f0 x.f0.f1).2.1⟩, (rd_T62 (normR x.f1.f0 x.f1.f1).2.1 0).f0, (rd_T62 (normR x.f1.f0 x.f1.f1).2.1 0).f1⟩
  else none
def askG : List S101 → List S45 → List S101 × Int
  | out, [] => (out, 0)
  | out, x :: l => match limR x with
    | none => (out, 1)
    | some m => askG (out ++ [m]) l
def okAll (n : Int) (l : List S45) : Bool := l.all fun x => okL n x.f0 && okL n x.f1
/-- What ask tells. -/
def askB (n : Int) (l : List S45) : List S101 × Int := if okAll n l then askG [] l else ([], 13)

theorem at_split45 {xs pre rest : List S45} {v : S45} (h : xs = pre ++ v :: rest) (hl : xs.length ≤ 1000000000000) :
    ((pre.length : Int) < (xs.length : Int)) = True ∧ ((0 : Int) ≤ (pre.length : Int)) = True ∧ rd_T45 xs (pre.length : Int) = v ∧ wrap64 ((pre.length : Int) + 1) = ((pre ++ [v]).length : Int) ∧ xs = (pre ++ [v]) ++ rest := by
  subst h
  refine ⟨by simp; omega, by simp, by simp [rd_T45, List.getD_eq_getElem?_getD], ?_, by simp⟩
  simp only [List.length_append, List.length_cons, List.length_nil] at hl ⊢
  unfold wrap64; omega
theorem ask_l0 (xs : List S45) (hl : xs.length ≤ 1000000) : ∀ rest pre out, xs = pre ++ rest → out.length ≤ pre.length →
    Ev (fun k => lsolve_ask.l0 k xs (xs.length : Int) (pre.length : Int) out) (askG out rest)
  | [], pre, out, h, ho => Ev.succ (by
    have e : ((pre.length : Int) < (xs.length : Int)) = False := by subst h; simp
    simp only [lsolve_ask.l0, e, if_false]
    exact Ev.pure _)
  | x :: rest, pre, out, h, ho => Ev.succ (by
    obtain ⟨h1, h2, h3, h4, h5⟩ := at_split45 h (by omega)
    have hp : (out.length < 2932031007402) = True := by
      have e : xs.length = pre.length + (rest.length + 1) := by rw [h]; simp
      simp; omega
    simp only [lsolve_ask.l0, h1, h2, h3, h4, if_true, hp]
    refine Ev.bind (Norm_all _ _) (Ev.bind (Norm_all _ _) ?_)
    simp only [askG, limR]
    by_cases c0 : (normR x.f1.f0 x.f1.f1).2.1.length = 0
    · have d0 : (((normR x.f1.f0 x.f1.f1).2.1.length : Int) = 0) = True := eq_true (by omega)
      simp only [d0, c0, if_true]
      exact ask_l0 xs hl rest _ _ h5 (by simp; omega)
    · have d0 : (((normR x.f1.f0 x.f1.f1).2.1.length : Int) = 0) = False := eq_false (by omega)
      simp only [d0, c0, if_false]
      by_cases c1 : (normR x.f1.f0 x.f1.f1).2.1.length = 1
      · have d1 : (((normR x.f1.f0 x.f1.f1).2.1.length : Int) = 1) = True := eq_true (by omega)
        by_cases c2 : (normR x.f1.f0 x.f1.f1).1 = 0
        · have c3 : ((0 : Int) < ((normR x.f1.f0 x.f1.f1).2.1.length : Int)) = True := eq_true (by omega)
          simp only [d1, c1, c2, c3, if_true, and_self]
          exact ask_l0 xs hl rest _ _ h5 (by simp; omega)
        · simp only [d1, c1, c2, if_true, if_false, and_false]; exact Ev.pure _
      · have d1 : (((normR x.f1.f0 x.f1.f1).2.1.length : Int) = 1) = False := eq_false (by omega)
        simp only [d1, c1, if_false, false_and]; exact Ev.pure _)
theorem ask_is (xs : List S45) (hl : xs.length ≤ 1000000) : Ev (fun k => lsolve_ask.l0 k xs (xs.length : Int) 0 []) (askG [] xs) := ask_l0 xs hl xs [] [] rfl (Nat.le_refl _)

theorem bnd_ge {N : Int} {l : List S62} (h : rightB N l = true) : ∀ v ∈ l, v.f0 + 1 ≤ bndR N l := by
  unfold bndR
  rw [if_pos h]
  have key : ∀ (l : List S62) (n : Int), n ≤ l.foldl vbnd n ∧ ∀ v ∈ l, v.f0 + 1 ≤ l.foldl vbnd n := by
    intro l
    induction l with
    | nil => intro n; exact ⟨Int.le_refl _, by simp⟩
    | cons x l ih =>
      intro n
      have h1 := ih (vbnd n x)
      have h2 : n ≤ vbnd n x ∧ x.f0 + 1 ≤ vbnd n x := by unfold vbnd mx; split <;> omega
      refine ⟨by simp only [List.foldl_cons]; omega, fun v hv => ?_⟩
      simp only [List.foldl_cons]
      rcases List.mem_cons.1 hv with rfl | hv
      · omega
      · exact h1.2 v hv
  exact (key l 0).2
theorem limR_on {n : Int} {x : S45} {m : S101} (hn : 0 ≤ n) (h : limR x = some m) (ho : okL n x.f1 = true) : m.f1 < n := by
  unfold limR at h
  unfold okL at ho
  simp only [Bool.and_eq_true, decide_eq_true_eq] at ho
  split at h
  · cases h; show (-1 : Int) < n; omega
  · split at h
    · next h1 h2 =>
      cases h
      show (rd_T62 (normR x.f1.f0 x.f1.f1).2.1 0).f0 < n
      obtain ⟨v, hv⟩ := List.length_eq_one_iff.1 h2.1
      have hm : v ∈ (normR x.f1.f0 x.f1.f1).2.1 := by rw [hv]; simp
      rw [hv]
      show v.f0 < n
      unfold normR at hm
      rw [if_pos ho.1] at hm
      have := bnd_ge ho.1 v (can_mem hm)
      omega
    · cases h
theorem askG_on {n : Int} (hn : 0 ≤ n) : ∀ (l : List S45) (out : List S101), (∀ x ∈ l, okL n x.f1 = true) → (∀ m ∈ out, m.f1 < n) → ∀ m ∈ (askG out l).1, m.f1 < n
  | [], out, _, ho => ho
  | x :: l, out, hl, ho => by
    simp only [askG]
    cases hx : limR x with
    | none => exact ho
    | some m =>
      exact askG_on hn l _ (fun y hy => hl y (List.mem_cons_of_mem _ hy)) (fun q hq => by
        rcases List.mem_append.1 hq with hq | hq
        · exact ho q hq
        · rw [List.mem_singleton.1 hq]; exact limR_on hn hx (hl x (List.mem_cons_self ..)))
theorem okAll_iff (n : Int) (l : List S45) : okAll n l = true ↔ ∀ x ∈ l, okL n x.f0 = true ∧ okL n x.f1 = true := by simp [okAll, List.all_eq_true]
theorem askB_on {n : Int} (hn : 0 ≤ n) (l : List S45) : ∀ m ∈ (askB n l).1, m.f1 < n := by
  unfold askB
  split
  · next h => exact askG_on hn l [] (fun x hx => ((okAll_iff n l).1 h x hx).2) (by simp)
  · simp
theorem ask_calls (a0 : Int) (A1 : Option Addr) (c1 : Nat) (l1 : List (S45)) (r1 : List (S101)) (r2 : Int) (w : World) (hr1 : Kd.C k45 w A1 l1.length l1) (hc1 : l1.length ≤ c1) (hl : l1.length ≤ 2000) (h : askB a0 l1 = (r1, r2)) :
    Calls Try.prog 70 #[.int .i64 a0, .slice A1 l1.length c1] w fun e w' => ∃ v0_ : Value, e = .returned (.tuple #[.agg #[v0_], .int .i64 r2]) ∧ Kd.S k101 101 w' w.heap.size (fun _ => True) v0_ r1 ∧ Below w.heap.size w w' := by
  unfold askB at h
  split at h
  · next hok =>
    obtain ⟨k, hk⟩ := (ask_is l1 (by omega)).ex
    rw [h] at hk
    exact lsolve_ask.calls k a0 A1 c1 l1 r1 r2 w hr1 hc1 ((okAll_iff a0 l1).1 hok) hk
  · next hok =>
    cases h
    refine (lsolve_ask.bad 0 a0 A1 c1 l1 w hr1 hc1 ?_).mono ?_
    · apply Classical.byContradiction
      intro hn
      exact hok ((okAll_iff a0 l1).2 (fun x hx => Classical.byContradiction fun hx' => hn ⟨x, hx, hx'⟩))
    · rintro e w' ⟨rfl, hb⟩
      exact ⟨_, rfl, Kd.S_nil _ _ _ _ _, hb⟩
end Go.Proofs.Ytbopadglafbdjaa.M
