/- Plain Lean: what the solver tells: the least solution, or that there is none, or what is wrong. -/
import Derived.Test.YtbopadglafbdjaaMSol
import Derived.Test.YtbopadglafbdjaaMA
import Derived.Test.YtbopadglafbdjaaPXxf29
import Derived.Test.YtbopadglafbdjaaPXxf28
set_option linter.unusedVariables false
set_option linter.unusedSimpArgs false
namespace Go.Proofs.Ytbopadglafbdjaa.M
open Go.RowKit Go.Proofs.Ytbopadglafbdjaa.PX Go.Proofs.YtbopadglafbdjaaW.PrintWords Go.Proofs.YtbopadglafbdjaaW.PrintLast Go.Proofs.YtbopadglafbdjaaW.PrintMore

theorem alive19 : telamonlaw19_alive.f = some true := by kernel_rfl

theorem askG_map : ∀ (l : List S45) (out ms : List S101), askG out l = (ms, 0) → ∃ ms', ms = out ++ ms' ∧ l.map limR = ms'.map some
  | [], out, ms, h => by cases h; exact ⟨[], by simp⟩
  | x :: l, out, ms, h => by
    simp only [askG] at h
    cases hx : limR x with
    | none => rw [hx] at h; cases h
    | some m =>
      rw [hx] at h
      obtain ⟨ms', h1, h2⟩ := askG_map l _ _ h
      exact ⟨m :: ms', by rw [h1]; simp, by simp [hx, h2]⟩
theorem askG_code : ∀ (l : List S45) (out : List S101), (askG out l).2 = 0 ∨ (askG out l).2 = 1
  | [], out => .inl rfl
  | x :: l, out => by
    simp only [askG]
    cases limR x with
    | none => exact .inr rfl
    | some m => exact askG_code l _
theorem askG_of : ∀ (l : List S45) (out ms : List S101), l.map limR = ms.map some → askG out l = (out ++ ms, 0)
  | [], out, ms, h => by
    cases ms with
    | nil => simp [askG]
    | cons m ms => cases h
  | x :: l, out, ms, h => by
    cases ms with
    | nil => cases h
    | cons m ms =>
      simp only [List.map_cons, List.cons.injEq] at h
      simp only [askG, h.1]
      rw [askG_of l _ ms h.2]
      simp
theorem askB_map {n : Int} {l : List S45} {ms : List S101} (h : askB n l = (ms, 0)) : okAll n l = true ∧ l.map limR = ms.map some := by
  unfold askB at h
  split at h
  · next ho =>
    obtain ⟨ms', h1, h2⟩ := askG_map l [] ms h
    rw [List.nil_append] at h1
    subst h1
    exact ⟨ho, h2⟩
  · cases h
theorem zN_fine {N : Int} {l : List S62} (h : rightB N l = true) : 0 ≤ zN N (can l) ∧ zN N (can l) ≤ 1000 := by
  have := (rightB_iff _ _).1 h
  rcases zN_cases N (can l) with ⟨e, _⟩ | ⟨e, _⟩ <;> rw [e] <;> omega
theorem normR_ok {N : Int} {l : List S62} (h : rightB N l = true) : normR N l = (zN N (can l), can l, 0) := by unfold normR; rw [if_pos h]
theorem limR_good {n : Nat} {x : S45} {m : S101} (h : limR x = some m) (h0 : okL n x.f0 = true) (h1 : okL n x.f1 = true) : Good n m := by
  have hon := limR_on (n := (n : Int)) (by omega) h h1
  unfold okL at h0 h1
  simp only [Bool.and_eq_true, decide_eq_true_eq] at h0 h1
  have hB := (rightB_iff _ _).1 h1.1
  have hz := zN_fine h1.1
  unfold limR at h
  rw [normR_ok h0.1, normR_ok h1.1] at h
  split at h
  · cases h
    exact ⟨right_can h0.1, hz.1, hz.2, hon⟩
  · split at h
    · next c0 c1 =>
      cases h
      refine ⟨right_can h0.1, ?_, ?_, hon⟩
      all_goals
        obtain ⟨v, hv⟩ := List.length_eq_one_iff.1 c1.1
        have hm : v ∈ can x.f1.f1 := by
          have : v ∈ [v] := by simp
          rw [← hv] at this; exact this
        have h2 := (hB.2.2 v (can_mem hm)).2
        have hv' : can x.f1.f1 = [v] := hv
        have e0 : rd_T62 (can x.f1.f1) 0 = v := by rw [hv']; rfl
        first
          | (show 0 ≤ (rd_T62 (can x.f1.f1) 0).f1; rw [e0]; exact h2.1)
          | (show (rd_T62 (can x.f1.f1) 0).f1 ≤ 1000; rw [e0]; exact h2.2)
    · cases h
theorem askB_good {n : Nat} {l : List S45} {ms : List S101} (h : askB n l = (ms, 0)) : ∀ m ∈ ms, Good n m := by
  obtain ⟨ho, hm⟩ := askB_map h
  intro m hmem
  have : some m ∈ l.map limR := by rw [hm]; exact List.mem_map.2 ⟨m, hmem, rfl⟩
  obtain ⟨x, hx, he⟩ := List.mem_map.1 this
  have := (okAll_iff _ _).1 ho x hx
  exact limR_good he this.1 this.2

/-- What the solver tells of limits in order. -/
theorem solve_spec {a0 : Int} {l : List S45} (h0 : 0 ≤ a0) (h1 : a0 ≤ 500) (h2 : l.length ≤ 2000) {ms : List S101} (hask : askB a0 l = (ms, 0)) :
    (∃ x, Least a0.toNat ms x ∧ solveF a0 l = (x, 0)) ∨ ((∀ y, ¬ Sol a0.toNat ms y) ∧ solveF a0 l = ([], 52)) := by
  have ha : (a0.toNat : Int) = a0 := by omega
  have hg : ∀ m ∈ ms, Good a0.toNat m := askB_good (by rw [ha]; exact hask)
  have hs : solveF a0 l = (roundsR a0 ms (a0.toNat + 2) 0 (List.replicate a0.toNat 0)).elim ([], 52) fun c => if overB c ms then ([], 52) else (c, 0) := by
    unfold solveF
    rw [if_neg (by omega), hask, if_pos rfl]
  rcases least_dec hg with ⟨x, hx⟩ | hno
  · left
    refine ⟨x, hx, ?_⟩
    have hr := rounds_least hg hx (a0.toNat + 2) 0 (List.replicate a0.toNat 0) (zeros_inR _) (zeros_le hx.1.1) (by have := lowN_le a0.toNat (List.replicate a0.toNat 0) x; omega) (by omega)
    rw [ha] at hr
    have hr' : roundsR a0 ms (a0.toNat + 2) 0 (List.replicate a0.toNat 0) = some x := hr
    rw [hs, hr']
    have hov : overB x ms = false := by
      unfold overB
      refine List.any_eq_false.2 (fun m hm => ?_)
      have := hx.1.2 m hm
      unfold holdM at this
      simp only [Bool.and_eq_true, decide_eq_true_eq, not_and]
      intro hn
      rw [if_pos hn] at this
      show ¬ EL m x > m.f2
      omega
    show (if overB x ms then _ else _) = _
    rw [hov]; rfl
  · right
    refine ⟨hno, ?_⟩
    rw [hs]
    cases hr : roundsR a0 ms (a0.toNat + 2) 0 (List.replicate a0.toNat 0) with
    | none => rfl
    | some c =>
      obtain ⟨hc, hy⟩ := rounds_some hg _ _ _ c (zeros_inR _) hr
      have hov : overB c ms = true := by
        apply Classical.byContradiction
        intro hn
        refine hno c ⟨hc, fun m hm => ?_⟩
        by_cases h0 : m.f1 < 0
        · unfold holdM
          rw [if_pos h0]
          apply Classical.byContradiction
          intro hh
          refine hn (List.any_eq_true.2 ⟨m, hm, ?_⟩)
          simp only [Bool.and_eq_true, decide_eq_true_eq]
          exact ⟨h0, show EL m c > m.f2 by omega⟩
        · exact ys_nil ms hc hg hy m hm (by omega)
      show (if overB c ms then _ else _) = _
      rw [hov]; rfl

/-! ### A limit and the numbers of its two levels -/
theorem eval_can {vals : List Int} (hv : Low vals) {N : Int} {l : List S62} (h : rightB N l = true) : evalR (zN N (can l)) (can l) vals = evalR N l vals := by
  have hb := (rightB_iff _ _).1 h
  refine le_ext (fun c => ?_)
  rw [evalR_le hv c _ _ (right_can h), evalR_le hv c _ _ h]
  exact upTo_can vals c N l hb.1.1 (fun v hm => (hb.2.2 v hm).2.1)
/-- A limit holds in the solver's form where the number of the one level is at most that of the other. -/
theorem limR_hold {n : Nat} {x : S45} {m : S101} (h : limR x = some m) (h0 : okL n x.f0 = true) (h1 : okL n x.f1 = true) {y : List Int} (hy : InR n y) :
    holdM m y ↔ evalR x.f0.f0 x.f0.f1 y ≤ evalR x.f1.f0 x.f1.f1 y := by
  have hgood := limR_good h h0 h1
  unfold okL at h0 h1
  simp only [Bool.and_eq_true, decide_eq_true_eq] at h0 h1
  have hz := zN_fine h1.1
  have eA := eval_can hy.low h0.1
  have eB := eval_can hy.low h1.1
  have rB := right_can h1.1
  unfold limR at h
  rw [normR_ok h0.1, normR_ok h1.1] at h
  simp only at h
  split at h
  · next c0 =>
    cases h
    have hnil := List.eq_nil_of_length_eq_zero c0
    unfold holdM EL
    simp only [Int.reduceNeg, Int.reduceLT, if_true]
    rw [eA, ← eB, hnil]
    have : evalR (zN x.f1.f0 []) [] y = zN x.f1.f0 [] := by
      unfold evalR
      rw [hnil] at rB
      rw [if_pos rB]; rfl
    rw [this]
  · split at h
    · next c0 c1 =>
      cases h
      obtain ⟨v, hv⟩ := List.length_eq_one_iff.1 c1.1
      have hm : v ∈ can x.f1.f1 := by rw [hv]; simp
      have hr := ((rightB_iff _ _).1 rB).2.2 v hm
      unfold holdM EL
      have e0 : rd_T62 (can x.f1.f1) 0 = v := by rw [hv]; rfl
      simp only [e0]
      rw [if_neg (by omega), eA, ← eB, c1.2, hv]
      have hvn : v.f0 < (n : Int) := by
        have := hgood.on
        simpa only [e0] using this
      have hg := hy.get v.f0.toNat
      have e1 : evalR 0 [v] y = rd y v.f0 + v.f1 := by
        have r1 : rightB 0 [v] = true := by rw [← c1.2, ← hv]; exact rB
        refine le_ext (fun c => ?_)
        rw [evalR_le hy.low c _ _ r1]
        unfold UpTo
        simp only [List.mem_singleton, forall_eq]
        rw [val_eq hy, if_pos hvn]
        show _ ↔ y.getD v.f0.toNat 0 + v.f1 ≤ c
        omega
      rw [e1]
    · cases h
theorem sol_iff {n : Nat} {l : List S45} {ms : List S101} (h : askB n l = (ms, 0)) {y : List Int} (hy : InR n y) :
    Sol n ms y ↔ ∀ x ∈ l, evalR x.f0.f0 x.f0.f1 y ≤ evalR x.f1.f0 x.f1.f1 y := by
  obtain ⟨ho, hm⟩ := askB_map h
  have hok := (okAll_iff _ _).1 ho
  constructor
  · intro hs x hx
    have : limR x ∈ ms.map some := by rw [← hm]; exact List.mem_map.2 ⟨x, hx, rfl⟩
    obtain ⟨m, hmm, he⟩ := List.mem_map.1 this
    exact (limR_hold he.symm (hok x hx).1 (hok x hx).2 hy).1 (hs.2 m hmm)
  · intro hs
    refine ⟨hy, fun m hmm => ?_⟩
    have : some m ∈ l.map limR := by rw [hm]; exact List.mem_map.2 ⟨m, hmm, rfl⟩
    obtain ⟨x, hx, he⟩ := List.mem_map.1 this
    exact (limR_hold he (hok x hx).1 (hok x hx).2 hy).2 (hs x hx)
end Go.Proofs.Ytbopadglafbdjaa.M
