/- LsolveLeast in plain Lean: what the reference tells of limits is what the solver tells. -/
import Derived.Test.YtbopadglafbdjaaMSp
import Derived.Test.YtbopadglafbdjaaPXxf6
import Derived.Test.YtbopadglafbdjaaPXxf30
set_option linter.unusedVariables false
set_option linter.unusedSimpArgs false
namespace Go.Proofs.Ytbopadglafbdjaa.M
open Go.RowKit Go.Proofs.Ytbopadglafbdjaa.PX Go.Proofs.YtbopadglafbdjaaW.PrintWords Go.Proofs.YtbopadglafbdjaaW.PrintLast Go.Proofs.YtbopadglafbdjaaW.PrintMore

/-! ### The bound of a level -/
theorem rbnd_l0 (N : Int) (xs : List S62) (hl : xs.length ≤ 1000000) (h0 : ∀ v ∈ xs, 0 ≤ v.f0 ∧ v.f0 ≤ 1000) : ∀ rest pre n, xs = pre ++ rest →
    Ev (fun k => telamonref1_Bound.l0 k n (pre.length : Int) N xs) (rest.foldl vbnd n)
  | [], pre, n, h => Ev.succ (by
    simp only [telamonref1_Bound.l0, at_end h, if_false]
    exact Ev.pure _)
  | v :: rest, pre, n, h => Ev.succ (by
    obtain ⟨h1, h2, h3, h4, h5⟩ := at_split h (by omega)
    have hv := h0 v (by rw [h]; simp)
    simp only [telamonref1_Bound.l0, h1, h2, h3, h4, if_true, wr (v.f0 + 1) (by omega) (by omega)]
    have e : vbnd n v = if n < v.f0 + 1 then v.f0 + 1 else n := rfl
    by_cases c : v.f0 ≥ n
    · simp only [c, if_true]
      have := rbnd_l0 N xs hl h0 rest _ (vbnd n v) h5
      rw [e, if_pos (by omega)] at this
      rw [List.foldl_cons, e, if_pos (by omega)]
      exact this
    · simp only [c, if_false]
      have := rbnd_l0 N xs hl h0 rest _ (vbnd n v) h5
      rw [e, if_neg (by omega)] at this
      rw [List.foldl_cons, e, if_neg (by omega)]
      exact this)
theorem rbnd_is (N : Int) (l : List S62) (hl : l.length ≤ 1000000) : Ev (fun k => telamonref1_Bound.f k N l) (bndR N l) := by
  unfold telamonref1_Bound.f
  refine Ev.bind (rright_is N l (by omega)) ?_
  unfold bndR
  cases h : rightB N l
  · exact Ev.pure _
  · simp only [if_true]
    exact rbnd_l0 N l hl (fun v hv => (((rightB_iff N l).1 h).2.2 v hv).1) l [] 0 rfl
theorem bnd_le {N : Int} {l : List S62} (h : rightB N l = true) (b : Int) : bndR N l ≤ b ↔ 0 ≤ b ∧ ∀ v ∈ l, v.f0 + 1 ≤ b := by
  unfold bndR
  rw [if_pos h]
  have key : ∀ (l : List S62) (n : Int), l.foldl vbnd n ≤ b ↔ n ≤ b ∧ ∀ v ∈ l, v.f0 + 1 ≤ b := by
    intro l
    induction l with
    | nil => intro n; simp
    | cons x l ih =>
      intro n
      rw [List.foldl_cons, ih]
      have : vbnd n x ≤ b ↔ n ≤ b ∧ x.f0 + 1 ≤ b := by unfold vbnd; exact mx_le _ _ _
      rw [this]
      simp only [List.forall_mem_cons]
      constructor
      · rintro ⟨⟨a, b⟩, c⟩; exact ⟨a, b, c⟩
      · rintro ⟨a, b, c⟩; exact ⟨⟨a, b⟩, c⟩
  exact key l 0
theorem bnd_can {N : Int} {l : List S62} (h : rightB N l = true) : bndR (zN N (can l)) (can l) = bndR N l := by
  refine le_ext (fun b => ?_)
  rw [bnd_le (right_can h), bnd_le h]
  refine and_congr_right (fun _ => ?_)
  constructor
  · intro hh v hv
    obtain ⟨z, hz, e, _⟩ := can_top hv
    have := hh z hz
    omega
  · exact fun hh v hv => hh v (can_mem hv)

/-! ### The first two loops -/
theorem ref_l0 (n : Int) (xs : List S45) (hl : xs.length ≤ 1000000) (hs : ∀ x ∈ xs, x.f0.f1.length ≤ 100 ∧ x.f1.f1.length ≤ 100) (R : List Int × Int) (hR : Ev (fun k => telamonref17_Limits.l1 k n xs 0) R) : ∀ rest pre, xs = pre ++ rest →
    Ev (fun k => telamonref17_Limits.l0 k n xs (pre.length : Int)) (if okAll n rest then R else ([], 13))
  | [], pre, h => Ev.succ (by
    have e : ((pre.length : Int) < (xs.length : Int)) = False := by subst h; simp
    simp only [telamonref17_Limits.l0, e, if_false]
    exact hR)
  | x :: rest, pre, h => Ev.succ (by
    obtain ⟨h1, h2, h3, h4, h5⟩ := at_split45 h (by omega)
    have hx := hs x (by rw [h]; simp)
    simp only [telamonref17_Limits.l0, h1, h2, h3, if_true]
    have hbad : Ev (fun k => telamonref17_Limits.j2 k n xs (pre.length : Int) true) ([], 13) := Ev.succ (by simp only [telamonref17_Limits.j2, if_true]; exact Ev.pure _)
    have hc : okAll n (x :: rest) = ((okL n x.f0 && okL n x.f1) && okAll n rest) := rfl
    refine Ev.bind (RNorm_is _ _ (by omega)) (Ev.bind (RNorm_is _ _ (by omega)) ?_)
    by_cases rA : rightB x.f0.f0 x.f0.f1 = true
    · by_cases rB : rightB x.f1.f0 x.f1.f1 = true
      · simp only [normR_ok rA, normR_ok rB, if_true]
        refine Ev.bind (rbnd_is _ _ (by have := can_len x.f0.f1; omega)) ?_
        rw [bnd_can rA]
        by_cases bA : bndR x.f0.f0 x.f0.f1 > n
        · simp only [bA, if_true]
          refine hbad.eq ?_
          have : okAll n (x :: rest) = false := by rw [hc]; unfold okL; rw [decide_eq_false (show ¬ bndR x.f0.f0 x.f0.f1 ≤ n by omega)]; simp
          rw [this]; rfl
        · simp only [bA, if_false]
          refine Ev.bind (rbnd_is _ _ (by have := can_len x.f1.f1; omega)) ?_
          rw [bnd_can rB]
          by_cases bB : bndR x.f1.f0 x.f1.f1 > n
          · simp only [bB, decide_true]
            refine hbad.eq ?_
            have : okAll n (x :: rest) = false := by rw [hc]; unfold okL; rw [decide_eq_false (show ¬ bndR x.f1.f0 x.f1.f1 ≤ n by omega)]; simp
            rw [this]; rfl
          · simp only [bB, decide_false]
            refine Ev.succ ?_
            simp only [telamonref17_Limits.j2, Bool.false_eq_true, if_false, h4]
            refine (ref_l0 n xs hl hs R hR rest _ h5).eq ?_
            have : okAll n (x :: rest) = okAll n rest := by
              rw [hc]; unfold okL
              rw [rA, rB, decide_eq_true (show bndR x.f0.f0 x.f0.f1 ≤ n by omega), decide_eq_true (show bndR x.f1.f0 x.f1.f1 ≤ n by omega)]; rfl
            rw [this]
      · have e : (normR x.f1.f0 x.f1.f1).2.2 = 13 := by unfold normR; rw [if_neg rB]
        simp only [normR_ok rA, e, if_true]
        refine hbad.eq ?_
        have : okAll n (x :: rest) = false := by rw [hc]; unfold okL; rw [Bool.eq_false_iff.2 rB]; simp
        rw [this]; rfl
    · have e : (normR x.f0.f0 x.f0.f1).2.2 = 13 := by unfold normR; rw [if_neg rA]
      simp only [e]
      refine hbad.eq ?_
      have : okAll n (x :: rest) = false := by rw [hc]; unfold okL; rw [Bool.eq_false_iff.2 rA]; simp
      rw [this]; rfl)
theorem ref_l1 (n : Int) (hn : 0 ≤ n ∧ n ≤ 500) (xs : List S45) (hl : xs.length ≤ 1000000) (hs : ∀ x ∈ xs, x.f0.f1.length ≤ 100 ∧ x.f1.f1.length ≤ 100) (ho : ∀ x ∈ xs, rightB x.f1.f0 x.f1.f1 = true) (R : List Int × Int)
    (hR : (∀ x ∈ xs, limR x ≠ none) → Ev (fun k => telamonref17_Limits.l2 k xs (List.replicate n.toNat 0)) R) : ∀ rest pre, xs = pre ++ rest → (∀ x ∈ pre, limR x ≠ none) →
    Ev (fun k => telamonref17_Limits.l1 k n xs (pre.length : Int)) (if rest.all (fun x => (limR x).isSome) then R else ([], 1))
  | [], pre, h, hp => Ev.succ (by
    have e : ((pre.length : Int) < (xs.length : Int)) = False := by subst h; simp
    have e1 : (0 ≤ n) = True := eq_true hn.1
    have e2 : (n.toNat ≤ 35184372088832) = True := eq_true (by omega)
    simp only [telamonref17_Limits.l1, e, e1, e2, if_false, if_true]
    refine (hR (fun x hx => hp x (by rw [h] at hx; simpa using hx))).eq ?_
    simp)
  | x :: rest, pre, h, hp => Ev.succ (by
    obtain ⟨h1, h2, h3, h4, h5⟩ := at_split45 h (by omega)
    have hm : x ∈ xs := by rw [h]; simp
    have hx := hs x hm
    have rB := ho x hm
    have hz := zN_fine rB
    simp only [telamonref17_Limits.l1, h1, h2, h3, if_true]
    have hbad : Ev (fun k => telamonref17_Limits.j4 k n xs (pre.length : Int) true) ([], 1) := Ev.succ (by simp only [telamonref17_Limits.j4, if_true]; exact Ev.pure _)
    refine Ev.bind (RNorm_is _ _ (by omega)) ?_
    rw [normR_ok rB]
    have hgood : limR x ≠ none → Ev (fun k => telamonref17_Limits.j4 k n xs (pre.length : Int) false) (if (x :: rest).all (fun x => (limR x).isSome) then R else ([], 1)) := by
      intro hne
      refine Ev.succ ?_
      simp only [telamonref17_Limits.j4, Bool.false_eq_true, if_false, h4]
      refine (ref_l1 n hn xs hl hs ho R hR rest _ h5 (fun y hy => by
        rcases List.mem_append.1 hy with hy | hy
        · exact hp y hy
        · rw [List.mem_singleton.1 hy]; exact hne)).eq ?_
      have : (limR x).isSome = true := by cases hx : limR x with
        | none => exact absurd hx hne
        | some m => rfl
      simp only [List.all_cons, this, Bool.true_and]
    have hno : limR x = none → (if (x :: rest).all (fun x => (limR x).isSome) then R else (([] : List Int), (1 : Int))) = ([], 1) := by
      intro hne; simp [hne]
    simp only
    by_cases c2 : ((can x.f1.f1).length : Int) > 1
    · simp only [c2, if_true]
      refine hbad.eq (hno ?_).symm
      unfold limR
      rw [normR_ok rB]
      simp only
      rw [if_neg (by omega), if_neg (by omega)]
    · simp only [c2, if_false]
      by_cases c1 : ((can x.f1.f1).length : Int) = 1
      · simp only [c1, if_true]
        by_cases c0 : zN x.f1.f0 (can x.f1.f1) > 0
        · simp only [c0, decide_true]
          refine hbad.eq (hno ?_).symm
          unfold limR
          rw [normR_ok rB]
          simp only
          rw [if_neg (by omega), if_neg (by omega)]
        · simp only [c0, decide_false]
          refine hgood ?_
          unfold limR
          rw [normR_ok rB]
          simp only
          rw [if_neg (by omega), if_pos (by omega)]
          simp
      · simp only [c1, if_false]
        refine hgood ?_
        unfold limR
        rw [normR_ok rB]
        simp only
        rw [if_pos (by omega)]
        simp)

/-! ### The rounds -/
def refPass : List S101 → List Int → Bool → Option (List Int × Bool)
  | [], v, s => some (v, s)
  | m :: r, v, s =>
    if m.f1 < 0 then (if EL m v > m.f2 then none else refPass r v s)
    else if EL m v > rd v m.f1 + m.f2 then (if EL m v - m.f2 > 1000 then none else refPass r (v.set m.f1.toNat (EL m v - m.f2)) true)
    else refPass r v s
theorem pass_spec {n : Nat} {MS : List S101} : ∀ (ms : List S101) (v : List Int) (s : Bool), (∀ m ∈ ms, Good n m ∧ m ∈ MS) → InR n v →
    (refPass ms v s = none → ∀ y, Sol n MS y → LeL v y → False) ∧
    ∀ v' s', refPass ms v s = some (v', s') → InR n v' ∧ LeL v v' ∧ (∀ y, Sol n MS y → LeL v y → LeL v' y) ∧ ((s' = true ∧ ((∃ i, i < n ∧ v.getD i 0 < v'.getD i 0) ∨ s = true)) ∨ (s' = s ∧ v' = v ∧ ∀ m ∈ ms, holdM m v))
  | [], v, s, hg, hv => ⟨by simp [refPass], fun v' s' h => by
      simp only [refPass, Option.some.injEq, Prod.mk.injEq] at h
      obtain ⟨rfl, rfl⟩ := h
      exact ⟨hv, LeL.refl _, fun y _ h => h, .inr ⟨rfl, rfl, by simp⟩⟩⟩
  | m :: r, v, s, hg, hv => by
    have hm := hg m (List.mem_cons_self ..)
    have hr : ∀ q ∈ r, Good n q ∧ q ∈ MS := fun q hq => hg q (List.mem_cons_of_mem _ hq)
    have key : ∀ y, Sol n MS y → LeL v y → EL m v ≤ EL m y ∧ holdM m y := fun y hy hle => ⟨EL_mono hm.1.right hv hy.1 hle, hy.2 m hm.2⟩
    simp only [refPass]
    by_cases h0 : m.f1 < 0
    · simp only [h0, if_true]
      by_cases h1 : EL m v > m.f2
      · simp only [h1, if_true]
        refine ⟨fun _ y hy hle => ?_, by simp⟩
        obtain ⟨k1, k2⟩ := key y hy hle
        unfold holdM at k2; rw [if_pos h0] at k2; omega
      · simp only [h1, if_false]
        have ih := pass_spec r v s hr hv
        refine ⟨ih.1, fun v' s' h => ?_⟩
        obtain ⟨a1, a2, a3, a4⟩ := ih.2 v' s' h
        refine ⟨a1, a2, a3, ?_⟩
        rcases a4 with a4 | ⟨b1, b2, b3⟩
        · exact .inl a4
        · refine .inr ⟨b1, b2, fun q hq => ?_⟩
          rcases List.mem_cons.1 hq with rfl | hq
          · unfold holdM; rw [if_pos h0]; omega
          · exact b3 q hq
    · simp only [h0, if_false]
      by_cases h1 : EL m v > rd v m.f1 + m.f2
      · simp only [h1, if_true]
        have hk : m.f1.toNat < v.length := by rw [hv.1]; have := hm.1.on; omega
        have hg0 := hv.get m.f1.toNat
        change EL m v > v.getD m.f1.toNat 0 + m.f2 at h1
        by_cases h2 : EL m v - m.f2 > 1000
        · simp only [h2, if_true]
          refine ⟨fun _ y hy hle => ?_, by simp⟩
          obtain ⟨k1, k2⟩ := key y hy hle
          have := hy.1.get m.f1.toNat
          unfold holdM at k2; rw [if_neg h0] at k2
          change _ ≤ y.getD m.f1.toNat 0 + _ at k2
          omega
        · simp only [h2, if_false]
          have hv2 : InR n (v.set m.f1.toNat (EL m v - m.f2)) := set_inR hv _ (by omega) (by omega)
          have hle2 : LeL v (v.set m.f1.toNat (EL m v - m.f2)) := fun i => by
            rw [getD_set]; split
            · next e => rw [← e.1]; omega
            · exact Int.le_refl _
          have hy2 : ∀ y, Sol n MS y → LeL v y → LeL (v.set m.f1.toNat (EL m v - m.f2)) y := fun y hy hle i => by
            rw [getD_set]; split
            · next e =>
              obtain ⟨k1, k2⟩ := key y hy hle
              unfold holdM at k2; rw [if_neg h0] at k2
              change _ ≤ y.getD m.f1.toNat 0 + _ at k2
              rw [← e.1]; omega
            · exact hle i
          have ih := pass_spec r _ true hr hv2
          refine ⟨fun hn y hy hle => ih.1 hn y hy (hy2 y hy hle), fun v' s' h => ?_⟩
          obtain ⟨a1, a2, a3, a4⟩ := ih.2 v' s' h
          refine ⟨a1, hle2.trans a2, fun y hy hle => a3 y hy (hy2 y hy hle), .inl ⟨?_, .inl ⟨m.f1.toNat, by have := hv.1; omega, ?_⟩⟩⟩
          · rcases a4 with ⟨b, _⟩ | ⟨b, _⟩ <;> exact b
          · have := a2 m.f1.toNat
            rw [getD_set, if_pos ⟨rfl, hk⟩] at this
            omega
      · simp only [h1, if_false]
        have ih := pass_spec r v s hr hv
        refine ⟨ih.1, fun v' s' h => ?_⟩
        obtain ⟨a1, a2, a3, a4⟩ := ih.2 v' s' h
        refine ⟨a1, a2, a3, ?_⟩
        rcases a4 with a4 | ⟨b1, b2, b3⟩
        · exact .inl a4
        · refine .inr ⟨b1, b2, fun q hq => ?_⟩
          rcases List.mem_cons.1 hq with rfl | hq
          · unfold holdM; rw [if_neg h0]; omega
          · exact b3 q hq
theorem limR_cases {x : S45} {m : S101} (h : limR x = some m) (rA : rightB x.f0.f0 x.f0.f1 = true) (rB : rightB x.f1.f0 x.f1.f1 = true) :
    (can x.f1.f1 = [] ∧ m = ⟨⟨zN x.f0.f0 (can x.f0.f1), can x.f0.f1⟩, -1, zN x.f1.f0 (can x.f1.f1)⟩) ∨
    ∃ v, can x.f1.f1 = [v] ∧ m = ⟨⟨zN x.f0.f0 (can x.f0.f1), can x.f0.f1⟩, v.f0, v.f1⟩ := by
  unfold limR at h
  rw [normR_ok rA, normR_ok rB] at h
  simp only at h
  split at h
  · next c0 => cases h; exact .inl ⟨List.eq_nil_of_length_eq_zero c0, rfl⟩
  · split at h
    · next c0 c1 =>
      cases h
      obtain ⟨v, hv⟩ := List.length_eq_one_iff.1 c1.1
      refine .inr ⟨v, hv, ?_⟩
      have e0 : rd_T62 (can x.f1.f1) 0 = v := by rw [hv]; rfl
      rw [e0]
    · cases h
theorem ref_l3 {n : Nat} (xs : List S45) (hl : xs.length ≤ 1000000) (hs : ∀ x ∈ xs, x.f0.f1.length ≤ 100 ∧ x.f1.f1.length ≤ 100) (ho : ∀ x ∈ xs, okL n x.f0 = true ∧ okL n x.f1 = true) (R : List Int × Int) :
    ∀ (rest pre : List S45) (ms : List S101) (v : List Int) (s : Bool), xs = pre ++ rest → rest.map limR = ms.map some → InR n v →
    (refPass ms v s = none → R = ([], 52)) → (∀ v' s', refPass ms v s = some (v', s') → Ev (fun k => if s' = true then telamonref17_Limits.l2 k xs v' else some (v', 0)) R) →
    Ev (fun k => telamonref17_Limits.l3 k xs v s (pre.length : Int)) R
  | [], pre, ms, v, s, h, hm, hv, hnone, hsome => Ev.succ (by
    have e : ((pre.length : Int) < (xs.length : Int)) = False := by subst h; simp
    cases ms with
    | cons m ms => cases hm
    | nil =>
      simp only [telamonref17_Limits.l3, e, if_false]
      exact hsome v s rfl)
  | x :: rest, pre, ms, v, s, h, hm, hv, hnone, hsome => Ev.succ (by
    cases ms with
    | nil => cases hm
    | cons m ms =>
      simp only [List.map_cons, List.cons.injEq] at hm
      obtain ⟨h1, h2, h3, h4, h5⟩ := at_split45 h (by omega)
      have hmem : x ∈ xs := by rw [h]; simp
      have hx := hs x hmem
      have hok := ho x hmem
      have hgood := limR_good hm.1 hok.1 hok.2
      have r1 := hok.1
      have r2 := hok.2
      unfold okL at r1 r2
      simp only [Bool.and_eq_true] at r1 r2
      have eA : evalR x.f0.f0 x.f0.f1 v = EL m v := by
        rcases limR_cases hm.1 r1.1 r2.1 with ⟨_, rfl⟩ | ⟨u, _, rfl⟩ <;> exact (eval_can hv.low r1.1).symm
      have hb := EL_bounds m hv
      simp only [telamonref17_Limits.l3, h1, h2, h3, h4, if_true]
      refine Ev.bind (reval_is _ _ _ (by omega)) (Ev.bind (RNorm_is _ _ (by omega)) ?_)
      rw [normR_ok r2.1, eA]
      have ih := ref_l3 (n := n) xs hl hs ho R rest (pre ++ [x]) ms
      rcases limR_cases hm.1 r1.1 r2.1 with ⟨hc, rfl⟩ | ⟨u, hc, rfl⟩
      · rw [hc] at hnone hsome hb eA ⊢
        simp only [refPass, Int.reduceNeg, Int.reduceLT, if_true] at hnone hsome
        have c0 : ((([] : List S62).length : Nat) : Int) = 0 := rfl
        simp only [c0, if_true]
        generalize hE : EL _ v = E at hnone hsome ⊢
        by_cases g : E > zN x.f1.f0 []
        · simp only [g, if_true] at hnone ⊢
          exact (Ev.pure _).eq (hnone (by trivial)).symm
        · simp only [g, if_false] at hnone hsome ⊢
          exact ih v s h5 hm.2 hv hnone hsome
      · have hu := ((rightB_iff _ _).1 (right_can r2.1)).2.2 u (by rw [hc]; simp)
        have e0 : rd_T62 (can x.f1.f1) 0 = u := by rw [hc]; rfl
        have hon := hgood.on
        have hlt : u.f0 < (v.length : Int) := by have := hv.1; simp only at hon; omega
        have hg := hv.get u.f0.toNat
        have c0 : ((can x.f1.f1).length : Int) = 0 ↔ False := by rw [hc]; simp
        have c1 : (0 : Int) < ((can x.f1.f1).length : Int) ↔ True := by rw [hc]; simp
        have c2 : (0 ≤ u.f0) = True := eq_true hu.1.1
        have c3 : (u.f0 < (v.length : Int)) = True := eq_true hlt
        simp only [refPass, if_neg (show ¬ u.f0 < 0 by omega)] at hnone hsome
        have hrd : rd v u.f0 = v.getD u.f0.toNat 0 := rfl
        simp only [e0, c0, c1, c2, c3, if_true, if_false, wr (rd v u.f0 + u.f1) (by rw [hrd]; omega) (by rw [hrd]; omega)]
        generalize hE : EL _ v = E at hnone hsome hb ⊢
        by_cases g : E > rd v u.f0 + u.f1
        · simp only [g, if_true, Option.bind_some, wr (E - u.f1) (by omega) (by omega)] at hnone hsome ⊢
          have e3 : rd (v.set u.f0.toNat (E - u.f1)) u.f0 = E - u.f1 := by
            show (v.set u.f0.toNat (E - u.f1)).getD u.f0.toNat 0 = _
            rw [getD_set, if_pos ⟨rfl, by omega⟩]
          rw [e3]
          by_cases g2 : E - u.f1 > 1000
          · simp only [g2, if_true] at hnone ⊢
            exact (Ev.pure _).eq (hnone (by trivial)).symm
          · simp only [g2, if_false] at hnone hsome ⊢
            exact ih _ true h5 hm.2 (set_inR hv _ (by rw [hrd] at g; omega) (by omega)) hnone hsome
        · simp only [g, if_false] at hnone hsome ⊢
          exact ih v s h5 hm.2 hv hnone hsome)
/-- What is told of limits in order, whoever tells it. -/
def Res (n : Nat) (ms : List S101) (r : List Int × Int) : Prop := (∃ x, Least n ms x ∧ r = (x, 0)) ∨ ((∀ y, ¬ Sol n ms y) ∧ r = ([], 52))
theorem res_uniq {n : Nat} {ms : List S101} {r r' : List Int × Int} (h : Res n ms r) (h' : Res n ms r') : r = r' := by
  rcases h with ⟨x, hx, rfl⟩ | ⟨hno, rfl⟩
  · rcases h' with ⟨y, hy, rfl⟩ | ⟨hno, _⟩
    · rw [LeL.antisymm hx.1.1.1 hy.1.1.1 (hx.2 _ hy.1) (hy.2 _ hx.1)]
    · exact absurd hx.1 (hno x)
  · rcases h' with ⟨y, hy, _⟩ | ⟨_, rfl⟩
    · exact absurd hy.1 (hno y)
    · rfl
theorem ref_l2 {n : Nat} (xs : List S45) (hl : xs.length ≤ 1000000) (hs : ∀ x ∈ xs, x.f0.f1.length ≤ 100 ∧ x.f1.f1.length ≤ 100) (ho : ∀ x ∈ xs, okL n x.f0 = true ∧ okL n x.f1 = true) (ms : List S101) (hm : xs.map limR = ms.map some)
    (hg : ∀ m ∈ ms, Good n m) : ∀ (k : Nat) (v : List Int), room n v ≤ k → InR n v → (∀ y, Sol n ms y → LeL v y) → ∃ R, Res n ms R ∧ Ev (fun k => telamonref17_Limits.l2 k xs v) R := by
  intro k
  induction k using Nat.strongRecOn with
  | _ k ih =>
    intro v hk hv hlow
    have hp := pass_spec (MS := ms) ms v false (fun m hm => ⟨hg m hm, hm⟩) hv
    cases hr : refPass ms v false with
    | none =>
      refine ⟨([], 52), .inr ⟨fun y hy => hp.1 hr y hy (hlow y hy), rfl⟩, Ev.succ ?_⟩
      simp only [telamonref17_Limits.l2]
      exact ref_l3 xs hl hs ho _ xs [] ms v false rfl hm hv (fun _ => rfl) (fun v' s' h => by rw [hr] at h; cases h)
    | some q =>
      obtain ⟨v', s'⟩ := q
      obtain ⟨a1, a2, a3, a4⟩ := hp.2 v' s' hr
      rcases a4 with ⟨rfl, hgr⟩ | ⟨rfl, rfl, hall⟩
      · have hgr' : ∃ i, i < n ∧ v.getD i 0 < v'.getD i 0 := by
          rcases hgr with h | h
          · exact h
          · cases h
        obtain ⟨R, hR, hE⟩ := ih (room n v') (by have := room_lt hv a1 a2 hgr'; omega) v' (Nat.le_refl _) a1 (fun y hy => a3 y hy (hlow y hy))
        refine ⟨R, hR, Ev.succ ?_⟩
        simp only [telamonref17_Limits.l2]
        refine ref_l3 xs hl hs ho _ xs [] ms v false rfl hm hv (fun h => by rw [hr] at h; cases h) (fun v2 s2 h => ?_)
        rw [hr] at h
        cases h
        simp only [if_true]
        exact hE
      · refine ⟨(v', 0), .inl ⟨v', ⟨⟨hv, hall⟩, hlow⟩, rfl⟩, Ev.succ ?_⟩
        simp only [telamonref17_Limits.l2]
        refine ref_l3 xs hl hs ho _ xs [] ms v' false rfl hm hv (fun h => by rw [hr] at h; cases h) (fun v2 s2 h => ?_)
        rw [hr] at h
        cases h
        simp only [Bool.false_eq_true, if_false]
        exact Ev.pure _
theorem all_some {α β : Type} (f : α → Option β) : ∀ l : List α, (l.all fun x => (f x).isSome) = true → ∃ ms : List β, l.map f = ms.map some
  | [], _ => ⟨[], rfl⟩
  | x :: l, h => by
    simp only [List.all_cons, Bool.and_eq_true] at h
    obtain ⟨ms, hm⟩ := all_some f l h.2
    cases hx : f x with
    | none => rw [hx] at h; simp at h
    | some m => exact ⟨m :: ms, by simp [hx, hm]⟩
theorem Limits_is (a0 : Int) (l : List S45) (hl : l.length ≤ 1000000) (hs : ∀ x ∈ l, x.f0.f1.length ≤ 100 ∧ x.f1.f1.length ≤ 100) : Ev (fun k => telamonref17_Limits.f k a0 l) (solveF a0 l) := by
  unfold telamonref17_Limits.f
  have hb : (a0 < 0 ∨ a0 > 500 ∨ (l.length : Int) > 2000) → Ev (fun k => telamonref17_Limits.j0 k a0 l true) (solveF a0 l) := fun h => Ev.succ (by
    simp only [telamonref17_Limits.j0, if_true]
    refine (Ev.pure _).eq ?_
    unfold solveF; rw [if_pos h])
  by_cases c1 : a0 < 0
  · simp only [c1, if_true]; exact hb (.inl c1)
  by_cases c2 : a0 > 500
  · simp only [c1, c2, if_true, if_false]; exact hb (.inr (.inl c2))
  by_cases c3 : (l.length : Int) > 2000
  · simp only [c1, c2, c3, if_false, decide_true]; exact hb (.inr (.inr c3))
  simp only [c1, c2, c3, if_false, decide_false]
  refine Ev.succ ?_
  simp only [telamonref17_Limits.j0, Bool.false_eq_true, if_false]
  have hn : (a0.toNat : Int) = a0 := by omega
  have hsol : solveF a0 l = if (askB a0 l).2 = 0 then (roundsR a0 (askB a0 l).1 (a0.toNat + 2) 0 (List.replicate a0.toNat 0)).elim ([], 52) (fun c => if overB c (askB a0 l).1 then ([], 52) else (c, 0)) else ([], (askB a0 l).2) := by
    unfold solveF; rw [if_neg (by omega)]
  by_cases hok : okAll a0 l = true
  · have ho := (okAll_iff _ _).1 hok
    have hask : askB a0 l = askG [] l := by unfold askB; rw [if_pos hok]
    refine (ref_l0 a0 l hl hs (solveF a0 l) ?_ l [] rfl).eq (by rw [hok]; rfl)
    have hrB : ∀ x ∈ l, rightB x.f1.f0 x.f1.f1 = true := fun x hx => by
      have := (ho x hx).2
      unfold okL at this
      simp only [Bool.and_eq_true] at this
      exact this.1
    by_cases hall : (l.all fun x => (limR x).isSome) = true
    · obtain ⟨ms, hm⟩ := all_some limR l hall
      have hask2 : askB a0 l = (ms, 0) := by rw [hask, askG_of l [] ms hm]; rfl
      have hg : ∀ m ∈ ms, Good a0.toNat m := askB_good (by rw [hn]; exact hask2)
      refine (ref_l1 a0 (by omega) l hl hs hrB (solveF a0 l) (fun _ => ?_) l [] rfl (by simp)).eq (by rw [hall]; rfl)
      obtain ⟨R, hR, hE⟩ := ref_l2 (n := a0.toNat) l hl hs (by rw [hn]; exact ho) ms hm hg _ (List.replicate a0.toNat 0) (Nat.le_refl _) (zeros_inR _) (fun y hy => zeros_le hy.1)
      have hS : Res a0.toNat ms (solveF a0 l) := by
        rcases solve_spec (by omega) (by omega) (by omega) hask2 with ⟨x, hx, h⟩ | ⟨hno, h⟩
        · exact .inl ⟨x, hx, h⟩
        · exact .inr ⟨hno, h⟩
      exact hE.eq (res_uniq hR hS)
    · have hcode : (askB a0 l).2 = 1 := by
        rw [hask]
        rcases askG_code l [] with h | h
        · exfalso
          obtain ⟨ms, _, hm⟩ := askG_map l [] (askG [] l).1 (by rw [← h])
          apply hall
          refine List.all_eq_true.2 (fun x hx => ?_)
          have : limR x ∈ ms.map some := by rw [← hm]; exact List.mem_map.2 ⟨x, hx, rfl⟩
          obtain ⟨m, _, he⟩ := List.mem_map.1 this
          rw [← he]; rfl
        · exact h
      have h1 : solveF a0 l = ([], 1) := by rw [hsol, hcode]; rfl
      refine (ref_l1 a0 (by omega) l hl hs hrB (solveF a0 l) (fun h => ?_) l [] rfl (by simp)).eq (by rw [if_neg (by simpa using hall), h1])
      exfalso
      apply hall
      refine List.all_eq_true.2 (fun x hx => ?_)
      cases hx' : limR x with
      | none => exact absurd hx' (h x hx)
      | some m => rfl
  · have h1 : solveF a0 l = ([], 13) := by
      rw [hsol]; unfold askB; rw [if_neg hok]; rfl
    rw [h1]
    -- what the second loop would tell does not matter
    have hbad : ∀ rest pre, l = pre ++ rest → okAll a0 rest = false → Ev (fun k => telamonref17_Limits.l0 k a0 l (pre.length : Int)) (([] : List Int), (13 : Int)) := by
      intro rest
      induction rest with
      | nil => intro pre _ h; cases h
      | cons x rest ih =>
        intro pre h hf
        refine Ev.succ ?_
        obtain ⟨h1, h2, h3, h4, h5⟩ := at_split45 h (by omega)
        have hx := hs x (by rw [h]; simp)
        simp only [telamonref17_Limits.l0, h1, h2, h3, if_true]
        have hbad : Ev (fun k => telamonref17_Limits.j2 k a0 l (pre.length : Int) true) (([] : List Int), (13 : Int)) := Ev.succ (by simp only [telamonref17_Limits.j2, if_true]; exact Ev.pure _)
        have hc : okAll a0 (x :: rest) = ((okL a0 x.f0 && okL a0 x.f1) && okAll a0 rest) := rfl
        refine Ev.bind (RNorm_is _ _ (by omega)) (Ev.bind (RNorm_is _ _ (by omega)) ?_)
        by_cases rA : rightB x.f0.f0 x.f0.f1 = true
        · by_cases rB : rightB x.f1.f0 x.f1.f1 = true
          · simp only [normR_ok rA, normR_ok rB, if_true]
            refine Ev.bind (rbnd_is _ _ (by have := can_len x.f0.f1; omega)) ?_
            rw [bnd_can rA]
            by_cases bA : bndR x.f0.f0 x.f0.f1 > a0
            · simp only [bA, if_true]; exact hbad
            · simp only [bA, if_false]
              refine Ev.bind (rbnd_is _ _ (by have := can_len x.f1.f1; omega)) ?_
              rw [bnd_can rB]
              by_cases bB : bndR x.f1.f0 x.f1.f1 > a0
              · simp only [bB, decide_true]; exact hbad
              · simp only [bB, decide_false]
                refine Ev.succ ?_
                simp only [telamonref17_Limits.j2, Bool.false_eq_true, if_false, h4]
                refine ih _ h5 ?_
                rw [hc] at hf
                unfold okL at hf
                rw [rA, rB, decide_eq_true (show bndR x.f0.f0 x.f0.f1 ≤ a0 by omega), decide_eq_true (show bndR x.f1.f0 x.f1.f1 ≤ a0 by omega)] at hf
                simpa using hf
          · have e : (normR x.f1.f0 x.f1.f1).2.2 = 13 := by unfold normR; rw [if_neg rB]
            simp only [normR_ok rA, e, if_true]
            exact hbad
        · have e : (normR x.f0.f0 x.f0.f1).2.2 = 13 := by unfold normR; rw [if_neg rA]
          simp only [e]
          exact hbad
    exact hbad l [] rfl (Bool.eq_false_iff.2 hok)
theorem same_l1 (a : List Int) (hl : a.length ≤ 1000000) : ∀ (d i : Nat), i + d = a.length → Ev (fun k => telamonlaw19_LsolveLeast.l1 k a a (i : Int)) true
  | 0, i, hd => Ev.succ (by
    have hc : ((i : Int) < (a.length : Int)) = False := eq_false (by omega)
    simp only [telamonlaw19_LsolveLeast.l1, hc, if_false]
    exact Ev.pure _)
  | d + 1, i, hd => Ev.succ (by
    have hc : ((i : Int) < (a.length : Int)) = True := eq_true (by omega)
    have hc2 : ((0 : Int) ≤ (i : Int)) = True := eq_true (by omega)
    have hw : wrap64 ((i : Int) + 1) = ((i + 1 : Nat) : Int) := by rw [wr _ (by omega) (by omega)]; push_cast; rfl
    simp only [telamonlaw19_LsolveLeast.l1, hc, hc2, if_true, hw]
    exact same_l1 a hl d (i + 1) (by omega))
theorem solve_len (a0 : Int) (l : List S45) : (solveF a0 l).1.length ≤ 1000000 := by
  unfold solveF
  split
  · simp
  · next h =>
    split
    · next h2 =>
      cases hr : roundsR a0 (askB a0 l).1 (a0.toNat + 2) 0 (List.replicate a0.toNat 0) with
      | none => simp
      | some c =>
        have hask : askB a0 l = ((askB a0 l).1, 0) := by rw [← h2]
        have hn : (a0.toNat : Int) = a0 := by omega
        have hg : ∀ m ∈ (askB a0 l).1, Good a0.toNat m := askB_good (by rw [hn]; exact hask)
        have := (rounds_some hg _ _ _ c (zeros_inR _) hr).1.1
        simp only [Option.elim_some]
        split <;> simp <;> omega
    · simp
theorem least_l0 (a0 : Int) (l : List S45) (hl : l.length ≤ 2100) : ∀ rest pre, l = pre ++ rest → (∀ x ∈ pre, x.f0.f1.length ≤ 100 ∧ x.f1.f1.length ≤ 100) → Ev (fun k => telamonlaw19_LsolveLeast.l0 k a0 l (pre.length : Int)) true
  | [], pre, h, hp => Ev.succ (by
    have e : ((pre.length : Int) < (l.length : Int)) = False := by subst h; simp
    simp only [telamonlaw19_LsolveLeast.l0, e, if_false, lsolve_Solve.f, Option.bind_some]
    refine Ev.bind (Limits_is a0 l (by omega) (fun x hx => hp x (by rw [h] at hx; simpa using hx))) ?_
    simp only [telamonlaw19_num.f, Option.bind_some, if_true, bne_self_eq_false]
    refine Ev.succ ?_
    simp only [telamonlaw19_LsolveLeast.j2, Bool.false_eq_true, if_false]
    exact same_l1 _ (solve_len a0 l) (solveF a0 l).1.length 0 (by omega))
  | x :: rest, pre, h, hp => Ev.succ (by
    obtain ⟨h1, h2, h3, h4, h5⟩ := at_split45 h (by omega)
    simp only [telamonlaw19_LsolveLeast.l0, h1, h2, h3, h4, if_true]
    by_cases c1 : ((x.f0.f1.length : Nat) : Int) > 100
    · simp only [c1, if_true]; exact Ev.pure _
    · by_cases c2 : ((x.f1.f1.length : Nat) : Int) > 100
      · simp only [c1, c2, if_true, if_false]; exact Ev.pure _
      · simp only [c1, c2, if_false]
        exact least_l0 a0 l hl rest _ h5 (fun y hy => by
          rcases List.mem_append.1 hy with hy | hy
          · exact hp y hy
          · rw [List.mem_singleton.1 hy]; omega))
theorem LLeast (a0 : Int) (l : List S45) : Ev (fun k => telamonlaw19_LsolveLeast.f k a0 l) true := by
  simp only [telamonlaw19_LsolveLeast.f, alive19, Option.bind_some, if_true]
  have hb : Ev (fun k => telamonlaw19_LsolveLeast.j0 k a0 l true true) true := Ev.succ (by simp only [telamonlaw19_LsolveLeast.j0, if_true]; exact Ev.pure _)
  by_cases c1 : (l.length : Int) > 2100
  · simp only [c1, if_true]; exact hb
  by_cases c2 : a0 > 600
  · simp only [c1, c2, if_false, decide_true]; exact hb
  simp only [c1, c2, if_false, decide_false]
  refine Ev.succ ?_
  simp only [telamonlaw19_LsolveLeast.j0, Bool.false_eq_true, if_false]
  exact least_l0 a0 l (by omega) l [] rfl (by simp)
end Go.Proofs.Ytbopadglafbdjaa.M
