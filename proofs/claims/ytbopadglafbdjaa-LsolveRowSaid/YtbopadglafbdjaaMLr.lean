/- LsolveRow in plain Lean. -/
import Derived.Test.YtbopadglafbdjaaMSp
import Derived.Test.YtbopadglafbdjaaPXxf8
set_option linter.unusedVariables false
set_option linter.unusedSimpArgs false
namespace Go.Proofs.Ytbopadglafbdjaa.M
open Go.RowKit Go.Proofs.Ytbopadglafbdjaa.PX Go.Proofs.YtbopadglafbdjaaW.PrintWords Go.Proofs.YtbopadglafbdjaaW.PrintLast Go.Proofs.YtbopadglafbdjaaW.PrintMore

/-- A variable and what is added. -/
def vL (i a : Int) : S43 := ⟨0, [⟨i, a⟩]⟩
/-- The first limit, and the first m of the row. -/
def rowL (first : Int) : Nat → List S45
  | 0 => [⟨⟨first, []⟩, vL 0 0⟩]
  | m + 1 => rowL first m ++ [⟨vL m 1, vL (m + 1) 0⟩]
theorem rowL_len (first : Int) (m : Nat) : (rowL first m).length = m + 1 := by
  induction m with
  | zero => rfl
  | succ m ih => simp [rowL, ih]
/-- The same as the solver keeps them. -/
def rowM (first : Int) : Nat → List S101
  | 0 => [⟨⟨first, []⟩, 0, 0⟩]
  | m + 1 => rowM first m ++ [⟨vL m 1, m + 1, 0⟩]
theorem vL_right {i a : Int} (h0 : 0 ≤ i ∧ i ≤ 1000) (h1 : 0 ≤ a ∧ a ≤ 1000) : rightB (vL i a).f0 (vL i a).f1 = true :=
  (rightB_iff _ _).2 ⟨by simp [vL], by simp [vL], fun v hv => by
    have : v = ⟨i, a⟩ := by simpa [vL] using hv
    subst this; exact ⟨h0, h1⟩⟩
theorem vL_norm {i a : Int} (h0 : 0 ≤ i ∧ i ≤ 1000) (h1 : 0 ≤ a ∧ a ≤ 1000) : normR (vL i a).f0 (vL i a).f1 = (0, [⟨i, a⟩], 0) := by
  rw [normR_ok (vL_right h0 h1)]
  show (zN 0 (can [⟨i, a⟩]), can [⟨i, a⟩], 0) = _
  rw [can_one, zN_zero]
theorem vL_bnd {i a : Int} (h0 : 0 ≤ i ∧ i ≤ 1000) (h1 : 0 ≤ a ∧ a ≤ 1000) : bndR (vL i a).f0 (vL i a).f1 = i + 1 := by
  unfold bndR
  rw [if_pos (vL_right h0 h1)]
  show vbnd 0 ⟨i, a⟩ = i + 1
  unfold vbnd mx; split <;> simp only at * <;> omega
theorem vL_ok {n i a : Int} (h0 : 0 ≤ i ∧ i ≤ 1000) (h1 : 0 ≤ a ∧ a ≤ 1000) (hn : i < n) : okL n (vL i a) = true := by
  unfold okL
  rw [vL_right h0 h1, vL_bnd h0 h1]
  simp; omega
theorem num_right {a : Int} (h : 0 ≤ a ∧ a ≤ 1000) : rightB a [] = true := (rightB_iff _ _).2 ⟨h, by simp, by simp⟩
theorem num_norm {a : Int} (h : 0 ≤ a ∧ a ≤ 1000) : normR a [] = (a, [], 0) := by rw [normR_ok (num_right h)]; rfl
theorem num_ok {n a : Int} (h : 0 ≤ a ∧ a ≤ 1000) (hn : 0 ≤ n) : okL n ⟨a, []⟩ = true := by
  unfold okL bndR
  simp only [num_right h, if_true, List.foldl_nil, Bool.true_and, decide_eq_true_eq]
  exact hn
theorem limR_var {i a j : Int} (h0 : 0 ≤ i ∧ i ≤ 1000) (h1 : 0 ≤ a ∧ a ≤ 1000) (h2 : 0 ≤ j ∧ j ≤ 1000) : limR ⟨vL i a, vL j 0⟩ = some ⟨vL i a, j, 0⟩ := by
  unfold limR
  simp only [vL_norm h0 h1, vL_norm h2 (show (0 : Int) ≤ 0 ∧ (0 : Int) ≤ 1000 by omega)]
  simp [rd_T62, vL]
theorem limR_num {a j : Int} (h : 0 ≤ a ∧ a ≤ 1000) (h2 : 0 ≤ j ∧ j ≤ 1000) : limR ⟨⟨a, []⟩, vL j 0⟩ = some ⟨⟨a, []⟩, j, 0⟩ := by
  unfold limR
  simp only [num_norm h, vL_norm h2 (show (0 : Int) ≤ 0 ∧ (0 : Int) ≤ 1000 by omega)]
  simp [rd_T62, vL]
theorem row_map {first : Int} (hf : 0 ≤ first ∧ first ≤ 500) : ∀ m : Nat, m < 100 → (rowL first m).map limR = (rowM first m).map some
  | 0, _ => by simp [rowL, rowM, limR_num (show 0 ≤ first ∧ first ≤ 1000 by omega) (show (0 : Int) ≤ 0 ∧ (0 : Int) ≤ 1000 by omega)]
  | m + 1, h => by
    simp only [rowL, rowM, List.map_append, row_map hf m (by omega), List.map_cons, List.map_nil]
    rw [limR_var (by omega) (by omega) (by omega)]
theorem row_ok {first n : Int} (hf : 0 ≤ first ∧ first ≤ 500) : ∀ m : Nat, m < 100 → (m : Int) < n → ∀ x ∈ rowL first m, okL n x.f0 = true ∧ okL n x.f1 = true
  | 0, _, hn, x, hx => by
    have : x = ⟨⟨first, []⟩, vL 0 0⟩ := by simpa [rowL] using hx
    subst this
    exact ⟨num_ok (by omega) (by omega), vL_ok (by omega) (by omega) (by omega)⟩
  | m + 1, h, hn, x, hx => by
    rcases List.mem_append.1 hx with hx | hx
    · exact row_ok hf m (by omega) (by omega) x hx
    · have : x = ⟨vL m 1, vL (m + 1) 0⟩ := by simpa using hx
      subst this
      exact ⟨vL_ok (by omega) (by omega) (by omega), vL_ok (by omega) (by omega) (by omega)⟩
theorem EL_num {n : Nat} {a j b : Int} (h : 0 ≤ a ∧ a ≤ 1000) {y : List Int} (hy : InR n y) : EL ⟨⟨a, []⟩, j, b⟩ y = a := by
  unfold EL evalR; rw [if_pos (num_right h)]; rfl
theorem EL_var {n : Nat} {i a j b : Int} (h0 : 0 ≤ i ∧ i ≤ 1000) (h1 : 0 ≤ a ∧ a ≤ 1000) (hi : i < n) {y : List Int} (hy : InR n y) : EL ⟨vL i a, j, b⟩ y = y.getD i.toNat 0 + a := by
  have hg := hy.get i.toNat
  refine le_ext (fun c => ?_)
  rw [EL_le (m := ⟨vL i a, j, b⟩) (vL_right h0 h1) hy]
  unfold UpTo vL
  simp only [List.mem_singleton, forall_eq]
  rw [val_eq hy, if_pos hi]
  omega
theorem row_hold {first : Int} (hf : 0 ≤ first ∧ first ≤ 500) {n : Nat} {y : List Int} (hy : InR n y) : ∀ m : Nat, m < 100 → m < n → ((∀ q ∈ rowM first m, holdM q y) ↔ first ≤ y.getD 0 0 ∧ ∀ i, i < m → y.getD i 0 + 1 ≤ y.getD (i + 1) 0)
  | 0, _, hn => by
    simp only [rowM, List.mem_singleton, forall_eq]
    unfold holdM
    rw [EL_num (by omega) hy]
    simp only [Int.lt_irrefl, if_false]
    show first ≤ y.getD (0 : Int).toNat 0 + 0 ↔ _
    simp
  | m + 1, h, hn => by
    have ih := row_hold hf hy m (by omega) (by omega)
    simp only [rowM, List.mem_append, List.mem_singleton]
    have hl : holdM ⟨vL m 1, (m : Int) + 1, 0⟩ y ↔ y.getD m 0 + 1 ≤ y.getD (m + 1) 0 := by
      unfold holdM
      rw [EL_var (by omega) (by omega) (by omega) hy]
      simp only
      rw [if_neg (by omega)]
      have e : ((m : Int) + 1).toNat = m + 1 := by omega
      show _ ≤ y.getD ((m : Int) + 1).toNat 0 + 0 ↔ _
      rw [e]
      simp
    constructor
    · intro hq
      obtain ⟨h1, h2⟩ := ih.1 (fun q hq' => hq q (.inl hq'))
      refine ⟨h1, fun i hi => ?_⟩
      by_cases e : i = m
      · subst e; exact hl.1 (hq _ (.inr rfl))
      · exact h2 i (by omega)
    · rintro ⟨h1, h2⟩ q (hq | rfl)
      · exact ih.2 ⟨h1, fun i hi => h2 i (by omega)⟩ q hq
      · exact hl.2 (h2 m (by omega))
def upL (first : Int) (n : Nat) : List Int := (List.range n).map (fun (i : Nat) => first + (i : Int))
theorem upL_get (first : Int) (n i : Nat) (h : i < n) : (upL first n).getD i 0 = first + i := by simp [upL, List.getD_eq_getElem?_getD, List.getElem?_range, h]
theorem upL_in {first : Int} {n : Nat} (hf : 0 ≤ first ∧ first ≤ 500) (hn : n ≤ 100) : InR n (upL first n) := by
  refine ⟨by simp [upL], fun v hv => ?_⟩
  obtain ⟨i, hi, rfl⟩ := List.mem_map.1 hv
  have := List.mem_range.1 hi
  omega
theorem up_from {y : List Int} {first : Int} (h0 : first ≤ y.getD 0 0) : ∀ m, (∀ i, i < m → y.getD i 0 + 1 ≤ y.getD (i + 1) 0) → first + m ≤ y.getD m 0
  | 0, _ => by simpa using h0
  | m + 1, h => by
    have := up_from h0 m (fun i hi => h i (by omega))
    have := h m (by omega)
    push_cast
    omega
theorem row_least {first : Int} (hf : 0 ≤ first ∧ first ≤ 500) {m : Nat} (hm : m < 100) : Least (m + 1) (rowM first m) (upL first (m + 1)) := by
  have hin := upL_in (n := m + 1) hf (by omega)
  refine ⟨⟨hin, (row_hold hf hin m hm (by omega)).2 ⟨?_, fun i hi => ?_⟩⟩, fun y hy i => ?_⟩
  · rw [upL_get _ _ _ (by omega)]; simp
  · rw [upL_get _ _ _ (by omega), upL_get _ _ _ (by omega)]; push_cast; omega
  · by_cases hi : i < m + 1
    · obtain ⟨h1, h2⟩ := (row_hold hf hy.1 m hm (by omega)).1 hy.2
      rw [upL_get _ _ _ hi]
      exact up_from h1 i (fun j hj => h2 j (by omega))
    · rw [getD_off (by have := hin.1; omega), getD_off (by have := hy.1.1; omega)]; exact Int.le_refl _
theorem row_solve {first : Int} (hf : 0 ≤ first ∧ first ≤ 500) {m : Nat} (hm : m < 100) : solveF ((m : Int) + 1) (rowL first m) = (upL first (m + 1), 0) := by
  have hask : askB ((m : Int) + 1) (rowL first m) = (rowM first m, 0) := by
    unfold askB
    rw [if_pos ((okAll_iff _ _).2 (row_ok hf m hm (by omega))), askG_of _ [] _ (row_map hf m hm)]
    rfl
  have hn : ((m : Int) + 1).toNat = m + 1 := by omega
  have hl := row_least hf hm
  rcases solve_spec (by omega) (by omega) (by rw [rowL_len]; omega) hask with ⟨x, hx, hs⟩ | ⟨hno, hs⟩
  · rw [hn] at hx
    rw [hs, LeL.antisymm hx.1.1.1 hl.1.1.1 (hx.2 _ hl.1) (hl.2 _ hx.1)]
  · rw [hn] at hno
    exact absurd hl.1 (hno _)
theorem ring_solve {first : Int} (hf : 0 ≤ first ∧ first ≤ 500) {m : Nat} (hm : m < 100) : solveF ((m : Int) + 1) (rowL first m ++ [⟨vL m 1, vL 0 0⟩]) = ([], 52) := by
  have hask : askB ((m : Int) + 1) (rowL first m ++ [⟨vL m 1, vL 0 0⟩]) = (rowM first m ++ [⟨vL m 1, 0, 0⟩], 0) := by
    unfold askB
    have hok : ∀ x ∈ rowL first m ++ [⟨vL m 1, vL 0 0⟩], okL ((m : Int) + 1) x.f0 = true ∧ okL ((m : Int) + 1) x.f1 = true := by
      intro x hx
      rcases List.mem_append.1 hx with hx | hx
      · exact row_ok hf m hm (by omega) x hx
      · have : x = ⟨vL m 1, vL 0 0⟩ := by simpa using hx
        subst this
        exact ⟨vL_ok (by omega) (by omega) (by omega), vL_ok (by omega) (by omega) (by omega)⟩
    rw [if_pos ((okAll_iff _ _).2 hok), askG_of _ [] (rowM first m ++ [⟨vL m 1, 0, 0⟩]) (by
      rw [List.map_append, row_map hf m hm, List.map_append, List.map_cons, List.map_nil, limR_var (by omega) (by omega) (by omega)]; rfl)]
    rfl
  have hn : ((m : Int) + 1).toNat = m + 1 := by omega
  rcases solve_spec (by omega) (by omega) (by simp [rowL_len]; omega) hask with ⟨x, hx, hs⟩ | ⟨hno, hs⟩
  · rw [hn] at hx
    obtain ⟨h1, h2⟩ := (row_hold hf hx.1.1 m hm (by omega)).1 (fun q hq => hx.1.2 q (List.mem_append_left _ hq))
    have h3 := hx.1.2 ⟨vL m 1, 0, 0⟩ (List.mem_append_right _ (List.mem_singleton.2 rfl))
    unfold holdM at h3
    rw [EL_var (by omega) (by omega) (by omega) hx.1.1] at h3
    simp only [Int.lt_irrefl, if_false] at h3
    change x.getD (m : Int).toNat 0 + 1 ≤ x.getD (0 : Int).toNat 0 + 0 at h3
    have h4 := up_from (y := x) (first := x.getD 0 0) (Int.le_refl _) m h2
    have e : ((m : Int)).toNat = m := by omega
    rw [e] at h3
    have e0 : ((0 : Int)).toNat = 0 := rfl
    rw [e0] at h3
    omega
  · exact hs
theorem row_l1 (n first : Int) (m : Nat) (hn : n = (m : Int) + 1) (hf : 0 ≤ first ∧ first ≤ 500) (hm : m < 100) : ∀ (d i : Nat), i + d = m + 1 → Ev (fun k => telamonlaw19_LsolveRow.l1 k n first (upL first (m + 1)) 0 (i : Int)) true
  | 0, i, hd => Ev.succ (by
    have hl : (upL first (m + 1)).length = m + 1 := by simp [upL]
    have hc : ((i : Int) < ((m + 1 : Nat) : Int)) = False := eq_false (by omega)
    simp only [telamonlaw19_LsolveRow.l1, hl, telamonlaw19_num.f, Option.bind_some, hc, if_false, if_true]
    refine (Ev.pure _).eq ?_
    simp; omega)
  | d + 1, i, hd => Ev.succ (by
    have hl : (upL first (m + 1)).length = m + 1 := by simp [upL]
    have hr : rd (upL first (m + 1)) (i : Int) = first + i := upL_get first (m + 1) i (by omega)
    have hw : wrap64 ((i : Int) + 1) = ((i + 1 : Nat) : Int) := by rw [wr _ (by omega) (by omega)]; push_cast; rfl
    have hc : ((i : Int) < ((m + 1 : Nat) : Int)) = True := eq_true (by omega)
    have hc2 : ((0 : Int) ≤ (i : Int)) = True := eq_true (by omega)
    simp only [telamonlaw19_LsolveRow.l1, hl, hr, wr (first + i) (by omega) (by omega), hw, hc, hc2, if_true]
    exact row_l1 n first m hn hf hm d (i + 1) (by omega))
theorem row_l0 (first : Int) (ring : Bool) (m : Nat) (hf : 0 ≤ first ∧ first ≤ 500) (hm : m < 100) : ∀ (d i : Nat), i + d = m → Ev (fun k => telamonlaw19_LsolveRow.l0 k ((m : Int) + 1) first ring (rowL first i) (i : Int)) true
  | 0, i, hd => Ev.succ (by
    have hi : i = m := by omega
    subst hi
    have hw : wrap64 ((i : Int) + 1) = (i : Int) + 1 := wr _ (by omega) (by omega)
    have hw2 : wrap64 ((i : Int) + 1 - 1) = (i : Int) := by rw [wr _ (by omega) (by omega)]; omega
    simp only [telamonlaw19_LsolveRow.l0, hw, hw2, telamonlaw1_V.f, Option.bind_some, Int.lt_irrefl, if_false]
    cases ring
    · simp only [Bool.false_eq_true, if_false]
      refine Ev.succ ?_
      simp only [telamonlaw19_LsolveRow.j2, lsolve_Solve.f, row_solve hf hm, Option.bind_some, Bool.false_eq_true, if_false]
      exact row_l1 _ first i rfl hf hm (i + 1) 0 (by omega)
    · have hlen : ((rowL first i).length < 2199023255552) = True := by rw [rowL_len]; simp; omega
      simp only [if_true, hlen]
      refine Ev.succ ?_
      have hs := ring_solve hf hm
      unfold vL at hs
      simp only [telamonlaw19_LsolveRow.j2, lsolve_Solve.f, hs, Option.bind_some, if_true, telamonlaw19_num.f]
      exact Ev.pure _)
  | d + 1, i, hd => Ev.succ (by
    have hw : wrap64 ((i : Int) + 1) = (i : Int) + 1 := wr _ (by omega) (by omega)
    have hlen : ((rowL first i).length < 2199023255552) = True := by rw [rowL_len]; simp; omega
    have hlt : (((i : Int) + 1 < (m : Int) + 1)) = True := by simp; omega
    simp only [telamonlaw19_LsolveRow.l0, hw, telamonlaw1_V.f, Option.bind_some, hlt, if_true, hlen]
    exact row_l0 first ring m hf hm d (i + 1) (by omega))
theorem Row (a0 a1 : Int) (a2 : Bool) : Ev (fun k => telamonlaw19_LsolveRow.f k a0 a1 a2) true := by
  simp only [telamonlaw19_LsolveRow.f, alive19, Option.bind_some, if_true]
  have hb : Ev (fun k => telamonlaw19_LsolveRow.j0 k a0 a1 a2 true true) true := Ev.succ (by simp only [telamonlaw19_LsolveRow.j0, if_true]; exact Ev.pure _)
  by_cases c1 : a0 < 1
  · simp only [c1, if_true]; exact hb
  by_cases c2 : a0 > 100
  · simp only [c1, c2, if_true, if_false]; exact hb
  by_cases c3 : a1 < 0
  · simp only [c1, c2, c3, if_true, if_false]; exact hb
  by_cases c4 : a1 > 500
  · simp only [c1, c2, c3, c4, if_false, decide_true]; exact hb
  simp only [c1, c2, c3, c4, if_false, decide_false]
  refine Ev.succ ?_
  simp only [telamonlaw19_LsolveRow.j0, Bool.false_eq_true, if_false, telamonlaw1_V.f, Option.bind_some]
  obtain ⟨m, hm⟩ : ∃ m : Nat, a0 = (m : Int) + 1 := ⟨(a0 - 1).toNat, by omega⟩
  subst hm
  exact row_l0 a1 a2 m (by omega) (by omega) m 0 (by omega)
end Go.Proofs.Ytbopadglafbdjaa.M
