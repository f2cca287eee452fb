/- LevelWide in plain Lean. -/
import Derived.Test.YtbopadglafbdjaaMP
import Derived.Test.YtbopadglafbdjaaPXxf13
set_option linter.unusedVariables false
set_option linter.unusedSimpArgs false
namespace Go.Proofs.Ytbopadglafbdjaa.M
open Go.RowKit Go.Proofs.Ytbopadglafbdjaa.PX Go.Proofs.YtbopadglafbdjaaW.PrintWords Go.Proofs.YtbopadglafbdjaaW.PrintLast Go.Proofs.YtbopadglafbdjaaW.PrintMore

/-! ### Wide -/
def wl (s : Int) (n : Nat) : List S62 := (List.range n).map fun (j : Nat) => ⟨s + (j : Int), 0⟩
theorem wl_succ (s : Int) (n : Nat) : wl s (n + 1) = wl s n ++ [⟨s + (n : Int), 0⟩] := by simp [wl, List.range_succ]
theorem wl_len (s : Int) (n : Nat) : (wl s n).length = n := by simp [wl]
theorem wl_mem (s : Int) (n : Nat) (v : S62) (h : v ∈ wl s n) : s ≤ v.f0 ∧ v.f0 < s + n ∧ v.f1 = 0 := by
  obtain ⟨j, hj, rfl⟩ := List.mem_map.1 h
  have hj' := List.mem_range.1 hj
  exact ⟨by show s ≤ s + (j : Int); omega, by show s + (j : Int) < s + n; omega, rfl⟩
theorem wl_ss (s : Int) (n : Nat) : SS (wl s n) := by
  induction n with
  | zero => exact List.Pairwise.nil
  | succ n ih =>
    rw [wl_succ]
    refine List.pairwise_append.2 ⟨ih, List.pairwise_singleton _ _, fun x hx y hy => ?_⟩
    have := wl_mem s n x hx
    simp at hy; subst hy; simp only; omega
theorem wl_right (s : Int) (n : Nat) (hs : 0 ≤ s ∧ s ≤ 100) (hn : n ≤ 64) : rightB 0 (wl s n) = true := by
  rw [rightB_iff, wl_len]
  exact ⟨by omega, hn, fun v hv => by have := wl_mem s n v hv; omega⟩
theorem wide_max (n m : Nat) (hn : n ≤ 64) (hm : m ≤ 64) : maxR 0 (wl 0 n) 0 (wl 100 m) = if n + m ≤ 64 then (0, wl 0 n ++ wl 100 m, 0) else (0, [], 13) := by
  have hss : SS (wl 0 n ++ wl 100 m) := List.pairwise_append.2 ⟨wl_ss 0 n, wl_ss 100 m, fun x hx y hy => by
    have := wl_mem _ _ x hx; have := wl_mem _ _ y hy; omega⟩
  unfold maxR
  rw [wl_right 0 n (by omega) hn, wl_right 100 m (by omega) hm, can_self (wl_ss 0 n), can_self (wl_ss 100 m), zN_zero, zN_zero, ← can_join _ _ (wl_ss 0 n) (wl_ss 100 m), can_self hss]
  simp only [Bool.and_self, if_true, mx, show ¬ (0 : Int) < 0 by omega, if_false]
  unfold toldR
  rw [can_self hss, zN_zero]
  by_cases c : n + m ≤ 64
  · have h : rightB 0 (wl 0 n ++ wl 100 m) = true := by
      rw [rightB_iff]
      refine ⟨by omega, by simp [wl_len]; exact c, fun v hv => ?_⟩
      rcases List.mem_append.1 hv with hv | hv <;> have := wl_mem _ _ v hv <;> omega
    rw [if_pos h, if_pos c]
  · have h : ¬ rightB 0 (wl 0 n ++ wl 100 m) = true := by
      rw [rightB_iff]
      rintro ⟨_, h, _⟩
      simp [wl_len] at h
      omega
    rw [if_neg h, if_neg c]
theorem leq_sub (l m : List S62) (hl : SS l) (hm : SS m) (h1 : rightB 0 l = true) (h2 : rightB 0 m = true) (hs : ∀ v ∈ l, v ∈ m) : leqR 0 l 0 m = true := by
  unfold leqR
  rw [h1, h2, can_self hl, can_self hm, zN_zero, zN_zero, leqB_is _ _ _ _ (fun v hv => (((rightB_iff _ _).1 h1).2.2 v hv).1.1)]
  simp only [Bool.and_self, Bool.true_and, Bool.and_eq_true, decide_eq_true_eq, List.all_eq_true, topF_le]
  exact ⟨.inl (Int.le_refl _), fun x hx => List.any_eq_true.2 ⟨x, hs x hx, by simp⟩⟩
theorem wide_l1 (n m : Nat) (hn : n ≤ 64) (hm : m ≤ 64) : ∀ (r i : Nat), m - i = r → i ≤ m → Ev (fun k => telamonlaw1_LevelWide.l1 k (n : Int) (m : Int) (i : Int) 0 (wl 0 n) 0 (wl 100 i)) true := by
  intro r
  induction r with
  | zero =>
    intro i hi h0
    refine Ev.succ ?_
    have e : i = m := by omega
    subst e
    simp only [telamonlaw1_LevelWide.l1, show ¬ (i : Int) < (i : Int) by omega, if_false, telamonlaw1_num.f, Option.bind_some, wr ((n : Int) + i) (by omega) (by omega)]
    refine Ev.bind (max_is 0 (wl 0 n) 0 (wl 100 i) (by rw [wl_len]; omega) (by rw [wl_len]; omega)) ?_
    rw [wide_max n i hn hm]
    by_cases c : n + i ≤ 64
    · simp only [show ¬ (n : Int) + i > 64 by omega, if_false, if_pos c, if_true]
      have hl : ((wl 0 n ++ wl 100 i).length : Int) = (n : Int) + i := by simp [wl_len]
      simp only [hl, if_true]
      have hss : SS (wl 0 n ++ wl 100 i) := List.pairwise_append.2 ⟨wl_ss 0 n, wl_ss 100 i, fun x hx y hy => by
        have := wl_mem _ _ x hx; have := wl_mem _ _ y hy; omega⟩
      have hr : rightB 0 (wl 0 n ++ wl 100 i) = true := by
        rw [rightB_iff]
        refine ⟨by omega, by simp [wl_len]; exact c, fun v hv => ?_⟩
        rcases List.mem_append.1 hv with hv | hv <;> have := wl_mem _ _ v hv <;> omega
      refine Ev.bind (leq_is 0 (wl 0 n) 0 (wl 0 n ++ wl 100 i) (by rw [wl_len]; omega) (by simp [wl_len]; omega)) ?_
      rw [leq_sub _ _ (wl_ss 0 n) hss (wl_right 0 n (by omega) hn) hr (fun v hv => List.mem_append_left _ hv)]
      simp only [if_true]
      refine Ev.bind (leq_is 0 (wl 100 i) 0 (wl 0 n ++ wl 100 i) (by rw [wl_len]; omega) (by simp [wl_len]; omega)) ?_
      rw [leq_sub _ _ (wl_ss 100 i) hss (wl_right 100 i (by omega) hm) hr (fun v hv => List.mem_append_right _ hv)]
      exact Ev.pure _
    · simp only [show (n : Int) + i > 64 by omega, if_neg c, if_true]
      exact Ev.pure _
  | succ r ih =>
    intro i hi h0
    refine Ev.succ ?_
    have h1 : (wl 100 i).length < 8796093022208 := by rw [wl_len]; omega
    simp only [telamonlaw1_LevelWide.l1, show (i : Int) < (m : Int) by omega, h1, if_true, wr ((i : Int) + 1) (by omega) (by omega), wr (100 + (i : Int)) (by omega) (by omega)]
    have := ih (i + 1) (by omega) (by omega)
    rw [wl_succ] at this
    exact this
theorem wide_l0 (n m : Nat) (hn : n ≤ 64) (hm : m ≤ 64) : ∀ (r i : Nat), n - i = r → i ≤ n → Ev (fun k => telamonlaw1_LevelWide.l0 k (n : Int) (m : Int) (i : Int) 0 (wl 0 i) 0) true := by
  intro r
  induction r with
  | zero =>
    intro i hi h0
    refine Ev.succ ?_
    have e : i = n := by omega
    subst e
    simp only [telamonlaw1_LevelWide.l0, show ¬ (i : Int) < (i : Int) by omega, if_false]
    have := wide_l1 i m hn hm m 0 (by omega) (by omega)
    simpa [wl] using this
  | succ r ih =>
    intro i hi h0
    refine Ev.succ ?_
    have h1 : (wl 0 i).length < 8796093022208 := by rw [wl_len]; omega
    simp only [telamonlaw1_LevelWide.l0, show (i : Int) < (n : Int) by omega, h1, if_true, wr ((i : Int) + 1) (by omega) (by omega)]
    have := ih (i + 1) (by omega) (by omega)
    rw [wl_succ, Int.zero_add] at this
    exact this
theorem Wide (n m : Int) : Ev (fun k => telamonlaw1_LevelWide.f k n m) true := by
  simp only [telamonlaw1_LevelWide.f, telamonlaw1_alive.f, Option.bind_some, if_true]
  have hb : Ev (fun k => telamonlaw1_LevelWide.j0 k n m true true) true := Ev.succ (by simp only [telamonlaw1_LevelWide.j0, if_true]; exact Ev.pure _)
  by_cases c1 : n < 0
  · simp only [c1, if_true]; exact hb
  · by_cases c2 : n > 64
    · simp only [c1, c2, if_true, if_false]; exact hb
    · by_cases c3 : m < 0
      · simp only [c1, c2, c3, if_true, if_false]; exact hb
      · by_cases c4 : m > 64
        · simp only [c1, c2, c3, c4, if_true, if_false, decide_true]; exact hb
        · simp only [c1, c2, c3, c4, if_false, decide_false]
          refine Ev.succ ?_
          simp only [telamonlaw1_LevelWide.j0, Bool.false_eq_true, if_false]
          have := wide_l0 n.toNat m.toNat (by omega) (by omega) n.toNat 0 (by omega) (by omega)
          rw [Int.toNat_of_nonneg (by omega), Int.toNat_of_nonneg (by omega)] at this
          simpa [wl] using this
end Go.Proofs.Ytbopadglafbdjaa.M
