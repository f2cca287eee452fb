-- by wip/tools/gprint.py of this session over the kit's print; given functions are this session's own text
import Derived.Test.YtbopadglafbdjaaPXx0
namespace Go.Proofs.Ytbopadglafbdjaa.PX
open Go.RowKit Go.Proofs.YtbopadglafbdjaaW.PrintWords Go.Proofs.YtbopadglafbdjaaW.PrintLast Go.Proofs.YtbopadglafbdjaaW.PrintMore
attribute [local go_sem] max2_int min2_int max_two min_two max_three min_three max_four min_four   -- for this text's walks alone
set_option linter.unusedVariables false
set_option linter.unusedSimpArgs false

/-! ### telamontop_first: function 34 -/
-- GIVEN
/-- The rows of a list: pairs of one number each. -/
def topPairs : List Value → Bool
  | .int .i64 x :: .int .i64 y :: r => x == y && topPairs r
  | [] => true
  | _ => false
theorem topPairs_at : ∀ (l : List Value), topPairs l = true → ∀ j, j * 2 < l.length → ∃ x, l[j * 2]? = some (.int .i64 x) ∧ l[j * 2 + 1]? = some (.int .i64 x)
  | [], _, j, hj => by simp at hj
  | [_], h, _, _ => by simp [topPairs] at h
  | a :: b :: r, h, 0, _ => by
    unfold topPairs at h
    split at h
    · rename_i x y r' e
      injection e with e1 e
      injection e with e2 e
      subst e1; subst e2; subst e
      simp only [Bool.and_eq_true, beq_iff_eq] at h
      obtain ⟨rfl, _⟩ := h
      exact ⟨x, rfl, rfl⟩
    · rename_i e; cases e
    · cases h
  | a :: b :: r, h, j + 1, hj => by
    have hr : topPairs r = true := by
      unfold topPairs at h
      split at h
      · rename_i x y r' e
        injection e with e1 e
        injection e with e2 e
        subst e
        simp only [Bool.and_eq_true] at h
        exact h.2
      · rename_i e; cases e
      · cases h
    obtain ⟨x, h0, h1⟩ := topPairs_at r hr j (by simp at hj; omega)
    exact ⟨x, by rw [show (j + 1) * 2 = j * 2 + 2 by omega]; simpa using h0, by rw [show (j + 1) * 2 + 1 = j * 2 + 1 + 2 by omega]; simpa using h1⟩

set_option maxHeartbeats 1000000 in
set_option maxRecDepth 100000 in
theorem telamontop_are.calls (b n : Nat) (w : World) (hn : n ≤ 1000)
    (h : ∀ j, j < n → ∃ x, w.cell? ⟨b, j * 2, none⟩ = some (.int .i64 x) ∧ w.cell? ⟨b, j * 2 + 1, none⟩ = some (.int .i64 x)) :
    Calls Try.prog 72 #[.slice (some ⟨b, 0, none⟩) n n] w fun e w' => e = .returned (.bool true) ∧ ∃ m, w' = w.drewN m := by
  have H := Aside0.mk h
  clear h
  go_enter Try.func72, Try.ntmps72
  go_wp2
  go_loopw [3] (fun i wr => ∃ k : Nat, k ≤ n ∧ i = .int .i64 k ∧ ∃ m, wr = w.drewN m) (fun i _ => n - (intOf i).toNat)
  case atStart => exact ⟨0, Nat.zero_le _, rfl, 0, rfl⟩
  case round =>
    obtain ⟨k, hk, rfl, m, rfl⟩ := hrel
    by_cases hlt : k < n
    · obtain ⟨x, e0, e1⟩ := H.out k hlt
      go_wp2
      go_quiet (fail)
      go_wp2
      go_roundw
      case rel => exact ⟨k + 1, by omega, by go_num, _, rfl⟩
      case measure => simp [intOf]; omega
    · go_wp2
      go_ret
      exact ⟨rfl, m, rfl⟩
/-- 'are' at a literal, just laid. -/
theorem telamontop_are.lit (cs : Array Value) (n : Nat) (w : World) (hn : n ≤ 1000) (hl : cs.toList.length = n * 2) (h : topPairs cs.toList = true) :
    Calls Try.prog 72 #[.slice (some ⟨w.heap.size, 0, none⟩) n n] (w.alloc (.cells cs 103)) fun e w' => e = .returned (.bool true) ∧ Below w.heap.size w w' := by
  refine (telamontop_are.calls w.heap.size n _ hn fun j hj => ?_).mono ?_
  · obtain ⟨x, h0, h1⟩ := topPairs_at cs.toList h j (by omega)
    exact ⟨x, by rw [World.cell?_alloc_new]; simpa using h0, by rw [World.cell?_alloc_new]; simpa using h1⟩
  · rintro e w' ⟨rfl, m, rfl⟩
    exact ⟨rfl, pw_below_drewN (below_alloc (Below.refl _ _) _) m⟩

def telamontop_first.f : Option Bool := some true
set_option maxHeartbeats 4000000 in
set_option maxRecDepth 100000 in
theorem telamontop_first.calls (r : Bool) (w : World) (h : telamontop_first.f = some r) :
    Calls Try.prog 34 #[] w fun e w' => e = .returned (.bool r) ∧ Below w.heap.size w w' := by
  obtain rfl := Option.some.inj h
  clear h
  go_enter Try.func34, Try.ntmps34
  go_wp2_with fail
  refine (telamontop_are.lit _ 32 w (by decide) rfl rfl).mono ?_
  rintro e w' ⟨rfl, hb⟩
  have HB := Aside0.mk hb
  clear hb
  go_wp2_with fail
  go_ret
  exact ⟨rfl, HB.out⟩

end Go.Proofs.Ytbopadglafbdjaa.PX
