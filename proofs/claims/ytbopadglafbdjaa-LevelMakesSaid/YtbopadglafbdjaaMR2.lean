/- The reference's sums of a level. -/
import Derived.Test.YtbopadglafbdjaaMR1
import Derived.Test.YtbopadglafbdjaaPXxf47
set_option linter.unusedVariables false
set_option linter.unusedSimpArgs false
namespace Go.Proofs.Ytbopadglafbdjaa.M
open Go.RowKit Go.Proofs.Ytbopadglafbdjaa.PX Go.Proofs.YtbopadglafbdjaaW.PrintWords Go.Proofs.YtbopadglafbdjaaW.PrintLast Go.Proofs.YtbopadglafbdjaaW.PrintMore

theorem rsuc_l0 (xs : List S62) (hl : xs.length ≤ 1000000) (hb : ∀ v ∈ xs, (0 ≤ v.f0 ∧ v.f0 ≤ 1000) ∧ 0 ≤ v.f1 ∧ v.f1 ≤ 1000) (n N M : Int) (hn : 0 ≤ n ∧ n ≤ 1000) : ∀ rest pre, xs = pre ++ rest →
    Ev (fun k => telamonref1_Suc.l0 k n (pre.length : Int) M xs N (pre.map (addV n))) (toldR N (xs.map (addV n)))
  | [], pre, h => Ev.succ (by
    simp only [telamonref1_Suc.l0, at_end h, if_false]
    have e : pre = xs := by simpa using h.symm
    subst e
    exact Ev.bind (fits_is _ _ (by simp; omega) (fun v hv => by
      obtain ⟨w, hw, rfl⟩ := List.mem_map.1 hv
      exact (hb w hw).1.1)) ((Ev.pure _).eq rfl))
  | v :: rest, pre, h => Ev.succ (by
    obtain ⟨h1, h2, h3, h4, h5⟩ := at_split h (by omega)
    have hv := hb v (by rw [h]; simp)
    have hp : (pre.map (addV n)).length < 8796093022208 := by have e : xs.length = pre.length + (rest.length + 1) := by rw [h]; simp
                                                              simp; omega
    simp only [telamonref1_Suc.l0, h1, h2, h3, h4, if_true, wr (v.f1 + n) (by omega) (by omega), hp]
    have := rsuc_l0 xs hl hb n N M hn rest _ h5
    simpa [addV] using this)
theorem rsuc_is (N : Int) (l : List S62) (n : Int) (hl : l.length ≤ 1000000) : Ev (fun k => telamonref1_Suc.f k N l n) (sucR N l n) := by
  unfold telamonref1_Suc.f
  refine Ev.bind (RNorm_is N l (by omega)) ?_
  unfold normR sucR
  cases h : rightB N l
  · exact Ev.pure _
  · have hr := (rightB_iff _ _).1 (right_can h)
    simp only [if_true]
    by_cases c1 : n < 0
    · simp only [c1, if_true]; exact Ev.pure _
    · by_cases c2 : n > 1000
      · simp only [c1, c2, if_true, if_false]; exact Ev.pure _
      · simp only [c1, c2, if_false, wr (zN N (can l) + n) (by omega) (by omega)]
        have hgo : ∀ N', Ev (fun k => telamonref1_Suc.j1 k n (zN N (can l)) (can l) N') (toldR N' ((can l).map (addV n))) := fun N' => Ev.succ (by
          simp only [telamonref1_Suc.j1]
          exact rsuc_l0 (can l) (by omega) hr.2.2 n N' _ (by omega) (can l) [] (by simp))
        by_cases c3 : zN N (can l) = 0
        · simp only [c3, if_true]
          refine Ev.succ ?_
          simp only [telamonref1_Suc.j0]
          by_cases c4 : ((can l).length : Int) > 0
          · simp only [c4, decide_true, if_true]
            rw [c3] at hgo
            refine (hgo 0).eq (toldR_same _ _ _ ?_)
            rw [zN_zero]
            rcases zN_cases (0 + n) (can ((can l).map (addV n))) with h5 | ⟨_, h5⟩
            · exact h5.1.symm
            · exfalso
              obtain ⟨v, hv⟩ := List.exists_mem_of_length_pos (show 0 < (can l).length by omega)
              obtain ⟨z, hz, _, h6⟩ := can_top (l := (can l).map (addV n)) (List.mem_map_of_mem hv)
              have := h5 z hz
              have := (hr.2.2 v hv).2.1
              simp only [addV] at h6
              omega
          · simp only [c4, decide_false, Bool.false_eq_true, if_false]
            rw [c3] at hgo
            exact hgo _
        · simp only [c3, if_false]
          refine Ev.succ ?_
          simp only [telamonref1_Suc.j0, Bool.false_eq_true, if_false]
          exact hgo _
end Go.Proofs.Ytbopadglafbdjaa.M
