/- LevelOrder in plain Lean. -/
import Derived.Test.YtbopadglafbdjaaMR5
import Derived.Test.YtbopadglafbdjaaPXxf16
set_option linter.unusedVariables false
set_option linter.unusedSimpArgs false
namespace Go.Proofs.Ytbopadglafbdjaa.M
open Go.RowKit Go.Proofs.Ytbopadglafbdjaa.PX Go.Proofs.YtbopadglafbdjaaW.PrintWords Go.Proofs.YtbopadglafbdjaaW.PrintLast Go.Proofs.YtbopadglafbdjaaW.PrintMore

/-- At most, said of any right levels. -/
def LeS (N : Int) (l : List S62) (M : Int) (m : List S62) : Prop := (N ≤ M ∨ ∃ v ∈ m, N ≤ v.f1) ∧ ∀ x ∈ l, ∃ y ∈ m, x.f0 = y.f0 ∧ x.f1 ≤ y.f1
theorem leS_canR {N M : Int} {l m : List S62} (hM : 0 ≤ M) : LeS N l (zN M (can m)) (can m) ↔ LeS N l M m := by
  unfold LeS
  constructor
  · rintro ⟨h1, h2⟩
    refine ⟨?_, fun x hx => ?_⟩
    · rcases h1 with h1 | ⟨v, hv, h1⟩
      · left; rcases zN_cases M (can m) with ⟨e, _⟩ | ⟨e, _⟩ <;> rw [e] at h1 <;> omega
      · right; exact ⟨v, can_mem hv, h1⟩
    · obtain ⟨y, hy, h⟩ := h2 x hx
      exact ⟨y, can_mem hy, h⟩
  · rintro ⟨h1, h2⟩
    refine ⟨?_, fun x hx => ?_⟩
    · rcases h1 with h1 | ⟨v, hv, h1⟩
      · rcases zN_cases M (can m) with ⟨e, v, hv, h⟩ | ⟨e, _⟩
        · right; exact ⟨v, hv, by omega⟩
        · left; omega
      · obtain ⟨z, hz, _, h⟩ := can_top hv
        right; exact ⟨z, hz, by omega⟩
    · obtain ⟨y, hy, h⟩ := h2 x hx
      obtain ⟨z, hz, h3, h4⟩ := can_top hy
      exact ⟨z, hz, by omega, by omega⟩
theorem leS_canL {N M : Int} {l m : List S62} (hN : 0 ≤ N) (hM : 0 ≤ M) : LeS (zN N (can l)) (can l) M m ↔ LeS N l M m := by
  unfold LeS
  have hv : (∀ x ∈ can l, ∃ y ∈ m, x.f0 = y.f0 ∧ x.f1 ≤ y.f1) ↔ ∀ x ∈ l, ∃ y ∈ m, x.f0 = y.f0 ∧ x.f1 ≤ y.f1 := by
    constructor
    · intro h x hx
      obtain ⟨z, hz, h3, h4⟩ := can_top hx
      obtain ⟨y, hy, h5, h6⟩ := h z hz
      exact ⟨y, hy, by omega, by omega⟩
    · exact fun h x hx => h x (can_mem hx)
  rw [hv]
  refine and_congr_left fun hall => ?_
  rcases zN_cases N (can l) with ⟨e, v, hv, h⟩ | ⟨e, _⟩
  · rw [e]
    obtain ⟨y, hy, h5, h6⟩ := hall v (can_mem hv)
    exact ⟨fun _ => .inr ⟨y, hy, by omega⟩, fun _ => .inl hM⟩
  · rw [e]
theorem leqR_iff {N M : Int} {l m : List S62} (h1 : rightB N l = true) (h2 : rightB M m = true) : leqR N l M m = true ↔ LeS N l M m := by
  have q1 := (rightB_iff _ _).1 h1
  have q2 := (rightB_iff _ _).1 h2
  have g1 := (rightB_iff _ _).1 (right_can h1)
  unfold leqR
  rw [h1, h2, leqB_is _ _ _ _ (fun v hv => (g1.2.2 v hv).1.1), ← leS_canL q1.1.1 q2.1.1, ← leS_canR q2.1.1]
  simp only [Bool.and_self, Bool.true_and, Bool.and_eq_true, decide_eq_true_eq, List.all_eq_true, topF_le, LeS, holdB, List.any_eq_true, beq_iff_eq]
theorem leS_refl (N : Int) (l : List S62) : LeS N l N l := ⟨.inl (Int.le_refl _), fun x hx => ⟨x, hx, rfl, Int.le_refl _⟩⟩
theorem leS_trans {N M K : Int} {l m n : List S62} (h : LeS N l M m) (g : LeS M m K n) : LeS N l K n := by
  refine ⟨?_, fun x hx => ?_⟩
  · rcases h.1 with h1 | ⟨v, hv, h1⟩
    · rcases g.1 with g1 | ⟨v, hv, g1⟩
      · left; omega
      · right; exact ⟨v, hv, by omega⟩
    · obtain ⟨y, hy, _, h2⟩ := g.2 v hv
      right; exact ⟨y, hy, by omega⟩
  · obtain ⟨y, hy, h1, h2⟩ := h.2 x hx
    obtain ⟨z, hz, h3, h4⟩ := g.2 y hy
    exact ⟨z, hz, by omega, by omega⟩
theorem toldR_ok' {N : Int} {l : List S62} (h : (toldR N l).2.2 = 0) : toldR N l = (zN N (can l), can l, 0) ∧ rightB (zN N (can l)) (can l) = true := by
  unfold toldR at h ⊢
  cases hr : rightB (zN N (can l)) (can l)
  · rw [hr] at h; simp at h
  · simp
/-- The greater one is the least that holds both up. -/
theorem max_le {N M : Int} {l m : List S62} (r1 : rightB N l = true) (r2 : rightB M m = true) (ho : (maxR N l M m).2.2 = 0) :
    rightB (maxR N l M m).1 (maxR N l M m).2.1 = true ∧ LeS N l (maxR N l M m).1 (maxR N l M m).2.1 ∧ LeS M m (maxR N l M m).1 (maxR N l M m).2.1 ∧
    ∀ K n, 0 ≤ K → LeS N l K n → LeS M m K n → LeS (maxR N l M m).1 (maxR N l M m).2.1 K n := by
  unfold maxR at ho ⊢
  rw [r1, r2] at ho ⊢
  simp only [Bool.and_self, if_true] at ho ⊢
  obtain ⟨e, hr⟩ := toldR_ok' ho
  rw [e]
  have q1 := (rightB_iff _ _).1 r1
  have q2 := (rightB_iff _ _).1 r2
  have g1 := (rightB_iff _ _).1 (right_can r1)
  have g2 := (rightB_iff _ _).1 (right_can r2)
  have hX : 0 ≤ mx (zN N (can l)) (zN M (can m)) := by unfold mx; split <;> omega
  refine ⟨hr, ?_, ?_, fun K n hK h1 h2 => ?_⟩
  · rw [leS_canR hX, ← leS_canL q1.1.1 hX]
    refine ⟨.inl (by unfold mx; split <;> omega), fun x hx => ?_⟩
    obtain ⟨z, hz, e0, e1⟩ := joinS_top (can l) (can m) x (.inl hx)
    exact ⟨z, hz, e0.symm, e1⟩
  · rw [leS_canR hX, ← leS_canL q2.1.1 hX]
    refine ⟨.inl (by unfold mx; split <;> omega), fun x hx => ?_⟩
    obtain ⟨z, hz, e0, e1⟩ := joinS_top (can l) (can m) x (.inr hx)
    exact ⟨z, hz, e0.symm, e1⟩
  · rw [leS_canL hX hK]
    rw [← leS_canL q1.1.1 hK] at h1
    rw [← leS_canL q2.1.1 hK] at h2
    refine ⟨?_, fun x hx => ?_⟩
    · unfold mx; split
      · exact h2.1
      · exact h1.1
    · rcases joinS_sub _ _ x hx with hx | hx
      · exact h1.2 x hx
      · exact h2.2 x hx
theorem suc_up {N : Int} {l : List S62} (r1 : rightB N l = true) (ho : (sucR N l 1).2.2 = 0) :
    rightB (sucR N l 1).1 (sucR N l 1).2.1 = true ∧ LeS N l (sucR N l 1).1 (sucR N l 1).2.1 ∧ ¬ LeS (sucR N l 1).1 (sucR N l 1).2.1 N l := by
  unfold sucR at ho ⊢
  rw [r1] at ho ⊢
  simp only [if_true, show ¬ (1 : Int) < 0 by omega, show ¬ (1 : Int) > 1000 by omega, if_false] at ho ⊢
  obtain ⟨e, hr⟩ := toldR_ok' ho
  rw [e]
  have q1 := (rightB_iff _ _).1 r1
  have g1 := (rightB_iff _ _).1 (right_can r1)
  have hX : 0 ≤ zN N (can l) + 1 := by omega
  refine ⟨hr, ?_, ?_⟩
  · rw [leS_canR hX, ← leS_canL q1.1.1 hX]
    exact ⟨.inl (by omega), fun x hx => ⟨addV 1 x, List.mem_map_of_mem hx, rfl, by simp only [addV]; omega⟩⟩
  · rw [leS_canL hX q1.1.1, ← leS_canR q1.1.1]
    rintro ⟨h1, h2⟩
    cases hc : can l with
    | nil =>
      rw [hc] at h1
      rcases h1 with h1 | ⟨v, hv, _⟩
      · omega
      · simp at hv
    | cons v r =>
      have hv : v ∈ can l := by rw [hc]; simp
      obtain ⟨y, hy, e0, e1⟩ := h2 (addV 1 v) (List.mem_map_of_mem hv)
      simp only [addV] at e0 e1
      have := (can_ss l).one hv hy e0
      subst this
      omega
theorem Order (N : Int) (l : List S62) (M : Int) (m : List S62) (K : Int) (n : List S62) : Ev (fun k => telamonlaw1_LevelOrder.f k N l M m K n) true := by
  simp only [telamonlaw1_LevelOrder.f, telamonlaw1_alive.f, Option.bind_some, if_true, telamonlaw1_big.f, decide_eq_true_eq]
  have hb : Ev (fun k => telamonlaw1_LevelOrder.j0 k true true N l M m K n) true := Ev.succ (by simp only [telamonlaw1_LevelOrder.j0, if_true]; exact Ev.pure _)
  by_cases c1 : (l.length : Int) > 200
  · simp only [c1, if_true]; exact hb
  · simp only [c1, if_false]
    by_cases c2 : (m.length : Int) > 200
    · simp only [c2, if_true]; exact hb
    · simp only [c2, if_false]
      by_cases c3 : (n.length : Int) > 200
      · simp only [c3, decide_true]; exact hb
      · simp only [c3, decide_false]
        refine Ev.succ ?_
        simp only [telamonlaw1_LevelOrder.j0, Bool.false_eq_true, if_false, telamonlaw1_num.f, Option.bind_some]
        refine Ev.bind (RNorm_is N l (by omega)) (Ev.bind (RNorm_is M m (by omega)) (Ev.bind (RNorm_is K n (by omega)) ?_))
        have hcode : ∀ (N : Int) (l : List S62), (normR N l).2.2 = if rightB N l = true then 0 else 13 := by
          intro N l; unfold normR; cases rightB N l <;> simp
        simp only [hcode]
        by_cases hall : rightB N l = true ∧ rightB M m = true ∧ rightB K n = true
        · obtain ⟨r1, r2, r3⟩ := hall
          simp only [r1, r2, r3, if_true, show wrap64 (wrap64 (0 + 0) + 0) = 0 from by unfold wrap64; omega]
          have q1 := (rightB_iff _ _).1 r1
          have q2 := (rightB_iff _ _).1 r2
          refine Ev.bind (max_is N l M m (by omega) (by omega)) (Ev.bind (suc_is N l 1 (by omega)) (Ev.bind (leq_is N l N l (by omega) (by omega)) ?_))
          rw [(leqR_iff r1 r1).2 (leS_refl N l)]
          simp only [if_true]
          have h2 : Ev (fun k => telamonlaw1_LevelOrder.j2 k (maxR N l M m).2.2 (leqR N l M m) false M m (maxR N l M m).1 (maxR N l M m).2.1) true := Ev.succ (by
            simp only [telamonlaw1_LevelOrder.j2, Bool.false_eq_true, if_false, telamonlaw1_num.f, Option.bind_some]
            by_cases c : (maxR N l M m).2.2 = 0
            · obtain ⟨r4, a1, a2, a3⟩ := max_le r1 r2 c
              simp only [c, if_true]
              refine Ev.bind (same_is _ _ M m (by have := maxR_len N l M m; omega) (by omega)) ?_
              rw [← leq_both, (leqR_iff r2 r4).2 a2, Bool.and_true]
              have e : leqR (maxR N l M m).1 (maxR N l M m).2.1 M m = leqR N l M m := Bool.eq_iff_iff.2 (by
                rw [leqR_iff r4 r2, leqR_iff r1 r2]
                exact ⟨fun h => leS_trans a1 h, fun h => a3 M m q2.1.1 h (leS_refl M m)⟩)
              rw [e]
              exact (Ev.pure _).eq (by simp)
            · simp only [c, if_false]; exact Ev.pure _)
          have h1 : Ev (fun k => telamonlaw1_LevelOrder.j1 k (maxR N l M m).2.2 false N l M m K n (maxR N l M m).1 (maxR N l M m).2.1) true := Ev.succ (by
            simp only [telamonlaw1_LevelOrder.j1, Bool.false_eq_true, if_false]
            refine Ev.bind (leq_is N l M m (by omega) (by omega)) (Ev.bind (leq_is M m K n (by omega) (by omega)) ?_)
            cases d1 : leqR N l M m
            · rw [d1] at h2
              simp only [Bool.false_eq_true, if_false]
              exact h2
            · rw [d1] at h2
              simp only [if_true]
              cases d2 : leqR M m K n
              · simp only [Bool.false_eq_true, if_false]
                exact h2
              · simp only [if_true]
                refine Ev.bind (leq_is N l K n (by omega) (by omega)) ?_
                rw [(leqR_iff r1 r3).2 (leS_trans ((leqR_iff r1 r2).1 d1) ((leqR_iff r2 r3).1 d2))]
                exact h2)
          have hs : ∀ (g : Nat → Option Bool), (sucR N l 1).2.2 = 0 → (Ev (fun k => (level_Leq.f k N l (sucR N l 1).1 (sucR N l 1).2.1).bind fun t => if t = true then ((level_Leq.f k (sucR N l 1).1 (sucR N l 1).2.1 N l).bind fun t' => telamonlaw1_LevelOrder.j1 k (maxR N l M m).2.2 t' N l M m K n (maxR N l M m).1 (maxR N l M m).2.1) else g k) true) := fun g c => by
            obtain ⟨r4, a1, a2⟩ := suc_up r1 c
            have hlen := sucR_len N l 1
            refine Ev.bind (leq_is N l _ _ (by omega) (by omega)) ?_
            rw [(leqR_iff r1 r4).2 a1]
            simp only [if_true]
            refine Ev.bind (leq_is _ _ N l (by omega) (by omega)) ?_
            rw [Bool.eq_false_iff.2 (fun h => a2 ((leqR_iff r4 r1).1 h))]
            exact h1
          by_cases c : (maxR N l M m).2.2 = 0
          · obtain ⟨r4, a1, a2, a3⟩ := max_le r1 r2 c
            have hlen := maxR_len N l M m
            refine Ev.congr (fun k => if_pos c) ?_
            refine Ev.bind (leq_is N l _ _ (by omega) (by omega)) ?_
            rw [(leqR_iff r1 r4).2 a1]
            simp only [if_true]
            refine Ev.bind (leq_is M m _ _ (by omega) (by omega)) ?_
            rw [(leqR_iff r2 r4).2 a2]
            simp only [if_true]
            by_cases d : (sucR N l 1).2.2 = 0
            · exact Ev.congr (fun k => if_pos d) (hs _ d)
            · exact Ev.congr (fun k => if_neg d) h1
          · refine Ev.congr (fun k => if_neg c) ?_
            by_cases d : (sucR N l 1).2.2 = 0
            · exact Ev.congr (fun k => if_pos d) (hs _ d)
            · exact Ev.congr (fun k => if_neg d) h1
        · have hne : ¬ wrap64 (wrap64 ((if rightB N l = true then 0 else 13) + (if rightB M m = true then 0 else 13)) + (if rightB K n = true then 0 else 13)) = 0 := by
            revert hall
            cases rightB N l <;> cases rightB M m <;> cases rightB K n <;> simp <;> (unfold wrap64; omega)
          simp only [hne, if_false]
          exact Ev.pure _
end Go.Proofs.Ytbopadglafbdjaa.M
