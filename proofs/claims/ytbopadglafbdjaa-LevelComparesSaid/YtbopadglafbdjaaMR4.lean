/- The reference's order of levels. -/
import Derived.Test.YtbopadglafbdjaaMR1
import Derived.Test.YtbopadglafbdjaaPXxf54
set_option linter.unusedVariables false
set_option linter.unusedSimpArgs false
namespace Go.Proofs.Ytbopadglafbdjaa.M
open Go.RowKit Go.Proofs.Ytbopadglafbdjaa.PX Go.Proofs.YtbopadglafbdjaaW.PrintWords Go.Proofs.YtbopadglafbdjaaW.PrintLast Go.Proofs.YtbopadglafbdjaaW.PrintMore

theorem rleq_l2 (N M : Int) (l m : List S62) (hl : l.length ≤ 1000000) (hm : m.length ≤ 1000000) (x : S62) (px rx : List S62) (hx : l = px ++ x :: rx) (u : Bool)
    (hgo : Ev (fun k => telamonref1_Leq.l1 k ((px ++ [x]).length : Int) N l M m) u) : ∀ rest pre b, m = pre ++ rest →
    Ev (fun k => telamonref1_Leq.l2 k (px.length : Int) b (pre.length : Int) N l M m) (if (b || holdB rest x) = true then u else false)
  | [], pre, b, h => Ev.succ (by
    obtain ⟨h1, h2, h3, h4, h5⟩ := at_split hx (by omega)
    simp only [telamonref1_Leq.l2, at_end h, if_false, h4]
    cases b
    · simp [holdB]; exact Ev.pure _
    · simpa using hgo)
  | v :: rest, pre, b, h => Ev.succ (by
    obtain ⟨h1, h2, h3, h4, h5⟩ := at_split hx (by omega)
    obtain ⟨g1, g2, g3, g4, g5⟩ := at_split h (by omega)
    simp only [telamonref1_Leq.l2, h1, h2, h3, g1, g2, g3, g4, if_true]
    cases b
    · simp only [Bool.false_eq_true, if_false]
      by_cases c : x.f0 = v.f0
      · simp only [c, if_true]
        refine (rleq_l2 N M l m hl hm x px rx hx u hgo rest _ (decide (x.f1 ≤ v.f1)) g5).eq ?_
        simp [holdB, c]
      · simp only [c, if_false]
        refine (rleq_l2 N M l m hl hm x px rx hx u hgo rest _ false g5).eq ?_
        simp [holdB, c]
    · simp only [if_true]
      exact (rleq_l2 N M l m hl hm x px rx hx u hgo rest _ true g5).eq (by simp))
theorem rleq_l1 (N M : Int) (l m : List S62) (hl : l.length ≤ 1000000) (hm : m.length ≤ 1000000) : ∀ rest pre, l = pre ++ rest → Ev (fun k => telamonref1_Leq.l1 k (pre.length : Int) N l M m) (rest.all (holdB m))
  | [], pre, h => Ev.succ (by
    simp only [telamonref1_Leq.l1, at_end h, if_false]
    exact Ev.pure _)
  | v :: rest, pre, h => Ev.succ (by
    obtain ⟨h1, h2, h3, h4, h5⟩ := at_split h (by omega)
    simp only [telamonref1_Leq.l1, h1, if_true]
    refine (rleq_l2 N M l m hl hm v pre rest h _ (rleq_l1 N M l m hl hm rest _ h5) m [] false rfl).eq ?_
    simp only [List.all_cons, Bool.false_or]
    cases holdB m v <;> simp)
theorem rleq_l0 (N M : Int) (l m : List S62) (hl : l.length ≤ 1000000) (hm : m.length ≤ 1000000) : ∀ rest pre T, m = pre ++ rest → Ev (fun k => telamonref1_Leq.l0 k T (pre.length : Int) N l M m) (decide (N ≤ topF T rest) && l.all (holdB m))
  | [], pre, T, h => Ev.succ (by
    simp only [telamonref1_Leq.l0, at_end h, if_false]
    by_cases c : N > T
    · simp only [c, if_true]; refine (Ev.pure _).eq ?_; simp [topF, show ¬ N ≤ T by omega]
    · simp only [c, if_false]; refine (rleq_l1 N M l m hl hm l [] rfl).eq ?_; simp [topF, show N ≤ T by omega])
  | v :: rest, pre, T, h => Ev.succ (by
    obtain ⟨h1, h2, h3, h4, h5⟩ := at_split h (by omega)
    simp only [telamonref1_Leq.l0, h1, h2, h3, h4, if_true]
    by_cases c : v.f1 > T
    · simp only [c, if_true]; refine (rleq_l0 N M l m hl hm rest _ v.f1 h5).eq ?_; simp [topF, c]
    · simp only [c, if_false]; refine (rleq_l0 N M l m hl hm rest _ T h5).eq ?_; simp [topF, c])
theorem rleq_is (N : Int) (l : List S62) (M : Int) (m : List S62) (hl : l.length ≤ 1000000) (hm : m.length ≤ 1000000) : Ev (fun k => telamonref1_Leq.f k N l M m) (leqR N l M m) := by
  unfold telamonref1_Leq.f
  refine Ev.bind (RNorm_is N l (by omega)) (Ev.bind (RNorm_is M m (by omega)) ?_)
  unfold leqR normR
  cases h : rightB N l
  · simp only [Bool.false_eq_true, if_false, Bool.false_and, show ((13 : Int) = 0) = False by simp]
    refine Ev.succ ?_
    simp only [telamonref1_Leq.j0, if_true]
    exact Ev.pure _
  · cases g : rightB M m
    · simp only [if_true, Bool.false_eq_true, if_false, Bool.and_false, Bool.false_and]
      refine Ev.succ ?_
      simp only [telamonref1_Leq.j0, show ((13 : Int) != 0) = true from rfl, if_true]
      exact Ev.pure _
    · simp only [if_true, Bool.and_self, Bool.true_and]
      refine Ev.succ ?_
      have h1 := can_len l
      have h2 := can_len m
      simp only [telamonref1_Leq.j0, show ((0 : Int) != 0) = false from rfl, Bool.false_eq_true, if_false]
      rw [leqB_is _ _ _ _ (fun v hv => ((rightB_iff N l).1 h).2.2 v (can_mem hv) |>.1.1)]
      exact rleq_l0 _ _ (can l) (can m) (by omega) (by omega) (can m) [] _ rfl
end Go.Proofs.Ytbopadglafbdjaa.M
