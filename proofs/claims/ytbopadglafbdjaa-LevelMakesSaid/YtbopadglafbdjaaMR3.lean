/- The reference's greater one of two. -/
import Derived.Test.YtbopadglafbdjaaMR1
import Derived.Test.YtbopadglafbdjaaPXxf48
set_option linter.unusedVariables false
set_option linter.unusedSimpArgs false
namespace Go.Proofs.Ytbopadglafbdjaa.M
open Go.RowKit Go.Proofs.Ytbopadglafbdjaa.PX Go.Proofs.YtbopadglafbdjaaW.PrintWords Go.Proofs.YtbopadglafbdjaaW.PrintLast Go.Proofs.YtbopadglafbdjaaW.PrintMore

theorem rmax_is (N : Int) (l : List S62) (M : Int) (m : List S62) (hl : l.length ≤ 1000000) (hm : m.length ≤ 1000000) : Ev (fun k => telamonref1_Max.f k N l M m) (maxR N l M m) := by
  unfold telamonref1_Max.f
  refine Ev.bind (RNorm_is N l (by omega)) (Ev.bind (RNorm_is M m (by omega)) ?_)
  unfold maxR normR
  cases h : rightB N l
  · simp only [Bool.false_eq_true, if_false, Bool.false_and, show ((13 : Int) = 0) = False by simp]
    refine Ev.succ ?_
    simp only [telamonref1_Max.j0, if_true]
    exact Ev.pure _
  · cases g : rightB M m
    · simp only [if_true, Bool.false_eq_true, if_false, Bool.and_false]
      refine Ev.succ ?_
      simp only [telamonref1_Max.j0, show ((13 : Int) != 0) = true from rfl, if_true]
      exact Ev.pure _
    · simp only [if_true, Bool.and_self]
      refine Ev.succ ?_
      have h1 := can_len l
      have h2 := can_len m
      have h3 : ([] : List S62).length + (can l).length < 8796093022208 := by simp; omega
      have h4 : ([] ++ can l : List S62).length + (can m).length < 8796093022208 := by simp; omega
      simp only [telamonref1_Max.j0, show ((0 : Int) != 0) = false from rfl, Bool.false_eq_true, if_false, h3, h4, if_true, Option.bind_some]
      have hg := (rightB_iff _ _).1 h
      have hh := (rightB_iff _ _).1 g
      have hf : ∀ N', Ev (fun k => (telamonref1_fits.f k N' (([] ++ can l : List S62) ++ can m)).bind fun bt => some (bt.1, bt.2.1, bt.2.2)) (toldR N' (joinS (can l) (can m))) := fun N' => by
        have := Ev.bind (h := fun _ bt => some (bt.1, bt.2.1, bt.2.2)) (fits_is N' (([] ++ can l : List S62) ++ can m) (by simp; omega) (fun v hv => by
          rw [List.nil_append] at hv
          rcases List.mem_append.1 hv with hv | hv
          · exact (hg.2.2 v (can_mem hv)).1.1
          · exact (hh.2.2 v (can_mem hv)).1.1)) (Ev.pure _)
        refine this.eq ?_
        rw [List.nil_append, ← toldR_can _ (can l ++ can m), can_join _ _ (can_ss l) (can_ss m)]
      by_cases c : zN M (can m) > zN N (can l)
      · simp only [c, if_true]; refine (hf _).eq ?_; simp [mx, show zN N (can l) < zN M (can m) from c]
      · simp only [c, if_false]; refine (hf _).eq ?_; simp [mx, show ¬ zN N (can l) < zN M (can m) from c]
end Go.Proofs.Ytbopadglafbdjaa.M
