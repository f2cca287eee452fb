/- The reference's right and canonical levels. -/
import Derived.Test.YtbopadglafbdjaaMP0
import Derived.Test.YtbopadglafbdjaaPXxf75
import Derived.Test.YtbopadglafbdjaaPXxf76
import Derived.Test.YtbopadglafbdjaaPXxf41
set_option linter.unusedVariables false
set_option linter.unusedSimpArgs false
namespace Go.Proofs.Ytbopadglafbdjaa.M
open Go.RowKit Go.Proofs.Ytbopadglafbdjaa.PX Go.Proofs.YtbopadglafbdjaaW.PrintWords Go.Proofs.YtbopadglafbdjaaW.PrintLast Go.Proofs.YtbopadglafbdjaaW.PrintMore

theorem rright_l0 (N : Int) (xs : List S62) (hl : xs.length ≤ 1000000000000) : ∀ rest pre, xs = pre ++ rest → Ev (fun k => telamonref1_right.l0 k (pre.length : Int) N xs) (rest.all okV)
  | [], pre, h => Ev.succ (by
    simp only [telamonref1_right.l0, at_end h, if_false]
    exact Ev.pure _)
  | v :: rest, pre, h => Ev.succ (by
    obtain ⟨h1, h2, h3, h4, h5⟩ := at_split h hl
    simp only [telamonref1_right.l0, h1, h2, h3, h4, if_true]
    have hj : ∀ b : Bool, Ev (fun k => telamonref1_right.j2 k (pre.length : Int) b N xs) (!b && rest.all okV) := fun b => Ev.succ (by
      simp only [telamonref1_right.j2, h4]
      cases b
      · simpa using rright_l0 N xs hl rest (pre ++ [v]) h5
      · simp; exact Ev.pure _)
    by_cases c1 : v.f0 < 0
    · simp only [c1, if_true]; refine (hj true).eq ?_; simp [okV, fineB]; omega
    · by_cases c2 : v.f0 > 1000
      · simp only [c1, c2, if_true, if_false]; refine (hj true).eq ?_; simp [okV, fineB]; omega
      · by_cases c3 : v.f1 < 0
        · simp only [c1, c2, c3, if_true, if_false]; refine (hj true).eq ?_; simp [okV, fineB]; omega
        · simp only [c1, c2, c3, if_true, if_false]; refine (hj _).eq ?_
          by_cases c4 : v.f1 > 1000 <;> simp [okV, fineB, c4] <;> omega)
theorem rright_is (N : Int) (l : List S62) (hl : l.length ≤ 1000000000000) : Ev (fun k => telamonref1_right.f k N l) (rightB N l) := by
  have hj : ∀ b : Bool, Ev (fun k => telamonref1_right.j0 k b N l) (!b && l.all okV) := fun b => Ev.succ (by
      simp only [telamonref1_right.j0]
      cases b
      · simpa using rright_l0 N l hl l [] (by simp)
      · simp; exact Ev.pure _)
  simp only [telamonref1_right.f]
  by_cases c1 : N < 0
  · simp only [c1, if_true]; refine (hj true).eq ?_; simp [rightB, fineB]; omega
  · by_cases c2 : N > 1000
    · simp only [c1, c2, if_true, if_false]; refine (hj true).eq ?_; simp [rightB, fineB]; omega
    · simp only [c1, c2, if_false]; refine (hj _).eq ?_
      by_cases c4 : (l.length : Int) > 64
      · simp [rightB, c4, show ¬ l.length ≤ 64 by omega]
      · simp [rightB, fineB, c4, show l.length ≤ 64 by omega, show (0 : Int) ≤ N by omega, show N ≤ 1000 by omega]
/-! ### The reference's canonical level -/
def step (last : Int) (s : Int × Int) (v : S62) : Int × Int :=
  if v.f0 ≤ last then s else if s.1 < 0 ∨ v.f0 < s.1 then (v.f0, v.f1) else if v.f0 = s.1 ∧ v.f1 > s.2 then (s.1, v.f1) else s
def fin_ (l : List S62) (N M : Int) (out : List S62) (k : Nat) (s : Int × Int) : Option (Int × List S62) :=
  if s.1 < 0 then some (M, out) else if out.length < 8796093022208 then (if s.2 ≥ N then telamonref1_tidy.l0 k s.1 N l 0 (out ++ [⟨s.1, s.2⟩]) else telamonref1_tidy.l0 k s.1 N l M (out ++ [⟨s.1, s.2⟩])) else none
theorem tidy_l1 (xs : List S62) (hl : xs.length ≤ 1000000000000) (last N M : Int) (out : List S62) (u : Int × List S62) : ∀ rest pre s, xs = pre ++ rest →
    Ev (fun k => fin_ xs N M out k (rest.foldl (step last) s)) u → Ev (fun k => telamonref1_tidy.l1 k last s.1 s.2 (pre.length : Int) N xs M out) u
  | [], pre, s, h, hu => Ev.succ (by
    simp only [telamonref1_tidy.l1, at_end h, if_false]
    simpa [fin_] using hu)
  | v :: rest, pre, s, h, hu => Ev.succ (by
    obtain ⟨h1, h2, h3, h4, h5⟩ := at_split h hl
    simp only [telamonref1_tidy.l1, h1, h2, h3, h4, if_true]
    rw [List.foldl_cons] at hu
    by_cases c1 : v.f0 ≤ last
    · simp only [c1, if_true]
      rw [show step last s v = s by simp [step, c1]] at hu
      exact tidy_l1 xs hl last N M out u rest _ s h5 hu
    · simp only [c1, if_false]
      have hj : ∀ b, b = decide (s.1 < 0 ∨ v.f0 < s.1) → Ev (fun k => telamonref1_tidy.j2 k last s.1 s.2 (pre.length : Int) b N xs M out v.f0 v.f1) u := fun b hb => Ev.succ (by
        simp only [telamonref1_tidy.j2, h4]
        by_cases c2 : s.1 < 0 ∨ v.f0 < s.1
        · simp only [hb, c2, decide_true, if_true]
          rw [show step last s v = (v.f0, v.f1) by simp [step, c1, c2]] at hu
          exact tidy_l1 xs hl last N M out u rest _ (v.f0, v.f1) h5 hu
        · simp only [hb, c2, decide_false, Bool.false_eq_true, if_false]
          by_cases c3 : v.f0 = s.1
          · by_cases c4 : v.f1 > s.2
            · simp only [c3, c4, if_true]
              rw [show step last s v = (s.1, v.f1) by unfold step; rw [if_neg c1, if_neg c2, if_pos ⟨c3, c4⟩]] at hu
              exact tidy_l1 xs hl last N M out u rest _ (s.1, v.f1) h5 hu
            · simp only [c3, c4, if_true, if_false]
              rw [show step last s v = s by unfold step; rw [if_neg c1, if_neg c2, if_neg (fun q => c4 q.2)]] at hu
              exact tidy_l1 xs hl last N M out u rest _ s h5 hu
          · simp only [c3, if_false]
            rw [show step last s v = s by simp [step, c1, c2, c3]] at hu
            exact tidy_l1 xs hl last N M out u rest _ s h5 hu)
      by_cases c2 : s.1 < 0
      · simp only [c2, if_true]; exact hj true (by simp [c2])
      · simp only [c2, if_false]; exact hj _ (by simp [c2]))
/-- What the scan tells of the part that it has seen. -/
def Seen (last : Int) (p : List S62) (s : Int × Int) : Prop :=
  (s.1 = -1 ∧ ∀ v ∈ p, v.f0 ≤ last) ∨ (0 ≤ s.1 ∧ last < s.1 ∧ (⟨s.1, s.2⟩ : S62) ∈ p ∧ ∀ v ∈ p, last < v.f0 → s.1 < v.f0 ∨ (v.f0 = s.1 ∧ v.f1 ≤ s.2))
theorem seen_go (last : Int) (hlast : -1 ≤ last) : ∀ rest p s, Seen last p s → Seen last (p ++ rest) (rest.foldl (step last) s)
  | [], p, s, h => by simpa using h
  | v :: rest, p, s, h => by
    rw [List.foldl_cons, show p ++ v :: rest = (p ++ [v]) ++ rest by simp]
    refine seen_go last hlast rest _ _ ?_
    unfold step
    by_cases c1 : v.f0 ≤ last
    · simp only [c1, if_true]
      rcases h with ⟨a, b⟩ | ⟨a, b, c, d⟩
      · left; refine ⟨a, fun w hw => ?_⟩; rcases List.mem_append.1 hw with hw | hw
        · exact b w hw
        · simp at hw; subst hw; exact c1
      · right; refine ⟨a, b, List.mem_append_left _ c, fun w hw hl => ?_⟩; rcases List.mem_append.1 hw with hw | hw
        · exact d w hw hl
        · simp at hw; subst hw; omega
    · simp only [c1, if_false]
      by_cases c2 : s.1 < 0 ∨ v.f0 < s.1
      · simp only [c2, if_true]
        right; refine ⟨by simp only; omega, by simp only; omega, by simp, fun w hw hl => ?_⟩
        rcases List.mem_append.1 hw with hw | hw
        · rcases h with ⟨a, b⟩ | ⟨a, b, c, d⟩
          · have := b w hw; omega
          · have := d w hw hl; simp only; omega
        · simp at hw; subst hw; simp
      · simp only [c2, if_false]
        rcases h with ⟨a, b⟩ | ⟨a, b, c, d⟩
        · omega
        · by_cases c3 : v.f0 = s.1 ∧ v.f1 > s.2
          · simp only [c3, and_self, if_true]
            right; refine ⟨a, b, ?_, fun w hw hl => ?_⟩
            · refine List.mem_append_right _ ?_; simp; exact S62.ext c3.1.symm rfl
            · rcases List.mem_append.1 hw with hw | hw
              · have := d w hw hl; simp only; omega
              · simp at hw; subst hw; simp only; omega
          · simp only [c3, if_false]
            right; refine ⟨a, b, List.mem_append_left _ c, fun w hw hl => ?_⟩
            rcases List.mem_append.1 hw with hw | hw
            · exact d w hw hl
            · simp at hw; subst hw; omega
def above (last : Int) (l : List S62) : List S62 := l.filter (fun v => decide (last < v.f0))
theorem tidy_l0 (l : List S62) (hl : l.length ≤ 1000000000000) (N : Int) : ∀ (m : Nat) (last M : Int) (out : List S62), (above last l).length ≤ m → -1 ≤ last → out.length + m ≤ 1000000000000 →
    Ev (fun k => telamonref1_tidy.l0 k last N l M out) (if (can (above last l)).any (fun v => decide (N ≤ v.f1)) then 0 else M, out ++ can (above last l)) := by
  intro m
  induction m with
  | zero =>
    intro last M out hm hlast ho
    refine Ev.succ ?_
    simp only [telamonref1_tidy.l0]
    have hS := seen_go last hlast l [] (-1, 0) (.inl ⟨rfl, by simp⟩)
    refine tidy_l1 l hl last N M out _ l [] (-1, 0) (by simp) ?_
    have he : above last l = [] := List.eq_nil_of_length_eq_zero (by omega)
    have hn : ∀ v ∈ l, v.f0 ≤ last := fun v hv => by
      by_cases c : v.f0 ≤ last
      · exact c
      · have : v ∈ above last l := by simp [above, hv]; omega
        rw [he] at this; simp at this
    generalize l.foldl (step last) (-1, 0) = s at hS ⊢
    rcases hS with ⟨a, b⟩ | ⟨a, b, c, d⟩
    · simp [fin_, a, he, can]; exact Ev.pure _
    · have := hn _ (by simpa using c); simp only at this; omega
  | succ m ih =>
    intro last M out hm hlast ho
    refine Ev.succ ?_
    simp only [telamonref1_tidy.l0]
    have hS := seen_go last hlast l [] (-1, 0) (.inl ⟨rfl, by simp⟩)
    refine tidy_l1 l hl last N M out _ l [] (-1, 0) (by simp) ?_
    generalize l.foldl (step last) (-1, 0) = s at hS ⊢
    rcases hS with ⟨a, b⟩ | ⟨a, b, c, d⟩
    · have he : above last l = [] := List.filter_eq_nil_iff.2 (fun v hv => by have := b v (by simpa using hv); simp; omega)
      simp [fin_, a, he, can]; exact Ev.pure _
    · simp only [List.nil_append] at c d
      have hc : can (above last l) = ⟨s.1, s.2⟩ :: can (above s.1 l) := by
        have g := can_is (above s.1 l)
        refine can_eq ⟨List.pairwise_cons.2 ⟨fun z hz => ?_, g.ss⟩, fun x hx => ?_, fun y hy => ?_⟩
        · have := g.sub z hz; simp [above] at this; exact this.2
        · rcases List.mem_cons.1 hx with rfl | hx
          · simp [above, c, b]
          · have := g.sub x hx; simp [above] at this ⊢; exact ⟨this.1, by omega⟩
        · simp [above] at hy
          rcases d y hy.1 hy.2 with h1 | h1
          · obtain ⟨z, hz, e⟩ := g.top y (by simp [above, hy.1, h1])
            exact ⟨z, List.mem_cons_of_mem _ hz, e⟩
          · exact ⟨_, List.mem_cons_self, h1.1.symm, h1.2⟩
      have hlen : (above s.1 l).length ≤ m := by
        have hlt : (above s.1 l).length < (above last l).length := by
          have e : above s.1 l = above s.1 (above last l) := by
            simp only [above, List.filter_filter]
            refine List.filter_congr fun v _ => ?_
            by_cases h1 : s.1 < v.f0 <;> simp [h1]; omega
          rw [e]
          refine List.length_filter_lt_length_iff_exists.2 ⟨⟨s.1, s.2⟩, ?_, by simp⟩
          simp [above, c, b]
        omega
      rw [hc]
      have h0 : ¬ s.1 < 0 := by omega
      have h1 : out.length < 8796093022208 := by omega
      simp only [fin_, h0, h1, if_true, if_false]
      by_cases c4 : s.2 ≥ N
      · simp only [c4, if_true]
        refine (ih s.1 0 _ hlen (by omega) (by simp; omega)).eq ?_
        simp [show N ≤ s.2 by omega]
      · simp only [c4, if_false]
        refine (ih s.1 M _ hlen (by omega) (by simp; omega)).eq ?_
        simp [show ¬ N ≤ s.2 by omega]
theorem tidy_is (N : Int) (l : List S62) (hl : l.length ≤ 100000000000) (h0 : ∀ v ∈ l, 0 ≤ v.f0) : Ev (fun k => telamonref1_tidy.f k N l) (zN N (can l), can l) := by
  unfold telamonref1_tidy.f
  refine (tidy_l0 l (by omega) N l.length (-1) N [] (List.length_filter_le _ _) (by omega) (by simp; omega)).eq ?_
  rw [show above (-1) l = l from List.filter_eq_self.2 (fun v hv => by have := h0 v hv; simp; omega)]
  simp [zN]
theorem RNorm_is (N : Int) (l : List S62) (hl : l.length ≤ 100000000000) : Ev (fun k => telamonref1_Norm.f k N l) (normR N l) := by
  unfold telamonref1_Norm.f
  refine Ev.bind (rright_is N l (by omega)) ?_
  unfold normR
  cases h : rightB N l
  · simp; exact Ev.pure _
  · simp only [if_true]; exact Ev.bind (tidy_is N l hl (fun v hv => ((rightB_iff N l).1 h).2.2 v hv |>.1.1)) (Ev.pure _)
end Go.Proofs.Ytbopadglafbdjaa.M
