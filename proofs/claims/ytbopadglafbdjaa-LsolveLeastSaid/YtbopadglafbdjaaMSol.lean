/- Plain Lean: limits and their least solutions: rounds that raise the values from below come to the least one, or there is none. -/
import Derived.Test.YtbopadglafbdjaaMS0
import Derived.Test.YtbopadglafbdjaaSR
set_option linter.unusedVariables false
set_option linter.unusedSimpArgs false
namespace Go.Proofs.Ytbopadglafbdjaa.M
open Go.RowKit Go.Proofs.Ytbopadglafbdjaa.PX Go.Proofs.YtbopadglafbdjaaW.PrintWords Go.Proofs.YtbopadglafbdjaaW.PrintLast Go.Proofs.YtbopadglafbdjaaW.PrintMore

/-- What a limit's level is at some values. -/
def EL (m : S101) (c : List Int) : Int := evalR m.f0.f0 m.f0.f1 c
def holdM (m : S101) (y : List Int) : Prop := EL m y ≤ if m.f1 < 0 then m.f2 else rd y m.f1 + m.f2
structure Good (n : Nat) (m : S101) : Prop where
  right : rightB m.f0.f0 m.f0.f1 = true
  lo : 0 ≤ m.f2
  hi : m.f2 ≤ 1000
  on : m.f1 < n
def InR (n : Nat) (c : List Int) : Prop := c.length = n ∧ ∀ v ∈ c, 0 ≤ v ∧ v ≤ 1000
def Sol (n : Nat) (ms : List S101) (y : List Int) : Prop := InR n y ∧ ∀ m ∈ ms, holdM m y
def LeL (c x : List Int) : Prop := ∀ i : Nat, c.getD i 0 ≤ x.getD i 0
def Least (n : Nat) (ms : List S101) (x : List Int) : Prop := Sol n ms x ∧ ∀ y, Sol n ms y → LeL x y

theorem LeL.refl (c : List Int) : LeL c c := fun _ => Int.le_refl _
theorem LeL.trans {a b c : List Int} (h : LeL a b) (k : LeL b c) : LeL a c := fun i => Int.le_trans (h i) (k i)
theorem InR.low {n : Nat} {c : List Int} (h : InR n c) : Low c := fun v hv => by have := (h.2 v hv).2; omega
theorem InR.get {n : Nat} {c : List Int} (h : InR n c) (i : Nat) : 0 ≤ c.getD i 0 ∧ c.getD i 0 ≤ 1000 := by
  rw [List.getD_eq_getElem?_getD]
  cases e : c[i]? with
  | none => simp
  | some v => simpa using h.2 v (List.mem_of_getElem? e)
theorem getD_off {c : List Int} {i : Nat} (h : c.length ≤ i) : c.getD i 0 = 0 := by simp [List.getD_eq_getElem?_getD, List.getElem?_eq_none h]
theorem list_ext {c x : List Int} (hl : c.length = x.length) (h : ∀ i : Nat, i < c.length → c.getD i 0 = x.getD i 0) : c = x := by
  apply List.ext_getElem hl
  intro i h1 h2
  have := h i h1
  simpa [List.getD_eq_getElem?_getD, List.getElem?_eq_getElem h1, List.getElem?_eq_getElem h2] using this
theorem LeL.antisymm {n : Nat} {c x : List Int} (hc : c.length = n) (hx : x.length = n) (h : LeL c x) (k : LeL x c) : c = x := list_ext (by omega) (fun i _ => Int.le_antisymm (h i) (k i))
theorem getD_set (c : List Int) (i j : Nat) (v : Int) : (c.set i v).getD j 0 = if i = j ∧ i < c.length then v else c.getD j 0 := by
  simp only [List.getD_eq_getElem?_getD, List.getElem?_set]
  by_cases e : i = j
  · subst e
    by_cases h : i < c.length
    · simp [h]
    · simp [h]
  · simp [e]
theorem val_eq {n : Nat} {c : List Int} (h : InR n c) (i : Int) : val c i = if i < (n : Int) then c.getD i.toNat 0 else 0 := by
  unfold val
  rw [h.1]
  split
  · have := (h.get i.toNat).1
    unfold mx rd; split <;> omega
  · rfl
theorem val_mono {n : Nat} {c x : List Int} (hc : InR n c) (hx : InR n x) (h : LeL c x) (i : Int) : val c i ≤ val x i := by
  rw [val_eq hc, val_eq hx]
  split
  · exact h _
  · exact Int.le_refl _
theorem EL_le {n : Nat} {m : S101} (hm : rightB m.f0.f0 m.f0.f1 = true) {c : List Int} (hc : InR n c) (b : Int) : EL m c ≤ b ↔ UpTo c b m.f0.f0 m.f0.f1 := evalR_le hc.low b _ _ hm
theorem EL_mono {n : Nat} {m : S101} (hm : rightB m.f0.f0 m.f0.f1 = true) {c x : List Int} (hc : InR n c) (hx : InR n x) (h : LeL c x) : EL m c ≤ EL m x := by
  refine (EL_le hm hc _).2 ?_
  have := (EL_le hm hx (EL m x)).1 (Int.le_refl _)
  exact ⟨this.1, fun v hv => by have h1 := this.2 v hv; have h2 := val_mono hc hx h v.f0; omega⟩
theorem EL_bounds {n : Nat} (m : S101) {c : List Int} (hc : InR n c) : 0 ≤ EL m c ∧ EL m c ≤ 2001000 := eval_bounds hc.low _ _

/-! ### One step -/
def stepM (c : List Int) (m : S101) : List Int := match updR c m with
  | none => c
  | some p => setV c p
theorem upd_some {n : Nat} {m : S101} (hm : Good n m) {c : List Int} (hc : InR n c) {p : Int × Int} (h : updR c m = some p) : 0 ≤ m.f1 ∧ p = (m.f1, EL m c - m.f2) ∧ rd c m.f1 < EL m c - m.f2 := by
  have hb := EL_bounds m hc
  have hw : wrap64 (EL m c - m.f2) = EL m c - m.f2 := wr _ (by have := hm.hi; omega) (by have := hm.lo; omega)
  unfold updR at h
  split at h
  · cases h
  · next h0 =>
    split at h
    · next h1 =>
      cases h
      change wrap64 (EL m c - m.f2) > _ at h1
      rw [hw] at h1
      refine ⟨by omega, ?_, by omega⟩
      show (m.f1, wrap64 (EL m c - m.f2)) = _
      rw [hw]
    · cases h
theorem upd_none {n : Nat} {m : S101} (hm : Good n m) {c : List Int} (hc : InR n c) (h : updR c m = none) (h0 : 0 ≤ m.f1) : EL m c ≤ rd c m.f1 + m.f2 := by
  have hb := EL_bounds m hc
  have hw : wrap64 (EL m c - m.f2) = EL m c - m.f2 := wr _ (by have := hm.hi; omega) (by have := hm.lo; omega)
  unfold updR at h
  rw [if_neg (by omega)] at h
  split at h
  · cases h
  · next h1 =>
    change ¬ wrap64 (EL m c - m.f2) > _ at h1
    rw [hw] at h1
    omega
theorem upd_hold {n : Nat} {m : S101} (hm : Good n m) {c : List Int} (hc : InR n c) (h : holdM m c) : updR c m = none := by
  cases e : updR c m with
  | none => rfl
  | some p =>
    obtain ⟨h1, h2, h3⟩ := upd_some hm hc e
    unfold holdM at h
    rw [if_neg (by omega)] at h
    omega
theorem set_inR {n : Nat} {c : List Int} (hc : InR n c) (i : Nat) {v : Int} (h0 : 0 ≤ v) (h1 : v ≤ 1000) : InR n (c.set i v) := by
  refine ⟨by rw [List.length_set]; exact hc.1, fun u hu => ?_⟩
  rcases List.mem_or_eq_of_mem_set hu with h | h
  · exact hc.2 u h
  · subst h; exact ⟨h0, h1⟩
theorem step_inR {n : Nat} {m : S101} (hm : Good n m) {c : List Int} (hc : InR n c) (hf : ∀ p, updR c m = some p → p.2 ≤ 1000) : InR n (stepM c m) ∧ LeL c (stepM c m) := by
  unfold stepM
  cases e : updR c m with
  | none => exact ⟨hc, LeL.refl _⟩
  | some p =>
    obtain ⟨h1, h2, h3⟩ := upd_some hm hc e
    have hg := (hc.get m.f1.toNat).1
    have hp := hf p e
    subst h2
    simp only at hp
    change c.getD m.f1.toNat 0 < _ at h3
    refine ⟨set_inR hc _ (by show 0 ≤ EL m c - m.f2; omega) hp, fun i => ?_⟩
    show _ ≤ (c.set m.f1.toNat (EL m c - m.f2)).getD i 0
    rw [getD_set]
    split
    · next hi => rw [← hi.1]; omega
    · exact Int.le_refl _
theorem step_mid {n : Nat} {m : S101} (hm : Good n m) {c : List Int} (hc : InR n c) (h0 : 0 ≤ m.f1) : EL m c ≤ rd (stepM c m) m.f1 + m.f2 := by
  unfold stepM
  cases e : updR c m with
  | none => exact upd_none hm hc e h0
  | some p =>
    obtain ⟨h1, h2, h3⟩ := upd_some hm hc e
    subst h2
    have hl : m.f1.toNat < c.length := by rw [hc.1]; have := hm.on; omega
    show _ ≤ (c.set m.f1.toNat (EL m c - m.f2)).getD m.f1.toNat 0 + _
    rw [getD_set, if_pos ⟨rfl, hl⟩]; omega
theorem step_le {n : Nat} {ms : List S101} {m : S101} (hm : Good n m) (hmem : m ∈ ms) {c x : List Int} (hc : InR n c) (hx : Sol n ms x) (hle : LeL c x) : (∀ p, updR c m = some p → p.2 ≤ 1000) ∧ LeL (stepM c m) x := by
  have hmono := EL_mono hm.right hc hx.1 hle
  have hh := hx.2 m hmem
  unfold holdM at hh
  refine ⟨fun p hp => ?_, ?_⟩
  · obtain ⟨h1, h2, h3⟩ := upd_some hm hc hp
    subst h2
    rw [if_neg (by omega)] at hh
    have := (hx.1.get m.f1.toNat).2
    change EL m x ≤ x.getD m.f1.toNat 0 + _ at hh
    show EL m c - m.f2 ≤ 1000
    omega
  · unfold stepM
    cases e : updR c m with
    | none => exact hle
    | some p =>
      obtain ⟨h1, h2, h3⟩ := upd_some hm hc e
      subst h2
      rw [if_neg (by omega)] at hh
      change EL m x ≤ x.getD m.f1.toNat 0 + _ at hh
      intro i
      show (c.set m.f1.toNat (EL m c - m.f2)).getD i 0 ≤ _
      rw [getD_set]
      split
      · next hi => rw [← hi.1]; omega
      · exact hle i

/-! ### A round -/
def runM (c : List Int) (ms : List S101) : List Int := stV c (ysR c ms)
theorem runM_cons (c : List Int) (m : S101) (ms : List S101) : runM c (m :: ms) = runM (stepM c m) ms := by
  unfold runM stepM
  simp only [ysR]
  cases updR c m <;> rfl
def Fine (c : List Int) (ms : List S101) : Prop := ∀ p ∈ ysR c ms, p.2 ≤ 1000
theorem fine_cons {c : List Int} {m : S101} {ms : List S101} : Fine c (m :: ms) ↔ (∀ p, updR c m = some p → p.2 ≤ 1000) ∧ Fine (stepM c m) ms := by
  unfold Fine stepM
  simp only [ysR]
  cases e : updR c m with
  | none => simp
  | some p => simp
theorem run_inR {n : Nat} : ∀ (ms : List S101) {c : List Int}, InR n c → (∀ m ∈ ms, Good n m) → Fine c ms →
    InR n (runM c ms) ∧ LeL c (runM c ms) ∧ ∀ m ∈ ms, 0 ≤ m.f1 → ∃ u, InR n u ∧ LeL c u ∧ LeL u (runM c ms) ∧ EL m u ≤ rd (runM c ms) m.f1 + m.f2
  | [], c, hc, _, _ => ⟨hc, LeL.refl _, by simp⟩
  | m :: ms, c, hc, hg, hf => by
    rw [runM_cons]
    obtain ⟨f1, f2⟩ := fine_cons.1 hf
    have hm := hg m (List.mem_cons_self ..)
    obtain ⟨s1, s2⟩ := step_inR hm hc f1
    obtain ⟨r1, r2, r3⟩ := run_inR ms s1 (fun q hq => hg q (List.mem_cons_of_mem _ hq)) f2
    refine ⟨r1, s2.trans r2, fun q hq h0 => ?_⟩
    rcases List.mem_cons.1 hq with rfl | hq
    · refine ⟨c, hc, LeL.refl _, s2.trans r2, ?_⟩
      have h1 := step_mid hm hc h0
      have h2 := r2 q.f1.toNat
      change _ ≤ (stepM c q).getD q.f1.toNat 0 + _ at h1
      show _ ≤ (runM (stepM c q) ms).getD q.f1.toNat 0 + _
      omega
    · obtain ⟨u, u1, u2, u3, u4⟩ := r3 q hq h0
      exact ⟨u, u1, s2.trans u2, u3, u4⟩
theorem run_le {n : Nat} {MS : List S101} {x : List Int} (hx : Sol n MS x) : ∀ (ms : List S101) {c : List Int}, InR n c → (∀ m ∈ ms, Good n m ∧ m ∈ MS) → LeL c x → Fine c ms ∧ LeL (runM c ms) x
  | [], c, hc, _, hle => ⟨by simp [Fine, ysR], hle⟩
  | m :: ms, c, hc, hg, hle => by
    have hm := hg m (List.mem_cons_self ..)
    obtain ⟨s1, s2⟩ := step_le hm.1 hm.2 hc hx hle
    obtain ⟨r1, r2⟩ := run_le hx ms (step_inR hm.1 hc s1).1 (fun q hq => hg q (List.mem_cons_of_mem _ hq)) s2
    rw [runM_cons]
    exact ⟨fine_cons.2 ⟨s1, r1⟩, r2⟩
theorem ys_nil {n : Nat} : ∀ (ms : List S101) {c : List Int}, InR n c → (∀ m ∈ ms, Good n m) → ysR c ms = [] → ∀ m ∈ ms, 0 ≤ m.f1 → holdM m c
  | [], c, hc, _, _ => by simp
  | m :: ms, c, hc, hg, h => by
    simp only [ysR] at h
    cases e : updR c m with
    | some p => rw [e] at h; cases h
    | none =>
      rw [e] at h
      intro q hq h0
      rcases List.mem_cons.1 hq with rfl | hq
      · unfold holdM; rw [if_neg (by omega)]; exact upd_none (hg q (List.mem_cons_self ..)) hc e h0
      · exact ys_nil ms hc (fun q hq => hg q (List.mem_cons_of_mem _ hq)) h q hq h0
theorem ys_sol {n : Nat} : ∀ (ms : List S101) {c : List Int}, InR n c → (∀ m ∈ ms, Good n m ∧ holdM m c) → ysR c ms = []
  | [], c, hc, _ => rfl
  | m :: ms, c, hc, hg => by
    have hm := hg m (List.mem_cons_self ..)
    simp only [ysR, upd_hold hm.1 hc hm.2]
    exact ys_sol ms hc (fun q hq => hg q (List.mem_cons_of_mem _ hq))
theorem ys_grow {n : Nat} : ∀ (ms : List S101) {c : List Int}, InR n c → (∀ m ∈ ms, Good n m) → Fine c ms → ysR c ms ≠ [] → ∃ i, i < n ∧ c.getD i 0 < (runM c ms).getD i 0
  | [], c, hc, _, _, h => absurd rfl h
  | m :: ms, c, hc, hg, hf, h => by
    obtain ⟨f1, f2⟩ := fine_cons.1 hf
    have hm := hg m (List.mem_cons_self ..)
    have hs := step_inR hm hc f1
    have hgr : ∀ q ∈ ms, Good n q := fun q hq => hg q (List.mem_cons_of_mem _ hq)
    rw [runM_cons]
    cases e : updR c m with
    | none =>
      have e2 : stepM c m = c := by unfold stepM; rw [e]
      rw [e2] at f2 ⊢
      simp only [ysR, e] at h
      exact ys_grow ms hc hgr f2 h
    | some p =>
      obtain ⟨h1, h2, h3⟩ := upd_some hm hc e
      subst h2
      have hl : m.f1.toNat < c.length := by rw [hc.1]; have := hm.on; omega
      refine ⟨m.f1.toNat, by have := hc.1; omega, ?_⟩
      have r2 := (run_inR ms hs.1 hgr f2).2.1 m.f1.toNat
      have e2 : (stepM c m).getD m.f1.toNat 0 = EL m c - m.f2 := by
        unfold stepM; rw [e]
        show (c.set m.f1.toNat (EL m c - m.f2)).getD m.f1.toNat 0 = _
        rw [getD_set, if_pos ⟨rfl, hl⟩]
      rw [e2] at r2
      change c.getD m.f1.toNat 0 < _ at h3
      omega

/-! ### How many stand below -/
theorem filter_le {α : Type} (l : List α) {p q : α → Bool} (h : ∀ a ∈ l, q a = true → p a = true) : (l.filter q).length ≤ (l.filter p).length := by
  induction l with
  | nil => simp
  | cons a l ih =>
    have := ih (fun b hb => h b (List.mem_cons_of_mem _ hb))
    have ha := h a (List.mem_cons_self ..)
    simp only [List.filter_cons]
    cases hq : q a
    · cases p a <;> simp <;> omega
    · rw [ha hq]; simp; omega
theorem filter_lt {α : Type} (l : List α) {p q : α → Bool} (h : ∀ a ∈ l, q a = true → p a = true) (hx : ∃ a ∈ l, p a = true ∧ q a = false) : (l.filter q).length < (l.filter p).length := by
  induction l with
  | nil => obtain ⟨a, ha, _⟩ := hx; cases ha
  | cons a l ih =>
    have hl := filter_le l (fun b hb => h b (List.mem_cons_of_mem _ hb))
    have ha := h a (List.mem_cons_self ..)
    simp only [List.filter_cons]
    obtain ⟨b, hb, hp, hq⟩ := hx
    rcases List.mem_cons.1 hb with rfl | hb
    · rw [hp, hq]; simp; omega
    · have := ih (fun b hb => h b (List.mem_cons_of_mem _ hb)) ⟨b, hb, hp, hq⟩
      cases hqa : q a
      · cases p a <;> simp <;> omega
      · rw [ha hqa]; simp; omega
def lowN (n : Nat) (c x : List Int) : Nat := ((List.range n).filter (fun i => decide (c.getD i 0 < x.getD i 0))).length
theorem lowN_le (n : Nat) (c x : List Int) : lowN n c x ≤ n := by
  unfold lowN
  exact Nat.le_trans (List.length_filter_le _ _) (by simp)
theorem lowN_zero {n : Nat} {c x : List Int} (hc : c.length = n) (hx : x.length = n) (hle : LeL c x) (h : lowN n c x = 0) : c = x := by
  unfold lowN at h
  have hf := List.eq_nil_of_length_eq_zero h
  refine LeL.antisymm hc hx hle (fun i => ?_)
  by_cases hi : i < n
  · have := List.filter_eq_nil_iff.1 hf i (List.mem_range.2 hi)
    simp at this
    simpa using this
  · rw [getD_off (by omega), getD_off (by omega)]; exact Int.le_refl _
/-- The least solution less one wherever a round has not come up to it would be a solution, if the round left each such place as it was. -/
theorem gap {n : Nat} {ms : List S101} (hg : ∀ m ∈ ms, Good n m) {x c : List Int} (hx : Least n ms x) (hc : InR n c) (hle : LeL c x) (hne : runM c ms ≠ x) : lowN n (runM c ms) x < lowN n c x := by
  obtain ⟨hf, hr⟩ := run_le hx.1 ms hc (fun m hm => ⟨hg m hm, hm⟩) hle
  obtain ⟨r1, r2, r3⟩ := run_inR ms hc hg hf
  apply Classical.byContradiction
  intro hn
  -- every place that stood below still does
  have hsame : ∀ i, i < n → c.getD i 0 < x.getD i 0 → (runM c ms).getD i 0 < x.getD i 0 := by
    intro i hi h1
    apply Classical.byContradiction
    intro h2
    refine hn (filter_lt _ (fun j _ hj => ?_) ⟨i, List.mem_range.2 hi, decide_eq_true h1, decide_eq_false h2⟩)
    have := r2 j
    simp only [decide_eq_true_eq] at hj ⊢
    omega
  have hxl := hx.1.1.1
  obtain ⟨y, hy⟩ : ∃ y, y = (List.range n).map (fun i => if (runM c ms).getD i 0 < x.getD i 0 then x.getD i 0 - 1 else x.getD i 0) := ⟨_, rfl⟩
  have hyl : y.length = n := by rw [hy]; simp
  have hyg : ∀ i, i < n → y.getD i 0 = if (runM c ms).getD i 0 < x.getD i 0 then x.getD i 0 - 1 else x.getD i 0 := by
    intro i hi; rw [hy]; simp [List.getD_eq_getElem?_getD, List.getElem?_range, hi]
  have hyR : InR n y := by
    refine ⟨hyl, fun v hv => ?_⟩
    rw [hy] at hv
    obtain ⟨i, _, rfl⟩ := List.mem_map.1 hv
    have h1 := hx.1.1.get i
    have h2 := r1.get i
    split <;> omega
  have hyx : LeL y x := by
    intro i
    by_cases hi : i < n
    · rw [hyg i hi]; split <;> omega
    · rw [getD_off (by omega), getD_off (by omega)]; exact Int.le_refl _
  have hsol : Sol n ms y := by
    refine ⟨hyR, fun m hm => ?_⟩
    have gm := hg m hm
    have hh := hx.1.2 m hm
    have hmono := EL_mono gm.right hyR hx.1.1 hyx
    unfold holdM at hh ⊢
    by_cases h0 : m.f1 < 0
    · rw [if_pos h0] at hh ⊢; omega
    · rw [if_neg h0] at hh ⊢
      have hon : m.f1.toNat < n := by have := gm.on; omega
      change EL m x ≤ x.getD m.f1.toNat 0 + _ at hh
      show EL m y ≤ y.getD m.f1.toNat 0 + _
      rw [hyg _ hon]
      split
      · next hk =>
        obtain ⟨u, u1, u2, u3, u4⟩ := r3 m hm (by omega)
        change _ ≤ (runM c ms).getD m.f1.toNat 0 + _ at u4
        have ux := (EL_le gm.right u1 _).1 (Int.le_refl (EL m u))
        have xx := (EL_le gm.right hx.1.1 _).1 (Int.le_refl (EL m x))
        refine (EL_le gm.right hyR _).2 ⟨by have := ux.1; omega, fun v hv => ?_⟩
        have h1 := ux.2 v hv
        have h2 := xx.2 v hv
        rw [val_eq u1] at h1
        rw [val_eq hx.1.1] at h2
        rw [val_eq hyR]
        by_cases hi : v.f0 < (n : Int)
        · rw [if_pos hi] at h1 h2 ⊢
          by_cases hin : v.f0.toNat < n
          · rw [hyg _ hin]
            split
            · omega
            · next hv2 =>
              -- the place stood at x ahead of the round
              have h3 : ¬ c.getD v.f0.toNat 0 < x.getD v.f0.toNat 0 := fun h => hv2 (hsame _ hin h)
              have h4 := hle v.f0.toNat
              have h5 := u2 v.f0.toNat
              omega
          · rw [getD_off (by omega)] at h1 h2 ⊢
            have h6 := (hx.1.1.get m.f1.toNat)
            omega
        · rw [if_neg hi] at h1 h2 ⊢
          omega
      · omega
  -- so it is not smaller: nothing stands below
  have hle2 := hx.2 y hsol
  refine hne (lowN_zero r1.1 hxl hr ?_)
  unfold lowN
  rw [List.length_eq_zero_iff, List.filter_eq_nil_iff]
  intro i hi
  have hi := List.mem_range.1 hi
  have h1 := hle2 i
  rw [hyg i hi] at h1
  simp only [decide_eq_true_eq]
  intro h2
  rw [if_pos h2] at h1
  omega

/-! ### Rounds -/
theorem bad_fine {n r : Int} {c : List Int} {ms : List S101} (h : badR n r (ysR c ms) = false) : Fine c ms := by
  intro p hp
  unfold badR at h
  have := (List.any_eq_false.1 h) p hp
  simp at this
  omega
theorem rounds_least {n : Nat} {ms : List S101} (hg : ∀ m ∈ ms, Good n m) {x : List Int} (hx : Least n ms x) : ∀ (f : Nat) (r : Nat) (c : List Int), InR n c → LeL c x → lowN n c x + r ≤ n → n + 2 ≤ r + f → roundsR (n : Int) ms f (r : Int) c = some x
  | 0, r, c, hc, hle, hl, hf => by omega
  | f + 1, r, c, hc, hle, hl, hf => by
    obtain ⟨hfine, hr⟩ := run_le hx.1 ms hc (fun m hm => ⟨hg m hm, hm⟩) hle
    have hb : badR (n : Int) (r : Int) (ysR c ms) = false := by
      unfold badR
      refine List.any_eq_false.2 (fun p hp => ?_)
      have := hfine p hp
      simp; omega
    simp only [roundsR, hb, Bool.false_eq_true, if_false]
    by_cases hy : ysR c ms = []
    · rw [if_pos hy]
      congr 1
      have hs : Sol n ms c := by
        refine ⟨hc, fun m hm => ?_⟩
        by_cases h0 : m.f1 < 0
        · have h1 := hx.1.2 m hm
          have h2 := EL_mono (hg m hm).right hc hx.1.1 hle
          unfold holdM at h1 ⊢
          rw [if_pos h0] at h1 ⊢
          omega
        · exact ys_nil ms hc hg hy m hm (by omega)
      exact LeL.antisymm hc.1 hx.1.1.1 hle (hx.2 c hs)
    · rw [if_neg hy]
      have hr1 := run_inR ms hc hg hfine
      change roundsR _ ms f (r + 1) (runM c ms) = some x
      by_cases he : runM c ms = x
      · rw [he]
        have hys : ysR x ms = [] := ys_sol ms hx.1.1 (fun m hm => ⟨hg m hm, hx.1.2 m hm⟩)
        cases f with
        | zero => omega
        | succ f => simp [roundsR, hys, badR]
      · have := gap hg hx hc hle he
        exact_mod_cast rounds_least hg hx f (r + 1) (runM c ms) hr1.1 hr (by omega) (by omega)
theorem rounds_some {n : Nat} {ms : List S101} (hg : ∀ m ∈ ms, Good n m) {N : Int} : ∀ (f : Nat) (r : Int) (c c' : List Int), InR n c → roundsR N ms f r c = some c' → InR n c' ∧ ysR c' ms = []
  | 0, r, c, c', hc, h => by simp [roundsR] at h
  | f + 1, r, c, c', hc, h => by
    simp only [roundsR] at h
    split at h
    · cases h
    · next hb =>
      have hf := bad_fine (Bool.eq_false_iff.2 hb)
      split at h
      · next hy => cases h; exact ⟨hc, hy⟩
      · exact rounds_some hg f _ _ c' (run_inR ms hc hg hf).1 h
theorem sum_lt {n : Nat} {f g : Nat → Nat} (h : ∀ i, i < n → f i ≤ g i) (hx : ∃ i, i < n ∧ f i < g i) : ((List.range n).map f).sum < ((List.range n).map g).sum := by
  induction n with
  | zero => obtain ⟨i, hi, _⟩ := hx; omega
  | succ n ih =>
    simp only [List.range_succ, List.map_append, List.map_cons, List.map_nil, List.sum_append, List.sum_cons, List.sum_nil]
    have hle : ∀ m, m ≤ n → ((List.range m).map f).sum ≤ ((List.range m).map g).sum := by
      intro m
      induction m with
      | zero => intro _; simp
      | succ m ihm =>
        intro hm
        simp only [List.range_succ, List.map_append, List.map_cons, List.map_nil, List.sum_append, List.sum_cons, List.sum_nil]
        have := ihm (by omega)
        have := h m (by omega)
        omega
    have h1 := h n (by omega)
    obtain ⟨i, hi, hlt⟩ := hx
    by_cases e : i = n
    · subst e
      have := hle i (Nat.le_refl _)
      omega
    · have := ih (fun j hj => h j (by omega)) ⟨i, by omega, hlt⟩
      omega
def room (n : Nat) (c : List Int) : Nat := ((List.range n).map (fun i => (1000 - c.getD i 0).toNat)).sum
theorem room_lt {n : Nat} {c c' : List Int} (hc : InR n c) (hc' : InR n c') (hle : LeL c c') (hx : ∃ i, i < n ∧ c.getD i 0 < c'.getD i 0) : room n c' < room n c := by
  refine sum_lt (fun i _ => ?_) ?_
  · have := hle i; omega
  · obtain ⟨i, hi, hlt⟩ := hx
    exact ⟨i, hi, by have := (hc.get i); have := hc'.get i; omega⟩
theorem least_or_none {n : Nat} {ms : List S101} (hg : ∀ m ∈ ms, Good n m) : ∀ (k : Nat) (c : List Int), room n c ≤ k → InR n c → (∀ y, Sol n ms y → LeL c y) → (∃ x, Least n ms x) ∨ ∀ y, ¬ Sol n ms y := by
  intro k
  induction k using Nat.strongRecOn with
  | _ k ih =>
    intro c hk hc hlow
    by_cases hf : Fine c ms
    · by_cases hy : ysR c ms = []
      · by_cases hs : Sol n ms c
        · exact .inl ⟨c, hs, hlow⟩
        · refine .inr (fun y hsy => hs ⟨hc, fun m hm => ?_⟩)
          by_cases h0 : m.f1 < 0
          · have h1 := hsy.2 m hm
            have h2 := EL_mono (hg m hm).right hc hsy.1 (hlow y hsy)
            unfold holdM at h1 ⊢
            rw [if_pos h0] at h1 ⊢
            omega
          · exact ys_nil ms hc hg hy m hm (by omega)
      · have hr := run_inR ms hc hg hf
        exact ih _ (by have := room_lt hc hr.1 hr.2.1 (ys_grow ms hc hg hf hy); omega) (runM c ms) (Nat.le_refl _) hr.1
          (fun y hsy => (run_le hsy ms hc (fun m hm => ⟨hg m hm, hm⟩) (hlow y hsy)).2)
    · exact .inr (fun y hsy => hf (run_le hsy ms hc (fun m hm => ⟨hg m hm, hm⟩) (hlow y hsy)).1)
theorem zeros_inR (n : Nat) : InR n (List.replicate n 0) := ⟨by simp, fun v hv => by rw [List.eq_of_mem_replicate hv]; omega⟩
theorem zeros_le {n : Nat} {y : List Int} (hy : InR n y) : LeL (List.replicate n 0) y := fun i => by
  have : (List.replicate n (0 : Int)).getD i 0 = 0 := by
    rw [List.getD_eq_getElem?_getD, List.getElem?_replicate]; split <;> rfl
  rw [this]; exact (hy.get i).1
theorem least_dec {n : Nat} {ms : List S101} (hg : ∀ m ∈ ms, Good n m) : (∃ x, Least n ms x) ∨ ∀ y, ¬ Sol n ms y :=
  least_or_none hg _ (List.replicate n 0) (Nat.le_refl _) (zeros_inR n) (fun y hy => zeros_le hy.1)
end Go.Proofs.Ytbopadglafbdjaa.M
