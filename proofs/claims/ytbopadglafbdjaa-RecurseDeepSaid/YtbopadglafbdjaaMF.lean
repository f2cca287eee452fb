/- Plain Lean about recursion: what the reference counts, where a call is smaller, and the first place. -/
import Derived.Test.YtbopadglafbdjaaPXxf3
import Derived.Test.YtbopadglafbdjaaO36
set_option linter.unusedVariables false
set_option linter.unusedSimpArgs false
namespace Go.Proofs.Ytbopadglafbdjaa.M
open Go.RowKit Go.Proofs.Ytbopadglafbdjaa.PX Go.Proofs.Ytbopadglafbdjaa.Open Go.Proofs.YtbopadglafbdjaaW.PrintWords Go.Proofs.YtbopadglafbdjaaW.PrintLast Go.Proofs.YtbopadglafbdjaaW.PrintMore
theorem at_split36 {xs pre rest : List S36} {v : S36} (h : xs = pre ++ v :: rest) (hl : xs.length ≤ 1000000000000) :
    ((pre.length : Int) < (xs.length : Int)) = True ∧ ((0 : Int) ≤ (pre.length : Int)) = True ∧ rd_T36 xs (pre.length : Int) = v ∧ wrap64 ((pre.length : Int) + 1) = ((pre ++ [v]).length : Int) ∧ xs = (pre ++ [v]) ++ rest := by
  subst h
  simp only [List.length_append, List.length_cons] at hl
  refine ⟨by simp; omega, by simp, by simp [rd_T36, List.getD_eq_getElem?_getD], ?_, by simp⟩
  unfold wrap64; simp only [List.length_append, List.length_cons, List.length_nil]; omega
theorem at_end36 {xs pre : List S36} (h : xs = pre ++ []) : ((pre.length : Int) < (xs.length : Int)) = False := by subst h; simp
theorem at_split31 {xs pre rest : List S31} {v : S31} (h : xs = pre ++ v :: rest) (hl : xs.length ≤ 1000000000000) :
    ((pre.length : Int) < (xs.length : Int)) = True ∧ ((0 : Int) ≤ (pre.length : Int)) = True ∧ rd_T31 xs (pre.length : Int) = v ∧ wrap64 ((pre.length : Int) + 1) = ((pre ++ [v]).length : Int) ∧ xs = (pre ++ [v]) ++ rest := by
  subst h
  simp only [List.length_append, List.length_cons] at hl
  refine ⟨by simp; omega, by simp, by simp [rd_T31, List.getD_eq_getElem?_getD], ?_, by simp⟩
  unfold wrap64; simp only [List.length_append, List.length_cons, List.length_nil]; omega
theorem at_end31 {xs pre : List S31} (h : xs = pre ++ []) : ((pre.length : Int) < (xs.length : Int)) = False := by subst h; simp
theorem nL_cons (p : S36) (l : List S36) : nL (p :: l) = nP p + nL l := by simp [nL]
theorem nL_app (a b : List S36) : nL (a ++ b) = nL a + nL b := by
  induction a with
  | nil => simp [nL]
  | cons p a ih => rw [List.cons_append, nL_cons, nL_cons, ih]; omega
theorem nP_pos (p : S36) : nP p = nL p.f2 + 1 := by cases p; simp [nP]
theorem nL_len (l : List S36) : l.length ≤ nL l := by
  induction l with
  | nil => simp
  | cons p l ih => rw [nL_cons, List.length_cons, nP_pos]; omega
theorem nL_mem {l pre rest : List S36} {p : S36} (h : l = pre ++ p :: rest) : nL p.f2 < nL l := by
  subst h; rw [nL_app, nL_cons, nP_pos]; omega
theorem nL_take (l : List S36) (n : Nat) : nL (l.take n) ≤ nL l := by
  have := nL_app (l.take n) (l.drop n); rw [List.take_append_drop] at this; omega
theorem nL_drop (l : List S36) (n : Nat) : nL (l.drop n) ≤ nL l := by
  have := nL_app (l.take n) (l.drop n); rw [List.take_append_drop] at this; omega
mutual
/-- How many variables a pattern binds. -/
def vP : S36 → Nat
  | ⟨f, _, kids⟩ => if f = 1 then 1 else if f = 2 then vL kids else 0
def vL : List S36 → Nat
  | [] => 0
  | p :: l => vP p + vL l
end
theorem vL_cons (p : S36) (l : List S36) : vL (p :: l) = vP p + vL l := by simp [vL]
theorem vP_is (p : S36) : vP p = if p.f0 = 1 then 1 else if p.f0 = 2 then vL p.f2 else 0 := by cases p; simp [vP]
mutual
theorem vP_le : ∀ p : S36, vP p ≤ nP p
  | ⟨f, s, kids⟩ => by
    have := vL_le kids
    simp only [vP, nP]; split
    · omega
    · split <;> omega
theorem vL_le : ∀ l : List S36, vL l ≤ nL l
  | [] => by simp [vL]
  | p :: l => by
    have := vP_le p; have := vL_le l
    simp only [vL, nL]; omega
end
mutual
theorem cP_is : ∀ (p : S36) (n : Int), 0 ≤ n → n + vP p ≤ 1000000000000 → cP n p = n + vP p
  | ⟨f, s, kids⟩, n, h0, h1 => by
    have ih := cL_is kids n h0
    simp only [vP, cP] at *
    by_cases e1 : f = 1
    · simp only [e1, if_true] at *; exact wr _ (by omega) (by omega)
    · by_cases e2 : f = 2
      · simp only [e1, e2, if_true, if_false] at *; exact ih (by simpa using h1)
      · simp [e1, e2]
theorem cL_is : ∀ (l : List S36) (n : Int), 0 ≤ n → n + vL l ≤ 1000000000000 → cL n l = n + vL l
  | [], n, h0, h1 => by simp [cL, vL]
  | p :: l, n, h0, h1 => by
    simp only [vL] at h1
    have h2 := cP_is p n h0 (by omega)
    have h3 := cL_is l (n + vP p) (by omega) (by omega)
    simp only [cL, vL]
    rw [h2, h3]; push_cast; omega
end
theorem vars_l0 (N : Nat) (ih : ∀ l : List S36, nL l < N → nL l ≤ 1000000000 → Ev (fun k => telamonref17_Vars.f k l) (vL l : Int)) (xs : List S36) (hN : nL xs ≤ N) (hl : nL xs ≤ 1000000000) :
    ∀ rest pre, xs = pre ++ rest → ∀ n : Int, 0 ≤ n → n + vL rest ≤ 1000000000 → Ev (fun k => telamonref17_Vars.l0 k xs n (pre.length : Int)) (n + vL rest)
  | [], pre, h, n, h0, h1 => Ev.succ (by
    have hn := at_end36 h
    simp only [telamonref17_Vars.l0, hn, if_false]
    exact (Ev.pure _).eq (by simp [vL]))
  | p :: rest, pre, h, n, h0, h1 => Ev.succ (by
    have hlen := nL_len xs
    obtain ⟨a1, a2, a3, a4, a5⟩ := at_split36 h (by omega)
    have hm := nL_mem h
    have hi := vars_l0 N ih xs hN hl rest (pre ++ [p]) a5
    rw [vL_cons] at h1 ⊢
    have hp := vP_is p
    have hple := vL_le p.f2
    simp only [telamonref17_Vars.l0, a1, a2, if_true, a3]
    by_cases e1 : p.f0 = 1
    · rw [if_pos e1] at hp
      simp only [e1, if_true]
      refine Ev.succ ?_
      simp only [telamonref17_Vars.j1, a1, a2, if_true, a3, e1, show ¬ (1 : Int) = 2 by decide, if_false, a4, wr (n + 1) (by omega) (by omega)]
      exact (hi (n + 1) (by omega) (by omega)).eq (by omega)
    · rw [if_neg e1] at hp
      simp only [e1, if_false]
      refine Ev.succ ?_
      by_cases e2 : p.f0 = 2
      · rw [if_pos e2] at hp
        simp only [telamonref17_Vars.j1, a1, a2, if_true, a3, e2, a4]
        refine Ev.bind (ih p.f2 (by omega) (by omega)) ?_
        rw [wr (n + (vL p.f2 : Int)) (by omega) (by omega)]
        exact (hi (n + (vL p.f2 : Int)) (by omega) (by omega)).eq (by omega)
      · rw [if_neg e2] at hp
        simp only [telamonref17_Vars.j1, a1, a2, if_true, a3, e2, if_false, a4]
        exact (hi n (by omega) (by omega)).eq (by omega))
theorem vars_is : ∀ (N : Nat) (l : List S36), nL l < N → nL l ≤ 1000000000 → Ev (fun k => telamonref17_Vars.f k l) (vL l : Int)
  | 0, l, h, _ => absurd h (by omega)
  | N + 1, l, h, hl => Ev.succ (by
    simp only [telamonref17_Vars.f]
    exact (vars_l0 N (vars_is N) l (by omega) hl l [] rfl 0 (by omega) (by have := vL_le l; omega)).eq (by omega))
theorem vars_ref {l : List S36} (h : nL l ≤ 1000000000) : Ev (fun k => telamonref17_Vars.f k l) (vL l : Int) := vars_is (nL l + 1) l (by omega) h
theorem cL_vL {l : List S36} (h : nL l ≤ 1000000000) : cL 0 l = (vL l : Int) := by
  have := vL_le l
  rw [cL_is l 0 (by omega) (by omega)]; omega
/-- The reference's word about a place of a call. -/
theorem at_ref (x : S31) (k : Int) (h0 : 0 ≤ k) (h1 : k ≤ 1000) (hx : nL x.f0 ≤ 1000000000) : Ev (fun n => telamonref17_at.f n x.f0 x.f1 k) (atR x k) := by
  unfold telamonref17_at.f atR
  have hb : Ev (fun n => telamonref17_at.j0 n k true x.f0 x.f1) 0 := Ev.succ (by simp only [telamonref17_at.j0, if_true]; exact Ev.pure _)
  by_cases c1 : k ≥ (x.f0.length : Int)
  · simp only [c1, if_true, true_or]; exact hb
  by_cases c2 : k ≥ (x.f1.length : Int)
  · simp only [c1, c2, if_false, or_true, if_true]; exact hb
  have d0 : (0 : Int) ≤ k := h0
  have d1 : k < (x.f1.length : Int) := by omega
  have d2 : k < (x.f0.length : Int) := by omega
  have d3 : k ≤ (x.f0.length : Int) := by omega
  have hw : wrap64 (k + 1) = k + 1 := wr _ (by omega) (by omega)
  have d4 : k ≤ k + 1 := by omega
  have d5 : k + 1 ≤ (x.f0.length : Int) := by omega
  simp only [c1, c2, if_false, or_self, d0, d1, if_true]
  have t1 := nL_take x.f0 k.toNat
  have t2 := nL_drop (x.f0.take (k + 1).toNat) k.toNat
  have t3 := nL_take x.f0 (k + 1).toNat
  have b1 : nL (x.f0.take k.toNat) ≤ 1000000000 := by omega
  have b2 : nL ((x.f0.take (k + 1).toNat).drop k.toNat) ≤ 1000000000 := by omega
  by_cases c3 : rd x.f1 k < 0
  · have : rd x.f1 k < cL 0 (x.f0.take k.toNat) := by rw [cL_vL b1]; omega
    simp only [c3, decide_true, this, true_or, if_true]; exact hb
  simp only [c3, decide_false]
  refine Ev.succ ?_
  simp only [telamonref17_at.j0, Bool.false_eq_true, if_false, d0, d1, d3, if_true, hw, d4, d5]
  refine Ev.bind (vars_ref b1) (Ev.bind (vars_ref b2) ?_)
  rw [cL_vL b1, cL_vL b2]
  have hn : Ev (fun n => telamonref17_at.j1 n k true x.f0 x.f1) 0 := Ev.succ (by simp only [telamonref17_at.j1, if_true]; exact Ev.pure _)
  by_cases e1 : rd x.f1 k < (vL (x.f0.take k.toNat) : Int)
  · simp only [e1, if_true, true_or]; exact hn
  by_cases e2 : rd x.f1 k ≥ wrap64 ((vL (x.f0.take k.toNat) : Int) + (vL ((x.f0.take (k + 1).toNat).drop k.toNat) : Int))
  · simp only [e1, e2, if_false, decide_true, or_true, if_true]; exact hn
  simp only [e1, e2, if_false, decide_false, or_self]
  refine Ev.succ ?_
  simp only [telamonref17_at.j1, Bool.false_eq_true, if_false, d0, d2, if_true]
  by_cases f2 : (rd_T36 x.f0 k).f0 = 2
  · simp only [f2, if_true, show ¬ (2 : Int) = 1 by decide, if_false]; exact Ev.pure _
  · by_cases f1 : (rd_T36 x.f0 k).f0 = 1
    · simp only [f1, if_true, show ¬ (1 : Int) = 2 by decide, if_false]; exact Ev.pure _
    · simp only [f1, f2, if_false]; exact Ev.pure _
theorem find_l1 (l : List S31) (a q : Int) (u : Int × Bool) (h0 : 0 ≤ q) (h1 : q ≤ 1000) (hl : l.length ≤ 1000000) (hx : ∀ x ∈ l, nL x.f0 ≤ 1000000000) :
    ∀ rest pre (b : Bool), l = pre ++ rest → Ev (fun k => if (b && rest.all fun x => atR x q == 2) = true then some (q, true) else telamonref17_Find.l0 k l a (wrap64 (q + 1))) u →
      Ev (fun k => telamonref17_Find.l1 k l a q b (pre.length : Int)) u
  | [], pre, b, h, hu => Ev.succ (by
    have hn := at_end31 h
    simp only [telamonref17_Find.l1, hn, if_false]
    simpa using hu)
  | x :: rest, pre, b, h, hu => Ev.succ (by
    obtain ⟨a1, a2, a3, a4, a5⟩ := at_split31 h (by omega)
    simp only [telamonref17_Find.l1, a1, a2, if_true, a3, a4]
    refine Ev.bind (at_ref x q h0 h1 (hx x (by rw [h]; simp))) ?_
    by_cases e : atR x q = 2
    · simp only [e, if_true]
      exact find_l1 l a q u h0 h1 hl hx rest (pre ++ [x]) b a5 (by simpa [e] using hu)
    · simp only [e, if_false]
      exact find_l1 l a q u h0 h1 hl hx rest (pre ++ [x]) false a5 (by simpa [e] using hu))
theorem find_l0 (l : List S31) (a : Int) (ha : a ≤ 100) (hl : l.length ≤ 1000000) (hx : ∀ x ∈ l, nL x.f0 ≤ 1000000000) :
    ∀ (n q : Nat), (q : Int) + n = a ∨ (n = 0 ∧ a ≤ q) → q ≤ 1000 → (∀ j, j < q → allS l j = false) →
      Ev (fun k => telamonref17_Find.l0 k l a (q : Int)) (((List.range a.toNat).find? (allS l)).elim (0, false) fun k => ((k : Int), true))
  | 0, q, h, hq, hn => Ev.succ (by
    simp only [telamonref17_Find.l0, show ¬ (q : Int) < a by omega, if_false]
    rw [find_none (fun j hj => hn j (by omega))]
    exact Ev.pure _)
  | n + 1, q, h, hq, hn => Ev.succ (by
    simp only [telamonref17_Find.l0, show (q : Int) < a by omega, if_true]
    refine find_l1 l a q _ (by omega) (by omega) hl hx l [] true rfl ?_
    by_cases e : allS l q = true
    · have e' : (true && l.all fun x => atR x (q : Int) == 2) = true := by rw [Bool.true_and]; exact e
      simp only [e', if_true]
      rw [find_at (by omega) hn e]
      exact Ev.pure _
    · have e' : ¬ (true && l.all fun x => atR x (q : Int) == 2) = true := by rw [Bool.true_and]; exact e
      simp only [e', if_false]
      rw [wr _ (by omega) (by omega), show (q : Int) + 1 = ((q + 1 : Nat) : Int) by push_cast; rfl]
      refine find_l0 l a ha hl hx n (q + 1) (by omega) (by omega) (fun j hj => ?_)
      by_cases ej : j = q
      · subst ej; exact Bool.eq_false_iff.2 e
      · exact hn j (by omega))
/-- The reference finds as the program finds. -/
theorem find_ref (l : List S31) (a : Int) (hl : l.length ≤ 1000000) (hx : ∀ x ∈ l, nL x.f0 ≤ 1000000000) : Ev (fun k => telamonref17_Find.f k l a) (findR l a) := by
  unfold telamonref17_Find.f
  have hb : findR l a = (0, false) → Ev (fun k => telamonref17_Find.j0 k l a true) (findR l a) := fun e => Ev.succ (by simp only [telamonref17_Find.j0, if_true, e]; exact Ev.pure _)
  by_cases c1 : a < 1
  · simp only [c1, if_true]
    refine hb ?_
    unfold findR
    have : a.toNat = 0 := by omega
    split
    · rw [decide_eq_false (show ¬ 1 ≤ a by omega)]; rfl
    · split
      · rw [this]; rfl
      · rfl
  simp only [c1, if_false]
  by_cases c2 : a > 100
  · simp only [c2, decide_true]
    refine hb ?_
    unfold findR
    split
    · rw [decide_eq_false (show ¬ a ≤ 100 by omega)]; simp
    · rw [if_neg (by omega)]
  simp only [c2, decide_false]
  refine Ev.succ ?_
  simp only [telamonref17_Find.j0, Bool.false_eq_true, if_false]
  refine (find_l0 l a (by omega) hl hx a.toNat 0 (by omega) (by omega) (fun j hj => by omega)).eq ?_
  unfold findR
  split
  · next hz =>
    have : l = [] := List.eq_nil_of_length_eq_zero hz
    subst this
    rw [find_at (q := 0) (by omega) (fun j hj => by omega) rfl, decide_eq_true (show 1 ≤ a by omega), decide_eq_true (show a ≤ 100 by omega)]
    rfl
  · rw [if_pos (by omega)]
theorem parts_l0 (N : Nat) (ih : ∀ l : List S36, nL l < N → nL l ≤ 1000000000 → ∃ t : Int, 0 ≤ t ∧ t ≤ nL l ∧ Ev (fun k => telamonref17_Parts.f k l 300) t) (xs : List S36) (hN : nL xs ≤ N) (hl : nL xs ≤ 1000000000) :
    ∀ rest pre, xs = pre ++ rest → ∀ n : Int, 0 ≤ n → n + nL rest ≤ 1000000000 → ∃ t : Int, 0 ≤ t ∧ t ≤ n + nL rest ∧ Ev (fun k => telamonref17_Parts.l0 k xs 300 n (pre.length : Int)) t
  | [], pre, h, n, h0, h1 => ⟨n, h0, by omega, Ev.succ (by
    have hn := at_end36 h
    simp only [telamonref17_Parts.l0, hn, if_false]
    exact Ev.pure _)⟩
  | p :: rest, pre, h, n, h0, h1 => by
    have hlen := nL_len xs
    obtain ⟨a1, a2, a3, a4, a5⟩ := at_split36 h (by omega)
    have hm := nL_mem h
    rw [nL_cons, nP_pos] at h1 ⊢
    by_cases c : n ≤ 300
    · obtain ⟨t, t0, t1, ht⟩ := ih p.f2 (by omega) (by omega)
      obtain ⟨u, u0, u1, hu⟩ := parts_l0 N ih xs hN hl rest (pre ++ [p]) a5 (n + 1 + t) (by omega) (by omega)
      refine ⟨u, u0, by omega, Ev.succ ?_⟩
      simp only [telamonref17_Parts.l0, a1, a2, c, if_true, a3, a4]
      refine Ev.bind ht ?_
      rw [wr (n + 1) (by omega) (by omega), wr (n + 1 + t) (by omega) (by omega)]
      exact hu
    · refine ⟨n, h0, by omega, Ev.succ ?_⟩
      simp only [telamonref17_Parts.l0, a1, c, if_true, if_false]
      exact Ev.pure _
theorem parts_is : ∀ (N : Nat) (l : List S36), nL l < N → nL l ≤ 1000000000 → ∃ t : Int, 0 ≤ t ∧ t ≤ nL l ∧ Ev (fun k => telamonref17_Parts.f k l 300) t
  | 0, l, h, _ => absurd h (by omega)
  | N + 1, l, h, hl => by
    obtain ⟨t, t0, t1, ht⟩ := parts_l0 N (parts_is N) l (by omega) hl l [] rfl 0 (by omega) (by omega)
    exact ⟨t, t0, by omega, Ev.succ (by simp only [telamonref17_Parts.f]; exact ht)⟩
theorem big_l0 (l : List S31) (hl : l.length ≤ 1000000) (hx : ∀ x ∈ l, nL x.f0 ≤ 1000000000) :
    ∀ rest pre, l = pre ++ rest → ∃ b, Ev (fun k => telamonlaw23_big.l0 k l (pre.length : Int)) b
  | [], pre, h => ⟨false, Ev.succ (by
    have hn := at_end31 h
    simp only [telamonlaw23_big.l0, hn, if_false]
    exact Ev.pure _)⟩
  | x :: rest, pre, h => by
    obtain ⟨a1, a2, a3, a4, a5⟩ := at_split31 h (by omega)
    obtain ⟨b, hb⟩ := big_l0 l hl hx rest (pre ++ [x]) a5
    have hb' := hx x (by rw [h]; simp)
    obtain ⟨t, _, _, ht⟩ := parts_is (nL x.f0 + 1) x.f0 (by omega) hb'
    by_cases c : (x.f1.length : Int) > 60
    · exact ⟨true, Ev.succ (by simp only [telamonlaw23_big.l0, a1, a2, if_true, a3, c]; exact Ev.pure _)⟩
    · by_cases c2 : t > 300
      · refine ⟨true, Ev.succ ?_⟩
        simp only [telamonlaw23_big.l0, a1, a2, if_true, a3, c, if_false]
        refine Ev.bind ht ?_
        simp only [c2, if_true]; exact Ev.pure _
      · refine ⟨b, Ev.succ ?_⟩
        simp only [telamonlaw23_big.l0, a1, a2, if_true, a3, c, if_false, a4]
        refine Ev.bind ht ?_
        simp only [c2, if_false]; exact hb
theorem big_is (l : List S31) (hx : ∀ x ∈ l, nL x.f0 ≤ 1000000000) : ∃ b, Ev (fun k => telamonlaw23_big.f k l) b ∧ (b = false → l.length ≤ 60) := by
  by_cases c : (l.length : Int) > 60
  · refine ⟨true, ?_, by simp⟩
    simp only [telamonlaw23_big.f, c, if_true]; exact Ev.pure _
  · obtain ⟨b, hb⟩ := big_l0 l (by omega) hx l [] rfl
    refine ⟨b, ?_, fun _ => by omega⟩
    simp only [telamonlaw23_big.f, c, if_false]; exact hb
set_option maxRecDepth 100000 in
theorem alive23 : telamonlaw23_alive.f = some true := by kernel_rfl
theorem finds_l0 (l : List S31) (r : Int × Bool) (hl : l.length ≤ 1000000) (hx : ∀ x ∈ l, nL x.f0 ≤ 1000000000) :
    ∀ rest pre, l = pre ++ rest → Ev (fun k => telamonlaw23_RecurseFinds.l0 k l r.1 r.2 r.1 r.2 (pre.length : Int)) true
  | [], pre, h => Ev.succ (by
    have hn := at_end31 h
    simp only [telamonlaw23_RecurseFinds.l0, hn, if_false, if_true, beq_self_eq_true]
    exact Ev.pure _)
  | x :: rest, pre, h => Ev.succ (by
    obtain ⟨a1, a2, a3, a4, a5⟩ := at_split31 h (by omega)
    have hb := hx x (by rw [h]; simp)
    simp only [telamonlaw23_RecurseFinds.l0, a1, a2, if_true, a3, a4, recurse_Vars.f, Option.bind_some]
    refine Ev.bind (vars_ref hb) ?_
    simp only [cL_vL hb, if_true]
    exact finds_l0 l r hl hx rest (pre ++ [x]) a5)
theorem Finds (l : List S31) (a : Int) (hx : ∀ x ∈ l, nL x.f0 ≤ 1048576) : Ev (fun k => telamonlaw23_RecurseFinds.f k l a) true := by
  have hx' : ∀ x ∈ l, nL x.f0 ≤ 1000000000 := fun x h => by have := hx x h; omega
  obtain ⟨b, hb, hb2⟩ := big_is l hx'
  simp only [telamonlaw23_RecurseFinds.f, alive23, Option.bind_some, if_true]
  refine Ev.bind hb ?_
  refine Ev.succ ?_
  cases b with
  | true => simp only [telamonlaw23_RecurseFinds.j0, if_true]; exact Ev.pure _
  | false =>
    have hl := hb2 rfl
    simp only [telamonlaw23_RecurseFinds.j0, Bool.false_eq_true, if_false, recurse_Find.f, if_pos (show l.length ≤ 1000000 by omega), Option.bind_some]
    refine Ev.bind (find_ref l a (by omega) hx') ?_
    exact finds_l0 l (findR l a) (by omega) hx' l [] rfl
end Go.Proofs.Ytbopadglafbdjaa.M
