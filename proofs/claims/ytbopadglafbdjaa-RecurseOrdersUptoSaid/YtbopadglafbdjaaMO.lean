/- Plain Lean about recursion: the reference orders as the program orders. -/
import Derived.Test.YtbopadglafbdjaaPXxf4
import Derived.Test.YtbopadglafbdjaaMF
set_option linter.unusedVariables false
set_option linter.unusedSimpArgs false
namespace Go.Proofs.Ytbopadglafbdjaa.M
open Go.RowKit Go.Proofs.Ytbopadglafbdjaa.PX Go.Proofs.Ytbopadglafbdjaa.Open Go.Proofs.YtbopadglafbdjaaW.PrintWords Go.Proofs.YtbopadglafbdjaaW.PrintLast Go.Proofs.YtbopadglafbdjaaW.PrintMore
theorem at3 (x : S31) (k : Int) : atR x k = 0 ∨ atR x k = 1 ∨ atR x k = 2 := by
  unfold atR
  split
  · exact Or.inl rfl
  · split
    · exact Or.inl rfl
    · split
      · exact Or.inr (Or.inl rfl)
      · split
        · exact Or.inr (Or.inr rfl)
        · exact Or.inl rfl
theorem some_any (p : S31 → Bool) (l : List S31) : decide (0 < (l.filter p).length) = l.any p := by
  induction l with
  | nil => rfl
  | cons x l ih =>
    cases h : p x
    · simp only [List.filter_cons, h, List.any_cons, Bool.false_or]; exact ih
    · simp [List.filter_cons, h]
theorem none_all (k : Int) (l : List S31) : decide ((l.filter fun x => atR x k == 0).length = 0) = l.all fun x => decide (atR x k > 0) := by
  induction l with
  | nil => rfl
  | cons x l ih =>
    rcases at3 x k with h | h | h
    · simp [List.filter_cons, h]
    · simp only [List.filter_cons, h, List.all_cons]; exact ih
    · simp only [List.filter_cons, h, List.all_cons]; exact ih
theorem good_is (o : List Int) (l : List S31) (k : Nat) : goodR o l k = ((!decide ((k : Int) ∈ o) && l.all fun x => decide (atR x (k : Int) > 0)) && l.any fun x => atR x (k : Int) == 2) := by
  unfold goodR
  rw [some_any, none_all]
  by_cases h : (k : Int) ∈ o
  · simp [h]
  · simp only [h, if_false, decide_true, decide_false, Bool.not_false, Bool.true_and]; exact Bool.and_comm _ _
theorem ord_l2 (a n q : Int) (o : List Int) (l : List S31) (T : List Bool) (u : List Int × Bool) (h0 : 0 ≤ q) (h1 : q ≤ 1000) (hl : l.length ≤ 1000000) (hx : ∀ x ∈ l, nL x.f0 ≤ 1000000000) :
    ∀ rest pre (c s : Bool), l = pre ++ rest →
      Ev (fun k => if ((c && rest.all fun x => decide (atR x q > 0)) && (s || rest.any fun x => atR x q == 2)) = true then telamonref17_Order.l1 k a o l T q (wrap64 (q + 1)) else telamonref17_Order.l1 k a o l T n (wrap64 (q + 1))) u →
      Ev (fun k => telamonref17_Order.l2 k a o l T n q c s (pre.length : Int)) u
  | [], pre, c, s, h, hu => Ev.succ (by
    have hn := at_end31 h
    simp only [telamonref17_Order.l2, hn, if_false]
    simp only [List.all_nil, List.any_nil, Bool.and_true, Bool.or_false] at hu
    cases c <;> cases s <;> simpa using hu)
  | x :: rest, pre, c, s, h, hu => Ev.succ (by
    obtain ⟨a1, a2, a3, a4, a5⟩ := at_split31 h (by omega)
    simp only [telamonref17_Order.l2, a1, a2, if_true, a3, a4]
    refine Ev.bind (at_ref x q h0 h1 (hx x (by rw [h]; simp))) ?_
    have ih := fun c' s' hu' => ord_l2 a n q o l T u h0 h1 hl hx rest (pre ++ [x]) c' s' a5 hu'
    simp only [List.all_cons, List.any_cons] at hu
    cases c <;> cases s <;> simp only [Bool.false_eq_true, if_false, if_true] <;> refine ih _ _ ?_
    · simpa using hu
    · simpa using hu
    · simpa [Bool.and_assoc] using hu
    · simpa [Bool.and_assoc] using hu)
theorem ord_l3 (a q : Int) (o : List Int) (l : List S31) (T : List Bool) (u : List Int × Bool) (h0 : 0 ≤ q) (h1 : q ≤ 1000) (hl : l.length ≤ 1000000) (hx : ∀ x ∈ l, nL x.f0 ≤ 1000000000) :
    ∀ rest pre acc, l = pre ++ rest → acc.length ≤ pre.length →
      Ev (fun k => telamonref17_Order.l0 k a o (acc ++ rest.filter fun x => atR x q != 2) T) u →
      Ev (fun k => telamonref17_Order.l3 k a o l T q acc (pre.length : Int)) u
  | [], pre, acc, h, hac, hu => Ev.succ (by
    have hn := at_end31 h
    simp only [telamonref17_Order.l3, hn, if_false]
    simpa using hu)
  | x :: rest, pre, acc, h, hac, hu => Ev.succ (by
    obtain ⟨a1, a2, a3, a4, a5⟩ := at_split31 h (by omega)
    have hpl : pre.length ≤ l.length := by rw [h]; simp
    simp only [telamonref17_Order.l3, a1, a2, if_true, a3, a4]
    refine Ev.bind (at_ref x q h0 h1 (hx x (by rw [h]; simp))) ?_
    by_cases e : atR x q = 2
    · simp only [e, if_true]
      exact ord_l3 a q o l T u h0 h1 hl hx rest (pre ++ [x]) acc a5 (by simp; omega) (by simpa [List.filter_cons, e] using hu)
    · simp only [e, if_false, show acc.length < 2932031007402 by omega, if_true]
      exact ord_l3 a q o l T u h0 h1 hl hx rest (pre ++ [x]) (acc ++ [x]) a5 (by simp; omega) (by simpa [List.filter_cons, e] using hu))
theorem ord_l1 (a : Int) (o : List Int) (l : List S31) (T : List Bool) (u : List Int × Bool) (ha : a ≤ 100) (ho : o.length ≤ 1000000) (hl : l.length ≤ 1000000) (hx : ∀ x ∈ l, nL x.f0 ≤ 1000000000) (hT : T.length = 101)
    (hTo : ∀ j : Nat, j < 101 → T.getD j false = decide ((j : Int) ∈ o))
    (hu : match (List.range a.toNat).find? (goodR o l) with
      | none => u = ([], false)
      | some k => Ev (fun kk => telamonref17_Order.l3 kk a (o ++ [(k : Int)]) l (T.set k true) (k : Int) [] 0) u) :
    ∀ (n q : Nat), (q : Int) + n = a ∨ (n = 0 ∧ a ≤ q) → q ≤ 1000 → (∀ j, j < q → goodR o l j = false) → Ev (fun k => telamonref17_Order.l1 k a o l T (-1) (q : Int)) u
  | 0, q, h, hq, hn => Ev.succ (by
    simp only [telamonref17_Order.l1, show ¬ (q : Int) < a by omega, if_false]
    rw [ord_none (fun j hj => hn j (by omega))] at hu
    refine Ev.succ ?_
    simp only [telamonref17_Order.j3, Bool.false_eq_true, if_false, show (-1 : Int) < 0 by decide, if_true]
    exact (Ev.pure _).eq hu.symm)
  | n + 1, q, h, hq, hn => Ev.succ (by
    simp only [telamonref17_Order.l1, show (q : Int) < a by omega, if_true, show decide ((-1 : Int) < 0) = true by decide]
    refine Ev.succ ?_
    have hq101 : q < 101 := by omega
    have hr : rdOf false T (q : Int) = decide ((q : Int) ∈ o) := hTo q hq101
    simp only [telamonref17_Order.j3, if_true, show (0 : Int) ≤ q by omega, show (q : Int) < (T.length : Int) by omega, hr]
    refine ord_l2 a (-1) q o l T u (by omega) (by omega) hl hx l [] _ false rfl ?_
    have hg := good_is o l q
    by_cases e : goodR o l q = true
    · rw [e] at hg
      simp only [Bool.false_or, ← hg, if_true]
      rw [ord_at (by omega) hn e] at hu
      rw [wr _ (by omega) (by omega)]
      have hj : Ev (fun k => telamonref17_Order.j3 k a o l T (q : Int) ((q : Int) + 1) false) u := Ev.succ (by
        simp only [telamonref17_Order.j3, Bool.false_eq_true, if_false, show ¬ (q : Int) < 0 by omega, show (0 : Int) ≤ q by omega, if_true, show (q : Int) < (T.length : Int) by omega, show o.length < 17592186044416 by omega, Int.toNat_natCast]
        exact hu)
      refine Ev.succ ?_
      simp only [telamonref17_Order.l1, show decide ((q : Int) < 0) = false by simp]
      by_cases e2 : (q : Int) + 1 < a
      · simp only [e2, if_true]; exact hj
      · simp only [e2, if_false]; exact hj
    · have e' := Bool.eq_false_iff.2 e
      rw [e'] at hg
      simp only [Bool.false_or, ← hg, Bool.false_eq_true, if_false]
      rw [wr _ (by omega) (by omega), show (q : Int) + 1 = ((q + 1 : Nat) : Int) by push_cast; rfl]
      refine ord_l1 a o l T u ha ho hl hx hT hTo hu n (q + 1) (by omega) (by omega) (fun j hj => ?_)
      by_cases ej : j = q
      · subst ej; exact e'
      · exact hn j (by omega))
theorem ordL_total (a : Int) : ∀ (N : Nat) (l : List S31) (o : List Int), l.length < N → ∃ u, ordL N a l o = some u
  | 0, l, o, h => absurd h (by omega)
  | N + 1, l, o, h => by
    unfold ordL
    by_cases hz : l.length = 0
    · rw [if_pos hz]; exact ⟨_, rfl⟩
    · rw [if_neg hz]
      cases hf : (List.range a.toNat).find? (goodR o l) with
      | none => exact ⟨_, rfl⟩
      | some k =>
        have := good_less (List.find?_some hf)
        exact ordL_total a N _ _ (by omega)
theorem ord_l0 (a : Int) (ha : a ≤ 100) : ∀ (N : Nat) (l : List S31) (o : List Int) (T : List Bool) (u : List Int × Bool), o.length + l.length ≤ 1000000 → (∀ x ∈ l, nL x.f0 ≤ 1000000000) → T.length = 101 →
    (∀ j : Nat, j < 101 → T.getD j false = decide ((j : Int) ∈ o)) → ordL N a l o = some u → Ev (fun k => telamonref17_Order.l0 k a o l T) u
  | 0, l, o, T, u, _, _, _, _, h => by simp [ordL] at h
  | N + 1, l, o, T, u, hol, hx, hT, hTo, h => Ev.succ (by
    unfold ordL at h
    by_cases hz : l.length = 0
    · rw [if_pos hz] at h
      simp only [telamonref17_Order.l0, show ¬ (l.length : Int) > 0 by omega, if_false]
      exact (Ev.pure _).eq (Option.some.inj h)
    · rw [if_neg hz] at h
      simp only [telamonref17_Order.l0, show (l.length : Int) > 0 by omega, if_true]
      refine ord_l1 a o l T u ha (by omega) (by omega) hx hT hTo ?_ a.toNat 0 (by omega) (by omega) (fun j hj => by omega)
      cases hf : (List.range a.toNat).find? (goodR o l) with
      | none => rw [hf] at h; exact (Option.some.inj h).symm
      | some k =>
        rw [hf] at h
        have hless := good_less (List.find?_some hf)
        have hk : k < a.toNat := by have := List.mem_of_find?_eq_some hf; simpa using this
        refine ord_l3 a k (o ++ [(k : Int)]) l (T.set k true) u (by omega) (by omega) (by omega) hx l [] [] rfl (by simp) ?_
        refine ord_l0 a ha N _ _ _ u (by simp; omega) (fun x hx' => hx x ((List.mem_filter.1 hx').1)) (by simp [hT]) (fun j hj => ?_) h
        by_cases ej : j = k
        · subst ej
          simp [List.getD_eq_getElem?_getD, List.getElem?_set, hT, hj]
        · have h1 := hTo j hj
          have h2 : (T.set k true).getD j false = T.getD j false := by
            simp [List.getD_eq_getElem?_getD, List.getElem?_set, Ne.symm ej]
          rw [h2, h1]
          have : ¬ (j : Int) = (k : Int) := by omega
          simp [this])
theorem ord_prog (l : List S31) (a : Int) (hl : l.length ≤ 1000000) : recurse_Order.f l a = ordL (l.length + 1) (if a > 100 then 0 else a) l [] := by
  unfold recurse_Order.f
  rw [if_pos hl]
  by_cases h : 0 < l.length ∧ (a < 1 ∨ a > 100)
  · rw [if_pos h]
    unfold ordL
    rw [if_neg (by omega)]
    have : (if a > 100 then (0 : Int) else a).toNat = 0 := by split <;> omega
    rw [this]; rfl
  · rw [if_neg h]
    by_cases hz : l.length = 0
    · unfold ordL; rw [if_pos hz, if_pos hz]
    · rw [if_neg (by omega)]
/-- The reference orders as the program orders. -/
theorem order_ref (l : List S31) (a : Int) (hl : l.length ≤ 1000000) (hx : ∀ x ∈ l, nL x.f0 ≤ 1000000000) : ∃ u, recurse_Order.f l a = some u ∧ Ev (fun k => telamonref17_Order.f k l a) u := by
  rw [ord_prog l a hl]
  obtain ⟨u, hu⟩ := ordL_total (if a > 100 then 0 else a) (l.length + 1) l [] (by omega)
  refine ⟨u, hu, ?_⟩
  have h := ord_l0 (if a > 100 then 0 else a) (by split <;> omega) (l.length + 1) l [] (List.replicate 101 false) u (by simpa using hl) hx (by simp) (fun j hj => by
    rw [List.getD_eq_getElem?_getD, List.getElem?_replicate, if_pos hj]
    simp) hu
  unfold telamonref17_Order.f
  simp only [show ([] : List S31).length + l.length < 2932031007402 by simp; omega, if_true, List.nil_append, Option.bind_some, show (101 : Nat) ≤ 281474976710656 by decide]
  by_cases c : a > 100
  · simp only [c, if_true] at h ⊢
    exact Ev.succ (by simp only [telamonref17_Order.j0]; exact h)
  · simp only [c, if_false] at h ⊢
    exact Ev.succ (by simp only [telamonref17_Order.j0]; exact h)
theorem rdI {xs pre rest : List Int} {v : Int} (h : xs = pre ++ v :: rest) (hl : xs.length ≤ 1000000000000) : ((pre.length : Int) < (xs.length : Int)) = True ∧ ((0 : Int) ≤ (pre.length : Int)) = True ∧ wrap64 ((pre.length : Int) + 1) = ((pre ++ [v]).length : Int) ∧ xs = (pre ++ [v]) ++ rest := by
  subst h
  simp only [List.length_append, List.length_cons] at hl
  refine ⟨by simp; omega, by simp, ?_, by simp⟩
  unfold wrap64; simp only [List.length_append, List.length_cons, List.length_nil]; omega
theorem orders_l0 (xs : List Int) (hl : xs.length ≤ 1000000000000) : ∀ rest pre, xs = pre ++ rest → Ev (fun k => telamonlaw23_RecurseOrders.l0 k xs xs (pre.length : Int)) true
  | [], pre, h => Ev.succ (by
    have hn : ((pre.length : Int) < (xs.length : Int)) = False := by subst h; simp
    simp only [telamonlaw23_RecurseOrders.l0, hn, if_false]
    exact Ev.pure _)
  | v :: rest, pre, h => Ev.succ (by
    obtain ⟨a1, a2, a4, a5⟩ := rdI h hl
    simp only [telamonlaw23_RecurseOrders.l0, a1, a2, if_true, a4]
    exact orders_l0 xs hl rest (pre ++ [v]) a5)
theorem ordL_len (a : Int) : ∀ (N : Nat) (l : List S31) (o : List Int) (u : List Int × Bool), ordL N a l o = some u → u.1.length ≤ o.length + l.length
  | 0, l, o, u, h => by simp [ordL] at h
  | N + 1, l, o, u, h => by
    unfold ordL at h
    by_cases hz : l.length = 0
    · rw [if_pos hz] at h; rw [← Option.some.inj h]; simp
    · rw [if_neg hz] at h
      cases hf : (List.range a.toNat).find? (goodR o l) with
      | none => rw [hf] at h; rw [← Option.some.inj h]; simp
      | some k =>
        rw [hf] at h
        have := good_less (List.find?_some hf)
        have h2 := ordL_len a N _ _ u h
        simp at h2
        omega
theorem Orders (l : List S31) (a : Int) (hx : ∀ x ∈ l, nL x.f0 ≤ 1048576) : Ev (fun k => telamonlaw23_RecurseOrders.f k l a) true := by
  have hx' : ∀ x ∈ l, nL x.f0 ≤ 1000000000 := fun x h => by have := hx x h; omega
  obtain ⟨b, hb, hb2⟩ := big_is l hx'
  simp only [telamonlaw23_RecurseOrders.f, alive23, Option.bind_some, if_true]
  refine Ev.bind hb ?_
  refine Ev.succ ?_
  cases b with
  | true => simp only [telamonlaw23_RecurseOrders.j0, if_true]; exact Ev.pure _
  | false =>
    have hl := hb2 rfl
    obtain ⟨u, hu, hr⟩ := order_ref l a (by omega) hx'
    have hul : u.1.length ≤ 60 := by
      rw [ord_prog l a (by omega)] at hu
      have := ordL_len _ _ _ _ _ hu
      simp at this; omega
    simp only [telamonlaw23_RecurseOrders.j0, Bool.false_eq_true, if_false, hu, Option.bind_some]
    refine Ev.bind hr ?_
    simp only [bne_self_eq_false, Bool.false_eq_true, if_false]
    refine Ev.succ ?_
    simp only [telamonlaw23_RecurseOrders.j1, Bool.false_eq_true, if_false]
    exact orders_l0 u.1 (by omega) u.1 [] rfl
end Go.Proofs.Ytbopadglafbdjaa.M
