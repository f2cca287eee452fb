/- Plain Lean about levels: levels put in for the variables. -/
import Derived.Test.YtbopadglafbdjaaMV
import Derived.Test.YtbopadglafbdjaaPXxf51
import Derived.Test.YtbopadglafbdjaaPXxf52
set_option linter.unusedVariables false
set_option linter.unusedSimpArgs false
namespace Go.Proofs.Ytbopadglafbdjaa.M
open Go.RowKit Go.Proofs.Ytbopadglafbdjaa.PX Go.Proofs.YtbopadglafbdjaaW.PrintWords Go.Proofs.YtbopadglafbdjaaW.PrintLast Go.Proofs.YtbopadglafbdjaaW.PrintMore

theorem at_lv {xs pre rest : List S43} {v : S43} (h : xs = pre ++ v :: rest) (hl : xs.length ≤ 1000000000000) :
    ((pre.length : Int) < (xs.length : Int)) = True ∧ ((0 : Int) ≤ (pre.length : Int)) = True ∧ rd_T43 xs (pre.length : Int) = v ∧ wrap64 ((pre.length : Int) + 1) = ((pre ++ [v]).length : Int) ∧ xs = (pre ++ [v]) ++ rest := by
  subst h
  simp only [List.length_append, List.length_cons] at hl
  refine ⟨by simp; omega, by simp, by simp [rd_T43, List.getD_eq_getElem?_getD], ?_, by simp⟩
  unfold wrap64; simp only [List.length_append, List.length_cons, List.length_nil]; omega
theorem at_lv_end {xs pre : List S43} (h : xs = pre ++ []) : ((pre.length : Int) < (xs.length : Int)) = False := by subst h; simp
/-- An argument's canonical number and row. -/
def aN (args : List S43) (i : Int) : Int := zN (rd_T43 args i).f0 (can (rd_T43 args i).f1)
def aL (args : List S43) (i : Int) : List S62 := can (rd_T43 args i).f1
def stp (args : List S43) (s : Int × List S62) (v : S62) : Int × List S62 :=
  (if aN args v.f0 + v.f1 > s.1 ∧ (aN args v.f0 > 0 ∨ aL args v.f0 = []) then aN args v.f0 + v.f1 else s.1, s.2 ++ (aL args v.f0).map (addV v.f1))
def rightA (a : S43) : Bool := rightB a.f0 a.f1
def inB (args : List S43) (v : S62) : Bool := decide (v.f0 < (args.length : Int))
def tailR (args : List S43) (s : Int × List S62) (rest : List S62) : Int × List S62 × Int :=
  if rest.all (inB args) then toldR (rest.foldl (stp args) s).1 (rest.foldl (stp args) s).2 else (0, [], 13)
def substR (N : Int) (l : List S62) (args : List S43) : Int × List S62 × Int :=
  if rightB N l then (if args.all rightA then tailR args (zN N (can l), []) (can l) else (0, [], 13)) else (0, [], 13)

/-! ### What may stand in the running state -/
structure Fit (s : Int × List S62) : Prop where
  n : 0 ≤ s.1
  v : ∀ v ∈ s.2, (0 ≤ v.f0 ∧ v.f0 ≤ 1000) ∧ 0 ≤ v.f1
def Ok (s : Int × List S62) : Prop := rightB (zN s.1 (can s.2)) (can s.2) = true
theorem ok_iff {s : Int × List S62} (h : Fit s) : Ok s ↔ s.1 ≤ 1000 ∧ (can s.2).length ≤ 64 ∧ ∀ v ∈ s.2, v.f1 ≤ 1000 := by
  unfold Ok
  rw [rightB_iff]
  constructor
  · rintro ⟨h1, h2, h3⟩
    refine ⟨?_, h2, fun v hv => ?_⟩
    · rcases zN_cases s.1 (can s.2) with ⟨e, v, hv, h4⟩ | ⟨e, _⟩
      · have := (h3 v hv).2; omega
      · omega
    · obtain ⟨z, hz, _, h4⟩ := can_top hv
      have := (h3 z hz).2; omega
  · rintro ⟨h1, h2, h3⟩
    have hn := h.n
    refine ⟨?_, h2, fun v hv => ?_⟩
    · rcases zN_cases s.1 (can s.2) with ⟨e, _⟩ | ⟨e, _⟩ <;> rw [e] <;> omega
    · have := h.v v (can_mem hv); have := h3 v (can_mem hv); omega
theorem ss_len {a b : List S62} (ha : SS a) (hb : SS b) (h : ∀ x ∈ a, ∃ z ∈ b, z.f0 = x.f0) : a.length ≤ b.length := by
  induction a generalizing b with
  | nil => simp
  | cons x a ih =>
    obtain ⟨a1, a2⟩ := List.pairwise_cons.1 ha
    obtain ⟨z, hz, e⟩ := h x (by simp)
    obtain ⟨b1, b2, rfl⟩ := List.append_of_mem hz
    have hb' := (List.pairwise_append.1 hb)
    have := ih a2 ((List.pairwise_cons.1 hb'.2.1).2) (fun y hy => by
      obtain ⟨w, hw, e'⟩ := h y (by simp [hy])
      have hlt := a1 y hy
      rcases List.mem_append.1 hw with hw | hw
      · have := hb'.2.2 w hw z (by simp); omega
      · rcases List.mem_cons.1 hw with rfl | hw
        · omega
        · exact ⟨w, hw, e'⟩)
    simp only [List.length_append, List.length_cons]
    omega
theorem can_len_mono {L L' : List S62} (h : ∀ v ∈ L, v ∈ L') : (can L).length ≤ (can L').length :=
  ss_len (can_ss L) (can_ss L') fun x hx => by
    obtain ⟨z, hz, e, _⟩ := can_top (h x (can_mem hx))
    exact ⟨z, hz, e⟩
theorem ok_mono {s s' : Int × List S62} (h : Fit s) (h' : Fit s') (h1 : s.1 ≤ s'.1) (h2 : ∀ v ∈ s.2, v ∈ s'.2) (ho : Ok s') : Ok s := by
  rw [ok_iff h'] at ho
  rw [ok_iff h]
  exact ⟨by omega, by have := can_len_mono h2; omega, fun v hv => ho.2.2 v (h2 v hv)⟩
theorem arg_right {args : List S43} (h : args.all rightA = true) {i : Int} (h0 : 0 ≤ i) (h1 : i < (args.length : Int)) : rightB (rd_T43 args i).f0 (rd_T43 args i).f1 = true := by
  have hlt : i.toNat < args.length := by omega
  have e : rd_T43 args i = args[i.toNat] := by simp [rd_T43, List.getD_eq_getElem?_getD, List.getElem?_eq_getElem hlt]
  rw [e]
  exact List.all_eq_true.1 h _ (List.getElem_mem hlt)
theorem stp_fit {args : List S43} (h : args.all rightA = true) {s : Int × List S62} (hs : Fit s) {v : S62} (hv : 0 ≤ v.f0 ∧ 0 ≤ v.f1) (hi : v.f0 < (args.length : Int)) : Fit (stp args s v) := by
  have g := (rightB_iff _ _).1 (right_can (arg_right h hv.1 hi))
  refine ⟨?_, fun w hw => ?_⟩
  · have := hs.n
    have := g.1.1
    simp only [stp]
    split
    · simp only [aN]; omega
    · omega
  · simp only [stp] at hw
    rcases List.mem_append.1 hw with hw | hw
    · exact hs.v w hw
    · obtain ⟨u, hu, rfl⟩ := List.mem_map.1 hw
      have := g.2.2 u hu
      simp only [addV]; omega
theorem stp_grow {args : List S43} (s : Int × List S62) (v : S62) : s.1 ≤ (stp args s v).1 ∧ ∀ w ∈ s.2, w ∈ (stp args s v).2 := by
  refine ⟨?_, fun w hw => List.mem_append_left _ hw⟩
  simp only [stp]; split <;> omega
theorem fold_grow {args : List S43} (h : args.all rightA = true) : ∀ (rest : List S62) (s : Int × List S62), Fit s → (∀ v ∈ rest, (0 ≤ v.f0 ∧ 0 ≤ v.f1) ∧ v.f0 < (args.length : Int)) →
    Fit (rest.foldl (stp args) s) ∧ s.1 ≤ (rest.foldl (stp args) s).1 ∧ ∀ w ∈ s.2, w ∈ (rest.foldl (stp args) s).2
  | [], s, hs, _ => ⟨hs, Int.le_refl _, fun _ h => h⟩
  | v :: rest, s, hs, hv => by
    rw [List.foldl_cons]
    obtain ⟨a, b, c⟩ := fold_grow h rest (stp args s v) (stp_fit h hs (hv v (by simp)).1 (hv v (by simp)).2) (fun w hw => hv w (by simp [hw]))
    have g := stp_grow (args := args) s v
    exact ⟨a, by omega, fun w hw => c w (g.2 w hw)⟩
theorem toldR_bad {s : Int × List S62} (h : ¬ Ok s) : toldR s.1 s.2 = (0, [], 13) := by
  unfold toldR
  exact if_neg h
theorem tail_bad {args : List S43} (h : args.all rightA = true) {s : Int × List S62} (hs : Fit s) (hb : ¬ Ok s) (rest : List S62) (hv : ∀ v ∈ rest, 0 ≤ v.f0 ∧ 0 ≤ v.f1) : tailR args s rest = (0, [], 13) := by
  unfold tailR
  by_cases c : rest.all (inB args) = true
  · rw [if_pos c]
    have hin : ∀ v ∈ rest, (0 ≤ v.f0 ∧ 0 ≤ v.f1) ∧ v.f0 < (args.length : Int) := fun v hv' => ⟨hv v hv', by
      have := List.all_eq_true.1 c v hv'; simpa [inB] using this⟩
    obtain ⟨a, b, d⟩ := fold_grow h rest s hs hin
    exact toldR_bad fun ho => hb (ok_mono hs a b d ho)
  · rw [if_neg c]
/-! ### Two numbers with what holds them up -/
theorem zN_mx {P X S Y : Int} {J : List S62} (hX : 0 ≤ X) (hY : 0 ≤ Y) (h1 : P = X ∨ (P = 0 ∧ ∃ v ∈ J, X ≤ v.f1)) (h2 : S = Y ∨ (S = 0 ∧ ∃ v ∈ J, Y ≤ v.f1)) : zN (mx P S) J = zN (mx X Y) J := by
  have key : ∀ A, (∃ v ∈ J, A ≤ v.f1) → zN A J = 0 := by
    rintro A ⟨v, hv, h⟩
    rcases zN_cases A J with ⟨e, _⟩ | ⟨e, h'⟩
    · exact e
    · have := h' v hv; omega
  have hmono : ∀ A B, A ≤ B → (∃ v ∈ J, B ≤ v.f1) → ∃ v ∈ J, A ≤ v.f1 := by
    rintro A B hAB ⟨v, hv, h⟩; exact ⟨v, hv, by omega⟩
  rcases h1 with rfl | ⟨rfl, d1⟩ <;> rcases h2 with rfl | ⟨rfl, d2⟩
  · rfl
  · unfold mx
    by_cases c : P < Y
    · rw [if_neg (by omega), if_pos c, key Y d2, key P (hmono _ _ (by omega) d2)]
    · rw [if_neg (by omega), if_neg c]
  · unfold mx
    by_cases c : X < S
    · rw [if_pos c]
      by_cases c2 : 0 < S
      · rw [if_pos c2]
      · omega
    · rw [if_neg c, key X d1]
      by_cases c2 : 0 < S
      · rw [if_pos c2, key S (hmono _ _ (by omega) d1)]
      · rw [if_neg c2, zN_zero]
  · unfold mx
    rw [if_neg (by omega), zN_zero]
    by_cases c : X < Y
    · rw [if_pos c, key Y d2]
    · rw [if_neg c, key X d1]
/-- One round of the program: 'Suc', then 'Max', of canonical states. -/
theorem round_eq {args : List S43} (h : args.all rightA = true) {s : Int × List S62} (hs : Fit s) (ho : Ok s) {v : S62} (hv : (0 ≤ v.f0 ∧ 0 ≤ v.f1) ∧ v.f1 ≤ 1000) (hi : v.f0 < (args.length : Int)) :
    sucR (rd_T43 args v.f0).f0 (rd_T43 args v.f0).f1 v.f1 = toldR (aN args v.f0 + v.f1) ((aL args v.f0).map (addV v.f1)) ∧
    (¬ Ok (aN args v.f0 + v.f1, (aL args v.f0).map (addV v.f1)) → ¬ Ok (stp args s v)) ∧
    (Ok (aN args v.f0 + v.f1, (aL args v.f0).map (addV v.f1)) → maxR (zN s.1 (can s.2)) (can s.2) (zN (aN args v.f0 + v.f1) (can ((aL args v.f0).map (addV v.f1)))) (can ((aL args v.f0).map (addV v.f1))) = toldR (stp args s v).1 (stp args s v).2) := by
  have hr := arg_right h hv.1.1 hi
  have g := (rightB_iff _ _).1 (right_can hr)
  have hfit : Fit (aN args v.f0 + v.f1, (aL args v.f0).map (addV v.f1)) := ⟨by simp only [aN]; omega, fun w hw => by
    obtain ⟨u, hu, rfl⟩ := List.mem_map.1 hw
    have := g.2.2 u hu
    simp only [addV]; omega⟩
  have hstp := stp_fit h hs hv.1 hi
  refine ⟨?_, fun hb hst => hb ?_, fun hok => ?_⟩
  · unfold sucR
    rw [if_pos hr, if_neg (by omega), if_neg (by omega)]
    rfl
  · rw [ok_iff hstp] at hst
    rw [ok_iff hfit]
    refine ⟨?_, ?_, fun w hw => hst.2.2 w (List.mem_append_right _ hw)⟩
    · simp only
      by_cases c : aN args v.f0 > 0 ∨ aL args v.f0 = []
      · have h1 := hst.1
        simp only [stp] at h1
        split at h1
        · exact h1
        · omega
      · have h0 : aN args v.f0 = 0 := by have := g.1.1; simp only [aN] at c ⊢; omega
        rw [h0]; omega
    · have := can_len ((aL args v.f0).map (addV v.f1))
      have e : ((aL args v.f0).map (addV v.f1)).length = (can (rd_T43 args v.f0).f1).length := by simp [aL]
      simp only; omega
  · have hT : can (can s.2) = can s.2 := can_idem _
    have hU : can (can ((aL args v.f0).map (addV v.f1))) = can ((aL args v.f0).map (addV v.f1)) := can_idem _
    unfold maxR
    rw [show rightB (zN s.1 (can s.2)) (can s.2) = true from ho, show rightB (zN (aN args v.f0 + v.f1) (can ((aL args v.f0).map (addV v.f1)))) (can ((aL args v.f0).map (addV v.f1))) = true from hok]
    simp only [Bool.and_self, if_true]
    rw [hT, hU, zN_idem, zN_idem]
    have hJ : can (s.2 ++ (aL args v.f0).map (addV v.f1)) = joinS (can s.2) (can ((aL args v.f0).map (addV v.f1))) := can_eq ((can_is _).join (can_is _))
    have hJJ : can (joinS (can s.2) (can ((aL args v.f0).map (addV v.f1)))) = joinS (can s.2) (can ((aL args v.f0).map (addV v.f1))) := can_self (joinS_ss _ _ (can_ss _) (can_ss _))
    have hz : zN (mx (zN s.1 (can s.2)) (zN (aN args v.f0 + v.f1) (can ((aL args v.f0).map (addV v.f1))))) (joinS (can s.2) (can ((aL args v.f0).map (addV v.f1)))) = zN (stp args s v).1 (joinS (can s.2) (can ((aL args v.f0).map (addV v.f1)))) := by
      have h1 : ∀ (A : Int) (l l' : List S62), (∀ x ∈ can l, ∃ z ∈ l', x.f1 ≤ z.f1) → zN A (can l) = A ∨ (zN A (can l) = 0 ∧ ∃ v ∈ l', A ≤ v.f1) := by
        intro A l l' hsub
        rcases zN_cases A (can l) with ⟨e, w, hw, h3⟩ | ⟨e, _⟩
        · obtain ⟨z, hz, h4⟩ := hsub w hw
          exact .inr ⟨e, z, hz, by omega⟩
        · exact .inl e
      have hl : ∀ x ∈ can s.2, ∃ z ∈ joinS (can s.2) (can ((aL args v.f0).map (addV v.f1))), x.f1 ≤ z.f1 := fun x hx => by
        obtain ⟨z, hz, _, h4⟩ := joinS_top _ _ x (.inl hx); exact ⟨z, hz, h4⟩
      have hrr : ∀ x ∈ can ((aL args v.f0).map (addV v.f1)), ∃ z ∈ joinS (can s.2) (can ((aL args v.f0).map (addV v.f1))), x.f1 ≤ z.f1 := fun x hx => by
        obtain ⟨z, hz, _, h4⟩ := joinS_top _ _ x (.inr hx); exact ⟨z, hz, h4⟩
      rw [zN_mx hs.n (show 0 ≤ aN args v.f0 + v.f1 from hfit.n) (h1 _ _ _ hl) (h1 _ _ _ hrr)]
      simp only [stp]
      by_cases c : aN args v.f0 > 0 ∨ aL args v.f0 = []
      · simp only [c, and_true]
        unfold mx
        rfl
      · simp only [c, and_false, if_false]
        -- the variables hold the number up
        have h0 : aN args v.f0 = 0 := by have := g.1.1; simp only [aN] at c ⊢; omega
        have hne : aL args v.f0 ≠ [] := fun e => c (.inr e)
        obtain ⟨w, hw⟩ := List.exists_mem_of_ne_nil _ hne
        have hwf := (g.2.2 w hw).2.1
        obtain ⟨z, hz, _, h4⟩ := can_top (List.mem_map_of_mem (f := addV v.f1) hw)
        obtain ⟨z', hz', h5⟩ := hrr z hz
        simp only [addV] at h4
        have := zN_mx (J := joinS (can s.2) (can ((aL args v.f0).map (addV v.f1)))) (P := s.1) (X := s.1) (S := 0) (Y := aN args v.f0 + v.f1) hs.n hfit.n (.inl rfl) (.inr ⟨rfl, z', hz', by omega⟩)
        rw [← this]
        have hn := hs.n
        unfold mx
        rw [if_neg (by omega)]
    unfold toldR
    simp only [hJJ, hz, show (stp args s v).2 = s.2 ++ (aL args v.f0).map (addV v.f1) from rfl, hJ]

/-! ### The program's loops -/
theorem told_state {s : Int × List S62} (ho : Ok s) : toldR s.1 s.2 = (zN s.1 (can s.2), can s.2, 0) := by
  unfold toldR; exact if_pos ho
theorem subst_l1 (args : List S43) (hA : args.all rightA = true) (hal : args.length ≤ 1000000) (hargs : ∀ i, (rd_T43 args i).f1.length ≤ 1000000) (xs : List S62) (hl : xs.length ≤ 1000000) (hxs : ∀ v ∈ xs, (0 ≤ v.f0 ∧ 0 ≤ v.f1) ∧ v.f1 ≤ 1000) : ∀ rest pre s, xs = pre ++ rest → Fit s → Ok s →
    Ev (fun k => level_Subst.l1 k args xs (xs.length : Int) (pre.length : Int) (zN s.1 (can s.2)) (can s.2)) (tailR args s rest)
  | [], pre, s, h, hs, ho => Ev.succ (by
    simp only [level_Subst.l1, at_end h, if_false]
    have hlen := ((ok_iff hs).1 ho).2.1
    refine Ev.bind (told_is _ _ (by omega)) ?_
    have e : toldR (zN s.1 (can s.2)) (can s.2) = toldR s.1 s.2 := by
      unfold toldR
      simp only [can_idem, zN_idem]
    refine (Ev.pure _).eq ?_
    rw [e]
    simp [tailR])
  | v :: rest, pre, s, h, hs, ho => Ev.succ (by
    obtain ⟨h1, h2, h3, h4, h5⟩ := at_split h (by omega)
    have hv := hxs v (by rw [h]; simp)
    have hrest : ∀ w ∈ rest, 0 ≤ w.f0 ∧ 0 ≤ w.f1 := fun w hw => (hxs w (by rw [h]; simp [hw])).1
    simp only [level_Subst.l1, h1, h2, h3, h4, if_true]
    by_cases c : v.f0 ≥ (args.length : Int)
    · simp only [c, if_true]
      refine (Ev.pure _).eq ?_
      unfold tailR
      rw [if_neg]
      simp [inB]; omega
    · have c' : v.f0 < (args.length : Int) := by omega
      simp only [c, if_false, show 0 ≤ v.f0 from hv.1.1, c', if_true]
      obtain ⟨e1, e2, e3⟩ := round_eq hA hs ho hv c'
      refine Ev.bind (suc_is _ _ _ (hargs _)) ?_
      rw [e1]
      have hstp := stp_fit hA hs hv.1 c'
      have htail : tailR args s (v :: rest) = tailR args (stp args s v) rest := by
        simp only [tailR, List.all_cons, List.foldl_cons, inB, c', decide_true, Bool.true_and]
      by_cases d : Ok (aN args v.f0 + v.f1, (aL args v.f0).map (addV v.f1))
      · have d' := told_state d
        simp only at d'
        rw [d']
        simp only [if_true]
        have dl := (rightB_iff _ _).1 d
        have hsl := ((ok_iff hs).1 ho).2.1
        refine Ev.bind (max_is _ _ _ _ (by omega) (by have := dl.2.1; simp only at this; omega)) ?_
        rw [e3 d]
        by_cases g : Ok (stp args s v)
        · rw [told_state g]
          simp only [if_true]
          rw [htail]
          exact subst_l1 args hA hal hargs xs hl hxs rest _ (stp args s v) h5 hstp g
        · rw [toldR_bad g]
          simp only [show ((13 : Int) = 0) = False by simp, if_false]
          refine (Ev.pure _).eq ?_
          rw [htail, tail_bad hA hstp g rest hrest]
      · have d' := toldR_bad d
        simp only at d'
        rw [d']
        simp only [show ((13 : Int) = 0) = False by simp, if_false]
        refine (Ev.pure _).eq ?_
        rw [htail, tail_bad hA hstp (e2 d) rest hrest])
theorem subst_l0 (args : List S43) (hal : args.length ≤ 1000000) (hargs : ∀ i, (rd_T43 args i).f1.length ≤ 1000000) (N : Int) (l : List S62) (u : Int × List S62 × Int)
    (hgo : args.all rightA = true → Ev (fun k => level_Subst.l1 k args l (l.length : Int) 0 N []) u) : ∀ rest pre, args = pre ++ rest → pre.all rightA = true →
    Ev (fun k => level_Subst.l0 k args args (args.length : Int) (pre.length : Int) N l) (if rest.all rightA then u else (0, [], 13))
  | [], pre, h, hp => Ev.succ (by
    simp only [level_Subst.l0, at_lv_end h, if_false]
    have e : pre = args := by simpa using h.symm
    simpa using hgo (e ▸ hp))
  | v :: rest, pre, h, hp => Ev.succ (by
    obtain ⟨h1, h2, h3, h4, h5⟩ := at_lv h (by omega)
    simp only [level_Subst.l0, h1, h2, h3, h4, if_true]
    have hlen := hargs (pre.length : Int)
    rw [h3] at hlen
    refine Ev.bind (right_is v.f0 v.f1 (by omega)) ?_
    cases e : rightB v.f0 v.f1
    · simp only [Bool.false_eq_true, if_false]
      refine (Ev.pure _).eq ?_
      simp [rightA, e]
    · simp only [if_true]
      refine (subst_l0 args hal hargs N l u hgo rest _ h5 (by simp [hp, rightA, e])).eq ?_
      simp [rightA, e])
theorem subst_is (N : Int) (l : List S62) (args : List S43) (hl : l.length ≤ 1000000) (hal : args.length ≤ 1000000) (hargs : ∀ i, (rd_T43 args i).f1.length ≤ 1000000) : Ev (fun k => level_Subst.f k N l args) (substR N l args) := by
  unfold level_Subst.f
  refine Ev.bind (Norm_is N l (by omega)) ?_
  unfold normR substR
  cases h : rightB N l
  · exact Ev.pure _
  · simp only [if_true]
    have g := (rightB_iff _ _).1 (right_can h)
    refine subst_l0 args hal hargs _ (can l) (tailR args (zN N (can l), []) (can l)) (fun hA => ?_) args [] rfl rfl
    have hfit : Fit (zN N (can l), []) := ⟨by simp only; omega, by simp⟩
    have hok : Ok (zN N (can l), []) := by rw [ok_iff hfit]; exact ⟨by simp only; omega, by simp [can], by simp⟩
    have := subst_l1 args hA hal hargs (can l) (by omega) (fun v hv => ⟨⟨(g.2.2 v hv).1.1, (g.2.2 v hv).2.1⟩, (g.2.2 v hv).2.2⟩) (can l) [] _ rfl hfit hok
    simpa [can, zN] using this

/-! ### The reference's loops -/
theorem rsubst_l2 (args : List S43) (N : Int) (l : List S62) (i X a d : Int) (n : Int) (ys : List S62) (hi : 0 ≤ i ∧ i ≤ 1000000) (hd : 0 ≤ d ∧ d ≤ 1000) (hyl : ys.length ≤ 1000000) (hys : ∀ v ∈ ys, 0 ≤ v.f1 ∧ v.f1 ≤ 1000) (u : Int × List S62 × Int) (L : List S62) (hL : L.length ≤ 1000000000)
    (hgo : Ev (fun k => telamonref1_SubstLevel.l1 k args (i + 1) N l X (L ++ ys.map (addV d))) u) : ∀ rest pre, ys = pre ++ rest →
    Ev (fun k => telamonref1_SubstLevel.l2 k args i (pre.length : Int) N l X (L ++ pre.map (addV d)) a d n ys) u
  | [], pre, h => Ev.succ (by
    simp only [telamonref1_SubstLevel.l2, at_end h, if_false, wr (i + 1) (by omega) (by omega)]
    have e : pre = ys := by simpa using h.symm
    subst e
    exact hgo)
  | v :: rest, pre, h => Ev.succ (by
    obtain ⟨h1, h2, h3, h4, h5⟩ := at_split h (by omega)
    have hv := hys v (by rw [h]; simp)
    have hlen : (L ++ pre.map (addV d)).length < 8796093022208 := by
      have e : ys.length = pre.length + (rest.length + 1) := by rw [h]; simp
      simp only [List.length_append, List.length_map]; omega
    simp only [telamonref1_SubstLevel.l2, h1, h2, h3, h4, hlen, if_true, wr (v.f1 + d) (by omega) (by omega)]
    have := rsubst_l2 args N l i X a d n ys hi hd hyl hys u L hL hgo rest _ h5
    simpa [addV] using this)
theorem rsubst_l1 (args : List S43) (hA : args.all rightA = true) (hal : args.length ≤ 1000000) (N : Int) (xs : List S62) (hl : xs.length ≤ 64) (hxs : ∀ v ∈ xs, (0 ≤ v.f0 ∧ 0 ≤ v.f1) ∧ v.f1 ≤ 1000) : ∀ rest pre s, xs = pre ++ rest → Fit s → s.1 ≤ 1000000 → s.2.length ≤ 64 * pre.length →
    Ev (fun k => telamonref1_SubstLevel.l1 k args (pre.length : Int) N xs s.1 s.2) (tailR args s rest)
  | [], pre, s, h, hs, hs1, hs2 => Ev.succ (by
    simp only [telamonref1_SubstLevel.l1, at_end h, if_false]
    have e : pre = xs := by simpa using h.symm
    subst e
    refine Ev.bind (fits_is _ _ (by omega) (fun v hv => (hs.v v hv).1.1)) ?_
    refine (Ev.pure _).eq ?_
    simp [tailR])
  | v :: rest, pre, s, h, hs, hs1, hs2 => Ev.succ (by
    obtain ⟨h1, h2, h3, h4, h5⟩ := at_split h (by omega)
    have hv := hxs v (by rw [h]; simp)
    simp only [telamonref1_SubstLevel.l1, h1, h2, h3, if_true]
    by_cases c : v.f0 ≥ (args.length : Int)
    · simp only [c, if_true]
      refine (Ev.pure _).eq ?_
      unfold tailR
      rw [if_neg]
      simp [inB]; omega
    · have c' : v.f0 < (args.length : Int) := by omega
      simp only [c, if_false, show 0 ≤ v.f0 from hv.1.1, c', if_true]
      have hr := arg_right hA hv.1.1 c'
      have q := (rightB_iff _ _).1 hr
      have g := (rightB_iff _ _).1 (right_can hr)
      refine Ev.bind (tidy_is _ _ (by omega) (fun w hw => (q.2.2 w hw).1.1)) ?_
      have hstp := stp_fit hA hs hv.1 c'
      have htail : tailR args s (v :: rest) = tailR args (stp args s v) rest := by
        simp only [tailR, List.all_cons, List.foldl_cons, inB, c', decide_true, Bool.true_and]
      have e1 : (stp args s v).1 ≤ 1000000 := by
        simp only [stp]; split
        · simp only [aN]; omega
        · exact hs1
      have e2 : (stp args s v).2.length ≤ 64 * (pre ++ [v]).length := by
        have := g.2.1
        simp only [stp, List.length_append, List.length_map, List.length_cons, List.length_nil, aL]; omega
      have hpl : pre.length ≤ 64 := by
        have : xs.length = pre.length + (rest.length + 1) := by rw [h]; simp
        omega
      have hj3 : ∀ X, X = (stp args s v).1 → Ev (fun k => telamonref1_SubstLevel.j3 k args (pre.length : Int) N xs X s.2 v.f0 v.f1 (zN (rd_T43 args v.f0).f0 (can (rd_T43 args v.f0).f1)) (can (rd_T43 args v.f0).f1)) (tailR args (stp args s v) rest) := fun X hX => Ev.succ (by
        simp only [telamonref1_SubstLevel.j3]
        have := rsubst_l2 args N xs (pre.length : Int) X v.f0 v.f1 (zN (rd_T43 args v.f0).f0 (can (rd_T43 args v.f0).f1)) (can (rd_T43 args v.f0).f1) (by omega) (by omega) (by omega) (fun w hw => (g.2.2 w hw).2) (tailR args (stp args s v) rest) s.2 (by omega) (by
          have := rsubst_l1 args hA hal N xs hl hxs rest _ (stp args s v) h5 hstp e1 e2
          rw [hX]
          simpa [stp, aL] using this) (can (rd_T43 args v.f0).f1) [] rfl
        simpa using this)
      rw [htail]
      have hj2 : ∀ b, b = decide (aN args v.f0 + v.f1 > s.1 ∧ (aN args v.f0 > 0 ∨ aL args v.f0 = [])) → Ev (fun k => telamonref1_SubstLevel.j2 k args (pre.length : Int) b N xs s.1 s.2 v.f0 v.f1 (zN (rd_T43 args v.f0).f0 (can (rd_T43 args v.f0).f1)) (can (rd_T43 args v.f0).f1)) (tailR args (stp args s v) rest) := fun b hb => Ev.succ (by
        simp only [telamonref1_SubstLevel.j2, wr (zN (rd_T43 args v.f0).f0 (can (rd_T43 args v.f0).f1) + v.f1) (by omega) (by omega)]
        by_cases d : aN args v.f0 + v.f1 > s.1 ∧ (aN args v.f0 > 0 ∨ aL args v.f0 = [])
        · rw [hb, decide_eq_true d]
          simp only [if_true]
          exact hj3 _ (by simp only [stp, d, and_self, if_true]; rfl)
        · rw [hb, decide_eq_false d]
          simp only [Bool.false_eq_true, if_false]
          exact hj3 _ (by simp only [stp]; rw [if_neg d]))
      simp only [wr (zN (rd_T43 args v.f0).f0 (can (rd_T43 args v.f0).f1) + v.f1) (by omega) (by omega)]
      by_cases d1 : zN (rd_T43 args v.f0).f0 (can (rd_T43 args v.f0).f1) + v.f1 > s.1
      · simp only [d1, if_true]
        by_cases d2 : zN (rd_T43 args v.f0).f0 (can (rd_T43 args v.f0).f1) > 0
        · simp only [d2, if_true]
          refine hj2 true ?_
          simp only [aN, d1, d2, true_and, true_or, decide_true]
        · simp only [d2, if_false]
          refine hj2 _ ?_
          simp only [aN, aL, d1, d2, true_and, false_or]
          cases hc : can (rd_T43 args v.f0).f1 with
          | nil => simp
          | cons w r => simp; omega
      · simp only [d1, if_false]
        refine hj2 false ?_
        simp only [aN, d1, false_and, decide_false])
theorem rsubst_l0 (args : List S43) (hal : args.length ≤ 1000000) (hargs : ∀ i, (rd_T43 args i).f1.length ≤ 1000000) (N : Int) (l : List S62) (u : Int × List S62 × Int)
    (hgo : args.all rightA = true → Ev (fun k => telamonref1_SubstLevel.l1 k args 0 N l N []) u) : ∀ rest pre, args = pre ++ rest → pre.all rightA = true →
    Ev (fun k => telamonref1_SubstLevel.l0 k args (pre.length : Int) N l) (if rest.all rightA then u else (0, [], 13))
  | [], pre, h, hp => Ev.succ (by
    simp only [telamonref1_SubstLevel.l0, at_lv_end h, if_false]
    have e : pre = args := by simpa using h.symm
    simpa using hgo (e ▸ hp))
  | v :: rest, pre, h, hp => Ev.succ (by
    obtain ⟨h1, h2, h3, h4, h5⟩ := at_lv h (by omega)
    simp only [telamonref1_SubstLevel.l0, h1, h2, h3, h4, if_true]
    have hlen := hargs (pre.length : Int)
    rw [h3] at hlen
    refine Ev.bind (rright_is v.f0 v.f1 (by omega)) ?_
    cases e : rightB v.f0 v.f1
    · simp only [Bool.false_eq_true, if_false]
      refine (Ev.pure _).eq ?_
      simp [rightA, e]
    · simp only [if_true]
      refine (rsubst_l0 args hal hargs N l u hgo rest _ h5 (by simp [hp, rightA, e])).eq ?_
      simp [rightA, e])
theorem rsubst_is (N : Int) (l : List S62) (args : List S43) (hl : l.length ≤ 1000000) (hal : args.length ≤ 1000000) (hargs : ∀ i, (rd_T43 args i).f1.length ≤ 1000000) : Ev (fun k => telamonref1_SubstLevel.f k N l args) (substR N l args) := by
  unfold telamonref1_SubstLevel.f
  refine Ev.bind (RNorm_is N l (by omega)) ?_
  unfold normR substR
  cases h : rightB N l
  · exact Ev.pure _
  · simp only [if_true]
    have g := (rightB_iff _ _).1 (right_can h)
    refine rsubst_l0 args hal hargs _ (can l) (tailR args (zN N (can l), []) (can l)) (fun hA => ?_) args [] rfl rfl
    have hfit : Fit (zN N (can l), []) := ⟨by simp only; omega, by simp⟩
    exact rsubst_l1 args hA hal _ (can l) g.2.1 (fun v hv => ⟨⟨(g.2.2 v hv).1.1, (g.2.2 v hv).2.1⟩, (g.2.2 v hv).2.2⟩) (can l) [] _ rfl hfit (by simp only; omega) (by simp)
end Go.Proofs.Ytbopadglafbdjaa.M
