-- by wip/tools/gprint.py of this session over the kit's print; given functions are this session's own text
import Derived.Test.YtbopadglafbdjaaPXx0
namespace Go.Proofs.Ytbopadglafbdjaa.PX
open Go.RowKit Go.Proofs.YtbopadglafbdjaaW.PrintWords Go.Proofs.YtbopadglafbdjaaW.PrintLast Go.Proofs.YtbopadglafbdjaaW.PrintMore
attribute [local go_sem] max2_int min2_int max_two min_two max_three min_three max_four min_four   -- for this text's walks alone
set_option linter.unusedVariables false
set_option linter.unusedSimpArgs false

/-! ### telamonlaw1_Lent: function 39 -/
-- GIVEN
attribute [local go_sem] max2_int min2_int max_two min_two max_three min_three max_four min_four   -- for this text's walks alone
def telamonlaw1_Lent.f (a0_0 : Int) (l0_1 : List (S62)) : Option (Int × (List (S62))) := if ([] : List (S62)).length + l0_1.length < 8796093022208 then ((some (([] : List (S62)) ++ l0_1 : List (S62))).bind fun y103 => ((some (([(⟨(-71), 0⟩ : S62)] : List (S62)) : List (S62))).bind fun y106 => (if y103.length + y106.length < 8796093022208 then ((some (y103 ++ y106 : List (S62))).bind fun y109 => (if 0 ≤ (l0_1.length : Int) then (if (l0_1.length : Int) ≤ (y109.length : Int) then (some (a0_0, (y109.take ((l0_1.length : Int) : Int).toNat))) else (none)) else (none))) else (none)))) else (none)
def telamonlaw1_Lent.T1 : Bool × List (List Nat × List Nat) := (true, [([], []), ([0], [0]), ([1], [1]), ([], []), ([3], [3]), ([2, 4, 2], [2, 4]), ([], []), ([6], [6]), ([7], [7]), ([5, 8], [5, 8]), ([0, 1, 2, 3, 4, 5, 6, 7, 8, 9], []), ([10, 9, 5, 0, 1, 2, 3, 4, 5, 6, 7, 8, 9], [9, 10])])
def telamonlaw1_Lent.B1 : List Nat := [0, 1, 3, 0, 8, 31, 0, 64, 192, 511, 1023, 2047]
theorem telamonlaw1_Lent.tab1 : rtab .any (opsOf Try.f39 1) = telamonlaw1_Lent.T1 := by kernel_rfl
theorem telamonlaw1_Lent.bits1 : waitsOk telamonlaw1_Lent.T1.2 telamonlaw1_Lent.B1 = true := by kernel_rfl
set_option maxHeartbeats 8000000 in
set_option maxRecDepth 100000 in
theorem telamonlaw1_Lent.calls (a0_0 : Int) (A0_1 : Option Addr) (c0_1 : Nat) (l0_1 : List (S62)) (r1 : Int) (r2 : List (S62)) (w : World) (hr0_1 : Kd.C k62 w A0_1 l0_1.length l0_1) (hc0_1 : l0_1.length ≤ c0_1) (h : telamonlaw1_Lent.f a0_0 l0_1 = some (r1, r2)) :
  Calls Try.prog 39 #[.agg #[.int .i64 a0_0, .slice A0_1 l0_1.length c0_1]] w fun e w' => ∃ (A1_ : Option Addr) (c1_ : Nat), e = .returned (.agg #[.int .i64 r1, .slice A1_ r2.length c1_]) ∧ Kd.R k62 62 w' w.heap.size (fun _ => True) (.slice A1_ (r2.length + 1) c1_) (r2 ++ [⟨-71, 0⟩]) ∧ Below w.heap.size w w' := by
 have hu43 := Try.underlying43
 have hu62 := Try.underlying62
 have HR0_1 := Aside0.mk hr0_1
 have HC0_1 := Aside0.mk hc0_1
 clear hr0_1 hc0_1
 have HB := Aside0.mk (Below.refl w.heap.size w)
 have H : (if ([] : List (S62)).length + l0_1.length < 8796093022208 then ((some (([] : List (S62)) ++ l0_1 : List (S62))).bind fun y103 => ((some (([(⟨(-71), 0⟩ : S62)] : List (S62)) : List (S62))).bind fun y106 => (if y103.length + y106.length < 8796093022208 then ((some (y103 ++ y106 : List (S62))).bind fun y109 => (if 0 ≤ (l0_1.length : Int) then (if (l0_1.length : Int) ≤ (y109.length : Int) then (some (a0_0, (y109.take ((l0_1.length : Int) : Int).toNat))) else (none)) else (none))) else (none)))) else (none)) = some (r1, r2) := h
 clear h
 by_cases c2 : ([] : List (S62)).length + l0_1.length < 8796093022208
 ·rw [if_pos c2] at H
  have LMc2 := Aside0.mk c2
  clear c2
  obtain ⟨y103, hy103⟩ : ∃ y_ : List (S62), y_ = (([] : List (S62)) ++ l0_1) := ⟨_, rfl⟩
  replace H : ((some (([(⟨(-71), 0⟩ : S62)] : List (S62)) : List (S62))).bind fun y106 => (if y103.length + y106.length < 8796093022208 then ((some (y103 ++ y106 : List (S62))).bind fun y109 => (if 0 ≤ (l0_1.length : Int) then (if (l0_1.length : Int) ≤ (y109.length : Int) then (some (a0_0, (y109.take ((l0_1.length : Int) : Int).toNat))) else (none)) else (none))) else (none))) = some (r1, r2) := by first | (rw [hy103]; with_reducible exact H) | (have H2_ := (Option.bind_some _ _).symm.trans H; rw [hy103]; with_reducible exact H2_) | (have H2_ := (Option.bind_some _ _).symm.trans H; with_reducible exact H2_) | with_reducible exact H | (rw [hy103]; exact H) | exact H
  have Ny103 := Aside0.mk hy103
  clear hy103
  obtain ⟨y106, hy106⟩ : ∃ y_ : List (S62), y_ = (([(⟨(-71), 0⟩ : S62)] : List (S62))) := ⟨_, rfl⟩
  replace H : (if y103.length + y106.length < 8796093022208 then ((some (y103 ++ y106 : List (S62))).bind fun y109 => (if 0 ≤ (l0_1.length : Int) then (if (l0_1.length : Int) ≤ (y109.length : Int) then (some (a0_0, (y109.take ((l0_1.length : Int) : Int).toNat))) else (none)) else (none))) else (none)) = some (r1, r2) := by first | (rw [hy106]; with_reducible exact H) | (have H2_ := (Option.bind_some _ _).symm.trans H; rw [hy106]; with_reducible exact H2_) | (have H2_ := (Option.bind_some _ _).symm.trans H; with_reducible exact H2_) | with_reducible exact H | (rw [hy106]; exact H) | exact H
  have Ny106 := Aside0.mk hy106
  clear hy106
  by_cases c3 : y103.length + y106.length < 8796093022208
  ·rw [if_pos c3] at H
   have LMc3 := Aside0.mk c3
   clear c3
   obtain ⟨y109, hy109⟩ : ∃ y_ : List (S62), y_ = (y103 ++ y106) := ⟨_, rfl⟩
   replace H : (if 0 ≤ (l0_1.length : Int) then (if (l0_1.length : Int) ≤ (y109.length : Int) then (some (a0_0, (y109.take ((l0_1.length : Int) : Int).toNat))) else (none)) else (none)) = some (r1, r2) := by first | (rw [hy109]; with_reducible exact H) | (have H2_ := (Option.bind_some _ _).symm.trans H; rw [hy109]; with_reducible exact H2_) | (have H2_ := (Option.bind_some _ _).symm.trans H; with_reducible exact H2_) | with_reducible exact H | (rw [hy109]; exact H) | exact H
   have Ny109 := Aside0.mk hy109
   clear hy109
   by_cases c4 : 0 ≤ (l0_1.length : Int)
   ·rw [if_pos c4] at H
    have c4b0 := eq_true c4
    have c4b1 : decide (0 ≤ (l0_1.length : Int)) = true := decide_eq_true c4
    clear c4
    by_cases c5 : (l0_1.length : Int) ≤ (y109.length : Int)
    ·rw [if_pos c5] at H
     have c5b0 := eq_true c5
     have c5b1 : decide ((l0_1.length : Int) ≤ (y109.length : Int)) = true := decide_eq_true c5
     clear c5
     obtain ⟨y112, hy112⟩ : ∃ y_ : List (S62), y_ = (y109.take ((l0_1.length : Int) : Int).toNat) := ⟨_, rfl⟩
     replace H : (some (a0_0, y112)) = some (r1, r2) := by first | (rw [hy112]; with_reducible exact H) | (have H2_ := (Option.bind_some _ _).symm.trans H; rw [hy112]; with_reducible exact H2_) | (have H2_ := (Option.bind_some _ _).symm.trans H; with_reducible exact H2_) | with_reducible exact H | (rw [hy112]; exact H) | exact H
     have Ny112 := Aside0.mk hy112
     clear hy112
     simp only [Option.some.injEq, Prod.mk.injEq] at H
     obtain ⟨rfl, rfl⟩ := H
     go_enter Try.func39, Try.ntmps39
     try go_wp2_with (first | ((with_reducible refine gate_dst (N := 1) rfl ?_); refine box_event ?hg (N := 1) ?hd (cs := #[.int .i64 a0_0, .slice A0_1 l0_1.length c0_1]) (t := 43) ?hr ?_; (case hd => rfl); (case hg => rfl); (case hr => first | (go_simp; done) | (go_simp; rfl)); intro gb101 hg w6 hbox hb; have BK101 := Aside0.mk (hbox); have GW101 := Aside0.mk ((bs_ hg HB : w.heap.size ≤ gb101)); have GE101 := Aside0.mk ((bs_ hg HB : w.heap.size ≤ gb101)); replace HB := hs_ HB hb; clear hb hbox hg) | ((with_reducible refine gate_dst (N := 2) rfl ?_); refine box_event ?hg (N := 2) ?hd (cs := #[.int .i64 0, .slice none 0 0]) (t := 43) ?hr ?_; (case hd => rfl); (case hg => rfl); (case hr => first | (go_simp; done) | (go_simp; rfl)); intro gb102 hg w7 hbox hb; have BK102 := Aside0.mk (hbox); have GW102 := Aside0.mk ((bs_ hg HB : w.heap.size ≤ gb102)); have GE102 := Aside0.mk ((bs_ hg HB : w.heap.size ≤ gb102)); have NB101_102 := Aside0.mk ((nl_ hg BK101 : gb101 ≠ gb102)); have NB102_101 := Aside0.mk ((ng_ hg BK101 : gb102 ≠ gb101)); replace BK101 := bb_ BK101 hb; replace HB := hs_ HB hb; clear hb hbox hg))
     replace BK101 := Aside0.mk (blk_drew BK101.out)
     replace BK102 := Aside0.mk (blk_drew BK102.out)
     replace HB := Aside0.mk (below_drew1 HB.out)
     refine start_ (n := 12) (S := fun w' => w'.cell? ⟨gb101, 0, none⟩ = some (.int .i64 a0_0) ∧ w'.cell? ⟨gb101, 1, none⟩ = some (.slice A0_1 l0_1.length c0_1)) (ds := [11]) #[false, false, false, false, false, false, false, false, false, false, false, false] (by kernel_rfl) rfl rfl ⟨(blk_cell BK101.out 0).trans rfl, (blk_cell BK101.out 1).trans rfl⟩ (fun hHeld => ?_); refine with_tabW telamonlaw1_Lent.tab1 telamonlaw1_Lent.bits1 (fun HT_ HW_ => ?_)
     generalize w7.drew = w8 at BK101 BK102 HB hHeld ⊢
     refine pure_ (i := 0) (N := some 3) (v := ?_) (a' := ?_) #[true, false, false, false, false, false, false, false, false, false, false, false] rfl rfl (any_of HT_.out (by kernel_rfl)) (fun _ _ _ h => h) (Or.inl ⟨by rfl, ?_⟩) ?_ ?_
     rotate_left
     ·intro w'
      go_simp
      with_reducible rfl
     rotate_left
     ·simp only [Act.put, List.setIfInBounds_toArray, List.set_cons_zero, List.set_cons_succ, i64_w, i32_w]
      rfl
     refine pure_ (i := 3) (N := some 6) (v := ?_) (a' := ?_) #[true, false, false, true, false, false, false, false, false, false, false, false] rfl rfl (any_of HT_.out (by kernel_rfl)) (fun _ _ _ h => h) (Or.inl ⟨by rfl, ?_⟩) ?_ ?_
     rotate_left
     ·intro w'
      go_simp
      with_reducible rfl
     rotate_left
     ·simp only [Act.put, List.setIfInBounds_toArray, List.set_cons_zero, List.set_cons_succ, i64_w, i32_w]
      rfl
     refine pure_ (i := 6) (N := some 9) (v := ?_) (a' := ?_) #[true, false, false, true, false, false, true, false, false, false, false, false] rfl rfl (any_of HT_.out (by kernel_rfl)) (fun _ _ _ h => h) (Or.inl ⟨by rfl, ?_⟩) ?_ ?_
     rotate_left
     ·intro w'
      go_simp
      with_reducible rfl
     rotate_left
     ·simp only [Act.put, List.setIfInBounds_toArray, List.set_cons_zero, List.set_cons_succ, i64_w, i32_w]
      rfl
     refine take_ (i := 1) (N := some 4) (v := ?_) (a' := ?_) #[true, true, false, true, false, false, true, false, false, false, false, false] rfl rfl (take_ofW HT_.out HW_.out (by kernel_rfl)) (fun _ _ _ h => h) (Or.inl ⟨by rfl, ?_⟩) hHeld ?_ ?_
     rotate_left
     ·rintro w' ⟨s0, s1⟩
      go_simp
      with_reducible rfl
     rotate_left
     ·simp only [Act.put, List.setIfInBounds_toArray, List.set_cons_zero, List.set_cons_succ, i64_w, i32_w]
      rfl
     refine take_ (i := 7) (N := some 10) (v := ?_) (a' := ?_) #[true, true, false, true, false, false, true, true, false, false, false, false] rfl rfl (take_ofW HT_.out HW_.out (by kernel_rfl)) (fun _ _ _ h => h) (Or.inl ⟨by rfl, ?_⟩) hHeld ?_ ?_
     rotate_left
     ·rintro w' ⟨s0, s1⟩
      go_simp
      with_reducible rfl
     rotate_left
     ·simp only [Act.put, List.setIfInBounds_toArray, List.set_cons_zero, List.set_cons_succ, i64_w, i32_w]
      rfl
     refine pure_ (i := 8) (N := some 11) (v := ?_) (a' := ?_) #[true, true, false, true, false, false, true, true, true, false, false, false] rfl rfl (any_of HT_.out (by kernel_rfl)) (fun _ _ _ h => h) (Or.inl ⟨by rfl, ?_⟩) ?_ ?_
     rotate_left
     ·intro w'
      go_simp
      with_reducible rfl
     rotate_left
     ·simp only [Act.put, List.setIfInBounds_toArray, List.set_cons_zero, List.set_cons_succ, i64_w, i32_w]
      rfl
     refine join_ (σ := Value × Value) 4 #[true, true, true, true, true, false, true, true, true, false, false, false] (fun s_ => [(5, s_.1), (7, s_.2)]) (fun s_ w' => (w'.cell? ⟨gb101, 0, none⟩ = some (.int .i64 a0_0) ∧ w'.cell? ⟨gb101, 1, none⟩ = some (.slice A0_1 l0_1.length c0_1)) ∧ (Kd.R k62 62 w' w.heap.size (fun k_ => some k_ ≠ (s_.2 : Value).ownBlock) s_.1 y103) ∧ (Kd.R k62 62 w' w.heap.size (fun k_ => some k_ ≠ (s_.1 : Value).ownBlock) s_.2 y106) ∧ (w'.heap[gb101]? = some (.cells #[.int .i64 a0_0, .slice A0_1 l0_1.length c0_1] 43 (0, 0))) ∧ (w'.heap[gb102]? = some (.cells #[.int .i64 0, .slice none 0 0] 43 (0, 0))) ∧ (Below w.heap.size w w')) ?_ ?_
     rotate_left
     ·intro hCont
      refine two_ (i := 2) (j := 4) (Ni := some 5) (Nj := some 7) #[true, true, true, true, false, false, true, true, true, false, false, false] #[true, true, false, true, true, false, true, true, true, false, false, false] rfl rfl rfl rfl (two_of HT_.out (by kernel_rfl)) (by decide) (by decide) (fun K hK => ?_) (fun K hK => ?_)
      ·skip
       refine Kd.R_append_rows_step k62 (w0 := w) w.heap.size (by rfl) (.const (.slice none 0 0)) (.tmp 4) 41 62 (.agg #[(.int .i64 0), (.int .i64 0)]) 16 rfl Try.underlying41 info62 rfl (by decide) (by omega) (.slice none 0 0) ([] : List (S62)) l0_1 _ _ _ (fun _ => True) (fun _ => False) rfl rfl ?aO ?aR (fun _ _ h => h) (fun _ h => h.elim) ?aF ?aB ?aS ?aL ?_
       (case aR => repeat (first | exact (Kd.C_below HR0_1.out HB.out) | (with_reducible refine Kd.C_alloc ?_ _) | (with_reducible refine Kd.C_drewN ?_ _) | (with_reducible refine Kd.C_drew ?_)))
       (case aB => exact (bl_ HB))
       (case aF => exact (fun _ _ => trivial))
       (case aO => exact ((Kd.R_nil _ _ _ _ (fun _ => True))))
       (case aS => exact (below_size (bl_ HB)))
       (case aL => have := LMc2.out; omega)
       intro v104 w9 ho hb hg hat
       rw [← Ny103.out] at ho
       have HO105 := Aside0.mk (ho)
       replace BK101 := Aside0.mk (blk_grown (g := gb101) (o := .cells #[.int .i64 a0_0, .slice A0_1 l0_1.length c0_1] 43 (0, 0)) (pl_ BK101) hg (by simp [Value.ownBlock]))
       replace BK102 := Aside0.mk (blk_grown (g := gb102) (o := .cells #[.int .i64 0, .slice none 0 0] 43 (0, 0)) (pl_ BK102) hg (by simp [Value.ownBlock]))
       replace HB := Aside0.mk (hb)
       clear ho hb hg hat
       refine hK.out _ _ ⟨(blk_cell BK101.out 0).trans rfl, (blk_cell BK101.out 1).trans rfl⟩ (fun hHeld => ?_)
       clear hK K
       refine norm_ (a' := ?_) ?_ ?_
       rotate_left
       ·show Act.put _ (some 5) _ = _
        simp only [Act.put, List.setIfInBounds_toArray, List.set_cons_zero, List.set_cons_succ, i64_w, i32_w]
        rfl
       refine one_ (i := 4) (N := some 7) #[true, true, true, true, true, false, true, true, true, false, false, false] rfl rfl (one_of HT_.out (by kernel_rfl)) (by decide) (fun K hK => ?_)
       refine Kd.R_lit_step k62 _ 62 ?hg (N := 7) ?hd (xs := ([(⟨(-71), 0⟩ : S62)] : List (S62))) (inner := [.int .i64 (-71), .int .i64 0]) (ok := fun _ => True) (okp := fun _ => True) ?hr ?hp (fun _ hk => hk) trivial (Below.refl _ _) (Nat.le_refl _) (by simp) ?_; (case hd => rfl); (case hg => rfl); (case hr => first | (go_simp; done) | (go_simp; rfl)); (case hp => exact (Reps.c2 (show Kd.M k62 _ _ _ (⟨(-71), 0⟩ : S62) [.int .i64 (-71), .int .i64 0] from (k62_mkM _ _ _ (⟨(-71), 0⟩ : S62) )) (Reps.none _ _)))
       intro v107 w10 ho11 hb hg_ hnew_
       clear hg_ hnew_
       (first | rw [← Ny106.out] at ho11 | (simp only [Int.reduceToNat] at ho11; rw [← Ny106.out] at ho11))
       have HO108 := Aside0.mk (Kd.R_lower (Kd.R_new' ho11 (Kd.R_lt (rl_ HO105))) (below_size (bl_ HB)))
       replace HO105 := Aside0.mk (Kd.R_elder' (rl_ HO105) (Kd.R_base ho11) hb)
       replace BK101 := bb_ BK101 hb
       replace BK102 := bb_ BK102 hb
       replace HB := hs_ HB hb
       clear hb ho11
       refine hK.out _ _ ⟨(blk_cell BK101.out 0).trans rfl, (blk_cell BK101.out 1).trans rfl⟩ (fun hHeld => ?_)
       clear hK K
       refine norm_ (a' := ?_) ?_ ?_
       rotate_left
       ·show Act.put _ (some 7) _ = _
        simp only [Act.put, List.setIfInBounds_toArray, List.set_cons_zero, List.set_cons_succ, i64_w, i32_w]
        rfl
       exact norm_ (by simp only [putAll, Act.put, List.setIfInBounds_toArray, List.set_cons_zero, List.set_cons_succ]) (hCont (v104, v107) _ ⟨hHeld, (by (with_reducible repeat (first | apply Kd.R_alloc | apply Kd.R_drewN | apply Kd.R_drew)); exact Kd.R_mono HO105.out (fun _ hk => hk.2)), (by (with_reducible repeat (first | apply Kd.R_alloc | apply Kd.R_drewN | apply Kd.R_drew)); exact Kd.R_mono HO108.out (fun _ hk => hk.2)), (pl_ BK101), (pl_ BK102), (bl_ HB)⟩)
      ·skip
       refine Kd.R_lit_step k62 _ 62 ?hg (N := 7) ?hd (xs := ([(⟨(-71), 0⟩ : S62)] : List (S62))) (inner := [.int .i64 (-71), .int .i64 0]) (ok := fun _ => True) (okp := fun _ => True) ?hr ?hp (fun _ hk => hk) trivial (Below.refl _ _) (Nat.le_refl _) (by simp) ?_; (case hd => rfl); (case hg => rfl); (case hr => first | (go_simp; done) | (go_simp; rfl)); (case hp => exact (Reps.c2 (show Kd.M k62 _ _ _ (⟨(-71), 0⟩ : S62) [.int .i64 (-71), .int .i64 0] from (k62_mkM _ _ _ (⟨(-71), 0⟩ : S62) )) (Reps.none _ _)))
       intro v107 w9 ho10 hb hg_ hnew_
       clear hg_ hnew_
       (first | rw [← Ny106.out] at ho10 | (simp only [Int.reduceToNat] at ho10; rw [← Ny106.out] at ho10))
       have HO108 := Aside0.mk (Kd.R_lower ho10 (below_size (bl_ HB)))
       replace BK101 := bb_ BK101 hb
       replace BK102 := bb_ BK102 hb
       replace HB := hs_ HB hb
       clear hb ho10
       refine hK.out _ _ ⟨(blk_cell BK101.out 0).trans rfl, (blk_cell BK101.out 1).trans rfl⟩ (fun hHeld => ?_)
       clear hK K
       refine norm_ (a' := ?_) ?_ ?_
       rotate_left
       ·show Act.put _ (some 7) _ = _
        simp only [Act.put, List.setIfInBounds_toArray, List.set_cons_zero, List.set_cons_succ, i64_w, i32_w]
        rfl
       refine one_ (i := 2) (N := some 5) #[true, true, true, true, true, false, true, true, true, false, false, false] rfl rfl (one_of HT_.out (by kernel_rfl)) (by decide) (fun K hK => ?_)
       refine Kd.R_append_rows_step k62 (w0 := w) w.heap.size (by rfl) (.const (.slice none 0 0)) (.tmp 4) 41 62 (.agg #[(.int .i64 0), (.int .i64 0)]) 16 rfl Try.underlying41 info62 rfl (by decide) (by omega) (.slice none 0 0) ([] : List (S62)) l0_1 _ _ _ (fun k_ => some k_ ≠ (v107 : Value).ownBlock) (fun _ => False) rfl rfl ?aO ?aR (fun _ _ h => h) (fun _ h => h.elim) ?aF ?aB ?aS ?aL ?_
       (case aR => repeat (first | exact (Kd.C_below HR0_1.out HB.out) | (with_reducible refine Kd.C_alloc ?_ _) | (with_reducible refine Kd.C_drewN ?_ _) | (with_reducible refine Kd.C_drew ?_)))
       (case aB => exact (bl_ HB))
       (case aF => exact (fun k_ hk => Kd.fresh' (Kd.R_lt (rl_ HO108)) k_ hk))
       (case aO => exact ((Kd.R_nil _ _ _ _ (fun k_ => some k_ ≠ (v107 : Value).ownBlock))))
       (case aS => exact (below_size (bl_ HB)))
       (case aL => have := LMc2.out; omega)
       intro v104 w11 ho hb hg hat
       rw [← Ny103.out] at ho
       have HO105 := Aside0.mk (ho)
       replace BK101 := Aside0.mk (blk_grown (g := gb101) (o := .cells #[.int .i64 a0_0, .slice A0_1 l0_1.length c0_1] 43 (0, 0)) (pl_ BK101) hg (by simp [Value.ownBlock]))
       replace BK102 := Aside0.mk (blk_grown (g := gb102) (o := .cells #[.int .i64 0, .slice none 0 0] 43 (0, 0)) (pl_ BK102) hg (by simp [Value.ownBlock]))
       replace HO108 := Aside0.mk (Kd.R_after (Kd.R_apart_nil (rl_ HO108)) hg hat)
       replace HB := Aside0.mk (hb)
       clear ho hb hg hat
       refine hK.out _ _ ⟨(blk_cell BK101.out 0).trans rfl, (blk_cell BK101.out 1).trans rfl⟩ (fun hHeld => ?_)
       clear hK K
       refine norm_ (a' := ?_) ?_ ?_
       rotate_left
       ·show Act.put _ (some 5) _ = _
        simp only [Act.put, List.setIfInBounds_toArray, List.set_cons_zero, List.set_cons_succ, i64_w, i32_w]
        rfl
       exact norm_ (by simp only [putAll, Act.put, List.setIfInBounds_toArray, List.set_cons_zero, List.set_cons_succ]) (hCont (v104, v107) _ ⟨hHeld, (rl_ HO105), (by (with_reducible repeat (first | apply Kd.R_alloc | apply Kd.R_drewN | apply Kd.R_drew)); exact Kd.R_mono HO108.out (fun _ hk => hk.2)), (pl_ BK101), (pl_ BK102), (bl_ HB)⟩)
     rintro ⟨v104, v107⟩ w12 ⟨hS_, h0_, h1_, h2_, h3_, h4_⟩
     have n0_ : Aside0 (Kd.R k62 62 w12 w.heap.size (fun k_ => some k_ ≠ (v107 : Value).ownBlock) v104 y103) := ⟨h0_⟩
     have n1_ : Aside0 (Kd.R k62 62 w12 w.heap.size (fun k_ => some k_ ≠ (v104 : Value).ownBlock) v107 y106) := ⟨h1_⟩
     have n2_ : Aside0 (w12.heap[gb101]? = some (.cells #[.int .i64 a0_0, .slice A0_1 l0_1.length c0_1] 43 (0, 0))) := ⟨h2_⟩
     have n3_ : Aside0 (w12.heap[gb102]? = some (.cells #[.int .i64 0, .slice none 0 0] 43 (0, 0))) := ⟨h3_⟩
     have n4_ : Aside0 (Below w.heap.size w w12) := ⟨h4_⟩
     clear BK101 BK102 HB h0_ h1_ h2_ h3_ h4_
     have HO105 := n0_
     have HO108 := n1_
     have BK101 := n2_
     have BK102 := n3_
     have HB := n4_
     clear n0_ n1_ n2_ n3_ n4_
     have hHeld : w12.cell? ⟨gb101, 0, none⟩ = some (.int .i64 a0_0) ∧ w12.cell? ⟨gb101, 1, none⟩ = some (.slice A0_1 l0_1.length c0_1) := hS_
     obtain ⟨Ao14, co14, eo14⟩ := Kd.R_slice HO108.out
     (first | subst eo14 | (injection eo14 with f1_ f2_ f3_; have f4_ := f1_.symm; have f5_ := f3_.symm; clear f1_ f2_ f3_; subst f4_; subst f5_))
     refine norm_ (a' := ?_) ?_ ?_
     rotate_left
     ·simp only [putAll, Act.put, List.setIfInBounds_toArray, List.set_cons_zero, List.set_cons_succ]
      rfl
     refine one_ (i := 5) (N := some 8) #[true, true, true, true, true, true, true, true, true, false, false, false] rfl rfl (one_of HT_.out (by kernel_rfl)) (by decide) (fun K hK => ?_)
     refine Kd.R_append_rows_step k62 (w0 := w) w.heap.size (by rfl) (.tmp 5) (.tmp 7) 41 62 (.agg #[(.int .i64 0), (.int .i64 0)]) 16 rfl Try.underlying41 info62 rfl (by decide) (by omega) v104 y103 y106 _ _ _ (fun k_ => some k_ ≠ (.slice Ao14 y106.length co14 : Value).ownBlock) (fun _ => False) rfl rfl ?aO ?aR (fun _ _ h => h) (fun _ h => h.elim) ?aF ?aB ?aS ?aL ?_
     (case aR => repeat (first | exact (Kd.R_reads' HO108.out).2.2 | (with_reducible refine Kd.C_alloc ?_ _) | (with_reducible refine Kd.C_drewN ?_ _) | (with_reducible refine Kd.C_drew ?_)))
     (case aB => exact (bl_ HB))
     (case aF => exact (fun k_ hk => Kd.fresh' (Kd.R_lt (rl_ HO108)) k_ hk))
     (case aO => exact (rl_ HO105))
     (case aS => exact (below_size (bl_ HB)))
     (case aL => have := LMc3.out; omega)
     intro v110 w13 ho hb hg hat
     rw [← Ny109.out] at ho
     have HO111 := Aside0.mk (ho)
     replace BK101 := Aside0.mk (blk_grown (g := gb101) (o := .cells #[.int .i64 a0_0, .slice A0_1 l0_1.length c0_1] 43 (0, 0)) (pl_ BK101) hg (Kd.R_ne HO105.out BK101.out (by decide)))
     replace BK102 := Aside0.mk (blk_grown (g := gb102) (o := .cells #[.int .i64 0, .slice none 0 0] 43 (0, 0)) (pl_ BK102) hg (Kd.R_ne HO105.out BK102.out (by decide)))
     replace HO108 := Aside0.mk (Kd.R_after (ok := (fun _ => True)) (by (with_reducible repeat (first | apply Kd.R_alloc | apply Kd.R_drewN | apply Kd.R_drew)); exact Kd.R_mono HO108.out (fun _ hk => ⟨trivial, hk⟩)) hg hat)
     replace HB := Aside0.mk (hb)
     clear HO105 ho hb hg hat
     obtain ⟨Ao16, co16, eo16⟩ := Kd.R_slice HO111.out
     (first | subst eo16 | (injection eo16 with f1_ f2_ f3_; have f4_ := f1_.symm; have f5_ := f3_.symm; clear f1_ f2_ f3_; subst f4_; subst f5_))
     have q15 : ((l0_1.length : Int) : Int) ≤ ((y109.length : Int) : Int) := of_decide_eq_true (by first | (with_reducible assumption) | assumption)
     obtain ⟨i015, hi015, _, hsz15, _⟩ := info_parts info62
     have hroom15 : y109.length ≤ co16 := (Kd.R_reads' HO111.out).2.1
     have hC15 : Kd.C k62 _ Ao16 y109.length y109 := (Kd.R_reads' HO111.out).2.2
     have hcut15 := cut_to (P := Try.prog) 41 62 .i64 Try.underlying41 hi015 Ao16 y109.length co16 (l0_1.length : Int) (of_decide_eq_true (by first | (with_reducible assumption) | assumption)) q15 hroom15
     have hr15 := Kd.C_take (m := ((l0_1.length : Int) : Int).toNat) hC15 (by omega)
     have hy15 : y112.length = ((l0_1.length : Int) : Int).toNat := (by rw [Ny112.out, List.length_take]; omega)
     rw [← Ny112.out] at hr15
     rw [← hy15] at hcut15
     have HR115 := Aside0.mk hr15
     have HC115 := Aside0.mk (show y112.length ≤ co16 from by omega)
     clear hr15 hC15 hroom15 hi015 hsz15
     have KY15 := Aside0.mk hy15
     clear hy15
     have KL15 := Aside0.mk (show ((l0_1.length : Int) : Int).toNat ≤ y109.length from by omega)
     replace q15 := eq_true q15
     refine hK.out _ _ ⟨(blk_cell BK101.out 0).trans rfl, (blk_cell BK101.out 1).trans rfl⟩ (fun hHeld => ?_)
     clear hK K
     refine norm_ (a' := ?_) ?_ ?_
     rotate_left
     ·show Act.put _ (some 8) _ = _
      simp only [Act.put, List.setIfInBounds_toArray, List.set_cons_zero, List.set_cons_succ, i64_w, i32_w]
      rfl
     refine pure_ (i := 9) (N := some 12) (v := ?_) (a' := ?_) #[true, true, true, true, true, true, true, true, true, true, false, false] rfl rfl (any_of HT_.out (by kernel_rfl)) (fun _ _ _ h => h) (Or.inl ⟨by rfl, ?_⟩) ?_ ?_
     rotate_left
     ·intro w'
      go_simp
      with_reducible rfl
     rotate_left
     ·simp only [Act.put, List.setIfInBounds_toArray, List.set_cons_zero, List.set_cons_succ, i64_w, i32_w]
      rfl
     refine pure_ (i := 10) (N := some 13) (v := ?_) (a' := ?_) #[true, true, true, true, true, true, true, true, true, true, true, false] rfl rfl (any_of HT_.out (by kernel_rfl)) (fun _ _ _ h => h) (Or.inl ⟨by rfl, ?_⟩) ?_ ?_
     rotate_left
     ·intro w'
      go_simp
      with_reducible rfl
     rotate_left
     ·simp only [Act.put, List.setIfInBounds_toArray, List.set_cons_zero, List.set_cons_succ, i64_w, i32_w]
      rfl
     refine last_ (i := 11) (N := none) #[true, true, true, true, true, true, true, true, true, true, true, true] rfl rfl (one_of HT_.out (by kernel_rfl)) (by decide) (fun K hK => ?_)
     have hs17 : w13.cell? ⟨gb101, 1, none⟩ = some (.slice A0_1 l0_1.length c0_1) := (blk_cell BK101.out 1).trans rfl
     have hfs17 := blk_frozen BK101.out 1
     have hns17_1 := NB102_101.out
     have hms17_1 := NB101_102.out
     refine skip_ (w1 := ?_) (by rfl) rfl ?_ ?_
     rotate_left
     ·go_simp
      rfl
     refine hK.out _ _ ?_
     clear hK K
     refine done_ (done_of HT_.out (by kernel_rfl)) ?_
     have hnb18 := NB101_102.out
     have hnc18 := NB102_101.out
     have hcz19_0 : w13.cell? ⟨gb101, 0, none⟩ = some (.int .i64 a0_0) := (blk_cell BK101.out 0).trans rfl
     have hcz19_1 : w13.cell? ⟨gb101, 1, none⟩ = some (.slice A0_1 l0_1.length c0_1) := (blk_cell BK101.out 1).trans rfl
     have hfz19_0 := blk_frozen BK101.out 0
     have hfz19_1 := blk_frozen BK101.out 1
     have hcz20_0 : w13.cell? ⟨gb102, 0, none⟩ = some (.int .i64 0) := (blk_cell BK102.out 0).trans rfl
     have hcz20_1 : w13.cell? ⟨gb102, 1, none⟩ = some (.slice none 0 0) := (blk_cell BK102.out 1).trans rfl
     have hfz20_0 := blk_frozen BK102.out 0
     have hfz20_1 := blk_frozen BK102.out 1
     try go_wp2
     refine bodyPost_ret (results_cell_row rfl _ _ gb102 43 #[.int .i64 a0_0, .slice Ao16 y112.length co16] (0, 0) _ rfl (by (with_reducible repeat (first | refine blk_drewN ?_ _ | refine blk_drew ?_ | refine blk_alloc ?_ _)); refine blk_put (cs := #[.int .i64 a0_0, .slice none 0 0]) ?_ 1 _ rfl; (with_reducible repeat (first | refine blk_drewN ?_ _ | refine blk_drew ?_ | refine blk_alloc ?_ _)); refine blk_put (cs := #[.int .i64 0, .slice none 0 0]) ?_ 0 _ rfl; (with_reducible repeat (first | refine blk_drewN ?_ _ | refine blk_drew ?_ | refine blk_alloc ?_ _)); refine blk_far ?_ NB102_101.out _; (with_reducible repeat (first | refine blk_drewN ?_ _ | refine blk_drew ?_ | refine blk_alloc ?_ _)); exact BK102.out) Try.underlying43 rfl (by kernel_rfl)) rfl ?_
     have e1 : y112 = l0_1 := by rw [Ny112.out, Ny109.out, Ny103.out, Ny106.out]; simp
     have e2 : y109 = y112 ++ [⟨-71, 0⟩] := by rw [e1, Ny109.out, Ny103.out, Ny106.out]; simp
     have e3 : y109.length = y112.length + 1 := by rw [e2]; simp
     refine ⟨Ao16, co16, rfl, ?_, (bl_ HB)⟩
     rw [← e3, ← e2]
     (with_reducible repeat (first | apply Kd.R_alloc | apply Kd.R_drewN | apply Kd.R_drew))
     exact Kd.R_mono (Kd.R_far (p := ⟨gb102, 1, none⟩) (Kd.R_far (p := ⟨gb102, 0, none⟩) (Kd.R_far (p := ⟨gb101, 1, none⟩) (Kd.R_types (Kd.R_types HO111.out BK101.out (by decide)) BK102.out (by decide)) (fun _ hk => hk.1.2) (.slice Ao16 y112.length co16)) (fun _ hk => hk.2) (.int .i64 a0_0)) (fun _ hk => hk.2) (.slice Ao16 y112.length co16)) (fun _ hk => trivial)
    ·rw [if_neg c5] at H
     exact absurd H (by simp)
   ·rw [if_neg c4] at H
    exact absurd H (by simp)
  ·rw [if_neg c3] at H
   exact absurd H (by simp)
 ·rw [if_neg c2] at H
  exact absurd H (by simp)
theorem lent_eq {N a : Int} {l b : List S62} (h : telamonlaw1_Lent.f N l = some (a, b)) : a = N ∧ b = l := by
  unfold telamonlaw1_Lent.f at h
  simp only [Option.bind_some, List.nil_append] at h
  repeat' split at h
  all_goals try (cases h; done)
  simp only [Option.some.injEq, Prod.mk.injEq] at h
  obtain ⟨rfl, rfl⟩ := h
  exact ⟨rfl, by simp⟩
theorem lent_R {e : Nat} {w : World} {base : Nat} {ok : Nat → Prop} {A : Option Addr} {l : List S62} {x : S62} {c : Nat} (h : Kd.R k62 e w base ok (.slice A (l.length + 1) c) (l ++ [x])) : Kd.C k62 w A l.length l := by
  obtain ⟨A', c', e1, _, h1⟩ := Kd.R_reads h
  injection e1 with e2 _ _
  subst e2
  have := Kd.C_take (m := l.length) h1 (by simp)
  simpa using this
theorem lent_RX {e : Nat} {w : World} {base : Nat} {ok : Nat → Prop} {A : Option Addr} {l : List S62} {x : S62} {c : Nat} (h : Kd.R k62 e w base ok (.slice A (l.length + 1) c) (l ++ [x])) : Kd.C k62 w A (l ++ [x]).length (l ++ [x]) := by
  obtain ⟨A', c', e1, _, h1⟩ := Kd.R_reads h
  injection e1 with e2 _ _
  subst e2
  exact h1
theorem lent_cap {e : Nat} {w : World} {base : Nat} {ok : Nat → Prop} {A : Option Addr} {l : List S62} {x : S62} {c : Nat} (h : Kd.R k62 e w base ok (.slice A (l.length + 1) c) (l ++ [x])) : l.length + 1 ≤ c := by
  obtain ⟨A', c', e1, h2, _⟩ := Kd.R_reads h
  injection e1 with _ _ e2
  subst e2
  simpa using h2

end Go.Proofs.Ytbopadglafbdjaa.PX
