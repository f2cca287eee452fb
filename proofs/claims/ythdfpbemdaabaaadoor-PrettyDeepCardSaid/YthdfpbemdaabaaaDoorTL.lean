/- The law, walked. -/
import Derived.Test.YthdfpbemdaabaaaDoorTH
set_option linter.unusedVariables false
set_option linter.unusedSimpArgs false
namespace Go.Proofs.YthdfpbemdaabaaaDoor.D
open Go Go.RowKit Go.Proofs.YthdfpbemdaabaaaDoorW.PrintWords Go.Proofs.YthdfpbemdaabaaaDoorW.PrintLast Go.Proofs.YthdfpbemdaabaaaDoorW.PrintMore
set_option maxHeartbeats 16000000 in
set_option maxRecDepth 100000 in
theorem law_calls (a0 a1 : Int) (a2 : Bool) (w : World) : Calls Tryd.prog 3 #[.int .i64 a0, .int .i64 a1, .bool a2] w fun e w' => e = .returned (.bool true) ∧ Below w.heap.size w w' := by
  have HA := Aside0.mk (alive_calls w)
  go_enter Tryd.func3, Tryd.ntmps3
  go_wp2_with fail
  refine HA.out.mono ?_
  rintro e w1 ⟨rfl, hb1⟩
  have HB1 := Aside0.mk hb1
  clear HA hb1
  by_cases c1 : a0 < 1
  · go_wp2
    go_ret
    exact ⟨rfl, HB1.out⟩
  by_cases c2 : a0 > 30
  · go_wp2
    go_ret
    exact ⟨rfl, HB1.out⟩
  by_cases c3 : a1 < 0
  · go_wp2
    go_ret
    exact ⟨rfl, HB1.out⟩
  by_cases c4 : a1 > 40
  · go_wp2
    go_ret
    exact ⟨rfl, HB1.out⟩
  obtain ⟨k, rfl⟩ : ∃ k : Nat, a1 = (k : Int) := ⟨a1.toNat, by omega⟩
  obtain ⟨n, rfl⟩ : ∃ n : Nat, a0 = (n : Int) := ⟨a0.toNat, by omega⟩
  have HK := Aside0.mk (show k ≤ 40 by omega)
  have HN := Aside0.mk (show 1 ≤ n ∧ n ≤ 30 by omega)
  have HV := Aside0.mk (tvar_calls (k : Int) w1)
  go_wp2_with fail
  refine HV.out.mono ?_
  rintro e w2 ⟨rfl, hb2⟩
  have HB2 := Aside0.mk (HB1.out.trans (hb2.mono HB1.out.size))
  clear hb2 HV c1 c2 c3 c4
  have BP := Aside0.mk (blk_new w2 (.cells #[.int .i64 1, .int .i64 (k : Int), .bool false, .string ⟨#[]⟩, .slice none 0 0, .slice none 0 0] 26))
  go_wp2
  go_loopw [9, 10] (fun v u wr => ∃ (i : Nat) (A : Option Addr) (m c : Nat), v = .string (sB a2 i) ∧ u = .int .i64 (i : Int) ∧ Aside0 (i ≤ n) ∧ Aside0 (wr.heap[w2.heap.size]? = some (.cells #[.int .i64 (lt a2 k i).f, .int .i64 (lt a2 k i).n, .bool (lt a2 k i).h, .string ⟨#[]⟩, .slice none 0 0, .slice A m c] 26 (0, 0))) ∧ Aside0 (Tf w2.heap.size wr (lt a2 k i) (.slice none 0 0) (.slice A m c)) ∧ Aside0 (Below w.heap.size w wr))
    (fun _ u _ => 100 - (intOf u).toNat)
  case atStart => exact ⟨0, none, 0, 0, rfl, rfl, ⟨Nat.zero_le _⟩, BP, ⟨fun _ _ => ⟨rfl, rfl⟩⟩, ⟨HB2.out.alloc HB2.out.size _⟩⟩
  case round =>
    clear BP
    obtain ⟨i, A, m, c, rfl, rfl, HI, BK, HT, HB⟩ := hrel
    by_cases hia : (i : Int) < (n : Int)
    · have HS := Aside0.mk (tset_calls wr.drew)
      have BKd := Aside0.mk (blk_drew BK.out)
      have HBd := Aside0.mk (below_drew HB.out)
      have HTd := Aside0.mk (HT.out.below (below_drew (Below.refl _ _)))
      go_wp2_with fail
      refine start_ (n := 6) (S := fun w' => w'.cell? ⟨w2.heap.size, 0, none⟩ = some (.int .i64 (lt a2 k i).f) ∧ w'.cell? ⟨w2.heap.size, 1, none⟩ = some (.int .i64 (lt a2 k i).n) ∧ w'.cell? ⟨w2.heap.size, 2, none⟩ = some (.bool (lt a2 k i).h) ∧ w'.cell? ⟨w2.heap.size, 3, none⟩ = some (.string ⟨#[]⟩) ∧ w'.cell? ⟨w2.heap.size, 4, none⟩ = some (.slice none 0 0) ∧ w'.cell? ⟨w2.heap.size, 5, none⟩ = some (.slice A m c)) (ds := [5]) #[false, false, false, false, false, false] (by kernel_rfl) rfl rfl ⟨(blk_cell BKd.out 0).trans rfl, (blk_cell BKd.out 1).trans rfl, (blk_cell BKd.out 2).trans rfl, (blk_cell BKd.out 3).trans rfl, (blk_cell BKd.out 4).trans rfl, (blk_cell BKd.out 5).trans rfl⟩ (fun hHeld => ?_)
      refine pure_ (i := 0) (N := some 41) (v := ?_) (a' := ?_) #[true, false, false, false, false, false] rfl rfl (by kernel_rfl) (fun _ _ _ h => h) (Or.inl ⟨by rfl, ?_⟩) ?_ ?_
      rotate_left
      · intro w'
        go_simp
        with_reducible rfl
      rotate_left
      · simp only [Act.put, List.setIfInBounds_toArray, List.set_cons_zero, List.set_cons_succ, i64_w, i32_w]
        rfl
      refine take_ (i := 2) (N := some 43) (v := ?_) (a' := ?_) #[true, false, true, false, false, false] rfl rfl (by kernel_rfl) (fun _ _ _ h => h) (Or.inl ⟨by rfl, ?_⟩) hHeld ?_ ?_
      rotate_left
      · rintro w' ⟨s0, s1, s2, s3, s4, s5⟩
        go_simp
        with_reducible rfl
      rotate_left
      · simp only [Act.put, List.setIfInBounds_toArray, List.set_cons_zero, List.set_cons_succ, i64_w, i32_w]
        rfl
      refine one_ (i := 1) (N := some 42) #[true, true, true, false, false, false] rfl rfl (by kernel_rfl) (by decide) (fun K hK => ?_)
      refine goes_ Tryd.func6 (by kernel_rfl) rfl #[.int .i64 0] (by rfl) rfl rfl (by (try simp only [List.map_toArray, List.map_cons, List.map_nil]); first | done | rfl) ?_
      with_reducible refine (HS.out).mono ?_
      rintro e w4 ⟨b, rfl, hs4, hb4⟩
      refine ⟨_, rfl, ?_⟩
      have BK4 := Aside0.mk (blk_below BKd.out hb4)
      have HB4 := Aside0.mk (HBd.out.trans (hb4.mono HBd.out.size))
      have HT4 := Aside0.mk (HTd.out.below hb4)
      have HS4 := Aside0.mk hs4
      clear hb4 hs4
      refine hK.out _ _ ⟨(blk_cell BK4.out 0).trans rfl, (blk_cell BK4.out 1).trans rfl, (blk_cell BK4.out 2).trans rfl, (blk_cell BK4.out 3).trans rfl, (blk_cell BK4.out 4).trans rfl, (blk_cell BK4.out 5).trans rfl⟩ (fun hHeld => ?_)
      clear hK K
      refine norm_ (a' := ?_) ?_ ?_
      rotate_left
      · show Act.put _ (some 42) _ = _
        simp only [Act.put, List.setIfInBounds_toArray, List.set_cons_zero, List.set_cons_succ, i64_w, i32_w]
        rfl
      refine one_ (i := 3) (N := some 44) #[true, true, true, true, false, false] rfl rfl (by kernel_rfl) (by decide) (fun K hK => ?_)
      refine value_ (w1 := ?_) (v := ?_) (by rfl) rfl ?_ ?_
      rotate_left 2
      · go_simp
        constructor
        · rfl
        · rfl
      have BK5 := Aside0.mk (blk_alloc BK4.out (.cells #[.int .i64 2, .int .i64 0, .bool false, .string ⟨#[]⟩, .slice (some ⟨b, 0, none⟩) 1 1, .slice none 0 0, .int .i64 (lt a2 k i).f, .int .i64 (lt a2 k i).n, .bool (lt a2 k i).h, .string ⟨#[]⟩, .slice none 0 0, .slice A m c] 26))
      refine hK.out _ _ ⟨(blk_cell BK5.out 0).trans rfl, (blk_cell BK5.out 1).trans rfl, (blk_cell BK5.out 2).trans rfl, (blk_cell BK5.out 3).trans rfl, (blk_cell BK5.out 4).trans rfl, (blk_cell BK5.out 5).trans rfl⟩ (fun hHeld => ?_)
      clear hK K
      refine norm_ (a' := ?_) ?_ ?_
      rotate_left
      · show Act.put _ (some 44) _ = _
        simp only [Act.put, List.setIfInBounds_toArray, List.set_cons_zero, List.set_cons_succ, i64_w, i32_w]
        rfl
      refine pure_ (i := 4) (N := some 45) (v := ?_) (a' := ?_) #[true, true, true, true, true, false] rfl rfl (by kernel_rfl) (fun _ _ _ h => h) (Or.inl ⟨by rfl, ?_⟩) ?_ ?_
      rotate_left
      · intro w'
        go_simp
        with_reducible rfl
      rotate_left
      · simp only [Act.put, List.setIfInBounds_toArray, List.set_cons_zero, List.set_cons_succ, i64_w, i32_w]
        rfl
      have f0 := blk_frozen BK5.out 0
      have f1 := blk_frozen BK5.out 1
      have f2 := blk_frozen BK5.out 2
      have f3 := blk_frozen BK5.out 3
      have f4 := blk_frozen BK5.out 4
      have f5 := blk_frozen BK5.out 5
      obtain ⟨s0, s1, s2, s3, s4, s5⟩ := hHeld
      have HB5 := Aside0.mk (HB4.out.alloc HB4.out.size (.cells #[.int .i64 2, .int .i64 0, .bool false, .string ⟨#[]⟩, .slice (some ⟨b, 0, none⟩) 1 1, .slice none 0 0, .int .i64 (lt a2 k i).f, .int .i64 (lt a2 k i).n, .bool (lt a2 k i).h, .string ⟨#[]⟩, .slice none 0 0, .slice A m c] 26))
      have HT5 := Aside0.mk (Tf.over (h := a2) HT4.out HS4.out (fun e => by subst e; have := BK4.out.symm.trans HS4.out; simp at this) (blk_lt BK4.out))
      clear HBd HTd BKd HS HB4 BK4 HT4 HS4
      generalize (w4.alloc (.cells #[.int .i64 2, .int .i64 0, .bool false, .string ⟨#[]⟩, .slice (some ⟨b, 0, none⟩) 1 1, .slice none 0 0, .int .i64 (lt a2 k i).f, .int .i64 (lt a2 k i).n, .bool (lt a2 k i).h, .string ⟨#[]⟩, .slice none 0 0, .slice A m c] 26)) = w5 at *
      generalize w4.heap.size = b8 at *
      refine last_ (i := 5) (N := none) #[true, true, true, true, true, true] rfl rfl (by kernel_rfl) (by decide) (fun K hK => ?_)
      refine skip_ (w1 := ?_) (by rfl) rfl ?_ ?_
      rotate_left
      · go_simp
        rfl
      refine hK.out _ _ ?_
      clear hK K
      refine done_ (by kernel_rfl) ?_
      have BK6 := Aside0.mk (show ((((((w5.setCell ⟨w2.heap.size, 0, none⟩ (.int .i64 4)).setCell ⟨w2.heap.size, 1, none⟩ (.int .i64 0)).setCell ⟨w2.heap.size, 2, none⟩ (.bool a2)).setCell ⟨w2.heap.size, 3, none⟩ (.string ⟨#[]⟩)).setCell ⟨w2.heap.size, 4, none⟩ (.slice none 0 0)).setCell ⟨w2.heap.size, 5, none⟩ (.slice (some ⟨b8, 0, none⟩) 2 2)).heap[w2.heap.size]? = some (.cells #[.int .i64 4, .int .i64 0, .bool a2, .string ⟨#[]⟩, .slice none 0 0, .slice (some ⟨b8, 0, none⟩) 2 2] 26 (0, 0)) from blk_put (blk_put (blk_put (blk_put (blk_put (blk_put BK5.out 0 _ rfl) 1 _ rfl) 2 _ rfl) 3 _ rfl) 4 _ rfl) 5 _ rfl)
      have HT6 := Aside0.mk ((((((HT5.out.put 0 (.int .i64 4)).put 1 (.int .i64 0)).put 2 (.bool a2)).put 3 (.string ⟨#[]⟩)).put 4 (.slice none 0 0)).put 5 (.slice (some ⟨b8, 0, none⟩) 2 2))
      have HB6 := Aside0.mk ((((((HB5.out.setCell (p := ⟨w2.heap.size, 0, none⟩) HB2.out.size (.int .i64 4)).setCell (p := ⟨w2.heap.size, 1, none⟩) HB2.out.size (.int .i64 0)).setCell (p := ⟨w2.heap.size, 2, none⟩) HB2.out.size (.bool a2)).setCell (p := ⟨w2.heap.size, 3, none⟩) HB2.out.size (.string ⟨#[]⟩)).setCell (p := ⟨w2.heap.size, 4, none⟩) HB2.out.size (.slice none 0 0)).setCell (p := ⟨w2.heap.size, 5, none⟩) HB2.out.size (.slice (some ⟨b8, 0, none⟩) 2 2))
      clear BK5 HT5 HB5 f0 f1 f2 f3 f4 f5 s0 s1 s2 s3 s4 s5
      generalize ((((((w5.setCell ⟨w2.heap.size, 0, none⟩ (.int .i64 4)).setCell ⟨w2.heap.size, 1, none⟩ (.int .i64 0)).setCell ⟨w2.heap.size, 2, none⟩ (.bool a2)).setCell ⟨w2.heap.size, 3, none⟩ (.string ⟨#[]⟩)).setCell ⟨w2.heap.size, 4, none⟩ (.slice none 0 0)).setCell ⟨w2.heap.size, 5, none⟩ (.slice (some ⟨b8, 0, none⟩) 2 2)) = w6 at *
      have HD := Aside0.mk (digits_calls i (by have := HI.out; have := HN.out; omega) w6)
      have HW := Aside0.mk (show wrap64 ((i : Int) + 1) = (i : Int) + 1 by unfold wrap64; have := HI.out; have := HN.out; omega)
      have HZ := Aside0.mk (show (sB a2 i).size ≤ 600 ∧ (dg i).size ≤ 2 from ⟨by have := HI.out; have := HN.out; have := sB_size a2 i (by omega); omega, dg_le i (by have := HI.out; have := HN.out; omega)⟩)
      cases a2
      · have z1 : (9223372036854775807 < (sB false i).size + 3) = False := eq_false (by have := HZ.out.1; omega)
        have z2 : (9223372036854775807 < (sB false i).size + 3 + (dg i).size) = False := eq_false (by have := HZ.out.1; have := HZ.out.2; omega)
        have z3 : (9223372036854775807 < (sB false i).size + 3 + (dg i).size + 13) = False := eq_false (by have := HZ.out.1; have := HZ.out.2; omega)
        go_wp2_with fail
        refine HD.out.mono ?_
        rintro e w7 ⟨rfl, rfl⟩
        go_wp2
        refine ⟨⟨i + 1, some ⟨b8, 0, none⟩, 2, 2, rfl, by push_cast; rfl, ⟨by have := hia; omega⟩, BK6, HT6, HB6⟩, ?_⟩
        have := HI.out
        have := HN.out
        simp [intOf]
        omega
      · have z1 : (9223372036854775807 < (sB true i).size + 3) = False := eq_false (by have := HZ.out.1; omega)
        have z2 : (9223372036854775807 < (sB true i).size + 3 + (dg i).size) = False := eq_false (by have := HZ.out.1; have := HZ.out.2; omega)
        have z3 : (9223372036854775807 < (sB true i).size + 3 + (dg i).size + 13) = False := eq_false (by have := HZ.out.1; have := HZ.out.2; omega)
        go_wp2_with fail
        refine HD.out.mono ?_
        rintro e w7 ⟨rfl, rfl⟩
        go_wp2
        refine ⟨⟨i + 1, some ⟨b8, 0, none⟩, 2, 2, rfl, by push_cast; rfl, ⟨by have := hia; omega⟩, BK6, HT6, HB6⟩, ?_⟩
        have := HI.out
        have := HN.out
        simp [intOf]
        omega
    · obtain rfl : i = n := by have := HI.out; omega
      have c0 := (blk_cell BK.out 0).trans (rfl : _ = some (Value.int .i64 (lt a2 k i).f))
      have c1 := (blk_cell BK.out 1).trans (rfl : _ = some (Value.int .i64 (lt a2 k i).n))
      have c2 := (blk_cell BK.out 2).trans (rfl : _ = some (Value.bool (lt a2 k i).h))
      have c3 := (blk_cell BK.out 3).trans (rfl : _ = some (Value.string ⟨#[]⟩))
      have c4 := (blk_cell BK.out 4).trans (rfl : _ = some (Value.slice none 0 0))
      have c5 := (blk_cell BK.out 5).trans (rfl : _ = some (Value.slice A m c))
      have HX := Aside0.mk (show Calls Tryd.prog 8 #[.int .i64 0, .int .i64 ((k : Int) - (i : Int))] wr fun e w' => e = .returned (.int .i64 ((k - i : Nat) : Int)) ∧ w' = wr by
        have := max_calls 0 ((k : Int) - (i : Int)) wr
        rwa [show (if (0 : Int) < (k : Int) - (i : Int) then (k : Int) - (i : Int) else 0) = ((k - i : Nat) : Int) by split <;> omega] at this)
      have HD := Aside0.mk (digits_calls (k - i) (by have := HK.out; omega) wr)
      have hw := (show wrap64 ((k : Int) - (i : Int)) = (k : Int) - (i : Int) by unfold wrap64; have := HK.out; have := HN.out; omega)
      have z0 := dg_le (k - i) (by have := HK.out; omega)
      have z1 : (9223372036854775807 < 1 + (dg (k - i)).size) = False := eq_false (by omega)
      have HP := Aside0.mk (show Calls Tryd.prog 9 #[.agg #[.int .i64 (lt a2 k i).f, .int .i64 (lt a2 k i).n, .bool (lt a2 k i).h, .string ⟨#[]⟩, .slice none 0 0, .slice A m c]] wr _ from pterm_lt a2 k i (by have := HK.out; omega) (by have := HN.out; omega) wr _ _ (HT.out wr (fun _ _ _ => rfl)))
      have HZ := Aside0.mk (show (sB a2 i).size ≤ 600 by have := HN.out; have := sB_size a2 i (by omega); omega)
      by_cases hki : (k : Int) < (i : Int)
      · have HD2 := Aside0.mk (show Calls Tryd.prog 7 #[.int .i64 ((i : Int) - 1 - (k : Int))] wr fun e w' => e = .returned (.string (dg (i - 1 - k))) ∧ w' = wr by
          have := digits_calls (i - 1 - k) (by have := HN.out; omega) wr
          rwa [show ((i - 1 - k : Nat) : Int) = (i : Int) - 1 - (k : Int) by omega] at this)
        have hw2 := (show wrap64 ((i : Int) - 1) = (i : Int) - 1 by unfold wrap64; have := HN.out; omega)
        have hw3 := (show wrap64 ((i : Int) - 1 - (k : Int)) = (i : Int) - 1 - (k : Int) by unfold wrap64; have := HK.out; have := HN.out; omega)
        have z2 := dg_le (i - 1 - k) (by have := HN.out; omega)
        have z3 : (9223372036854775807 < 1 + (dg (i - 1 - k)).size) = False := eq_false (by omega)
        have z4 : (9223372036854775807 < (sB a2 i).size + (1 + (dg (i - 1 - k)).size)) = False := eq_false (by have := HZ.out; omega)
        have hv : vB k i = ⟨#[120]⟩ ++ dg (i - 1 - k) := by unfold vB; rw [if_pos (by omega)]
        rw [hv] at HP
        clear z0 z2 hv
        go_wp2_with fail
        refine HX.out.mono ?_
        rintro e w7 ⟨rfl, rfl⟩
        go_wp2_with fail
        refine HD.out.mono ?_
        rintro e w8 ⟨rfl, rfl⟩
        go_wp2_with fail
        refine HD2.out.mono ?_
        rintro e w9 ⟨rfl, rfl⟩
        go_wp2_with fail
        refine HP.out.mono ?_
        rintro e w10 ⟨rfl, hb10⟩
        have HB10 := Aside0.mk (HB.out.trans (hb10.mono HB.out.size))
        clear hb10
        go_wp2
        go_ret
        exact ⟨rfl, HB10.out⟩
      · have z4 : (9223372036854775807 < (sB a2 i).size + (1 + (dg (k - i)).size)) = False := eq_false (by have := HZ.out; omega)
        have hv : vB k i = ⟨#[102]⟩ ++ dg (k - i) := by unfold vB; rw [if_neg (by omega)]
        rw [hv] at HP
        clear z0 hv
        go_wp2_with fail
        refine HX.out.mono ?_
        rintro e w7 ⟨rfl, rfl⟩
        go_wp2_with fail
        refine HD.out.mono ?_
        rintro e w8 ⟨rfl, rfl⟩
        go_wp2_with fail
        refine HP.out.mono ?_
        rintro e w10 ⟨rfl, hb10⟩
        have HB10 := Aside0.mk (HB.out.trans (hb10.mono HB.out.size))
        clear hb10
        go_wp2
        go_ret
        exact ⟨rfl, HB10.out⟩
end Go.Proofs.YthdfpbemdaabaaaDoor.D
