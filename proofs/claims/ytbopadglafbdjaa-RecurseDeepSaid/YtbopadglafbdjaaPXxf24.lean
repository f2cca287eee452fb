-- by wip/tools/gprint.py of this session over the kit's print; given functions are this session's own text
import Derived.Test.YtbopadglafbdjaaPXx0
import Derived.Test.YtbopadglafbdjaaRO
namespace Go.Proofs.Ytbopadglafbdjaa.PX
open Go.RowKit Go.Proofs.YtbopadglafbdjaaW.PrintWords Go.Proofs.YtbopadglafbdjaaW.PrintLast Go.Proofs.YtbopadglafbdjaaW.PrintMore
attribute [local go_sem] max2_int min2_int max_two min_two max_three min_three max_four min_four   -- for this text's walks alone
set_option linter.unusedVariables false
set_option linter.unusedSimpArgs false

/-! ### recurse_Order: function 24 -/
-- GIVEN
-- IMPORTS Derived.Test.YtbopadglafbdjaaRO
set_option linter.unusedVariables false
set_option linter.unusedSimpArgs false
open Go.Maps
/-- The rounds of the order. -/
def ordL : Nat → Int → List S31 → List Int → Option (List Int × Bool)
  | 0, _, _, _ => none
  | n + 1, a, l, o =>
    if l.length = 0 then some (o, true)
    else match (List.range a.toNat).find? (goodR o l) with
      | none => some ([], false)
      | some k => ordL n a (l.filter fun x => atR x (k : Int) != 2) (o ++ [(k : Int)])
def recurse_Order.f (l0 : List S31) (a1 : Int) : Option (List Int × Bool) :=
  if l0.length ≤ 1000000 then (if 0 < l0.length ∧ (a1 < 1 ∨ a1 > 100) then some ([], false) else ordL (l0.length + 1) a1 l0 []) else none
theorem ord_none {n : Nat} {p : Nat → Bool} (h : ∀ j, j < n → p j = false) : (List.range n).find? p = none := by
  rw [List.find?_eq_none]; intro j hj; have := h j (List.mem_range.1 hj); simp [this]
theorem ord_at {n q : Nat} {p : Nat → Bool} (hq : q < n) (h : ∀ j, j < q → p j = false) (hp : p q = true) : (List.range n).find? p = some q := by
  rw [List.find?_range_eq_some]; exact ⟨hp, List.mem_range.2 hq, fun j hj => by simp [h j hj]⟩
def lenOf : Option Value → Nat
  | some (.slice _ n _) => n
  | _ => 0
def adOf : Value → Addr
  | .pointer (some a) => a
  | _ => ⟨0, 0, none⟩
set_option maxHeartbeats 16000000 in
set_option maxRecDepth 100000 in
theorem recurse_Order.calls (A0 : Option Addr) (c0 : Nat) (l0 : List (S31)) (a1 : Int) (r1 : List Int) (r2 : Bool) (w : World) (hr0 : Kd.C k31 w A0 l0.length l0) (hc0 : l0.length ≤ c0) (h : recurse_Order.f l0 a1 = some (r1, r2)) :
    Calls Try.prog 24 #[.slice A0 l0.length c0, .int .i64 a1] w fun e w' => ∃ v, e = .returned (.tuple #[v, .bool r2]) ∧ Kd.R (Kd.int .i64) 3 w' w.heap.size (fun _ => True) v r1 ∧ Below w.heap.size w w' := by
  unfold recurse_Order.f at h
  split at h
  · next hlen =>
    have HR := Aside0.mk hr0
    have HC := Aside0.mk hc0
    have HLEN := Aside0.mk hlen
    have HF := Aside0.mk h
    clear hr0 hc0 hlen h
    have hmm := @run_makeMap Try.prog
    go_enter Try.func24, Try.ntmps24
    by_cases hbad : 0 < l0.length ∧ (a1 < 1 ∨ a1 > 100)
    · have HF2 := HF.out
      rw [if_pos hbad] at HF2
      obtain ⟨h1_, h2_⟩ := Prod.mk.inj (Option.some.inj HF2)
      subst h1_
      subst h2_
      clear HF HF2
      obtain ⟨hb0, hb1⟩ := hbad
      have hb0i : (l0.length : Int) > 0 := by omega
      clear hb0
      by_cases b1 : a1 < 1
      · go_wp2
        ((try simp only [Exit.inBlock, Exit.then]); refine bodyPost_ret (results_tmp2 (fn := Try.f24) (t := 4) (u := 5) rfl _ _ _) rfl ?_)
        exact ⟨_, rfl, Kd.R_nil _ _ _ _ _, below_alloc (Below.refl _ _) _⟩
      · have b2 : a1 > 100 := by omega
        go_wp2
        ((try simp only [Exit.inBlock, Exit.then]); refine bodyPost_ret (results_tmp2 (fn := Try.f24) (t := 4) (u := 5) rfl _ _ _) rfl ?_)
        exact ⟨_, rfl, Kd.R_nil _ _ _ _ _, below_alloc (Below.refl _ _) _⟩
    · have HF2 := HF.out
      rw [if_neg hbad] at HF2
      have HF3 := Aside0.mk HF2
      have HBAD := Aside0.mk hbad
      clear HF HF2 hbad
      by_cases hz : l0.length = 0
      · have hzi : ¬ (l0.length : Int) > 0 := by omega
        have HF4 := HF3.out
        simp only [ordL, hz, if_true] at HF4
        obtain ⟨h1_, h2_⟩ := Prod.mk.inj (Option.some.inj HF4)
        subst h1_
        subst h2_
        clear HF3 HF4 HBAD
        go_wp2
        go_loopw [6] (fun v wr => v = .slice none 0 0 ∧ Aside0 (wr.heap[w.heap.size]? = some (.cells #[.slice A0 0 c0] 22 (0, 0))) ∧ Aside0 (Below w.heap.size w wr)) (fun _ _ => 0)
        case atStart => exact ⟨rfl, ⟨blk_alloc (blk_alloc (blk_new w _) _) _⟩, ⟨below_alloc (below_alloc (below_alloc (Below.refl _ _) _) _) _⟩⟩
        case round =>
          obtain ⟨rfl, HX, HB⟩ := hrel
          have hcb : wr.cell? ⟨w.heap.size, 0, none⟩ = some (.slice A0 0 c0) := (blk_cell HX.out 0).trans rfl
          go_wp2
          ((try simp only [Exit.inBlock, Exit.then]); refine bodyPost_ret (results_tmp2 (fn := Try.f24) (t := 4) (u := 5) rfl _ _ _) rfl ?_)
          exact ⟨_, rfl, Kd.R_nil _ _ _ _ _, HB.out⟩
      · have hb0 : (l0.length : Int) > 0 := by omega
        have hna : ¬ a1 < 1 := by have := HBAD.out; omega
        have hnb : ¬ a1 > 100 := by have := HBAD.out; omega
        have HNA := Aside0.mk hna
        have HNB := Aside0.mk hnb
        clear HBAD
        go_wp2
        have HS := Aside0.mk (show ∃ rows, OSt w l0 (((w.alloc (.cells #[.slice A0 l0.length c0] 22)).alloc (.map #[] 0)).alloc (.cells #[.map (some (w.heap.size + 1))] 89)) A0 c0 rows (.slice none 0 0) [] [] 0 (fun _ => True) by
          obtain ⟨rows, h1, h2⟩ := row_in HR.out
          refine ⟨rows, blk_alloc (blk_alloc (blk_new w _) _) _, ?_, ?_, h1, HC.out, Or.inl h2, Kd.R_nil _ _ _ _ _, below_alloc (below_alloc (below_alloc (Below.refl _ _) _) _) _⟩
          · have := blk_new ((w.alloc (.cells #[.slice A0 l0.length c0] 22)).alloc (.map #[] 0)) (.cells #[.map (some (w.heap.size + 1))] 89)
            simpa using this
          · have := World.ownsMap_made (H := Unit) (w.alloc (.cells #[.slice A0 l0.length c0] 22)) Try.prog 3 (plainElem Try.prog 3)
            have h3 := World.ownsMap.alloc this (.cells #[.map (some (w.heap.size + 1))] 89)
            simpa [tD] using h3)
        go_loopw [6] (fun v wr => ∃ (l : List S31) (A : Option Addr) (c : Nat) (rows : List (List Value)) (o : List Int) (m N : Nat), Aside0 (OSt w l wr A c rows v o o.reverse m (fun _ => True)) ∧ Aside0 (o.length + l.length ≤ l0.length) ∧ Aside0 (m ≤ o.length) ∧ Aside0 (l.length < N) ∧ Aside0 (ordL N a1 l o = some (r1, r2)))
          (fun _ wr => lenOf (wr.cell? ⟨w.heap.size, 0, none⟩))
        case atStart =>
          obtain ⟨rows, h1⟩ := HS.out
          exact ⟨l0, A0, c0, rows, [], 0, l0.length + 1, ⟨h1⟩, ⟨by simp⟩, ⟨by simp⟩, ⟨by omega⟩, HF3⟩
        case round =>
          clear HS HF3
          obtain ⟨l, A, c, rows, o, m, N, S, HOL, HM, HN, HORD⟩ := hrel
          have hcb : wr.cell? ⟨w.heap.size, 0, none⟩ = some (.slice A l.length c) := (blk_cell S.out.cb 0).trans rfl
          by_cases hl0 : l.length = 0
          · have hl0i : ¬ (l.length : Int) > 0 := by omega
            obtain ⟨M, rfl⟩ : ∃ M, N = M + 1 := ⟨N - 1, by have := HN.out; omega⟩
            have HORD2 := HORD.out
            simp only [ordL, hl0, if_true] at HORD2
            obtain ⟨h1_, h2_⟩ := Prod.mk.inj (Option.some.inj HORD2)
            subst h1_
            subst h2_
            clear HORD2
            go_wp2
            ((try simp only [Exit.inBlock, Exit.then]); refine bodyPost_ret (results_tmp2 (fn := Try.f24) (t := 4) (u := 5) rfl _ _ _) rfl ?_)
            exact ⟨_, rfl, S.out.out, S.out.bel⟩
          · have hl0i : (l.length : Int) > 0 := by omega
            go_wp2
            obtain ⟨w1, hw1⟩ : ∃ x, x = wr := ⟨_, rfl⟩
            subst hw1
            have S1 := Aside0.mk (S.out.alloc (.cells #[.int .i64 0] 3))
            have BK := Aside0.mk (blk_new w1 (.cells #[.int .i64 0] 3))
            have HLW := Aside0.mk (show l.length ≤ 1000000 by have := HLEN.out; have := HOL.out; omega)
            have HWS := Aside0.mk S.out.bel.size
            have HWS2 := Aside0.mk (blk_lt S.out.mx)
            go_loopw [26] (fun v wr => ∃ q : Nat, Aside0 ((q : Int) ≤ a1) ∧ Aside0 (OSt w l wr A c rows u6 o o.reverse m (fun k => k ≠ w1.heap.size)) ∧ Aside0 (wr.heap[w1.heap.size]? = some (.cells #[.int .i64 (q : Int)] 3 (0, 0))) ∧ Aside0 (∀ j, j < q → goodR o l j = false))
              (fun _ wr => (1000 - intOf ((wr.cell? ⟨w1.heap.size, 0, none⟩).getD undef)).toNat)
            case atStart =>
              refine ⟨0, ⟨by omega⟩, ⟨?_⟩, BK, ⟨fun j hj => by omega⟩⟩
              have h1 := S1.out
              refine ⟨h1.cb, h1.mx, h1.mp, h1.row, h1.cap, h1.cs, Kd.R_alloc (Kd.R_mono (Kd.R_elderB S.out.out w1.heap.size (Nat.le_refl _)) (fun k hk => hk.2)) _, h1.bel⟩
            case round =>
              clear S1 BK
              obtain ⟨q, HQ, SI, BK, HGJ⟩ := hrel
              have hkc : wr.cell? ⟨w1.heap.size, 0, none⟩ = some (.int .i64 (q : Int)) := (blk_cell BK.out 0).trans rfl
              by_cases hqa : (q : Int) < a1
              · have HG := Aside0.mk (show Calls Try.prog 66 #[.int .i64 (q : Int), .pointer (some ⟨w.heap.size, 0, none⟩), .pointer (some ⟨w.heap.size + 1 + 1, 0, none⟩)] wr fun e w2 => e = .returned (.bool (goodR o l q)) ∧ Below wr.heap.size wr w2 from good_calls SI.out q (by have := HNB.out; omega) HLW.out)
                go_wp2_with fail
                refine HG.out.mono ?_
                rintro e w2 ⟨rfl, hb2⟩
                have SI2 := Aside0.mk (SI.out.below hb2)
                have BK2 := Aside0.mk (blk_below BK.out hb2)
                have hkc2 : w2.cell? ⟨w1.heap.size, 0, none⟩ = some (.int .i64 (q : Int)) := (blk_cell BK2.out 0).trans rfl
                clear hb2
                cases hg : goodR o l q
                · have hfz2 : w2.frozen? ⟨w1.heap.size, 0, none⟩ = false := blk_frozen BK2.out 0
                  have hw1 : wrap64 ((q : Int) + 1) = (q : Int) + 1 := M.wr _ (by omega) (by have := HNB.out; omega)
                  have HW := Aside0.mk hw1
                  have HGF := Aside0.mk hg
                  clear hw1 hg
                  go_wp2
                  refine ⟨⟨_, _, _, _, _, _, _, _, _, _, _, ⟨q + 1, ⟨by push_cast; omega⟩, ⟨SI2.out.far BK2.out HWS.out (fun k hk => hk) 0 _⟩, ⟨by push_cast; exact blk_put BK2.out 0 _ rfl⟩, ⟨fun j hj => by
                    by_cases e : j = q
                    · subst e; exact HGF.out
                    · exact HGJ.out j (by omega)⟩⟩, by rw [decide_eq_true (show 0 < l.length by omega)]⟩, ?_⟩
                  show (1000 - intOf (((w2.setCell ⟨w1.heap.size, 0, none⟩ (.int .i64 ((q : Int) + 1))).cell? ⟨w1.heap.size, 0, none⟩).getD undef)).toNat < (1000 - intOf ((wr.cell? ⟨w1.heap.size, 0, none⟩).getD undef)).toNat
                  rw [(blk_cell (blk_put BK2.out 0 (.int .i64 ((q : Int) + 1)) rfl) 0 : (w2.setCell ⟨w1.heap.size, 0, none⟩ (.int .i64 ((q : Int) + 1))).cell? ⟨w1.heap.size, 0, none⟩ = _), (blk_cell BK.out 0 : wr.cell? ⟨w1.heap.size, 0, none⟩ = _)]
                  show (1000 - ((q : Int) + 1)).toNat < (1000 - (q : Int)).toNat
                  have := HNB.out
                  omega
                · have hqne : ¬ (q : Int) = a1 := by omega
                  have hmx2 : w2.cell? ⟨w.heap.size + 1 + 1, 0, none⟩ = some (.map (some (w.heap.size + 1))) := (blk_cell SI2.out.mx 0).trans rfl
                  have hkey : keyOf Try.prog 3 (.int .i64 (q : Int)) = some (.int .i64 (q : Int)) := keyOf_int_mk Try.underlying3 (WalkArith.wf_i64 (by have := HNB.out; omega))
                  have hroom : m < maxLen := by have := HM.out; have := HOL.out; have := HLEN.out; unfold maxLen; omega
                  have HGT := Aside0.mk hg
                  clear hg
                  go_upto_region 13 with (first
                    | (at_mapUpdate; refine wpList_mapUpdate_own _ rfl _ _ _ 89 rfl 3 3 law3 Try.underlying89 _ (w.heap.size + 1) m _ rfl SI2.out.mp hroom _ _ _ rfl rfl hkey _ [] (plainElem_int Try.underlying3 (WalkArith.wf_i64 (by omega))) ?_; intro w3 hown3 hgrow3)
                    | fail)
                  have S3 := Aside0.mk (SI2.out.mapped hown3 hgrow3)
                  have BK3 := Aside0.mk (blk_grown BK2.out hgrow3 (by have := HWS2.out; simp; omega))
                  have hkc3 : w3.cell? ⟨w1.heap.size, 0, none⟩ = some (.int .i64 (q : Int)) := (blk_cell BK3.out 0).trans rfl
                  have HLE := Aside0.mk (show (o.length + 1) * 8 ≤ 140737488355328 by have := HOL.out; have := HLEN.out; omega)
                  clear hown3 hgrow3 hmx2 hkc2
                  go_upto_region 14 with ((with_reducible refine gate_builtin (b := .append) (xs := #[.tmp 42, .tmp 44]) rfl ?_); at_builtin; refine Kd.R_append (Kd.int .i64) (w0 := w) w.heap.size rfl (.tmp 42) (.tmp 44) 29 3 (.int .i64 0) 8 rfl Try.underlying29 info3 rfl (by decide) (by omega) u6 o (q : Int) [.int .i64 (q : Int)] (fun k => k ≠ w1.heap.size) (fun _ => False) rfl rfl rfl (fun _ hk => hk.elim) (fun k hk => by have := blk_lt BK3.out; omega) S3.out.out S3.out.bel S3.out.bel.size HLE.out ?_; intro v1 w4 hr1 hb4 hg4 hat4)
                  have S4 := Aside0.mk (S3.out.appended hr1 hb4 hg4)
                  have BK4 := Aside0.mk (blk_grown BK3.out hg4 (Kd.R_away S3.out.out (fun k hk => hk)))
                  have hcb4 : w4.cell? ⟨w.heap.size, 0, none⟩ = some (.slice A l.length c) := (blk_cell S4.out.cb 0).trans rfl
                  clear hr1 hb4 hg4 hat4 hkc3
                  have K4 := Aside0.mk (kept_rows (keeps69 w1.heap.size (q : Int) (by omega) (by have := HNB.out; omega)) w A c l rows S4.out.row S4.out.cap HLW.out w4 S4.out.bel S4.out.raw BK4.out)
                  go_wp2_with fail
                  refine K4.out.mono ?_
                  rintro e w5 ⟨A5, c5, rows5, rfl, hrow5, hR5, hb5⟩
                  have S6 := Aside0.mk ((S4.out.laid hb5 hrow5 hR5).mono)
                  have hcb5 : w5.cell? ⟨w.heap.size, 0, none⟩ = some (.slice A l.length c) := (blk_cell (S4.out.below hb5).cb 0).trans rfl
                  have hfz5 : w5.frozen? ⟨w.heap.size, 0, none⟩ = false := blk_frozen (S4.out.below hb5).cb 0
                  have HLS := Aside0.mk (good_less HGT.out)
                  obtain ⟨M, rfl⟩ : ∃ M, N = M + 1 := ⟨N - 1, by have := HN.out; omega⟩
                  have HORD2 := Aside0.mk (show ordL M a1 (l.filter fun x => atR x (q : Int) != 2) (o ++ [(q : Int)]) = some (r1, r2) by
                    have h := HORD.out
                    rw [ordL, if_neg hl0, ord_at (by omega) HGJ.out HGT.out] at h
                    exact h)
                  clear hrow5 hR5 hb5 hcb4 HORD
                  generalize hl' : (l.filter fun x => atR x (q : Int) != 2) = l' at S6 HLS HORD2 ⊢
                  clear hl'
                  go_wp2
                  refine ⟨⟨l', A5, c5, rows5, o ++ [(q : Int)], m + 1, M, ⟨by rw [List.reverse_append]; exact S6.out⟩, ⟨by have := HLS.out; have := HOL.out; simp; omega⟩, ⟨by have := HM.out; simp; omega⟩, ⟨by have := HLS.out; have := HN.out; omega⟩, HORD2⟩, ?_⟩
                  rw [(blk_cell S6.out.cb 0 : (w5.setCell ⟨w.heap.size, 0, none⟩ (.slice A5 l'.length c5)).cell? ⟨w.heap.size, 0, none⟩ = _), hcb]
                  exact HLS.out
              · have hqe : (q : Int) = a1 := by have := HQ.out; omega
                have hql : ¬ (q : Int) < a1 := by omega
                obtain ⟨M, rfl⟩ : ∃ M, N = M + 1 := ⟨N - 1, by have := HN.out; omega⟩
                have HORD2 := HORD.out
                rw [ordL, if_neg hl0, ord_none (fun j hj => HGJ.out j (by omega))] at HORD2
                obtain ⟨h1_, h2_⟩ := Prod.mk.inj (Option.some.inj HORD2)
                subst h1_
                subst h2_
                clear HORD2 HORD
                go_wp2
                ((try simp only [Exit.inBlock, Exit.then]); refine bodyPost_ret (results_tmp2 (fn := Try.f24) (t := 4) (u := 5) rfl _ _ _) rfl ?_)
                exact ⟨_, rfl, Kd.R_nil _ _ _ _ _, SI.out.bel⟩
  · cases h

end Go.Proofs.Ytbopadglafbdjaa.PX
