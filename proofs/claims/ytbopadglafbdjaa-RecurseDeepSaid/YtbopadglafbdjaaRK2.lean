/- The same filter, for a row of calls that was made in between; it tells the row that it makes. -/
import Derived.Test.YtbopadglafbdjaaRK
set_option linter.unusedVariables false
set_option linter.unusedSimpArgs false
namespace Go.Proofs.Ytbopadglafbdjaa.PX
open Go Go.RowKit Go.Proofs.YtbopadglafbdjaaW.PrintWords Go.Proofs.YtbopadglafbdjaaW.PrintLast Go.Proofs.YtbopadglafbdjaaW.PrintMore
theorem at_row {w0 w : World} {l : List S31} {rows : List (List Value)} (h : RowOf w0 l rows) {A : Option Addr} (hc : (Kd.raw 2).C w A rows.length rows) (q : Nat) (hq : q < l.length) :
    ∃ ad A0 c0 A1 c1, A = some ad ∧ w.cell? (ad.add (q * 2)) = some (.slice A0 (rd_T31 l (q : Int)).f0.length c0) ∧ w.cell? ⟨(ad.add (q * 2)).block, (ad.add (q * 2)).off + 1, none⟩ = some (.slice A1 (rd_T31 l (q : Int)).f1.length c1) ∧
      (rd_T31 l (q : Int)).f0.length ≤ c0 ∧ k36.C w0 A0 (rd_T31 l (q : Int)).f0.length (rd_T31 l (q : Int)).f0 ∧ (rd_T31 l (q : Int)).f1.length ≤ c1 ∧ (Kd.int .i64).C w0 A1 (rd_T31 l (q : Int)).f1.length (rd_T31 l (q : Int)).f1 := by
  have hl := h.len
  obtain ⟨ad, e, hr⟩ := hc.2.2 (by omega)
  obtain ⟨c, hcl, hcr, hcell⟩ := hr q rows[q] (List.getElem?_eq_getElem (by omega))
  have hc' := hcr.1
  subst hc'
  have e1 : rd_T31 l (q : Int) = l[q] := by simp [rd_T31, List.getD_eq_getElem?_getD, List.getElem?_eq_getElem hq]
  have hK := h.get q (x := rd_T31 l (q : Int)) (c := rows[q]) (by rw [e1]; exact List.getElem?_eq_getElem hq) (List.getElem?_eq_getElem (by omega))
  obtain ⟨A0, c0, A1, c1, ec, l0, g0, l1, g1⟩ := k31_open hK
  refine ⟨ad, A0, c0, A1, c1, e, ?_, ?_, l0, g0, l1, g1⟩
  · exact hcell 0 _ (by rw [ec]; rfl)
  · rw [← add_field _ _ 1 (by omega)]; exact hcell 1 _ (by rw [ec]; rfl)
theorem row_pick {w0 : World} : ∀ (l : List S31) (P : Nat → List Value → Prop), (∀ j x, l[j]? = some x → ∃ c, k31.K w0 x c ∧ P j c) → ∃ rows, RowOf w0 l rows ∧ ∀ j c, rows[j]? = some c → P j c
  | [], P, h => ⟨[], trivial, fun j c hj => by simp at hj⟩
  | x :: l, P, h => by
    obtain ⟨c0, hk, hp⟩ := h 0 x rfl
    obtain ⟨rows, h1, h2⟩ := row_pick l (fun j => P (j + 1)) (fun j y hy => h (j + 1) y (by simpa using hy))
    refine ⟨c0 :: rows, ⟨hk, h1⟩, fun j c hj => ?_⟩
    cases j with
    | zero => simp at hj; subst hj; exact hp
    | succ j => exact h2 j c (by simpa using hj)
/-- A row that came in. -/
theorem row_in {w : World} {A : Option Addr} {l : List S31} (h : Kd.C k31 w A l.length l) : ∃ rows, RowOf w l rows ∧ (Kd.raw 2).C w A rows.length rows := by
  by_cases hp : 0 < l.length
  · obtain ⟨ad, e, hr⟩ := h.2.2 hp
    obtain ⟨rows, h1, h2⟩ := row_pick l (fun j c => c.length = 2 ∧ (Kd.raw 2).K w c c ∧ ∀ i u, c[i]? = some u → w.cell? (ad.add (j * 2 + i)) = some u) (fun j x hx => by
      obtain ⟨c, hcl, hK, hcell⟩ := hr j x hx
      exact ⟨c, hK, hcl, ⟨rfl, hcl, k31.K_one hK⟩, hcell⟩)
    refine ⟨rows, h1, rfl, by rw [h1.len]; exact h.2.1, fun _ => ⟨ad, e, fun j c hc => ?_⟩⟩
    obtain ⟨a1, a2, a3⟩ := h2 j c hc
    exact ⟨c, a1, a2, a3⟩
  · have : l = [] := List.eq_nil_of_length_eq_zero (by omega)
    subst this
    exact ⟨[], trivial, rfl, by simp, fun hp => absurd hp (by simp)⟩
set_option maxHeartbeats 8000000 in
set_option maxRecDepth 100000 in
theorem kept_rows {g B : Nat} {kv : Int} {p : S31 → Bool} (hk : Keeps g B kv p) (w0 : World) (A : Option Addr) (c : Nat) (l : List S31) (rows0 : List (List Value)) (hrow : RowOf w0 l rows0) (hc : l.length ≤ c) (hlen : l.length ≤ 1000000) (w : World) (hb : Below w0.heap.size w0 w) (hr : (Kd.raw 2).C w A rows0.length rows0)
    (hB : w.heap[B]? = some (.cells #[.int .i64 kv] 3 (0, 0))) :
    Calls Try.prog 61 #[.slice A l.length c, .func (.func g) #[] #[.pointer (some ⟨B, 0, none⟩)]] w fun e w' => ∃ A' c' rows, e = .returned (.slice A' (l.filter p).length c') ∧ RowOf w0 (l.filter p) rows ∧ (Kd.raw 2).R 31 w' w.heap.size (fun k => w.heap.size ≤ k) (.slice A' (l.filter p).length c') rows ∧ Below w.heap.size w w' := by
  have HK := Aside0.mk hk
  have HR := Aside0.mk hr
  have HC := Aside0.mk hc
  have HLEN := Aside0.mk hlen
  have HB := Aside0.mk hb
  have HBX := Aside0.mk hB
  have HIN := Aside0.mk hrow
  have hcl : l.length ≤ 9223372036854775807 := by omega
  have hu31 := Try.underlying31
  have eg := hk.enters
  clear hk hr hrow hc hlen hb hB
  go_enter Try.func61, Try.ntmps61
  go_wp2
  go_loopw [5, 10] (fun v i wr => ∃ (q : Nat) (rows : List (List Value)), q ≤ l.length ∧ i = .int .i64 (q : Int) ∧ Aside0 (RowOf w0 ((l.take q).filter p) rows) ∧ Aside0 ((Kd.raw 2).R 31 wr w.heap.size (fun k => w.heap.size ≤ k) v rows) ∧ Aside0 (Below w.heap.size w wr))
    (fun v i _ => l.length - (intOf i).toNat)
  case atStart => exact ⟨0, [], Nat.zero_le _, rfl, ⟨by simp [RowOf]⟩, ⟨Kd.R_nil _ _ _ _ _⟩, ⟨Below.refl _ _⟩⟩
  case round =>
    obtain ⟨q, rows, hq, rfl, HROW, HOUT, HBq⟩ := hrel
    by_cases hlt : q < l.length
    · obtain ⟨ad, A0, c0, A1, c1, rfl, hx0, hx1, hl0, hi0, hl1, hi1⟩ := at_row HIN.out HR.out q hlt
      have HW0 := Aside0.mk (HB.out.trans (HBq.out.mono HB.out.size))
      replace hx0 := (HBq.out.cell (World.block_lt_of_cell? w _ hx0)).trans hx0
      replace hx1 := (HBq.out.cell (World.block_lt_of_cell? w _ hx1)).trans hx1
      have HKX := Aside0.mk (k31_mk w0 (rd_T31 l (q : Int)) hl0 hi0 hl1 hi1)
      have HTK := Aside0.mk (show (l.take (q + 1)).filter p = (l.take q).filter p ++ (if p (rd_T31 l (q : Int)) then [rd_T31 l (q : Int)] else []) by
        rw [List.take_succ_eq_append_getElem hlt, List.filter_append]
        congr 1
        have e : rd_T31 l (q : Int) = l[q] := by simp [rd_T31, List.getD_eq_getElem?_getD, List.getElem?_eq_getElem hlt]
        rw [e]; simp [List.filter_cons])
      generalize hx : rd_T31 l (q : Int) = x at hx0 hx1 hl0 hi0 hl1 hi1 HKX HTK
      clear hx
      have HB2 := Aside0.mk (HBq.out.alloc HBq.out.size (.cells #[.slice A0 x.f0.length c0, .slice A1 x.f1.length c1] 31))
      have HW2 := Aside0.mk (HB.out.trans (HB2.out.mono HB.out.size))
      have HBX2 := Aside0.mk ((HB2.out.block B (blk_lt HBX.out)).trans HBX.out)
      have BX := Aside0.mk (blk_new wr (.cells #[.slice A0 x.f0.length c0, .slice A1 x.f1.length c1] 31))
      have HCALL := Aside0.mk (HK.out.calls x A0 c0 A1 c1 _ (Kd.C_below hi0 HW2.out) hl0 (Kd.C_below hi1 HW2.out) hl1 HBX2.out)
      have HOUT2 := Aside0.mk (Kd.R_alloc HOUT.out (.cells #[.slice A0 x.f0.length c0, .slice A1 x.f1.length c1] 31))
      clear hl0 hi0 hl1 hi1
      go_wp2_with fail
      refine HCALL.out.mono ?_
      rintro e w2 ⟨rfl, hb2⟩
      have HB3 := Aside0.mk (HB2.out.trans (hb2.mono HB2.out.size))
      have BX3 := Aside0.mk ((hb2.block _ (blk_lt BX.out)).trans BX.out)
      have HOUT3 := Aside0.mk (Kd.R_below HOUT2.out hb2)
      clear hb2 hx0 hx1
      generalize hbx : wr.heap.size = bx at BX3 ⊢
      clear hbx
      cases hp : p x
      · have HT := Aside0.mk (show (l.take (q + 1)).filter p = (l.take q).filter p by rw [HTK.out, hp]; simp)
        go_wp2
        go_roundw
        case rel => exact ⟨q + 1, rows, by omega, by go_num, ⟨by rw [HT.out]; exact HROW.out⟩, HOUT3, HB3⟩
        case measure => simp [intOf]; omega
      · have HT := Aside0.mk (show (l.take (q + 1)).filter p = (l.take q).filter p ++ [x] by rw [HTK.out, hp]; simp)
        have hc0 : w2.cell? ⟨bx, 0, none⟩ = some (.slice A0 x.f0.length c0) := (blk_cell BX3.out 0).trans rfl
        have hc1 : w2.cell? ⟨bx, 1, none⟩ = some (.slice A1 x.f1.length c1) := (blk_cell BX3.out 1).trans rfl
        have hlenR := HROW.out.len
        have hle : ((l.take q).filter p).length ≤ 1000000 := Nat.le_trans (List.length_filter_le _ _) (by simp; have := HLEN.out; omega)
        have HLE := Aside0.mk (show (rows.length + 1) * 48 ≤ 140737488355328 by omega)
        clear hlenR hle
        go_upto_region 6 with fail
        go_wp2_with ((with_reducible refine gate_builtin (b := .append) (xs := #[.tmp 17, .tmp 19]) rfl ?_); at_builtin; refine Kd.R_append (Kd.raw 2) (w0 := w) w.heap.size rfl (.tmp 17) (.tmp 19) 22 31 (.agg #[(.slice none 0 0), (.slice none 0 0)]) 48 rfl Try.underlying22 info31 rfl (by decide) (by omega) u5 rows [.slice A0 x.f0.length c0, .slice A1 x.f1.length c1] [.slice A0 x.f0.length c0, .slice A1 x.f1.length c1] (fun k => w.heap.size ≤ k) (fun _ => False) rfl rfl ⟨rfl, rfl, by simp [Value.oneCell']⟩ (fun _ hk => hk.elim) (fun k hk => Nat.le_trans HB3.out.size hk) HOUT3.out HB3.out HB3.out.size HLE.out ?_; intro v1 w4 hr1 hb4 hg4 hat4; have HR4 := Aside0.mk hr1; have HB4 := Aside0.mk hb4; clear hr1 hb4 hg4 hat4)
        go_roundw
        case rel => exact ⟨q + 1, rows ++ [[.slice A0 x.f0.length c0, .slice A1 x.f1.length c1]], by omega, by go_num, ⟨by rw [HT.out]; exact HROW.out.snoc HKX.out⟩, HR4, HB4⟩
        case measure => simp [intOf]; omega
    · have hfl : (l.take q).filter p = l.filter p := by rw [List.take_of_length_le (by omega)]
      rw [hfl] at HROW
      obtain ⟨A', c', rfl⟩ := Kd.R_slice HOUT.out
      have HLN := Aside0.mk HROW.out.len
      have HOUT' := HOUT.out
      rw [HROW.out.len] at HOUT'
      have HO := Aside0.mk HOUT'
      clear HOUT'
      go_wp2
      go_ret
      exact ⟨A', c', rows, by rw [HLN.out]; rfl, HROW.out, HO.out, HBq.out⟩
end Go.Proofs.Ytbopadglafbdjaa.PX
