/- A generic filter of calls, walked: the calls that a test keeps. -/
import Derived.Test.YtbopadglafbdjaaPXx0
set_option linter.unusedVariables false
set_option linter.unusedSimpArgs false
namespace Go.Proofs.Ytbopadglafbdjaa.PX
open Go Go.RowKit Go.Proofs.YtbopadglafbdjaaW.PrintWords Go.Proofs.YtbopadglafbdjaaW.PrintLast Go.Proofs.YtbopadglafbdjaaW.PrintMore

/-- What a test on calls is: it tells p, at the box B's number. -/
structure Keeps (g B : Nat) (kv : Int) (p : S31 → Bool) : Prop where
  enters : ∀ args w, (callFunc g args).run Try.prog w = .ok (.enter g args) w
  calls : ∀ (x : S31) (A0 : Option Addr) (c0 : Nat) (A1 : Option Addr) (c1 : Nat) (W : World), Kd.C k36 W A0 x.f0.length x.f0 → x.f0.length ≤ c0 → Kd.C (Kd.int .i64) W A1 x.f1.length x.f1 → x.f1.length ≤ c1 → W.heap[B]? = some (.cells #[.int .i64 kv] 3 (0, 0)) →
    Calls Try.prog g #[.agg #[.slice A0 x.f0.length c0, .slice A1 x.f1.length c1], .pointer (some ⟨B, 0, none⟩)] W fun e W' => e = .returned (.bool (p x)) ∧ Below W.heap.size W W'
/-- The cells of rows, each read as its element. -/
def RowOf (w0 : World) : List S31 → List (List Value) → Prop
  | [], [] => True
  | x :: xs, c :: cs => k31.K w0 x c ∧ RowOf w0 xs cs
  | _, _ => False
theorem RowOf.snoc {w0 : World} : ∀ {xs : List S31} {cs : List (List Value)} {x : S31} {c : List Value}, RowOf w0 xs cs → k31.K w0 x c → RowOf w0 (xs ++ [x]) (cs ++ [c])
  | [], [], _, _, _, h => ⟨h, trivial⟩
  | _ :: xs, _ :: cs, _, _, ⟨h1, h2⟩, h => ⟨h1, RowOf.snoc h2 h⟩
  | [], _ :: _, _, _, h, _ => h.elim
  | _ :: _, [], _, _, h, _ => h.elim
theorem RowOf.len {w0 : World} : ∀ {xs : List S31} {cs : List (List Value)}, RowOf w0 xs cs → cs.length = xs.length
  | [], [], _ => rfl
  | _ :: xs, _ :: cs, ⟨_, h⟩ => by simp [RowOf.len h]
  | [], _ :: _, h => h.elim
  | _ :: _, [], h => h.elim
theorem RowOf.get {w0 : World} : ∀ {xs : List S31} {cs : List (List Value)} (h : RowOf w0 xs cs) (j : Nat) {x : S31} {c : List Value}, xs[j]? = some x → cs[j]? = some c → k31.K w0 x c
  | _ :: _, _ :: _, ⟨h, _⟩, 0, _, _, hx, hc => by simp at hx hc; subst hx hc; exact h
  | _ :: xs, _ :: cs, ⟨_, h⟩, j + 1, _, _, hx, hc => RowOf.get h j (by simpa using hx) (by simpa using hc)
  | [], [], _, j, _, _, hx, _ => by simp at hx
theorem RowOf.reads {w0 W : World} {xs : List S31} {cs : List (List Value)} (h : RowOf w0 xs cs) (hb : Below w0.heap.size w0 W) {A : Option Addr} (hc : (Kd.raw 2).C W A cs.length cs) : Kd.C k31 W A xs.length xs := by
  have hl := h.len
  refine ⟨rfl, by rw [← hl]; exact hc.2.1, fun hp => ?_⟩
  obtain ⟨ad, e, hr⟩ := hc.2.2 (by omega)
  refine ⟨ad, e, fun j x hx => ?_⟩
  have hj : j < xs.length := (List.getElem?_eq_some_iff.1 hx).1
  obtain ⟨c, hcl, hcr, hcell⟩ := hr j cs[j] (List.getElem?_eq_getElem (by omega))
  refine ⟨c, hcl, ?_, hcell⟩
  have := hcr.1
  subst this
  exact k31.K_below hb (h.get j hx (List.getElem?_eq_getElem (by omega)))
set_option maxHeartbeats 8000000 in
set_option maxRecDepth 100000 in
theorem kept_calls {g B : Nat} {kv : Int} {p : S31 → Bool} (hk : Keeps g B kv p) (w0 : World) (A : Option Addr) (c : Nat) (l : List S31) (hr : Kd.C k31 w0 A l.length l) (hc : l.length ≤ c) (hlen : l.length ≤ 1000000) (w : World) (hb : Below w0.heap.size w0 w)
    (hB : w.heap[B]? = some (.cells #[.int .i64 kv] 3 (0, 0))) :
    Calls Try.prog 61 #[.slice A l.length c, .func (.func g) #[] #[.pointer (some ⟨B, 0, none⟩)]] w fun e w' => ∃ A' c', e = .returned (.slice A' (l.filter p).length c') ∧ (l.filter p).length ≤ c' ∧ Kd.C k31 w' A' (l.filter p).length (l.filter p) ∧ Below w.heap.size w w' := by
  have HK := Aside0.mk hk
  have HR := Aside0.mk hr
  have HC := Aside0.mk hc
  have HLEN := Aside0.mk hlen
  have HB := Aside0.mk hb
  have HBX := Aside0.mk hB
  have hcl : l.length ≤ 9223372036854775807 := Kd.C_max hr
  have hu31 := Try.underlying31
  have eg := hk.enters
  clear hk hr hc hlen hb hB
  go_enter Try.func61, Try.ntmps61
  go_wp2
  go_loopw [5, 10] (fun v i wr => ∃ (q : Nat) (rows : List (List Value)), q ≤ l.length ∧ i = .int .i64 (q : Int) ∧ Aside0 (RowOf w0 ((l.take q).filter p) rows) ∧ Aside0 ((Kd.raw 2).R 31 wr w.heap.size (fun k => w.heap.size ≤ k) v rows) ∧ Aside0 (Below w.heap.size w wr))
    (fun v i _ => l.length - (intOf i).toNat)
  case atStart => exact ⟨0, [], Nat.zero_le _, rfl, ⟨by simp [RowOf]⟩, ⟨Kd.R_nil _ _ _ _ _⟩, ⟨Below.refl _ _⟩⟩
  case round =>
    obtain ⟨q, rows, hq, rfl, HROW, HOUT, HBq⟩ := hrel
    by_cases hlt : q < l.length
    · obtain ⟨ad, A0, c0, A1, c1, rfl, hx0, hx1, hl0, hi0, hl1, hi1⟩ := at_T31 HR.out (q : Int) (by omega) (by omega)
      have HW0 := Aside0.mk (HB.out.trans (HBq.out.mono HB.out.size))
      simp only [Int.toNat_natCast] at hx0 hx1
      replace hx0 := (HW0.out.cell (World.block_lt_of_cell? w0 _ hx0)).trans hx0
      replace hx1 := (HW0.out.cell (World.block_lt_of_cell? w0 _ hx1)).trans hx1
      have HKX := Aside0.mk (k31_mk w0 (rd_T31 l (q : Int)) hl0 hi0 hl1 hi1)
      have HTK := Aside0.mk (show (l.take (q + 1)).filter p = (l.take q).filter p ++ (if p (rd_T31 l (q : Int)) then [rd_T31 l (q : Int)] else []) by
        rw [List.take_succ_eq_append_getElem hlt, List.filter_append]
        congr 1
        have e : rd_T31 l (q : Int) = l[q] := by simp [rd_T31, List.getD_eq_getElem?_getD, List.getElem?_eq_getElem hlt]
        rw [e]; simp [List.filter_cons])
      generalize hx : rd_T31 l (q : Int) = x at hx0 hx1 hl0 hi0 hl1 hi1 HKX HTK
      clear hx
      have HB2 := Aside0.mk (HBq.out.alloc HBq.out.size (.cells #[.slice A0 x.f0.length c0, .slice A1 x.f1.length c1] 31))
      have HW2 := Aside0.mk (HB.out.trans (HB2.out.mono HB.out.size))
      have HBX2 := Aside0.mk ((HB2.out.block B (blk_lt HBX.out)).trans HBX.out)
      have BX := Aside0.mk (blk_new wr (.cells #[.slice A0 x.f0.length c0, .slice A1 x.f1.length c1] 31))
      have HCALL := Aside0.mk (HK.out.calls x A0 c0 A1 c1 _ (Kd.C_below hi0 HW2.out) hl0 (Kd.C_below hi1 HW2.out) hl1 HBX2.out)
      have HOUT2 := Aside0.mk (Kd.R_alloc HOUT.out (.cells #[.slice A0 x.f0.length c0, .slice A1 x.f1.length c1] 31))
      clear hl0 hi0 hl1 hi1
      go_wp2_with fail
      refine HCALL.out.mono ?_
      rintro e w2 ⟨rfl, hb2⟩
      have HB3 := Aside0.mk (HB2.out.trans (hb2.mono HB2.out.size))
      have BX3 := Aside0.mk ((hb2.block _ (blk_lt BX.out)).trans BX.out)
      have HOUT3 := Aside0.mk (Kd.R_below HOUT2.out hb2)
      clear hb2 hx0 hx1
      generalize hbx : wr.heap.size = bx at BX3 ⊢
      clear hbx
      cases hp : p x
      · have HT := Aside0.mk (show (l.take (q + 1)).filter p = (l.take q).filter p by rw [HTK.out, hp]; simp)
        go_wp2
        go_roundw
        case rel => exact ⟨q + 1, rows, by omega, by go_num, ⟨by rw [HT.out]; exact HROW.out⟩, HOUT3, HB3⟩
        case measure => simp [intOf]; omega
      · have HT := Aside0.mk (show (l.take (q + 1)).filter p = (l.take q).filter p ++ [x] by rw [HTK.out, hp]; simp)
        have hc0 : w2.cell? ⟨bx, 0, none⟩ = some (.slice A0 x.f0.length c0) := (blk_cell BX3.out 0).trans rfl
        have hc1 : w2.cell? ⟨bx, 1, none⟩ = some (.slice A1 x.f1.length c1) := (blk_cell BX3.out 1).trans rfl
        have hlenR := HROW.out.len
        have hle : ((l.take q).filter p).length ≤ 1000000 := Nat.le_trans (List.length_filter_le _ _) (by simp; have := HLEN.out; omega)
        have HLE := Aside0.mk (show (rows.length + 1) * 48 ≤ 140737488355328 by omega)
        clear hlenR hle
        go_upto_region 6 with fail
        go_wp2_with ((with_reducible refine gate_builtin (b := .append) (xs := #[.tmp 17, .tmp 19]) rfl ?_); at_builtin; refine Kd.R_append (Kd.raw 2) (w0 := w) w.heap.size rfl (.tmp 17) (.tmp 19) 22 31 (.agg #[(.slice none 0 0), (.slice none 0 0)]) 48 rfl Try.underlying22 info31 rfl (by decide) (by omega) u5 rows [.slice A0 x.f0.length c0, .slice A1 x.f1.length c1] [.slice A0 x.f0.length c0, .slice A1 x.f1.length c1] (fun k => w.heap.size ≤ k) (fun _ => False) rfl rfl ⟨rfl, rfl, by simp [Value.oneCell']⟩ (fun _ hk => hk.elim) (fun k hk => Nat.le_trans HB3.out.size hk) HOUT3.out HB3.out HB3.out.size HLE.out ?_; intro v1 w4 hr1 hb4 hg4 hat4; have HR4 := Aside0.mk hr1; have HB4 := Aside0.mk hb4; clear hr1 hb4 hg4 hat4)
        go_roundw
        case rel => exact ⟨q + 1, rows ++ [[.slice A0 x.f0.length c0, .slice A1 x.f1.length c1]], by omega, by go_num, ⟨by rw [HT.out]; exact HROW.out.snoc HKX.out⟩, HR4, HB4⟩
        case measure => simp [intOf]; omega
    · have hfl : (l.take q).filter p = l.filter p := by rw [List.take_of_length_le (by omega)]
      rw [hfl] at HROW
      obtain ⟨A', c', rfl⟩ := Kd.R_slice HOUT.out
      have HFIN := Aside0.mk (HROW.out.reads (HB.out.trans (HBq.out.mono HB.out.size)) (Kd.R_reads' HOUT.out).2.2)
      have HCAP := Aside0.mk (Kd.R_reads' HOUT.out).2.1
      have HLN := Aside0.mk HROW.out.len
      go_wp2
      go_ret
      refine ⟨A', c', by rw [HLN.out]; rfl, by rw [← HLN.out]; exact HCAP.out, HFIN.out, HBq.out⟩
end Go.Proofs.Ytbopadglafbdjaa.PX
