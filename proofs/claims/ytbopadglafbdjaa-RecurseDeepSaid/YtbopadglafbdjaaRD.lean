/- The law of deep calls, walked. -/
import Derived.Test.YtbopadglafbdjaaPXxf18
import Derived.Test.YtbopadglafbdjaaPXxf24
import Derived.Test.YtbopadglafbdjaaMF
set_option linter.unusedVariables false
set_option linter.unusedSimpArgs false
namespace Go.Proofs.Ytbopadglafbdjaa.PX
open Go Go.RowKit Go.Proofs.YtbopadglafbdjaaW.PrintWords Go.Proofs.YtbopadglafbdjaaW.PrintLast Go.Proofs.YtbopadglafbdjaaW.PrintMore
set_option maxHeartbeats 8000000 in
set_option maxRecDepth 100000 in
theorem patV (w : World) : Calls Try.prog 26 #[] w fun e w' => e = .returned (.agg #[.int .i64 1, .string (⟨#[]⟩ : ByteArray), .slice none 0 0]) ∧ Below w.heap.size w w' := by
 have hu36 := Try.underlying36
 have HB := Aside0.mk (Below.refl w.heap.size w)
 go_enter Try.func26, Try.ntmps26
 go_wp2_with (first | ((with_reducible refine gate_dst (N := 0) rfl ?_); refine box_event ?hg (N := 0) ?hd (cs := #[.int .i64 0, .string (⟨#[]⟩ : ByteArray), .slice none 0 0]) (t := 36) ?hr ?_; (case hd => rfl); (case hg => rfl); (case hr => first | (go_simp; done) | (go_simp; rfl)); intro gb101 hg w1 hbox hb; have BK101 := Aside0.mk (hbox); have GW101 := Aside0.mk ((bs_ hg HB : w.heap.size ≤ gb101)); have GE101 := Aside0.mk ((bs_ hg HB : w.heap.size ≤ gb101)); replace HB := hs_ HB hb; clear hb hbox hg; have hcz2_0 : w1.cell? ⟨gb101, 0, none⟩ = some (.int .i64 0) := (blk_cell BK101.out 0).trans rfl; have hcz2_1 : w1.cell? ⟨gb101, 1, none⟩ = some (.string (⟨#[]⟩ : ByteArray)) := (blk_cell BK101.out 1).trans rfl; have hcz2_2 : w1.cell? ⟨gb101, 2, none⟩ = some (.slice none 0 0) := (blk_cell BK101.out 2).trans rfl; have hfz2_0 := blk_frozen BK101.out 0; have hfz2_1 := blk_frozen BK101.out 1; have hfz2_2 := blk_frozen BK101.out 2))
 refine bodyPost_ret (results_cell_row rfl _ _ gb101 36 #[.int .i64 1, .string (⟨#[]⟩ : ByteArray), .slice none 0 0] (0, 0) _ rfl (by (with_reducible repeat (first | refine blk_drewN ?_ _ | refine blk_drew ?_ | refine blk_alloc ?_ _)); refine blk_put (cs := #[.int .i64 1, .string (⟨#[]⟩ : ByteArray), .slice none 0 0]) ?_ 2 _ rfl; (with_reducible repeat (first | refine blk_drewN ?_ _ | refine blk_drew ?_ | refine blk_alloc ?_ _)); refine blk_put (cs := #[.int .i64 1, .string (⟨#[]⟩ : ByteArray), .slice none 0 0]) ?_ 1 _ rfl; (with_reducible repeat (first | refine blk_drewN ?_ _ | refine blk_drew ?_ | refine blk_alloc ?_ _)); refine blk_put (cs := #[.int .i64 0, .string (⟨#[]⟩ : ByteArray), .slice none 0 0]) ?_ 0 _ rfl; (with_reducible repeat (first | refine blk_drewN ?_ _ | refine blk_drew ?_ | refine blk_alloc ?_ _)); exact BK101.out) Try.underlying36 rfl (by kernel_rfl)) rfl ?_
 exact ⟨rfl, by repeat (first | (with_reducible first | exact HB.out | apply below_alloc | apply pw_below_drewN | apply below_drew1 | refine below_set ?_ GE101.out) | exact HB.out)⟩
set_option maxHeartbeats 8000000 in
set_option maxRecDepth 100000 in
theorem patP (a0 : ByteArray) (A1 : Option Addr) (n c1 : Nat) (w : World) : Calls Try.prog 27 #[.string a0, .slice A1 n c1] w fun e w' => e = .returned (.agg #[.int .i64 2, .string a0, .slice A1 n c1]) ∧ Below w.heap.size w w' := by
 have hu36 := Try.underlying36
 have HB := Aside0.mk (Below.refl w.heap.size w)
 go_enter Try.func27, Try.ntmps27
 go_wp2_with (first | ((with_reducible refine gate_dst (N := 4) rfl ?_); refine box_event ?hg (N := 4) ?hd (cs := #[.int .i64 0, .string (⟨#[]⟩ : ByteArray), .slice none 0 0]) (t := 36) ?hr ?_; (case hd => rfl); (case hg => rfl); (case hr => first | (go_simp; done) | (go_simp; rfl)); intro gb101 hg w3 hbox hb; have BK101 := Aside0.mk (hbox); have GW101 := Aside0.mk ((bs_ hg HB : w.heap.size ≤ gb101)); have GE101 := Aside0.mk ((bs_ hg HB : w.heap.size ≤ gb101)); replace HB := hs_ HB hb; clear hb hbox hg; have hcz4_0 : w3.cell? ⟨gb101, 0, none⟩ = some (.int .i64 0) := (blk_cell BK101.out 0).trans rfl; have hcz4_1 : w3.cell? ⟨gb101, 1, none⟩ = some (.string (⟨#[]⟩ : ByteArray)) := (blk_cell BK101.out 1).trans rfl; have hcz4_2 : w3.cell? ⟨gb101, 2, none⟩ = some (.slice none 0 0) := (blk_cell BK101.out 2).trans rfl; have hfz4_0 := blk_frozen BK101.out 0; have hfz4_1 := blk_frozen BK101.out 1; have hfz4_2 := blk_frozen BK101.out 2))
 refine bodyPost_ret (results_cell_row rfl _ _ gb101 36 #[.int .i64 2, .string a0, .slice A1 n c1] (0, 0) _ rfl (by (with_reducible repeat (first | refine blk_drewN ?_ _ | refine blk_drew ?_ | refine blk_alloc ?_ _)); refine blk_put (cs := #[.int .i64 2, .string a0, .slice none 0 0]) ?_ 2 _ rfl; (with_reducible repeat (first | refine blk_drewN ?_ _ | refine blk_drew ?_ | refine blk_alloc ?_ _)); refine blk_put (cs := #[.int .i64 2, .string (⟨#[]⟩ : ByteArray), .slice none 0 0]) ?_ 1 _ rfl; (with_reducible repeat (first | refine blk_drewN ?_ _ | refine blk_drew ?_ | refine blk_alloc ?_ _)); refine blk_put (cs := #[.int .i64 0, .string (⟨#[]⟩ : ByteArray), .slice none 0 0]) ?_ 0 _ rfl; (with_reducible repeat (first | refine blk_drewN ?_ _ | refine blk_drew ?_ | refine blk_alloc ?_ _)); exact BK101.out) Try.underlying36 rfl (by kernel_rfl)) rfl ?_
 exact ⟨rfl, by repeat (first | (with_reducible first | exact HB.out | apply below_alloc | apply pw_below_drewN | apply below_drew1 | refine below_set ?_ GE101.out) | exact HB.out)⟩
/-- A row of patterns that is read whatever stands in one block. -/
def Sf (PB : Nat) (W : World) (A : Option Addr) (xs : List S36) : Prop := ∀ W' : World, (∀ k, k < W.heap.size → k ≠ PB → W'.heap[k]? = W.heap[k]?) → Kd.C k36 W' A xs.length xs
theorem Sf.step {PB : Nat} {W W2 : World} {A : Option Addr} {xs : List S36} (h : Sf PB W A xs) (hs : W.heap.size ≤ W2.heap.size) (hk : ∀ k, k < W.heap.size → k ≠ PB → W2.heap[k]? = W.heap[k]?) : Sf PB W2 A xs :=
  fun W' hW => h W' (fun k h1 h2 => (hW k (by omega) h2).trans (hk k h1 h2))
theorem Sf.below {PB : Nat} {W W2 : World} {A : Option Addr} {xs : List S36} (h : Sf PB W A xs) (hb : Below W.heap.size W W2) : Sf PB W2 A xs := h.step hb.size (fun k h1 _ => hb.block k h1)
theorem size_set (W : World) (p : Addr) (u : Value) : (W.setCell p u).heap.size = W.heap.size := by
  simp [World.setCell]
theorem Sf.put {PB : Nat} {W : World} {A : Option Addr} {xs : List S36} (h : Sf PB W A xs) (i : Nat) (u : Value) : Sf PB (W.setCell ⟨PB, i, none⟩ u) A xs :=
  h.step (by rw [size_set]; exact Nat.le_refl _) (fun k h1 h2 => Below.heap_setCell W _ u k h2)
/-- One pattern over another. -/
theorem Sf.over {PB : Nat} {W : World} {x : S36} {A : Option Addr} {c : Nat} (h : Sf PB W A x.f2) (hc : x.f2.length ≤ c) (hPB : PB < W.heap.size) : Sf PB (W.alloc (.cells #[.int .i64 x.f0, .string x.f1, .slice A x.f2.length c] 36)) (some ⟨W.heap.size, 0, none⟩) [x] := by
  intro W' hW
  have hC : Kd.C k36 W' A x.f2.length x.f2 := h W' (fun k h1 h2 => (hW k (by simp; omega) h2).trans (Below.heap_alloc W _ k h1))
  have hb : W'.heap[W.heap.size]? = some (.cells #[.int .i64 x.f0, .string x.f1, .slice A x.f2.length c] 36 (0, 0)) := (hW W.heap.size (by simp) (by omega)).trans (blk_new W _)
  refine ⟨rfl, by simp, fun _ => ⟨_, rfl, fun j p hj => ?_⟩⟩
  have hj0 : j = 0 := by
    have := (List.getElem?_eq_some_iff.1 hj).1
    simp at this; exact this
  subst hj0
  simp at hj
  subst hj
  refine ⟨[.int .i64 x.f0, .string x.f1, .slice A x.f2.length c], rfl, k36_mk W' x hc hC, fun i u hi => ?_⟩
  have h1 := blk_cell hb (0 * 3 + i)
  have e : (⟨W.heap.size, 0, none⟩ : Addr).add (0 * k36.sz + i) = ⟨W.heap.size, 0 * 3 + i, none⟩ := by
    have h3 : k36.sz = 3 := rfl
    simp [Addr.add, h3]
    try (intro h; exact h.symm)
  rw [e, h1]
  have hlt := (List.getElem?_eq_some_iff.1 hi).1
  simp at hlt
  match i, hlt with
  | 0, _ => simpa using hi
  | 1, _ => simpa using hi
  | 2, _ => simpa using hi
/-- A variable below n constructors. -/
def pn : Nat → S36
  | 0 => ⟨1, ⟨#[]⟩, []⟩
  | n + 1 => ⟨2, ⟨#[115, 117, 99]⟩, [pn n]⟩
/-- Two patterns in a row. -/
theorem from2 {W : World} {b : Nat} {x : S36} {A : Option Addr} {c : Nat} (hb : W.heap[b]? = some (.cells #[.int .i64 x.f0, .string x.f1, .slice A x.f2.length c, .int .i64 1, .string (⟨#[]⟩ : ByteArray), .slice none 0 0] 36 (0, 0)))
    (hC : Kd.C k36 W A x.f2.length x.f2) (hc : x.f2.length ≤ c) : Kd.C k36 W (some ⟨b, 0, none⟩) 2 [x, ⟨1, ⟨#[]⟩, []⟩] := by
  refine ⟨rfl, by simp, fun _ => ⟨_, rfl, fun j p hj => ?_⟩⟩
  have h3 : k36.sz = 3 := rfl
  have hcell : ∀ o, W.cell? ((⟨b, 0, none⟩ : Addr).add o) = (#[.int .i64 x.f0, .string x.f1, .slice A x.f2.length c, .int .i64 1, .string (⟨#[]⟩ : ByteArray), .slice none 0 0] : Array Value)[o]? := fun o => by
    rw [← blk_cell hb o]; congr 1; simp [Addr.add]
    try (intro h; exact h.symm)
  have hlt := (List.getElem?_eq_some_iff.1 hj).1
  simp at hlt
  match j, hlt with
  | 0, _ =>
    simp at hj
    subst hj
    refine ⟨[.int .i64 x.f0, .string x.f1, .slice A x.f2.length c], rfl, k36_mk W x hc hC, fun i u hi => ?_⟩
    rw [hcell, h3]
    have hlt := (List.getElem?_eq_some_iff.1 hi).1
    simp at hlt
    match i, hlt with
    | 0, _ => simpa using hi
    | 1, _ => simpa using hi
    | 2, _ => simpa using hi
  | 1, _ =>
    simp at hj
    subst hj
    refine ⟨[.int .i64 1, .string (⟨#[]⟩ : ByteArray), .slice none 0 0], rfl, k36_mk W ⟨1, ⟨#[]⟩, []⟩ (Nat.le_refl _) ⟨rfl, by simp, fun h => absurd h (by simp)⟩, fun i u hi => ?_⟩
    rw [hcell, h3]
    have hlt := (List.getElem?_eq_some_iff.1 hi).1
    simp at hlt
    match i, hlt with
    | 0, _ => simpa using hi
    | 1, _ => simpa using hi
    | 2, _ => simpa using hi
theorem ints2 {W : World} {b : Nat} {m n : Int} (hb : W.heap[b]? = some (.cells #[.int .i64 m, .int .i64 n] 3 (0, 0))) : Kd.C (Kd.int .i64) W (some ⟨b, 0, none⟩) 2 [m, n] := by
  refine ⟨rfl, by simp, fun _ => ⟨_, rfl, fun j p hj => ?_⟩⟩
  have hlt := (List.getElem?_eq_some_iff.1 hj).1
  simp at hlt
  have h3 : (Kd.int .i64).sz = 1 := rfl
  refine ⟨[.int .i64 p], rfl, rfl, fun i u hi => ?_⟩
  have hi0 : i = 0 := by
    have := (List.getElem?_eq_some_iff.1 hi).1
    simp at this; exact this
  subst hi0
  have e : (⟨b, 0, none⟩ : Addr).add (j * (Kd.int .i64).sz + 0) = ⟨b, j, none⟩ := by
    simp [Addr.add, h3]
    try (intro h; exact h.symm)
  rw [e, blk_cell hb]
  simp at hi
  match j, hlt with
  | 0, _ => simp at hj; subst hj; simpa using hi
  | 1, _ => simp at hj; subst hj; simpa using hi
theorem call1 {W : World} {b : Nat} {x : S31} {A0 A1 : Option Addr} (hb : W.heap[b]? = some (.cells #[.slice A0 x.f0.length x.f0.length, .slice A1 x.f1.length x.f1.length] 31 (0, 0))) (h0 : Kd.C k36 W A0 x.f0.length x.f0) (h1 : Kd.C (Kd.int .i64) W A1 x.f1.length x.f1) :
    Kd.C k31 W (some ⟨b, 0, none⟩) 1 [x] := by
  refine ⟨rfl, by simp, fun _ => ⟨_, rfl, fun j p hj => ?_⟩⟩
  have hj0 : j = 0 := by
    have := (List.getElem?_eq_some_iff.1 hj).1
    simp at this; exact this
  subst hj0
  simp at hj
  subst hj
  refine ⟨[.slice A0 x.f0.length x.f0.length, .slice A1 x.f1.length x.f1.length], rfl, k31_mk W x (Nat.le_refl _) h0 (Nat.le_refl _) h1, fun i u hi => ?_⟩
  have h3 : k31.sz = 2 := rfl
  have e : (⟨b, 0, none⟩ : Addr).add (0 * k31.sz + i) = ⟨b, i, none⟩ := by
    simp [Addr.add]
    try (intro h; exact h.symm)
  rw [e, blk_cell hb]
  have hlt := (List.getElem?_eq_some_iff.1 hi).1
  simp at hlt
  match i, hlt with
  | 0, _ => simpa using hi
  | 1, _ => simpa using hi
theorem blk_new' (W : World) (o : Obj) {n : Nat} (h : W.heap.size = n) : (W.alloc o).heap[n]? = some o := h ▸ blk_new W o
theorem hw01 : wrap64 ((0 : Int) + 1) = 1 := (M.wr ((0 : Int) + 1) (by decide) (by decide)).trans rfl
theorem cP_pn : ∀ i, cP 0 (pn i) = 1
  | 0 => by simp only [pn, cP, if_true]; exact hw01
  | i + 1 => by
    simp only [pn, cP, show ¬ (2 : Int) = 1 by decide, if_false, if_true, cL]
    exact cP_pn i
/-- The call: deep, or of the other argument. -/
def dC (i : Nat) (b : Bool) : S31 := ⟨[pn i, ⟨1, ⟨#[]⟩, []⟩], if b then [1, 0] else [0, 1]⟩
theorem dC_at (i : Nat) : atR (dC (i + 1) false) 0 = 2 := by
  have h0 : cL 0 ((dC (i + 1) false).f0.take (0 : Int).toNat) = 0 := rfl
  have h1 : cL 0 (((dC (i + 1) false).f0.take ((0 : Int) + 1).toNat).drop (0 : Int).toNat) = 1 := cP_pn (i + 1)
  have h2 : rd (dC (i + 1) false).f1 0 = 0 := rfl
  have h3 : (rd_T36 (dC (i + 1) false).f0 0).f0 = 2 := rfl
  have h4 : (dC (i + 1) false).f0.length = 2 := rfl
  have h5 : (dC (i + 1) false).f1.length = 2 := rfl
  unfold atR
  rw [h0, h1, h2, h3, h4, h5, hw01]
  decide
theorem dC_at0 (i : Nat) : atR (dC i true) 0 = 0 := by
  have h0 : cL 0 ((dC i true).f0.take (0 : Int).toNat) = 0 := rfl
  have h1 : cL 0 (((dC i true).f0.take ((0 : Int) + 1).toNat).drop (0 : Int).toNat) = 1 := cP_pn i
  have h2 : rd (dC i true).f1 0 = 1 := rfl
  have h4 : (dC i true).f0.length = 2 := rfl
  have h5 : (dC i true).f1.length = 2 := rfl
  unfold atR
  rw [h0, h1, h2, h4, h5, hw01]
  rw [if_neg (by decide), if_pos (by decide)]
theorem dC_at1 (i : Nat) : atR (dC i true) 1 = 0 := by
  have h0 : cL 0 ((dC i true).f0.take (1 : Int).toNat) = 1 := cP_pn i
  have h2 : rd (dC i true).f1 1 = 0 := rfl
  have h4 : (dC i true).f0.length = 2 := rfl
  have h5 : (dC i true).f1.length = 2 := rfl
  unfold atR
  rw [h0, h2, h4, h5]
  rw [if_neg (by decide), if_pos (Or.inl (by decide))]
theorem dC_find (i : Nat) : recurse_Find.f [dC (i + 1) false] 2 = some (0, true) := by
  have h : allS [dC (i + 1) false] 0 = true := by simp [allS, dC_at]
  have e : (List.range (2 : Int).toNat).find? (allS [dC (i + 1) false]) = some 0 := find_at (by decide) (fun j hj => by omega) h
  simp only [recurse_Find.f, findR, List.length_cons, List.length_nil, e]
  rfl
theorem dC_find' (i : Nat) : recurse_Find.f [dC i true] 2 = some (0, false) := by
  have e : (List.range (2 : Int).toNat).find? (allS [dC i true]) = none := find_none (fun j hj => by
    have hj2 : j < 2 := hj
    match j, hj2 with
    | 0, _ => simp [allS, dC_at0]
    | 1, _ => simp [allS, dC_at1])
  simp only [recurse_Find.f, findR, List.length_cons, List.length_nil, e]
  rfl
theorem dC_order (i : Nat) : recurse_Order.f [dC (i + 1) false] 2 = some ([0], true) := by
  have h : goodR [] [dC (i + 1) false] 0 = true := by simp [goodR, dC_at]
  have e : (List.range (2 : Int).toNat).find? (goodR [] [dC (i + 1) false]) = some 0 := ord_at (by decide) (fun j hj => by omega) h
  have e2 : ([dC (i + 1) false].filter fun x => atR x ((0 : Nat) : Int) != 2) = [] := by simp [dC_at]
  simp only [recurse_Order.f, List.length_cons, List.length_nil, ordL, e, e2]
  rfl
theorem dC_order' (i : Nat) : recurse_Order.f [dC i true] 2 = some ([], false) := by
  have e : (List.range (2 : Int).toNat).find? (goodR [] [dC i true]) = none := ord_none (fun j hj => by
    have hj2 : j < 2 := hj
    match j, hj2 with
    | 0, _ => simp [goodR, dC_at0]
    | 1, _ => simp [goodR, dC_at1])
  simp only [recurse_Order.f, List.length_cons, List.length_nil, ordL, e]
  rfl
set_option maxHeartbeats 16000000 in
set_option maxRecDepth 100000 in
theorem telamonlaw23_RecurseDeep.calls (a0 : Int) (a1 : Bool) (w : World) : Calls Try.prog 5 #[.int .i64 a0, .bool a1] w fun e w' => e = .returned (.bool true) ∧ Below w.heap.size w w' := by
  have HA := Aside0.mk (telamonlaw23_alive.calls true w M.alive23)
  go_enter Try.func5, Try.ntmps5
  go_wp2_with fail
  refine HA.out.mono ?_
  rintro e w1 ⟨rfl, hb1⟩
  have HB1 := Aside0.mk hb1
  clear HA hb1
  by_cases c1 : a0 < 1
  · go_wp2
    go_ret
    exact ⟨rfl, HB1.out⟩
  by_cases c2 : a0 > 30
  · go_wp2
    go_ret
    exact ⟨rfl, HB1.out⟩
  have HV := Aside0.mk (patV w1)
  have HC1 := Aside0.mk c1
  have HC2 := Aside0.mk c2
  go_wp2_with fail
  refine HV.out.mono ?_
  rintro e w2 ⟨rfl, hb2⟩
  have HB2 := Aside0.mk (HB1.out.trans (hb2.mono HB1.out.size))
  clear hb2 HV
  have BP := Aside0.mk (blk_new w2 (.cells #[.int .i64 1, .string (⟨#[]⟩ : ByteArray), .slice none 0 0] 36))
  go_wp2
  go_loopw [7] (fun v wr => ∃ (i : Nat) (A : Option Addr) (c : Nat), v = .int .i64 (i : Int) ∧ Aside0 ((i : Int) ≤ a0) ∧ Aside0 (wr.heap[w2.heap.size]? = some (.cells #[.int .i64 (pn i).f0, .string (pn i).f1, .slice A (pn i).f2.length c] 36 (0, 0))) ∧ Aside0 ((pn i).f2.length ≤ c) ∧ Aside0 (Sf w2.heap.size wr A (pn i).f2) ∧ Aside0 (Below w.heap.size w wr))
    (fun v _ => 100 - (intOf v).toNat)
  case atStart => exact ⟨0, none, 0, rfl, ⟨by omega⟩, BP, ⟨Nat.le_refl _⟩, ⟨fun W' _ => ⟨rfl, by simp [pn], fun h => absurd h (by simp [pn])⟩⟩, ⟨HB2.out.alloc HB2.out.size _⟩⟩
  case round =>
    clear BP
    obtain ⟨i, A, c, rfl, HI, BK, HCC, HSF, HB⟩ := hrel
    have hP0 : wr.cell? ⟨w2.heap.size, 0, none⟩ = some (.int .i64 (pn i).f0) := (blk_cell BK.out 0).trans rfl
    have hP1 : wr.cell? ⟨w2.heap.size, 1, none⟩ = some (.string (pn i).f1) := (blk_cell BK.out 1).trans rfl
    have hP2 : wr.cell? ⟨w2.heap.size, 2, none⟩ = some (.slice A (pn i).f2.length c) := (blk_cell BK.out 2).trans rfl
    by_cases hia : (i : Int) < a0
    · have HP := Aside0.mk (patP (⟨#[115, 117, 99]⟩ : ByteArray) (some ⟨wr.heap.size, 0, none⟩) 1 1 (wr.alloc (.cells #[.int .i64 (pn i).f0, .string (pn i).f1, .slice A (pn i).f2.length c] 36)))
      go_wp2_with fail
      refine HP.out.mono ?_
      rintro e w3 ⟨rfl, hb3⟩
      have BK3 := Aside0.mk (blk_below (blk_alloc BK.out _) hb3)
      have HB3 := Aside0.mk ((HB.out.alloc HB.out.size (.cells #[.int .i64 (pn i).f0, .string (pn i).f1, .slice A (pn i).f2.length c] 36)).trans (hb3.mono (by have := HB.out.size; simp; omega)))
      have HSF3 := Aside0.mk ((HSF.out.over HCC.out (blk_lt BK.out)).below hb3)
      have hf0 : w3.frozen? ⟨w2.heap.size, 0, none⟩ = false := blk_frozen BK3.out 0
      have hf1 : w3.frozen? ⟨w2.heap.size, 1, none⟩ = false := blk_frozen BK3.out 1
      have hf2 : w3.frozen? ⟨w2.heap.size, 2, none⟩ = false := blk_frozen BK3.out 2
      have hQ0 : w3.cell? ⟨w2.heap.size, 0, none⟩ = some (.int .i64 (pn i).f0) := (blk_cell BK3.out 0).trans rfl
      have hQ1 : w3.cell? ⟨w2.heap.size, 1, none⟩ = some (.string (pn i).f1) := (blk_cell BK3.out 1).trans rfl
      have hQ2 : w3.cell? ⟨w2.heap.size, 2, none⟩ = some (.slice A (pn i).f2.length c) := (blk_cell BK3.out 2).trans rfl
      have HW := Aside0.mk (show wrap64 ((i : Int) + 1) = (i : Int) + 1 from M.wr _ (by omega) (by have := HC2.out; omega))
      clear hb3 HP
      go_wp2
      refine ⟨⟨i + 1, some ⟨wr.heap.size, 0, none⟩, 1, by push_cast; rfl, ⟨by push_cast; omega⟩, ⟨?_⟩, ⟨Nat.le_refl _⟩, ⟨((HSF3.out.put 0 _).put 1 _).put 2 _⟩, ⟨((HB3.out.setCell HB2.out.size _).setCell HB2.out.size _).setCell HB2.out.size _⟩⟩, ?_⟩
      · exact blk_put (blk_put (blk_put BK3.out 0 _ rfl) 1 _ rfl) 2 _ rfl
      · simp [intOf]; have := HC2.out; omega
    · have hie : (i : Int) = a0 := by have := HI.out; omega
      have HV := Aside0.mk (patV wr.drew)
      have BKd := Aside0.mk (blk_drew BK.out)
      have HBd := Aside0.mk (below_drew HB.out)
      have HSFd := Aside0.mk (HSF.out.below (below_drew (Below.refl _ _)))
      go_wp2_with fail
      refine start_ (n := 4) (S := fun w' => w'.cell? ⟨w2.heap.size, 0, none⟩ = some (.int .i64 (pn i).f0) ∧ w'.cell? ⟨w2.heap.size, 1, none⟩ = some (.string (pn i).f1) ∧ w'.cell? ⟨w2.heap.size, 2, none⟩ = some (.slice A (pn i).f2.length c)) (ds := []) #[false, false, false, false] (by kernel_rfl) rfl rfl ⟨(blk_cell BKd.out 0).trans rfl, (blk_cell BKd.out 1).trans rfl, (blk_cell BKd.out 2).trans rfl⟩ (fun hHeld => ?_)
      refine take_ (i := 0) (N := some 35) (v := ?_) (a' := ?_) #[true, false, false, false] rfl rfl (by kernel_rfl) (fun _ _ _ h => h) (Or.inl ⟨by rfl, ?_⟩) hHeld ?_ ?_
      rotate_left
      · rintro w' ⟨s0, s1, s2⟩
        go_simp
        with_reducible rfl
      rotate_left
      · simp only [Act.put, List.setIfInBounds_toArray, List.set_cons_zero, List.set_cons_succ, i64_w, i32_w]
        rfl
      refine one_ (i := 1) (N := some 36) #[true, true, false, false] rfl rfl (by kernel_rfl) (by decide) (fun K hK => ?_)
      refine goes_ Try.func26 (by kernel_rfl) rfl #[] (by rfl) rfl rfl (by (try simp only [List.map_toArray, List.map_cons, List.map_nil]); first | done | rfl) ?_
      with_reducible refine (HV.out).mono ?_
      rintro e w4 ⟨rfl, hb4⟩
      refine ⟨_, rfl, ?_⟩
      have BK4 := Aside0.mk (blk_below BKd.out hb4)
      have HB4 := Aside0.mk (HBd.out.trans (hb4.mono HBd.out.size))
      have HSF4 := Aside0.mk (HSFd.out.below hb4)
      clear hb4
      refine hK.out _ _ ⟨(blk_cell BK4.out 0).trans rfl, (blk_cell BK4.out 1).trans rfl, (blk_cell BK4.out 2).trans rfl⟩ (fun hHeld => ?_)
      clear hK K
      refine norm_ (a' := ?_) ?_ ?_
      rotate_left
      · show Act.put _ (some 36) _ = _
        simp only [Act.put, List.setIfInBounds_toArray, List.set_cons_zero, List.set_cons_succ, i64_w, i32_w]
        rfl
      refine one_ (i := 2) (N := some 37) #[true, true, true, false] rfl rfl (by kernel_rfl) (by decide) (fun K hK => ?_)
      refine value_ (w1 := ?_) (v := ?_) (by rfl) rfl ?_ ?_
      rotate_left 2
      · go_simp
        constructor
        · rfl
        · rfl
      have BK5 := Aside0.mk (blk_alloc BK4.out (.cells #[.int .i64 (pn i).f0, .string (pn i).f1, .slice A (pn i).f2.length c, .int .i64 1, .string (⟨#[]⟩ : ByteArray), .slice none 0 0] 36))
      refine hK.out _ _ ⟨(blk_cell BK5.out 0).trans rfl, (blk_cell BK5.out 1).trans rfl, (blk_cell BK5.out 2).trans rfl⟩ (fun hHeld => ?_)
      clear hK K
      refine norm_ (a' := ?_) ?_ ?_
      rotate_left
      · show Act.put _ (some 37) _ = _
        simp only [Act.put, List.setIfInBounds_toArray, List.set_cons_zero, List.set_cons_succ, i64_w, i32_w]
        rfl
      refine pure_ (i := 3) (N := some 8) (v := ?_) (a' := ?_) #[true, true, true, true] rfl rfl (by kernel_rfl) (fun _ _ _ h => h) (Or.inl ⟨by rfl, ?_⟩) ?_ ?_
      rotate_left
      · intro w'
        go_simp
        with_reducible rfl
      rotate_left
      · simp only [Act.put, List.setIfInBounds_toArray, List.set_cons_zero, List.set_cons_succ, i64_w, i32_w]
        rfl
      refine done_ (by kernel_rfl) ?_

      have HB5 := Aside0.mk (HB4.out.alloc HB4.out.size (.cells #[.int .i64 (pn i).f0, .string (pn i).f1, .slice A (pn i).f2.length c, .int .i64 1, .string (⟨#[]⟩ : ByteArray), .slice none 0 0] 36))
      have HSF5 := Aside0.mk (HSF4.out.below (below_alloc (Below.refl _ _) (.cells #[.int .i64 (pn i).f0, .string (pn i).f1, .slice A (pn i).f2.length c, .int .i64 1, .string (⟨#[]⟩ : ByteArray), .slice none 0 0] 36)))
      have BF := Aside0.mk (blk_new w4 (.cells #[.int .i64 (pn i).f0, .string (pn i).f1, .slice A (pn i).f2.length c, .int .i64 1, .string (⟨#[]⟩ : ByteArray), .slice none 0 0] 36))
      clear BK4 HB4 HSF4 BK5 hHeld BKd HBd HSFd hP0 hP1 hP2
      generalize (w4.alloc (.cells #[.int .i64 (pn i).f0, .string (pn i).f1, .slice A (pn i).f2.length c, .int .i64 1, .string (⟨#[]⟩ : ByteArray), .slice none 0 0] 36)) = w5 at HB5 HSF5 BF ⊢
      generalize w4.heap.size = b8 at BF ⊢
      have HFR := Aside0.mk (from2 BF.out (HSF5.out w5 (fun _ _ _ => rfl)) HCC.out)
      clear BF HSF5 HV
      obtain ⟨i', hi'⟩ : ∃ i', i = i' + 1 := ⟨i - 1, by have := HC1.out; omega⟩
      cases a1
      · subst hi'
        have HI6 := Aside0.mk (show Kd.C (Kd.int .i64) (w5.alloc (.cells #[.int .i64 0, .int .i64 1] 3)) (some ⟨w5.heap.size, 0, none⟩) 2 [0, 1] from ints2 (blk_new w5 _))
        have HF6 := Aside0.mk (show Kd.C k36 ((w5.alloc (.cells #[.int .i64 0, .int .i64 1] 3)).alloc (.cells #[.slice (some ⟨b8, 0, none⟩) 2 2, .slice (some ⟨w5.heap.size, 0, none⟩) 2 2] 31)) (some ⟨b8, 0, none⟩) 2 (dC (i' + 1) false).f0 from Kd.C_below HFR.out (below_alloc (below_alloc (Below.refl _ _) _) _))
        have HI7 := Aside0.mk (show Kd.C (Kd.int .i64) ((w5.alloc (.cells #[.int .i64 0, .int .i64 1] 3)).alloc (.cells #[.slice (some ⟨b8, 0, none⟩) 2 2, .slice (some ⟨w5.heap.size, 0, none⟩) 2 2] 31)) (some ⟨w5.heap.size, 0, none⟩) 2 (dC (i' + 1) false).f1 from Kd.C_below HI6.out (below_alloc (Below.refl _ _) _))
        have HC7 := Aside0.mk (show Kd.C k31 ((w5.alloc (.cells #[.int .i64 0, .int .i64 1] 3)).alloc (.cells #[.slice (some ⟨b8, 0, none⟩) 2 2, .slice (some ⟨w5.heap.size, 0, none⟩) 2 2] 31)) (some ⟨w5.heap.size + 1, 0, none⟩) 1 [(dC (i' + 1) false)] from call1 (x := (dC (i' + 1) false)) (blk_new' _ _ (by simp)) HF6.out HI7.out)
        have HB7 := Aside0.mk (show Below w.heap.size w ((w5.alloc (.cells #[.int .i64 0, .int .i64 1] 3)).alloc (.cells #[.slice (some ⟨b8, 0, none⟩) 2 2, .slice (some ⟨w5.heap.size, 0, none⟩) 2 2] 31)) from HB5.out.trans (Below.mono (below_alloc (below_alloc (Below.refl _ _) _) _) HB5.out.size))
        have K7 := Aside0.mk (recurse_Find.calls (some ⟨w5.heap.size + 1, 0, none⟩) 1 [(dC (i' + 1) false)] 2 0 true ((w5.alloc (.cells #[.int .i64 0, .int .i64 1] 3)).alloc (.cells #[.slice (some ⟨b8, 0, none⟩) 2 2, .slice (some ⟨w5.heap.size, 0, none⟩) 2 2] 31)) HC7.out (Nat.le_refl _) (dC_find i'))
        clear HFR HI6
        go_wp2_with fail
        refine K7.out.mono ?_
        rintro e w8 ⟨rfl, hb8⟩
        have HF8 := Aside0.mk (Kd.C_below HF6.out hb8)
        have HI8 := Aside0.mk (Kd.C_below HI7.out hb8)
        have HB8 := Aside0.mk (HB7.out.trans (hb8.mono HB7.out.size))
        have HC9 := Aside0.mk (show Kd.C k31 (w8.alloc (.cells #[.slice (some ⟨b8, 0, none⟩) 2 2, .slice (some ⟨w5.heap.size, 0, none⟩) 2 2] 31)) (some ⟨w8.heap.size, 0, none⟩) 1 [(dC (i' + 1) false)] from call1 (x := (dC (i' + 1) false)) (blk_new w8 _) (Kd.C_below HF8.out (below_alloc (Below.refl _ _) _)) (Kd.C_below HI8.out (below_alloc (Below.refl _ _) _)))
        have HB9 := Aside0.mk (HB8.out.alloc HB8.out.size (.cells #[.slice (some ⟨b8, 0, none⟩) 2 2, .slice (some ⟨w5.heap.size, 0, none⟩) 2 2] 31))
        have K9 := Aside0.mk (recurse_Order.calls (some ⟨w8.heap.size, 0, none⟩) 1 [(dC (i' + 1) false)] 2 [0] true (w8.alloc (.cells #[.slice (some ⟨b8, 0, none⟩) 2 2, .slice (some ⟨w5.heap.size, 0, none⟩) 2 2] 31)) HC9.out (Nat.le_refl _) (dC_order i'))
        clear hb8 K7 HF6 HI7 HC7
        go_wp2_with fail
        refine K9.out.mono ?_
        rintro e w10 ⟨v, rfl, hr10, hb10⟩
        have HB10 := Aside0.mk (HB9.out.trans (hb10.mono HB9.out.size))
        have HR10 := Aside0.mk hr10
        clear hr10 hb10 K9
        obtain ⟨g, cap, rfl, _, _, _⟩ := Kd.R_form HR10.out (by decide)
        have hcell : w10.cell? ⟨g, 0, none⟩ = some (.int .i64 0) := by
          obtain ⟨ad, cc, e, _, hK, hc0⟩ := Kd.C_get (Kd.R_reads' HR10.out).2.2 (0 : Int) (0 : Int) (by decide) (by decide)
          have hcc : cc = [.int .i64 0] := hK
          subst hcc
          injection e with e
          subst e
          exact hc0 0 _ rfl
        go_wp2
        go_ret
        exact ⟨rfl, HB10.out⟩
      · skip
        have HI6 := Aside0.mk (show Kd.C (Kd.int .i64) ((w5.alloc (.cells #[.int .i64 0, .int .i64 1] 3)).alloc (.cells #[.int .i64 1, .int .i64 0] 3)) (some ⟨(w5.heap.size + 1), 0, none⟩) 2 [1, 0] from ints2 (blk_new' _ _ (by simp)))
        have HF6 := Aside0.mk (show Kd.C k36 (((w5.alloc (.cells #[.int .i64 0, .int .i64 1] 3)).alloc (.cells #[.int .i64 1, .int .i64 0] 3)).alloc (.cells #[.slice (some ⟨b8, 0, none⟩) 2 2, .slice (some ⟨(w5.heap.size + 1), 0, none⟩) 2 2] 31)) (some ⟨b8, 0, none⟩) 2 (dC i true).f0 from Kd.C_below HFR.out (below_alloc (below_alloc (below_alloc (Below.refl _ _) _) _) _))
        have HI7 := Aside0.mk (show Kd.C (Kd.int .i64) (((w5.alloc (.cells #[.int .i64 0, .int .i64 1] 3)).alloc (.cells #[.int .i64 1, .int .i64 0] 3)).alloc (.cells #[.slice (some ⟨b8, 0, none⟩) 2 2, .slice (some ⟨(w5.heap.size + 1), 0, none⟩) 2 2] 31)) (some ⟨(w5.heap.size + 1), 0, none⟩) 2 (dC i true).f1 from Kd.C_below HI6.out (below_alloc (Below.refl _ _) _))
        have HC7 := Aside0.mk (show Kd.C k31 (((w5.alloc (.cells #[.int .i64 0, .int .i64 1] 3)).alloc (.cells #[.int .i64 1, .int .i64 0] 3)).alloc (.cells #[.slice (some ⟨b8, 0, none⟩) 2 2, .slice (some ⟨(w5.heap.size + 1), 0, none⟩) 2 2] 31)) (some ⟨w5.heap.size + 2, 0, none⟩) 1 [(dC i true)] from call1 (x := (dC i true)) (blk_new' _ _ (by simp)) HF6.out HI7.out)
        have HB7 := Aside0.mk (show Below w.heap.size w (((w5.alloc (.cells #[.int .i64 0, .int .i64 1] 3)).alloc (.cells #[.int .i64 1, .int .i64 0] 3)).alloc (.cells #[.slice (some ⟨b8, 0, none⟩) 2 2, .slice (some ⟨(w5.heap.size + 1), 0, none⟩) 2 2] 31)) from HB5.out.trans (Below.mono (below_alloc (below_alloc (below_alloc (Below.refl _ _) _) _) _) HB5.out.size))
        have K7 := Aside0.mk (recurse_Find.calls (some ⟨w5.heap.size + 2, 0, none⟩) 1 [(dC i true)] 2 0 false (((w5.alloc (.cells #[.int .i64 0, .int .i64 1] 3)).alloc (.cells #[.int .i64 1, .int .i64 0] 3)).alloc (.cells #[.slice (some ⟨b8, 0, none⟩) 2 2, .slice (some ⟨(w5.heap.size + 1), 0, none⟩) 2 2] 31)) HC7.out (Nat.le_refl _) (dC_find' i))
        clear HFR HI6
        go_wp2_with fail
        refine K7.out.mono ?_
        rintro e w8 ⟨rfl, hb8⟩
        have HF8 := Aside0.mk (Kd.C_below HF6.out hb8)
        have HI8 := Aside0.mk (Kd.C_below HI7.out hb8)
        have HB8 := Aside0.mk (HB7.out.trans (hb8.mono HB7.out.size))
        have HC9 := Aside0.mk (show Kd.C k31 (w8.alloc (.cells #[.slice (some ⟨b8, 0, none⟩) 2 2, .slice (some ⟨(w5.heap.size + 1), 0, none⟩) 2 2] 31)) (some ⟨w8.heap.size, 0, none⟩) 1 [(dC i true)] from call1 (x := (dC i true)) (blk_new w8 _) (Kd.C_below HF8.out (below_alloc (Below.refl _ _) _)) (Kd.C_below HI8.out (below_alloc (Below.refl _ _) _)))
        have HB9 := Aside0.mk (HB8.out.alloc HB8.out.size (.cells #[.slice (some ⟨b8, 0, none⟩) 2 2, .slice (some ⟨(w5.heap.size + 1), 0, none⟩) 2 2] 31))
        have K9 := Aside0.mk (recurse_Order.calls (some ⟨w8.heap.size, 0, none⟩) 1 [(dC i true)] 2 [] false (w8.alloc (.cells #[.slice (some ⟨b8, 0, none⟩) 2 2, .slice (some ⟨(w5.heap.size + 1), 0, none⟩) 2 2] 31)) HC9.out (Nat.le_refl _) (dC_order' i))
        clear hb8 K7 HF6 HI7 HC7
        go_wp2_with fail
        refine K9.out.mono ?_
        rintro e w10 ⟨v, rfl, hr10, hb10⟩
        have HB10 := Aside0.mk (HB9.out.trans (hb10.mono HB9.out.size))
        have HR10 := Aside0.mk hr10
        clear hr10 hb10 K9
        obtain ⟨A10, c10, rfl⟩ := Kd.R_slice HR10.out
        go_wp2
        go_ret
        exact ⟨rfl, HB10.out⟩
end Go.Proofs.Ytbopadglafbdjaa.PX
