/- A function's text is put. -/
import Derived.Test.YthdfpbemdaabaaaDoorTT
set_option linter.unusedVariables false
set_option linter.unusedSimpArgs false
namespace Go.Proofs.YthdfpbemdaabaaaDoor.D
open Go Go.RowKit Go.Proofs.YthdfpbemdaabaaaDoorW.PrintWords Go.Proofs.YthdfpbemdaabaaaDoorW.PrintLast Go.Proofs.YthdfpbemdaabaaaDoorW.PrintMore
def bLam : ByteArray := ⟨#[92]⟩
def bArr : ByteArray := ⟨#[32, 45, 62, 32]⟩
def bCol : ByteArray := ⟨#[32, 58, 32]⟩
def bOp : Bool → ByteArray
  | true => ⟨#[123]⟩
  | false => ⟨#[40]⟩
def bCl : Bool → ByteArray
  | true => ⟨#[125]⟩
  | false => ⟨#[41]⟩
/-- A term's text, below so many binders. -/
def txt : Tm → Nat → List ByteArray
  | .v n, d => if n < d then [bX, dg (d - 1 - n)] else [bF, dg (n - d)]
  | .s, _ => [bSet, dg 0]
  | .l h x y, d => [bLam, bOp h, bX] ++ [dg d] ++ [bCol] ++ txt x d ++ [bCl h, bArr] ++ txt y (d + 1)
/-- What putting a term is. -/
def TC (t : Tm) (d : Nat) : Prop := ∀ (B G : Nat) (bs : List Value) (w : World) (lv kv : Value), TmV w t lv kv → Lib.IsBuilder 45 5 B G bs w → B ≤ w.heap.size → bs.length + (strs (txt t d)).length ≤ 8000000 →
  Calls Tryd.prog 12 #[.pointer (some ⟨G, 0, none⟩), t.val lv kv, .int .i64 (d : Int)] w fun e w' => e = .returned (.tuple #[]) ∧ Pr B G w (bs ++ strs (txt t d)) w'

set_option maxHeartbeats 8000000 in
set_option maxRecDepth 100000 in
theorem binder_false (x y : Tm) (d : Nat) (hd : d < 99) (hx : TC x d) (hy : TC y (d + 1)) (B G : Nat) (bs : List Value) (w : World) (lv kv : Value) (hT : TmV w (.l false x y) lv kv) (h : Lib.IsBuilder 45 5 B G bs w) (hB : B ≤ w.heap.size) (hl : bs.length + (strs (txt (.l false x y) d)).length ≤ 8000000) :
    Calls Tryd.prog 39 #[.pointer (some ⟨G, 0, none⟩), (Tm.l false x y).val lv kv, .int .i64 (d : Int), .string bLam, .string bArr] w fun e w' => e = .returned (.tuple #[]) ∧ Pr B G w (bs ++ strs (txt (.l false x y) d)) w' := by
  obtain ⟨rfl, b, lx, kx, ly, ky, rfl, hb, hvx, hvy⟩ := hT
  have HT := Aside0.mk (show txt (.l false x y) d = [bLam, bOp false, bX] ++ [dg d] ++ [bCol] ++ txt x d ++ [bCl false, bArr] ++ txt y (d + 1) from rfl)
  have HB := Aside0.mk hB
  have HL := Aside0.mk (show bs.length + ((strs [bLam, bOp false, bX]).length + (strs [dg d]).length + (strs [bCol]).length + (strs (txt x d)).length + (strs [bCl false, bArr]).length + (strs (txt y (d + 1))).length) ≤ 8000000 by
    rw [HT.out] at hl; simp only [strs_app, List.length_append] at hl; exact hl)
  have HX := Aside0.mk hx
  have HY := Aside0.mk hy
  have HD := Aside0.mk hd
  have HK := Aside0.mk (blk_new w (.cells #[.int .i64 4, .int .i64 0, .bool false, .string ⟨#[]⟩, .slice none 0 0, .slice (some ⟨b, 0, none⟩) 2 2] 26))
  have HLB := Aside0.mk (blk_alloc hb (.cells #[.int .i64 4, .int .i64 0, .bool false, .string ⟨#[]⟩, .slice none 0 0, .slice (some ⟨b, 0, none⟩) 2 2] 26))
  have HVX := Aside0.mk (hvx.alloc (.cells #[.int .i64 4, .int .i64 0, .bool false, .string ⟨#[]⟩, .slice none 0 0, .slice (some ⟨b, 0, none⟩) 2 2] 26))
  have HVY := Aside0.mk (hvy.alloc (.cells #[.int .i64 4, .int .i64 0, .bool false, .string ⟨#[]⟩, .slice none 0 0, .slice (some ⟨b, 0, none⟩) 2 2] 26))
  have HI := Aside0.mk (builder_alloc h (.cells #[.int .i64 4, .int .i64 0, .bool false, .string ⟨#[]⟩, .slice none 0 0, .slice (some ⟨b, 0, none⟩) 2 2] 26))
  have HB1 := Aside0.mk (show B ≤ (w.alloc (.cells #[.int .i64 4, .int .i64 0, .bool false, .string ⟨#[]⟩, .slice none 0 0, .slice (some ⟨b, 0, none⟩) 2 2] 26)).heap.size by simp; omega)
  clear h hB hl hb hvx hvy hx hy hd
  have HP := Aside0.mk (put_at B G bs [bLam, bOp false, bX] _ (w.heap.size + 1) (by simp) HI.out HB1.out (by simp) (by have := HL.out; omega))
  show Calls Tryd.prog 39 #[.pointer (some ⟨G, 0, none⟩), .agg #[.int .i64 4, .int .i64 0, .bool false, .string ⟨#[]⟩, .slice none 0 0, .slice (some ⟨b, 0, none⟩) 2 2], .int .i64 (d : Int), .string bLam, .string bArr] w _
  go_enter Tryd.func39, Tryd.ntmps39
  go_wp2_with fail
  refine HP.out.mono ?_
  rintro e w2 ⟨rfl, hP⟩
  have K2 := Aside0.mk (keepB HI.out hP HK.out (by decide) (by decide))
  have L2 := Aside0.mk (keepB HI.out hP HLB.out (by decide) (by decide))
  have X2 := Aside0.mk (HVX.out.pr HI.out hP)
  have Y2 := Aside0.mk (HVY.out.pr HI.out hP)
  have P2 := Aside0.mk (hP.al HB.out)
  have N2 := Aside0.mk (number_calls B G _ d (by have := HD.out; omega) w2 hP.is (hP.le HB1.out) (by rw [List.length_append]; have := HL.out; omega))
  clear hP HP HK HLB HVX HVY
  go_wp2_with fail
  refine N2.out.mono ?_
  rintro e w3 ⟨rfl, hP⟩
  have K3 := Aside0.mk (keepB P2.out.is hP K2.out (by decide) (by decide))
  have L3 := Aside0.mk (keepB P2.out.is hP L2.out (by decide) (by decide))
  have X3 := Aside0.mk (X2.out.pr P2.out.is hP)
  have Y3 := Aside0.mk (Y2.out.pr P2.out.is hP)
  have P3 := Aside0.mk (P2.out.trans hP)
  have C3 := Aside0.mk (put_new B G _ [bCol] w3 hP.is (hP.le (P2.out.le HB.out)) (by simp) (by simp only [List.length_append]; have := HL.out; omega))
  clear hP K2 L2 X2 Y2 N2
  go_wp2_with fail
  refine C3.out.mono ?_
  rintro e w4 ⟨rfl, hP⟩
  have K4 := Aside0.mk (keepB P3.out.is hP K3.out (by decide) (by decide))
  have L4 := Aside0.mk (keepB P3.out.is hP L3.out (by decide) (by decide))
  have X4 := Aside0.mk (X3.out.pr P3.out.is hP)
  have Y4 := Aside0.mk (Y3.out.pr P3.out.is hP)
  have P4 := Aside0.mk (P3.out.trans hP)
  have T4 := Aside0.mk (HX.out B G _ w4 lx kx X4.out hP.is (hP.le (P3.out.le HB.out)) (by simp only [List.length_append]; have := HL.out; omega))
  have k5 : w4.cell? ⟨w.heap.size, 5, none⟩ = some (.slice (some ⟨b, 0, none⟩) 2 2) := (blk_cell K4.out 5).trans rfl
  have b0 : w4.cell? ⟨b, 0, none⟩ = some (.int .i64 x.f) := (blk_cell L4.out 0).trans rfl
  have b1 : w4.cell? ⟨b, 1, none⟩ = some (.int .i64 x.n) := (blk_cell L4.out 1).trans rfl
  have b2 : w4.cell? ⟨b, 2, none⟩ = some (.bool x.h) := (blk_cell L4.out 2).trans rfl
  have b3 : w4.cell? ⟨b, 3, none⟩ = some (.string ⟨#[]⟩) := (blk_cell L4.out 3).trans rfl
  have b4 : w4.cell? ⟨b, 4, none⟩ = some lx := (blk_cell L4.out 4).trans rfl
  have b5 : w4.cell? ⟨b, 5, none⟩ = some kx := (blk_cell L4.out 5).trans rfl
  clear hP K3 L3 X3 Y3 C3
  go_wp2_with fail
  refine (show Calls Tryd.prog 12 #[.pointer (some ⟨G, 0, none⟩), .agg #[.int .i64 x.f, .int .i64 x.n, .bool x.h, .string ⟨#[]⟩, lx, kx], .int .i64 (d : Int)] w4 _ from T4.out).mono ?_
  rintro e w5 ⟨rfl, hP⟩
  have K5 := Aside0.mk (keepB P4.out.is hP K4.out (by decide) (by decide))
  have L5 := Aside0.mk (keepB P4.out.is hP L4.out (by decide) (by decide))
  have Y5 := Aside0.mk (Y4.out.pr P4.out.is hP)
  have P5 := Aside0.mk (P4.out.trans hP)
  have C5 := Aside0.mk (put_new B G _ [bCl false, bArr] w5 hP.is (hP.le (P4.out.le HB.out)) (by simp) (by simp only [List.length_append]; have := HL.out; omega))
  clear hP K4 L4 X4 Y4 T4 k5 b0 b1 b2 b3 b4 b5
  go_wp2_with fail
  refine C5.out.mono ?_
  rintro e w6 ⟨rfl, hP⟩
  have K6 := Aside0.mk (keepB P5.out.is hP K5.out (by decide) (by decide))
  have L6 := Aside0.mk (keepB P5.out.is hP L5.out (by decide) (by decide))
  have Y6 := Aside0.mk (Y5.out.pr P5.out.is hP)
  have P6 := Aside0.mk (P5.out.trans hP)
  have T6 := Aside0.mk (HY.out B G _ w6 ly ky Y6.out hP.is (hP.le (P5.out.le HB.out)) (by simp only [List.length_append]; have := HL.out; omega))
  have k5 : w6.cell? ⟨w.heap.size, 5, none⟩ = some (.slice (some ⟨b, 0, none⟩) 2 2) := (blk_cell K6.out 5).trans rfl
  have b0 : w6.cell? ⟨b, 6, none⟩ = some (.int .i64 y.f) := (blk_cell L6.out 6).trans rfl
  have b1 : w6.cell? ⟨b, 7, none⟩ = some (.int .i64 y.n) := (blk_cell L6.out 7).trans rfl
  have b2 : w6.cell? ⟨b, 8, none⟩ = some (.bool y.h) := (blk_cell L6.out 8).trans rfl
  have b3 : w6.cell? ⟨b, 9, none⟩ = some (.string ⟨#[]⟩) := (blk_cell L6.out 9).trans rfl
  have b4 : w6.cell? ⟨b, 10, none⟩ = some ly := (blk_cell L6.out 10).trans rfl
  have b5 : w6.cell? ⟨b, 11, none⟩ = some ky := (blk_cell L6.out 11).trans rfl
  have hw : wrap64 ((d : Int) + 1) = (d : Int) + 1 := by unfold wrap64; have := HD.out; omega
  clear hP K5 L5 Y5 C5
  go_wp2_with fail
  refine (show Calls Tryd.prog 12 #[.pointer (some ⟨G, 0, none⟩), .agg #[.int .i64 y.f, .int .i64 y.n, .bool y.h, .string ⟨#[]⟩, ly, ky], .int .i64 ((d : Int) + 1)] w6 _ from T6.out).mono ?_
  rintro e w7 ⟨rfl, hP⟩
  have P7 := Aside0.mk (P6.out.trans hP)
  clear hP
  go_wp2
  go_end0
  refine ⟨rfl, ?_⟩
  have h7 := P7.out
  rw [HT.out]
  simp only [strs_app] at h7 ⊢
  simp only [List.append_assoc] at h7 ⊢
  exact h7

set_option maxHeartbeats 8000000 in
set_option maxRecDepth 100000 in
theorem binder_true (x y : Tm) (d : Nat) (hd : d < 99) (hx : TC x d) (hy : TC y (d + 1)) (B G : Nat) (bs : List Value) (w : World) (lv kv : Value) (hT : TmV w (.l true x y) lv kv) (h : Lib.IsBuilder 45 5 B G bs w) (hB : B ≤ w.heap.size) (hl : bs.length + (strs (txt (.l true x y) d)).length ≤ 8000000) :
    Calls Tryd.prog 39 #[.pointer (some ⟨G, 0, none⟩), (Tm.l true x y).val lv kv, .int .i64 (d : Int), .string bLam, .string bArr] w fun e w' => e = .returned (.tuple #[]) ∧ Pr B G w (bs ++ strs (txt (.l true x y) d)) w' := by
  obtain ⟨rfl, b, lx, kx, ly, ky, rfl, hb, hvx, hvy⟩ := hT
  have HT := Aside0.mk (show txt (.l true x y) d = [bLam, bOp true, bX] ++ [dg d] ++ [bCol] ++ txt x d ++ [bCl true, bArr] ++ txt y (d + 1) from rfl)
  have HB := Aside0.mk hB
  have HL := Aside0.mk (show bs.length + ((strs [bLam, bOp true, bX]).length + (strs [dg d]).length + (strs [bCol]).length + (strs (txt x d)).length + (strs [bCl true, bArr]).length + (strs (txt y (d + 1))).length) ≤ 8000000 by
    rw [HT.out] at hl; simp only [strs_app, List.length_append] at hl; exact hl)
  have HX := Aside0.mk hx
  have HY := Aside0.mk hy
  have HD := Aside0.mk hd
  have HK := Aside0.mk (blk_new w (.cells #[.int .i64 4, .int .i64 0, .bool true, .string ⟨#[]⟩, .slice none 0 0, .slice (some ⟨b, 0, none⟩) 2 2] 26))
  have HLB := Aside0.mk (blk_alloc hb (.cells #[.int .i64 4, .int .i64 0, .bool true, .string ⟨#[]⟩, .slice none 0 0, .slice (some ⟨b, 0, none⟩) 2 2] 26))
  have HVX := Aside0.mk (hvx.alloc (.cells #[.int .i64 4, .int .i64 0, .bool true, .string ⟨#[]⟩, .slice none 0 0, .slice (some ⟨b, 0, none⟩) 2 2] 26))
  have HVY := Aside0.mk (hvy.alloc (.cells #[.int .i64 4, .int .i64 0, .bool true, .string ⟨#[]⟩, .slice none 0 0, .slice (some ⟨b, 0, none⟩) 2 2] 26))
  have HI := Aside0.mk (builder_alloc h (.cells #[.int .i64 4, .int .i64 0, .bool true, .string ⟨#[]⟩, .slice none 0 0, .slice (some ⟨b, 0, none⟩) 2 2] 26))
  have HB1 := Aside0.mk (show B ≤ (w.alloc (.cells #[.int .i64 4, .int .i64 0, .bool true, .string ⟨#[]⟩, .slice none 0 0, .slice (some ⟨b, 0, none⟩) 2 2] 26)).heap.size by simp; omega)
  clear h hB hl hb hvx hvy hx hy hd
  have HP := Aside0.mk (put_at B G bs [bLam, bOp true, bX] _ (w.heap.size + 1) (by simp) HI.out HB1.out (by simp) (by have := HL.out; omega))
  show Calls Tryd.prog 39 #[.pointer (some ⟨G, 0, none⟩), .agg #[.int .i64 4, .int .i64 0, .bool true, .string ⟨#[]⟩, .slice none 0 0, .slice (some ⟨b, 0, none⟩) 2 2], .int .i64 (d : Int), .string bLam, .string bArr] w _
  go_enter Tryd.func39, Tryd.ntmps39
  go_wp2_with fail
  refine HP.out.mono ?_
  rintro e w2 ⟨rfl, hP⟩
  have K2 := Aside0.mk (keepB HI.out hP HK.out (by decide) (by decide))
  have L2 := Aside0.mk (keepB HI.out hP HLB.out (by decide) (by decide))
  have X2 := Aside0.mk (HVX.out.pr HI.out hP)
  have Y2 := Aside0.mk (HVY.out.pr HI.out hP)
  have P2 := Aside0.mk (hP.al HB.out)
  have N2 := Aside0.mk (number_calls B G _ d (by have := HD.out; omega) w2 hP.is (hP.le HB1.out) (by rw [List.length_append]; have := HL.out; omega))
  clear hP HP HK HLB HVX HVY
  go_wp2_with fail
  refine N2.out.mono ?_
  rintro e w3 ⟨rfl, hP⟩
  have K3 := Aside0.mk (keepB P2.out.is hP K2.out (by decide) (by decide))
  have L3 := Aside0.mk (keepB P2.out.is hP L2.out (by decide) (by decide))
  have X3 := Aside0.mk (X2.out.pr P2.out.is hP)
  have Y3 := Aside0.mk (Y2.out.pr P2.out.is hP)
  have P3 := Aside0.mk (P2.out.trans hP)
  have C3 := Aside0.mk (put_new B G _ [bCol] w3 hP.is (hP.le (P2.out.le HB.out)) (by simp) (by simp only [List.length_append]; have := HL.out; omega))
  clear hP K2 L2 X2 Y2 N2
  go_wp2_with fail
  refine C3.out.mono ?_
  rintro e w4 ⟨rfl, hP⟩
  have K4 := Aside0.mk (keepB P3.out.is hP K3.out (by decide) (by decide))
  have L4 := Aside0.mk (keepB P3.out.is hP L3.out (by decide) (by decide))
  have X4 := Aside0.mk (X3.out.pr P3.out.is hP)
  have Y4 := Aside0.mk (Y3.out.pr P3.out.is hP)
  have P4 := Aside0.mk (P3.out.trans hP)
  have T4 := Aside0.mk (HX.out B G _ w4 lx kx X4.out hP.is (hP.le (P3.out.le HB.out)) (by simp only [List.length_append]; have := HL.out; omega))
  have k5 : w4.cell? ⟨w.heap.size, 5, none⟩ = some (.slice (some ⟨b, 0, none⟩) 2 2) := (blk_cell K4.out 5).trans rfl
  have b0 : w4.cell? ⟨b, 0, none⟩ = some (.int .i64 x.f) := (blk_cell L4.out 0).trans rfl
  have b1 : w4.cell? ⟨b, 1, none⟩ = some (.int .i64 x.n) := (blk_cell L4.out 1).trans rfl
  have b2 : w4.cell? ⟨b, 2, none⟩ = some (.bool x.h) := (blk_cell L4.out 2).trans rfl
  have b3 : w4.cell? ⟨b, 3, none⟩ = some (.string ⟨#[]⟩) := (blk_cell L4.out 3).trans rfl
  have b4 : w4.cell? ⟨b, 4, none⟩ = some lx := (blk_cell L4.out 4).trans rfl
  have b5 : w4.cell? ⟨b, 5, none⟩ = some kx := (blk_cell L4.out 5).trans rfl
  clear hP K3 L3 X3 Y3 C3
  go_wp2_with fail
  refine (show Calls Tryd.prog 12 #[.pointer (some ⟨G, 0, none⟩), .agg #[.int .i64 x.f, .int .i64 x.n, .bool x.h, .string ⟨#[]⟩, lx, kx], .int .i64 (d : Int)] w4 _ from T4.out).mono ?_
  rintro e w5 ⟨rfl, hP⟩
  have K5 := Aside0.mk (keepB P4.out.is hP K4.out (by decide) (by decide))
  have L5 := Aside0.mk (keepB P4.out.is hP L4.out (by decide) (by decide))
  have Y5 := Aside0.mk (Y4.out.pr P4.out.is hP)
  have P5 := Aside0.mk (P4.out.trans hP)
  have C5 := Aside0.mk (put_new B G _ [bCl true, bArr] w5 hP.is (hP.le (P4.out.le HB.out)) (by simp) (by simp only [List.length_append]; have := HL.out; omega))
  clear hP K4 L4 X4 Y4 T4 k5 b0 b1 b2 b3 b4 b5
  go_wp2_with fail
  refine C5.out.mono ?_
  rintro e w6 ⟨rfl, hP⟩
  have K6 := Aside0.mk (keepB P5.out.is hP K5.out (by decide) (by decide))
  have L6 := Aside0.mk (keepB P5.out.is hP L5.out (by decide) (by decide))
  have Y6 := Aside0.mk (Y5.out.pr P5.out.is hP)
  have P6 := Aside0.mk (P5.out.trans hP)
  have T6 := Aside0.mk (HY.out B G _ w6 ly ky Y6.out hP.is (hP.le (P5.out.le HB.out)) (by simp only [List.length_append]; have := HL.out; omega))
  have k5 : w6.cell? ⟨w.heap.size, 5, none⟩ = some (.slice (some ⟨b, 0, none⟩) 2 2) := (blk_cell K6.out 5).trans rfl
  have b0 : w6.cell? ⟨b, 6, none⟩ = some (.int .i64 y.f) := (blk_cell L6.out 6).trans rfl
  have b1 : w6.cell? ⟨b, 7, none⟩ = some (.int .i64 y.n) := (blk_cell L6.out 7).trans rfl
  have b2 : w6.cell? ⟨b, 8, none⟩ = some (.bool y.h) := (blk_cell L6.out 8).trans rfl
  have b3 : w6.cell? ⟨b, 9, none⟩ = some (.string ⟨#[]⟩) := (blk_cell L6.out 9).trans rfl
  have b4 : w6.cell? ⟨b, 10, none⟩ = some ly := (blk_cell L6.out 10).trans rfl
  have b5 : w6.cell? ⟨b, 11, none⟩ = some ky := (blk_cell L6.out 11).trans rfl
  have hw : wrap64 ((d : Int) + 1) = (d : Int) + 1 := by unfold wrap64; have := HD.out; omega
  clear hP K5 L5 Y5 C5
  go_wp2_with fail
  refine (show Calls Tryd.prog 12 #[.pointer (some ⟨G, 0, none⟩), .agg #[.int .i64 y.f, .int .i64 y.n, .bool y.h, .string ⟨#[]⟩, ly, ky], .int .i64 ((d : Int) + 1)] w6 _ from T6.out).mono ?_
  rintro e w7 ⟨rfl, hP⟩
  have P7 := Aside0.mk (P6.out.trans hP)
  clear hP
  go_wp2
  go_end0
  refine ⟨rfl, ?_⟩
  have h7 := P7.out
  rw [HT.out]
  simp only [strs_app] at h7 ⊢
  simp only [List.append_assoc] at h7 ⊢
  exact h7

theorem binder_calls (hb : Bool) (x y : Tm) (d : Nat) (hd : d < 99) (hx : TC x d) (hy : TC y (d + 1)) (B G : Nat) (bs : List Value) (w : World) (lv kv : Value) (hT : TmV w (.l hb x y) lv kv) (h : Lib.IsBuilder 45 5 B G bs w) (hB : B ≤ w.heap.size) (hl : bs.length + (strs (txt (.l hb x y) d)).length ≤ 8000000) :
    Calls Tryd.prog 39 #[.pointer (some ⟨G, 0, none⟩), (Tm.l hb x y).val lv kv, .int .i64 (d : Int), .string bLam, .string bArr] w fun e w' => e = .returned (.tuple #[]) ∧ Pr B G w (bs ++ strs (txt (.l hb x y) d)) w' := by
  cases hb
  · exact binder_false x y d hd hx hy B G bs w lv kv hT h hB hl
  · exact binder_true x y d hd hx hy B G bs w lv kv hT h hB hl
set_option maxHeartbeats 4000000 in
set_option maxRecDepth 100000 in
theorem lam_calls (hb : Bool) (x y : Tm) (d : Nat) (hd : d < 99) (hx : TC x d) (hy : TC y (d + 1)) (B G : Nat) (bs : List Value) (w : World) (lv kv : Value) (hT : TmV w (.l hb x y) lv kv) (h : Lib.IsBuilder 45 5 B G bs w) (hB : B ≤ w.heap.size) (hl : bs.length + (strs (txt (.l hb x y) d)).length ≤ 8000000) :
    Calls Tryd.prog 21 #[.pointer (some ⟨G, 0, none⟩), (Tm.l hb x y).val lv kv, .int .i64 (d : Int)] w fun e w' => e = .returned (.tuple #[]) ∧ Pr B G w (bs ++ strs (txt (.l hb x y) d)) w' := by
  have HB := Aside0.mk hB
  have H := Aside0.mk (binder_calls hb x y d hd hx hy B G bs (w.alloc (.cells #[.int .i64 4, .int .i64 0, .bool hb, .string ⟨#[]⟩, lv, kv] 26)) lv kv (hT.alloc _) (builder_alloc h _) (by simp; omega) hl)
  clear hT h hB hl hx hy
  show Calls Tryd.prog 21 #[.pointer (some ⟨G, 0, none⟩), .agg #[.int .i64 4, .int .i64 0, .bool hb, .string ⟨#[]⟩, lv, kv], .int .i64 (d : Int)] w _
  go_enter Tryd.func21, Tryd.ntmps21
  go_wp2_with fail
  refine (show Calls Tryd.prog 39 #[.pointer (some ⟨G, 0, none⟩), .agg #[.int .i64 4, .int .i64 0, .bool hb, .string ⟨#[]⟩, lv, kv], .int .i64 (d : Int), .string ⟨#[92]⟩, .string ⟨#[32, 45, 62, 32]⟩] _ _ from H.out).mono ?_
  rintro e w2 ⟨rfl, hP⟩
  have HP := Aside0.mk (hP.al HB.out)
  clear hP
  go_wp2
  go_end0
  exact ⟨rfl, HP.out⟩
set_option maxHeartbeats 4000000 in
set_option maxRecDepth 100000 in
theorem len_calls (B G : Nat) (bs : List Value) (w : World) (h : Lib.IsBuilder 45 5 B G bs w) : Calls Tryd.prog 17 #[.pointer (some ⟨G, 0, none⟩)] w fun e w' => e = .returned (.int .i64 (bs.length : Int)) ∧ w' = w := by
  have hv : ∃ (ao : Option Addr) (c : Nat), w.cell? ⟨G, 1, none⟩ = some (.slice ao bs.length c) := by
    rcases h with ⟨_, v, hb, hown, _⟩ | ⟨_, v, hb, hown, _⟩ <;>
    · rcases hown.2 with ⟨hv, hn⟩ | ⟨g, cap, cur, hv, _⟩
      · exact ⟨none, 0, by rw [blk_cell hb 1, hv, hn]; rfl⟩
      · exact ⟨_, cap, by rw [blk_cell hb 1, hv]; rfl⟩
  obtain ⟨ao, c, hc⟩ := hv
  clear h
  go_enter Tryd.func17, Tryd.ntmps17
  go_wp2
  go_ret
  exact ⟨rfl, rfl⟩
end Go.Proofs.YthdfpbemdaabaaaDoor.D
