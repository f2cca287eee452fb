/- The writer's terms. -/
import Derived.Test.YthdfpbemdaabaaaDoorTX
set_option linter.unusedVariables false
set_option linter.unusedSimpArgs false
namespace Go.Proofs.YthdfpbemdaabaaaDoor.D
open Go Go.RowKit Go.Proofs.YthdfpbemdaabaaaDoorW.PrintWords Go.Proofs.YthdfpbemdaabaaaDoorW.PrintLast Go.Proofs.YthdfpbemdaabaaaDoorW.PrintMore
/-- How many bytes a term takes. -/
def wl : Tm → Nat
  | .v _ => 2
  | .s => 3
  | .l _ x y => 2 + wl x + wl y
/-- What writing a term is. -/
def WC (t : Tm) : Prop := ∀ (B G : Nat) (bs : List Int) (w : World) (lv kv : Value), TmV w t lv kv → Ws B G bs w → B ≤ w.heap.size → bs.length + wl t ≤ 80000 →
  Calls Tryd.prog 15 #[.pointer (some ⟨G, 0, none⟩), t.val lv kv] w fun e w' => e = .returned (.tuple #[]) ∧ ∃ cs, cs.length = wl t ∧ Wr B G w (bs ++ cs) w'
theorem Ws.cell {B G : Nat} {bs : List Int} {w : World} (h : Ws B G bs w) : ∃ A c, w.cell? ⟨G, 0, none⟩ = some (.slice A bs.length c) := by
  obtain ⟨v, hG, hR⟩ := h.is
  obtain ⟨A, c, rfl⟩ := Kd.R_slice hR
  exact ⟨A, c, (blk_cell hG 0).trans rfl⟩
set_option maxHeartbeats 4000000 in
set_option maxRecDepth 100000 in
theorem wterm_v (n : Nat) (hn : n < 128) : WC (.v n) := by
  intro B G bs w lv kv hT h hB hl
  obtain ⟨rfl, rfl⟩ := hT
  have HB := Aside0.mk hB
  have HN := Aside0.mk hn
  have HL := Aside0.mk (show bs.length + 2 ≤ 80000 from hl)
  have h1 := h.below (below_alloc (Below.refl _ _) (.cells #[.int .i64 1, .int .i64 (n : Int), .bool false, .string ⟨#[]⟩, .slice none 0 0, .slice none 0 0] 26))
  have H1 := Aside0.mk h1
  obtain ⟨A0, c0, hc0⟩ := h1.cell
  have HK := Aside0.mk (blk_new w (.cells #[.int .i64 1, .int .i64 (n : Int), .bool false, .string ⟨#[]⟩, .slice none 0 0, .slice none 0 0] 26))
  have hll : ¬ (bs.length : Int) > 1000000 := by have := HL.out; omega
  have N1 := Aside0.mk (show Calls Tryd.prog 32 #[.pointer (some ⟨G, 0, none⟩), .int .i64 1] _ fun e w' => e = .returned (.tuple #[]) ∧ Wr B G _ (bs ++ [1]) w' from
    num_calls B G bs 1 (by decide) _ h1 (by simp; omega) (by have := HL.out; omega))
  clear h hB hl h1 hn
  show Calls Tryd.prog 15 #[.pointer (some ⟨G, 0, none⟩), .agg #[.int .i64 1, .int .i64 (n : Int), .bool false, .string ⟨#[]⟩, .slice none 0 0, .slice none 0 0]] w _
  go_enter Tryd.func15, Tryd.ntmps15
  go_wp2_with fail
  refine N1.out.mono ?_
  rintro e w2 ⟨rfl, hP⟩
  have P2 := Aside0.mk (hP.al HB.out)
  have K2 := Aside0.mk (keepW H1.out hP HK.out (by decide) (by decide))
  have d0 : w2.cell? ⟨w.heap.size, 0, none⟩ = some (.int .i64 1) := (blk_cell K2.out 0).trans rfl
  have d1 : w2.cell? ⟨w.heap.size, 1, none⟩ = some (.int .i64 (n : Int)) := (blk_cell K2.out 1).trans rfl
  have N2 := Aside0.mk (num_calls B G (bs ++ [1]) n HN.out w2 hP.is (by have := P2.out.bel.size; have := HB.out; omega) (by have := HL.out; simp; omega))
  clear hP hc0
  go_wp2_with fail
  refine N2.out.mono ?_
  rintro e w3 ⟨rfl, hP⟩
  have P3 := Aside0.mk (P2.out.trans hP)
  have K3 := Aside0.mk (keepW P2.out.is hP K2.out (by decide) (by decide))
  have d5 : w3.cell? ⟨w.heap.size, 5, none⟩ = some (.slice none 0 0) := (blk_cell K3.out 5).trans rfl
  clear hP d0 d1
  go_wp2
  refine wp_loop_rounds 1 ?_
  rw [rounds_succ]
  go_wp2
  go_end0
  exact ⟨rfl, [1, (n : Int)], rfl, by have := P3.out; rwa [List.append_assoc] at this⟩
set_option maxHeartbeats 4000000 in
set_option maxRecDepth 100000 in
theorem wterm_s : WC .s := by
  intro B G bs w lv kv hT h hB hl
  obtain ⟨rfl, b, rfl, hb⟩ := hT
  have HB := Aside0.mk hB
  have HL := Aside0.mk (show bs.length + 3 ≤ 80000 from hl)
  have h1 := h.below (below_alloc (Below.refl _ _) (.cells #[.int .i64 2, .int .i64 0, .bool false, .string ⟨#[]⟩, .slice (some ⟨b, 0, none⟩) 1 1, .slice none 0 0] 26))
  have H1 := Aside0.mk h1
  obtain ⟨A0, c0, hc0⟩ := h1.cell
  have HK := Aside0.mk (blk_new w (.cells #[.int .i64 2, .int .i64 0, .bool false, .string ⟨#[]⟩, .slice (some ⟨b, 0, none⟩) 1 1, .slice none 0 0] 26))
  have HLB := Aside0.mk (blk_alloc hb (.cells #[.int .i64 2, .int .i64 0, .bool false, .string ⟨#[]⟩, .slice (some ⟨b, 0, none⟩) 1 1, .slice none 0 0] 26))
  have hll : ¬ (bs.length : Int) > 1000000 := by have := HL.out; omega
  have N1 := Aside0.mk (show Calls Tryd.prog 32 #[.pointer (some ⟨G, 0, none⟩), .int .i64 2] _ fun e w' => e = .returned (.tuple #[]) ∧ Wr B G _ (bs ++ [2]) w' from
    num_calls B G bs 2 (by decide) _ h1 (by simp; omega) (by have := HL.out; omega))
  clear h hB hl h1 hb
  show Calls Tryd.prog 15 #[.pointer (some ⟨G, 0, none⟩), .agg #[.int .i64 2, .int .i64 0, .bool false, .string ⟨#[]⟩, .slice (some ⟨b, 0, none⟩) 1 1, .slice none 0 0]] w _
  go_enter Tryd.func15, Tryd.ntmps15
  go_wp2_with fail
  refine N1.out.mono ?_
  rintro e w2 ⟨rfl, hP⟩
  have P2 := Aside0.mk (hP.al HB.out)
  have K2 := Aside0.mk (keepW H1.out hP HK.out (by decide) (by decide))
  have L2 := Aside0.mk (keepW H1.out hP HLB.out (by decide) (by decide))
  have d0 : w2.cell? ⟨w.heap.size, 0, none⟩ = some (.int .i64 2) := (blk_cell K2.out 0).trans rfl
  have d4 : w2.cell? ⟨w.heap.size, 4, none⟩ = some (.slice (some ⟨b, 0, none⟩) 1 1) := (blk_cell K2.out 4).trans rfl
  have N2 := Aside0.mk (levs_calls B G b (bs ++ [2]) w2 hP.is (by have := P2.out.bel.size; have := HB.out; omega) (by have := HL.out; simp; omega) L2.out)
  clear hP hc0
  go_wp2_with fail
  refine N2.out.mono ?_
  rintro e w3 ⟨rfl, hP⟩
  have P3 := Aside0.mk (P2.out.trans hP)
  have K3 := Aside0.mk (keepW P2.out.is hP K2.out (by decide) (by decide))
  have d5 : w3.cell? ⟨w.heap.size, 5, none⟩ = some (.slice none 0 0) := (blk_cell K3.out 5).trans rfl
  clear hP d0 d4
  go_wp2
  refine wp_loop_rounds 1 ?_
  rw [rounds_succ]
  go_wp2
  go_end0
  exact ⟨rfl, [2, 0, 0], rfl, by have := P3.out; simpa [List.append_assoc] using this⟩
theorem TmV.sl {W : World} {t : Tm} {lv kv : Value} (h : TmV W t lv kv) : ∃ a n c a' n' c', lv = .slice a n c ∧ kv = .slice a' n' c' := by
  cases t with
  | v n => obtain ⟨rfl, rfl⟩ := h; exact ⟨_, _, _, _, _, _, rfl, rfl⟩
  | s => obtain ⟨rfl, b, rfl, _⟩ := h; exact ⟨_, _, _, _, _, _, rfl, rfl⟩
  | l hb x y => obtain ⟨rfl, b, _, _, _, _, rfl, _⟩ := h; exact ⟨_, _, _, _, _, _, rfl, rfl⟩
set_option maxRecDepth 100000 in
theorem bit_calls (hb : Bool) (w : World) : Calls Tryd.prog 34 #[.bool hb] w fun e w' => e = .returned (.int .i64 ((if hb then 1 else 0 : Nat) : Int)) ∧ w' = w := by
  cases hb
  · go_enter Tryd.func34, Tryd.ntmps34
    go_wp2
    go_ret
    exact ⟨rfl, rfl⟩
  · go_enter Tryd.func34, Tryd.ntmps34
    go_wp2
    go_ret
    exact ⟨rfl, rfl⟩
set_option maxHeartbeats 8000000 in
set_option maxRecDepth 100000 in
theorem wterm_l (hb : Bool) (x y : Tm) (hx : WC x) (hy : WC y) : WC (.l hb x y) := by
  intro B G bs w lv kv hT h hB hl
  obtain ⟨rfl, b, lx, kx, ly, ky, rfl, hbl, hvx, hvy⟩ := hT
  obtain ⟨ax, nx, cx, ax', nx', cx', rfl, rfl⟩ := hvx.sl
  obtain ⟨ay, ny, cy, ay', ny', cy', rfl, rfl⟩ := hvy.sl
  have HB := Aside0.mk hB
  have HX := Aside0.mk hx
  have HY := Aside0.mk hy
  have HL := Aside0.mk (show bs.length + (2 + wl x + wl y) ≤ 80000 from hl)
  have h1 := h.below (below_alloc (Below.refl _ _) (.cells #[.int .i64 4, .int .i64 0, .bool hb, .string ⟨#[]⟩, .slice none 0 0, .slice (some ⟨b, 0, none⟩) 2 2] 26))
  have H1 := Aside0.mk h1
  obtain ⟨A0, c0, hc0⟩ := h1.cell
  have HK := Aside0.mk (blk_new w (.cells #[.int .i64 4, .int .i64 0, .bool hb, .string ⟨#[]⟩, .slice none 0 0, .slice (some ⟨b, 0, none⟩) 2 2] 26))
  have HLB := Aside0.mk (blk_alloc hbl (.cells #[.int .i64 4, .int .i64 0, .bool hb, .string ⟨#[]⟩, .slice none 0 0, .slice (some ⟨b, 0, none⟩) 2 2] 26))
  have HVX := Aside0.mk (hvx.alloc (.cells #[.int .i64 4, .int .i64 0, .bool hb, .string ⟨#[]⟩, .slice none 0 0, .slice (some ⟨b, 0, none⟩) 2 2] 26))
  have HVY := Aside0.mk (hvy.alloc (.cells #[.int .i64 4, .int .i64 0, .bool hb, .string ⟨#[]⟩, .slice none 0 0, .slice (some ⟨b, 0, none⟩) 2 2] 26))
  have hll : ¬ (bs.length : Int) > 1000000 := by have := HL.out; omega
  have N1 := Aside0.mk (show Calls Tryd.prog 32 #[.pointer (some ⟨G, 0, none⟩), .int .i64 4] _ fun e w' => e = .returned (.tuple #[]) ∧ Wr B G _ (bs ++ [4]) w' from
    num_calls B G bs 4 (by decide) _ h1 (by simp; omega) (by have := HL.out; omega))
  clear h hB hl h1 hbl hvx hvy hx hy
  show Calls Tryd.prog 15 #[.pointer (some ⟨G, 0, none⟩), .agg #[.int .i64 4, .int .i64 0, .bool hb, .string ⟨#[]⟩, .slice none 0 0, .slice (some ⟨b, 0, none⟩) 2 2]] w _
  go_enter Tryd.func15, Tryd.ntmps15
  go_wp2_with fail
  refine N1.out.mono ?_
  rintro e w2 ⟨rfl, hP⟩
  have P2 := Aside0.mk (hP.al HB.out)
  have K2 := Aside0.mk (keepW H1.out hP HK.out (by decide) (by decide))
  have L2 := Aside0.mk (keepW H1.out hP HLB.out (by decide) (by decide))
  have X2 := Aside0.mk (HVX.out.wr H1.out hP)
  have Y2 := Aside0.mk (HVY.out.wr H1.out hP)
  have d0 : w2.cell? ⟨w.heap.size, 0, none⟩ = some (.int .i64 4) := (blk_cell K2.out 0).trans rfl
  have d2 : w2.cell? ⟨w.heap.size, 2, none⟩ = some (.bool hb) := (blk_cell K2.out 2).trans rfl
  have BB := Aside0.mk (bit_calls hb w2)
  have N2 := Aside0.mk (num_calls B G (bs ++ [4]) (if hb then 1 else 0) (by cases hb <;> decide) w2 hP.is (by have := P2.out.bel.size; have := HB.out; omega) (by have := HL.out; simp; omega))
  clear hP hc0 N1
  go_wp2_with fail
  refine BB.out.mono ?_
  rintro e w3' ⟨rfl, rfl⟩
  generalize hbit : (if hb then 1 else 0 : Nat) = bt at N2 ⊢
  clear hbit
  go_wp2_with fail
  refine N2.out.mono ?_
  rintro e w3 ⟨rfl, hP⟩
  have P3 := Aside0.mk (P2.out.trans hP)
  have K3 := Aside0.mk (keepW P2.out.is hP K2.out (by decide) (by decide))
  have L3 := Aside0.mk (keepW P2.out.is hP L2.out (by decide) (by decide))
  have X3 := Aside0.mk (X2.out.wr P2.out.is hP)
  have Y3 := Aside0.mk (Y2.out.wr P2.out.is hP)
  have d5 : w3.cell? ⟨w.heap.size, 5, none⟩ = some (.slice (some ⟨b, 0, none⟩) 2 2) := (blk_cell K3.out 5).trans rfl
  have b0 : w3.cell? ⟨b, 0, none⟩ = some (.int .i64 x.f) := (blk_cell L3.out 0).trans rfl
  have b1 : w3.cell? ⟨b, 1, none⟩ = some (.int .i64 x.n) := (blk_cell L3.out 1).trans rfl
  have b2 : w3.cell? ⟨b, 2, none⟩ = some (.bool x.h) := (blk_cell L3.out 2).trans rfl
  have b3 : w3.cell? ⟨b, 3, none⟩ = some (.string ⟨#[]⟩) := (blk_cell L3.out 3).trans rfl
  have b4 : w3.cell? ⟨b, 4, none⟩ = some (.slice ax nx cx) := (blk_cell L3.out 4).trans rfl
  have b5 : w3.cell? ⟨b, 5, none⟩ = some (.slice ax' nx' cx') := (blk_cell L3.out 5).trans rfl
  have HB3 := Aside0.mk (show B ≤ w3.heap.size by have := P3.out.bel.size; have := HB.out; omega)
  have T3 := Aside0.mk (HX.out B G _ (w3.alloc (.cells #[.int .i64 x.f, .int .i64 x.n, .bool x.h, .string ⟨#[]⟩, (.slice ax nx cx), (.slice ax' nx' cx')] 26)) (.slice ax nx cx) (.slice ax' nx' cx') (X3.out.alloc _) (hP.is.below (below_alloc (Below.refl _ _) _)) (by have := HB3.out; simp; omega) (by have := HL.out; simp; omega))
  clear hP d0 d2 N2 BB
  go_wp2
  refine wp_loop_rounds 3 ?_
  rw [rounds_succ]
  go_wp2_with fail
  refine (show Calls Tryd.prog 15 #[.pointer (some ⟨G, 0, none⟩), .agg #[.int .i64 x.f, .int .i64 x.n, .bool x.h, .string ⟨#[]⟩, (.slice ax nx cx), (.slice ax' nx' cx')]] _ _ from T3.out).mono ?_
  rintro e w4 ⟨rfl, cs1, hcs1, hP0⟩
  have hP := hP0.al HB3.out
  have HC1 := Aside0.mk hcs1
  have P4 := Aside0.mk (P3.out.trans hP)
  have L4 := Aside0.mk (keepW P3.out.is hP L3.out (by decide) (by decide))
  have Y4 := Aside0.mk (Y3.out.wr P3.out.is hP)
  have HB4 := Aside0.mk (show B ≤ w4.heap.size by have := P4.out.bel.size; have := HB.out; omega)
  have T4 := Aside0.mk (HY.out B G _ (w4.alloc (.cells #[.int .i64 y.f, .int .i64 y.n, .bool y.h, .string ⟨#[]⟩, (.slice ay ny cy), (.slice ay' ny' cy')] 26)) (.slice ay ny cy) (.slice ay' ny' cy') (Y4.out.alloc _) (hP.is.below (below_alloc (Below.refl _ _) _)) (by have := HB4.out; simp; omega) (by have := HL.out; have := HC1.out; simp; omega))
  clear hP hP0 hcs1 b0 b1 b2 b3 b4 b5 T3 d5
  have b0 : w4.cell? ⟨b, 6, none⟩ = some (.int .i64 y.f) := (blk_cell L4.out 6).trans rfl
  have b1 : w4.cell? ⟨b, 7, none⟩ = some (.int .i64 y.n) := (blk_cell L4.out 7).trans rfl
  have b2 : w4.cell? ⟨b, 8, none⟩ = some (.bool y.h) := (blk_cell L4.out 8).trans rfl
  have b3 : w4.cell? ⟨b, 9, none⟩ = some (.string ⟨#[]⟩) := (blk_cell L4.out 9).trans rfl
  have b4 : w4.cell? ⟨b, 10, none⟩ = some (.slice ay ny cy) := (blk_cell L4.out 10).trans rfl
  have b5 : w4.cell? ⟨b, 11, none⟩ = some (.slice ay' ny' cy') := (blk_cell L4.out 11).trans rfl
  go_wp2_with fail
  try rw [rounds_succ]
  go_wp2_with fail
  refine (show Calls Tryd.prog 15 #[.pointer (some ⟨G, 0, none⟩), .agg #[.int .i64 y.f, .int .i64 y.n, .bool y.h, .string ⟨#[]⟩, (.slice ay ny cy), (.slice ay' ny' cy')]] _ _ from T4.out).mono ?_
  rintro e w5 ⟨rfl, cs2, hcs2, hP0⟩
  have P5 := Aside0.mk (P4.out.trans (hP0.al HB4.out))
  have HC2 := Aside0.mk hcs2
  clear hP0 hcs2
  go_wp2_with fail
  try rw [rounds_succ]
  go_wp2
  go_end0
  refine ⟨rfl, [4, (bt : Int)] ++ cs1 ++ cs2, ?_, ?_⟩
  · have h1 := HC1.out; have h2 := HC2.out; simp [wl]; omega
  · have := P5.out; simpa [List.append_assoc] using this
/-- Numbers of one byte. -/
def okW : Tm → Prop
  | .v n => n < 128
  | .s => True
  | .l _ x y => okW x ∧ okW y
theorem wterm_calls : ∀ t : Tm, okW t → WC t
  | .v n, h => wterm_v n h
  | .s, _ => wterm_s
  | .l hb x y, ⟨h1, h2⟩ => wterm_l hb x y (wterm_calls x h1) (wterm_calls y h2)
end Go.Proofs.YthdfpbemdaabaaaDoor.D
