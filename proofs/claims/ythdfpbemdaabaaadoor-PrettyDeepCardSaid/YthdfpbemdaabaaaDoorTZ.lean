/- A gauge's measure of a term. -/
import Derived.Test.YthdfpbemdaabaaaDoorTY
set_option linter.unusedVariables false
set_option linter.unusedSimpArgs false
namespace Go.Proofs.YthdfpbemdaabaaaDoor.D
open Go Go.RowKit Go.Proofs.YthdfpbemdaabaaaDoorW.PrintWords Go.Proofs.YthdfpbemdaabaaaDoorW.PrintLast Go.Proofs.YthdfpbemdaabaaaDoorW.PrintMore
set_option maxHeartbeats 4000000 in
set_option maxRecDepth 100000 in
theorem told_calls (B G : Nat) (bs : List Int) (w : World) (h : Ws B G bs w) (hl : bs.length ≤ 1000000) :
    Calls Tryd.prog 16 #[.pointer (some ⟨G, 0, none⟩)] w fun e w' => ∃ v, e = .returned (.tuple #[v, .int .i64 0]) ∧ w' = w := by
  obtain ⟨A0, c0, hc0⟩ := h.cell
  have hll : ¬ (bs.length : Int) > 1000000 := by omega
  clear h hl
  go_enter Tryd.func16, Tryd.ntmps16
  go_wp2
  ((try simp only [Exit.inBlock, Exit.then]); refine bodyPost_ret (results_tmp2 (fn := Tryd.f16) (t := 2) (u := 3) rfl _ _ _) rfl ?_)
  first | exact ⟨_, rfl, rfl⟩ | exact ⟨⟨_, rfl⟩, rfl⟩
/-- How many parts a term has; how high it is. -/
def sz : Tm → Nat
  | .v _ => 1
  | .s => 1
  | .l _ x y => 1 + sz x + sz y
def ht : Tm → Nat
  | .v _ => 0
  | .s => 0
  | .l _ x y => 1 + max (ht x) (ht y)
/-- A gauge in a block; what else stands, stands. -/
structure Gs (B G p : Nat) (w w' : World) : Prop where
  is : w'.heap[G]? = some (.cells #[.int .i64 (p : Int)] 60 (0, 0))
  bel : Below B w w'
  kept : Lib.OthersKept 5 (some G) w w'
theorem Gs.trans {B G p q : Nat} {w w1 w2 : World} (h : Gs B G p w w1) (k : Gs B G q w1 w2) : Gs B G q w w2 := ⟨k.is, h.bel.trans k.bel, h.kept.trans k.kept⟩
theorem Gs.al {B G q : Nat} {w w2 : World} {o : Obj} (hB : B ≤ w.heap.size) (k : Gs B G q (w.alloc o) w2) : Gs B G q w w2 :=
  ⟨k.is, ((Below.refl B w).alloc hB o).trans k.bel, ((Lib.OthersKept.refl _ _ w).alloc o).trans k.kept⟩
theorem keepG {B G p q : Nat} {W W2 : World} (hb : W.heap[G]? = some (.cells #[.int .i64 (p : Int)] 60 (0, 0))) (hp : Gs B G q W W2) {k : Nat} {xs : Array Value} {ty : TypeId} (hk : W.heap[k]? = some (.cells xs ty (0, 0))) (h1 : ty ≠ 60) (h2 : ty ≠ 5) : W2.heap[k]? = some (.cells xs ty (0, 0)) := by
  refine hp.kept k _ hk ?_ ?_
  · intro e
    injection e with e
    subst e
    rw [hb] at hk; injection hk with hk; injection hk with _ hk; exact h1 hk.symm
  · intro c fz e
    injection e with _ e
    exact h2 e
theorem TmV.gs {B G p q : Nat} {W W2 : World} {t : Tm} {lv kv : Value} (h : TmV W t lv kv) (hb : W.heap[G]? = some (.cells #[.int .i64 (p : Int)] 60 (0, 0))) (hp : Gs B G q W W2) : TmV W2 t lv kv := h.kept hb (by decide) (by decide) hp.kept
/-- What measuring a term is. -/
def FC (t : Tm) : Prop := ∀ (B G p d : Nat) (w : World) (lv kv : Value), TmV w t lv kv → B ≤ G → B ≤ w.heap.size → w.heap[G]? = some (.cells #[.int .i64 (p : Int)] 60 (0, 0)) → p + sz t ≤ 20000 → d + ht t ≤ 500 →
  Calls Tryd.prog 28 #[.pointer (some ⟨G, 0, none⟩), t.val lv kv, .int .i64 (d : Int)] w fun e w' => e = .returned (.bool true) ∧ Gs B G (p + sz t) w w'
theorem below_alloc' {B : Nat} {w : World} (hB : B ≤ w.heap.size) (o : Obj) : Below B w (w.alloc o) := (Below.refl B w).alloc hB o
set_option maxHeartbeats 4000000 in
set_option maxRecDepth 100000 in
theorem fits_v (n : Nat) : FC (.v n) := by
  intro B G p d w lv kv hT hBG hB hG hp hd
  obtain ⟨rfl, rfl⟩ := hT
  have HB := Aside0.mk hB
  have HE := Aside0.mk hBG
  have HK := Aside0.mk (blk_new w (.cells #[.int .i64 1, .int .i64 (n : Int), .bool false, .string ⟨#[]⟩, .slice none 0 0, .slice none 0 0] 26))
  have HG := Aside0.mk (blk_alloc hG (.cells #[.int .i64 1, .int .i64 (n : Int), .bool false, .string ⟨#[]⟩, .slice none 0 0, .slice none 0 0] 26))
  have HP := Aside0.mk (show p + 1 ≤ 20000 from hp)
  have HD := Aside0.mk (show d + 0 ≤ 500 from hd)
  have g0 := (blk_cell HG.out 0).trans (rfl : _ = some (Value.int .i64 (p : Int)))
  have f0 := blk_frozen HG.out 0
  have hne := Aside0.mk (show w.heap.size ≠ G by have := blk_lt hG; omega)
  have hw : wrap64 ((p : Int) + 1) = (p : Int) + 1 := by unfold wrap64; have := HP.out; omega
  have HG2 := Aside0.mk (blk_put HG.out 0 (.int .i64 ((p : Int) + 1)) rfl)
  have HK2 := Aside0.mk (blk_far HK.out (p := ⟨G, 0, none⟩) hne.out (.int .i64 ((p : Int) + 1)))
  have g1 := (blk_cell HG2.out 0).trans (rfl : _ = some (Value.int .i64 ((p : Int) + 1)))
  have k5 := (blk_cell HK2.out 5).trans (rfl : _ = some (Value.slice none 0 0))
  have hpl : ¬ (p : Int) + 1 > 20000 := by have := HP.out; omega
  have hdl : ¬ (d : Int) > 500 := by have := HD.out; omega
  clear hp hd hG hB hBG
  show Calls Tryd.prog 28 #[.pointer (some ⟨G, 0, none⟩), .agg #[.int .i64 1, .int .i64 (n : Int), .bool false, .string ⟨#[]⟩, .slice none 0 0, .slice none 0 0], .int .i64 (d : Int)] w _
  go_enter Tryd.func28, Tryd.ntmps28
  go_wp2
  refine wp_loop_rounds 1 ?_
  rw [rounds_succ]
  go_wp2
  go_ret
  refine ⟨rfl, ?_, ?_, ?_⟩
  · have := HG2.out; push_cast; exact this
  · exact (below_alloc' HB.out _).setCell (p := ⟨G, 0, none⟩) HE.out _
  · exact ((Lib.OthersKept.refl _ _ w).alloc _).setCell ⟨G, 0, none⟩ rfl _
set_option maxHeartbeats 4000000 in
set_option maxRecDepth 100000 in
theorem fits_s : FC .s := by
  intro B G p d w lv kv hT hBG hB hG hp hd
  obtain ⟨rfl, b, rfl, _⟩ := hT
  have HB := Aside0.mk hB
  have HE := Aside0.mk hBG
  have HK := Aside0.mk (blk_new w (.cells #[.int .i64 2, .int .i64 0, .bool false, .string ⟨#[]⟩, .slice (some ⟨b, 0, none⟩) 1 1, .slice none 0 0] 26))
  have HG := Aside0.mk (blk_alloc hG (.cells #[.int .i64 2, .int .i64 0, .bool false, .string ⟨#[]⟩, .slice (some ⟨b, 0, none⟩) 1 1, .slice none 0 0] 26))
  have HP := Aside0.mk (show p + 1 ≤ 20000 from hp)
  have HD := Aside0.mk (show d + 0 ≤ 500 from hd)
  have g0 := (blk_cell HG.out 0).trans (rfl : _ = some (Value.int .i64 (p : Int)))
  have f0 := blk_frozen HG.out 0
  have hne := Aside0.mk (show w.heap.size ≠ G by have := blk_lt hG; omega)
  have hw : wrap64 ((p : Int) + 1) = (p : Int) + 1 := by unfold wrap64; have := HP.out; omega
  have HG2 := Aside0.mk (blk_put HG.out 0 (.int .i64 ((p : Int) + 1)) rfl)
  have HK2 := Aside0.mk (blk_far HK.out (p := ⟨G, 0, none⟩) hne.out (.int .i64 ((p : Int) + 1)))
  have g1 := (blk_cell HG2.out 0).trans (rfl : _ = some (Value.int .i64 ((p : Int) + 1)))
  have k5 := (blk_cell HK2.out 5).trans (rfl : _ = some (Value.slice none 0 0))
  have hpl : ¬ (p : Int) + 1 > 20000 := by have := HP.out; omega
  have hdl : ¬ (d : Int) > 500 := by have := HD.out; omega
  clear hp hd hG hB hBG
  show Calls Tryd.prog 28 #[.pointer (some ⟨G, 0, none⟩), .agg #[.int .i64 2, .int .i64 0, .bool false, .string ⟨#[]⟩, .slice (some ⟨b, 0, none⟩) 1 1, .slice none 0 0], .int .i64 (d : Int)] w _
  go_enter Tryd.func28, Tryd.ntmps28
  go_wp2
  refine wp_loop_rounds 1 ?_
  rw [rounds_succ]
  go_wp2
  go_ret
  refine ⟨rfl, ?_, ?_, ?_⟩
  · have := HG2.out; push_cast; exact this
  · exact (below_alloc' HB.out _).setCell (p := ⟨G, 0, none⟩) HE.out _
  · exact ((Lib.OthersKept.refl _ _ w).alloc _).setCell ⟨G, 0, none⟩ rfl _
set_option maxHeartbeats 8000000 in
set_option maxRecDepth 100000 in
theorem fits_l (hb : Bool) (x y : Tm) (hx : FC x) (hy : FC y) : FC (.l hb x y) := by
  intro B G p d w lv kv hT hBG hB hG hp hd
  obtain ⟨rfl, b, lx, kx, ly, ky, rfl, hbl, hvx, hvy⟩ := hT
  obtain ⟨ax, nx, cx, ax', nx', cx', rfl, rfl⟩ := hvx.sl
  obtain ⟨ay, ny, cy, ay', ny', cy', rfl, rfl⟩ := hvy.sl
  have HB := Aside0.mk hB
  have HE := Aside0.mk hBG
  have HX := Aside0.mk hx
  have HY := Aside0.mk hy
  have HK := Aside0.mk (blk_new w (.cells #[.int .i64 4, .int .i64 0, .bool hb, .string ⟨#[]⟩, .slice none 0 0, .slice (some ⟨b, 0, none⟩) 2 2] 26))
  have HG := Aside0.mk (blk_alloc hG (.cells #[.int .i64 4, .int .i64 0, .bool hb, .string ⟨#[]⟩, .slice none 0 0, .slice (some ⟨b, 0, none⟩) 2 2] 26))
  have HP := Aside0.mk (show p + (1 + sz x + sz y) ≤ 20000 from hp)
  have HD := Aside0.mk (show d + (1 + max (ht x) (ht y)) ≤ 500 from hd)
  have g0 := (blk_cell HG.out 0).trans (rfl : _ = some (Value.int .i64 (p : Int)))
  have f0 := blk_frozen HG.out 0
  have hne := Aside0.mk (show w.heap.size ≠ G by have := blk_lt hG; omega)
  have hnb := Aside0.mk (show b ≠ G by intro e; subst e; rw [hG] at hbl; injection hbl with hbl; injection hbl with _ hbl; cases hbl)
  have hw : wrap64 ((p : Int) + 1) = (p : Int) + 1 := by unfold wrap64; have := HP.out; omega
  have G2 := Aside0.mk (show ((w.alloc (.cells #[.int .i64 4, .int .i64 0, .bool hb, .string ⟨#[]⟩, .slice none 0 0, .slice (some ⟨b, 0, none⟩) 2 2] 26)).setCell ⟨G, 0, none⟩ (.int .i64 ((p : Int) + 1))).heap[G]? = some (.cells #[.int .i64 ((p + 1 : Nat) : Int)] 60 (0, 0)) by push_cast; exact blk_put HG.out 0 _ rfl)
  have K2 := Aside0.mk (blk_far HK.out (p := ⟨G, 0, none⟩) hne.out (.int .i64 ((p : Int) + 1)))
  have L2 := Aside0.mk (blk_far (blk_alloc hbl (.cells #[.int .i64 4, .int .i64 0, .bool hb, .string ⟨#[]⟩, .slice none 0 0, .slice (some ⟨b, 0, none⟩) 2 2] 26)) (p := ⟨G, 0, none⟩) hnb.out (.int .i64 ((p : Int) + 1)))
  have O2 := Aside0.mk ((Lib.OthersKept.refl 5 (some G) (w.alloc (.cells #[.int .i64 4, .int .i64 0, .bool hb, .string ⟨#[]⟩, .slice none 0 0, .slice (some ⟨b, 0, none⟩) 2 2] 26))).setCell ⟨G, 0, none⟩ rfl (.int .i64 ((p : Int) + 1)))
  have X2 := Aside0.mk ((hvx.alloc (.cells #[.int .i64 4, .int .i64 0, .bool hb, .string ⟨#[]⟩, .slice none 0 0, .slice (some ⟨b, 0, none⟩) 2 2] 26)).kept HG.out (by decide) (by decide) O2.out)
  have Y2 := Aside0.mk ((hvy.alloc (.cells #[.int .i64 4, .int .i64 0, .bool hb, .string ⟨#[]⟩, .slice none 0 0, .slice (some ⟨b, 0, none⟩) 2 2] 26)).kept HG.out (by decide) (by decide) O2.out)
  have S2 := Aside0.mk (show Gs B G (p + 1) w ((w.alloc (.cells #[.int .i64 4, .int .i64 0, .bool hb, .string ⟨#[]⟩, .slice none 0 0, .slice (some ⟨b, 0, none⟩) 2 2] 26)).setCell ⟨G, 0, none⟩ (.int .i64 ((p : Int) + 1))) from ⟨G2.out, (below_alloc' HB.out _).setCell (p := ⟨G, 0, none⟩) HE.out _, ((Lib.OthersKept.refl _ _ w).alloc _).setCell ⟨G, 0, none⟩ rfl _⟩)
  have hpl : ¬ (p : Int) + 1 > 20000 := by have := HP.out; omega
  have hdl : ¬ (d : Int) > 500 := by have := HD.out; omega
  have hwd : wrap64 ((d : Int) + 1) = (d : Int) + 1 := by unfold wrap64; have := HD.out; omega
  have g1 := (blk_cell G2.out 0).trans (show _ = some (Value.int .i64 ((p : Int) + 1)) by push_cast; rfl)
  clear hp hd hG hB hBG hbl hvx hvy hx hy
  show Calls Tryd.prog 28 #[.pointer (some ⟨G, 0, none⟩), .agg #[.int .i64 4, .int .i64 0, .bool hb, .string ⟨#[]⟩, .slice none 0 0, .slice (some ⟨b, 0, none⟩) 2 2], .int .i64 (d : Int)] w _
  go_enter Tryd.func28, Tryd.ntmps28
  go_upto_region 2 with fail
  generalize ((w.alloc (.cells #[.int .i64 4, .int .i64 0, .bool hb, .string ⟨#[]⟩, .slice none 0 0, .slice (some ⟨b, 0, none⟩) 2 2] 26)).setCell ⟨G, 0, none⟩ (.int .i64 ((p : Int) + 1))) = w2 at G2 K2 L2 O2 X2 Y2 S2 g1 ⊢
  clear g0 f0 O2 HK HG
  have k5 := (blk_cell K2.out 5).trans (rfl : _ = some (Value.slice (some ⟨b, 0, none⟩) 2 2))
  have b0 : w2.cell? ⟨b, 0, none⟩ = some (.int .i64 x.f) := (blk_cell L2.out 0).trans rfl
  have b1 : w2.cell? ⟨b, 1, none⟩ = some (.int .i64 x.n) := (blk_cell L2.out 1).trans rfl
  have b2 : w2.cell? ⟨b, 2, none⟩ = some (.bool x.h) := (blk_cell L2.out 2).trans rfl
  have b3 : w2.cell? ⟨b, 3, none⟩ = some (.string ⟨#[]⟩) := (blk_cell L2.out 3).trans rfl
  have b4 : w2.cell? ⟨b, 4, none⟩ = some (.slice ax nx cx) := (blk_cell L2.out 4).trans rfl
  have b5 : w2.cell? ⟨b, 5, none⟩ = some (.slice ax' nx' cx') := (blk_cell L2.out 5).trans rfl
  have HB2 := Aside0.mk (show B ≤ w2.heap.size by have := S2.out.bel.size; have := HB.out; omega)
  have T2 := Aside0.mk (HX.out B G (p + 1) (d + 1) (w2.alloc (.cells #[.int .i64 x.f, .int .i64 x.n, .bool x.h, .string ⟨#[]⟩, (.slice ax nx cx), (.slice ax' nx' cx')] 26)) _ _ (X2.out.alloc _) HE.out (by have := HB2.out; simp; omega) (blk_alloc G2.out _) (by have := HP.out; omega) (by have := HD.out; omega))
  go_wp2
  refine wp_loop_rounds 3 ?_
  rw [rounds_succ]
  go_wp2_with fail
  refine (show Calls Tryd.prog 28 #[.pointer (some ⟨G, 0, none⟩), .agg #[.int .i64 x.f, .int .i64 x.n, .bool x.h, .string ⟨#[]⟩, .slice ax nx cx, .slice ax' nx' cx'], .int .i64 ((d : Int) + 1)] _ _ from T2.out).mono ?_
  rintro e w3 ⟨rfl, hP0⟩
  have hP := hP0.al HB2.out
  have S3 := Aside0.mk (S2.out.trans hP)
  have L3 := Aside0.mk (keepG S2.out.is hP L2.out (by decide) (by decide))
  have Y3 := Aside0.mk (Y2.out.gs S2.out.is hP)
  have HB3 := Aside0.mk (show B ≤ w3.heap.size by have := S3.out.bel.size; have := HB.out; omega)
  have T3 := Aside0.mk (HY.out B G (p + 1 + sz x) (d + 1) (w3.alloc (.cells #[.int .i64 y.f, .int .i64 y.n, .bool y.h, .string ⟨#[]⟩, (.slice ay ny cy), (.slice ay' ny' cy')] 26)) _ _ (Y3.out.alloc _) HE.out (by have := HB3.out; simp; omega) (blk_alloc S3.out.is _) (by have := HP.out; omega) (by have := HD.out; omega))
  clear hP hP0 b0 b1 b2 b3 b4 b5 T2 k5 g1
  have b0 : w3.cell? ⟨b, 6, none⟩ = some (.int .i64 y.f) := (blk_cell L3.out 6).trans rfl
  have b1 : w3.cell? ⟨b, 7, none⟩ = some (.int .i64 y.n) := (blk_cell L3.out 7).trans rfl
  have b2 : w3.cell? ⟨b, 8, none⟩ = some (.bool y.h) := (blk_cell L3.out 8).trans rfl
  have b3 : w3.cell? ⟨b, 9, none⟩ = some (.string ⟨#[]⟩) := (blk_cell L3.out 9).trans rfl
  have b4 : w3.cell? ⟨b, 10, none⟩ = some (.slice ay ny cy) := (blk_cell L3.out 10).trans rfl
  have b5 : w3.cell? ⟨b, 11, none⟩ = some (.slice ay' ny' cy') := (blk_cell L3.out 11).trans rfl
  go_wp2_with fail
  try rw [rounds_succ]
  go_wp2_with fail
  refine (show Calls Tryd.prog 28 #[.pointer (some ⟨G, 0, none⟩), .agg #[.int .i64 y.f, .int .i64 y.n, .bool y.h, .string ⟨#[]⟩, .slice ay ny cy, .slice ay' ny' cy'], .int .i64 ((d : Int) + 1)] _ _ from T3.out).mono ?_
  rintro e w4 ⟨rfl, hP0⟩
  have S4 := Aside0.mk (S3.out.trans (hP0.al HB3.out))
  clear hP0
  go_wp2_with fail
  try rw [rounds_succ]
  go_wp2
  go_ret
  refine ⟨rfl, ?_⟩
  have h := S4.out
  have e : p + 1 + sz x + sz y = p + sz (.l hb x y) := by simp only [sz]; omega
  rwa [e] at h
theorem fits_calls : ∀ t : Tm, FC t
  | .v n => fits_v n
  | .s => fits_s
  | .l hb x y => fits_l hb x y (fits_calls x) (fits_calls y)
end Go.Proofs.YthdfpbemdaabaaaDoor.D
