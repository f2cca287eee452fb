/- A writer, and the numbers that it writes. -/
import Derived.Test.YthdfpbemdaabaaaDoorTI
set_option linter.unusedVariables false
set_option linter.unusedSimpArgs false
namespace Go.Proofs.YthdfpbemdaabaaaDoor.D
open Go Go.RowKit Go.Proofs.YthdfpbemdaabaaaDoorW.PrintWords Go.Proofs.YthdfpbemdaabaaaDoorW.PrintLast Go.Proofs.YthdfpbemdaabaaaDoorW.PrintMore
theorem info5m : (Tryd.prog.info? 5).map (fun i => (i.zero, i.size, i.bytes)) = some (some (.int .u8 0), 1, 1) := by kernel_rfl
/-- A writer in a block, of bytes bs. -/
structure Ws (B G : Nat) (bs : List Int) (w : World) : Prop where
  le : B ≤ G
  is : ∃ v, w.heap[G]? = some (.cells #[v] 51 (0, 0)) ∧ (Kd.int .u8).R 5 w B (fun _ => True) v bs
structure Wr (B G : Nat) (w : World) (bs : List Int) (w' : World) : Prop where
  is : Ws B G bs w'
  bel : Below B w w'
  kept : Lib.OthersKept 5 (some G) w w'
theorem Ws.below {B G : Nat} {bs : List Int} {w w2 : World} (h : Ws B G bs w) (hb : Below w.heap.size w w2) : Ws B G bs w2 := by
  obtain ⟨v, h1, h2⟩ := h.is
  exact ⟨h.le, v, blk_below h1 hb, Kd.R_below h2 hb⟩
theorem Wr.trans {B G : Nat} {w w1 w2 : World} {bs cs : List Int} (h : Wr B G w bs w1) (k : Wr B G w1 cs w2) : Wr B G w cs w2 := ⟨k.is, h.bel.trans k.bel, h.kept.trans k.kept⟩
theorem Wr.al {B G : Nat} {w w2 : World} {o : Obj} {cs : List Int} (hB : B ≤ w.heap.size) (k : Wr B G (w.alloc o) cs w2) : Wr B G w cs w2 :=
  ⟨k.is, ((Below.refl B w).alloc hB o).trans k.bel, ((Lib.OthersKept.refl _ _ w).alloc o).trans k.kept⟩
theorem keepW {B G : Nat} {W W2 : World} {bs cs : List Int} (hb : Ws B G bs W) (hp : Wr B G W cs W2) {k : Nat} {xs : Array Value} {ty : TypeId} (hk : W.heap[k]? = some (.cells xs ty (0, 0))) (h1 : ty ≠ 51) (h2 : ty ≠ 5) : W2.heap[k]? = some (.cells xs ty (0, 0)) := by
  refine hp.kept k _ hk ?_ ?_
  · intro e
    injection e with e
    subst e
    obtain ⟨v, hb, _⟩ := hb.is
    rw [hb] at hk; injection hk with hk; injection hk with _ hk; exact h1 hk.symm
  · intro c fz e
    injection e with _ e
    exact h2 e
theorem TmV.wr {B G : Nat} {W W2 : World} {bs cs : List Int} {t : Tm} {lv kv : Value} (h : TmV W t lv kv) (hb : Ws B G bs W) (hp : Wr B G W cs W2) : TmV W2 t lv kv := by
  obtain ⟨v, hb, _⟩ := hb.is
  exact h.kept hb (by decide) (by decide) hp.kept
set_option maxHeartbeats 4000000 in
set_option maxRecDepth 100000 in
theorem num_calls (B G : Nat) (bs : List Int) (n : Nat) (hn : n < 128) (w : World) (h : Ws B G bs w) (hB : B ≤ w.heap.size) (hl : bs.length ≤ 100000) :
    Calls Tryd.prog 32 #[.pointer (some ⟨G, 0, none⟩), .int .i64 (n : Int)] w fun e w' => e = .returned (.tuple #[]) ∧ Wr B G w (bs ++ [(n : Int)]) w' := by
  obtain ⟨hle, v, hG, hR⟩ := h
  have HG := Aside0.mk hG
  have HR := Aside0.mk hR
  have HB := Aside0.mk hB
  have HL := Aside0.mk hl
  have HE := Aside0.mk hle
  have h64 : IntKind.u64.wrap (n : Int) = (n : Int) := by rw [IntKind.wrap_u64]; omega
  have h8 : IntKind.u8.wrap (n : Int) = (n : Int) := by rw [IntKind.wrap_u8]; omega
  have hlt : (n : Int) < 128 := by omega
  have hc : w.cell? ⟨G, 0, none⟩ = some v := (blk_cell hG 0).trans rfl
  clear hG hR hB hl hle
  obtain ⟨A0, c0, rfl⟩ := Kd.R_slice HR.out
  go_enter Tryd.func32, Tryd.ntmps32
  go_wp2
  refine wp_loop_rounds 1 ?_
  rw [rounds_succ]
  go_upto_region 3 with fail
  go_wp2_with ((with_reducible refine gate_builtin (b := .append) (xs := #[.tmp 15, .tmp 18]) rfl ?_); at_builtin; refine Kd.R_append (Kd.int .u8) (w0 := w) B rfl (.tmp 15) (.tmp 18) 36 5 (.int .u8 0) 1 rfl Tryd.underlying36 info5m rfl (by decide) (by omega) (.slice A0 bs.length c0) bs (n : Int) [.int .u8 (n : Int)] (fun _ => True) (fun _ => False) rfl rfl rfl (fun _ hk => hk.elim) (fun k hk => trivial) HR.out (Below.refl _ _) HB.out (by have := HL.out; omega) ?_; intro v1 w2 hr1 hb2 hg2 hat2; have HR2 := Aside0.mk hr1; have HB2 := Aside0.mk hb2; have HG2 := Aside0.mk (blk_grown HG.out hg2 (Kd.R_ne HR.out HG.out (by decide))); have HK2 := Aside0.mk (hg2); clear hr1 hb2 hg2 hat2; obtain ⟨A1, c1, rfl⟩ := Kd.R_slice HR2.out; have hf2 := blk_frozen HG2.out 0; have hc2 := (blk_cell HG2.out 0))
  ((try simp only [Exit.inBlock, Exit.then]); refine bodyPost_ret (results_none rfl _ _ _) rfl ?_)
  obtain ⟨inner, hown⟩ := Kd.R_own HR.out
  refine ⟨rfl, ⟨HE.out, .slice A1 (bs ++ [(n : Int)]).length c1, ?_, ?_⟩, HB2.out.setCell (p := ⟨G, 0, none⟩) HE.out _, ((Lib.OthersKept.refl _ _ w).grown HK2.out (Lib.ownsRowF_kind (World.ownsRowF_of hown))).setCell ⟨G, 0, none⟩ rfl _⟩
  · rw [List.length_append]; exact blk_put HG2.out 0 _ rfl
  · exact Kd.R_set HR2.out HG2.out (by decide) 0 _
end Go.Proofs.YthdfpbemdaabaaaDoor.D
