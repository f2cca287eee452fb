import Derived.Test.YthdfpbemdaabaaaDoorTB
set_option linter.unusedVariables false
set_option linter.unusedSimpArgs false
namespace Go.Proofs.YthdfpbemdaabaaaDoor.D
open Go Go.RowKit Go.Proofs.YthdfpbemdaabaaaDoorW.PrintWords Go.Proofs.YthdfpbemdaabaaaDoorW.PrintLast Go.Proofs.YthdfpbemdaabaaaDoorW.PrintMore
set_option maxHeartbeats 4000000 in
set_option maxRecDepth 100000 in
theorem put_calls (B G : Nat) (bs : List Value) (a : Nat) (ss : List ByteArray) (w : World) (h : Lib.IsBuilder 45 5 B G bs w) (ha : w.heap[a]? = some (.cells (ss.map Value.string).toArray 9 (0, 0))) (hB : B ≤ w.heap.size) (hn : ss.length ≤ 1000) (hl : bs.length + (strs ss).length ≤ 100000000) :
    Calls Tryd.prog 36 #[.pointer (some ⟨G, 0, none⟩), .slice (some ⟨a, 0, none⟩) ss.length ss.length] w fun e w' => e = .returned (.tuple #[]) ∧ Pr B G w (bs ++ strs ss) w' := by
  have H := Aside0.mk h
  have HA := Aside0.mk ha
  have HB := Aside0.mk hB
  have HN := Aside0.mk hn
  have HL := Aside0.mk hl
  have HGA := Aside0.mk (show a ≠ G by
    intro e
    subst e
    rcases h with ⟨_, v, hb, _⟩ | ⟨_, v, hb, _⟩ <;> (rw [hb] at ha; injection ha with ha; injection ha with _ ha; cases ha))
  clear h ha hB hn hl
  go_enter Tryd.func36, Tryd.ntmps36
  go_wp2
  go_loopw [8] (fun v wr => ∃ q : Nat, v = .int .i64 (q : Int) ∧ Aside0 (q ≤ ss.length) ∧ Aside0 (Pr B G w (bs ++ strs (ss.take q)) wr))
    (fun v _ => 1001 - (intOf v).toNat)
  case atStart => exact ⟨0, rfl, ⟨Nat.zero_le _⟩, ⟨⟨by simpa [strs] using H.out, Below.refl _ _, Lib.OthersKept.refl _ _ _⟩⟩⟩
  case round =>
    obtain ⟨q, rfl, HQ, HP⟩ := hrel
    by_cases hq : q < ss.length
    · have hqi : (q : Int) < (ss.length : Int) := by omega
      have hA : wr.heap[a]? = some (.cells (ss.map Value.string).toArray 9 (0, 0)) := HP.out.kept a _ HA.out (by intro e; injection e with e; exact HGA.out e) (by intro c fz e; injection e with _ e; cases e)
      have hc : wr.cell? ⟨a, q, none⟩ = some (.string ss[q]) := by rw [blk_cell hA]; simp [hq]
      generalize hs : ss[q] = s at hc
      have HT := Aside0.mk (show strs (ss.take (q + 1)) = strs (ss.take q) ++ Lib.strCells s by
        rw [List.take_succ_eq_append_getElem hq, strs_snoc, hs])
      have HLL := Aside0.mk (show (bs ++ strs (ss.take q)).length + s.size ≤ 100000000 by
        have h1 := strs_take ss (q + 1)
        rw [HT.out, List.length_append, Lib.strCells_length] at h1
        have := HL.out
        rw [List.length_append]; omega)
      have HW := Aside0.mk (write_calls B G (bs ++ strs (ss.take q)) s wr HP.out.is (by have := HP.out.bel.size; have := HB.out; omega) HLL.out)
      clear hA hs
      go_wp2_with fail
      refine HW.out.mono ?_
      rintro e w2 ⟨rfl, h1, h2, h3⟩
      have HP2 := Aside0.mk (show Pr B G w (bs ++ strs (ss.take (q + 1))) w2 from ⟨by rw [HT.out, ← List.append_assoc]; exact Or.inr h1, HP.out.bel.trans h2, HP.out.kept.trans h3⟩)
      clear h1 h2 h3
      have hw : wrap64 ((q : Int) + 1) = (q : Int) + 1 := by unfold wrap64; have := HN.out; omega
      have HWR := Aside0.mk hw
      clear hw
      go_wp2
      go_roundw
      case rel => exact ⟨q + 1, by rw [HWR.out]; push_cast; rfl, ⟨by omega⟩, HP2⟩
      case measure =>
        have := HN.out
        rw [HWR.out]
        show 1001 - ((q : Int) + 1).toNat < 1001 - (q : Int).toNat
        omega
    · have hqe : q = ss.length := by have := HQ.out; omega
      subst hqe
      go_wp2
      go_end0
      exact ⟨rfl, by have := HP.out; rwa [List.take_length] at this⟩
end Go.Proofs.YthdfpbemdaabaaaDoor.D
