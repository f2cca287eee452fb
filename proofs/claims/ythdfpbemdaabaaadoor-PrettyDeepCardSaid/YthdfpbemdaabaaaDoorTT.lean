/- A term is put. -/
import Derived.Test.YthdfpbemdaabaaaDoorTI
set_option linter.unusedVariables false
set_option linter.unusedSimpArgs false
namespace Go.Proofs.YthdfpbemdaabaaaDoor.D
open Go Go.RowKit Go.Proofs.YthdfpbemdaabaaaDoorW.PrintWords Go.Proofs.YthdfpbemdaabaaaDoorW.PrintLast Go.Proofs.YthdfpbemdaabaaaDoorW.PrintMore
/-- A block of another kind than the printer's is kept. -/
theorem keepB {B G : Nat} {W W2 : World} {bs cs : List Value} (hb : Lib.IsBuilder 45 5 B G bs W) (hp : Pr B G W cs W2) {k : Nat} {xs : Array Value} {ty : TypeId} (hk : W.heap[k]? = some (.cells xs ty (0, 0))) (h1 : ty ≠ 45) (h2 : ty ≠ 5) : W2.heap[k]? = some (.cells xs ty (0, 0)) := by
  refine hp.kept k _ hk ?_ ?_
  · intro e
    injection e with e
    subst e
    rcases hb with ⟨_, v, hb, _⟩ | ⟨_, v, hb, _⟩ <;> (rw [hb] at hk; injection hk with hk; injection hk with _ hk; exact h1 hk.symm)
  · intro c fz e
    injection e with _ e
    exact h2 e
theorem put_at (B G : Nat) (bs : List Value) (ss : List ByteArray) (w : World) (m : Nat) (hm : w.heap.size = m) (h : Lib.IsBuilder 45 5 B G bs w) (hB : B ≤ w.heap.size) (hn : ss.length ≤ 1000) (hl : bs.length + (strs ss).length ≤ 100000000) :
    Calls Tryd.prog 36 #[.pointer (some ⟨G, 0, none⟩), .slice (some ⟨m, 0, none⟩) ss.length ss.length] (w.alloc (.cells (ss.map Value.string).toArray 9)) fun e w' => e = .returned (.tuple #[]) ∧ Pr B G w (bs ++ strs ss) w' := hm ▸ put_new B G bs ss w h hB hn hl
def bX : ByteArray := ⟨#[120]⟩
def bF : ByteArray := ⟨#[102]⟩
def bSet : ByteArray := ⟨#[83, 101, 116, 32]⟩
set_option maxHeartbeats 4000000 in
set_option maxRecDepth 100000 in
theorem level0_calls (B G : Nat) (bs : List Value) (w : World) (h : Lib.IsBuilder 45 5 B G bs w) (hB : B ≤ w.heap.size) (hl : bs.length ≤ 50000000) :
    Calls Tryd.prog 38 #[.pointer (some ⟨G, 0, none⟩), .agg #[.int .i64 0, .slice none 0 0]] w fun e w' => e = .returned (.tuple #[]) ∧ Pr B G w (bs ++ strs [dg 0]) w' := by
  have HB := Aside0.mk hB
  have HN := Aside0.mk (show Calls Tryd.prog 37 #[.pointer (some ⟨G, 0, none⟩), .int .i64 0] (w.alloc (.cells #[.int .i64 0, .slice none 0 0] 35)) fun e w' => e = .returned (.tuple #[]) ∧ Pr B G (w.alloc (.cells #[.int .i64 0, .slice none 0 0] 35)) (bs ++ strs [dg 0]) w' from
    number_calls B G bs 0 (by decide) (w.alloc (.cells #[.int .i64 0, .slice none 0 0] 35)) (builder_alloc h _) (by simp; omega) hl)
  clear h hB hl
  go_enter Tryd.func38, Tryd.ntmps38
  go_wp2_with fail
  refine HN.out.mono ?_
  rintro e w2 ⟨rfl, hP⟩
  have HP := Aside0.mk (hP.al HB.out)
  clear hP
  go_wp2
  ((try simp only [Exit.inBlock, Exit.then]); refine bodyPost_ret (results_none rfl _ _ _) rfl ?_)
  exact ⟨rfl, HP.out⟩
set_option maxHeartbeats 4000000 in
set_option maxRecDepth 100000 in
theorem var_calls (B G : Nat) (bs : List Value) (n d : Nat) (hn : n < 100) (hd : d < 100) (w : World) (h : Lib.IsBuilder 45 5 B G bs w) (hB : B ≤ w.heap.size) (hl : bs.length ≤ 40000000) :
    Calls Tryd.prog 18 #[.pointer (some ⟨G, 0, none⟩), (Tm.v n).val (.slice none 0 0) (.slice none 0 0), .int .i64 (d : Int)] w fun e w' => e = .returned (.tuple #[]) ∧ Pr B G w (bs ++ strs (if n < d then [bX, dg (d - 1 - n)] else [bF, dg (n - d)])) w' := by
  have HB := Aside0.mk hB
  have HL := Aside0.mk hl
  have HN := Aside0.mk hn
  have HD := Aside0.mk hd
  have HK := Aside0.mk (blk_new w (.cells #[.int .i64 1, .int .i64 (n : Int), .bool false, .string ⟨#[]⟩, .slice none 0 0, .slice none 0 0] 26))
  have HI := Aside0.mk (builder_alloc h (.cells #[.int .i64 1, .int .i64 (n : Int), .bool false, .string ⟨#[]⟩, .slice none 0 0, .slice none 0 0] 26))
  have HB1 := Aside0.mk (show B ≤ (w.alloc (.cells #[.int .i64 1, .int .i64 (n : Int), .bool false, .string ⟨#[]⟩, .slice none 0 0, .slice none 0 0] 26)).heap.size by simp; omega)
  clear h hB hl hn hd
  by_cases c : n < d
  · have ci : (n : Int) < (d : Int) := by omega
    have HP := Aside0.mk (put_at B G bs [bX] _ (w.heap.size + 1) (by simp) HI.out HB1.out (by simp) (by rw [strs_len1]; have := HL.out; have : bX.size = 1 := rfl; omega))
    show Calls Tryd.prog 18 #[.pointer (some ⟨G, 0, none⟩), .agg #[.int .i64 1, .int .i64 (n : Int), .bool false, .string ⟨#[]⟩, .slice none 0 0, .slice none 0 0], .int .i64 (d : Int)] w _
    rw [if_pos c]
    go_enter Tryd.func18, Tryd.ntmps18
    go_wp2_with fail
    refine HP.out.mono ?_
    rintro e w2 ⟨rfl, hP⟩
    have HX := Aside0.mk (keepB HI.out hP HK.out (by decide) (by decide))
    have hk1 : w2.cell? ⟨w.heap.size, 1, none⟩ = some (.int .i64 (n : Int)) := (blk_cell HX.out 1).trans rfl
    have HP2 := Aside0.mk hP
    have w1 : wrap64 ((d : Int) - 1) = (d : Int) - 1 := by unfold wrap64; have := HD.out; omega
    have w2' : wrap64 ((d : Int) - 1 - (n : Int)) = (d : Int) - 1 - (n : Int) := by unfold wrap64; have := HD.out; omega
    have HNN := Aside0.mk (show Calls Tryd.prog 37 #[.pointer (some ⟨G, 0, none⟩), .int .i64 ((d : Int) - 1 - (n : Int))] w2 fun e w' => e = .returned (.tuple #[]) ∧ Pr B G w2 (bs ++ strs [bX] ++ strs [dg (d - 1 - n)]) w' from by
      have e : (d : Int) - 1 - (n : Int) = ((d - 1 - n : Nat) : Int) := by omega
      rw [e]
      exact number_calls B G (bs ++ strs [bX]) (d - 1 - n) (by have := HD.out; omega) w2 HP2.out.is (HP2.out.le HB1.out) (by rw [List.length_append, strs_len1]; have := HL.out; have : bX.size = 1 := rfl; omega))
    clear hP
    go_wp2_with fail
    refine HNN.out.mono ?_
    rintro e w3 ⟨rfl, hP⟩
    have HP3 := Aside0.mk ((HP2.out.al HB.out).trans hP)
    clear hP
    go_wp2
    ((try simp only [Exit.inBlock, Exit.then]); refine bodyPost_ret (results_none rfl _ _ _) rfl ?_)
    refine ⟨rfl, ?_⟩
    have := HP3.out
    rwa [List.append_assoc, ← strs_app] at this
  · have ci : ¬ (n : Int) < (d : Int) := by omega
    have HP := Aside0.mk (put_at B G bs [bF] _ (w.heap.size + 1) (by simp) HI.out HB1.out (by simp) (by rw [strs_len1]; have := HL.out; have : bF.size = 1 := rfl; omega))
    show Calls Tryd.prog 18 #[.pointer (some ⟨G, 0, none⟩), .agg #[.int .i64 1, .int .i64 (n : Int), .bool false, .string ⟨#[]⟩, .slice none 0 0, .slice none 0 0], .int .i64 (d : Int)] w _
    rw [if_neg c]
    go_enter Tryd.func18, Tryd.ntmps18
    go_wp2_with fail
    refine HP.out.mono ?_
    rintro e w2 ⟨rfl, hP⟩
    have HX := Aside0.mk (keepB HI.out hP HK.out (by decide) (by decide))
    have hk1 : w2.cell? ⟨w.heap.size, 1, none⟩ = some (.int .i64 (n : Int)) := (blk_cell HX.out 1).trans rfl
    have HP2 := Aside0.mk hP
    have w2' : wrap64 ((n : Int) - (d : Int)) = (n : Int) - (d : Int) := by unfold wrap64; have := HN.out; omega
    have HNN := Aside0.mk (show Calls Tryd.prog 37 #[.pointer (some ⟨G, 0, none⟩), .int .i64 ((n : Int) - (d : Int))] w2 fun e w' => e = .returned (.tuple #[]) ∧ Pr B G w2 (bs ++ strs [bF] ++ strs [dg (n - d)]) w' from by
      have e : (n : Int) - (d : Int) = ((n - d : Nat) : Int) := by omega
      rw [e]
      exact number_calls B G (bs ++ strs [bF]) (n - d) (by have := HN.out; omega) w2 HP2.out.is (HP2.out.le HB1.out) (by rw [List.length_append, strs_len1]; have := HL.out; have : bF.size = 1 := rfl; omega))
    clear hP
    go_wp2_with fail
    refine HNN.out.mono ?_
    rintro e w3 ⟨rfl, hP⟩
    have HP3 := Aside0.mk ((HP2.out.al HB.out).trans hP)
    clear hP
    go_wp2
    go_end0
    refine ⟨rfl, ?_⟩
    have := HP3.out
    rwa [List.append_assoc, ← strs_app] at this
set_option maxHeartbeats 4000000 in
set_option maxRecDepth 100000 in
theorem sort_calls (B G : Nat) (bs : List Value) (d : Int) (w : World) (lv kv : Value) (hT : TmV w .s lv kv) (h : Lib.IsBuilder 45 5 B G bs w) (hB : B ≤ w.heap.size) (hl : bs.length ≤ 40000000) :
    Calls Tryd.prog 19 #[.pointer (some ⟨G, 0, none⟩), Tm.s.val lv kv, .int .i64 d] w fun e w' => e = .returned (.tuple #[]) ∧ Pr B G w (bs ++ strs [bSet, dg 0]) w' := by
  obtain ⟨rfl, b, rfl, hb⟩ := hT
  have HB := Aside0.mk hB
  have HL := Aside0.mk hl
  have HK := Aside0.mk (blk_new w (.cells #[.int .i64 2, .int .i64 0, .bool false, .string ⟨#[]⟩, .slice (some ⟨b, 0, none⟩) 1 1, .slice none 0 0] 26))
  have HLB := Aside0.mk (blk_alloc hb (.cells #[.int .i64 2, .int .i64 0, .bool false, .string ⟨#[]⟩, .slice (some ⟨b, 0, none⟩) 1 1, .slice none 0 0] 26))
  have HI := Aside0.mk (builder_alloc h (.cells #[.int .i64 2, .int .i64 0, .bool false, .string ⟨#[]⟩, .slice (some ⟨b, 0, none⟩) 1 1, .slice none 0 0] 26))
  have HB1 := Aside0.mk (show B ≤ (w.alloc (.cells #[.int .i64 2, .int .i64 0, .bool false, .string ⟨#[]⟩, .slice (some ⟨b, 0, none⟩) 1 1, .slice none 0 0] 26)).heap.size by simp; omega)
  clear h hB hl hb
  have HP := Aside0.mk (put_at B G bs [bSet] _ (w.heap.size + 1) (by simp) HI.out HB1.out (by simp) (by rw [strs_len1]; have := HL.out; have : bSet.size = 4 := rfl; omega))
  show Calls Tryd.prog 19 #[.pointer (some ⟨G, 0, none⟩), .agg #[.int .i64 2, .int .i64 0, .bool false, .string ⟨#[]⟩, .slice (some ⟨b, 0, none⟩) 1 1, .slice none 0 0], .int .i64 d] w _
  go_enter Tryd.func19, Tryd.ntmps19
  go_wp2_with fail
  refine HP.out.mono ?_
  rintro e w2 ⟨rfl, hP⟩
  have HX := Aside0.mk (keepB HI.out hP HK.out (by decide) (by decide))
  have HY := Aside0.mk (keepB HI.out hP HLB.out (by decide) (by decide))
  have hk1 : w2.cell? ⟨w.heap.size, 4, none⟩ = some (.slice (some ⟨b, 0, none⟩) 1 1) := (blk_cell HX.out 4).trans rfl
  have hk2 : w2.cell? ⟨b, 0, none⟩ = some (.int .i64 0) := (blk_cell HY.out 0).trans rfl
  have hk3 : w2.cell? ⟨b, 1, none⟩ = some (.slice none 0 0) := (blk_cell HY.out 1).trans rfl
  have HP2 := Aside0.mk hP
  have HNN := Aside0.mk (level0_calls B G (bs ++ strs [bSet]) w2 HP2.out.is (HP2.out.le HB1.out) (by rw [List.length_append, strs_len1]; have := HL.out; have : bSet.size = 4 := rfl; omega))
  clear hP
  go_wp2_with fail
  refine HNN.out.mono ?_
  rintro e w3 ⟨rfl, hP⟩
  have HP3 := Aside0.mk ((HP2.out.al HB.out).trans hP)
  clear hP
  go_wp2
  go_end0
  refine ⟨rfl, ?_⟩
  have := HP3.out
  rwa [List.append_assoc, ← strs_app] at this
end Go.Proofs.YthdfpbemdaabaaaDoor.D
