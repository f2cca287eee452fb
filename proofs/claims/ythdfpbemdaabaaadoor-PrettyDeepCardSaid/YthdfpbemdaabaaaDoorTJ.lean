/- The examples of the document. -/
import Derived.Test.YthdfpbemdaabaaaDoorTG
import Derived.Test.YthdfpbemdaabaaaDoorTV
set_option linter.unusedVariables false
set_option linter.unusedSimpArgs false
namespace Go.Proofs.YthdfpbemdaabaaaDoor.D
open Go Go.RowKit Go.Proofs.YthdfpbemdaabaaaDoorW.PrintWords Go.Proofs.YthdfpbemdaabaaaDoorW.PrintLast Go.Proofs.YthdfpbemdaabaaaDoorW.PrintMore
theorem dd1 (n : Nat) (h : n < 10) : Lib.decDigits n = [UInt8.ofNat (48 + n)] := by unfold Lib.decDigits; rw [dif_pos h]
def exT : Tm := .l false .s (.l true (.v 0) (.v 0))
def exL : List UInt8 := [92, 40, 120, 48, 32, 58, 32, 83, 101, 116, 32, 48, 41, 32, 45, 62, 32, 92, 123, 120, 49, 32, 58, 32, 120, 48, 125, 32, 45, 62, 32, 120, 49]
theorem ex_txt : Lib.byteCells exL = strs (txt exT 0) := by
  have e : txt exT 0 = [bLam, bOp false, bX] ++ [dg 0] ++ [bCol] ++ [bSet, dg 0] ++ [bCl false, bArr] ++ ([bLam, bOp true, bX] ++ [dg 1] ++ [bCol] ++ [bX, dg 0] ++ [bCl true, bArr] ++ [bX, dg 1]) := rfl
  have d0 : dg 0 = ⟨#[48]⟩ := by unfold dg; rw [dd1 0 (by decide)]; rfl
  have d1 : dg 1 = ⟨#[49]⟩ := by unfold dg; rw [dd1 1 (by decide)]; rfl
  rw [e, d0, d1]
  rfl
set_option maxHeartbeats 4000000 in
set_option maxRecDepth 100000 in
theorem alive_calls (w : World) : Calls Tryd.prog 4 #[] w fun e w' => e = .returned (.bool true) ∧ Below w.heap.size w w' := by
  go_enter Tryd.func4, Tryd.ntmps4
  go_wp2_with fail
  refine (tset_calls w).mono ?_
  rintro e w1 ⟨b, rfl, hb, hb1⟩
  have HB := Aside0.mk hb
  have B1 := Aside0.mk hb1
  clear hb hb1
  go_wp2_with fail
  refine (tvar_calls 0 w1).mono ?_
  rintro e w2 ⟨rfl, hb2⟩
  have HB2 := Aside0.mk (blk_below HB.out hb2)
  have B2 := Aside0.mk (B1.out.trans (hb2.mono B1.out.size))
  clear hb2
  go_wp2_with fail
  refine (tvar_calls 0 w2).mono ?_
  rintro e w3 ⟨rfl, hb3⟩
  have HB3 := Aside0.mk (blk_alloc (blk_below HB2.out hb3) (.cells #[.int .i64 1, .int .i64 0, .bool false, .string ⟨#[]⟩, .slice none 0 0, .slice none 0 0, .int .i64 1, .int .i64 0, .bool false, .string ⟨#[]⟩, .slice none 0 0, .slice none 0 0] 26))
  have B3 := Aside0.mk (below_alloc (B2.out.trans (hb3.mono B2.out.size)) (.cells #[.int .i64 1, .int .i64 0, .bool false, .string ⟨#[]⟩, .slice none 0 0, .slice none 0 0, .int .i64 1, .int .i64 0, .bool false, .string ⟨#[]⟩, .slice none 0 0, .slice none 0 0] 26))
  have L3 := Aside0.mk (tlam_calls .s (.l true (.v 0) (.v 0)) (.slice (some ⟨b, 0, none⟩) 1 1) (.slice none 0 0) (.slice none 0 0) (.slice (some ⟨w3.heap.size, 0, none⟩) 2 2) (w3.alloc (.cells #[.int .i64 1, .int .i64 0, .bool false, .string ⟨#[]⟩, .slice none 0 0, .slice none 0 0, .int .i64 1, .int .i64 0, .bool false, .string ⟨#[]⟩, .slice none 0 0, .slice none 0 0] 26)) ⟨rfl, b, rfl, HB3.out⟩ ⟨rfl, w3.heap.size, _, _, _, _, rfl, blk_new w3 _, ⟨rfl, rfl⟩, ⟨rfl, rfl⟩⟩)
  clear hb3
  go_wp2_with fail
  refine (show Calls Tryd.prog 10 #[.agg #[.int .i64 2, .int .i64 0, .bool false, .string ⟨#[]⟩, .slice (some ⟨b, 0, none⟩) 1 1, .slice none 0 0], .agg #[.int .i64 4, .int .i64 0, .bool true, .string ⟨#[]⟩, .slice none 0 0, .slice (some ⟨w3.heap.size, 0, none⟩) 2 2]] _ _ from L3.out).mono ?_
  rintro e w4 ⟨lv, kv, he, hT, hb4⟩
  obtain ⟨a, n, c, a', n', c', rfl, rfl⟩ := hT.sl'
  have he' : e = .returned (.agg #[.int .i64 4, .int .i64 0, .bool false, .string ⟨#[]⟩, .slice a n c, .slice a' n' c']) := he
  clear he
  subst he'
  have T4 := Aside0.mk (hT.alloc (.cells #[.int .i64 4, .int .i64 0, .bool false, .string ⟨#[]⟩, .slice a n c, .slice a' n' c'] 26))
  have B4 := Aside0.mk (below_alloc (B3.out.trans (hb4.mono B3.out.size)) (.cells #[.int .i64 4, .int .i64 0, .bool false, .string ⟨#[]⟩, .slice a n c, .slice a' n' c'] 26))
  have P4 := Aside0.mk (pterm_calls exT exL ex_txt (by decide) (by decide) (by decide) (by decide) ⟨trivial, (by decide : (0 : Nat) < 100), (by decide : (0 : Nat) < 100)⟩ ⟨trivial, (by decide : (0 : Nat) < 128), (by decide : (0 : Nat) < 128)⟩ (by decide) ⟨by decide, trivial, by decide, ⟨by decide, by decide⟩, ⟨by decide, by decide⟩⟩ _ _ _ T4.out)
  clear hb4 hT
  go_wp2_with fail
  refine (show Calls Tryd.prog 9 #[.agg #[.int .i64 4, .int .i64 0, .bool false, .string ⟨#[]⟩, .slice a n c, .slice a' n' c']] _ _ from P4.out).mono ?_
  rintro e w5 ⟨rfl, hb5⟩
  have B5 := Aside0.mk (B4.out.trans (hb5.mono B4.out.size))
  clear hb5
  go_wp2
  go_ret
  exact ⟨rfl, B5.out⟩
end Go.Proofs.YthdfpbemdaabaaaDoor.D
