/- Digits of small numbers. -/
import Derived.Test.YthdfpbemdaabaaaDoorTU
set_option linter.unusedVariables false
set_option linter.unusedSimpArgs false
namespace Go.Proofs.YthdfpbemdaabaaaDoor.D
open Go Go.RowKit Go.Proofs.YthdfpbemdaabaaaDoorW.PrintWords Go.Proofs.YthdfpbemdaabaaaDoorW.PrintLast Go.Proofs.YthdfpbemdaabaaaDoorW.PrintMore
theorem dg_size (n : Nat) (h : n < 10) : (dg n).size = 1 := by
  unfold dg
  rw [dd1 n h]
  rfl
theorem slice_dec (m : Nat) (hm : m < 10) (w : World) : (Instr.slice 9 (.string ⟨#[48, 49, 50, 51, 52, 53, 54, 55, 56, 57]⟩) (some (.int .i64 (m : Int))) (some (.int .i64 ((m : Int) + 1))) none).run Tryd.prog w = .ok (.string (dg m)) w := by
  show (Instr.slice 9 (.string decs) (some (.int .i64 (m : Int))) (some (.int .i64 ((m : Int) + 1))) none).run Tryd.prog w = _
  rw [← decs_piece m hm, run_slice_string w 9 decs .i64 .i64 _ _ Tryd.underlying9 (by omega) (by omega) (by rw [show decs.size = 10 from rfl]; omega), show ((m : Int)).toNat = m by omega, show ((m : Int) + 1).toNat = m + 1 by omega]
set_option maxHeartbeats 4000000 in
set_option maxRecDepth 100000 in
theorem digits1 (n : Nat) (hn : n < 10) (w : World) : Calls Tryd.prog 7 #[.int .i64 (n : Int)] w fun e w' => e = .returned (.string (dg n)) ∧ w' = w := by
  have h1 : Int.tmod (n : Int) 10 = (n : Int) := Int.tmod_eq_of_lt (by omega) (by omega)
  have h2 : wrap64 ((n : Int) + 1) = (n : Int) + 1 := by unfold wrap64; omega
  have h3 : ¬ (n : Int) > 9 := by omega
  have hsl := slice_dec n hn
  go_enter Tryd.func7, Tryd.ntmps7
  go_wp2
  go_ret
  exact ⟨rfl, rfl⟩
set_option maxHeartbeats 4000000 in
set_option maxRecDepth 100000 in
theorem digits_calls (n : Nat) (hn : n < 100) (w : World) : Calls Tryd.prog 7 #[.int .i64 (n : Int)] w fun e w' => e = .returned (.string (dg n)) ∧ w' = w := by
  by_cases c : n < 10
  · exact digits1 n c w
  have h1 : Int.tmod (n : Int) 10 = ((n % 10 : Nat) : Int) := by rw [Int.tmod_eq_emod_of_nonneg (by omega)]; omega
  have h2 : wrap64 (((n % 10 : Nat) : Int) + 1) = ((n % 10 : Nat) : Int) + 1 := by unfold wrap64; omega
  have h3 : (n : Int) > 9 := by omega
  have h4 : Int.tdiv (n : Int) 10 = ((n / 10 : Nat) : Int) := by rw [Int.tdiv_eq_ediv_of_nonneg (by omega)]; omega
  have h5 : wrap64 ((n / 10 : Nat) : Int) = ((n / 10 : Nat) : Int) := by unfold wrap64; omega
  have HD := Aside0.mk (digits1 (n / 10) (by omega) w)
  have HE := Aside0.mk (dg_two n c hn)
  have h6 := dg_size (n / 10) (by omega)
  have h7 := dg_size (n % 10) (by omega)
  have h8 : (9223372036854775807 < (dg (n / 10)).size + (dg (n % 10)).size) = False := by rw [h6, h7]; decide
  have hsl := slice_dec (n % 10) (by omega)
  clear hn c
  generalize n % 10 = m at *
  generalize n / 10 = q at *
  go_enter Tryd.func7, Tryd.ntmps7
  go_wp2_with fail
  refine HD.out.mono ?_
  rintro e w2 ⟨rfl, rfl⟩
  go_wp2
  go_ret
  exact ⟨by rw [HE.out]; rfl, rfl⟩
end Go.Proofs.YthdfpbemdaabaaaDoor.D
