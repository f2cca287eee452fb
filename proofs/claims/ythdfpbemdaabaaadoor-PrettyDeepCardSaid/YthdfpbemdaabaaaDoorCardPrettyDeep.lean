/- For every n, k and hid the law PrettyDeep tells true and leaves its arguments alone. Condition: the three tables of Go's library that the row lists hold what the program's text lays in them, which the card ties to that text. -/
import Derived.Test.YthdfpbemdaabaaaDoorLawPrettyDeep
import Derived.Test.YthdfpbemdaabaaaDoorTie
import Derived.Test.YthdfpbemdaabaaaDoorCards
import Derived.SevenTiedAt
namespace Go.Proofs.YthdfpbemdaabaaaDoor
open Go
/-- The card: the row, its three listed variables tied to the program's text. -/
theorem prettyDeep_holds : Rows.PrettyDeepCardSaid :=
  Claim7.holds_tied_plain_at .later [] [.data, .data, .data] true (true, "2f1748a506eb75b58a2f9db195cab0288857b8c287e529567833ff7c5e5a2156") false
    prettyDeep.over (fun _ h => by cases h) (by kernel_rfl) (fun _ h => by cases h) prettyDeep_row_tie rfl ⟨rfl, rfl⟩ (by kernel_rfl) rfl
    (fun f fn hf hfn => by
      obtain rfl : f = 3 := Option.some.inj ((show Tryd.prog.funcNamed "telamon/telamonlaw25.PrettyDeep" = some 3 by kernel_rfl).symm.trans hf) |>.symm
      obtain rfl : fn = Tryd.f3 := (Option.some.inj (Tryd.func3.symm.trans hfn)).symm
      exact ⟨by kernel_rfl, fun j t ht => by
        rw [Tryd.params3] at ht
        have h34 : t = 3 ∨ t = 4 := by
          rcases j with _ | _ | _ | j
          · exact Or.inl (by simpa using ht.symm)
          · exact Or.inl (by simpa using ht.symm)
          · exact Or.inr (by simpa using ht.symm)
          · simp at ht
        rcases h34 with rfl | rfl
        · exact (show Tryd.prog.wantsStandIn 3 = false by kernel_rfl)
        · exact (show Tryd.prog.wantsStandIn 4 = false by kernel_rfl)⟩)
    (by kernel_rfl)
#print axioms prettyDeep_holds
end Go.Proofs.YthdfpbemdaabaaaDoor
