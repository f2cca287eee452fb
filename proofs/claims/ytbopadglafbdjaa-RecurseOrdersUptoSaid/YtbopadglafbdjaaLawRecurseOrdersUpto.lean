-- by wip/tools/rowupto.py of this session
import Derived.Test.YtbopadglafbdjaaRows
import Derived.Test.YtbopadglafbdjaaMO
import Derived.Test.YtbopadglafbdjaaO36
import Derived.WalkKit
import Derived.ProofKit
import Derived.OpenShut
import Derived.ShutString
import Derived.ChangeOld
import Derived.Below
import Derived.SizedLaws
import Derived.JoinedOf
import Derived.JoinedAt
import Derived.JoinedCond
import Derived.Deep.CondSized
namespace Go.Proofs.Ytbopadglafbdjaa.recurseOrdersUpto
open Go.ChangeShapes Go.WideShapes Go.ChangeAt Go.RowKit
set_option linter.unusedVariables false
theorem own : ownKnob Try.prog.godebug = none := by kernel_rfl
set_option maxRecDepth 100000 in
theorem lifted (os : Os) (started : os.Started) (H : Type) (enc : TypeId × Value → H) (F0 : Stop.Interp) :
    ReturnsInHanded {} Try.checked os 4 .any ((Rows.OpenSpec.upto Rows.recurseOrdersSpec).pre6 enc Try.prog Try.f4 Rows.recurseOrdersUptoRow.domain false) (((Rows.OpenSpec.upto Rows.recurseOrdersSpec).at F0).post enc Try.prog Try.f4 false true false false) := by
  refine returnsInHanded_of_cond_sized (C := Try.checked) (s := Rows.OpenSpec.upto Rows.recurseOrdersSpec) (k := Rows.uptoSmall) rfl own started (by kernel_rfl) Try.func4
    (OpenSpec.witness (enc := enc) (C := Try.checked) (s := Rows.OpenSpec.upto Rows.recurseOrdersSpec) (k := Rows.uptoSmall) rfl false ⟨#[], #[.slice none 0 0, .int .i64 0], []⟩ 8 (by kernel_rfl) (by kernel_rfl) (by kernel_rfl)
      (x := ([.nil, .lit (.int .i64 0)], [], [])) (by kernel_rfl) (by kernel_rfl) (by kernel_rfl)) ?_
  intro W base args ds gs before hval0 hW hcnd hk0 hsz0 _
  have hval : ∀ (j : Nat) t v, Try.f4.params[j]? = some t → args[j]? = some v → Value.okWide Try.prog W .any base t v := hval0
  have hW' := hW
  obtain ⟨p, q, hA0, hV, rfl, hfz, hnd⟩ := hW
  have hA : DataW.TrodAll enc Try.prog W 0 (fun _ => true) true Try.f4.params.toList args.toList ds p := hA0
  rw [Try.params4] at hA hval
  obtain ⟨v0, vs0, d0, ds0, p0, q0, hargs, rfl, rfl, h0, r0⟩ := trodAll_cons hA
  obtain ⟨v1, vs1, d1, ds1, p1, q1, rfl, rfl, rfl, h1, r1⟩ := trodAll_cons r0
  obtain ⟨rfl, rfl, rfl⟩ := trodAll_nil r1
  obtain rfl : args = #[v0, v1] := by cases args; simp_all
  obtain ⟨rfl, rfl⟩ := trodVars_none hV
  have hlt := hA0.lt
  have g0 := h0
  have hlt0 : ∀ x ∈ p0, x.block < W.heap.size := fun x hx => hlt x (by simp [hx])
  obtain ⟨l0, A0, c0, rfl, hc0, hr0, hn0, hx0⟩ := Open.arg22 (hval 0 22 v0 rfl rfl) h0
  have g1 := h1
  have hlt1 : ∀ x ∈ p1, x.block < W.heap.size := fun x hx => hlt x (by simp [hx])
  obtain ⟨a1, rfl, rfl, rfl, w1⟩ := open_int Try.underlying3 (hval 1 3 v1 rfl rfl) h1
  have hk : Rows.uptoBulk d0 ≤ 1048576 := by
    have hk1 : decide (Rows.uptoBulkAll [d0, .lit (.int .i64 a1)] ≤ 1048576) = true := hk0
    have hk2 := of_decide_eq_true hk1
    simp only [Rows.uptoBulkAll] at hk2
    omega
  clear hA0 hval0 hsz0 hk0
  obtain ⟨k, hk'⟩ := (M.Orders l0 a1 (fun x hx => Nat.le_trans (hx0 x hx) hk)).ex
  refine (PX.telamonlaw23_RecurseOrders.calls k A0 c0 l0 a1 true ⟨rfl⟩ W hr0 hc0 hk').mono fun e W' ⟨he, bel⟩ => ?_
  subst he
  exact ⟨_, rfl, _, _, _, [], _, [], hW', trodAll_mk1 (shut_bool Try.underlying4 _), (trodAll_cons_mk (Below.trod Open.laidOut (by kernel_rfl) (of_decide_eq_true (by kernel_rfl)) g0 bel hlt0) (trodAll_cons_mk (Below.trod Open.laidOut (by kernel_rfl) (of_decide_eq_true (by kernel_rfl)) g1 bel hlt1) trodAll_mk0)), rfl, bel.frame _, fun h => by cases h⟩
theorem over : Rows.recurseOrdersUptoRow.holds Try.pinned (Rows.OpenSpec.upto Rows.recurseOrdersSpec) :=
  OpenClaim.holds_of_cond 4 Try.f4 rfl rfl rfl rfl rfl rfl rfl ⟨rfl, rfl, rfl, rfl, rfl⟩ rfl rfl rfl rfl rfl (by kernel_rfl) Try.func4 (by kernel_rfl)
    (of_decide_eq_true (by kernel_rfl)) (by unfold Func.isWrapper; first | (rw [if_pos (by decide +kernel)]; kernel_rfl) | (rw [if_neg (by decide +kernel)]; exact ⟨rfl, rfl⟩))
    (fun os started H enc _ F0 => lifted os started H enc F0)
theorem proved : Rows.RecurseOrdersUptoSaid := over
#print axioms proved
end Go.Proofs.Ytbopadglafbdjaa.recurseOrdersUpto
namespace Go.Proofs.Ytbopadglafbdjaa
/-- The row, under a short name, for the claim. -/
theorem recurseOrdersUpto_holds : Rows.RecurseOrdersUptoSaid := recurseOrdersUpto.proved
end Go.Proofs.Ytbopadglafbdjaa
