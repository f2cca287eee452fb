/- How a call is at a place, and the four tests of it, walked. -/
import Derived.Test.YtbopadglafbdjaaRK
import Derived.Test.YtbopadglafbdjaaMP0
import Derived.Test.YtbopadglafbdjaaPXxf63
set_option linter.unusedVariables false
set_option linter.unusedSimpArgs false
namespace Go.Proofs.Ytbopadglafbdjaa.PX
open Go Go.RowKit Go.Proofs.YtbopadglafbdjaaW.PrintWords Go.Proofs.YtbopadglafbdjaaW.PrintLast Go.Proofs.YtbopadglafbdjaaW.PrintMore

/-- How a call is at a place: 0 neither, 1 like, 2 smaller. -/
def atR (x : S31) (k : Int) : Int :=
  if k ≥ (x.f0.length : Int) ∨ k ≥ (x.f1.length : Int) then 0
  else if rd x.f1 k < cL 0 (x.f0.take k.toNat) ∨ rd x.f1 k ≥ wrap64 (cL 0 (x.f0.take k.toNat) + cL 0 ((x.f0.take (k + 1).toNat).drop k.toNat)) then 0
  else if (rd_T36 x.f0 k).f0 = 1 then 1 else if (rd_T36 x.f0 k).f0 = 2 then 2 else 0
theorem at_is (x : S31) (k : Int) (h0 : 0 ≤ k) (h1 : k ≤ 1000) : M.Ev (fun n => recurse_at.f n x.f0 x.f1 k) (atR x k) := by
  unfold recurse_at.f atR
  have hb : M.Ev (fun n => recurse_at.j0 n k true x.f0 x.f1) 0 := M.Ev.succ (by simp only [recurse_at.j0, if_true]; exact M.Ev.pure _)
  by_cases c1 : k ≥ (x.f0.length : Int)
  · simp only [c1, if_true, true_or]; exact hb
  by_cases c2 : k ≥ (x.f1.length : Int)
  · simp only [c1, c2, if_false, decide_true, or_true, if_true]; exact hb
  simp only [c1, c2, if_false, decide_false, or_self]
  refine M.Ev.succ ?_
  have hw : wrap64 (k + 1) = k + 1 := M.wr _ (by omega) (by omega)
  have d1 : (0 ≤ k) = True := eq_true h0
  have d2 : (k ≤ (x.f0.length : Int)) = True := eq_true (by omega)
  have d3 : (k ≤ k + 1) = True := eq_true (by omega)
  have d4 : (k + 1 ≤ (x.f0.length : Int)) = True := eq_true (by omega)
  have d5 : (k < (x.f1.length : Int)) = True := eq_true (by omega)
  have d6 : (k < (x.f0.length : Int)) = True := eq_true (by omega)
  simp only [recurse_at.j0, Bool.false_eq_true, if_false, hw, d1, d2, d3, d4, d5, if_true, recurse_Vars.f, Option.bind_some]
  have hn : M.Ev (fun n => recurse_at.j1 n k true x.f0 x.f1) 0 := M.Ev.succ (by simp only [recurse_at.j1, if_true]; exact M.Ev.pure _)
  by_cases e1 : rd x.f1 k < cL 0 (x.f0.take k.toNat)
  · simp only [e1, if_true, true_or]; exact hn
  by_cases e2 : rd x.f1 k ≥ wrap64 (cL 0 (x.f0.take k.toNat) + cL 0 ((x.f0.take (k + 1).toNat).drop k.toNat))
  · simp only [e1, e2, if_false, decide_true, or_true, if_true]; exact hn
  simp only [e1, e2, if_false, decide_false, or_self]
  refine M.Ev.succ ?_
  simp only [recurse_at.j1, Bool.false_eq_true, if_false, d1, d6, if_true]
  split
  · exact M.Ev.pure _
  · split
    · exact M.Ev.pure _
    · exact M.Ev.pure _
theorem enters_of {g : Nat} {fn : Func} (h1 : Try.prog.funcs[g]? = some fn) (h2 : (fn.name == "runtime.NumGoroutine") = false) (h3 : fn.body.isSome = true) : ∀ args w, (callFunc g args).run Try.prog w = .ok (.enter g args) w := enters_ h1 h2 h3
set_option maxHeartbeats 4000000 in
set_option maxRecDepth 100000 in
theorem keeps62 (B : Nat) (k : Int) (h0 : 0 ≤ k) (h1 : k ≤ 1000) : Keeps 62 B k (fun x => atR x k == 2) := by
  refine ⟨enters_of Try.func62 (by kernel_rfl) (by kernel_rfl), ?_⟩
  intro x A0 c0 A1 c1 W hr0 hc0 hr1 hc1 hB
  obtain ⟨n, hn⟩ := (at_is x k h0 h1).ex
  have HN := Aside0.mk hn
  have HR0 := Aside0.mk (Kd.C_alloc hr0 (.cells #[.slice A0 x.f0.length c0, .slice A1 x.f1.length c1] 31))
  have HR1 := Aside0.mk (Kd.C_alloc hr1 (.cells #[.slice A0 x.f0.length c0, .slice A1 x.f1.length c1] 31))
  have HC0 := Aside0.mk hc0
  have HC1 := Aside0.mk hc1
  have hu31 := Try.underlying31
  have hcB : (W.alloc (.cells #[.slice A0 x.f0.length c0, .slice A1 x.f1.length c1] 31)).cell? ⟨B, 0, none⟩ = some (.int .i64 k) := (blk_cell (blk_alloc hB _) 0).trans rfl
  clear hn hr0 hr1 hc0 hc1 hB
  go_enter Try.func62, Try.ntmps62
  go_wp2_with fail
  refine (recurse_at.calls n A0 c0 x.f0 A1 c1 x.f1 k (atR x k) _ HR0.out HC0.out HR1.out HC1.out HN.out).mono ?_
  rintro e w2 ⟨rfl, hb⟩
  have HB := Aside0.mk (((Below.refl W.heap.size W).alloc (Nat.le_refl _) _).trans (hb.mono (by simp)))
  clear hb
  go_wp2
  go_ret
  exact ⟨rfl, HB.out⟩
end Go.Proofs.Ytbopadglafbdjaa.PX
