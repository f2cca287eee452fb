/- Arguments opened: a slice of limits. -/
import Derived.Test.YtbopadglafbdjaaOpen
set_option maxRecDepth 100000
set_option linter.unusedVariables false
namespace Go.Proofs.Ytbopadglafbdjaa.Open
open Go.RowKit Go.Joins Go.ChangeShapes Go.WideShapes Go.Deep Go.Proofs.Ytbopadglafbdjaa.PX Go.Proofs.YtbopadglafbdjaaW.PrintWords
section
variable {H : Type} {enc : TypeId × Value → H} {w : World} {base : Nat} {spare : Nat → Bool} {held : Bool}
theorem cells45 : Try.prog.cellsOf 45 = 4 := by kernel_rfl
theorem v45 {fuel : Nat} {cs : List Value} {x : DataW H × List MemPlace} (h : DataW.trod enc Try.prog w base spare held fuel 45 cs = some x) : ∃ y : S45, k45.K w y cs := by
  obtain ⟨xs, n, rfl, rfl, hl, hxl, hf⟩ := DataW.trod_struct Try.underlying45 h
  rw [cells45] at hl
  match cs, hl with
  | [c0, c1, c2, c3], _ =>
    match xs, hxl with
    | [y0, y1], _ =>
      have h0 : DataW.trod enc Try.prog w base spare held n 43 (([c0, c1, c2, c3].drop 0).take (Try.prog.cellsOf 43)) = some y0 := hf 0 _ rfl
      have h1 : DataW.trod enc Try.prog w base spare held n 43 (([c0, c1, c2, c3].drop 2).take (Try.prog.cellsOf 43)) = some y1 := hf 1 _ rfl
      rw [cells43] at h0 h1
      obtain ⟨a, ha⟩ := v43 h0
      obtain ⟨b, hb⟩ := v43 h1
      obtain ⟨A1, d1, e1, l1, g1⟩ := k43_open ha
      obtain ⟨A3, d3, e3, l3, g3⟩ := k43_open hb
      simp at e1 e3
      obtain ⟨rfl, rfl⟩ := e1
      obtain ⟨rfl, rfl⟩ := e3
      exact ⟨⟨a, b⟩, k45_mk w ⟨a, b⟩ l1 g1 l3 g3⟩
theorem v40 {fuel : Nat} {cs : List Value} {x : DataW H × List MemPlace} (h : DataW.trod enc Try.prog w base spare held fuel 40 cs = some x) :
    ∃ xs A c, cs = [.slice A xs.length c] ∧ xs.length ≤ c ∧ Kd.C k45 w A xs.length xs := sl k45 Try.underlying40 cells45 v45 h
theorem arg40 {r : Reach} {b0 : Nat} {v : Value} {d : DataW H} {p : List MemPlace} (hv : Value.okWide Try.prog w r b0 40 v) (h : DataW.Trod enc Try.prog w base spare held 40 v d p) :
    ∃ (l : List S45) (A : Option Addr) (c : Nat), v = .slice A l.length c ∧ l.length ≤ c ∧ Kd.C k45 w A l.length l := by
  obtain ⟨a0, len, cap, rfl⟩ := okWide_slice Try.underlying40 hv
  obtain ⟨fuel, hf⟩ := h
  obtain ⟨l, A, c, e, hc, hC⟩ := v40 hf
  simp [Value.cells] at e
  obtain ⟨rfl, rfl, rfl⟩ := e
  exact ⟨l, _, _, rfl, hc, hC⟩
end
end Go.Proofs.Ytbopadglafbdjaa.Open
