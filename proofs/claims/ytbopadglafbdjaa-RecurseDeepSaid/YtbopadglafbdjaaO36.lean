/- Arguments opened: a slice of calls, and how many patterns stand in it. -/
import Derived.Test.YtbopadglafbdjaaOpen
import Derived.Test.YtbopadglafbdjaaRows
set_option maxRecDepth 100000
set_option linter.unusedVariables false
namespace Go.Proofs.Ytbopadglafbdjaa.Open
open Go.RowKit Go.Joins Go.ChangeShapes Go.WideShapes Go.Deep Go.Proofs.Ytbopadglafbdjaa.PX Go.Proofs.YtbopadglafbdjaaW.PrintWords
mutual
/-- How many patterns are one. -/
def nP : S36 → Nat
  | ⟨_, _, kids⟩ => nL kids + 1
/-- How many patterns are some. -/
def nL : List S36 → Nat
  | [] => 0
  | p :: l => nP p + nL l
end
theorem nL_sum (l : List S36) : nL l = (l.map nP).sum := by
  induction l with
  | nil => rfl
  | cons p l ih => simp [nL, ih]
section
variable {H : Type} {enc : TypeId × Value → H} {w : World} {base : Nat} {spare : Nat → Bool} {held : Bool}
theorem bulkAll_cons (d : DataW H) (r : List (DataW H)) : Rows.uptoBulkAll (d :: r) = Rows.uptoBulk d + Rows.uptoBulkAll r := by simp [Rows.uptoBulkAll]
theorem bulkAll_at (ds : List (DataW H)) (m : Nat → Nat) (h : ∀ (i : Nat) d, ds[i]? = some d → m i ≤ Rows.uptoBulk d) : ((List.range ds.length).map m).sum ≤ Rows.uptoBulkAll ds := by
  induction ds generalizing m with
  | nil => simp
  | cons d r ih =>
    have h1 := ih (fun i => m (i + 1)) (fun i e he => h (i + 1) e (by simpa using he))
    have h0 := h 0 d rfl
    rw [bulkAll_cons, List.length_cons, List.range_succ_eq_map, List.map_cons, List.sum_cons, List.map_map]
    have e : (m ∘ Nat.succ) = fun i => m (i + 1) := rfl
    rw [e]; omega
theorem sum_at {α : Type} (xs : List α) (m : α → Nat) (k : Nat → Nat) (h : ∀ (i : Nat) y, xs[i]? = some y → m y ≤ k i) : (xs.map m).sum ≤ ((List.range xs.length).map k).sum := by
  induction xs generalizing k with
  | nil => simp
  | cons x xs ih =>
    have h1 := ih (fun i => k (i + 1)) (fun i y hy => h (i + 1) y (by simpa using hy))
    have h0 := h 0 x rfl
    rw [List.length_cons, List.range_succ_eq_map, List.map_cons, List.map_cons, List.sum_cons, List.sum_cons, List.map_map]
    have e : (k ∘ Nat.succ) = fun i => k (i + 1) := rfl
    rw [e]; omega
/-- A slice: its elements' readings in a row, and what they weigh. -/
theorem slB {α : Type} (K : Kd α) (m : α → Nat) {t e : TypeId} (ht : Try.prog.underlying t = some (.slice e)) (hC : Try.prog.cellsOf e = K.sz)
    {fuel : Nat} (he : ∀ {n : Nat} {cs : List Value} {x : DataW H × List MemPlace}, n < fuel → DataW.trod enc Try.prog w base spare held n e cs = some x → ∃ y, K.K w y cs ∧ m y ≤ Rows.uptoBulk x.1)
    {cs : List Value} {x : DataW H × List MemPlace} (h : DataW.trod enc Try.prog w base spare held fuel t cs = some x) :
    ∃ xs A c, cs = [.slice A xs.length c] ∧ xs.length ≤ c ∧ K.C w A xs.length xs ∧ (xs.map m).sum + 1 ≤ Rows.uptoBulk x.1 := by
  rcases DataW.trod_slice ht h with ⟨rfl, rfl⟩ | ⟨a, len, cap, elems, rest, n, hf, rfl, rfl, _, hl, hm, hlen, hel, _, _⟩
  · exact ⟨[], none, 0, rfl, Nat.le_refl _, ⟨rfl, by simp, fun h => absurd h (by simp)⟩, by simp [Rows.uptoBulk]⟩
  · obtain ⟨xs, hxl, hxs⟩ := list_of (fun i y => (∃ c, c.length = K.sz ∧ K.K w y c ∧ ∀ j u, c[j]? = some u → w.cell? (a.add (i * K.sz + j)) = some u) ∧ ∀ d, elems[i]? = some d → m y ≤ Rows.uptoBulk d.1) len (fun i hil => by
      have hE := hel i hil
      rw [List.getElem?_eq_getElem (by omega)] at hE
      simp only [Option.bind_eq_some_iff] at hE
      obtain ⟨cs', hc, ht'⟩ := hE
      obtain ⟨y, hy, hmy⟩ := he (by omega) ht'
      obtain ⟨_, hcl, hat⟩ := World.cells?_some hc
      refine ⟨y, ⟨cs', by rw [hcl, hC], hy, fun j u hj => ?_⟩, fun d hd => ?_⟩
      · have hjl : j < Try.prog.cellsOf e := by rw [← hcl]; exact (List.getElem?_eq_some_iff.1 hj).1
        have := hat j hjl
        rw [hC] at this
        rw [← Go.Deep.add_add, this, hj]
      · rw [List.getElem?_eq_getElem (by omega)] at hd
        rw [← Option.some.inj hd]; exact hmy)
    subst hxl
    have hmax : maxLen ≤ 9223372036854775807 := by decide
    refine ⟨xs, some a, cap, rfl, hl, ⟨rfl, by omega, fun _ => ⟨a, rfl, fun j p hj => (hxs j p hj).1⟩⟩, ?_⟩
    have h1 := sum_at xs m (fun i => ((elems.map (·.1))[i]?.elim 0 Rows.uptoBulk)) (fun i y hy => by
      have hi : i < xs.length := (List.getElem?_eq_some_iff.1 hy).1
      have := (hxs i y hy).2 (elems[i]'(by omega)) (List.getElem?_eq_getElem (by omega))
      simpa [List.getElem?_eq_getElem (show i < elems.length by omega)] using this)
    have h2 := bulkAll_at (elems.map (·.1)) (fun i => ((elems.map (·.1))[i]?.elim 0 Rows.uptoBulk)) (fun i d hd => by simp only [hd]; exact Nat.le_refl _)
    rw [List.length_map, hlen] at h2
    simp only [Rows.uptoBulk]
    omega
theorem cells36 : Try.prog.cellsOf 36 = 3 := by kernel_rfl
theorem cells31 : Try.prog.cellsOf 31 = 2 := by kernel_rfl
theorem cells28 : Try.prog.cellsOf 28 = 1 := by kernel_rfl
theorem cells29 : Try.prog.cellsOf 29 = 1 := by kernel_rfl
theorem cells9 : Try.prog.cellsOf 9 = 1 := by kernel_rfl
theorem cells3 : Try.prog.cellsOf 3 = 1 := by kernel_rfl
theorem v36 : ∀ (fuel : Nat) {cs : List Value} {x : DataW H × List MemPlace}, DataW.trod enc Try.prog w base spare held fuel 36 cs = some x → ∃ y : S36, k36.K w y cs ∧ nP y ≤ Rows.uptoBulk x.1 := by
  intro fuel
  induction fuel using Nat.strongRecOn with
  | _ fuel ih =>
    intro cs x h
    obtain ⟨xs, n, rfl, rfl, hl, hxl, hf⟩ := DataW.trod_struct Try.underlying36 h
    rw [cells36] at hl
    match cs, hl with
    | [c0, c1, c2], _ =>
      match xs, hxl with
      | [y0, y1, y2], _ =>
        have h0 : DataW.trod enc Try.prog w base spare held n 3 (([c0, c1, c2].drop 0).take (Try.prog.cellsOf 3)) = some y0 := hf 0 _ rfl
        have h1 : DataW.trod enc Try.prog w base spare held n 9 (([c0, c1, c2].drop 1).take (Try.prog.cellsOf 9)) = some y1 := hf 1 _ rfl
        have h2 : DataW.trod enc Try.prog w base spare held n 28 (([c0, c1, c2].drop 2).take (Try.prog.cellsOf 28)) = some y2 := hf 2 _ rfl
        rw [cells3] at h0
        rw [cells9] at h1
        rw [cells28] at h2
        obtain ⟨i, e0, _, _⟩ := DataW.trod_int Try.underlying3 h0
        obtain ⟨s, e1, e1', _⟩ := DataW.trod_string Try.underlying9 h1
        obtain ⟨ks, A, c, e2, hc, hC, hw⟩ := slB k36 nP Try.underlying28 cells36 (fun {m} {cs} {x} hm ht => ih m (by omega) ht) h2
        simp at e0 e1 e2
        obtain ⟨rfl⟩ := e0
        obtain ⟨rfl⟩ := e1
        obtain ⟨rfl⟩ := e2
        refine ⟨⟨i, s, ks⟩, k36_mk w ⟨i, s, ks⟩ hc hC, ?_⟩
        have := nL_sum ks
        simp only [nP, Rows.uptoBulk, List.map_cons, Rows.uptoBulkAll]
        omega
theorem v28 {fuel : Nat} {cs : List Value} {x : DataW H × List MemPlace} (h : DataW.trod enc Try.prog w base spare held fuel 28 cs = some x) :
    ∃ xs A c, cs = [.slice A xs.length c] ∧ xs.length ≤ c ∧ Kd.C k36 w A xs.length xs ∧ nL xs + 1 ≤ Rows.uptoBulk x.1 := by
  obtain ⟨xs, A, c, e, hc, hC, hw⟩ := slB k36 nP Try.underlying28 cells36 (fun {m} {cs} {x} hm ht => v36 m ht) h
  exact ⟨xs, A, c, e, hc, hC, by rw [nL_sum]; exact hw⟩
/-- How much is a call. -/
def nC (x : S31) : Nat := nL x.f0 + 1
theorem v31 {fuel : Nat} {cs : List Value} {x : DataW H × List MemPlace} (h : DataW.trod enc Try.prog w base spare held fuel 31 cs = some x) : ∃ y : S31, k31.K w y cs ∧ nC y ≤ Rows.uptoBulk x.1 := by
  obtain ⟨xs, n, rfl, rfl, hl, hxl, hf⟩ := DataW.trod_struct Try.underlying31 h
  rw [cells31] at hl
  match cs, hl with
  | [c0, c1], _ =>
    match xs, hxl with
    | [y0, y1], _ =>
      have h0 : DataW.trod enc Try.prog w base spare held n 28 (([c0, c1].drop 0).take (Try.prog.cellsOf 28)) = some y0 := hf 0 _ rfl
      have h1 : DataW.trod enc Try.prog w base spare held n 29 (([c0, c1].drop 1).take (Try.prog.cellsOf 29)) = some y1 := hf 1 _ rfl
      rw [cells28] at h0
      rw [cells29] at h1
      obtain ⟨ks, A0, d0, e0, hc0, hC0, hw⟩ := v28 h0
      obtain ⟨is, A1, d1, e1, hc1, hC1⟩ := v29 h1
      simp at e0 e1
      obtain ⟨rfl⟩ := e0
      obtain ⟨rfl⟩ := e1
      refine ⟨⟨ks, is⟩, k31_mk w ⟨ks, is⟩ hc0 hC0 hc1 hC1, ?_⟩
      simp only [nC, Rows.uptoBulk, List.map_cons, Rows.uptoBulkAll]
      omega
theorem v22 {fuel : Nat} {cs : List Value} {x : DataW H × List MemPlace} (h : DataW.trod enc Try.prog w base spare held fuel 22 cs = some x) :
    ∃ xs A c, cs = [.slice A xs.length c] ∧ xs.length ≤ c ∧ Kd.C k31 w A xs.length xs ∧ (xs.map nC).sum + 1 ≤ Rows.uptoBulk x.1 :=
  slB k31 nC Try.underlying22 cells31 (fun {m} {cs} {x} hm ht => v31 ht) h
theorem sum_mem {α : Type} (l : List α) (m : α → Nat) : ∀ x ∈ l, m x ≤ (l.map m).sum := by
  induction l with
  | nil => intro x h; cases h
  | cons y l ih =>
    intro x h
    rw [List.map_cons, List.sum_cons]
    rcases List.mem_cons.1 h with rfl | h
    · omega
    · have := ih x h; omega
theorem sum_len (l : List S31) : l.length ≤ (l.map nC).sum := by
  induction l with
  | nil => simp
  | cons y l ih => rw [List.map_cons, List.sum_cons, List.length_cons]; have : 1 ≤ nC y := by unfold nC; omega
                   omega
/-- A slice of calls as an argument: its bulk bears its patterns. -/
theorem arg22 {r : Reach} {b0 : Nat} {v : Value} {d : DataW H} {p : List MemPlace} (hv : Value.okWide Try.prog w r b0 22 v) (h : DataW.Trod enc Try.prog w base spare held 22 v d p) :
    ∃ (l : List S31) (A : Option Addr) (c : Nat), v = .slice A l.length c ∧ l.length ≤ c ∧ Kd.C k31 w A l.length l ∧ l.length ≤ Rows.uptoBulk d ∧ ∀ x ∈ l, nL x.f0 ≤ Rows.uptoBulk d := by
  obtain ⟨a0, len, cap, rfl⟩ := okWide_slice Try.underlying22 hv
  obtain ⟨fuel, hf⟩ := h
  obtain ⟨l, A, c, e, hc, hC, hw⟩ := v22 hf
  simp [Value.cells] at e
  obtain ⟨rfl, rfl, rfl⟩ := e
  refine ⟨l, _, _, rfl, hc, hC, ?_, fun x hx => ?_⟩
  · have := sum_len l; have h2 : (l.map nC).sum + 1 ≤ Rows.uptoBulk d := hw
    omega
  · have := sum_mem l nC x hx; unfold nC at this; have h2 : (l.map nC).sum + 1 ≤ Rows.uptoBulk d := hw
    have h3 : (l.map fun x => nL x.f0 + 1).sum = (l.map nC).sum := rfl
    omega
end
end Go.Proofs.Ytbopadglafbdjaa.Open
