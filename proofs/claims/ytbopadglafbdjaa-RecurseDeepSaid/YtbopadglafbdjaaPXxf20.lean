-- by wip/tools/gprint.py of this session over the kit's print; given functions are this session's own text
import Derived.Test.YtbopadglafbdjaaPXx0
import Derived.Test.YtbopadglafbdjaaRT
namespace Go.Proofs.Ytbopadglafbdjaa.PX
open Go.RowKit Go.Proofs.YtbopadglafbdjaaW.PrintWords Go.Proofs.YtbopadglafbdjaaW.PrintLast Go.Proofs.YtbopadglafbdjaaW.PrintMore
attribute [local go_sem] max2_int min2_int max_two min_two max_three min_three max_four min_four   -- for this text's walks alone
set_option linter.unusedVariables false
set_option linter.unusedSimpArgs false

/-! ### recurse_Find: function 20 -/
-- GIVEN
-- IMPORTS Derived.Test.YtbopadglafbdjaaRT
set_option linter.unusedVariables false
set_option linter.unusedSimpArgs false
/-- Are all calls smaller at a place? -/
def allS (l : List S31) (k : Nat) : Bool := l.all fun x => atR x (k : Int) == 2
def findR (l : List S31) (a : Int) : Int × Bool :=
  if l.length = 0 then (0, decide (1 ≤ a) && decide (a ≤ 100))
  else if a ≤ 100 then ((List.range a.toNat).find? (allS l)).elim (0, false) fun k => ((k : Int), true)
  else (0, false)
def recurse_Find.f (l0 : List S31) (a1 : Int) : Option (Int × Bool) := if l0.length ≤ 1000000 then some (findR l0 a1) else none
def ptrOf : Value → Addr
  | .pointer (some a) => a
  | _ => ⟨0, 0, none⟩
theorem find_none {n : Nat} {p : Nat → Bool} (h : ∀ j, j < n → p j = false) : (List.range n).find? p = none := by
  rw [List.find?_eq_none]; intro j hj; have := h j (List.mem_range.1 hj); simp [this]
theorem find_at {n q : Nat} {p : Nat → Bool} (hq : q < n) (h : ∀ j, j < q → p j = false) (hp : p q = true) : (List.range n).find? p = some q := by
  rw [List.find?_range_eq_some]; exact ⟨hp, List.mem_range.2 hq, fun j hj => by simp [h j hj]⟩
theorem filter_all {α : Type} (l : List α) (p : α → Bool) : ((l.filter p).length = l.length) ↔ l.all p = true := by
  rw [List.length_filter_eq_length_iff, List.all_eq_true]
set_option maxHeartbeats 8000000 in
set_option maxRecDepth 100000 in
theorem recurse_Find.calls (A0 : Option Addr) (c0 : Nat) (l0 : List (S31)) (a1 : Int) (r1 : Int) (r2 : Bool) (w : World) (hr0 : Kd.C k31 w A0 l0.length l0) (hc0 : l0.length ≤ c0) (h : recurse_Find.f l0 a1 = some (r1, r2)) :
    Calls Try.prog 20 #[.slice A0 l0.length c0, .int .i64 a1] w fun e w' => e = .returned (.tuple #[.int .i64 r1, .bool r2]) ∧ Below w.heap.size w w' := by
  unfold recurse_Find.f at h
  split at h
  · next hlen =>
    have hf : findR l0 a1 = (r1, r2) := Option.some.inj h
    clear h
    unfold findR at hf
    have HR := Aside0.mk hr0
    have HC := Aside0.mk hc0
    have HLEN := Aside0.mk hlen
    clear hr0 hc0 hlen
    go_enter Try.func20, Try.ntmps20
    by_cases hz : l0.length = 0
    · rw [if_pos hz] at hf
      obtain ⟨h1_, h2_⟩ := Prod.mk.inj hf
      subst h1_
      subst h2_
      by_cases c1 : 1 ≤ a1
      · by_cases c2 : a1 ≤ 100
        · go_wp2
          ((try simp only [Exit.inBlock, Exit.then]); refine bodyPost_ret (results_tmp2 (fn := Try.f20) (t := 4) (u := 5) rfl _ _ _) rfl ?_)
          exact ⟨by simp [*, Array.getD], Below.refl _ _⟩
        · go_wp2
          ((try simp only [Exit.inBlock, Exit.then]); refine bodyPost_ret (results_tmp2 (fn := Try.f20) (t := 4) (u := 5) rfl _ _ _) rfl ?_)
          exact ⟨by simp [*, Array.getD], Below.refl _ _⟩
      · go_wp2
        ((try simp only [Exit.inBlock, Exit.then]); refine bodyPost_ret (results_tmp2 (fn := Try.f20) (t := 4) (u := 5) rfl _ _ _) rfl ?_)
        exact ⟨by rw [decide_eq_false (show ¬ 1 ≤ a1 by omega)]; rfl, Below.refl _ _⟩
    · rw [if_neg hz] at hf
      have HF := Aside0.mk hf
      have hzi : ¬ (l0.length : Int) = 0 := by omega
      clear hf
      go_wp2
      go_loopw [6] (fun v wr => ∃ (q B : Nat), v = .pointer (some ⟨B, 0, none⟩) ∧ Aside0 (q ≤ 101) ∧ Aside0 (wr.heap[B]? = some (.cells #[.int .i64 (q : Int)] 3 (0, 0))) ∧ Aside0 (∀ j, j < q → allS l0 j = false) ∧ Aside0 (Below w.heap.size w wr))
        (fun v wr => (1000 - intOf ((wr.cell? (ptrOf v)).getD undef)).toNat)
      case atStart => exact ⟨0, w.heap.size, rfl, ⟨by omega⟩, ⟨blk_new w _⟩, ⟨fun j hj => by omega⟩, ⟨below_alloc (Below.refl _ _) _⟩⟩
      case round =>
        obtain ⟨q, B, rfl, HQ, HX, HN, HB⟩ := hrel
        have hcB : wr.cell? ⟨B, 0, none⟩ = some (.int .i64 (q : Int)) := (blk_cell HX.out 0).trans rfl
        by_cases g1 : (q : Int) < a1
        · by_cases g2 : a1 ≤ 100
          · have HKC := Aside0.mk (kept_calls (keeps62 B (q : Int) (by omega) (by have := HQ.out; omega)) w A0 c0 l0 HR.out HC.out HLEN.out wr HB.out HX.out)
            go_wp2_with fail
            refine HKC.out.mono ?_
            rintro e w2 ⟨A', c', rfl, hcap, hread, hb⟩
            have HX2 := Aside0.mk (blk_below HX.out hb)
            have HB2 := Aside0.mk (HB.out.trans (hb.mono HB.out.size))
            have hcB2 : w2.cell? ⟨B, 0, none⟩ = some (.int .i64 (q : Int)) := (blk_cell HX2.out 0).trans rfl
            clear hcap hread hb hcB
            by_cases hall : allS l0 q = true
            · have hfl : (l0.filter (fun x => atR x (q : Int) == 2)).length = l0.length := (filter_all l0 _).2 hall
              have HRES := Aside0.mk (show (((q : Int), true) : Int × Bool) = (r1, r2) by
                have := HF.out
                rw [if_pos g2, find_at (by omega) HN.out hall] at this
                exact this)
              go_wp2
              ((try simp only [Exit.inBlock, Exit.then]); refine bodyPost_ret (results_tmp2 (fn := Try.f20) (t := 4) (u := 5) rfl _ _ _) rfl ?_)
              obtain ⟨h1_, h2_⟩ := Prod.mk.inj HRES.out
              exact ⟨by rw [← h1_, ← h2_]; rfl, HB2.out⟩
            · have hne : ¬ (l0.filter (fun x => atR x (q : Int) == 2)).length = l0.length := fun h => hall ((filter_all l0 _).1 h)
              have hnei : ¬ ((l0.filter (fun x => atR x (q : Int) == 2)).length : Int) = (l0.length : Int) := by omega
              have HN2 := Aside0.mk (show ∀ j, j < q + 1 → allS l0 j = false from fun j hj => by
                by_cases e : j = q
                · subst e; exact Bool.eq_false_iff.2 hall
                · exact HN.out j (by omega))
              have hw : wrap64 ((q : Int) + 1) = (q : Int) + 1 := by have := HQ.out; exact M.wr _ (by omega) (by omega)
              have HW := Aside0.mk hw
              clear hw
              go_wp2
              go_roundw
              case rel => exact ⟨_, _, _, _, _, _, _, _, _, _, _, _, _, _, _, _, _, _, _, _, _, ⟨q + 1, w2.heap.size, rfl, ⟨by have := HQ.out; omega⟩, ⟨by push_cast; exact blk_new w2 _⟩, HN2, ⟨below_alloc HB2.out _⟩⟩, by rw [beq_eq_false_iff_ne.2 hzi]⟩
              case measure =>
                show (1000 - intOf (((w2.alloc (.cells #[.int .i64 ((q : Int) + 1)] 3)).cell? ⟨w2.heap.size, 0, none⟩).getD undef)).toNat < (1000 - intOf ((wr.cell? ⟨B, 0, none⟩).getD undef)).toNat
                rw [(blk_cell HX.out 0 : wr.cell? ⟨B, 0, none⟩ = _), (blk_cell (blk_new w2 _) 0 : (w2.alloc _).cell? ⟨w2.heap.size, 0, none⟩ = _)]
                show (1000 - ((q : Int) + 1)).toNat < (1000 - (q : Int)).toNat
                have := HQ.out
                omega
          · have HRES := Aside0.mk (show (((0 : Int), false) : Int × Bool) = (r1, r2) by
              have := HF.out
              rw [if_neg g2] at this
              exact this)
            go_wp2
            ((try simp only [Exit.inBlock, Exit.then]); refine bodyPost_ret (results_tmp2 (fn := Try.f20) (t := 4) (u := 5) rfl _ _ _) rfl ?_)
            obtain ⟨h1_, h2_⟩ := Prod.mk.inj HRES.out
            exact ⟨by rw [← h1_, ← h2_]; rfl, HB.out⟩
        · have HRES := Aside0.mk (show (((0 : Int), false) : Int × Bool) = (r1, r2) by
              have := HF.out
              split at this
              · rw [find_none (fun j hj => HN.out j (by omega))] at this
                exact this
              · exact this)
          go_wp2
          ((try simp only [Exit.inBlock, Exit.then]); refine bodyPost_ret (results_tmp2 (fn := Try.f20) (t := 4) (u := 5) rfl _ _ _) rfl ?_)
          obtain ⟨h1_, h2_⟩ := Prod.mk.inj HRES.out
          exact ⟨by rw [← h1_, ← h2_]; rfl, HB.out⟩
  · cases h

end Go.Proofs.Ytbopadglafbdjaa.PX
