/- The solver's loop of rounds, walked: marks among the deferred calls, a loop with a ghost, one round after the other. -/
import Derived.Test.YtbopadglafbdjaaSG
set_option linter.unusedVariables false
set_option linter.unusedSimpArgs false
namespace Go.Proofs.Ytbopadglafbdjaa.PX
open Go Go.RowKit Go.Proofs.YtbopadglafbdjaaW.PrintWords Go.Proofs.YtbopadglafbdjaaW.PrintLast Go.Proofs.YtbopadglafbdjaaW.PrintMore

/-! ### Marks -/
def mark (D : Nat) : Deferred := { target := .collected D, args := #[] }
structure Marks (L : Nat) (ds : List Nat) (W : World) : Prop where
  at_ : ∀ D ∈ ds, L ≤ D ∧ W.heap[D]? = some (.deferred (some []))
  nodup : ds.Nodup
/-- What taking the marks leaves: cells lie as they lay, and whatever lies below L. -/
structure Took (L : Nat) (W W' : World) : Prop where
  below : Below L W W'
  cells : ∀ (k : Nat) (cs : Array Value) (t : TypeId) (f : Nat × Nat), W.heap[k]? = some (.cells cs t f) → W'.heap[k]? = some (.cells cs t f)
theorem Marks.below {L : Nat} {ds : List Nat} {W W' : World} (h : Marks L ds W) (hb : Below W.heap.size W W') : Marks L ds W' :=
  ⟨fun D hD => ⟨(h.at_ D hD).1, (hb.block _ (blk_lt (h.at_ D hD).2)).trans (h.at_ D hD).2⟩, h.nodup⟩
theorem Marks.setCell {L : Nat} {ds : List Nat} {W : World} (h : Marks L ds W) {p : Addr} {cs : Array Value} {t : TypeId} {f : Nat × Nat} (hp : W.heap[p.block]? = some (.cells cs t f)) (u : Value) : Marks L ds (W.setCell p u) :=
  ⟨fun D hD => ⟨(h.at_ D hD).1, (Below.heap_setCell W p u D (fun e => by have := (h.at_ D hD).2; rw [e, hp] at this; cases this)).trans (h.at_ D hD).2⟩, h.nodup⟩
theorem Marks.nil (L : Nat) (W : World) : Marks L [] W := ⟨by simp, List.nodup_nil⟩
theorem marks_own {β : Type} {B L : Nat} {ds : List Nat} {W0 : World} (h : Marks L ds W0) (hB : W0.heap.size ≤ B) : OwnFrom B (fun (_ : β) W => Marks L ds W) :=
  fun _ X Y row hs hg hr => ⟨fun D hD => ⟨(hs.at_ D hD).1, (hg.block D (blk_lt (hs.at_ D hD).2) (fun e => by
    obtain ⟨h1, _⟩ := hr D e.symm
    have := blk_lt (h.at_ D hD).2
    omega)).trans (hs.at_ D hD).2⟩, hs.nodup⟩
theorem Marks.cons {L D : Nat} {ds : List Nat} {W : World} (h : Marks L ds W) (hL : L ≤ D) (hD : W.heap[D]? = some (.deferred (some []))) (hn : D ∉ ds) : Marks L (D :: ds) W :=
  ⟨fun E hE => by rcases List.mem_cons.1 hE with rfl | hE <;> first | exact ⟨hL, hD⟩ | exact h.at_ E hE, List.nodup_cons.2 ⟨hn, h.nodup⟩⟩
theorem leaves_marks {F : Fence} {n : Nat} {P : Program} {fn : Func} {tmps : Array Value} {R : Ending → World → Prop} {L : Nat} : ∀ (ds : List Nat) (W : World), Marks L ds W →
    (∀ W', Took L W W' → ∃ v, (results fn tmps).run P W' = .ok v W' ∧ R (.returned v) W') → LeavesInM F n P fn tmps R (ds.map mark) .returning W
  | [], W, _, h => h W ⟨Below.refl _ _, fun _ _ _ _ h => h⟩
  | D :: ds, W, hm, h => by
    obtain ⟨hL, hD⟩ := hm.at_ D (List.mem_cons_self ..)
    have hnd := List.nodup_cons.1 hm.nodup
    have hlt := blk_lt hD
    refine ⟨by simp, .inl ⟨D, _, rfl, run_takeDeferred hD, ?_⟩⟩
    refine leaves_marks ds _ ⟨fun E hE => ⟨(hm.at_ E (List.mem_cons_of_mem _ hE)).1, (World.putObj_heap_other (fun e => hnd.1 (by first | exact e ▸ hE | (rw [e]; exact hE) | (rw [← e]; exact hE)))).trans (hm.at_ E (List.mem_cons_of_mem _ hE)).2⟩, hnd.2⟩ ?_
    intro W' hT
    refine h W' ⟨Below.trans (Below.grown (Below.refl _ _) (grownBy_putObj' W D (.deferred none)) (by omega) (fun k e => by cases e; exact hL)) hT.below, fun k cs t f hk => hT.cells k cs t f ((World.putObj_heap_other (fun e => ?_)).trans hk)⟩
    rw [e, hD] at hk; cases hk
theorem marks_ret {F : Fence} {n : Nat} {P : Program} {fn : Func} {R : Ending → World → Prop} {L : Nat} {a : Act} {W : World} {ds : List Nat} (hd : a.defers = ds.map mark) (hm : Marks L ds W)
    (h : ∀ W', Took L W W' → ∃ v, (results fn a.tmps).run P W' = .ok v W' ∧ R (.returned v) W') : bodyPostM F n P fn R .ret a W := by
  show LeavesInM F n P fn a.tmps R a.defers .returning W
  rw [hd]; exact leaves_marks ds W hm h
theorem marks_ret0 {F : Fence} {n : Nat} {P : Program} {fn : Func} {R : Ending → World → Prop} {a : Act} {W : World} {v : Value} (hr : (results fn a.tmps).run P W = .ok v W) (hd : a.defers = []) (hR : R (.returned v) W) : bodyPostM F n P fn R .ret a W :=
  by show LeavesInM F n P fn a.tmps R a.defers .returning W; rw [hd]; exact ⟨v, hr, hR⟩

/-! ### Own -/
theorem own_blk {β : Type} (B : Nat) (cs : β → Array Value) (t : TypeId) : Own (fun (s : β) W => W.heap[B]? = some (.cells (cs s) t (0, 0))) := fun s X Y row hs hg hr => (grownBy_keeps_cells hg hr hs rfl).trans hs
theorem own_row {β α : Type} (d : Kd α) (e base : Nat) (ok : Nat → Prop) (v : Value) (xs : β → List α) : Own (fun (s : β) W => d.R e W base ok v (xs s)) := fun s X Y row hs hg hr =>
  Kd.R_mono (Kd.R_move (Kd.R_bound hs) (fun k hk => by obtain ⟨_, _, _, q, _, cells, hc⟩ := hk; exact grownBy_keeps_cells hg hr hc rfl)) (fun k hk => hk.1)

/-! ### A loop with a ghost -/
theorem loop_ghost {F : Fence} {n : Nat} {P : Program} {Q : Exit → Act → World → Prop} {c : Code} {β : Type} (inv : β → Act → World → Prop) (μ : β → Nat)
    (round : ∀ b a w, inv b a w → c.wpIn F n P (Exit.then (fun a' w' => ∃ b', inv b' a' w' ∧ μ b' < μ b) Q) a w) {b : β} {a : Act} {w : World} (h : inv b a w) : (Code.loop c).wpIn F n P Q a w := by
  have key : ∀ m b a w, inv b a w → μ b < m → Code.roundsIn F n P c Q m a w := by
    intro m
    induction m with
    | zero => intro b a w _ h; exact absurd h (by omega)
    | succ m ih =>
      intro b a w hi hm
      refine wpIn_mono (round b a w hi) ?_
      intro e a' w' he
      cases e with
      | normal => obtain ⟨b', hb, hl⟩ := he; exact ih b' a' w' hb (by omega)
      | _ => exact he
  exact wpIn_loop_rounds (μ b + 1) (key _ b a w h (by omega))
end Go.Proofs.Ytbopadglafbdjaa.PX
