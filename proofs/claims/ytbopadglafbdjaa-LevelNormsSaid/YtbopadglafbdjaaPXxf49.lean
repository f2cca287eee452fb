-- by wip/tools/gprint.py of this session over the kit's print; given functions are this session's own text
import Derived.Test.YtbopadglafbdjaaPXx0
import Derived.Test.YtbopadglafbdjaaPXxf40
import Derived.RangeFuncNested
import Derived.RangeFuncBound
import Derived.RangeFuncCalls
import Derived.RangeFuncLeaves
import Derived.OwnWalkIn
import Derived.TacticsInMore
import Derived.LoopNIn
import Derived.LoopIn
namespace Go.Proofs.Ytbopadglafbdjaa.PX
open Go.RowKit Go.Proofs.YtbopadglafbdjaaW.PrintWords Go.Proofs.YtbopadglafbdjaaW.PrintLast Go.Proofs.YtbopadglafbdjaaW.PrintMore
attribute [local go_sem] max2_int min2_int max_two min_two max_three min_three max_four min_four   -- for this text's walks alone
set_option linter.unusedVariables false
set_option linter.unusedSimpArgs false

/-! ### level_Leq: function 49 -/
-- GIVEN rounds
-- IMPORTS Derived.RangeFuncNested,Derived.RangeFuncBound,Derived.RangeFuncCalls,Derived.RangeFuncLeaves,Derived.OwnWalkIn,Derived.TacticsInMore,Derived.LoopNIn,Derived.LoopIn
attribute [local go_sem] Oper.semAt_some
set_option linter.unusedVariables false
set_option linter.unusedSimpArgs false

/-- What a level is at least, in line. -/
def leastL (N : Int) (l : List S62) : List S62 := ⟨-1, N⟩ :: l
def encL (x : S62) : Array Value := #[.agg #[.int .i64 x.f0, .int .i64 x.f1]]

set_option maxHeartbeats 1000000 in
theorem level_least.calls (F : Fence) (n : Nat) (h83 : F.fn 83) (hro : F.round = none) (a0 : Int) (A : Option Addr) (m c : Nat) (w : World) :
    CallsIn F n Try.prog 83 #[.agg #[.int .i64 a0, .slice A m c]] w fun e w' => e = .returned (.func (.func 87) #[] #[.pointer (some ⟨w.heap.size, 0, none⟩)]) ∧ w' = w.alloc (.cells #[.int .i64 a0, .slice A m c] 43) := by
  refine callsIn_of_wp Try.func83 rfl h83 ?_ hro
  simp only [Try.ntmps83, List.size_toArray, List.length_cons, List.length_nil, Nat.reduceAdd, Nat.reduceSub, Array.replicate_succ, Array.replicate_zero, List.push_toArray, List.append_toArray, List.nil_append, List.cons_append]
  gi_wp2
  go_ret
  exact ⟨rfl, rfl⟩

/-- What a round of a loop over 'least' keeps: what lay below n₀, and the level's own box. -/
def KpL (n₀ Bn : Nat) (A B : World) : Prop := Below n₀ A B ∧ (∀ o, A.heap[Bn]? = some o → B.heap[Bn]? = some o)


theorem KpL.cells {n₀ Bn : Nat} {A B : World} (h : KpL n₀ Bn A B) {c0 c1 : Value} (hb : A.heap[Bn]? = some (.cells #[c0, c1] 43 (0, 0))) : B.heap[Bn]? = some (.cells #[c0, c1] 43 (0, 0)) := h.2 _ hb

set_option maxHeartbeats 4000000 in
set_option maxRecDepth 100000 in
theorem level_least.yields (F : Fence) (n : Nat) (h87 : F.fn 87) (hro : F.round = none) (hn : 1 ≤ n) (l Bn n₀ : Nat) (a0 : Int) (A : Option Addr) (c : Nat) (xs : List S62) (B : Nat) (J Jx : List S62 → World → Prop)
    (hJ : AbidesFrom B J)
    (hY : ∀ pre x W, J pre W → pre.length < xs.length + 1 → YieldAt F (n - 1) Try.prog l (encL x) W fun e W' =>
      (e = .returned (.bool true) ∧ J (pre ++ [x]) W' ∧ KpL n₀ Bn W W') ∨ (e = .returned (.bool false) ∧ Jx (pre ++ [x]) W'))
    (w0 W : World) (hn0 : w0.heap.size = n₀) (hB : Below n₀ w0 W) (hBn : W.heap[Bn]? = some (.cells #[.int .i64 a0, .slice A xs.length c] 43 (0, 0))) (hr : Kd.C k62 w0 A xs.length xs) (h0 : J [] W) :
    CallsIn F n Try.prog 87 #[.func (.yield l) #[] #[], .pointer (some ⟨Bn, 0, none⟩)] W fun e W' => (∃ v, e = .returned v) ∧
      ((∃ ys, ys = leastL a0 xs ∧ J ys W') ∨ (∃ pre, pre <+: leastL a0 xs ∧ Jx pre W')) := by
  have HB := Aside0.mk hB
  have HR := Aside0.mk hr
  have HJ := Aside0.mk hJ
  have HY := Aside0.mk hY
  have BK := Aside0.mk hBn
  have hcl : xs.length ≤ 9223372036854775807 := Kd.C_max hr
  clear hB hr hJ hY hBn
  subst hn0
  refine callsIn_of_wp Try.func87 rfl h87 ?_ hro
  simp only [Try.ntmps87, List.size_toArray, List.length_cons, List.length_nil, Nat.reduceAdd, Nat.reduceSub, Array.replicate_succ, Array.replicate_zero, List.push_toArray, List.append_toArray, List.nil_append, List.cons_append]
  have hc0 : W.cell? ⟨Bn, 0, none⟩ = some (.int .i64 a0) := (blk_cell BK.out 0).trans rfl
  have hc1 : W.cell? ⟨Bn, 1, none⟩ = some (.slice A xs.length c) := (blk_cell BK.out 1).trans rfl
  obtain ⟨fn, tmps, assign, body, hy, hR⟩ := HY.out [] ⟨-1, a0⟩ W h0 (by simp)
  dsimp only [encL] at hy
  gi_wp2
  refine hR.mono ?_
  clear hy hR hc0 hc1
  rintro e W1 (⟨rfl, hJ1, hk1⟩ | ⟨rfl, hJx1⟩)
  · have BK1 := Aside0.mk (hk1.cells BK.out)
    have HB1 := Aside0.mk (HB.out.trans hk1.1)
    have hc1 : W1.cell? ⟨Bn, 1, none⟩ = some (.slice A xs.length c) := (blk_cell BK1.out 1).trans rfl
    clear hk1 HB BK
    gi_wp2
    gi_loopw [14] (fun i wr => ∃ k : Nat, k ≤ xs.length ∧ i = .int .i64 k ∧ Aside0 (J (leastL a0 (xs.take k)) wr) ∧ Aside0 (Below w0.heap.size w0 wr))
      (fun i _ => xs.length - (intOf i).toNat)
    case atStart => exact ⟨0, Nat.zero_le _, rfl, ⟨by simpa [leastL] using hJ1⟩, HB1⟩
    case round =>
      obtain ⟨k, hk, rfl, HJk, HBk⟩ := hrel
      by_cases hlt : k < xs.length
      · obtain ⟨ad, rfl, hx0, hx1⟩ := at_T62 HR.out (k : Int) (by omega) (by omega)
        simp only [Int.toNat_natCast] at hx0 hx1
        replace hx0 := (HBk.out.cell (World.block_lt_of_cell? w0 _ hx0)).trans hx0
        replace hx1 := (HBk.out.cell (World.block_lt_of_cell? w0 _ hx1)).trans hx1
        have HJn := Aside0.mk (HJ.out _ _ (wr.alloc (.cells #[.int .i64 (rd_T62 xs k).f0, .int .i64 (rd_T62 xs k).f1] 62)) none HJk.out (World.grownBy_alloc wr _ none) (fun _ h => by cases h))
        obtain ⟨fn, tmps, assign, body, hy, hR⟩ := HY.out _ (rd_T62 xs k) _ HJn.out (by simp [leastL]; omega)
        have HE := Aside0.mk (show leastL a0 (xs.take k) ++ [rd_T62 xs k] = leastL a0 (xs.take (k + 1)) by
          simp only [leastL, List.cons_append, List.cons.injEq, true_and]
          rw [List.take_succ_eq_append_getElem hlt]
          simp [rd_T62, List.getD_eq_getElem?_getD, List.getElem?_eq_getElem hlt])
        dsimp only [encL] at hy
        gi_wp2
        refine hR.mono ?_
        clear hy hR
        rintro e W2 (⟨rfl, hJ2, hk2⟩ | ⟨rfl, hJx2⟩)
        · have HB2 := Aside0.mk ((HBk.out.alloc HBk.out.size _).trans hk2.1)
          have HJ2 := Aside0.mk hJ2
          clear hk2 hJ2
          gi_wp2
          go_roundw
          case rel => exact ⟨k + 1, by omega, by go_num, ⟨by rw [← HE.out]; exact HJ2.out⟩, HB2⟩
          case measure => simp [intOf]; omega
        · have HJ2 := Aside0.mk hJx2
          clear hJx2
          gi_wp2
          refine bodyPost_ret (results_none rfl _ _ _) rfl ?_
          exact ⟨⟨_, rfl⟩, .inr ⟨_, ⟨xs.drop (k + 1), by rw [HE.out]; simp [leastL]⟩, HJ2.out⟩⟩
      · gi_wp2
        go_end0
        exact ⟨⟨_, rfl⟩, .inl ⟨_, rfl, by
          have := HJk.out
          rwa [List.take_of_length_le (by omega)] at this⟩⟩
  · gi_wp2
    refine bodyPost_ret (results_none rfl _ _ _) rfl ?_
    exact ⟨⟨_, rfl⟩, .inr ⟨_, ⟨xs, rfl⟩, hJx1⟩⟩

theorem level_least.stops (F : Fence) (n : Nat) (h87 : F.fn 87) (hro : F.round = none) (hn : 1 ≤ n) (Bn n₀ : Nat) (a0 : Int) (A : Option Addr) (c : Nat) (xs : List S62) (w0 w : World) (hn0 : w0.heap.size = n₀) (hB : Below n₀ w0 w)
    (hBn : w.heap[Bn]? = some (.cells #[.int .i64 a0, .slice A xs.length c] 43 (0, 0))) (hr : Kd.C k62 w0 A xs.length xs) :
    SeqStopsK F n Try.prog 87 #[.pointer (some ⟨Bn, 0, none⟩)] encL (KpL n₀ Bn) (fun ys => ys = leastL a0 xs) (fun pre => pre <+: leastL a0 xs) (xs.length + 1) w := fun l J Jx W hW hJ _ hY h0 =>
  level_least.yields F n h87 hro hn l Bn n₀ a0 A c xs W.heap.size J Jx hJ hY w0 W hn0 (hB.trans (hW.mono (by have := hB.size; omega))) ((hW.block Bn (Array.getElem?_eq_some_iff.1 hBn).1).trans hBn) hr h0

/-- Is there something of ys that holds x up? -/
def upB (x y : S62) : Bool := decide (x.f1 ≤ y.f1) && (decide (x.f0 < 0) || x.f0 == y.f0)
def leqB (xs ys : List S62) : Bool := xs.all fun x => ys.any (upB x)
def level_Leq.f (k : Nat) (a0_0 : Int) (l0_1 : List S62) (a1_0 : Int) (l1_1 : List S62) : Option Bool :=
  (level_Norm.f k a0_0 l0_1).bind fun x => if x.2.2 = 0 then ((level_Norm.f k a1_0 l1_1).bind fun y => if y.2.2 = 0 then some (leqB (leastL x.1 x.2.1) (leastL y.1 y.2.1)) else some false) else some false
theorem level_Leq.mono : ∀ a0 a1 a2 a3 k, LeO (level_Leq.f k a0 a1 a2 a3) (level_Leq.f (k + 1) a0 a1 a2 a3) := by
  intro a0 a1 a2 a3 k
  unfold level_Leq.f
  repeat' first
      | (with_reducible exact level_Norm.mono _ _ _)
      | (with_reducible exact LeO.refl _)
      | (with_reducible exact LeO.none _)
      | (with_reducible refine LeO.ite ?_ ?_)
      | (with_reducible refine LeO.bind ?_ (fun _ => ?_))
theorem blk_own {β : Type} (B : Nat) (cs : Array Value) (t : TypeId) : Own (fun (_ : β) W => W.heap[B]? = some (.cells cs t (0, 0))) := fun s X Y row hs hg hr => (grownBy_keeps_cells hg hr hs rfl).trans hs
theorem blk_ownf {β : Type} (B : Nat) (cs : β → Array Value) (t : TypeId) : Own (fun (s : β) W => W.heap[B]? = some (.cells (cs s) t (0, 0))) := fun s X Y row hs hg hr => (grownBy_keeps_cells hg hr hs rfl).trans hs
/-- The law of a range over a function, what a round leaves told out of the activation at hand. -/
theorem rangeFuncH {F : Fence} {n : Nat} {P : Program} {α : Type} {g : Operand} {ps : Array Tmp} {assign body : Code} {Q : Exit → Act → World → Prop} {a : Act} {w : World}
    (hro : F.round = none) (h1 : 1 ≤ n) {gf : Nat} {lb : Array Value} (hg : a.eval g = .func (.func gf) #[] lb) (hFg : F.fn gf) (eg : ∀ args w, (callFunc gf args).run P w = .ok (.enter gf args) w)
    {encs : α → Array Value} {Kp : World → World → Prop} {S Sp : List α → Prop} {N : Nat} {w0 : World} (hseq : SeqStopsK F (n - 1) P gf lb encs Kp S Sp N w0)
    (hKt : ∀ {A B C : World}, Kp A B → Kp B C → Kp A C) (hKb : ∀ (W : World) (l : Nat) (o o' : Obj), w.heap.size ≤ l → W.heap[l]? = some o → o.isCells = false → o.isWalk = false → Kp W (W.putObj l o')) (hb0 : Below w0.heap.size w0 w) (hps : ∀ x, (encs x).size = ps.size)
    (I : List α → World → Prop) (Ix : Code → List α → World → Prop) (hI : OwnFrom w.heap.size I) (hIx : ∀ c, OwnFrom w.heap.size (Ix c)) (h0 : I [] w) (Ax : Act → α → Act → World → Prop) (hAx : ∀ x a', OwnFrom w.heap.size (fun (_ : Unit) W => Ax a x a' W))
    (hassign : ∀ (l : Nat) (pre : List α) (x : α) (W : World) (K : Act → World → Prop), I pre W → (∀ a' W', KeepsFrom w.heap.size W W' → Kp W W' → I pre W' → Ax a x a' W' → K a' W') →
      assign.wpIn (F.inRound l) (n - 1 - 1) P (Exit.then K (fun _ _ _ => False)) { tmps := (ps.zip (encs x)).foldl (fun t (p, v) => t.setIfInBounds p v) a.tmps, defers := [] } W)
    (hbody : ∀ (l : Nat) (pre : List α) (x : α) (a' : Act) (W : World), w.heap.size ≤ l → (∃ r, W.heap[l]? = some (.loop r)) → I pre W → Ax a x a' W → pre.length < N → body.wpIn (F.inRound l) (n - 1 - 1) P (ownPostG w.heap.size Kp I Ix (pre ++ [x]) W) a' W)
    (hdone : ∀ (D : Nat) (xs : List α) (W : World), w.heap.size ≤ D → S xs → I xs W → W.heap[D]? = some (.deferred (some [])) → Q .normal { a with defers := { target := .collected D, args := #[] } :: a.defers } W)
    (hstop : ∀ (D : Nat) (c : Code) (pre : List α) (W : World), w.heap.size ≤ D → Sp pre → Ix c pre W → W.heap[D]? = some (.deferred (some [])) → c.wpIn F n P Q { a with defers := { target := .collected D, args := #[] } :: a.defers } W) :
    (Code.rangeFunc g ps assign body).wpIn F n P Q a w :=
  wpIn_rangeFunc_ownH hro h1 hg hFg eg hseq (fun h k => hKt h k) hKb hb0 hps I Ix hI hIx h0 (Ax a) hAx hassign hbody hdone hstop
theorem rangeFuncN {F : Fence} {n : Nat} {P : Program} {α : Type} {g : Operand} {ps : Array Tmp} {assign body : Code} {Q : Exit → Act → World → Prop} {a : Act} {w : World}
    {l₀ : Nat} {r₀ : Loop} (hro : F.round = some l₀) (hl₀ : w.heap[l₀]? = some (.loop r₀)) (h1 : 1 ≤ n) {gf : Nat} {lb : Array Value} (hg : a.eval g = .func (.func gf) #[] lb) (hFg : F.fn gf) (eg : ∀ args w, (callFunc gf args).run P w = .ok (.enter gf args) w)
    {encs : α → Array Value} {Kp : World → World → Prop} {S Sp : List α → Prop} {N : Nat} {w0 : World} (hseq : SeqStopsK F (n - 1) P gf lb encs Kp S Sp N w0)
    (hKt : ∀ {A B C : World}, Kp A B → Kp B C → Kp A C) (hKb : ∀ (W : World) (l : Nat) (o o' : Obj), w.heap.size ≤ l → W.heap[l]? = some o → o.isCells = false → o.isWalk = false → Kp W (W.putObj l o')) (hb0 : Below w0.heap.size w0 w) (hps : ∀ x, (encs x).size = ps.size)
    (I : List α → World → Prop) (Ix : Code → List α → World → Prop) (hI : OwnFrom w.heap.size I) (hIx : ∀ c, OwnFrom w.heap.size (Ix c)) (h0 : I [] w) (Ax : Act → α → Act → World → Prop) (hAx : ∀ x a', OwnFrom w.heap.size (fun (_ : Unit) W => Ax a x a' W))
    (hassign : ∀ (l : Nat) (pre : List α) (x : α) (W : World) (K : Act → World → Prop), I pre W → (∀ a' W', KeepsFrom w.heap.size W W' → Kp W W' → I pre W' → Ax a x a' W' → K a' W') →
      assign.wpIn (F.inRound l) (n - 1 - 1) P (Exit.then K (fun _ _ _ => False)) { tmps := (ps.zip (encs x)).foldl (fun t (p, v) => t.setIfInBounds p v) a.tmps, defers := [] } W)
    (hbody : ∀ (l : Nat) (pre : List α) (x : α) (a' : Act) (W : World), w.heap.size ≤ l → (∃ r, W.heap[l]? = some (.loop r)) → I pre W → Ax a x a' W → pre.length < N → body.wpIn (F.inRound l) (n - 1 - 1) P (ownPostG w.heap.size Kp I Ix (pre ++ [x]) W) a' W)
    (hdone : ∀ (xs : List α) (W : World), S xs → I xs W → Q .normal a W)
    (hstop : ∀ (c : Code) (pre : List α) (W : World), Sp pre → Ix c pre W → c.wpIn F n P Q a W) :
    (Code.rangeFunc g ps assign body).wpIn F n P Q a w :=
  wpIn_rangeFunc_ownN hro hl₀ h1 hg hFg eg hseq (fun h k => hKt h k) hKb hb0 hps I Ix hI hIx h0 (Ax a) hAx hassign hbody hdone hstop
theorem KpL.trans {n₀ Bn : Nat} {A B C : World} (h : KpL n₀ Bn A B) (k : KpL n₀ Bn B C) : KpL n₀ Bn A C := ⟨h.1.trans k.1, fun o ho => k.2 o (h.2 o ho)⟩
theorem KpL.put {n₀ Bn : Nat} {w : World} (hn : n₀ ≤ w.heap.size) (hB : Bn < w.heap.size) (W : World) (l : Nat) (o o' : Obj) (hl : w.heap.size ≤ l) (h : W.heap[l]? = some o) (ho : o.isCells = false) (hw : o.isWalk = false) : KpL n₀ Bn W (W.putObj l o') :=
  ⟨belowK_b hn W l o o' hl h ho hw, fun q hq => (World.putObj_heap_other (by omega)).trans hq⟩
theorem three_boxes (w : World) (o0 o1 o2 : Obj) : (((w.alloc o0).alloc o1).alloc o2).heap[w.heap.size]? = some o0 ∧ (((w.alloc o0).alloc o1).alloc o2).heap[w.heap.size + 1]? = some o1 ∧ (((w.alloc o0).alloc o1).alloc o2).heap[w.heap.size + 1 + 1]? = some o2 ∧ (((w.alloc o0).alloc o1).alloc o2).heap.size = w.heap.size + 1 + 1 + 1 := by
  refine ⟨?_, ?_, ?_, by simp⟩
  · rw [Below.heap_alloc _ _ _ (by simp; omega), Below.heap_alloc _ _ _ (by simp)]; exact World.alloc_heap_new w o0
  · rw [Below.heap_alloc _ _ _ (by simp)]; have := World.alloc_heap_new (w.alloc o0) o1; simpa using this
  · have := World.alloc_heap_new ((w.alloc o0).alloc o1) o2; simpa using this
set_option maxHeartbeats 8000000 in
set_option maxRecDepth 100000 in
theorem level_Leq.calls (k : Nat) (a0_0 : Int) (A0_1 : Option Addr) (c0_1 : Nat) (l0_1 : List S62) (a1_0 : Int) (A1_1 : Option Addr) (c1_1 : Nat) (l1_1 : List S62) (r : Bool) (w : World)
    (hr0_1 : Kd.C k62 w A0_1 l0_1.length l0_1) (hc0_1 : l0_1.length ≤ c0_1) (hr1_1 : Kd.C k62 w A1_1 l1_1.length l1_1) (hc1_1 : l1_1.length ≤ c1_1) (h : level_Leq.f k a0_0 l0_1 a1_0 l1_1 = some r) :
    Calls Try.prog 49 #[.agg #[.int .i64 a0_0, .slice A0_1 l0_1.length c0_1], .agg #[.int .i64 a1_0, .slice A1_1 l1_1.length c1_1]] w fun e w' => e = .returned (.bool r) ∧ Below w.heap.size w w' := by
  have HR0 := Aside0.mk hr0_1
  have HC0 := Aside0.mk hc0_1
  have HR1 := Aside0.mk hr1_1
  have HC1 := Aside0.mk hc1_1
  clear hr0_1 hc0_1 hr1_1 hc1_1
  unfold level_Leq.f at h
  obtain ⟨⟨xN, xs, xe⟩, hA, h⟩ := Option.bind_eq_some_iff.1 h
  have HA := Aside0.mk hA
  clear hA
  dsimp only at h
  by_cases he : xe = 0
  · subst he
    rw [if_pos rfl] at h
    obtain ⟨⟨yN, ys, ye⟩, hB, h⟩ := Option.bind_eq_some_iff.1 h
    have HBb := Aside0.mk hB
    clear hB
    dsimp only at h
    by_cases he2 : ye = 0
    · subst he2
      rw [if_pos rfl] at h
      obtain rfl := Option.some.inj h
      clear h
      refine (callsIn_wide (n := 6)).1 ?_
      refine callsIn_of_wp_marks Try.func49 rfl trivial ?_ rfl
      simp only [Try.ntmps49, List.size_toArray, List.length_cons, List.length_nil, Nat.reduceAdd, Nat.reduceSub, Array.replicate_succ, Array.replicate_zero, List.push_toArray, List.append_toArray, List.nil_append, List.cons_append]
      gi_wp2_with fail
      refine ⟨trivial, ?_⟩
      refine (callsIn_wide.2 (level_Norm.calls k a0_0 _ _ l0_1 xN xs 0 _ ?sA HC0.out HA.out)).mono ?_
      case sA => exact Kd.C_alloc (Kd.C_alloc (Kd.C_alloc HR0.out _) _) _
      rintro e w1 ⟨v1, rfl, hR, hb⟩
      obtain ⟨Ax, cx, rfl⟩ := Kd.R_slice hR
      obtain ⟨k0, k1, k2, ks⟩ := three_boxes w (.cells #[.int .i64 a0_0, .slice A0_1 l0_1.length c0_1] 43) (.cells #[.int .i64 a1_0, .slice A1_1 l1_1.length c1_1] 43) (.cells #[.bool false] 4)
      rw [ks] at hR hb
      have BK0 := Aside0.mk ((hb.block _ (by omega)).trans k0)
      have BK1 := Aside0.mk ((hb.block _ (by omega)).trans k1)
      have BK2 := Aside0.mk ((hb.block _ (by omega)).trans k2)
      have hs1 := hb.size
      rw [ks] at hs1
      have HB1 := Aside0.mk ((((Below.refl w.heap.size w).alloc (Nat.le_refl _) (.cells #[.int .i64 a0_0, .slice A0_1 l0_1.length c0_1] 43)).alloc (by simp) (.cells #[.int .i64 a1_0, .slice A1_1 l1_1.length c1_1] 43)).alloc (by simp; omega) (.cells #[.bool false] 4) |>.trans (hb.mono (by omega)))
      have HX := Aside0.mk (Kd.R_mono (ok' := fun k => w.heap.size + 1 + 1 + 1 ≤ k) (Kd.R_bound hR) (fun k hk => hk.2.1))
      clear hR hb k0 k1 k2 ks
      have c00 : w1.cell? ⟨w.heap.size, 0, none⟩ = some (.int .i64 a0_0) := (blk_cell BK0.out 0).trans rfl
      have c01 : w1.cell? ⟨w.heap.size, 1, none⟩ = some (.slice A0_1 l0_1.length c0_1) := (blk_cell BK0.out 1).trans rfl
      have c10 : w1.cell? ⟨w.heap.size + 1, 0, none⟩ = some (.int .i64 a1_0) := (blk_cell BK1.out 0).trans rfl
      have c11 : w1.cell? ⟨w.heap.size + 1, 1, none⟩ = some (.slice A1_1 l1_1.length c1_1) := (blk_cell BK1.out 1).trans rfl
      have f00 := blk_frozen BK0.out 0
      have f01 := blk_frozen BK0.out 1
      gi_wp2_with fail
      refine ⟨trivial, ?_⟩
      refine (callsIn_wide.2 (level_Norm.calls k a1_0 _ _ l1_1 yN ys 0 _ ?sB HC1.out HBb.out)).mono ?_
      case sB => exact Kd.C_below HR1.out ((HB1.out.setCell (p := ⟨w.heap.size, 0, none⟩) (Nat.le_refl _) _).setCell (p := ⟨w.heap.size, 1, none⟩) (Nat.le_refl _) _)
      rintro e w2 ⟨v2, rfl, hR, hb⟩
      obtain ⟨Ay, cy, rfl⟩ := Kd.R_slice hR
      have hsz : ((w1.setCell ⟨w.heap.size, 0, none⟩ (.int .i64 xN)).setCell ⟨w.heap.size, 1, none⟩ (.slice Ax xs.length cx)).heap.size = w1.heap.size := by simp [World.setCell]
      rw [hsz] at hR hb
      have hs2 := hb.size
      rw [hsz] at hs2
      have BK0' := Aside0.mk ((hb.block w.heap.size (by omega)).trans (blk_put (cs := #[.int .i64 xN, .slice A0_1 l0_1.length c0_1]) (blk_put (cs := #[.int .i64 a0_0, .slice A0_1 l0_1.length c0_1]) BK0.out 0 (.int .i64 xN) rfl) 1 (.slice Ax xs.length cx) rfl))
      have BK1' := Aside0.mk ((hb.block (w.heap.size + 1) (by omega)).trans (blk_far (p := ⟨w.heap.size, 1, none⟩) (blk_far (p := ⟨w.heap.size, 0, none⟩) BK1.out (by simp) (.int .i64 xN)) (by simp) (.slice Ax xs.length cx)))
      have BK2' := Aside0.mk ((hb.block (w.heap.size + 1 + 1) (by omega)).trans (blk_far (p := ⟨w.heap.size, 1, none⟩) (blk_far (p := ⟨w.heap.size, 0, none⟩) BK2.out (by simp; omega) (.int .i64 xN)) (by simp; omega) (.slice Ax xs.length cx)))
      have HB2 := Aside0.mk (((HB1.out.setCell (p := ⟨w.heap.size, 0, none⟩) (Nat.le_refl _) (.int .i64 xN)).setCell (p := ⟨w.heap.size, 1, none⟩) (Nat.le_refl _) (.slice Ax xs.length cx)).trans (hb.mono (by omega)))
      have HX' := Aside0.mk (Kd.R_below (Kd.R_far (p := ⟨w.heap.size, 1, none⟩) (Kd.R_far (p := ⟨w.heap.size, 0, none⟩) HX.out (fun k hk => by simp; omega) (.int .i64 xN)) (fun k hk => by simp; omega) (.slice Ax xs.length cx)) (by rw [hsz]; exact hb))
      have HY := Aside0.mk (Kd.R_mono (ok' := fun k => w.heap.size + 1 + 1 + 1 ≤ k) (Kd.R_bound hR) (fun k hk => by have := hk.2.1; omega))
      clear hR hb hsz BK0 BK1 BK2 HB1 HX c00 c01 c10 c11 f00 f01
      have c00 : w2.cell? ⟨w.heap.size, 0, none⟩ = some (.int .i64 xN) := (blk_cell BK0'.out 0).trans rfl
      have c01 : w2.cell? ⟨w.heap.size, 1, none⟩ = some (.slice Ax xs.length cx) := (blk_cell BK0'.out 1).trans rfl
      have c10 : w2.cell? ⟨w.heap.size + 1, 0, none⟩ = some (.int .i64 a1_0) := (blk_cell BK1'.out 0).trans rfl
      have c11 : w2.cell? ⟨w.heap.size + 1, 1, none⟩ = some (.slice A1_1 l1_1.length c1_1) := (blk_cell BK1'.out 1).trans rfl
      have f10 := blk_frozen BK1'.out 0
      have f11 := blk_frozen BK1'.out 1
      gi_wp2_with fail
      refine ⟨trivial, ?_⟩
      refine (level_least.calls Fence.wide 5 trivial rfl xN Ax xs.length cx _).mono ?_
      rintro e w3 ⟨rfl, hw3⟩
      have hsP : ((w2.setCell ⟨w.heap.size + 1, 0, none⟩ (.int .i64 yN)).setCell ⟨w.heap.size + 1, 1, none⟩ (.slice Ay ys.length cy)).heap.size = w2.heap.size := by simp [World.setCell]
      have BKb0 := Aside0.mk (blk_put (cs := #[.int .i64 yN, .slice A1_1 l1_1.length c1_1]) (blk_put (cs := #[.int .i64 a1_0, .slice A1_1 l1_1.length c1_1]) BK1'.out 0 (.int .i64 yN) rfl) 1 (.slice Ay ys.length cy) rfl)
      have BKr0 := Aside0.mk (blk_far (p := ⟨w.heap.size + 1, 1, none⟩) (blk_far (p := ⟨w.heap.size + 1, 0, none⟩) BK2'.out (by simp) (.int .i64 yN)) (by simp) (.slice Ay ys.length cy))
      have HBp := Aside0.mk ((HB2.out.setCell (p := ⟨w.heap.size + 1, 0, none⟩) (by simp) (.int .i64 yN)).setCell (p := ⟨w.heap.size + 1, 1, none⟩) (by simp) (.slice Ay ys.length cy))
      have HXp := Aside0.mk (Kd.R_far (p := ⟨w.heap.size + 1, 1, none⟩) (Kd.R_far (p := ⟨w.heap.size + 1, 0, none⟩) HX'.out (fun k hk => by simp; omega) (.int .i64 yN)) (fun k hk => by simp; omega) (.slice Ay ys.length cy))
      have HYp := Aside0.mk (Kd.R_far (p := ⟨w.heap.size + 1, 1, none⟩) (Kd.R_far (p := ⟨w.heap.size + 1, 0, none⟩) HY.out (fun k hk => by simp; omega) (.int .i64 yN)) (fun k hk => by simp; omega) (.slice Ay ys.length cy))
      generalize (w2.setCell ⟨w.heap.size + 1, 0, none⟩ (.int .i64 yN)).setCell ⟨w.heap.size + 1, 1, none⟩ (.slice Ay ys.length cy) = wp at hw3 hsP BKb0 BKr0 HBp HXp HYp ⊢
      clear HX' HY BK0' BK1' BK2' HB2 c00 c01 c10 c11 f10 f11
      have hs3 : w3.heap.size = wp.heap.size + 1 := by rw [hw3]; simp
      have BKa := Aside0.mk (show w3.heap[wp.heap.size]? = some (.cells #[.int .i64 xN, .slice Ax xs.length cx] 43) by rw [hw3]; exact World.alloc_heap_new wp _)
      have BKb := Aside0.mk (show w3.heap[w.heap.size + 1]? = some (.cells #[.int .i64 yN, .slice Ay ys.length cy] 43) by rw [hw3]; exact blk_alloc BKb0.out _)
      have BKr := Aside0.mk (show w3.heap[w.heap.size + 1 + 1]? = some (.cells #[.bool false] 4) by rw [hw3]; exact blk_alloc BKr0.out _)
      have HB3 := Aside0.mk (show Below w.heap.size w w3 by rw [hw3]; exact HBp.out.alloc HBp.out.size _)
      have HX3 := Aside0.mk (show Kd.C k62 w3 Ax xs.length xs by rw [hw3]; exact Kd.C_alloc (Kd.R_reads' HXp.out).2.2 _)
      have HY3 := Aside0.mk (show Kd.C k62 w3 Ay ys.length ys by rw [hw3]; exact Kd.C_alloc (Kd.R_reads' HYp.out).2.2 _)
      clear hw3 BKb0 BKr0 HBp HXp HYp
      gi_wp2_with fail
      have hs3' := hs3
      refine rangeFuncH rfl (by omega) (gf := 87) (lb := #[.pointer (some ⟨wp.heap.size, 0, none⟩)]) (by rw [hsP]; rfl) trivial (enters_ Try.func87 (by kernel_rfl) (by kernel_rfl))
        (level_least.stops Fence.wide (6 - 1) trivial rfl (by omega) wp.heap.size w3.heap.size xN Ax cx xs w3 w3 rfl (Below.refl _ _) BKa.out HX3.out) (fun h k => KpL.trans h k) (KpL.put (Nat.le_refl _) (by omega)) (Below.refl _ _) (fun _ => rfl)
        (fun pre W => (∀ x ∈ pre, (leastL yN ys).any (upB x) = true) ∧ Below w3.heap.size w3 W)
        (fun c pre W => (c = .ret ∧ ∃ x ∈ pre, (leastL yN ys).any (upB x) = false) ∧ (W.heap[w.heap.size + 1 + 1]? = some (.cells #[.bool false] 4) ∧ Below w.heap.size w W))
        (OwnFrom.and (ownFrom_pure _ _) (ownFrom_below (Nat.le_refl _) (Nat.le_refl _)))
        (fun c => OwnFrom.and (ownFrom_pure _ _) (OwnFrom.and (Own.from (blk_own _ _ _) _) (ownFrom_below (Nat.le_refl _) HB3.out.size)))
        ⟨by simp, Below.refl _ _⟩
        (fun a x a' W => ∃ Bx, w3.heap.size ≤ Bx ∧ W.heap[Bx]? = some (.cells #[.int .i64 x.f0, .int .i64 x.f1] 62) ∧ a' = { tmps := (a.tmps.setIfInBounds 25 (.agg #[.int .i64 x.f0, .int .i64 x.f1])).setIfInBounds 6 (.pointer (some ⟨Bx, 0, none⟩)), defers := [] })
        (fun x a' _ X Y row hs hg hr => by obtain ⟨Bx, h1, h2, h3⟩ := hs; exact ⟨Bx, h1, blk_own (β := Unit) Bx _ _ () X Y row h2 hg (fun r e => (hr r e).2), h3⟩)
        ?assign ?body ?done ?stop
      case assign =>
        rintro l pre x W K ⟨hp, hB⟩ hK
        have HK := Aside0.mk hK
        clear hK
        dsimp only [encL]
        gi_wp2
        exact HK.out _ _ ((KeepsOthers.alloc _ _).from _) ⟨(Below.refl _ W).alloc hB.size _, fun o ho => blk_alloc ho _⟩ ⟨hp, hB.alloc hB.size _⟩ ⟨W.heap.size, hB.size, World.alloc_heap_new W _, rfl⟩
      case body =>
        rintro l pre x a' W hl ⟨r, hr⟩ ⟨hp, hB⟩ ⟨Bx, hBx, bX, rfl⟩ hlt
        have HP := Aside0.mk hp
        have HB := Aside0.mk hB
        have hsW := hB.size
        have hltx := blk_lt bX
        have BX := Aside0.mk bX
        have HRl := Aside0.mk hr
        have bB : W.heap[w.heap.size + 1]? = some (.cells #[.int .i64 yN, .slice Ay ys.length cy] 43) := (hB.block _ (by omega)).trans BKb.out
        have bR : W.heap[w.heap.size + 1 + 1]? = some (.cells #[.bool false] 4) := (hB.block _ (by omega)).trans BKr.out
        have BR := Aside0.mk bR
        have c10 : (W.alloc (.cells #[.bool false] 4)).cell? ⟨w.heap.size + 1, 0, none⟩ = some (.int .i64 yN) := (blk_cell (blk_alloc bB _) 0).trans rfl
        have c11 : (W.alloc (.cells #[.bool false] 4)).cell? ⟨w.heap.size + 1, 1, none⟩ = some (.slice Ay ys.length cy) := (blk_cell (blk_alloc bB _) 1).trans rfl
        clear hp hB bX hr bB bR
        gi_wp2_with fail
        refine ⟨trivial, ?_⟩
        refine (CallsIn.inRound l (level_least.calls Fence.wide 3 trivial rfl yN Ay ys.length cy _)).mono ?_
        rintro e W2 ⟨rfl, hW2⟩
        have hs2 : W2.heap.size = W.heap.size + 2 := by rw [hW2]; simp
        have BO := Aside0.mk (show W2.heap[W.heap.size]? = some (.cells #[.bool false] 4) by rw [hW2]; exact blk_alloc (blk_new W _) _)
        have bN : W2.heap[W.heap.size + 1]? = some (.cells #[.int .i64 yN, .slice Ay ys.length cy] 43) := by
          rw [hW2]; have := blk_new (W.alloc (.cells #[.bool false] 4)) (.cells #[.int .i64 yN, .slice Ay ys.length cy] 43); simpa using this
        have BN := Aside0.mk bN
        have BX2 := Aside0.mk (show W2.heap[Bx]? = some (.cells #[.int .i64 x.f0, .int .i64 x.f1] 62) by rw [hW2]; exact blk_alloc (blk_alloc BX.out _) _)
        have hr2 : W2.heap[l]? = some (.loop r) := by rw [hW2]; exact blk_alloc (blk_alloc HRl.out _) _
        have HB2 := Aside0.mk (show Below W.heap.size W W2 by rw [hW2]; exact ((Below.refl _ W).alloc (Nat.le_refl _) _).alloc (by simp) _)
        have HK2 := Aside0.mk (show KeepsFrom w3.heap.size W W2 by rw [hW2]; exact ((KeepsOthers.alloc _ _).from _).trans ((KeepsOthers.alloc _ _).from _))
        have HYW := Aside0.mk (Kd.C_below HY3.out HB.out)
        clear hW2 bN c10 c11
        gi_wp2_with fail
        refine rangeFuncN (l₀ := l) (r₀ := r) rfl hr2 (by omega) (gf := 87) (lb := #[.pointer (some ⟨W.heap.size + 1, 0, none⟩)]) rfl trivial (enters_ Try.func87 (by kernel_rfl) (by kernel_rfl))
          ((level_least.stops Fence.wide 3 trivial rfl (by omega) (W.heap.size + 1) W.heap.size yN Ay cy ys W W2 rfl HB2.out BN.out HYW.out).inRound l) (fun h k => KpL.trans h k) (KpL.put (by omega) (by omega)) (Below.refl _ _) (fun _ => rfl)
          (fun pre' W' => (W'.heap[W.heap.size]? = some (.cells #[.bool (pre'.any (upB x))] 4) ∧ W'.heap[Bx]? = some (.cells #[.int .i64 x.f0, .int .i64 x.f1] 62)) ∧ (Below W.heap.size W W' ∧ KeepsFrom w3.heap.size W W'))
          (fun _ _ _ => False)
          (OwnFrom.and (OwnFrom.and (Own.from (blk_ownf _ _ _) _) (Own.from (blk_own _ _ _) _)) (OwnFrom.and (ownFrom_below (Nat.le_refl _) (by omega)) (ownFrom_keepsFrom (by omega))))
          (fun _ _ _ _ _ hs _ _ => hs)
          ⟨⟨BO.out, BX2.out⟩, HB2.out, HK2.out⟩
          (fun a y a'' W' => ∃ By, W.heap.size < By ∧ W'.heap[By]? = some (.cells #[.int .i64 y.f0, .int .i64 y.f1] 62) ∧ a'' = { tmps := (a.tmps.setIfInBounds 28 (.agg #[.int .i64 y.f0, .int .i64 y.f1])).setIfInBounds 8 (.pointer (some ⟨By, 0, none⟩)), defers := [] })
          (fun y a'' _ X Y row hs hg hr => by obtain ⟨By, h1, h2, h3⟩ := hs; exact ⟨By, h1, blk_own (β := Unit) By _ _ () X Y row h2 hg (fun r e => (hr r e).2), h3⟩)
          ?assign2 ?body2 ?done2 ?stop2
        case assign2 =>
          rintro l2 pre' y W' K ⟨⟨b1, b2⟩, h3, h4⟩ hK
          have HK := Aside0.mk hK
          clear hK
          dsimp only [encL]
          gi_wp2
          exact HK.out _ _ ((KeepsOthers.alloc _ _).from _) ⟨(Below.refl _ W').alloc h3.size _, fun o ho => blk_alloc ho _⟩ ⟨⟨blk_alloc b1 _, blk_alloc b2 _⟩, h3.alloc h3.size _, h4.trans ((KeepsOthers.alloc _ _).from _)⟩ ⟨W'.heap.size, blk_lt b1, blk_new W' _, rfl⟩
        case body2 =>
          rintro l2 pre' y a'' W' _ _ ⟨⟨b1, b2⟩, h3, h4⟩ ⟨By, hBy, bY, rfl⟩ _
          have cO : W'.cell? ⟨W.heap.size, 0, none⟩ = some (.bool (pre'.any (upB x))) := (blk_cell b1 0).trans rfl
          have fO := blk_frozen b1 0
          have cX0 : W'.cell? ⟨Bx, 0, none⟩ = some (.int .i64 x.f0) := (blk_cell b2 0).trans rfl
          have cX1 : W'.cell? ⟨Bx, 1, none⟩ = some (.int .i64 x.f1) := (blk_cell b2 1).trans rfl
          have cY0 : W'.cell? ⟨By, 0, none⟩ = some (.int .i64 y.f0) := (blk_cell bY 0).trans rfl
          have cY1 : W'.cell? ⟨By, 1, none⟩ = some (.int .i64 y.f1) := (blk_cell bY 1).trans rfl
          have FIN : ∀ b, b = (pre'.any (upB x) || upB x y) → (∀ X, KeepsFrom X W' (W'.setCell ⟨W.heap.size, 0, none⟩ (.bool b))) ∧ KpL W.heap.size (W.heap.size + 1) W' (W'.setCell ⟨W.heap.size, 0, none⟩ (.bool b)) ∧
              ((W'.setCell ⟨W.heap.size, 0, none⟩ (.bool b)).heap[W.heap.size]? = some (.cells #[.bool ((pre' ++ [y]).any (upB x))] 4) ∧ (W'.setCell ⟨W.heap.size, 0, none⟩ (.bool b)).heap[Bx]? = some (.cells #[.int .i64 x.f0, .int .i64 x.f1] 62)) ∧
              Below W.heap.size W (W'.setCell ⟨W.heap.size, 0, none⟩ (.bool b)) ∧ (∀ X, X = w3.heap.size → KeepsFrom X W (W'.setCell ⟨W.heap.size, 0, none⟩ (.bool b))) := by
            have hany : (pre' ++ [y]).any (upB x) = (pre'.any (upB x) || upB x y) := by simp
            rintro b hb
            rw [← hany] at hb
            subst hb
            exact ⟨fun X => (KeepsOthers.setCell _ _ _).from _, ⟨(Below.refl _ _).setCell (p := ⟨W.heap.size, 0, none⟩) (Nat.le_refl _) _, fun o ho => (Below.heap_setCell _ _ _ _ (by simp)).trans ho⟩,
              ⟨blk_put b1 0 _ rfl, blk_far b2 (by simp; omega) _⟩, h3.setCell (p := ⟨W.heap.size, 0, none⟩) (Nat.le_refl _) _, fun X hX => by subst hX; exact h4.trans ((KeepsOthers.setCell _ _ _).from _)⟩
          have FI := Aside0.mk FIN
          have hupd : upB x y = (decide (x.f1 ≤ y.f1) && (decide (x.f0 < 0) || x.f0 == y.f0)) := rfl
          have HU := Aside0.mk hupd
          clear hupd FIN b1 b2 h3 h4 bY
          cases hq : pre'.any (upB x)
          · rw [hq] at FI cO
            by_cases g1 : x.f1 ≤ y.f1
            · by_cases g2 : x.f0 < 0
              · have hu : upB x y = true := by rw [HU.out]; simp [g1, g2]
                rw [hu] at FI
                clear hu hq
                gi_wp2
                obtain ⟨f1, f2, f3, f4, f5⟩ := FI.out true rfl
                exact ⟨f1 _, f2, f3, f4, f5 _ (by omega)⟩
              · have hu : upB x y = (x.f0 == y.f0) := by rw [HU.out]; simp [g1, g2]
                rw [hu] at FI
                clear hu hq
                gi_wp2
                obtain ⟨f1, f2, f3, f4, f5⟩ := FI.out _ rfl
                exact ⟨f1 _, f2, f3, f4, f5 _ (by omega)⟩
            · have hu : upB x y = false := by rw [HU.out]; simp [g1]
              rw [hu] at FI
              clear hu hq
              gi_wp2
              obtain ⟨f1, f2, f3, f4, f5⟩ := FI.out false rfl
              exact ⟨f1 _, f2, f3, f4, f5 _ (by omega)⟩
          · rw [hq] at FI cO
            clear hq
            gi_wp2
            obtain ⟨f1, f2, f3, f4, f5⟩ := FI.out true rfl
            exact ⟨f1 _, f2, f3, f4, f5 _ (by omega)⟩
        case done2 =>
          rintro zs W' rfl ⟨⟨b1, b2⟩, h3, h4⟩
          have cO : W'.cell? ⟨W.heap.size, 0, none⟩ = some (.bool ((leastL yN ys).any (upB x))) := (blk_cell b1 0).trans rfl
          have bR' : W'.heap[w.heap.size + 1 + 1]? = some (.cells #[.bool false] 4) := (h3.block _ (by omega)).trans BR.out
          have cR : W'.cell? ⟨w.heap.size + 1 + 1, 0, none⟩ = some (.bool false) := (blk_cell bR' 0).trans rfl
          have fR := blk_frozen bR' 0
          have hKL : KpL w3.heap.size wp.heap.size W W' := ⟨h3.mono (by omega), fun o ho => (h3.block _ (by omega)).trans ho⟩
          have hBo : Below w3.heap.size w3 W' := HB.out.trans (h3.mono (by omega))
          have hBw : Below w.heap.size w W' := HB3.out.trans (hBo.mono (by omega))
          cases hany : (leastL yN ys).any (upB x)
          · rw [hany] at cO
            have FI := Aside0.mk (And.intro h4 (And.intro hany (And.intro bR' hBw)))
            clear b1 b2 h3 h4 hany hKL hBo hBw bR'
            gi_wp2
            refine ⟨FI.out.1.trans ((KeepsOthers.setCell _ _ _).from _), ⟨rfl, x, by simp, FI.out.2.1⟩, blk_put FI.out.2.2.1 0 _ rfl, FI.out.2.2.2.setCell (p := ⟨w.heap.size + 1 + 1, 0, none⟩) (by simp; omega) _⟩
          · rw [hany] at cO
            have FI := Aside0.mk (And.intro h4 (And.intro hKL (And.intro hany hBo)))
            clear b1 b2 h3 h4 hany hKL hBo hBw bR'
            gi_wp2
            refine ⟨FI.out.1, FI.out.2.1, ?_, FI.out.2.2.2⟩
            intro z hz
            rcases List.mem_append.1 hz with hz | hz
            · exact HP.out z hz
            · obtain rfl := List.mem_singleton.1 hz
              exact FI.out.2.2.1
        case stop2 =>
          rintro c pre' W' _ h
          exact h.elim
      case done =>
        rintro D zs W hD rfl ⟨hp, hB⟩ hK
        have bR : W.heap[w.heap.size + 1 + 1]? = some (.cells #[.bool false] 4) := (hB.block _ (by omega)).trans BKr.out
        have cR : W.cell? ⟨w.heap.size + 1 + 1, 0, none⟩ = some (.bool false) := (blk_cell bR 0).trans rfl
        have fR := blk_frozen bR 0
        have hK' : (W.setCell ⟨w.heap.size + 1 + 1, 0, none⟩ (.bool true)).heap[D]? = some (.deferred (some [])) := (Below.heap_setCell _ _ _ _ (by simp; omega)).trans hK
        have cR' : (W.setCell ⟨w.heap.size + 1 + 1, 0, none⟩ (.bool true)).cell? ⟨w.heap.size + 1 + 1, 0, none⟩ = some (.bool true) := (blk_cell (blk_put bR 0 _ rfl) 0).trans rfl
        have hBB := HB3.out.trans (hB.mono (by have := HB3.out.size; omega))
        have FI := Aside0.mk (And.intro (show leqB (leastL xN xs) (leastL yN ys) = true from List.all_eq_true.2 hp) hBB)
        clear hp hB hBB
        gi_wp2
        have hk5 := cell_kept cR' (grownBy_putObj' _ D (.deferred none)) (fun r e => by cases e; exact ⟨_, hK', rfl⟩)
        refine ⟨by simp, .inl ⟨_, _, rfl, run_takeDeferred hK', ?_⟩⟩
        refine ⟨.bool true, by simp [results, Try.f49, go_sem, hk5], by rw [FI.out.1], ?_⟩
        exact (FI.out.2.setCell (p := ⟨w.heap.size + 1 + 1, 0, none⟩) (by simp; omega) _).trans (belowK_b (w := w) (Nat.le_refl _) _ D _ _ (by omega) hK' rfl rfl)
      case stop =>
        rintro D c pre W hD hpre ⟨⟨rfl, hx⟩, bR, hB⟩ hK
        have cR : W.cell? ⟨w.heap.size + 1 + 1, 0, none⟩ = some (.bool false) := (blk_cell bR 0).trans rfl
        have fR := blk_frozen bR 0
        have hf : leqB (leastL xN xs) (leastL yN ys) = false := by
          obtain ⟨x, hx1, hx2⟩ := hx
          obtain ⟨t, ht⟩ := hpre
          refine List.all_eq_false.2 ⟨x, ?_, by simp [hx2]⟩
          rw [← ht]; exact List.mem_append_left _ hx1
        have FI := Aside0.mk (And.intro hf hB)
        clear hf hB hx hpre
        gi_wp2
        have hk5 := cell_kept cR (grownBy_putObj' _ D (.deferred none)) (fun r e => by cases e; exact ⟨_, hK, rfl⟩)
        refine ⟨by simp, .inl ⟨_, _, rfl, run_takeDeferred hK, ?_⟩⟩
        refine ⟨.bool false, by simp [results, Try.f49, go_sem, hk5], by rw [FI.out.1], ?_⟩
        exact FI.out.2.trans (belowK_b (w := w) (Nat.le_refl _) _ D _ _ (by omega) hK rfl rfl)
    · rw [if_neg he2] at h
      obtain rfl := Option.some.inj h
      clear h
      refine (callsIn_wide (n := 6)).1 ?_
      refine callsIn_of_wp_marks Try.func49 rfl trivial ?_ rfl
      simp only [Try.ntmps49, List.size_toArray, List.length_cons, List.length_nil, Nat.reduceAdd, Nat.reduceSub, Array.replicate_succ, Array.replicate_zero, List.push_toArray, List.append_toArray, List.nil_append, List.cons_append]
      gi_wp2_with fail
      refine ⟨trivial, ?_⟩
      refine (callsIn_wide.2 (level_Norm.calls k a0_0 _ _ l0_1 xN xs 0 _ ?sA HC0.out HA.out)).mono ?_
      case sA => exact Kd.C_alloc (Kd.C_alloc (Kd.C_alloc HR0.out _) _) _
      rintro e w1 ⟨v1, rfl, hR, hb⟩
      obtain ⟨Ax, cx, rfl⟩ := Kd.R_slice hR
      obtain ⟨k0, k1, k2, ks⟩ := three_boxes w (.cells #[.int .i64 a0_0, .slice A0_1 l0_1.length c0_1] 43) (.cells #[.int .i64 a1_0, .slice A1_1 l1_1.length c1_1] 43) (.cells #[.bool false] 4)
      rw [ks] at hR hb
      have BK0 := Aside0.mk ((hb.block _ (by omega)).trans k0)
      have BK1 := Aside0.mk ((hb.block _ (by omega)).trans k1)
      have BK2 := Aside0.mk ((hb.block _ (by omega)).trans k2)
      have hs1 := hb.size
      rw [ks] at hs1
      have HB1 := Aside0.mk ((((Below.refl w.heap.size w).alloc (Nat.le_refl _) (.cells #[.int .i64 a0_0, .slice A0_1 l0_1.length c0_1] 43)).alloc (by simp) (.cells #[.int .i64 a1_0, .slice A1_1 l1_1.length c1_1] 43)).alloc (by simp; omega) (.cells #[.bool false] 4) |>.trans (hb.mono (by omega)))
      have HX := Aside0.mk (Kd.R_mono (ok' := fun k => w.heap.size + 1 + 1 + 1 ≤ k) (Kd.R_bound hR) (fun k hk => hk.2.1))
      clear hR hb k0 k1 k2 ks
      have c00 : w1.cell? ⟨w.heap.size, 0, none⟩ = some (.int .i64 a0_0) := (blk_cell BK0.out 0).trans rfl
      have c01 : w1.cell? ⟨w.heap.size, 1, none⟩ = some (.slice A0_1 l0_1.length c0_1) := (blk_cell BK0.out 1).trans rfl
      have c10 : w1.cell? ⟨w.heap.size + 1, 0, none⟩ = some (.int .i64 a1_0) := (blk_cell BK1.out 0).trans rfl
      have c11 : w1.cell? ⟨w.heap.size + 1, 1, none⟩ = some (.slice A1_1 l1_1.length c1_1) := (blk_cell BK1.out 1).trans rfl
      have f00 := blk_frozen BK0.out 0
      have f01 := blk_frozen BK0.out 1
      gi_wp2_with fail
      refine ⟨trivial, ?_⟩
      refine (callsIn_wide.2 (level_Norm.calls k a1_0 _ _ l1_1 yN ys ye _ ?sB HC1.out HBb.out)).mono ?_
      case sB => exact Kd.C_below HR1.out ((HB1.out.setCell (p := ⟨w.heap.size, 0, none⟩) (Nat.le_refl _) _).setCell (p := ⟨w.heap.size, 1, none⟩) (Nat.le_refl _) _)
      rintro e w2 ⟨v2, rfl, hR, hb⟩
      obtain ⟨Ay, cy, rfl⟩ := Kd.R_slice hR
      have hsz : ((w1.setCell ⟨w.heap.size, 0, none⟩ (.int .i64 xN)).setCell ⟨w.heap.size, 1, none⟩ (.slice Ax xs.length cx)).heap.size = w1.heap.size := by simp [World.setCell]
      rw [hsz] at hR hb
      have hs2 := hb.size
      rw [hsz] at hs2
      have BK0' := Aside0.mk ((hb.block w.heap.size (by omega)).trans (blk_put (cs := #[.int .i64 xN, .slice A0_1 l0_1.length c0_1]) (blk_put (cs := #[.int .i64 a0_0, .slice A0_1 l0_1.length c0_1]) BK0.out 0 (.int .i64 xN) rfl) 1 (.slice Ax xs.length cx) rfl))
      have BK1' := Aside0.mk ((hb.block (w.heap.size + 1) (by omega)).trans (blk_far (p := ⟨w.heap.size, 1, none⟩) (blk_far (p := ⟨w.heap.size, 0, none⟩) BK1.out (by simp) (.int .i64 xN)) (by simp) (.slice Ax xs.length cx)))
      have BK2' := Aside0.mk ((hb.block (w.heap.size + 1 + 1) (by omega)).trans (blk_far (p := ⟨w.heap.size, 1, none⟩) (blk_far (p := ⟨w.heap.size, 0, none⟩) BK2.out (by simp; omega) (.int .i64 xN)) (by simp; omega) (.slice Ax xs.length cx)))
      have HB2 := Aside0.mk (((HB1.out.setCell (p := ⟨w.heap.size, 0, none⟩) (Nat.le_refl _) (.int .i64 xN)).setCell (p := ⟨w.heap.size, 1, none⟩) (Nat.le_refl _) (.slice Ax xs.length cx)).trans (hb.mono (by omega)))
      have HX' := Aside0.mk (Kd.R_below (Kd.R_far (p := ⟨w.heap.size, 1, none⟩) (Kd.R_far (p := ⟨w.heap.size, 0, none⟩) HX.out (fun k hk => by simp; omega) (.int .i64 xN)) (fun k hk => by simp; omega) (.slice Ax xs.length cx)) (by rw [hsz]; exact hb))
      have HY := Aside0.mk (Kd.R_mono (ok' := fun k => w.heap.size + 1 + 1 + 1 ≤ k) (Kd.R_bound hR) (fun k hk => by have := hk.2.1; omega))
      clear hR hb hsz BK0 BK1 BK2 HB1 HX c00 c01 c10 c11 f00 f01
      have c00 : w2.cell? ⟨w.heap.size, 0, none⟩ = some (.int .i64 xN) := (blk_cell BK0'.out 0).trans rfl
      have c01 : w2.cell? ⟨w.heap.size, 1, none⟩ = some (.slice Ax xs.length cx) := (blk_cell BK0'.out 1).trans rfl
      have c10 : w2.cell? ⟨w.heap.size + 1, 0, none⟩ = some (.int .i64 a1_0) := (blk_cell BK1'.out 0).trans rfl
      have c11 : w2.cell? ⟨w.heap.size + 1, 1, none⟩ = some (.slice A1_1 l1_1.length c1_1) := (blk_cell BK1'.out 1).trans rfl
      have f10 := blk_frozen BK1'.out 0
      have f11 := blk_frozen BK1'.out 1
      have b2 := BK2'.out
      have bA := HB2.out
      clear HX' HY BK0' BK1' BK2' HB2
      have P : ∀ v0 v1, Below w.heap.size w ((w2.setCell ⟨w.heap.size + 1, 0, none⟩ v0).setCell ⟨w.heap.size + 1, 1, none⟩ v1) ∧ ((w2.setCell ⟨w.heap.size + 1, 0, none⟩ v0).setCell ⟨w.heap.size + 1, 1, none⟩ v1).heap[w.heap.size + 1 + 1]? = some (.cells #[.bool false] 4) := fun v0 v1 =>
        ⟨(bA.setCell (p := ⟨w.heap.size + 1, 0, none⟩) (by simp) _).setCell (p := ⟨w.heap.size + 1, 1, none⟩) (by simp) _, blk_far (p := ⟨w.heap.size + 1, 1, none⟩) (blk_far (p := ⟨w.heap.size + 1, 0, none⟩) b2 (by simp) _) (by simp) _⟩
      have cR : ((w2.setCell ⟨w.heap.size + 1, 0, none⟩ (.int .i64 yN)).setCell ⟨w.heap.size + 1, 1, none⟩ (.slice Ay ys.length cy)).cell? ⟨w.heap.size + 1 + 1, 0, none⟩ = some (.bool false) := (blk_cell (P _ _).2 0).trans rfl
      have fR := blk_frozen (P (.int .i64 yN) (.slice Ay ys.length cy)).2 0
      gi_wp2_with fail
      have cR' := (blk_cell (blk_put (P (.int .i64 yN) (.slice Ay ys.length cy)).2 0 (.bool false) rfl) 0)
      refine ⟨.bool false, by simp [results, Try.f49, go_sem, cR'], rfl, ?_⟩
      exact (P _ _).1.setCell (p := ⟨w.heap.size + 1 + 1, 0, none⟩) (by simp; omega) _
  · rw [if_neg he] at h
    obtain rfl := Option.some.inj h
    clear h
    refine (callsIn_wide (n := 6)).1 ?_
    refine callsIn_of_wp_marks Try.func49 rfl trivial ?_ rfl
    simp only [Try.ntmps49, List.size_toArray, List.length_cons, List.length_nil, Nat.reduceAdd, Nat.reduceSub, Array.replicate_succ, Array.replicate_zero, List.push_toArray, List.append_toArray, List.nil_append, List.cons_append]
    gi_wp2_with fail
    refine ⟨trivial, ?_⟩
    refine (callsIn_wide.2 (level_Norm.calls k a0_0 _ _ l0_1 xN xs xe _ ?sA HC0.out HA.out)).mono ?_
    case sA => exact Kd.C_alloc (Kd.C_alloc (Kd.C_alloc HR0.out _) _) _
    rintro e w1 ⟨v1, rfl, hR, hb⟩
    obtain ⟨Ax, cx, rfl⟩ := Kd.R_slice hR
    obtain ⟨k0, k1, k2, ks⟩ := three_boxes w (.cells #[.int .i64 a0_0, .slice A0_1 l0_1.length c0_1] 43) (.cells #[.int .i64 a1_0, .slice A1_1 l1_1.length c1_1] 43) (.cells #[.bool false] 4)
    rw [ks] at hR hb
    have BK0 := Aside0.mk ((hb.block _ (by omega)).trans k0)
    have BK1 := Aside0.mk ((hb.block _ (by omega)).trans k1)
    have BK2 := Aside0.mk ((hb.block _ (by omega)).trans k2)
    have hs1 := hb.size
    rw [ks] at hs1
    have HB1 := Aside0.mk ((((Below.refl w.heap.size w).alloc (Nat.le_refl _) (.cells #[.int .i64 a0_0, .slice A0_1 l0_1.length c0_1] 43)).alloc (by simp) (.cells #[.int .i64 a1_0, .slice A1_1 l1_1.length c1_1] 43)).alloc (by simp; omega) (.cells #[.bool false] 4) |>.trans (hb.mono (by omega)))
    have HX := Aside0.mk (Kd.R_mono (ok' := fun k => w.heap.size + 1 + 1 + 1 ≤ k) (Kd.R_bound hR) (fun k hk => hk.2.1))
    have b2 := BK2.out
    have bA := HB1.out
    have c00 : w1.cell? ⟨w.heap.size, 0, none⟩ = some (.int .i64 a0_0) := (blk_cell BK0.out 0).trans rfl
    have c01 : w1.cell? ⟨w.heap.size, 1, none⟩ = some (.slice A0_1 l0_1.length c0_1) := (blk_cell BK0.out 1).trans rfl
    have f00 := blk_frozen BK0.out 0
    have f01 := blk_frozen BK0.out 1
    clear HX BK0 BK1 BK2 HB1 hR hb k0 k1 k2 ks
    have P : ∀ v0 v1, Below w.heap.size w ((w1.setCell ⟨w.heap.size, 0, none⟩ v0).setCell ⟨w.heap.size, 1, none⟩ v1) ∧ ((w1.setCell ⟨w.heap.size, 0, none⟩ v0).setCell ⟨w.heap.size, 1, none⟩ v1).heap[w.heap.size + 1 + 1]? = some (.cells #[.bool false] 4) := fun v0 v1 =>
      ⟨(bA.setCell (p := ⟨w.heap.size, 0, none⟩) (by simp) _).setCell (p := ⟨w.heap.size, 1, none⟩) (by simp) _, blk_far (p := ⟨w.heap.size, 1, none⟩) (blk_far (p := ⟨w.heap.size, 0, none⟩) b2 (by simp; omega) _) (by simp; omega) _⟩
    have cR : ((w1.setCell ⟨w.heap.size, 0, none⟩ (.int .i64 xN)).setCell ⟨w.heap.size, 1, none⟩ (.slice Ax xs.length cx)).cell? ⟨w.heap.size + 1 + 1, 0, none⟩ = some (.bool false) := (blk_cell (P _ _).2 0).trans rfl
    have fR := blk_frozen (P (.int .i64 xN) (.slice Ax xs.length cx)).2 0
    gi_wp2_with fail
    have cR' := (blk_cell (blk_put (P (.int .i64 xN) (.slice Ax xs.length cx)).2 0 (.bool false) rfl) 0)
    refine ⟨.bool false, by simp [results, Try.f49, go_sem, cR'], rfl, ?_⟩
    exact (P _ _).1.setCell (p := ⟨w.heap.size + 1 + 1, 0, none⟩) (by simp; omega) _

end Go.Proofs.Ytbopadglafbdjaa.PX
