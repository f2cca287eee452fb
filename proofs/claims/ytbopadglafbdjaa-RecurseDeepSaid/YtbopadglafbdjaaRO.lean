/- The other tests, and what the order's search is; the state behind its rounds; the search's own test, walked. -/
import Derived.Test.YtbopadglafbdjaaRT
import Derived.Test.YtbopadglafbdjaaRK2
import Derived.Maps.Own
import Derived.Maps.OwnOps
import Derived.Maps.Views
set_option linter.unusedVariables false
set_option linter.unusedSimpArgs false
namespace Go.Proofs.Ytbopadglafbdjaa.PX
open Go Go.RowKit Go.Maps Go.Proofs.YtbopadglafbdjaaW.PrintWords Go.Proofs.YtbopadglafbdjaaW.PrintLast Go.Proofs.YtbopadglafbdjaaW.PrintMore
set_option maxHeartbeats 4000000 in
set_option maxRecDepth 100000 in
theorem keeps67 (B : Nat) (k : Int) (h0 : 0 ≤ k) (h1 : k ≤ 1000) : Keeps 67 B k (fun x => atR x k == 2) := by
  refine ⟨enters_of Try.func67 (by kernel_rfl) (by kernel_rfl), ?_⟩
  intro x A0 c0 A1 c1 W hr0 hc0 hr1 hc1 hB
  obtain ⟨n, hn⟩ := (at_is x k h0 h1).ex
  have HN := Aside0.mk hn
  have HR0 := Aside0.mk (Kd.C_alloc hr0 (.cells #[.slice A0 x.f0.length c0, .slice A1 x.f1.length c1] 31))
  have HR1 := Aside0.mk (Kd.C_alloc hr1 (.cells #[.slice A0 x.f0.length c0, .slice A1 x.f1.length c1] 31))
  have HC0 := Aside0.mk hc0
  have HC1 := Aside0.mk hc1
  have hu31 := Try.underlying31
  have hcB : (W.alloc (.cells #[.slice A0 x.f0.length c0, .slice A1 x.f1.length c1] 31)).cell? ⟨B, 0, none⟩ = some (.int .i64 k) := (blk_cell (blk_alloc hB _) 0).trans rfl
  clear hn hr0 hr1 hc0 hc1 hB
  go_enter Try.func67, Try.ntmps67
  go_wp2_with fail
  refine (recurse_at.calls n A0 c0 x.f0 A1 c1 x.f1 k (atR x k) _ HR0.out HC0.out HR1.out HC1.out HN.out).mono ?_
  rintro e w2 ⟨rfl, hb⟩
  have HB := Aside0.mk (((Below.refl W.heap.size W).alloc (Nat.le_refl _) _).trans (hb.mono (by simp)))
  clear hb
  go_wp2
  go_ret
  exact ⟨rfl, HB.out⟩
set_option maxHeartbeats 4000000 in
set_option maxRecDepth 100000 in
theorem keeps68 (B : Nat) (k : Int) (h0 : 0 ≤ k) (h1 : k ≤ 1000) : Keeps 68 B k (fun x => atR x k == 0) := by
  refine ⟨enters_of Try.func68 (by kernel_rfl) (by kernel_rfl), ?_⟩
  intro x A0 c0 A1 c1 W hr0 hc0 hr1 hc1 hB
  obtain ⟨n, hn⟩ := (at_is x k h0 h1).ex
  have HN := Aside0.mk hn
  have HR0 := Aside0.mk (Kd.C_alloc hr0 (.cells #[.slice A0 x.f0.length c0, .slice A1 x.f1.length c1] 31))
  have HR1 := Aside0.mk (Kd.C_alloc hr1 (.cells #[.slice A0 x.f0.length c0, .slice A1 x.f1.length c1] 31))
  have HC0 := Aside0.mk hc0
  have HC1 := Aside0.mk hc1
  have hu31 := Try.underlying31
  have hcB : (W.alloc (.cells #[.slice A0 x.f0.length c0, .slice A1 x.f1.length c1] 31)).cell? ⟨B, 0, none⟩ = some (.int .i64 k) := (blk_cell (blk_alloc hB _) 0).trans rfl
  clear hn hr0 hr1 hc0 hc1 hB
  go_enter Try.func68, Try.ntmps68
  go_wp2_with fail
  refine (recurse_at.calls n A0 c0 x.f0 A1 c1 x.f1 k (atR x k) _ HR0.out HC0.out HR1.out HC1.out HN.out).mono ?_
  rintro e w2 ⟨rfl, hb⟩
  have HB := Aside0.mk (((Below.refl W.heap.size W).alloc (Nat.le_refl _) _).trans (hb.mono (by simp)))
  clear hb
  go_wp2
  go_ret
  exact ⟨rfl, HB.out⟩
set_option maxHeartbeats 4000000 in
set_option maxRecDepth 100000 in
theorem keeps69 (B : Nat) (k : Int) (h0 : 0 ≤ k) (h1 : k ≤ 1000) : Keeps 69 B k (fun x => atR x k != 2) := by
  refine ⟨enters_of Try.func69 (by kernel_rfl) (by kernel_rfl), ?_⟩
  intro x A0 c0 A1 c1 W hr0 hc0 hr1 hc1 hB
  obtain ⟨n, hn⟩ := (at_is x k h0 h1).ex
  have HN := Aside0.mk hn
  have HR0 := Aside0.mk (Kd.C_alloc hr0 (.cells #[.slice A0 x.f0.length c0, .slice A1 x.f1.length c1] 31))
  have HR1 := Aside0.mk (Kd.C_alloc hr1 (.cells #[.slice A0 x.f0.length c0, .slice A1 x.f1.length c1] 31))
  have HC0 := Aside0.mk hc0
  have HC1 := Aside0.mk hc1
  have hu31 := Try.underlying31
  have hcB : (W.alloc (.cells #[.slice A0 x.f0.length c0, .slice A1 x.f1.length c1] 31)).cell? ⟨B, 0, none⟩ = some (.int .i64 k) := (blk_cell (blk_alloc hB _) 0).trans rfl
  clear hn hr0 hr1 hc0 hc1 hB
  go_enter Try.func69, Try.ntmps69
  go_wp2_with fail
  refine (recurse_at.calls n A0 c0 x.f0 A1 c1 x.f1 k (atR x k) _ HR0.out HC0.out HR1.out HC1.out HN.out).mono ?_
  rintro e w2 ⟨rfl, hb⟩
  have HB := Aside0.mk (((Below.refl W.heap.size W).alloc (Nat.le_refl _) _).trans (hb.mono (by simp)))
  clear hb
  go_wp2
  go_ret
  exact ⟨rfl, HB.out⟩
/-- Is a place good: not taken, some call smaller there, none without a word there. -/
def goodR (o : List Int) (l : List S31) (k : Nat) : Bool :=
  decide ((if (k : Int) ∈ o then (1 : Int) else 0) = 0) && decide (0 < (l.filter fun x => atR x (k : Int) == 2).length) && decide ((l.filter fun x => atR x (k : Int) == 0).length = 0)
theorem law3 : Keyed Try.prog 3 := int_keyed Try.underlying3
theorem zero3 (w : World) : (zeroValue 3).run Try.prog w = .ok (.int .i64 0) w := by kernel_rfl
/-- The map of the places taken. -/
def tD : List Int → DataW Unit
  | [] => .map []
  | k :: o => (tD o).put (.int .i64 k) (.lit (.int .i64 1))
theorem tD_map : ∀ o, IsMap (tD o)
  | [] => ⟨[], rfl⟩
  | k :: o => by
    obtain ⟨es, he⟩ := tD_map o
    simp only [tD, he]
    exact ⟨_, rfl⟩
theorem tD_at (k : Int) : ∀ o : List Int, (tD o).atKey (.int .i64 k) (.lit (.int .i64 0)) = .lit (.int .i64 (if k ∈ o then 1 else 0))
  | [] => by simp [tD, DataW.atKey]
  | j :: o => by
    simp only [tD]
    by_cases e : k = j
    · subst e
      rw [atKey_put_same (tD_map o) (by simp [WideAt.IsKeyLit])]; simp
    · rw [atKey_put_other (by intro h; cases h; exact e rfl), tD_at k o]
      simp [e]
/-- The state behind the rounds: the calls left, the places taken, the places told. -/
structure OSt (w : World) (l : List S31) (wr : World) (A : Option Addr) (c : Nat) (rows : List (List Value)) (out : Value) (o t : List Int) (n : Nat) (okk : Nat → Prop) : Prop where
  cb : wr.heap[w.heap.size]? = some (.cells #[.slice A l.length c] 22 (0, 0))
  mx : wr.heap[w.heap.size + 2]? = some (.cells #[.map (some (w.heap.size + 1))] 89 (0, 0))
  mp : wr.ownsMap (H := Unit) Try.prog 3 (plainElem Try.prog 3) (w.heap.size + 1) n (tD t)
  row : RowOf w l rows
  cap : l.length ≤ c
  cs : (Kd.raw 2).C w A rows.length rows ∨ (Kd.raw 2).R 31 wr w.heap.size (fun _ => True) (.slice A l.length c) rows
  out : (Kd.int .i64).R 3 wr w.heap.size okk out o
  bel : Below w.heap.size w wr
theorem OSt.raw {w : World} {l : List S31} {wr : World} {A : Option Addr} {c : Nat} {rows : List (List Value)} {out : Value} {o t : List Int} {n : Nat} {okk : Nat → Prop} (S : OSt w l wr A c rows out o t n okk) : (Kd.raw 2).C wr A rows.length rows := by
  rcases S.cs with h | h
  · exact Kd.C_below h S.bel
  · exact (Kd.R_reads' h).2.2
theorem map_below {w w1 : World} {b n : Nat} {D : DataW Unit} (h : w.ownsMap (H := Unit) Try.prog 3 (plainElem Try.prog 3) b n D) (hb : w1.heap[b]? = w.heap[b]?) : w1.ownsMap (H := Unit) Try.prog 3 (plainElem Try.prog 3) b n D := by
  obtain ⟨es, clock, hm, F, hs, hD⟩ := h
  exact ⟨es, clock, hb.trans hm, F, hs, hD⟩
theorem OSt.below {w : World} {l : List S31} {wr w2 : World} {A : Option Addr} {c : Nat} {rows : List (List Value)} {out : Value} {o t : List Int} {n : Nat} {okk : Nat → Prop} (S : OSt w l wr A c rows out o t n okk) (hb : Below wr.heap.size wr w2) : OSt w l w2 A c rows out o t n okk :=
  ⟨blk_below S.cb hb, blk_below S.mx hb, map_below S.mp (hb.block _ S.mp.lt), S.row, S.cap, S.cs.imp id (fun h => Kd.R_below h hb), Kd.R_below S.out hb, S.bel.trans (hb.mono S.bel.size)⟩
theorem OSt.alloc {w : World} {l : List S31} {wr : World} {A : Option Addr} {c : Nat} {rows : List (List Value)} {out : Value} {o t : List Int} {n : Nat} {okk : Nat → Prop} (S : OSt w l wr A c rows out o t n okk) (x : Obj) : OSt w l (wr.alloc x) A c rows out o t n okk :=
  S.below (below_alloc (Below.refl _ _) x)
theorem blkNe {w : World} {g g' : Nat} {t t' : TypeId} {cs cs' : Array Value} (h : w.heap[g]? = some (.cells cs t (0, 0))) (h' : w.heap[g']? = some (.cells cs' t' (0, 0))) (hne : t ≠ t') : g ≠ g' := by
  intro e; subst e; rw [h] at h'; cases h'; exact hne rfl
theorem rSet {α : Type} {d : Kd α} {e base : Nat} {ok : Nat → Prop} {w : World} {v : Value} {xs : List α} (h : d.R e w base ok v xs) {g t : Nat} {cells : Array Value} (hb : w.heap[g]? = some (.cells cells t (0, 0))) (ht : ∀ q, q ∈ e :: d.E → q ≠ t) (j : Nat) (u : Value) : d.R e (w.setCell ⟨g, j, none⟩ u) base ok v xs :=
  Kd.R_mono (Kd.R_far (Kd.R_types h hb ht) (p := ⟨g, j, none⟩) (fun k hk => hk.2) u) (fun k hk => hk.1)
/-- A number's box is written. -/
theorem OSt.far {w : World} {l : List S31} {wr : World} {A : Option Addr} {c : Nat} {rows : List (List Value)} {out : Value} {o t : List Int} {n : Nat} {okk : Nat → Prop} (S : OSt w l wr A c rows out o t n okk) {g : Nat} {cs : Array Value} (hg : wr.heap[g]? = some (.cells cs 3 (0, 0))) (hge : w.heap.size ≤ g) (hok : ∀ k, okk k → k ≠ g) (i : Nat) (u : Value) :
    OSt w l (wr.setCell ⟨g, i, none⟩ u) A c rows out o t n okk := by
  have h1 : w.heap.size ≠ g := blkNe S.cb hg (by decide)
  have h2 : w.heap.size + 2 ≠ g := blkNe S.mx hg (by decide)
  have h3 : w.heap.size + 1 ≠ g := by
    obtain ⟨es, clock, hm, _⟩ := S.mp
    intro e; rw [e] at hm; rw [hm] at hg; cases hg
  refine ⟨blk_far S.cb h1 u, blk_far S.mx h2 u, map_below S.mp (Below.heap_setCell wr _ u _ h3), S.row, S.cap, S.cs.imp id (fun h => rSet h hg (by decide) i u), Kd.R_far S.out hok u, ?_⟩
  exact S.bel.setCell hge u
/-- The map is written. -/
theorem OSt.mapped {w : World} {l : List S31} {wr w3 : World} {A : Option Addr} {c : Nat} {rows : List (List Value)} {out : Value} {o t : List Int} {n : Nat} {okk : Nat → Prop} (S : OSt w l wr A c rows out o t n okk) {q : Int}
    (hown : w3.ownsMap (H := Unit) Try.prog 3 (plainElem Try.prog 3) (w.heap.size + 1) (n + 1) ((tD t).put (.int .i64 q) (.lit (.int .i64 1)))) (hg : wr.grownBy w3 (some (w.heap.size + 1))) : OSt w l w3 A c rows out o (q :: t) (n + 1) okk := by
  have hno : ∀ k cs ty, wr.heap[k]? = some (.cells cs ty (0, 0)) → some k ≠ some (w.heap.size + 1) := by
    obtain ⟨es, clock, hm, _⟩ := S.mp
    intro k cs ty h e
    injection e with e
    subst e
    rw [hm] at h; cases h
  refine ⟨blk_grown S.cb hg (hno _ _ _ S.cb), blk_grown S.mx hg (hno _ _ _ S.mx), hown, S.row, S.cap, S.cs.imp id (fun h => ?_), ?_, ?_⟩
  · exact Kd.R_mono (Kd.R_step (Kd.R_bound h) (fun k hk hlt => by
      obtain ⟨_, _, _, qq, _, cells, hc⟩ := hk
      exact hg.block k hlt (hno _ _ _ hc))) (fun k hk => hk.1)
  · exact Kd.R_mono (Kd.R_step (Kd.R_bound S.out) (fun k hk hlt => by
      obtain ⟨_, _, _, qq, _, cells, hc⟩ := hk
      exact hg.block k hlt (hno _ _ _ hc))) (fun k hk => hk.1)
  · exact S.bel.grown hg S.bel.size (fun j hj => by cases hj; omega)
/-- What is told grows. -/
theorem OSt.appended {w : World} {l : List S31} {wr w2 : World} {A : Option Addr} {c : Nat} {rows : List (List Value)} {out v1 : Value} {o o' t : List Int} {n : Nat} {okk okk' : Nat → Prop} (S : OSt w l wr A c rows out o t n okk)
    (hR : (Kd.int .i64).R 3 w2 w.heap.size okk' v1 o') (hb : Below w.heap.size w w2) (hg : wr.grownBy w2 out.ownBlock) : OSt w l w2 A c rows v1 o' t n okk' := by
  refine ⟨blk_grown S.cb hg (Kd.R_ne S.out S.cb (by decide)), blk_grown S.mx hg (Kd.R_ne S.out S.mx (by decide)), map_below S.mp (hg.block _ S.mp.lt ?_), S.row, S.cap, S.cs.imp id (fun h => Kd.R_over' h (Kd.R_typed S.out) (by decide) hg), hR, hb⟩
  obtain ⟨es, clock, hm, _⟩ := S.mp
  intro e
  obtain ⟨cells, hc⟩ := Kd.R_typed S.out _ e.symm
  rw [hm] at hc; cases hc
theorem OSt.mono {w : World} {l : List S31} {wr : World} {A : Option Addr} {c : Nat} {rows : List (List Value)} {out : Value} {o t : List Int} {n : Nat} {okk : Nat → Prop} (S : OSt w l wr A c rows out o t n okk) : OSt w l wr A c rows out o t n (fun _ => True) :=
  ⟨S.cb, S.mx, S.mp, S.row, S.cap, S.cs, Kd.R_mono S.out (fun _ _ => trivial), S.bel⟩
theorem filter_parts {α : Type} (p : α → Bool) : ∀ l : List α, (l.filter p).length + (l.filter fun x => !p x).length = l.length
  | [] => rfl
  | x :: l => by
    have := filter_parts p l
    cases h : p x <;> simp [List.filter_cons, h] <;> omega
theorem good_less {o : List Int} {l : List S31} {k : Nat} (h : goodR o l k = true) : (l.filter fun x => atR x (k : Int) != 2).length < l.length := by
  unfold goodR at h
  simp only [Bool.and_eq_true, decide_eq_true_eq] at h
  have h1 := h.1.2
  have h2 := filter_parts (fun x => atR x (k : Int) == 2) l
  have h3 : (l.filter fun x => !(atR x (k : Int) == 2)) = l.filter fun x => atR x (k : Int) != 2 := rfl
  rw [h3] at h2
  omega
/-- The calls left are laid anew. -/
theorem OSt.laid {w : World} {l : List S31} {wr w2 : World} {A : Option Addr} {c : Nat} {rows : List (List Value)} {out : Value} {o t : List Int} {n : Nat} {okk : Nat → Prop} (S : OSt w l wr A c rows out o t n okk) (hb : Below wr.heap.size wr w2)
    {l' : List S31} {A' : Option Addr} {c' : Nat} {rows' : List (List Value)} {okr : Nat → Prop} (hrow : RowOf w l' rows') (hR : (Kd.raw 2).R 31 w2 wr.heap.size okr (.slice A' l'.length c') rows') :
    OSt w l' (w2.setCell ⟨w.heap.size, 0, none⟩ (.slice A' l'.length c')) A' c' rows' out o t n okk := by
  have S2 := S.below hb
  have h2 : w.heap.size + 2 ≠ w.heap.size := by omega
  have h3 : w.heap.size + 1 ≠ w.heap.size := by omega
  refine ⟨blk_put S2.cb 0 _ rfl, blk_far S2.mx h2 _, map_below S2.mp (Below.heap_setCell w2 _ _ _ h3), hrow, (Kd.R_reads' hR).2.1, Or.inr ?_, rSet S2.out S2.cb (by decide) 0 _, S2.bel.setCell (Nat.le_refl _) _⟩
  exact rSet (Kd.R_mono (Kd.R_lower hR S.bel.size) (fun _ _ => trivial)) S2.cb (by decide) 0 _
set_option maxHeartbeats 8000000 in
set_option maxRecDepth 100000 in
theorem good_calls {w : World} {l : List S31} {wr : World} {A : Option Addr} {c : Nat} {rows : List (List Value)} {out : Value} {o : List Int} {n : Nat} {okk : Nat → Prop} (S : OSt w l wr A c rows out o o.reverse n okk) (k : Nat) (hk : k ≤ 1000) (hl : l.length ≤ 1000000) :
    Calls Try.prog 66 #[.int .i64 (k : Int), .pointer (some ⟨w.heap.size, 0, none⟩), .pointer (some ⟨w.heap.size + 2, 0, none⟩)] wr fun e w2 => e = .returned (.bool (goodR o l k)) ∧ Below wr.heap.size wr w2 := by
  have S1 := Aside0.mk (S.alloc (.cells #[.int .i64 (k : Int)] 3))
  have HL := Aside0.mk hl
  have HK := Aside0.mk hk
  have BK := Aside0.mk (blk_new wr (.cells #[.int .i64 (k : Int)] 3))
  have HB1 := Aside0.mk (below_alloc (Below.refl wr.heap.size wr) (.cells #[.int .i64 (k : Int)] 3))
  have K1 := Aside0.mk (kept_rows (keeps67 wr.heap.size (k : Int) (by omega) (by omega)) w A c l rows S.row S.cap hl (wr.alloc (.cells #[.int .i64 (k : Int)] 3)) S1.out.bel S1.out.raw BK.out)
  have hcb : (wr.alloc (.cells #[.int .i64 (k : Int)] 3)).cell? ⟨w.heap.size, 0, none⟩ = some (.slice A l.length c) := (blk_cell S1.out.cb 0).trans rfl
  clear hl hk S
  go_enter Try.func66, Try.ntmps66
  go_wp2_with fail
  refine K1.out.mono ?_
  rintro e w2 ⟨A1, c1, rows1, rfl, hrow1, hR1, hb1⟩
  have S2 := Aside0.mk (S1.out.below hb1)
  have BK2 := Aside0.mk (blk_below BK.out hb1)
  have HB2 := Aside0.mk (HB1.out.trans (hb1.mono HB1.out.size))
  have K2 := Aside0.mk (kept_rows (keeps68 wr.heap.size (k : Int) (by omega) (by have := HK.out; omega)) w A c l rows S2.out.row S2.out.cap HL.out w2 S2.out.bel S2.out.raw BK2.out)
  have hcb2 : w2.cell? ⟨w.heap.size, 0, none⟩ = some (.slice A l.length c) := (blk_cell S2.out.cb 0).trans rfl
  clear hrow1 hR1 hb1 hcb
  go_wp2_with fail
  refine K2.out.mono ?_
  rintro e w3 ⟨A2, c2, rows2, rfl, hrow2, hR2, hb2⟩
  have S3 := Aside0.mk (S2.out.below hb2)
  have BK3 := Aside0.mk (blk_below BK2.out hb2)
  have HB3 := Aside0.mk (HB2.out.trans (hb2.mono HB2.out.size))
  have hmx3 : w3.cell? ⟨w.heap.size + 2, 0, none⟩ = some (.map (some (w.heap.size + 1))) := (blk_cell S3.out.mx 0).trans rfl
  have hk3 : w3.cell? ⟨wr.heap.size, 0, none⟩ = some (.int .i64 (k : Int)) := (blk_cell BK3.out 0).trans rfl
  have hkey : keyOf Try.prog 3 (.int .i64 (k : Int)) = some (.int .i64 (k : Int)) := keyOf_int_mk Try.underlying3 (WalkArith.wf_i64 (by have := HK.out; omega))
  clear hrow2 hR2 hb2 hcb2
  generalize hn1 : (l.filter fun x => atR x (k : Int) == 2).length = n1 at *
  generalize hn2 : (l.filter fun x => atR x (k : Int) == 0).length = n2 at *
  have HG := Aside0.mk (show goodR o l k = (decide ((if (k : Int) ∈ o then (1 : Int) else 0) = 0) && decide (0 < n1) && decide (n2 = 0)) by unfold goodR; rw [hn1, hn2])
  go_wp2_with (first
    | (at_lookup; refine wpList_lookup_own_int _ rfl _ _ 89 rfl 3 3 .i64 law3 Try.underlying89 Try.underlying3 (zero3 _) (w.heap.size + 1) n _ rfl S3.out.mp _ _ rfl hkey ?_; intro cc hat hwc)
    | go_in)
  all_goals (
    have hcc : cc = if (k : Int) ∈ o then (1 : Int) else 0 := by
      rw [tD_at] at hat
      simp only [List.mem_reverse] at hat
      injection hat with h1; injection h1 with h2 h3; exact h3.symm)
  all_goals (have hg := HG.out; rw [← hcc] at hg; clear HG hat)
  · go_ret
    exact ⟨by rw [hg]; simp_all; exact Bool.eq_iff_iff.2 (by simp), HB3.out⟩
  · go_ret
    exact ⟨by rw [hg]; simp_all, HB3.out⟩
  · go_ret
    exact ⟨by rw [hg]; simp_all, HB3.out⟩
end Go.Proofs.Ytbopadglafbdjaa.PX
