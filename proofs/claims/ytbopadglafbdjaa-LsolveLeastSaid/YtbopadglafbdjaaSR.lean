/- The solver's loop of rounds, walked: one round, and all of them. -/
import Derived.Test.YtbopadglafbdjaaSL
import Derived.RangeFuncNested
import Derived.RangeFuncBound
import Derived.RangeFuncCalls
import Derived.RangeFuncLeaves
import Derived.OwnWalkIn
import Derived.TacticsInMore
import Derived.LoopNIn
import Derived.LoopIn
set_option linter.unusedVariables false
set_option linter.unusedSimpArgs false
namespace Go.Proofs.Ytbopadglafbdjaa.PX
open Go Go.RowKit Go.Proofs.YtbopadglafbdjaaW.PrintWords Go.Proofs.YtbopadglafbdjaaW.PrintLast Go.Proofs.YtbopadglafbdjaaW.PrintMore
attribute [local go_sem] max2_int min2_int max_two min_two max_three min_three max_four min_four
attribute [local go_sem] Oper.semAt_some

/-- A code's first loop. -/
def loopIn : Code → Option Code
  | .seq a b => (loopIn a).or (loopIn b)
  | .block _ c => loopIn c
  | .cond _ a b => (loopIn a).or (loopIn b)
  | .loop c => some c
  | .scope c => loopIn c
  | _ => none

/-- One round more for the values that grow, or not: what the loop of rounds comes to. -/
def badR (n r : Int) (ys : List (Int × Int)) : Bool := ys.any fun p => decide (p.2 > 1000) || decide (r > n)
def roundsR (n : Int) (lims : List S101) : Nat → Int → List Int → Option (List Int)
  | 0, _, _ => none
  | f + 1, r, c => if badR n r (M.ysR c lims) then none else if M.ysR c lims = [] then some c else roundsR n lims f (r + 1) (M.stV c (M.ysR c lims))

/-- What stands through all rounds. -/
structure Fix (a0 : Int) (L b2 b4 b5 b6 b8 : Nat) (W6 : World) (A : Option Addr) (cl : Nat) (lims : List S101) (vv : Value) : Prop where
  k2 : W6.heap[b2]? = some (.cells #[.int .i64 a0] 3 (0, 0))
  k4 : W6.heap[b4]? = some (.cells #[.slice none 0 0] 29 (0, 0))
  k5 : W6.heap[b5]? = some (.cells #[.int .i64 0] 46 (0, 0))
  k6 : W6.heap[b6]? = some (.cells #[.slice A lims.length cl] 94 (0, 0))
  row : Kd.C k101 W6 A lims.length lims
  len : lims.length ≤ cl
  n45 : b4 ≠ b5
  hL : W6.heap.size ≤ L
  l8 : L ≤ b8
  on : ∀ x ∈ lims, x.f1 < a0
/-- What stands ahead of a round. -/
structure Rnd (a0 : Int) (L b8 : Nat) (W6 : World) (vv : Value) (r : Int) (c : List Int) (ds : List Nat) (b9 : Nat) (W : World) : Prop where
  bl : Below W6.heap.size W6 W
  sz : L ≤ W.heap.size
  row : Kd.R (Kd.int .i64) 3 W W6.heap.size (fun k => W6.heap.size ≤ k ∧ k < L) vv c
  k8 : W.heap[b8]? = some (.cells #[vv] 29 (0, 0))
  k9 : W.heap[b9]? = some (.cells #[.int .i64 r] 3 (0, 0))
  l9 : L ≤ b9
  n89 : b8 ≠ b9
  mks : Marks L ds W
  len : (c.length : Int) = a0
abbrev actS (v0 v1 v3 v7 : Value) (b2 b4 b5 b6 b8 b9 : Nat) (ds : List Nat) (u10 u11 u12 u13 u14 u15 u16 u17 u18 u19 u20 u21 u22 u23 u24 u25 u26 u27 u28 u29 u30 u31 u32 u33 u34 u35 u36 u37 u38 u39 u40 u41 u42 u43 u44 u45 u46 u47 u48 u49 u50 u51 u52 u53 u54 u55 u56 u57 u58 u59 u60 u61 u62 u63 u64 u65 u66 u67 u68 u69 u70 u71 u72 u73 u74 u75 u76 u77 u78 : Value) : Act :=
  { tmps := (v0 :: v1 :: .pointer (some ⟨b2, 0, none⟩) :: v3 :: .pointer (some ⟨b4, 0, none⟩) :: .pointer (some ⟨b5, 0, none⟩) :: .pointer (some ⟨b6, 0, none⟩) :: v7 :: .pointer (some ⟨b8, 0, none⟩) :: .pointer (some ⟨b9, 0, none⟩) :: u10 :: u11 :: u12 :: u13 :: u14 :: u15 :: u16 :: u17 :: u18 :: u19 :: u20 :: u21 :: u22 :: u23 :: u24 :: u25 :: u26 :: u27 :: u28 :: u29 :: u30 :: u31 :: u32 :: u33 :: u34 :: u35 :: u36 :: u37 :: u38 :: u39 :: u40 :: u41 :: u42 :: u43 :: u44 :: u45 :: u46 :: u47 :: u48 :: u49 :: u50 :: u51 :: u52 :: u53 :: u54 :: u55 :: u56 :: u57 :: u58 :: u59 :: u60 :: u61 :: u62 :: u63 :: u64 :: u65 :: u66 :: u67 :: u68 :: u69 :: u70 :: u71 :: u72 :: u73 :: u74 :: u75 :: u76 :: u77 :: u78 :: []).toArray, defers := ds.map mark }
/-- Where a round has ended the whole: the two results are written; whatever lay ahead of the loop is as it was. -/
structure Stop (b4 b5 : Nat) (W6 W : World) : Prop where
  k4 : W.heap[b4]? = some (.cells #[.slice none 0 0] 29 (0, 0))
  k5 : W.heap[b5]? = some (.cells #[.int .i64 52] 46 (0, 0))
  bl : ∀ B : Nat, B ≤ b4 → B ≤ b5 → B ≤ W6.heap.size → Below B W6 W
set_option maxHeartbeats 8000000 in
set_option maxRecDepth 100000 in
theorem solve_round (body : Code) (hB : Try.f29.body.bind loopIn = some body) (a0 : Int) (ha0 : 0 ≤ a0) (ha1 : a0 ≤ 500) (L b2 b4 b5 b6 b8 : Nat) (W6 : World) (A : Option Addr) (cl : Nat) (lims : List S101) (vv : Value) (hF : Fix a0 L b2 b4 b5 b6 b8 W6 A cl lims vv)
    (v0 v1 v3 v7 : Value) (Q : Exit → Act → World → Prop) (r : Int) (hr0 : 0 ≤ r) (hr1 : r ≤ a0 + 1) (c : List Int) (ds : List Nat) (b9 : Nat) (W : World) (hR : Rnd a0 L b8 W6 vv r c ds b9 W) (K : Act → World → Prop)
    (hdone : M.ysR c lims = [] → ∀ ds W' u10 u11 u12 u13 u14 u15 u16 u17 u18 u19 u20 u21 u22 u23 u24 u25 u26 u27 u28 u29 u30 u31 u32 u33 u34 u35 u36 u37 u38 u39 u40 u41 u42 u43 u44 u45 u46 u47 u48 u49 u50 u51 u52 u53 u54 u55 u56 u57 u58 u59 u60 u61 u62 u63 u64 u65 u66 u67 u68 u69 u70 u71 u72 u73 u74 u75 u76 u77 u78, Rnd a0 L b8 W6 vv r c ds b9 W' → Q (.exit 0) (actS v0 v1 v3 v7 b2 b4 b5 b6 b8 b9 ds u10 u11 u12 u13 u14 u15 u16 u17 u18 u19 u20 u21 u22 u23 u24 u25 u26 u27 u28 u29 u30 u31 u32 u33 u34 u35 u36 u37 u38 u39 u40 u41 u42 u43 u44 u45 u46 u47 u48 u49 u50 u51 u52 u53 u54 u55 u56 u57 u58 u59 u60 u61 u62 u63 u64 u65 u66 u67 u68 u69 u70 u71 u72 u73 u74 u75 u76 u77 u78) W')
    (hbad : badR a0 r (M.ysR c lims) = true → ∀ ds W' u10 u11 u12 u13 u14 u15 u16 u17 u18 u19 u20 u21 u22 u23 u24 u25 u26 u27 u28 u29 u30 u31 u32 u33 u34 u35 u36 u37 u38 u39 u40 u41 u42 u43 u44 u45 u46 u47 u48 u49 u50 u51 u52 u53 u54 u55 u56 u57 u58 u59 u60 u61 u62 u63 u64 u65 u66 u67 u68 u69 u70 u71 u72 u73 u74 u75 u76 u77 u78, Marks L ds W' → Stop b4 b5 W6 W' → Q .ret (actS v0 v1 v3 v7 b2 b4 b5 b6 b8 b9 ds u10 u11 u12 u13 u14 u15 u16 u17 u18 u19 u20 u21 u22 u23 u24 u25 u26 u27 u28 u29 u30 u31 u32 u33 u34 u35 u36 u37 u38 u39 u40 u41 u42 u43 u44 u45 u46 u47 u48 u49 u50 u51 u52 u53 u54 u55 u56 u57 u58 u59 u60 u61 u62 u63 u64 u65 u66 u67 u68 u69 u70 u71 u72 u73 u74 u75 u76 u77 u78) W')
    (hgo : badR a0 r (M.ysR c lims) = false → M.ysR c lims ≠ [] → ∀ ds b9' W' u10 u11 u12 u13 u14 u15 u16 u17 u18 u19 u20 u21 u22 u23 u24 u25 u26 u27 u28 u29 u30 u31 u32 u33 u34 u35 u36 u37 u38 u39 u40 u41 u42 u43 u44 u45 u46 u47 u48 u49 u50 u51 u52 u53 u54 u55 u56 u57 u58 u59 u60 u61 u62 u63 u64 u65 u66 u67 u68 u69 u70 u71 u72 u73 u74 u75 u76 u77 u78, Rnd a0 L b8 W6 vv (r + 1) (M.stV c (M.ysR c lims)) ds b9' W' → K (actS v0 v1 v3 v7 b2 b4 b5 b6 b8 b9' ds u10 u11 u12 u13 u14 u15 u16 u17 u18 u19 u20 u21 u22 u23 u24 u25 u26 u27 u28 u29 u30 u31 u32 u33 u34 u35 u36 u37 u38 u39 u40 u41 u42 u43 u44 u45 u46 u47 u48 u49 u50 u51 u52 u53 u54 u55 u56 u57 u58 u59 u60 u61 u62 u63 u64 u65 u66 u67 u68 u69 u70 u71 u72 u73 u74 u75 u76 u77 u78) W')
    (u10 u11 u12 u13 u14 u15 u16 u17 u18 u19 u20 u21 u22 u23 u24 u25 u26 u27 u28 u29 u30 u31 u32 u33 u34 u35 u36 u37 u38 u39 u40 u41 u42 u43 u44 u45 u46 u47 u48 u49 u50 u51 u52 u53 u54 u55 u56 u57 u58 u59 u60 u61 u62 u63 u64 u65 u66 u67 u68 u69 u70 u71 u72 u73 u74 u75 u76 u77 u78 : Value) : body.wpIn Fence.wide 6 Try.prog (Exit.then K Q) (actS v0 v1 v3 v7 b2 b4 b5 b6 b8 b9 ds u10 u11 u12 u13 u14 u15 u16 u17 u18 u19 u20 u21 u22 u23 u24 u25 u26 u27 u28 u29 u30 u31 u32 u33 u34 u35 u36 u37 u38 u39 u40 u41 u42 u43 u44 u45 u46 u47 u48 u49 u50 u51 u52 u53 u54 u55 u56 u57 u58 u59 u60 u61 u62 u63 u64 u65 u66 u67 u68 u69 u70 u71 u72 u73 u74 u75 u76 u77 u78) W := by
  have hE := Aside0.mk hF
  simp only [Try.f29, Option.bind_some, loopIn, Option.or, Option.some.injEq] at hB
  subst hB
  dsimp only [actS]
  have hu94 := Try.underlying94
  have c6 : (W.alloc (.cells #[.bool true] 4)).cell? ⟨b6, 0, none⟩ = some (.slice A lims.length cl) := (blk_cell (blk_alloc ((hR.bl.block b6 (blk_lt hF.k6)).trans hF.k6) _) 0).trans rfl
  have c8 : (W.alloc (.cells #[.bool true] 4)).cell? ⟨b8, 0, none⟩ = some vv := (blk_cell (blk_alloc hR.k8 _) 0).trans rfl
  obtain ⟨Av, cv, rfl⟩ := Kd.R_slice hR.row
  have HF := Aside0.mk hF
  have HR := Aside0.mk hR
  have HD := Aside0.mk hdone
  have HBAD := Aside0.mk hbad
  have HG := Aside0.mk hgo
  clear hF hR hdone hbad hgo hE
  gi_wp2_with fail
  refine ⟨trivial, ?_⟩
  refine (lsolve_grown.calls Fence.wide 5 trivial rfl A lims.length cl Av c.length cv _).mono ?_
  rintro e W2 ⟨rfl, hW2⟩
  have hs2 : W2.heap.size = W.heap.size + 3 := by rw [hW2]; simp
  have k10 : W2.heap[W.heap.size]? = some (.cells #[.bool true] 4 (0, 0)) := by rw [hW2]; exact blk_alloc (blk_alloc (blk_new W _) _) _
  have kB1 : W2.heap[W.heap.size + 1]? = some (.cells #[.slice A lims.length cl] 92 (0, 0)) := by
    rw [hW2]; refine blk_alloc ?_ _; have := blk_new (W.alloc (.cells #[.bool true] 4)) (.cells #[.slice A lims.length cl] 92); simpa using this
  have kB2 : W2.heap[W.heap.size + 2]? = some (.cells #[.slice Av c.length cv] 29 (0, 0)) := by
    rw [hW2]; have := blk_new ((W.alloc (.cells #[.bool true] 4)).alloc (.cells #[.slice A lims.length cl] 92)) (.cells #[.slice Av c.length cv] 29); simpa using this
  have hb2 : Below W.heap.size W W2 := by rw [hW2]; exact (((Below.refl _ W).alloc (Nat.le_refl _) _).alloc (by simp) _).alloc (by simp; omega) _
  simp only [World.size_alloc]
  have HS2 := Aside0.mk hs2
  clear hW2 c6 c8 hs2
  have HI0 : Below W6.heap.size W6 W2 ∧ Kd.R (Kd.int .i64) 3 W2 W6.heap.size (fun k => W6.heap.size ≤ k ∧ k < L) (.slice Av c.length cv) (M.stV c []) ∧ W2.heap[b8]? = some (.cells #[.slice Av c.length cv] 29 (0, 0)) ∧
      W2.heap[b9]? = some (.cells #[.int .i64 r] 3 (0, 0)) ∧ W2.heap[W.heap.size]? = some (.cells #[.bool ([] : List (Int × Int)).isEmpty] 4 (0, 0)) ∧ W2.heap[W.heap.size + 1]? = some (.cells #[.slice A lims.length cl] 92 (0, 0)) ∧ W2.heap[W.heap.size + 2]? = some (.cells #[.slice Av c.length cv] 29 (0, 0)) ∧ Marks L ds W2 ∧ badR a0 r [] = false :=
    ⟨HR.out.bl.trans (hb2.mono HR.out.bl.size), Kd.R_below HR.out.row hb2, blk_below HR.out.k8 hb2, blk_below HR.out.k9 hb2, k10, kB1, kB2, HR.out.mks.below hb2, rfl⟩
  have hI0 := Aside0.mk HI0
  clear HI0 k10 kB1 kB2
  have HOWN : OwnFrom W2.heap.size (fun (pre : List (Int × Int)) W' => Below W6.heap.size W6 W' ∧ Kd.R (Kd.int .i64) 3 W' W6.heap.size (fun k => W6.heap.size ≤ k ∧ k < L) (.slice Av c.length cv) (M.stV c pre) ∧ W'.heap[b8]? = some (.cells #[.slice Av c.length cv] 29 (0, 0)) ∧
      W'.heap[b9]? = some (.cells #[.int .i64 r] 3 (0, 0)) ∧ W'.heap[W.heap.size]? = some (.cells #[.bool pre.isEmpty] 4 (0, 0)) ∧ W'.heap[W.heap.size + 1]? = some (.cells #[.slice A lims.length cl] 92 (0, 0)) ∧ W'.heap[W.heap.size + 2]? = some (.cells #[.slice Av c.length cv] 29 (0, 0)) ∧ Marks L ds W' ∧ badR a0 r pre = false) :=
    (ownFrom_below (Nat.le_refl _) hI0.out.1.size).and (((own_row _ _ _ _ _ (fun pre => M.stV c pre)).from _).and (((own_blk b8 (fun _ => _) _).from _).and (((own_blk b9 (fun _ => _) _).from _).and (((own_blk _ (fun pre => #[.bool pre.isEmpty]) _).from _).and
      (((own_blk _ (fun _ => _) _).from _).and (((own_blk _ (fun _ => _) _).from _).and ((marks_own hI0.out.2.2.2.2.2.2.2.1 (Nat.le_refl _)).and (ownFrom_pure _ (fun pre => badR a0 r pre = false)))))))))
  have HO := Aside0.mk HOWN
  clear HOWN
  gi_wp2_with fail
  refine rangeFuncT rfl (by omega) (gf := 85) (lb := #[.pointer (some ⟨W.heap.size + 1, 0, none⟩), .pointer (some ⟨W.heap.size + 2, 0, none⟩)]) rfl trivial (enters_ Try.func85 (by kernel_rfl) (by kernel_rfl)) (encs := encG) (fun _ => rfl)
    (fun (pre : List (Int × Int)) W' => Below W6.heap.size W6 W' ∧ Kd.R (Kd.int .i64) 3 W' W6.heap.size (fun k => W6.heap.size ≤ k ∧ k < L) (.slice Av c.length cv) (M.stV c pre) ∧ W'.heap[b8]? = some (.cells #[.slice Av c.length cv] 29 (0, 0)) ∧
      W'.heap[b9]? = some (.cells #[.int .i64 r] 3 (0, 0)) ∧ W'.heap[W.heap.size]? = some (.cells #[.bool pre.isEmpty] 4 (0, 0)) ∧ W'.heap[W.heap.size + 1]? = some (.cells #[.slice A lims.length cl] 92 (0, 0)) ∧ W'.heap[W.heap.size + 2]? = some (.cells #[.slice Av c.length cv] 29 (0, 0)) ∧ Marks L ds W' ∧ badR a0 r pre = false)
    (fun pre W' => (badR a0 r pre = true ∧ Marks L ds W') ∧ (W'.heap[b4]? = some (.cells #[.slice none 0 0] 29 (0, 0)) ∧ W'.heap[b5]? = some (.cells #[.int .i64 52] 46 (0, 0)) ∧ Below (min b4 (min b5 W6.heap.size)) W6 W'))
    HO.out ?ix hI0.out (fun a x => { tmps := (((a.tmps.setIfInBounds 43 (.int .i64 x.1)).setIfInBounds 44 (.int .i64 x.2)).setIfInBounds 11 (.int .i64 x.1)).setIfInBounds 12 (.int .i64 x.2), defers := [] })
    (lsolve_grown_1.seq 5 (by omega) (W.heap.size + 1) (W.heap.size + 2) A cl lims Av cv c _ _ ?facts (fun pre A1 A2 h hb => ownFrom_stable HO.out h hb) ?hcv ?hon) ?assign ?body ?done ?stop
  case ix => exact ((ownFrom_pure _ (fun pre => badR a0 r pre = true)).and (marks_own hI0.out.2.2.2.2.2.2.2.1 (Nat.le_refl _))).and (((own_blk b4 (fun _ => _) _).from _).and (((own_blk b5 (fun _ => _) _).from _).and (ownFrom_below (by omega) (by have := hI0.out.1.size; omega))))
  case facts =>
    rintro pre W' ⟨i1, i2, i3, i4, i5, i6, i7, i8, i9⟩
    have hv := (Kd.R_reads' i2)
    rw [M.stV_len] at hv
    exact ⟨i6, i7, Kd.C_below HF.out.row i1, hv.2.2⟩
  case hcv => exact (Kd.R_reads' HR.out.row).2.1
  case hon => exact fun x hx => by have h1 := HF.out.on x hx; have h2 := HR.out.len; omega
  case assign =>
    intro l x W' K hK
    dsimp only [encG]
    gi_wp2
    exact hK
  case body =>
    rintro l pre x W' ⟨i1, i2, i3, i4, i5, i6, i7, i8, i9⟩ hG
    have hx := M.ysR_on (n := (c.length : Int)) (fun x hx => by have h1 := HF.out.on x hx; have h2 := HR.out.len; omega) c x (hG.subset (by simp))
    have c2 : W'.cell? ⟨b2, 0, none⟩ = some (.int .i64 a0) := (blk_cell ((i1.block b2 (blk_lt HF.out.k2)).trans HF.out.k2) 0).trans rfl
    have c9 : W'.cell? ⟨b9, 0, none⟩ = some (.int .i64 r) := (blk_cell i4 0).trans rfl
    have k4 := (i1.block b4 (blk_lt HF.out.k4)).trans HF.out.k4
    have k5 := (i1.block b5 (blk_lt HF.out.k5)).trans HF.out.k5
    have n45 := HF.out.n45
    have n54 := Ne.symm n45
    have l1 := HF.out.hL
    have l2 := HR.out.sz
    have l3 := HF.out.l8
    have l4 := HR.out.l9
    have l5 := blk_lt HF.out.k4
    have l6 := blk_lt HF.out.k5
    have BADW : badR a0 r (pre ++ [x]) = true → bodyT W2.heap.size (fun (pre : List (Int × Int)) W' => Below W6.heap.size W6 W' ∧ Kd.R (Kd.int .i64) 3 W' W6.heap.size (fun k => W6.heap.size ≤ k ∧ k < L) (.slice Av c.length cv) (M.stV c pre) ∧ W'.heap[b8]? = some (.cells #[.slice Av c.length cv] 29 (0, 0)) ∧
      W'.heap[b9]? = some (.cells #[.int .i64 r] 3 (0, 0)) ∧ W'.heap[W.heap.size]? = some (.cells #[.bool pre.isEmpty] 4 (0, 0)) ∧ W'.heap[W.heap.size + 1]? = some (.cells #[.slice A lims.length cl] 92 (0, 0)) ∧ W'.heap[W.heap.size + 2]? = some (.cells #[.slice Av c.length cv] 29 (0, 0)) ∧ Marks L ds W' ∧ badR a0 r pre = false)
        (fun pre W' => (badR a0 r pre = true ∧ Marks L ds W') ∧ (W'.heap[b4]? = some (.cells #[.slice none 0 0] 29 (0, 0)) ∧ W'.heap[b5]? = some (.cells #[.int .i64 52] 46 (0, 0)) ∧ Below (min b4 (min b5 W6.heap.size)) W6 W')) (pre ++ [x]) W' .ret { tmps := #[], defers := [] } ((W'.setCell ⟨b4, 0, none⟩ (.slice none 0 0)).setCell ⟨b5, 0, none⟩ (.int .i64 52)) := fun hb =>
      ⟨((KeepsOthers.setCell _ _ _).from _).trans ((KeepsOthers.setCell _ _ _).from _), ⟨hb, (i8.setCell (p := ⟨b4, 0, none⟩) k4 _).setCell (p := ⟨b5, 0, none⟩) (blk_far (p := ⟨b4, 0, none⟩) k5 n54 _) _⟩,
        blk_far (p := ⟨b5, 0, none⟩) (blk_put k4 0 _ rfl) n45 _, blk_put (blk_far (p := ⟨b4, 0, none⟩) k5 n54 _) 0 _ rfl,
        ((i1.mono (by omega)).setCell (p := ⟨b4, 0, none⟩) (by show _ ≤ b4; omega) _).setCell (p := ⟨b5, 0, none⟩) (by show _ ≤ b5; omega) _⟩
    have HBW := Aside0.mk BADW
    have c4 : W'.cell? ⟨b4, 0, none⟩ = some (.slice none 0 0) := (blk_cell k4 0).trans rfl
    have c5 : W'.cell? ⟨b5, 0, none⟩ = some (.int .i64 0) := (blk_cell k5 0).trans rfl
    have f4 := blk_frozen k4 0
    have f5 := blk_frozen k5 0
    clear BADW k4 k5
    have hbr : badR a0 r (pre ++ [x]) = (decide (x.2 > 1000) || decide (r > a0)) := by
      have := i9
      unfold badR at this ⊢
      rw [List.any_append, this]; simp
    have HBR := Aside0.mk hbr
    have HX := Aside0.mk hx
    have HII := Aside0.mk (And.intro i1 (And.intro i2 (And.intro i3 (And.intro i4 (And.intro i5 (And.intro i6 (And.intro i7 i8)))))))
    clear hbr hx i1 i2 i3 i4 i5 i6 i7 i8 i9 hG
    by_cases hk : x.2 > 1000
    · gi_wp2
      exact HBW.out (by rw [HBR.out]; simp [hk])
    · by_cases hr : r > a0
      · gi_wp2
        exact HBW.out (by rw [HBR.out]; simp [hr])
      · clear c4 c5 f4 f5
        have HNB := Aside0.mk (show badR a0 r (pre ++ [x]) = false by rw [HBR.out]; simp [hk, hr])
        obtain ⟨i1, i2, i3, i4, i5, i6, i7, i8⟩ := HII.out
        have hlen := M.stV_len pre c
        obtain ⟨g, cap, hsl, hg1, hg2, cells, hgc⟩ := Kd.R_form i2 (by rw [hlen]; have := HX.out; omega)
        injection hsl with e1 e2 e3
        subst e1
        subst e3
        rw [← hlen] at i2
        have hgL := i2.1 g rfl
        obtain ⟨hcg, hfg⟩ := Kd.R_cell (0 : Int) i2 x.1 HX.out.1 (by rw [hlen]; exact HX.out.2)
        have c8 : W'.cell? ⟨b8, 0, none⟩ = some (.slice (some ⟨g, 0, none⟩) c.length cv) := (blk_cell i3 0).trans rfl
        have ck : W'.cell? ⟨W.heap.size, 0, none⟩ = some (.bool pre.isEmpty) := (blk_cell i5 0).trans rfl
        have fk := blk_frozen i5 0
        have hp := HX.out.1
        have hq := HX.out.2
        have nk : g ≠ W.heap.size := by omega
        have nk' := Ne.symm nk
        have HGL := Aside0.mk hgL
        clear i1 i2 i3 i4 i5 i6 i7 i8 hgc e2 hlen hgL hg1 hg2
        gi_wp2
        obtain ⟨i1, i2, i3, i4, i5, i6, i7, i8⟩ := HII.out
        obtain ⟨hg1, hg2⟩ := HGL.out
        have hlen := M.stV_len pre c
        have l7 := blk_lt HR.out.k8
        have l8 := blk_lt HR.out.k9
        obtain ⟨_, _, hsl, _, _, cells, hgc⟩ := Kd.R_form i2 (by rw [hlen]; omega)
        injection hsl with e1 e2 e3
        injection e1 with e1
        injection e1 with e1
        subst e1
        rw [← hlen] at i2
        have hput := (Kd.R_put i2 x.1 x.2).1
        rw [hlen] at hput
        refine ⟨((KeepsOthers.setCell _ _ _).from _).trans ((KeepsOthers.setCell _ _ _).from _), (i1.setCell (p := ⟨g, x.1.toNat, none⟩) hg1 _).setCell (p := ⟨W.heap.size, 0, none⟩) (by show _ ≤ W.heap.size; omega) _,
          ?_, blk_far (p := ⟨W.heap.size, 0, none⟩) (blk_far (p := ⟨g, x.1.toNat, none⟩) i3 (by show b8 ≠ g; omega) _) (by show b8 ≠ W.heap.size; omega) _,
          blk_far (p := ⟨W.heap.size, 0, none⟩) (blk_far (p := ⟨g, x.1.toNat, none⟩) i4 (by show b9 ≠ g; omega) _) (by show b9 ≠ W.heap.size; omega) _,
          blk_put (blk_far (p := ⟨g, x.1.toNat, none⟩) i5 (by show W.heap.size ≠ g; omega) _) 0 _ (by simp),
          blk_far (p := ⟨W.heap.size, 0, none⟩) (blk_far (p := ⟨g, x.1.toNat, none⟩) i6 (by show W.heap.size + 1 ≠ g; omega) _) (by show W.heap.size + 1 ≠ W.heap.size; omega) _,
          blk_far (p := ⟨W.heap.size, 0, none⟩) (blk_far (p := ⟨g, x.1.toNat, none⟩) i7 (by show W.heap.size + 2 ≠ g; omega) _) (by show W.heap.size + 2 ≠ W.heap.size; omega) _,
          (i8.setCell (p := ⟨g, x.1.toNat, none⟩) hgc _).setCell (p := ⟨W.heap.size, 0, none⟩) (blk_far (p := ⟨g, x.1.toNat, none⟩) i5 (by show W.heap.size ≠ g; omega) _) _, HNB.out⟩
        rw [M.stV_snoc]
        exact Kd.R_far hput (p := ⟨W.heap.size, 0, none⟩) (fun k hk => by show k ≠ W.heap.size; have := hk.2; omega) _
  case done =>
    rintro D xs W' hD rfl ⟨i1, i2, i3, i4, i5, i6, i7, i8, i9⟩ hK
    have ck : W'.cell? ⟨W.heap.size, 0, none⟩ = some (.bool (M.ysR c lims).isEmpty) := (blk_cell i5 0).trans rfl
    have hmk := i8.cons (by have := HR.out.sz; have := HS2.out; omega) hK (fun hd => by have := blk_lt (hI0.out.2.2.2.2.2.2.2.1.at_ D hd).2; omega)
    have hsz := blk_lt i7
    by_cases he : M.ysR c lims = []
    · rw [he] at ck i2
      have HE := Aside0.mk he
      have HII := Aside0.mk (show Rnd a0 L b8 W6 (.slice Av c.length cv) r c (D :: ds) b9 W' from ⟨i1, by have := HR.out.sz; omega, i2, i3, i4, HR.out.l9, HR.out.n89, hmk, HR.out.len⟩)
      clear i1 i2 i3 i4 i5 i6 i7 i8 i9 hK hmk he hsz
      gi_wp2
      exact HD.out HE.out (D :: ds) W' _ _ _ _ _ _ _ _ _ _ _ _ _ _ _ _ _ _ _ _ _ _ _ _ _ _ _ _ _ _ _ _ _ _ _ _ _ _ _ _ _ _ _ _ _ _ _ _ _ _ _ _ _ _ _ _ _ _ _ _ _ _ _ _ _ _ _ _ _ HII.out
    · have hne : (M.ysR c lims).isEmpty = false := by cases h : M.ysR c lims with
        | nil => exact absurd h he
        | cons _ _ => rfl
      rw [hne] at ck
      have c9 : W'.cell? ⟨b9, 0, none⟩ = some (.int .i64 r) := (blk_cell i4 0).trans rfl
      have hw : wrap64 (r + 1) = r + 1 := by unfold wrap64; omega
      have HE := Aside0.mk he
      have HW := Aside0.mk hw
      have hbw : Below W'.heap.size W' (W'.alloc (.cells #[.int .i64 (r + 1)] 3)) := below_alloc (Below.refl _ _) _
      have HII := Aside0.mk (show Rnd a0 L b8 W6 (.slice Av c.length cv) (r + 1) (M.stV c (M.ysR c lims)) (D :: ds) W'.heap.size (W'.alloc (.cells #[.int .i64 (r + 1)] 3)) from
        ⟨i1.trans (hbw.mono i1.size), by have := HR.out.sz; simp; omega, Kd.R_below i2 hbw, blk_alloc i3 _, blk_new W' _, by have := HR.out.sz; omega, by have := blk_lt i3; omega, hmk.below hbw, by rw [M.stV_len]; exact HR.out.len⟩)
      have HN := Aside0.mk i9
      clear i1 i2 i3 i4 i5 i6 i7 i8 i9 hK hmk he hsz hne hbw
      gi_wp2
      exact HG.out HN.out HE.out (D :: ds) W'.heap.size _ _ _ _ _ _ _ _ _ _ _ _ _ _ _ _ _ _ _ _ _ _ _ _ _ _ _ _ _ _ _ _ _ _ _ _ _ _ _ _ _ _ _ _ _ _ _ _ _ _ _ _ _ _ _ _ _ _ _ _ _ _ _ _ _ _ _ _ _ _ HII.out
  case stop =>
    rintro D pre W' hD hpre ⟨⟨hb, hm⟩, k4, k5, hbl⟩ hK
    have FI := Aside0.mk (And.intro hb (And.intro hm (And.intro k4 (And.intro k5 (And.intro hbl hK)))))
    clear hb hm k4 k5 hbl hK
    gi_wp2
    refine HBAD.out (by
      obtain ⟨t, ht⟩ := hpre
      have := FI.out.1
      unfold badR at this ⊢
      rw [← ht, List.any_append, this]; rfl) (D :: ds) W' _ _ _ _ _ _ _ _ _ _ _ _ _ _ _ _ _ _ _ _ _ _ _ _ _ _ _ _ _ _ _ _ _ _ _ _ _ _ _ _ _ _ _ _ _ _ _ _ _ _ _ _ _ _ _ _ _ _ _ _ _ _ _ _ _ _ _ _ _
      (FI.out.2.1.cons (by have := HR.out.sz; have := HS2.out; omega) FI.out.2.2.2.2.2 (fun hd => by have := blk_lt (hI0.out.2.2.2.2.2.2.2.1.at_ D hd).2; omega)) ⟨FI.out.2.2.1, FI.out.2.2.2.1, fun B h1 h2 h3 => FI.out.2.2.2.2.1.mono (by omega)⟩
theorem solve_rounds (body : Code) (hB : Try.f29.body.bind loopIn = some body) (a0 : Int) (ha0 : 0 ≤ a0) (ha1 : a0 ≤ 500) (L b2 b4 b5 b6 b8 : Nat) (W6 : World) (A : Option Addr) (cl : Nat) (lims : List S101) (vv : Value) (hF : Fix a0 L b2 b4 b5 b6 b8 W6 A cl lims vv)
    (v0 v1 v3 v7 : Value) (Q : Exit → Act → World → Prop) : ∀ (f : Nat) (r : Int) (c : List Int) (ds : List Nat) (b9 : Nat) (W : World) (u10 u11 u12 u13 u14 u15 u16 u17 u18 u19 u20 u21 u22 u23 u24 u25 u26 u27 u28 u29 u30 u31 u32 u33 u34 u35 u36 u37 u38 u39 u40 u41 u42 u43 u44 u45 u46 u47 u48 u49 u50 u51 u52 u53 u54 u55 u56 u57 u58 u59 u60 u61 u62 u63 u64 u65 u66 u67 u68 u69 u70 u71 u72 u73 u74 u75 u76 u77 u78 : Value), 0 ≤ r → r ≤ a0 + 1 → r + f = a0 + 2 → Rnd a0 L b8 W6 vv r c ds b9 W →
    (∀ c', roundsR a0 lims f r c = some c' → ∀ r' ds b9' W' u10 u11 u12 u13 u14 u15 u16 u17 u18 u19 u20 u21 u22 u23 u24 u25 u26 u27 u28 u29 u30 u31 u32 u33 u34 u35 u36 u37 u38 u39 u40 u41 u42 u43 u44 u45 u46 u47 u48 u49 u50 u51 u52 u53 u54 u55 u56 u57 u58 u59 u60 u61 u62 u63 u64 u65 u66 u67 u68 u69 u70 u71 u72 u73 u74 u75 u76 u77 u78, Rnd a0 L b8 W6 vv r' c' ds b9' W' → Q (.exit 0) (actS v0 v1 v3 v7 b2 b4 b5 b6 b8 b9' ds u10 u11 u12 u13 u14 u15 u16 u17 u18 u19 u20 u21 u22 u23 u24 u25 u26 u27 u28 u29 u30 u31 u32 u33 u34 u35 u36 u37 u38 u39 u40 u41 u42 u43 u44 u45 u46 u47 u48 u49 u50 u51 u52 u53 u54 u55 u56 u57 u58 u59 u60 u61 u62 u63 u64 u65 u66 u67 u68 u69 u70 u71 u72 u73 u74 u75 u76 u77 u78) W') →
    (roundsR a0 lims f r c = none → ∀ ds b9' W' u10 u11 u12 u13 u14 u15 u16 u17 u18 u19 u20 u21 u22 u23 u24 u25 u26 u27 u28 u29 u30 u31 u32 u33 u34 u35 u36 u37 u38 u39 u40 u41 u42 u43 u44 u45 u46 u47 u48 u49 u50 u51 u52 u53 u54 u55 u56 u57 u58 u59 u60 u61 u62 u63 u64 u65 u66 u67 u68 u69 u70 u71 u72 u73 u74 u75 u76 u77 u78, Marks L ds W' → Stop b4 b5 W6 W' → Q .ret (actS v0 v1 v3 v7 b2 b4 b5 b6 b8 b9' ds u10 u11 u12 u13 u14 u15 u16 u17 u18 u19 u20 u21 u22 u23 u24 u25 u26 u27 u28 u29 u30 u31 u32 u33 u34 u35 u36 u37 u38 u39 u40 u41 u42 u43 u44 u45 u46 u47 u48 u49 u50 u51 u52 u53 u54 u55 u56 u57 u58 u59 u60 u61 u62 u63 u64 u65 u66 u67 u68 u69 u70 u71 u72 u73 u74 u75 u76 u77 u78) W') →
    Code.roundsIn Fence.wide 6 Try.prog body Q f (actS v0 v1 v3 v7 b2 b4 b5 b6 b8 b9 ds u10 u11 u12 u13 u14 u15 u16 u17 u18 u19 u20 u21 u22 u23 u24 u25 u26 u27 u28 u29 u30 u31 u32 u33 u34 u35 u36 u37 u38 u39 u40 u41 u42 u43 u44 u45 u46 u47 u48 u49 u50 u51 u52 u53 u54 u55 u56 u57 u58 u59 u60 u61 u62 u63 u64 u65 u66 u67 u68 u69 u70 u71 u72 u73 u74 u75 u76 u77 u78) W := by
  intro f
  induction f with
  | zero => intros; omega
  | succ f ih =>
    intro r c ds b9 W u10 u11 u12 u13 u14 u15 u16 u17 u18 u19 u20 u21 u22 u23 u24 u25 u26 u27 u28 u29 u30 u31 u32 u33 u34 u35 u36 u37 u38 u39 u40 u41 u42 u43 u44 u45 u46 u47 u48 u49 u50 u51 u52 u53 u54 u55 u56 u57 u58 u59 u60 u61 u62 u63 u64 u65 u66 u67 u68 u69 u70 u71 u72 u73 u74 u75 u76 u77 u78 h0 h1 hf hR hexit hret
    rw [roundsIn_succ]
    refine solve_round body hB a0 ha0 ha1 L b2 b4 b5 b6 b8 W6 A cl lims vv hF v0 v1 v3 v7 Q r h0 h1 c ds b9 W hR _ ?_ ?_ ?_ u10 u11 u12 u13 u14 u15 u16 u17 u18 u19 u20 u21 u22 u23 u24 u25 u26 u27 u28 u29 u30 u31 u32 u33 u34 u35 u36 u37 u38 u39 u40 u41 u42 u43 u44 u45 u46 u47 u48 u49 u50 u51 u52 u53 u54 u55 u56 u57 u58 u59 u60 u61 u62 u63 u64 u65 u66 u67 u68 u69 u70 u71 u72 u73 u74 u75 u76 u77 u78
    · intro he ds W' u10 u11 u12 u13 u14 u15 u16 u17 u18 u19 u20 u21 u22 u23 u24 u25 u26 u27 u28 u29 u30 u31 u32 u33 u34 u35 u36 u37 u38 u39 u40 u41 u42 u43 u44 u45 u46 u47 u48 u49 u50 u51 u52 u53 u54 u55 u56 u57 u58 u59 u60 u61 u62 u63 u64 u65 u66 u67 u68 u69 u70 u71 u72 u73 u74 u75 u76 u77 u78 hR'
      exact hexit c (by simp [roundsR, he, badR]) r ds b9 W' u10 u11 u12 u13 u14 u15 u16 u17 u18 u19 u20 u21 u22 u23 u24 u25 u26 u27 u28 u29 u30 u31 u32 u33 u34 u35 u36 u37 u38 u39 u40 u41 u42 u43 u44 u45 u46 u47 u48 u49 u50 u51 u52 u53 u54 u55 u56 u57 u58 u59 u60 u61 u62 u63 u64 u65 u66 u67 u68 u69 u70 u71 u72 u73 u74 u75 u76 u77 u78 hR'
    · intro hb ds W' u10 u11 u12 u13 u14 u15 u16 u17 u18 u19 u20 u21 u22 u23 u24 u25 u26 u27 u28 u29 u30 u31 u32 u33 u34 u35 u36 u37 u38 u39 u40 u41 u42 u43 u44 u45 u46 u47 u48 u49 u50 u51 u52 u53 u54 u55 u56 u57 u58 u59 u60 u61 u62 u63 u64 u65 u66 u67 u68 u69 u70 u71 u72 u73 u74 u75 u76 u77 u78 hm hs
      exact hret (by simp [roundsR, hb]) ds b9 W' u10 u11 u12 u13 u14 u15 u16 u17 u18 u19 u20 u21 u22 u23 u24 u25 u26 u27 u28 u29 u30 u31 u32 u33 u34 u35 u36 u37 u38 u39 u40 u41 u42 u43 u44 u45 u46 u47 u48 u49 u50 u51 u52 u53 u54 u55 u56 u57 u58 u59 u60 u61 u62 u63 u64 u65 u66 u67 u68 u69 u70 u71 u72 u73 u74 u75 u76 u77 u78 hm hs
    · intro hb hne ds b9' W' u10 u11 u12 u13 u14 u15 u16 u17 u18 u19 u20 u21 u22 u23 u24 u25 u26 u27 u28 u29 u30 u31 u32 u33 u34 u35 u36 u37 u38 u39 u40 u41 u42 u43 u44 u45 u46 u47 u48 u49 u50 u51 u52 u53 u54 u55 u56 u57 u58 u59 u60 u61 u62 u63 u64 u65 u66 u67 u68 u69 u70 u71 u72 u73 u74 u75 u76 u77 u78 hR'
      have hr : r ≤ a0 := by
        cases hy : M.ysR c lims with
        | nil => exact absurd hy hne
        | cons p l => rw [hy] at hb; simp [badR] at hb; omega
      have he : roundsR a0 lims (f + 1) r c = roundsR a0 lims f (r + 1) (M.stV c (M.ysR c lims)) := by simp [roundsR, hb, hne]
      rw [he] at hexit hret
      exact ih (r + 1) _ ds b9' W' u10 u11 u12 u13 u14 u15 u16 u17 u18 u19 u20 u21 u22 u23 u24 u25 u26 u27 u28 u29 u30 u31 u32 u33 u34 u35 u36 u37 u38 u39 u40 u41 u42 u43 u44 u45 u46 u47 u48 u49 u50 u51 u52 u53 u54 u55 u56 u57 u58 u59 u60 u61 u62 u63 u64 u65 u66 u67 u68 u69 u70 u71 u72 u73 u74 u75 u76 u77 u78 (by omega) (by omega) (by omega) hR' hexit hret
end Go.Proofs.Ytbopadglafbdjaa.PX
