-- by wip/tools/gprint.py of this session over the kit's print; given functions are this session's own text
import Derived.Test.YtbopadglafbdjaaPXx0
import Derived.Test.YtbopadglafbdjaaPXxf40
import Derived.Test.YtbopadglafbdjaaPXxf57
import Derived.Test.YtbopadglafbdjaaML
import Derived.RangeFuncRecord
namespace Go.Proofs.Ytbopadglafbdjaa.PX
open Go.RowKit Go.Proofs.YtbopadglafbdjaaW.PrintWords Go.Proofs.YtbopadglafbdjaaW.PrintLast Go.Proofs.YtbopadglafbdjaaW.PrintMore
attribute [local go_sem] max2_int min2_int max_two min_two max_three min_three max_four min_four   -- for this text's walks alone
set_option linter.unusedVariables false
set_option linter.unusedSimpArgs false

/-! ### lsolve_ask: function 70 -/
-- GIVEN types=101
-- IMPORTS Derived.Test.YtbopadglafbdjaaML,Derived.RangeFuncRecord
attribute [local go_sem] max2_int min2_int max_two min_two max_three min_three max_four min_four   -- for this text's walks alone

def lsolve_ask.T22 : Bool × List (List Nat × List Nat) := (true, [([], []), ([0], [0]), ([], []), ([], []), ([3], [3]), ([4], [4]), ([5], [5]), ([6], [6]), ([], []), ([8], [8]), ([9], [9]), ([10], [10]), ([11], [11]), ([2, 7, 12], [2, 7, 12]), ([13], [13]), ([1, 14], [1, 14]), ([0, 1, 2, 3, 4, 5, 6, 7, 8, 9, 10, 11, 12, 13, 14, 15], []), ([16, 15, 15, 0, 1, 2, 3, 4, 5, 6, 7, 8, 9, 10, 11, 12, 13, 14, 15], [15, 16])])
def lsolve_ask.B22 : List Nat := [0, 1, 0, 0, 8, 24, 56, 120, 0, 256, 768, 1792, 3840, 8188, 16380, 32767, 65535, 131071]
theorem lsolve_ask.tab22 : rtab .any (opsOf Try.f70 22) = lsolve_ask.T22 := by kernel_rfl
theorem lsolve_ask.bits22 : waitsOk lsolve_ask.T22.2 lsolve_ask.B22 = true := by kernel_rfl
theorem idx0 (v0 v1 v2 v3 : Value) (W : World) : (Instr.index 113 (.agg #[v0, v1, v2, v3]) (.int .i64 0)).run Try.prog W = .ok (.agg #[v0, v1]) W := by
  have h : Try.prog.underlying 113 = some (.array 2 43) := by kernel_rfl
  simp [Instr.index, run_underlying h, go_sem]
theorem idx1 (v0 v1 v2 v3 : Value) (W : World) : (Instr.index 113 (.agg #[v0, v1, v2, v3]) (.int .i64 1)).run Try.prog W = .ok (.agg #[v2, v3]) W := by
  have h : Try.prog.underlying 113 = some (.array 2 43) := by kernel_rfl
  simp [Instr.index, run_underlying h, go_sem]
attribute [local go_sem] idx0 idx1
def lsolve_ask.l0 : Nat → List (S45) → Int → Int → List (S101) → Option ((List (S101)) × Int)
 | 0, _, _, _, _ => none
 | k + 1, x50, x51, x52, x103000 => if x52 < x51 then (if 0 ≤ x52 then (if x52 < (x50.length : Int) then ((level_Norm.f k ((rd_T45 x50 x52).f0.f0) ((rd_T45 x50 x52).f0.f1)).bind fun bt105 => ((level_Norm.f k ((rd_T45 x50 x52).f1.f0) ((rd_T45 x50 x52).f1.f1)).bind fun bt111 => (if (bt111.2.1.length : Int) = 0 then (if x103000.length < 2932031007402 then (lsolve_ask.l0 k x50 x51 (wrap64 (x52 + 1)) (x103000 ++ [(⟨(⟨bt105.1, bt105.2.1⟩ : S43), (-1), bt111.1⟩ : S101)])) else (none)) else (if (bt111.2.1.length : Int) = 1 then (if bt111.1 = 0 then (if 0 < (bt111.2.1.length : Int) then (if x103000.length < 2932031007402 then (lsolve_ask.l0 k x50 x51 (wrap64 (x52 + 1)) (x103000 ++ [(⟨(⟨bt105.1, bt105.2.1⟩ : S43), (rd_T62 bt111.2.1 0).f0, (rd_T62 bt111.2.1 0).f1⟩ : S101)])) else (none)) else (none)) else (some (x103000, 1))) else (some (x103000, 1)))))) else (none)) else (none)) else (some (x103000, 0))
set_option maxHeartbeats 8000000 in
set_option maxRecDepth 100000 in
theorem lsolve_ask.calls (k : Nat) (a0 : Int) (A1 : Option Addr) (c1 : Nat) (l1 : List (S45)) (r1 : List (S101)) (r2 : Int) (w : World) (hr1 : Kd.C k45 w A1 l1.length l1) (hc1 : l1.length ≤ c1) (hok : ∀ x ∈ l1, M.okL a0 x.f0 = true ∧ M.okL a0 x.f1 = true) (h : lsolve_ask.l0 k l1 (l1.length : Int) 0 [] = some (r1, r2)) :
  Calls Try.prog 70 #[.int .i64 a0, .slice A1 l1.length c1] w fun e w' => ∃ v0_ : Value, e = .returned (.tuple #[.agg #[v0_], .int .i64 r2]) ∧ Kd.S k101 101 w' w.heap.size (fun _ => True) v0_ r1 ∧ Below w.heap.size w w' := by
 have hu94 := Try.underlying94
 have hu45 := Try.underlying45
 have hu43 := Try.underlying43
 have hu101 := Try.underlying101
 have HR1 := Aside0.mk hr1
 have HC1 := Aside0.mk hc1
 clear hr1 hc1
 have HB := Aside0.mk (Below.refl w.heap.size w)
 have H : (lsolve_ask.l0 k l1 (l1.length : Int) 0 ([] : List (S101))) = some (r1, r2) := h
 clear h
 have H' := Aside0.mk H
 clear H
 go_enter Try.func70, Try.ntmps70
 go_wp2_with (first | ((with_reducible refine gate_dst (N := 4) rfl ?_); refine box_event ?hg (N := 4) ?hd (cs := #[.slice none 0 0]) (t := 94) ?hr ?_; (case hd => rfl); (case hg => rfl); (case hr => first | (go_simp; done) | (go_simp; rfl)); intro gb101 hg w3 hbox hb; have BK101 := Aside0.mk (hbox); have GW101 := Aside0.mk ((bs_ hg HB : w.heap.size ≤ gb101)); have GE101 := Aside0.mk ((bs_ hg HB : w.heap.size ≤ gb101)); replace HB := hs_ HB hb; clear hb hbox hg) | ((with_reducible refine gate_dst (N := 6) rfl ?_); refine box_event ?hg (N := 6) ?hd (cs := #[.slice none 0 0]) (t := 94) ?hr ?_; (case hd => rfl); (case hg => rfl); (case hr => first | (go_simp; done) | (go_simp; rfl)); intro gb102 hg w4 hbox hb; have BK102 := Aside0.mk (hbox); have GW102 := Aside0.mk ((bs_ hg HB : w.heap.size ≤ gb102)); have GE102 := Aside0.mk ((bs_ hg HB : w.heap.size ≤ gb102)); have NB101_102 := Aside0.mk ((nl_ hg BK101 : gb101 ≠ gb102)); have NB102_101 := Aside0.mk ((ng_ hg BK101 : gb102 ≠ gb101)); replace BK101 := bb_ BK101 hb; replace HB := hs_ HB hb; clear hb hbox hg; have hnb5 := NB102_101.out; have hnc5 := NB101_102.out; have hcz6_0 : w4.cell? ⟨gb102, 0, none⟩ = some (.slice none 0 0) := (blk_cell BK102.out 0).trans rfl; have hfz6_0 := blk_frozen BK102.out 0))

 have HOK := Aside0.mk hok
 clear hok
 have hmax := Kd.C_max HR1.out
 go_loopw [22] (fun i wr => ∃ q : Nat, q ≤ l1.length ∧ i = .int .i64 (q : Int) ∧ Aside0 (wr.heap[gb101]? = some (.cells #[(.slice none 0 0)] 94 (0, 0))) ∧ Aside0 (wr.heap[gb102]? = some (.cells #[(.slice none 0 0)] 94 (0, 0))) ∧ Aside0 (Below w.heap.size w wr))
   (fun i _ => l1.length - (intOf i).toNat)
 case atStart => exact ⟨0, Nat.zero_le _, rfl, ⟨blk_far BK101.out NB101_102.out _⟩, ⟨blk_put BK102.out 0 _ rfl⟩, ⟨(bl_ HB)⟩⟩
 case round =>
  clear BK101 BK102 HB hcz6_0 hfz6_0
  obtain ⟨q, hq, rfl, BK101, BK102, HB⟩ := hrel
  by_cases hlt : q < l1.length
  ·obtain ⟨ad3, A3_1, c3_1, A3_3, c3_3, e3, hx3_0, hx3_1, hx3_2, hx3_3, hl3_1, hi3_1, hl3_3, hi3_3⟩ := at_T45 HR1.out (q : Int) (by omega) (by omega)
   cases e3
   replace hx3_0 := (HB.out.cell (World.block_lt_of_cell? w _ hx3_0)).trans hx3_0
   replace hx3_1 := (HB.out.cell (World.block_lt_of_cell? w _ hx3_1)).trans hx3_1
   replace hx3_2 := (HB.out.cell (World.block_lt_of_cell? w _ hx3_2)).trans hx3_2
   replace hx3_3 := (HB.out.cell (World.block_lt_of_cell? w _ hx3_3)).trans hx3_3
   simp only [Int.toNat_natCast] at hx3_0 hx3_1 hx3_2 hx3_3
   go_wp2
   have hmem : rd_T45 l1 (q : Int) ∈ l1 := by
    simp only [rd_T45, Int.toNat_natCast, List.getD_eq_getElem?_getD, List.getElem?_eq_getElem hlt, Option.getD_some]
    exact List.getElem_mem hlt
   have hokq := HOK.out _ hmem
   have hgo : ∀ (N : Int) (l : List S62), M.okL a0 ⟨N, l⟩ = true → (∃ k, level_Norm.f k N l = some (M.zN N (M.can l), M.can l, 0)) ∧ ∃ k r, level_Bound.f k N l = some r ∧ r ≤ a0 := by
    intro N l h
    simp only [M.okL, Bool.and_eq_true, decide_eq_true_eq] at h
    obtain ⟨k1, h1⟩ := (M.Norm_all N l).ex
    obtain ⟨k2, h2⟩ := (M.Bound_all N l).ex
    refine ⟨⟨k1, ?_⟩, k2, _, h2, h.2⟩
    rw [h1]; unfold M.normR; rw [if_pos h.1]
   go_loopw [31] (fun j wr' => ∃ b : Nat, b ≤ 2 ∧ j = .int .i64 (b : Int) ∧ Aside0 (wr'.heap[gb101]? = some (.cells #[(.slice none 0 0)] 94 (0, 0))) ∧ Aside0 (wr'.heap[gb102]? = some (.cells #[(.slice none 0 0)] 94 (0, 0))) ∧ Aside0 (Below w.heap.size w wr'))
     (fun j _ => 2 - (intOf j).toNat)
   case atStart => exact ⟨0, by omega, rfl, ⟨blk_alloc BK101.out _⟩, ⟨blk_alloc BK102.out _⟩, ⟨(bl_ HB)⟩⟩
   case round =>
    clear BK101 BK102 HB
    obtain ⟨b, hb, rfl, BK101, BK102, HB⟩ := hrel
    by_cases hb2 : b < 2
    ·obtain hb0 | hb1 : b = 0 ∨ b = 1 := by omega
     ·subst hb0
      have hcC := Kd.C_below hi3_1 HB.out
      obtain ⟨⟨kN, hN⟩, kB, rB, hB, hrB⟩ := hgo _ _ (hokq.1)
      rw [show (((0 : Nat) : Int)) = 0 from rfl]
      go_wp2_with fail
      refine (level_Norm.calls kN (rd_T45 l1 (q : Int)).f0.f0 _ _ (rd_T45 l1 (q : Int)).f0.f1 _ _ _ _ (Kd.C_alloc hcC _) hl3_1 hN).mono ?_
      rintro e w1 ⟨v1, rfl, hR, hb⟩
      obtain ⟨Ax, cx, rfl⟩ := Kd.R_slice hR
      have BK10 := Aside0.mk (blk_below (World.alloc_heap_new wr (.cells #[.int .i64 (rd_T45 l1 (q : Int)).f0.f0, .slice A3_1 (rd_T45 l1 (q : Int)).f0.f1.length c3_1] 43)) hb)
      replace BK101 := bb_ BK101 hb
      replace BK102 := bb_ BK102 hb
      replace HB := hs_ HB hb
      have hcC1 := Kd.C_below hi3_1 HB.out
      have z0 : (w1.alloc (.cells #[.int .i64 (M.zN (rd_T45 l1 (q : Int)).f0.f0 (M.can (rd_T45 l1 (q : Int)).f0.f1)), .slice Ax (M.can (rd_T45 l1 (q : Int)).f0.f1).length cx] 43)).cell? ⟨wr.heap.size, 0, none⟩ = some (.int .i64 (rd_T45 l1 (q : Int)).f0.f0) := (blk_cell (blk_alloc BK10.out _) 0).trans rfl
      have z1 : (w1.alloc (.cells #[.int .i64 (M.zN (rd_T45 l1 (q : Int)).f0.f0 (M.can (rd_T45 l1 (q : Int)).f0.f1)), .slice Ax (M.can (rd_T45 l1 (q : Int)).f0.f1).length cx] 43)).cell? ⟨wr.heap.size, 1, none⟩ = some (.slice A3_1 (rd_T45 l1 (q : Int)).f0.f1.length c3_1) := (blk_cell (blk_alloc BK10.out _) 1).trans rfl
      clear hR hb
      go_wp2_with fail
      refine (level_Bound.calls kB (rd_T45 l1 (q : Int)).f0.f0 _ _ (rd_T45 l1 (q : Int)).f0.f1 rB _ (Kd.C_alloc hcC1 _) hl3_1 hB).mono ?_
      rintro e w2 ⟨rfl, hb⟩
      replace BK101 := bb_ BK101 hb
      replace BK102 := bb_ BK102 hb
      replace HB := hs_ HB hb
      clear hb z0 z1 BK10
      have hgt : (rB > a0) = False := by simp; omega
      go_wp2
      go_roundw
      case rel => exact ⟨0+1, by omega, by go_num, BK101, BK102, HB⟩
      case measure => simp [intOf]
     ·subst hb1
      have hcC := Kd.C_below hi3_3 HB.out
      obtain ⟨⟨kN, hN⟩, kB, rB, hB, hrB⟩ := hgo _ _ (hokq.2)
      rw [show (((1 : Nat) : Int)) = 1 from rfl]
      go_wp2_with fail
      refine (level_Norm.calls kN (rd_T45 l1 (q : Int)).f1.f0 _ _ (rd_T45 l1 (q : Int)).f1.f1 _ _ _ _ (Kd.C_alloc hcC _) hl3_3 hN).mono ?_
      rintro e w1 ⟨v1, rfl, hR, hb⟩
      obtain ⟨Ax, cx, rfl⟩ := Kd.R_slice hR
      have BK10 := Aside0.mk (blk_below (World.alloc_heap_new wr (.cells #[.int .i64 (rd_T45 l1 (q : Int)).f1.f0, .slice A3_3 (rd_T45 l1 (q : Int)).f1.f1.length c3_3] 43)) hb)
      replace BK101 := bb_ BK101 hb
      replace BK102 := bb_ BK102 hb
      replace HB := hs_ HB hb
      have hcC1 := Kd.C_below hi3_3 HB.out
      have z0 : (w1.alloc (.cells #[.int .i64 (M.zN (rd_T45 l1 (q : Int)).f1.f0 (M.can (rd_T45 l1 (q : Int)).f1.f1)), .slice Ax (M.can (rd_T45 l1 (q : Int)).f1.f1).length cx] 43)).cell? ⟨wr.heap.size, 0, none⟩ = some (.int .i64 (rd_T45 l1 (q : Int)).f1.f0) := (blk_cell (blk_alloc BK10.out _) 0).trans rfl
      have z1 : (w1.alloc (.cells #[.int .i64 (M.zN (rd_T45 l1 (q : Int)).f1.f0 (M.can (rd_T45 l1 (q : Int)).f1.f1)), .slice Ax (M.can (rd_T45 l1 (q : Int)).f1.f1).length cx] 43)).cell? ⟨wr.heap.size, 1, none⟩ = some (.slice A3_3 (rd_T45 l1 (q : Int)).f1.f1.length c3_3) := (blk_cell (blk_alloc BK10.out _) 1).trans rfl
      clear hR hb
      go_wp2_with fail
      refine (level_Bound.calls kB (rd_T45 l1 (q : Int)).f1.f0 _ _ (rd_T45 l1 (q : Int)).f1.f1 rB _ (Kd.C_alloc hcC1 _) hl3_3 hB).mono ?_
      rintro e w2 ⟨rfl, hb⟩
      replace BK101 := bb_ BK101 hb
      replace BK102 := bb_ BK102 hb
      replace HB := hs_ HB hb
      clear hb z0 z1 BK10
      have hgt : (rB > a0) = False := by simp; omega
      go_wp2
      go_roundw
      case rel => exact ⟨1+1, by omega, by go_num, BK101, BK102, HB⟩
      case measure => simp [intOf]
    ·go_wp2
     refine ⟨⟨q + 1, by omega, by go_num, BK101, BK102, HB⟩, ?_⟩
     simp [intOf]; omega
  ·go_wp2
   go_loopg [52] k (fun kq v52 w' => ∃ (x52_1 : Int) (x103000_1 : List (S101)) (u103000 : Value), v52 = .int .i64 x52_1 ∧ Aside0 (lsolve_ask.l0 kq l1 (l1.length : Int) x52_1 x103000_1 = some (r1, r2)) ∧ Aside0 (kq ≤ k) ∧ Aside0 (Kd.S k101 101 w' w.heap.size (fun _ => True) u103000 x103000_1) ∧ Aside0 (w'.heap[gb101]? = some (.cells #[(.slice none 0 0)] 94 (0, 0))) ∧ Aside0 (w'.heap[gb102]? = some (.cells #[u103000] 94 (0, 0))) ∧ Aside0 (Below w.heap.size w w'))
   case atStart => exact ⟨(0), (([] : List (S101))), (.slice none 0 0), (by first | rfl | (simp; done) | (simp [*]; done)), H', ⟨Nat.le_refl _⟩, ⟨by first | exact Kd.S_nil _ _ _ _ _ | exact Kd.N_nil _ _ _ _ _ | exact Kd.V_nil _ _ _ _ _ | exact Kd.Q_nil _ _ _ _ _ | exact Kd.R_nil _ _ _ _ _⟩, BK101, BK102, ⟨by repeat (first | (with_reducible first | exact HB.out | apply below_alloc | apply pw_below_drewN | apply below_drew1 | refine below_set ?_ GE101.out | refine below_set ?_ GE102.out) | exact HB.out)⟩⟩
   case round =>
    clear H'
    (try clear c1); (try clear p2); (try clear c5); (try clear hcz6_0); (try clear hfz6_0)
    obtain ⟨x52_1, x103000_1, u103000, rfl, HA, HK1, HO_103000, BK101, BK102, HB⟩ := hrel
    cases gk with
    | zero => exact absurd HA.out (by simp [lsolve_ask.l0])
    | succ k1 =>
     have H := HA.out
     clear HA
     simp only [lsolve_ask.l0] at H
     by_cases c7 : x52_1 < (l1.length : Int)
     ·rw [if_pos c7] at H
      have c7b0 : decide (x52_1 < (l1.length : Int)) = true := decide_eq_true c7
      clear c7
      by_cases c8 : 0 ≤ x52_1
      ·rw [if_pos c8] at H
       have c8b0 : decide (0 ≤ x52_1) = true := decide_eq_true c8
       clear c8
       by_cases c9 : x52_1 < (l1.length : Int)
       ·rw [if_pos c9] at H
        have c9b0 : decide (x52_1 < (l1.length : Int)) = true := decide_eq_true c9
        clear c9
        replace H := Option.bind_eq_some_iff.mp H
        obtain ⟨⟨t105, t106, t109⟩, A100, H⟩ := H
        replace H : ((level_Norm.f k1 ((rd_T45 l1 x52_1).f1.f0) ((rd_T45 l1 x52_1).f1.f1)).bind fun bt111 => (if (bt111.2.1.length : Int) = 0 then (if x103000_1.length < 2932031007402 then (lsolve_ask.l0 k1 l1 (l1.length : Int) (wrap64 (x52_1 + 1)) (x103000_1 ++ [(⟨(⟨t105, t106⟩ : S43), (-1), bt111.1⟩ : S101)])) else (none)) else (if (bt111.2.1.length : Int) = 1 then (if bt111.1 = 0 then (if 0 < (bt111.2.1.length : Int) then (if x103000_1.length < 2932031007402 then (lsolve_ask.l0 k1 l1 (l1.length : Int) (wrap64 (x52_1 + 1)) (x103000_1 ++ [(⟨(⟨t105, t106⟩ : S43), (rd_T62 bt111.2.1 0).f0, (rd_T62 bt111.2.1 0).f1⟩ : S101)])) else (none)) else (none)) else (some (x103000_1, 1))) else (some (x103000_1, 1))))) = some (r1, r2) := H
        have A10 := Aside0.mk A100
        clear A100
        replace H := Option.bind_eq_some_iff.mp H
        obtain ⟨⟨t111, t112, t115⟩, A110, H⟩ := H
        replace H : (if (t112.length : Int) = 0 then (if x103000_1.length < 2932031007402 then (lsolve_ask.l0 k1 l1 (l1.length : Int) (wrap64 (x52_1 + 1)) (x103000_1 ++ [(⟨(⟨t105, t106⟩ : S43), (-1), t111⟩ : S101)])) else (none)) else (if (t112.length : Int) = 1 then (if t111 = 0 then (if 0 < (t112.length : Int) then (if x103000_1.length < 2932031007402 then (lsolve_ask.l0 k1 l1 (l1.length : Int) (wrap64 (x52_1 + 1)) (x103000_1 ++ [(⟨(⟨t105, t106⟩ : S43), (rd_T62 t112 0).f0, (rd_T62 t112 0).f1⟩ : S101)])) else (none)) else (none)) else (some (x103000_1, 1))) else (some (x103000_1, 1)))) = some (r1, r2) := H
        have A11 := Aside0.mk A110
        clear A110
        by_cases c12 : (t112.length : Int) = 0
        ·rw [if_pos c12] at H
         have c12b0 : ((t112.length : Int) == 0) = true := beq_iff_eq.mpr c12
         have c12b1 : ((t112.length : Int) != 0) = false := bne_eq_false_iff_eq.mpr c12
         clear c12
         by_cases c13 : x103000_1.length < 2932031007402
         ·rw [if_pos c13] at H
          have LMc13 := Aside0.mk c13
          clear c13
          obtain ⟨y117, hy117⟩ : ∃ y_ : List (S101), y_ = (x103000_1 ++ [(⟨(⟨t105, t106⟩ : S43), (-1), t111⟩ : S101)]) := ⟨_, rfl⟩
          replace H : (lsolve_ask.l0 k1 l1 (l1.length : Int) (wrap64 (x52_1 + 1)) y117) = some (r1, r2) := by first | (rw [hy117]; with_reducible exact H) | (have H2_ := (Option.bind_some _ _).symm.trans H; rw [hy117]; with_reducible exact H2_) | (have H2_ := (Option.bind_some _ _).symm.trans H; with_reducible exact H2_) | with_reducible exact H | (rw [hy117]; exact H) | exact H
          have Ny117 := Aside0.mk hy117
          clear hy117
          have H' := Aside0.mk H
          clear H
          have p103 : 0 ≤ (x52_1 : Int) := of_decide_eq_true (by first | (with_reducible assumption) | assumption)
          have q103 : x52_1 < (l1.length : Int) := of_decide_eq_true (by first | (with_reducible assumption) | assumption)
          obtain ⟨ad103, A103_1, c103_1, A103_3, c103_3, e103, hx103_0, hx103_1, hx103_2, hx103_3, hl103_1, hi103_1, hl103_3, hi103_3⟩ := at_T45 HR1.out x52_1 p103 q103
          cases e103
          replace hx103_0 := (HB.out.cell (World.block_lt_of_cell? w _ hx103_0)).trans hx103_0
          replace hx103_1 := (HB.out.cell (World.block_lt_of_cell? w _ hx103_1)).trans hx103_1
          replace hx103_2 := (HB.out.cell (World.block_lt_of_cell? w _ hx103_2)).trans hx103_2
          replace hx103_3 := (HB.out.cell (World.block_lt_of_cell? w _ hx103_3)).trans hx103_3
          have HR103_1 := Aside0.mk hi103_1
          have HC103_1 := Aside0.mk hl103_1
          clear hi103_1 hl103_1
          have HR103_3 := Aside0.mk hi103_3
          have HC103_3 := Aside0.mk hl103_3
          clear hi103_3 hl103_3
          replace p103 := eq_true p103
          replace q103 := eq_true q103
          go_wp2_with (first | ((with_reducible refine gate_dst (N := 14) rfl ?_); refine box_event ?hg (N := 14) ?hd (cs := #[.int .i64 0, .slice none 0 0, .int .i64 0, .slice none 0 0]) (t := 45) ?hr ?_; (case hd => rfl); (case hg => rfl); (case hr => first | (go_simp; done) | (go_simp; rfl)); intro gb104 hg w14 hbox hb; have BK104 := Aside0.mk (hbox); have GW104 := Aside0.mk ((bs_ hg HB : w.heap.size ≤ gb104)); have GE104 := Aside0.mk ((bs_ hg HB : w.heap.size ≤ gb104)); have NB101_104 := Aside0.mk ((nl_ hg BK101 : gb101 ≠ gb104)); have NB104_101 := Aside0.mk ((ng_ hg BK101 : gb104 ≠ gb101)); have NB102_104 := Aside0.mk ((nl_ hg BK102 : gb102 ≠ gb104)); have NB104_102 := Aside0.mk ((ng_ hg BK102 : gb104 ≠ gb102)); replace HO_103000 := Aside0.mk (Kd.S_below (by (with_reducible repeat (first | apply Kd.S_alloc | apply Kd.S_drewN | apply Kd.S_drew)); exact HO_103000.out) hb); replace BK101 := bb_ BK101 hb; replace BK102 := bb_ BK102 hb; replace HB := hs_ HB hb; clear hb hbox hg; have hnb15 := NB104_101.out; have hnc15 := NB101_104.out; have hnb16 := NB104_102.out; have hnc16 := NB102_104.out; have hcz17_0 : w14.cell? ⟨gb104, 0, none⟩ = some (.int .i64 0) := (blk_cell BK104.out 0).trans rfl; have hcz17_1 : w14.cell? ⟨gb104, 1, none⟩ = some (.slice none 0 0) := (blk_cell BK104.out 1).trans rfl; have hcz17_2 : w14.cell? ⟨gb104, 2, none⟩ = some (.int .i64 0) := (blk_cell BK104.out 2).trans rfl; have hcz17_3 : w14.cell? ⟨gb104, 3, none⟩ = some (.slice none 0 0) := (blk_cell BK104.out 3).trans rfl; have hfz17_0 := blk_frozen BK104.out 0; have hfz17_1 := blk_frozen BK104.out 1; have hfz17_2 := blk_frozen BK104.out 2; have hfz17_3 := blk_frozen BK104.out 3) | ((with_reducible refine gate_callee (f := 40) rfl ?_); refine goesL_ (some 59) rfl rfl Try.func40 (by kernel_rfl) rfl #[.agg #[.int .i64 ((rd_T45 l1 x52_1).f0.f0), .slice A103_1 ((rd_T45 l1 x52_1).f0.f1).length c103_1]] rfl (by (try simp only [List.map_toArray, List.map_cons, List.map_nil]); first | done | rfl | (simp only [List.length_drop, List.length_take]; rfl)) ?_; (with_reducible refine (level_Norm.calls k1 ((rd_T45 l1 x52_1).f0.f0) _ _ ((rd_T45 l1 x52_1).f0.f1) t105 t106 t109 _ ?side1 ?side2 A10.out).mono ?_); (case side1 => exact Kd.C_below HR103_1.out (bl_ HB)); (case side2 => exact HC103_1.out); rintro e w18 ⟨v107, rfl, ho0, hb⟩; refine ⟨_, rfl, ?_⟩; have HO108 := Aside0.mk (Kd.R_lower ho0 (below_size (bl_ HB))); replace HO_103000 := Aside0.mk (Kd.S_elder' (by (with_reducible repeat (first | apply Kd.S_alloc | apply Kd.S_drewN | apply Kd.S_drew)); exact (Kd.S_mono (Kd.S_far (p := ⟨gb104, 3, none⟩) (Kd.S_far (p := ⟨gb104, 2, none⟩) (Kd.S_far (p := ⟨gb104, 1, none⟩) (Kd.S_far (p := ⟨gb104, 0, none⟩) (Kd.S_types HO_103000.out BK104.out (by decide)) (fun _ hk => hk.2) (.int .i64 ((rd_T45 l1 x52_1).f0.f0))) (fun _ hk => hk.2) (.slice A103_1 ((rd_T45 l1 x52_1).f0.f1).length c103_1)) (fun _ hk => hk.2) (.int .i64 ((rd_T45 l1 x52_1).f1.f0))) (fun _ hk => hk.2) (.slice A103_3 ((rd_T45 l1 x52_1).f1.f1).length c103_3)) (fun _ h_ => h_.1))) (Kd.R_base ho0) hb); replace BK101 := Aside0.mk (blk_below (pf_ BK101) hb); replace BK102 := Aside0.mk (blk_below (pf_ BK102) hb); replace BK104 := Aside0.mk (blk_below (g := gb104) (o := .cells #[.int .i64 ((rd_T45 l1 x52_1).f0.f0), .slice A103_1 ((rd_T45 l1 x52_1).f0.f1).length c103_1, .int .i64 ((rd_T45 l1 x52_1).f1.f0), .slice A103_3 ((rd_T45 l1 x52_1).f1.f1).length c103_3] 45 (0, 0)) (by (with_reducible repeat (first | refine blk_drewN ?_ _ | refine blk_drew ?_ | refine blk_alloc ?_ _)); refine blk_put (cs := #[.int .i64 ((rd_T45 l1 x52_1).f0.f0), .slice A103_1 ((rd_T45 l1 x52_1).f0.f1).length c103_1, .int .i64 ((rd_T45 l1 x52_1).f1.f0), .slice none 0 0]) ?_ 3 _ rfl; (with_reducible repeat (first | refine blk_drewN ?_ _ | refine blk_drew ?_ | refine blk_alloc ?_ _)); refine blk_put (cs := #[.int .i64 ((rd_T45 l1 x52_1).f0.f0), .slice A103_1 ((rd_T45 l1 x52_1).f0.f1).length c103_1, .int .i64 0, .slice none 0 0]) ?_ 2 _ rfl; (with_reducible repeat (first | refine blk_drewN ?_ _ | refine blk_drew ?_ | refine blk_alloc ?_ _)); refine blk_put (cs := #[.int .i64 ((rd_T45 l1 x52_1).f0.f0), .slice none 0 0, .int .i64 0, .slice none 0 0]) ?_ 1 _ rfl; (with_reducible repeat (first | refine blk_drewN ?_ _ | refine blk_drew ?_ | refine blk_alloc ?_ _)); refine blk_put (cs := #[.int .i64 0, .slice none 0 0, .int .i64 0, .slice none 0 0]) ?_ 0 _ rfl; (with_reducible repeat (first | refine blk_drewN ?_ _ | refine blk_drew ?_ | refine blk_alloc ?_ _)); exact BK104.out) hb); replace HB := hs_ HB hb; (try clear hb); (try clear hb2); (try clear hk); (try clear hi); (try clear ho0)) | ((with_reducible refine gate_dst (N := 15) rfl ?_); refine box_event ?hg (N := 15) ?hd (cs := #[.int .i64 0, .slice none 0 0]) (t := 43) ?hr ?_; (case hd => rfl); (case hg => rfl); (case hr => first | (go_simp; done) | (go_simp; rfl)); intro gb110 hg w19 hbox hb; have BK110 := Aside0.mk (hbox); have GW110 := Aside0.mk ((bs_ hg HB : w.heap.size ≤ gb110)); have GE110 := Aside0.mk ((bs_ hg HB : w.heap.size ≤ gb110)); have NB101_110 := Aside0.mk ((nl_ hg BK101 : gb101 ≠ gb110)); have NB110_101 := Aside0.mk ((ng_ hg BK101 : gb110 ≠ gb101)); have NB102_110 := Aside0.mk ((nl_ hg BK102 : gb102 ≠ gb110)); have NB110_102 := Aside0.mk ((ng_ hg BK102 : gb110 ≠ gb102)); have NB104_110 := Aside0.mk ((nl_ hg BK104 : gb104 ≠ gb110)); have NB110_104 := Aside0.mk ((ng_ hg BK104 : gb110 ≠ gb104)); replace HO_103000 := Aside0.mk (Kd.S_below (by (with_reducible repeat (first | apply Kd.S_alloc | apply Kd.S_drewN | apply Kd.S_drew)); exact HO_103000.out) hb); replace HO108 := Aside0.mk (Kd.R_below (rl_ HO108) hb); replace BK101 := bb_ BK101 hb; replace BK102 := bb_ BK102 hb; replace BK104 := bb_ BK104 hb; replace HB := hs_ HB hb; clear hb hbox hg; have hnb20 := NB110_101.out; have hnc20 := NB101_110.out; have hnb21 := NB110_102.out; have hnc21 := NB102_110.out; have hnb22 := NB110_104.out; have hnc22 := NB104_110.out; have hcz23_0 : w19.cell? ⟨gb110, 0, none⟩ = some (.int .i64 0) := (blk_cell BK110.out 0).trans rfl; have hcz23_1 : w19.cell? ⟨gb110, 1, none⟩ = some (.slice none 0 0) := (blk_cell BK110.out 1).trans rfl; have hfz23_0 := blk_frozen BK110.out 0; have hfz23_1 := blk_frozen BK110.out 1; obtain ⟨Ao24, co24, eo24⟩ := Kd.R_slice HO108.out; subst eo24; have hcz25_0 : w19.cell? ⟨gb104, 0, none⟩ = some (.int .i64 ((rd_T45 l1 x52_1).f0.f0)) := (blk_cell BK104.out 0).trans rfl; have hcz25_1 : w19.cell? ⟨gb104, 1, none⟩ = some (.slice A103_1 ((rd_T45 l1 x52_1).f0.f1).length c103_1) := (blk_cell BK104.out 1).trans rfl; have hcz25_2 : w19.cell? ⟨gb104, 2, none⟩ = some (.int .i64 ((rd_T45 l1 x52_1).f1.f0)) := (blk_cell BK104.out 2).trans rfl; have hcz25_3 : w19.cell? ⟨gb104, 3, none⟩ = some (.slice A103_3 ((rd_T45 l1 x52_1).f1.f1).length c103_3) := (blk_cell BK104.out 3).trans rfl; have hfz25_0 := blk_frozen BK104.out 0; have hfz25_1 := blk_frozen BK104.out 1; have hfz25_2 := blk_frozen BK104.out 2; have hfz25_3 := blk_frozen BK104.out 3) | ((with_reducible refine gate_callee (f := 40) rfl ?_); refine goesL_ (some 65) rfl rfl Try.func40 (by kernel_rfl) rfl #[.agg #[.int .i64 ((rd_T45 l1 x52_1).f1.f0), .slice A103_3 ((rd_T45 l1 x52_1).f1.f1).length c103_3]] rfl (by (try simp only [List.map_toArray, List.map_cons, List.map_nil]); first | done | rfl | (simp only [List.length_drop, List.length_take]; rfl)) ?_; (with_reducible refine (level_Norm.calls k1 ((rd_T45 l1 x52_1).f1.f0) _ _ ((rd_T45 l1 x52_1).f1.f1) t111 t112 t115 _ ?side1 ?side2 A11.out).mono ?_); (case side1 => exact Kd.C_below HR103_3.out (bl_ HB)); (case side2 => exact HC103_3.out); rintro e w26 ⟨v113, rfl, ho0, hb⟩; refine ⟨_, rfl, ?_⟩; have HO114 := Aside0.mk (Kd.R_lower (Kd.R_new' ho0 (Kd.R_lt (by (with_reducible repeat (first | apply Kd.R_alloc | apply Kd.R_drewN | apply Kd.R_drew)); exact (Kd.R_mono (Kd.R_far (p := ⟨gb110, 1, none⟩) (Kd.R_far (p := ⟨gb110, 0, none⟩) (Kd.R_types HO108.out BK110.out (by decide)) (fun _ hk => hk.2) (.int .i64 t105)) (fun _ hk => hk.2) (.slice Ao24 t106.length co24)) (fun _ h_ => h_.1))))) (below_size (bl_ HB))); replace HO_103000 := Aside0.mk (Kd.S_elder' (by (with_reducible repeat (first | apply Kd.S_alloc | apply Kd.S_drewN | apply Kd.S_drew)); exact (Kd.S_mono (Kd.S_far (p := ⟨gb110, 1, none⟩) (Kd.S_far (p := ⟨gb110, 0, none⟩) (Kd.S_types HO_103000.out BK110.out (by decide)) (fun _ hk => hk.2) (.int .i64 t105)) (fun _ hk => hk.2) (.slice Ao24 t106.length co24)) (fun _ h_ => h_.1))) (Kd.R_base ho0) hb); replace HO108 := Aside0.mk (Kd.R_elder' (by (with_reducible repeat (first | apply Kd.R_alloc | apply Kd.R_drewN | apply Kd.R_drew)); exact (Kd.R_mono (Kd.R_far (p := ⟨gb110, 1, none⟩) (Kd.R_far (p := ⟨gb110, 0, none⟩) (Kd.R_types HO108.out BK110.out (by decide)) (fun _ hk => hk.2) (.int .i64 t105)) (fun _ hk => hk.2) (.slice Ao24 t106.length co24)) (fun _ h_ => h_.1))) (Kd.R_base ho0) hb); replace BK101 := Aside0.mk (blk_below (pf_ BK101) hb); replace BK102 := Aside0.mk (blk_below (pf_ BK102) hb); replace BK104 := Aside0.mk (blk_below (pf_ BK104) hb); replace BK110 := Aside0.mk (blk_below (g := gb110) (o := .cells #[.int .i64 t105, .slice Ao24 t106.length co24] 43 (0, 0)) (by (with_reducible repeat (first | refine blk_drewN ?_ _ | refine blk_drew ?_ | refine blk_alloc ?_ _)); refine blk_put (cs := #[.int .i64 t105, .slice none 0 0]) ?_ 1 _ rfl; (with_reducible repeat (first | refine blk_drewN ?_ _ | refine blk_drew ?_ | refine blk_alloc ?_ _)); refine blk_put (cs := #[.int .i64 0, .slice none 0 0]) ?_ 0 _ rfl; (with_reducible repeat (first | refine blk_drewN ?_ _ | refine blk_drew ?_ | refine blk_alloc ?_ _)); exact BK110.out) hb); replace HB := hs_ HB hb; (try clear hb); (try clear hb2); (try clear hk); (try clear hi); (try clear ho0)) | ((with_reducible refine gate_dst (N := 17) rfl ?_); refine box_event ?hg (N := 17) ?hd (cs := #[.int .i64 0, .slice none 0 0]) (t := 43) ?hr ?_; (case hd => rfl); (case hg => rfl); (case hr => first | (go_simp; done) | (go_simp; rfl)); intro gb116 hg w27 hbox hb; have BK116 := Aside0.mk (hbox); have GW116 := Aside0.mk ((bs_ hg HB : w.heap.size ≤ gb116)); have GE116 := Aside0.mk ((bs_ hg HB : w.heap.size ≤ gb116)); have NB101_116 := Aside0.mk ((nl_ hg BK101 : gb101 ≠ gb116)); have NB116_101 := Aside0.mk ((ng_ hg BK101 : gb116 ≠ gb101)); have NB102_116 := Aside0.mk ((nl_ hg BK102 : gb102 ≠ gb116)); have NB116_102 := Aside0.mk ((ng_ hg BK102 : gb116 ≠ gb102)); have NB104_116 := Aside0.mk ((nl_ hg BK104 : gb104 ≠ gb116)); have NB116_104 := Aside0.mk ((ng_ hg BK104 : gb116 ≠ gb104)); have NB110_116 := Aside0.mk ((nl_ hg BK110 : gb110 ≠ gb116)); have NB116_110 := Aside0.mk ((ng_ hg BK110 : gb116 ≠ gb110)); replace HO_103000 := Aside0.mk (Kd.S_below (by (with_reducible repeat (first | apply Kd.S_alloc | apply Kd.S_drewN | apply Kd.S_drew)); exact HO_103000.out) hb); replace HO108 := Aside0.mk (Kd.R_below (rl_ HO108) hb); replace HO114 := Aside0.mk (Kd.R_below (rl_ HO114) hb); replace BK101 := bb_ BK101 hb; replace BK102 := bb_ BK102 hb; replace BK104 := bb_ BK104 hb; replace BK110 := bb_ BK110 hb; replace HB := hs_ HB hb; clear hb hbox hg; have hnb28 := NB116_101.out; have hnc28 := NB101_116.out; have hnb29 := NB116_102.out; have hnc29 := NB102_116.out; have hnb30 := NB116_104.out; have hnc30 := NB104_116.out; have hnb31 := NB116_110.out; have hnc31 := NB110_116.out; have hcz32_0 : w27.cell? ⟨gb116, 0, none⟩ = some (.int .i64 0) := (blk_cell BK116.out 0).trans rfl; have hcz32_1 : w27.cell? ⟨gb116, 1, none⟩ = some (.slice none 0 0) := (blk_cell BK116.out 1).trans rfl; have hfz32_0 := blk_frozen BK116.out 0; have hfz32_1 := blk_frozen BK116.out 1; obtain ⟨Ao33, co33, eo33⟩ := Kd.R_slice HO114.out; subst eo33) | ((with_reducible refine gate_store (t := 43) (p := 17) rfl ?_); refine store_event (t := 43) (p := 17) (v := ?vo_w34) (w1 := ((w27.setCell ⟨gb116, 0, none⟩ (.int .i64 t111)).setCell ⟨gb116, 1, none⟩ (.slice Ao33 t112.length co33))) ?hg ?ho ?hn ?hr ?_; (case ho => rfl); (case hg => rfl); (case hn => rfl); (case hr => first | (go_simp; done) | (go_simp; rfl)); intro w34 hw; have n0_ : Aside0 (Kd.S k101 101 w34 w.heap.size (fun k_ => some k_ ≠ (.slice Ao24 t106.length co24 : Value).ownBlock ∧ some k_ ≠ (.slice Ao33 t112.length co33 : Value).ownBlock) u103000 x103000_1) := ⟨(by rw [hw]; exact (by (with_reducible repeat (first | apply Kd.S_alloc | apply Kd.S_drewN | apply Kd.S_drew)); exact Kd.S_mono (Kd.S_far (p := ⟨gb116, 1, none⟩) (Kd.S_far (p := ⟨gb116, 0, none⟩) (Kd.S_types HO_103000.out BK116.out (by decide)) (fun _ hk => hk.2) (.int .i64 t111)) (fun _ hk => hk.2) (.slice Ao33 t112.length co33)) (fun _ hk => ⟨hk.1.1.2, hk.1.2⟩)))⟩; have n1_ : Aside0 (Kd.R k62 62 w34 w.heap.size (fun k_ => some k_ ≠ (.slice Ao33 t112.length co33 : Value).ownBlock) (.slice Ao24 t106.length co24) t106) := ⟨(by rw [hw]; exact (by (with_reducible repeat (first | apply Kd.R_alloc | apply Kd.R_drewN | apply Kd.R_drew)); exact Kd.R_mono (Kd.R_far (p := ⟨gb116, 1, none⟩) (Kd.R_far (p := ⟨gb116, 0, none⟩) (Kd.R_types HO108.out BK116.out (by decide)) (fun _ hk => hk.2) (.int .i64 t111)) (fun _ hk => hk.2) (.slice Ao33 t112.length co33)) (fun _ hk => hk.1.2)))⟩; have n2_ : Aside0 (Kd.R k62 62 w34 w.heap.size (fun k_ => some k_ ≠ (.slice Ao24 t106.length co24 : Value).ownBlock) (.slice Ao33 t112.length co33) t112) := ⟨(by rw [hw]; exact (by (with_reducible repeat (first | apply Kd.R_alloc | apply Kd.R_drewN | apply Kd.R_drew)); exact Kd.R_mono (Kd.R_far (p := ⟨gb116, 1, none⟩) (Kd.R_far (p := ⟨gb116, 0, none⟩) (Kd.R_types HO114.out BK116.out (by decide)) (fun _ hk => hk.2) (.int .i64 t111)) (fun _ hk => hk.2) (.slice Ao33 t112.length co33)) (fun _ hk => hk.1.2)))⟩; have n3_ : Aside0 (w34.heap[gb101]? = some (.cells #[.slice none 0 0] 94 (0, 0))) := ⟨(by rw [hw]; exact (pf_ BK101))⟩; have n4_ : Aside0 (w34.heap[gb102]? = some (.cells #[u103000] 94 (0, 0))) := ⟨(by rw [hw]; exact (pf_ BK102))⟩; have n5_ : Aside0 (w34.heap[gb104]? = some (.cells #[.int .i64 ((rd_T45 l1 x52_1).f0.f0), .slice A103_1 ((rd_T45 l1 x52_1).f0.f1).length c103_1, .int .i64 ((rd_T45 l1 x52_1).f1.f0), .slice A103_3 ((rd_T45 l1 x52_1).f1.f1).length c103_3] 45 (0, 0))) := ⟨(by rw [hw]; exact (pf_ BK104))⟩; have n6_ : Aside0 (w34.heap[gb110]? = some (.cells #[.int .i64 t105, .slice Ao24 t106.length co24] 43 (0, 0))) := ⟨(by rw [hw]; exact (pf_ BK110))⟩; have n7_ : Aside0 (w34.heap[gb116]? = some (.cells #[.int .i64 t111, .slice Ao33 t112.length co33] 43 (0, 0))) := ⟨(by rw [hw]; exact (by (with_reducible repeat (first | refine blk_drewN ?_ _ | refine blk_drew ?_ | refine blk_alloc ?_ _)); refine blk_put (cs := #[.int .i64 t111, .slice none 0 0]) ?_ 1 _ rfl; (with_reducible repeat (first | refine blk_drewN ?_ _ | refine blk_drew ?_ | refine blk_alloc ?_ _)); refine blk_put (cs := #[.int .i64 0, .slice none 0 0]) ?_ 0 _ rfl; (with_reducible repeat (first | refine blk_drewN ?_ _ | refine blk_drew ?_ | refine blk_alloc ?_ _)); exact BK116.out))⟩; have n8_ : Aside0 (Below w.heap.size w w34) := ⟨(by rw [hw]; exact (bl_ HB))⟩; clear hw; clear HO_103000; clear HO108; clear HO114; clear BK101; clear BK102; clear BK104; clear BK110; clear BK116; clear HB; have HO_103000 := n0_; have HO108 := n1_; have HO114 := n2_; have BK101 := n3_; have BK102 := n4_; have BK104 := n5_; have BK110 := n6_; have BK116 := n7_; have HB := n8_; clear n0_ n1_ n2_ n3_ n4_ n5_ n6_ n7_ n8_; have hcz35_0 : w34.cell? ⟨gb116, 0, none⟩ = some (.int .i64 t111) := (blk_cell BK116.out 0).trans rfl; have hcz35_1 : w34.cell? ⟨gb116, 1, none⟩ = some (.slice Ao33 t112.length co33) := (blk_cell BK116.out 1).trans rfl; have hfz35_0 := blk_frozen BK116.out 0; have hfz35_1 := blk_frozen BK116.out 1; have hnb36 := NB102_101.out; have hnc36 := NB101_102.out; have hcz37_0 : w34.cell? ⟨gb102, 0, none⟩ = some (u103000) := (blk_cell BK102.out 0).trans rfl; have hfz37_0 := blk_frozen BK102.out 0; have hcz38_0 : w34.cell? ⟨gb110, 0, none⟩ = some (.int .i64 t105) := (blk_cell BK110.out 0).trans rfl; have hcz38_1 : w34.cell? ⟨gb110, 1, none⟩ = some (.slice Ao24 t106.length co24) := (blk_cell BK110.out 1).trans rfl; have hfz38_0 := blk_frozen BK110.out 0; have hfz38_1 := blk_frozen BK110.out 1) | ((with_reducible refine gate_builtin (b := .append) (xs := #[.tmp 75, .tmp 80]) rfl ?_); at_builtin; refine Kd.S_append k101 (w0 := w) w.heap.size rfl (.tmp 75) (.tmp 80) 92 101 (.agg #[(.int .i64 0), (.slice none 0 0), (.int .i64 0), (.int .i64 0)]) 48 rfl Try.underlying92 info101 rfl (by decide) (by omega) u103000 x103000_1 (⟨(⟨t105, t106⟩ : S43), (-1), t111⟩ : S101) [.int .i64 t105, .slice Ao24 t106.length co24, .int .i64 (-1), .int .i64 t111] (fun k_ => some k_ ≠ (.slice Ao33 t112.length co33 : Value).ownBlock) (fun k_ => some k_ = (.slice Ao24 t106.length co24 : Value).ownBlock) rfl rfl ?aP (fun k_ hk_ => ((Kd.R_mono (ok' := fun k_ => ((fun k_ => some k_ ≠ (.slice Ao33 t112.length co33 : Value).ownBlock)) k_ ∧ some k_ ≠ (u103000 : Value).ownBlock) (Kd.R_apart' (HO108.out) (Kd.S_typed HO_103000.out) (by decide)) (fun k_ hk => ⟨hk.1, hk.2⟩))).1 k_ hk_.symm) ?aF ?aO ?aB ?aS ?aL ?_; (case aP => exact k101_mkM _ _ _ (⟨(⟨t105, t106⟩ : S43), (-1), t111⟩ : S101) (Kd.R_mono (Kd.R_tight rfl (Kd.R_mono (ok' := fun k_ => ((fun k_ => some k_ ≠ (.slice Ao33 t112.length co33 : Value).ownBlock)) k_ ∧ some k_ ≠ (u103000 : Value).ownBlock) (Kd.R_apart' (HO108.out) (Kd.S_typed HO_103000.out) (by decide)) (fun k_ hk => ⟨hk.1, hk.2⟩))) (fun _ h_ => h_))); (case aB => exact (bl_ HB)); (case aF => exact (fun k_ hk => Kd.fresh' (Kd.R_lt (rl_ HO114)) k_ hk)); (case aO => exact (by (with_reducible repeat (first | apply Kd.S_alloc | apply Kd.S_drewN | apply Kd.S_drew)); exact Kd.S_mono HO_103000.out (fun k_ hk => ⟨hk.2, fun e_ => hk.1 e_⟩))); (case aS => exact (below_size (bl_ HB))); (case aL => have := LMc13.out; omega); intro v118 w39 ho hb hg hat; rw [← Ny117.out] at ho; have HO119 := Aside0.mk (ho); replace BK101 := Aside0.mk (blk_grown (g := gb101) (o := .cells #[.slice none 0 0] 94 (0, 0)) (pl_ BK101) hg (Kd.S_ne HO_103000.out BK101.out (by decide))); replace BK102 := Aside0.mk (blk_grown (g := gb102) (o := .cells #[u103000] 94 (0, 0)) (pl_ BK102) hg (Kd.S_ne HO_103000.out BK102.out (by decide))); replace BK104 := Aside0.mk (blk_grown (g := gb104) (o := .cells #[.int .i64 ((rd_T45 l1 x52_1).f0.f0), .slice A103_1 ((rd_T45 l1 x52_1).f0.f1).length c103_1, .int .i64 ((rd_T45 l1 x52_1).f1.f0), .slice A103_3 ((rd_T45 l1 x52_1).f1.f1).length c103_3] 45 (0, 0)) (pl_ BK104) hg (Kd.S_ne HO_103000.out BK104.out (by decide))); replace BK110 := Aside0.mk (blk_grown (g := gb110) (o := .cells #[.int .i64 t105, .slice Ao24 t106.length co24] 43 (0, 0)) (pl_ BK110) hg (Kd.S_ne HO_103000.out BK110.out (by decide))); replace HO114 := Aside0.mk (Kd.R_over' (rl_ HO114) (Kd.S_typed (by (with_reducible repeat (first | apply Kd.S_alloc | apply Kd.S_drewN | apply Kd.S_drew)); exact HO_103000.out)) (by decide) hg); replace BK116 := Aside0.mk (blk_grown (g := gb116) (o := .cells #[.int .i64 t111, .slice Ao33 t112.length co33] 43 (0, 0)) (pl_ BK116) hg (Kd.S_ne HO_103000.out BK116.out (by decide))); replace HB := Aside0.mk (hb); clear HO_103000; clear HO108; clear ho hb hg hat; obtain ⟨Ao40, co40, eo40⟩ := Kd.S_slice HO119.out; subst eo40; have hcz41_0 : w39.cell? ⟨gb102, 0, none⟩ = some (u103000) := (blk_cell BK102.out 0).trans rfl; have hfz41_0 := blk_frozen BK102.out 0))
          go_roundg k1
          case measure => have := HK1.out; omega
          case rel => exact ⟨(wrap64 (x52_1 + 1)), (y117), (.slice Ao40 y117.length co40), (by first | rfl | (simp; done) | (simp [*]; done)), H', ⟨by have := HK1.out; omega⟩, ⟨by (with_reducible repeat (first | apply Kd.S_alloc | apply Kd.S_drewN | apply Kd.S_drew)); exact Kd.S_mono (Kd.S_far (p := ⟨gb102, 0, none⟩) (Kd.S_types HO119.out BK102.out (by decide)) (fun _ hk => hk.2) (.slice Ao40 y117.length co40)) (fun _ hk => trivial)⟩, ⟨by (with_reducible repeat (first | refine blk_drewN ?_ _ | refine blk_drew ?_ | refine blk_alloc ?_ _)); refine blk_far ?_ NB101_102.out _; (with_reducible repeat (first | refine blk_drewN ?_ _ | refine blk_drew ?_ | refine blk_alloc ?_ _)); exact BK101.out⟩, ⟨by (with_reducible repeat (first | refine blk_drewN ?_ _ | refine blk_drew ?_ | refine blk_alloc ?_ _)); refine blk_put (cs := #[u103000]) ?_ 0 _ rfl; (with_reducible repeat (first | refine blk_drewN ?_ _ | refine blk_drew ?_ | refine blk_alloc ?_ _)); exact BK102.out⟩, ⟨by repeat (first | (with_reducible first | exact HB.out | apply below_alloc | apply pw_below_drewN | apply below_drew1 | refine below_set ?_ GE101.out | refine below_set ?_ GE102.out | refine below_set ?_ GE104.out | refine below_set ?_ GE110.out | refine below_set ?_ GE116.out) | exact HB.out)⟩⟩
         ·rw [if_neg c13] at H
          exact absurd H (by simp)
        ·rw [if_neg c12] at H
         have c12b0 : ((t112.length : Int) == 0) = false := beq_eq_false_iff_ne.mpr c12
         have c12b1 : ((t112.length : Int) != 0) = true := bne_iff_ne.mpr c12
         have c12b2 : ¬ (t112 = []) := fun h_ => c12 (by rw [h_]; rfl)
         by_cases c42 : (t112.length : Int) = 1
         ·rw [if_pos c42] at H
          have c42b0 : ((t112.length : Int) == 1) = true := beq_iff_eq.mpr c42
          have c42b1 : ((t112.length : Int) != 1) = false := bne_eq_false_iff_eq.mpr c42
          clear c42
          by_cases c43 : t111 = 0
          ·rw [if_pos c43] at H
           have c43b0 : (t111 == 0) = true := beq_iff_eq.mpr c43
           have c43b1 : (t111 != 0) = false := bne_eq_false_iff_eq.mpr c43
           clear c43
           by_cases c44 : 0 < (t112.length : Int)
           ·rw [if_pos c44] at H
            have c44b0 : decide (0 < (t112.length : Int)) = true := decide_eq_true c44
            have c44b1 : decide (0 < t112.length) = true := decide_eq_true (by omega)
            clear c44
            by_cases c45 : x103000_1.length < 2932031007402
            ·rw [if_pos c45] at H
             have LMc45 := Aside0.mk c45
             clear c45
             obtain ⟨y122, hy122⟩ : ∃ y_ : List (S101), y_ = (x103000_1 ++ [(⟨(⟨t105, t106⟩ : S43), (rd_T62 t112 0).f0, (rd_T62 t112 0).f1⟩ : S101)]) := ⟨_, rfl⟩
             replace H : (lsolve_ask.l0 k1 l1 (l1.length : Int) (wrap64 (x52_1 + 1)) y122) = some (r1, r2) := by first | (rw [hy122]; with_reducible exact H) | (have H2_ := (Option.bind_some _ _).symm.trans H; rw [hy122]; with_reducible exact H2_) | (have H2_ := (Option.bind_some _ _).symm.trans H; with_reducible exact H2_) | with_reducible exact H | (rw [hy122]; exact H) | exact H
             have Ny122 := Aside0.mk hy122
             clear hy122
             have H' := Aside0.mk H
             clear H
             have p103 : 0 ≤ (x52_1 : Int) := of_decide_eq_true (by first | (with_reducible assumption) | assumption)
             have q103 : x52_1 < (l1.length : Int) := of_decide_eq_true (by first | (with_reducible assumption) | assumption)
             obtain ⟨ad103, A103_1, c103_1, A103_3, c103_3, e103, hx103_0, hx103_1, hx103_2, hx103_3, hl103_1, hi103_1, hl103_3, hi103_3⟩ := at_T45 HR1.out x52_1 p103 q103
             cases e103
             replace hx103_0 := (HB.out.cell (World.block_lt_of_cell? w _ hx103_0)).trans hx103_0
             replace hx103_1 := (HB.out.cell (World.block_lt_of_cell? w _ hx103_1)).trans hx103_1
             replace hx103_2 := (HB.out.cell (World.block_lt_of_cell? w _ hx103_2)).trans hx103_2
             replace hx103_3 := (HB.out.cell (World.block_lt_of_cell? w _ hx103_3)).trans hx103_3
             have HR103_1 := Aside0.mk hi103_1
             have HC103_1 := Aside0.mk hl103_1
             clear hi103_1 hl103_1
             have HR103_3 := Aside0.mk hi103_3
             have HC103_3 := Aside0.mk hl103_3
             clear hi103_3 hl103_3
             replace p103 := eq_true p103
             replace q103 := eq_true q103
             try go_wp2_with (first | ((with_reducible refine gate_dst (N := 14) rfl ?_); refine box_event ?hg (N := 14) ?hd (cs := #[.int .i64 0, .slice none 0 0, .int .i64 0, .slice none 0 0]) (t := 45) ?hr ?_; (case hd => rfl); (case hg => rfl); (case hr => first | (go_simp; done) | (go_simp; rfl)); intro gb104 hg w46 hbox hb; have BK104 := Aside0.mk (hbox); have GW104 := Aside0.mk ((bs_ hg HB : w.heap.size ≤ gb104)); have GE104 := Aside0.mk ((bs_ hg HB : w.heap.size ≤ gb104)); have NB101_104 := Aside0.mk ((nl_ hg BK101 : gb101 ≠ gb104)); have NB104_101 := Aside0.mk ((ng_ hg BK101 : gb104 ≠ gb101)); have NB102_104 := Aside0.mk ((nl_ hg BK102 : gb102 ≠ gb104)); have NB104_102 := Aside0.mk ((ng_ hg BK102 : gb104 ≠ gb102)); replace HO_103000 := Aside0.mk (Kd.S_below (by (with_reducible repeat (first | apply Kd.S_alloc | apply Kd.S_drewN | apply Kd.S_drew)); exact HO_103000.out) hb); replace BK101 := bb_ BK101 hb; replace BK102 := bb_ BK102 hb; replace HB := hs_ HB hb; clear hb hbox hg; have hnb47 := NB104_101.out; have hnc47 := NB101_104.out; have hnb48 := NB104_102.out; have hnc48 := NB102_104.out; have hcz49_0 : w46.cell? ⟨gb104, 0, none⟩ = some (.int .i64 0) := (blk_cell BK104.out 0).trans rfl; have hcz49_1 : w46.cell? ⟨gb104, 1, none⟩ = some (.slice none 0 0) := (blk_cell BK104.out 1).trans rfl; have hcz49_2 : w46.cell? ⟨gb104, 2, none⟩ = some (.int .i64 0) := (blk_cell BK104.out 2).trans rfl; have hcz49_3 : w46.cell? ⟨gb104, 3, none⟩ = some (.slice none 0 0) := (blk_cell BK104.out 3).trans rfl; have hfz49_0 := blk_frozen BK104.out 0; have hfz49_1 := blk_frozen BK104.out 1; have hfz49_2 := blk_frozen BK104.out 2; have hfz49_3 := blk_frozen BK104.out 3) | ((with_reducible refine gate_callee (f := 40) rfl ?_); refine goesL_ (some 59) rfl rfl Try.func40 (by kernel_rfl) rfl #[.agg #[.int .i64 ((rd_T45 l1 x52_1).f0.f0), .slice A103_1 ((rd_T45 l1 x52_1).f0.f1).length c103_1]] rfl (by (try simp only [List.map_toArray, List.map_cons, List.map_nil]); first | done | rfl | (simp only [List.length_drop, List.length_take]; rfl)) ?_; (with_reducible refine (level_Norm.calls k1 ((rd_T45 l1 x52_1).f0.f0) _ _ ((rd_T45 l1 x52_1).f0.f1) t105 t106 t109 _ ?side1 ?side2 A10.out).mono ?_); (case side1 => exact Kd.C_below HR103_1.out (bl_ HB)); (case side2 => exact HC103_1.out); rintro e w50 ⟨v107, rfl, ho0, hb⟩; refine ⟨_, rfl, ?_⟩; have HO108 := Aside0.mk (Kd.R_lower ho0 (below_size (bl_ HB))); replace HO_103000 := Aside0.mk (Kd.S_elder' (by (with_reducible repeat (first | apply Kd.S_alloc | apply Kd.S_drewN | apply Kd.S_drew)); exact (Kd.S_mono (Kd.S_far (p := ⟨gb104, 3, none⟩) (Kd.S_far (p := ⟨gb104, 2, none⟩) (Kd.S_far (p := ⟨gb104, 1, none⟩) (Kd.S_far (p := ⟨gb104, 0, none⟩) (Kd.S_types HO_103000.out BK104.out (by decide)) (fun _ hk => hk.2) (.int .i64 ((rd_T45 l1 x52_1).f0.f0))) (fun _ hk => hk.2) (.slice A103_1 ((rd_T45 l1 x52_1).f0.f1).length c103_1)) (fun _ hk => hk.2) (.int .i64 ((rd_T45 l1 x52_1).f1.f0))) (fun _ hk => hk.2) (.slice A103_3 ((rd_T45 l1 x52_1).f1.f1).length c103_3)) (fun _ h_ => h_.1))) (Kd.R_base ho0) hb); replace BK101 := Aside0.mk (blk_below (pf_ BK101) hb); replace BK102 := Aside0.mk (blk_below (pf_ BK102) hb); replace BK104 := Aside0.mk (blk_below (g := gb104) (o := .cells #[.int .i64 ((rd_T45 l1 x52_1).f0.f0), .slice A103_1 ((rd_T45 l1 x52_1).f0.f1).length c103_1, .int .i64 ((rd_T45 l1 x52_1).f1.f0), .slice A103_3 ((rd_T45 l1 x52_1).f1.f1).length c103_3] 45 (0, 0)) (by (with_reducible repeat (first | refine blk_drewN ?_ _ | refine blk_drew ?_ | refine blk_alloc ?_ _)); refine blk_put (cs := #[.int .i64 ((rd_T45 l1 x52_1).f0.f0), .slice A103_1 ((rd_T45 l1 x52_1).f0.f1).length c103_1, .int .i64 ((rd_T45 l1 x52_1).f1.f0), .slice none 0 0]) ?_ 3 _ rfl; (with_reducible repeat (first | refine blk_drewN ?_ _ | refine blk_drew ?_ | refine blk_alloc ?_ _)); refine blk_put (cs := #[.int .i64 ((rd_T45 l1 x52_1).f0.f0), .slice A103_1 ((rd_T45 l1 x52_1).f0.f1).length c103_1, .int .i64 0, .slice none 0 0]) ?_ 2 _ rfl; (with_reducible repeat (first | refine blk_drewN ?_ _ | refine blk_drew ?_ | refine blk_alloc ?_ _)); refine blk_put (cs := #[.int .i64 ((rd_T45 l1 x52_1).f0.f0), .slice none 0 0, .int .i64 0, .slice none 0 0]) ?_ 1 _ rfl; (with_reducible repeat (first | refine blk_drewN ?_ _ | refine blk_drew ?_ | refine blk_alloc ?_ _)); refine blk_put (cs := #[.int .i64 0, .slice none 0 0, .int .i64 0, .slice none 0 0]) ?_ 0 _ rfl; (with_reducible repeat (first | refine blk_drewN ?_ _ | refine blk_drew ?_ | refine blk_alloc ?_ _)); exact BK104.out) hb); replace HB := hs_ HB hb; (try clear hb); (try clear hb2); (try clear hk); (try clear hi); (try clear ho0)) | ((with_reducible refine gate_dst (N := 15) rfl ?_); refine box_event ?hg (N := 15) ?hd (cs := #[.int .i64 0, .slice none 0 0]) (t := 43) ?hr ?_; (case hd => rfl); (case hg => rfl); (case hr => first | (go_simp; done) | (go_simp; rfl)); intro gb110 hg w51 hbox hb; have BK110 := Aside0.mk (hbox); have GW110 := Aside0.mk ((bs_ hg HB : w.heap.size ≤ gb110)); have GE110 := Aside0.mk ((bs_ hg HB : w.heap.size ≤ gb110)); have NB101_110 := Aside0.mk ((nl_ hg BK101 : gb101 ≠ gb110)); have NB110_101 := Aside0.mk ((ng_ hg BK101 : gb110 ≠ gb101)); have NB102_110 := Aside0.mk ((nl_ hg BK102 : gb102 ≠ gb110)); have NB110_102 := Aside0.mk ((ng_ hg BK102 : gb110 ≠ gb102)); have NB104_110 := Aside0.mk ((nl_ hg BK104 : gb104 ≠ gb110)); have NB110_104 := Aside0.mk ((ng_ hg BK104 : gb110 ≠ gb104)); replace HO_103000 := Aside0.mk (Kd.S_below (by (with_reducible repeat (first | apply Kd.S_alloc | apply Kd.S_drewN | apply Kd.S_drew)); exact HO_103000.out) hb); replace HO108 := Aside0.mk (Kd.R_below (rl_ HO108) hb); replace BK101 := bb_ BK101 hb; replace BK102 := bb_ BK102 hb; replace BK104 := bb_ BK104 hb; replace HB := hs_ HB hb; clear hb hbox hg; have hnb52 := NB110_101.out; have hnc52 := NB101_110.out; have hnb53 := NB110_102.out; have hnc53 := NB102_110.out; have hnb54 := NB110_104.out; have hnc54 := NB104_110.out; have hcz55_0 : w51.cell? ⟨gb110, 0, none⟩ = some (.int .i64 0) := (blk_cell BK110.out 0).trans rfl; have hcz55_1 : w51.cell? ⟨gb110, 1, none⟩ = some (.slice none 0 0) := (blk_cell BK110.out 1).trans rfl; have hfz55_0 := blk_frozen BK110.out 0; have hfz55_1 := blk_frozen BK110.out 1; obtain ⟨Ao56, co56, eo56⟩ := Kd.R_slice HO108.out; subst eo56; have hcz57_0 : w51.cell? ⟨gb104, 0, none⟩ = some (.int .i64 ((rd_T45 l1 x52_1).f0.f0)) := (blk_cell BK104.out 0).trans rfl; have hcz57_1 : w51.cell? ⟨gb104, 1, none⟩ = some (.slice A103_1 ((rd_T45 l1 x52_1).f0.f1).length c103_1) := (blk_cell BK104.out 1).trans rfl; have hcz57_2 : w51.cell? ⟨gb104, 2, none⟩ = some (.int .i64 ((rd_T45 l1 x52_1).f1.f0)) := (blk_cell BK104.out 2).trans rfl; have hcz57_3 : w51.cell? ⟨gb104, 3, none⟩ = some (.slice A103_3 ((rd_T45 l1 x52_1).f1.f1).length c103_3) := (blk_cell BK104.out 3).trans rfl; have hfz57_0 := blk_frozen BK104.out 0; have hfz57_1 := blk_frozen BK104.out 1; have hfz57_2 := blk_frozen BK104.out 2; have hfz57_3 := blk_frozen BK104.out 3) | ((with_reducible refine gate_callee (f := 40) rfl ?_); refine goesL_ (some 65) rfl rfl Try.func40 (by kernel_rfl) rfl #[.agg #[.int .i64 ((rd_T45 l1 x52_1).f1.f0), .slice A103_3 ((rd_T45 l1 x52_1).f1.f1).length c103_3]] rfl (by (try simp only [List.map_toArray, List.map_cons, List.map_nil]); first | done | rfl | (simp only [List.length_drop, List.length_take]; rfl)) ?_; (with_reducible refine (level_Norm.calls k1 ((rd_T45 l1 x52_1).f1.f0) _ _ ((rd_T45 l1 x52_1).f1.f1) t111 t112 t115 _ ?side1 ?side2 A11.out).mono ?_); (case side1 => exact Kd.C_below HR103_3.out (bl_ HB)); (case side2 => exact HC103_3.out); rintro e w58 ⟨v113, rfl, ho0, hb⟩; refine ⟨_, rfl, ?_⟩; have HO114 := Aside0.mk (Kd.R_lower (Kd.R_new' ho0 (Kd.R_lt (by (with_reducible repeat (first | apply Kd.R_alloc | apply Kd.R_drewN | apply Kd.R_drew)); exact (Kd.R_mono (Kd.R_far (p := ⟨gb110, 1, none⟩) (Kd.R_far (p := ⟨gb110, 0, none⟩) (Kd.R_types HO108.out BK110.out (by decide)) (fun _ hk => hk.2) (.int .i64 t105)) (fun _ hk => hk.2) (.slice Ao56 t106.length co56)) (fun _ h_ => h_.1))))) (below_size (bl_ HB))); replace HO_103000 := Aside0.mk (Kd.S_elder' (by (with_reducible repeat (first | apply Kd.S_alloc | apply Kd.S_drewN | apply Kd.S_drew)); exact (Kd.S_mono (Kd.S_far (p := ⟨gb110, 1, none⟩) (Kd.S_far (p := ⟨gb110, 0, none⟩) (Kd.S_types HO_103000.out BK110.out (by decide)) (fun _ hk => hk.2) (.int .i64 t105)) (fun _ hk => hk.2) (.slice Ao56 t106.length co56)) (fun _ h_ => h_.1))) (Kd.R_base ho0) hb); replace HO108 := Aside0.mk (Kd.R_elder' (by (with_reducible repeat (first | apply Kd.R_alloc | apply Kd.R_drewN | apply Kd.R_drew)); exact (Kd.R_mono (Kd.R_far (p := ⟨gb110, 1, none⟩) (Kd.R_far (p := ⟨gb110, 0, none⟩) (Kd.R_types HO108.out BK110.out (by decide)) (fun _ hk => hk.2) (.int .i64 t105)) (fun _ hk => hk.2) (.slice Ao56 t106.length co56)) (fun _ h_ => h_.1))) (Kd.R_base ho0) hb); replace BK101 := Aside0.mk (blk_below (pf_ BK101) hb); replace BK102 := Aside0.mk (blk_below (pf_ BK102) hb); replace BK104 := Aside0.mk (blk_below (pf_ BK104) hb); replace BK110 := Aside0.mk (blk_below (g := gb110) (o := .cells #[.int .i64 t105, .slice Ao56 t106.length co56] 43 (0, 0)) (by (with_reducible repeat (first | refine blk_drewN ?_ _ | refine blk_drew ?_ | refine blk_alloc ?_ _)); refine blk_put (cs := #[.int .i64 t105, .slice none 0 0]) ?_ 1 _ rfl; (with_reducible repeat (first | refine blk_drewN ?_ _ | refine blk_drew ?_ | refine blk_alloc ?_ _)); refine blk_put (cs := #[.int .i64 0, .slice none 0 0]) ?_ 0 _ rfl; (with_reducible repeat (first | refine blk_drewN ?_ _ | refine blk_drew ?_ | refine blk_alloc ?_ _)); exact BK110.out) hb); replace HB := hs_ HB hb; (try clear hb); (try clear hb2); (try clear hk); (try clear hi); (try clear ho0)) | ((with_reducible refine gate_dst (N := 17) rfl ?_); refine box_event ?hg (N := 17) ?hd (cs := #[.int .i64 0, .slice none 0 0]) (t := 43) ?hr ?_; (case hd => rfl); (case hg => rfl); (case hr => first | (go_simp; done) | (go_simp; rfl)); intro gb116 hg w59 hbox hb; have BK116 := Aside0.mk (hbox); have GW116 := Aside0.mk ((bs_ hg HB : w.heap.size ≤ gb116)); have GE116 := Aside0.mk ((bs_ hg HB : w.heap.size ≤ gb116)); have NB101_116 := Aside0.mk ((nl_ hg BK101 : gb101 ≠ gb116)); have NB116_101 := Aside0.mk ((ng_ hg BK101 : gb116 ≠ gb101)); have NB102_116 := Aside0.mk ((nl_ hg BK102 : gb102 ≠ gb116)); have NB116_102 := Aside0.mk ((ng_ hg BK102 : gb116 ≠ gb102)); have NB104_116 := Aside0.mk ((nl_ hg BK104 : gb104 ≠ gb116)); have NB116_104 := Aside0.mk ((ng_ hg BK104 : gb116 ≠ gb104)); have NB110_116 := Aside0.mk ((nl_ hg BK110 : gb110 ≠ gb116)); have NB116_110 := Aside0.mk ((ng_ hg BK110 : gb116 ≠ gb110)); replace HO_103000 := Aside0.mk (Kd.S_below (by (with_reducible repeat (first | apply Kd.S_alloc | apply Kd.S_drewN | apply Kd.S_drew)); exact HO_103000.out) hb); replace HO108 := Aside0.mk (Kd.R_below (rl_ HO108) hb); replace HO114 := Aside0.mk (Kd.R_below (rl_ HO114) hb); replace BK101 := bb_ BK101 hb; replace BK102 := bb_ BK102 hb; replace BK104 := bb_ BK104 hb; replace BK110 := bb_ BK110 hb; replace HB := hs_ HB hb; clear hb hbox hg; have hnb60 := NB116_101.out; have hnc60 := NB101_116.out; have hnb61 := NB116_102.out; have hnc61 := NB102_116.out; have hnb62 := NB116_104.out; have hnc62 := NB104_116.out; have hnb63 := NB116_110.out; have hnc63 := NB110_116.out; have hcz64_0 : w59.cell? ⟨gb116, 0, none⟩ = some (.int .i64 0) := (blk_cell BK116.out 0).trans rfl; have hcz64_1 : w59.cell? ⟨gb116, 1, none⟩ = some (.slice none 0 0) := (blk_cell BK116.out 1).trans rfl; have hfz64_0 := blk_frozen BK116.out 0; have hfz64_1 := blk_frozen BK116.out 1; obtain ⟨Ao65, co65, eo65⟩ := Kd.R_slice HO114.out; subst eo65))
             have n0_ : Aside0 (Kd.S k101 101 ((w59.setCell ⟨gb116, 0, none⟩ (.int .i64 t111)).setCell ⟨gb116, 1, none⟩ (.slice Ao65 t112.length co65)) w.heap.size (fun k_ => some k_ ≠ (.slice Ao56 t106.length co56 : Value).ownBlock ∧ some k_ ≠ (.slice Ao65 t112.length co65 : Value).ownBlock) u103000 x103000_1) := ⟨by (with_reducible repeat (first | apply Kd.S_alloc | apply Kd.S_drewN | apply Kd.S_drew)); exact Kd.S_mono (Kd.S_far (p := ⟨gb116, 1, none⟩) (Kd.S_far (p := ⟨gb116, 0, none⟩) (Kd.S_types HO_103000.out BK116.out (by decide)) (fun _ hk => hk.2) (.int .i64 t111)) (fun _ hk => hk.2) (.slice Ao65 t112.length co65)) (fun _ hk => ⟨hk.1.1.2, hk.1.2⟩)⟩
             have n1_ : Aside0 (Kd.R k62 62 ((w59.setCell ⟨gb116, 0, none⟩ (.int .i64 t111)).setCell ⟨gb116, 1, none⟩ (.slice Ao65 t112.length co65)) w.heap.size (fun k_ => some k_ ≠ (.slice Ao65 t112.length co65 : Value).ownBlock) (.slice Ao56 t106.length co56) t106) := ⟨by (with_reducible repeat (first | apply Kd.R_alloc | apply Kd.R_drewN | apply Kd.R_drew)); exact Kd.R_mono (Kd.R_far (p := ⟨gb116, 1, none⟩) (Kd.R_far (p := ⟨gb116, 0, none⟩) (Kd.R_types HO108.out BK116.out (by decide)) (fun _ hk => hk.2) (.int .i64 t111)) (fun _ hk => hk.2) (.slice Ao65 t112.length co65)) (fun _ hk => hk.1.2)⟩
             have n2_ : Aside0 (Kd.R k62 62 ((w59.setCell ⟨gb116, 0, none⟩ (.int .i64 t111)).setCell ⟨gb116, 1, none⟩ (.slice Ao65 t112.length co65)) w.heap.size (fun k_ => some k_ ≠ (.slice Ao56 t106.length co56 : Value).ownBlock) (.slice Ao65 t112.length co65) t112) := ⟨by (with_reducible repeat (first | apply Kd.R_alloc | apply Kd.R_drewN | apply Kd.R_drew)); exact Kd.R_mono (Kd.R_far (p := ⟨gb116, 1, none⟩) (Kd.R_far (p := ⟨gb116, 0, none⟩) (Kd.R_types HO114.out BK116.out (by decide)) (fun _ hk => hk.2) (.int .i64 t111)) (fun _ hk => hk.2) (.slice Ao65 t112.length co65)) (fun _ hk => hk.1.2)⟩
             have n3_ : Aside0 (((w59.setCell ⟨gb116, 0, none⟩ (.int .i64 t111)).setCell ⟨gb116, 1, none⟩ (.slice Ao65 t112.length co65)).heap[gb101]? = some (.cells #[.slice none 0 0] 94 (0, 0))) := ⟨by (with_reducible repeat (first | refine blk_drewN ?_ _ | refine blk_drew ?_ | refine blk_alloc ?_ _)); refine blk_far ?_ NB101_116.out _; (with_reducible repeat (first | refine blk_drewN ?_ _ | refine blk_drew ?_ | refine blk_alloc ?_ _)); refine blk_far ?_ NB101_116.out _; (with_reducible repeat (first | refine blk_drewN ?_ _ | refine blk_drew ?_ | refine blk_alloc ?_ _)); exact BK101.out⟩
             have n4_ : Aside0 (((w59.setCell ⟨gb116, 0, none⟩ (.int .i64 t111)).setCell ⟨gb116, 1, none⟩ (.slice Ao65 t112.length co65)).heap[gb102]? = some (.cells #[u103000] 94 (0, 0))) := ⟨by (with_reducible repeat (first | refine blk_drewN ?_ _ | refine blk_drew ?_ | refine blk_alloc ?_ _)); refine blk_far ?_ NB102_116.out _; (with_reducible repeat (first | refine blk_drewN ?_ _ | refine blk_drew ?_ | refine blk_alloc ?_ _)); refine blk_far ?_ NB102_116.out _; (with_reducible repeat (first | refine blk_drewN ?_ _ | refine blk_drew ?_ | refine blk_alloc ?_ _)); exact BK102.out⟩
             have n5_ : Aside0 (((w59.setCell ⟨gb116, 0, none⟩ (.int .i64 t111)).setCell ⟨gb116, 1, none⟩ (.slice Ao65 t112.length co65)).heap[gb104]? = some (.cells #[.int .i64 ((rd_T45 l1 x52_1).f0.f0), .slice A103_1 ((rd_T45 l1 x52_1).f0.f1).length c103_1, .int .i64 ((rd_T45 l1 x52_1).f1.f0), .slice A103_3 ((rd_T45 l1 x52_1).f1.f1).length c103_3] 45 (0, 0))) := ⟨by (with_reducible repeat (first | refine blk_drewN ?_ _ | refine blk_drew ?_ | refine blk_alloc ?_ _)); refine blk_far ?_ NB104_116.out _; (with_reducible repeat (first | refine blk_drewN ?_ _ | refine blk_drew ?_ | refine blk_alloc ?_ _)); refine blk_far ?_ NB104_116.out _; (with_reducible repeat (first | refine blk_drewN ?_ _ | refine blk_drew ?_ | refine blk_alloc ?_ _)); exact BK104.out⟩
             have n6_ : Aside0 (((w59.setCell ⟨gb116, 0, none⟩ (.int .i64 t111)).setCell ⟨gb116, 1, none⟩ (.slice Ao65 t112.length co65)).heap[gb110]? = some (.cells #[.int .i64 t105, .slice Ao56 t106.length co56] 43 (0, 0))) := ⟨by (with_reducible repeat (first | refine blk_drewN ?_ _ | refine blk_drew ?_ | refine blk_alloc ?_ _)); refine blk_far ?_ NB110_116.out _; (with_reducible repeat (first | refine blk_drewN ?_ _ | refine blk_drew ?_ | refine blk_alloc ?_ _)); refine blk_far ?_ NB110_116.out _; (with_reducible repeat (first | refine blk_drewN ?_ _ | refine blk_drew ?_ | refine blk_alloc ?_ _)); exact BK110.out⟩
             have n7_ : Aside0 (((w59.setCell ⟨gb116, 0, none⟩ (.int .i64 t111)).setCell ⟨gb116, 1, none⟩ (.slice Ao65 t112.length co65)).heap[gb116]? = some (.cells #[.int .i64 t111, .slice Ao65 t112.length co65] 43 (0, 0))) := ⟨by (with_reducible repeat (first | refine blk_drewN ?_ _ | refine blk_drew ?_ | refine blk_alloc ?_ _)); refine blk_put (cs := #[.int .i64 t111, .slice none 0 0]) ?_ 1 _ rfl; (with_reducible repeat (first | refine blk_drewN ?_ _ | refine blk_drew ?_ | refine blk_alloc ?_ _)); refine blk_put (cs := #[.int .i64 0, .slice none 0 0]) ?_ 0 _ rfl; (with_reducible repeat (first | refine blk_drewN ?_ _ | refine blk_drew ?_ | refine blk_alloc ?_ _)); exact BK116.out⟩
             have n8_ : Aside0 (Below w.heap.size w ((w59.setCell ⟨gb116, 0, none⟩ (.int .i64 t111)).setCell ⟨gb116, 1, none⟩ (.slice Ao65 t112.length co65))) := ⟨by repeat (first | (with_reducible first | exact HB.out | apply below_alloc | apply pw_below_drewN | apply below_drew1 | refine below_set ?_ GE101.out | refine below_set ?_ GE102.out | refine below_set ?_ GE104.out | refine below_set ?_ GE110.out | refine below_set ?_ GE116.out) | exact HB.out)⟩
             (try clear HO_103000); (try clear HO108); (try clear HO114); (try clear BK101); (try clear BK102); (try clear BK104); (try clear BK110); (try clear BK116); (try clear HB)
             generalize ((w59.setCell ⟨gb116, 0, none⟩ (.int .i64 t111)).setCell ⟨gb116, 1, none⟩ (.slice Ao65 t112.length co65)) = w66 at n0_ n1_ n2_ n3_ n4_ n5_ n6_ n7_ n8_ ⊢
             have HO_103000 := n0_
             have HO108 := n1_
             have HO114 := n2_
             have BK101 := n3_
             have BK102 := n4_
             have BK104 := n5_
             have BK110 := n6_
             have BK116 := n7_
             have HB := n8_
             clear n0_ n1_ n2_ n3_ n4_ n5_ n6_ n7_ n8_
             replace HO_103000 := Aside0.mk (Kd.S_drew HO_103000.out)
             replace HO108 := Aside0.mk (Kd.R_drew HO108.out)
             replace HO114 := Aside0.mk (Kd.R_drew HO114.out)
             replace BK101 := Aside0.mk (blk_drew BK101.out)
             replace BK102 := Aside0.mk (blk_drew BK102.out)
             replace BK104 := Aside0.mk (blk_drew BK104.out)
             replace BK110 := Aside0.mk (blk_drew BK110.out)
             replace BK116 := Aside0.mk (blk_drew BK116.out)
             replace HB := Aside0.mk (below_drew1 HB.out)
             have p120 : 0 ≤ (0 : Int) := (by omega)
             have q120 : 0 < (t112.length : Int) := of_decide_eq_true (by first | (with_reducible assumption) | assumption)
             obtain ⟨ad120, e120, hx120_0, hx120_1⟩ := at_T62 (Kd.R_reads' HO114.out).2.2 0 p120 q120
             cases e120
             have qi120 : (0 < t112.length) = True := eq_true (by omega)
             (try rw [show ((0 : Int)).toNat = 0 from rfl] at hx120_0)
             (try rw [show 0 * 2 = 0 from rfl] at hx120_0)
             (try rw [Addr.add_zero'] at hx120_0)
             (try rw [show ((0 : Int)).toNat = 0 from rfl] at hx120_1)
             (try rw [show 0 * 2 = 0 from rfl] at hx120_1)
             (try rw [Addr.add_zero'] at hx120_1)
             replace p120 := eq_true p120
             replace q120 := eq_true q120
             have p121 : 0 ≤ (0 : Int) := (by omega)
             have q121 : 0 < (t112.length : Int) := of_decide_eq_true (by first | (with_reducible assumption) | assumption)
             obtain ⟨ad121, e121, hx121_0, hx121_1⟩ := at_T62 (Kd.R_reads' HO114.out).2.2 0 p121 q121
             obtain rfl : ad120 = ad121 := (by injection e121)
             have qi121 : (0 < t112.length) = True := eq_true (by omega)
             (try rw [show ((0 : Int)).toNat = 0 from rfl] at hx121_0)
             (try rw [show 0 * 2 = 0 from rfl] at hx121_0)
             (try rw [Addr.add_zero'] at hx121_0)
             (try rw [show ((0 : Int)).toNat = 0 from rfl] at hx121_1)
             (try rw [show 0 * 2 = 0 from rfl] at hx121_1)
             (try rw [Addr.add_zero'] at hx121_1)
             replace p121 := eq_true p121
             replace q121 := eq_true q121
             refine start_ (n := 18) (S := fun w' => w'.cell? ⟨gb102, 0, none⟩ = some (u103000) ∧ w'.cell? ⟨gb110, 0, none⟩ = some (.int .i64 t105) ∧ w'.cell? ⟨gb110, 1, none⟩ = some (.slice Ao56 t106.length co56) ∧ w'.cell? ⟨gb116, 0, none⟩ = some (.int .i64 t111) ∧ w'.cell? ⟨gb116, 1, none⟩ = some (.slice (some ad120) t112.length co65) ∧ w'.cell? ad120 = some (.int .i64 ((rd_T62 t112 0).f0)) ∧ w'.cell? ⟨ad120.block, ad120.off + 1, none⟩ = some (.int .i64 ((rd_T62 t112 0).f1)) ∧ w'.cell? ad120 = some (.int .i64 ((rd_T62 t112 0).f0)) ∧ w'.cell? ⟨ad120.block, ad120.off + 1, none⟩ = some (.int .i64 ((rd_T62 t112 0).f1))) (ds := [15, 17]) #[false, false, false, false, false, false, false, false, false, false, false, false, false, false, false, false, false, false] (by kernel_rfl) rfl rfl ⟨(blk_cell BK102.out 0).trans rfl, (blk_cell BK110.out 0).trans rfl, (blk_cell BK110.out 1).trans rfl, (blk_cell BK116.out 0).trans rfl, (blk_cell BK116.out 1).trans rfl, hx120_0, hx120_1, hx121_0, hx121_1⟩ (fun hHeld => ?_); refine with_tabW lsolve_ask.tab22 lsolve_ask.bits22 (fun HT_ HW_ => ?_)
             generalize w66.drew = w67 at HO_103000 HO108 HO114 BK101 BK102 BK104 BK110 BK116 HB HO108 HO114 hx120_0 hx120_1 hx121_0 hx121_1 hHeld ⊢
             refine pure_ (i := 0) (N := some 93) (v := ?_) (a' := ?_) #[true, false, false, false, false, false, false, false, false, false, false, false, false, false, false, false, false, false] rfl rfl (any_of HT_.out (by kernel_rfl)) (fun _ _ _ h => h) (Or.inl ⟨by rfl, ?_⟩) ?_ ?_
             rotate_left
             ·intro w'
              go_simp
              with_reducible rfl
             rotate_left
             ·simp only [Act.put, List.setIfInBounds_toArray, List.set_cons_zero, List.set_cons_succ, i64_w, i32_w]
              rfl
             refine pure_ (i := 3) (N := some 96) (v := ?_) (a' := ?_) #[true, false, false, true, false, false, false, false, false, false, false, false, false, false, false, false, false, false] rfl rfl (any_of HT_.out (by kernel_rfl)) (fun _ _ _ h => h) (Or.inl ⟨by rfl, ?_⟩) ?_ ?_
             rotate_left
             ·intro w'
              go_simp
              with_reducible rfl
             rotate_left
             ·simp only [Act.put, List.setIfInBounds_toArray, List.set_cons_zero, List.set_cons_succ, i64_w, i32_w]
              rfl
             refine pure_ (i := 8) (N := some 101) (v := ?_) (a' := ?_) #[true, false, false, true, false, false, false, false, true, false, false, false, false, false, false, false, false, false] rfl rfl (any_of HT_.out (by kernel_rfl)) (fun _ _ _ h => h) (Or.inl ⟨by rfl, ?_⟩) ?_ ?_
             rotate_left
             ·intro w'
              go_simp
              with_reducible rfl
             rotate_left
             ·simp only [Act.put, List.setIfInBounds_toArray, List.set_cons_zero, List.set_cons_succ, i64_w, i32_w]
              rfl
             refine take_ (i := 1) (N := some 94) (v := ?_) (a' := ?_) #[true, true, false, true, false, false, false, false, true, false, false, false, false, false, false, false, false, false] rfl rfl (take_ofW HT_.out HW_.out (by kernel_rfl)) (fun _ _ _ h => h) (Or.inl ⟨by rfl, ?_⟩) hHeld ?_ ?_
             rotate_left
             ·rintro w' ⟨s0, s1, s2, s3, s4, s5, s6, s7, s8⟩
              go_simp
              with_reducible rfl
             rotate_left
             ·simp only [Act.put, List.setIfInBounds_toArray, List.set_cons_zero, List.set_cons_succ, i64_w, i32_w]
              rfl
             refine take_ (i := 2) (N := some 95) (v := ?_) (a' := ?_) #[true, true, true, true, false, false, false, false, true, false, false, false, false, false, false, false, false, false] rfl rfl (take_ofW HT_.out HW_.out (by kernel_rfl)) (fun _ _ _ h => h) (Or.inl ⟨by rfl, ?_⟩) hHeld ?_ ?_
             rotate_left
             ·rintro w' ⟨s0, s1, s2, s3, s4, s5, s6, s7, s8⟩
              go_simp
              with_reducible rfl
             rotate_left
             ·simp only [Act.put, List.setIfInBounds_toArray, List.set_cons_zero, List.set_cons_succ, i64_w, i32_w]
              rfl
             refine take_ (i := 4) (N := some 97) (v := ?_) (a' := ?_) #[true, true, true, true, true, false, false, false, true, false, false, false, false, false, false, false, false, false] rfl rfl (take_ofW HT_.out HW_.out (by kernel_rfl)) (fun _ _ _ h => h) (Or.inl ⟨by rfl, ?_⟩) hHeld ?_ ?_
             rotate_left
             ·rintro w' ⟨s0, s1, s2, s3, s4, s5, s6, s7, s8⟩
              go_simp
              with_reducible rfl
             rotate_left
             ·simp only [Act.put, List.setIfInBounds_toArray, List.set_cons_zero, List.set_cons_succ, i64_w, i32_w]
              rfl
             refine pure_ (i := 5) (N := some 98) (v := ?_) (a' := ?_) #[true, true, true, true, true, true, false, false, true, false, false, false, false, false, false, false, false, false] rfl rfl (any_of HT_.out (by kernel_rfl)) (fun _ _ _ h => h) (Or.inl ⟨by rfl, ?_⟩) ?_ ?_
             rotate_left
             ·intro w'
              go_simp
              with_reducible rfl
             rotate_left
             ·simp only [Act.put, List.setIfInBounds_toArray, List.set_cons_zero, List.set_cons_succ, i64_w, i32_w]
              rfl
             refine pure_ (i := 6) (N := some 99) (v := ?_) (a' := ?_) #[true, true, true, true, true, true, true, false, true, false, false, false, false, false, false, false, false, false] rfl rfl (any_of HT_.out (by kernel_rfl)) (fun _ _ _ h => h) (Or.inl ⟨by rfl, ?_⟩) ?_ ?_
             rotate_left
             ·intro w'
              go_simp
              with_reducible rfl
             rotate_left
             ·simp only [Act.put, List.setIfInBounds_toArray, List.set_cons_zero, List.set_cons_succ, i64_w, i32_w]
              rfl
             refine take_ (i := 7) (N := some 100) (v := ?_) (a' := ?_) #[true, true, true, true, true, true, true, true, true, false, false, false, false, false, false, false, false, false] rfl rfl (take_ofW HT_.out HW_.out (by kernel_rfl)) (fun _ _ _ h => h) (Or.inl ⟨by rfl, ?_⟩) hHeld ?_ ?_
             rotate_left
             ·rintro w' ⟨s0, s1, s2, s3, s4, s5, s6, s7, s8⟩
              go_simp
              with_reducible rfl
             rotate_left
             ·simp only [Act.put, List.setIfInBounds_toArray, List.set_cons_zero, List.set_cons_succ, i64_w, i32_w]
              rfl
             refine take_ (i := 9) (N := some 102) (v := ?_) (a' := ?_) #[true, true, true, true, true, true, true, true, true, true, false, false, false, false, false, false, false, false] rfl rfl (take_ofW HT_.out HW_.out (by kernel_rfl)) (fun _ _ _ h => h) (Or.inl ⟨by rfl, ?_⟩) hHeld ?_ ?_
             rotate_left
             ·rintro w' ⟨s0, s1, s2, s3, s4, s5, s6, s7, s8⟩
              go_simp
              with_reducible rfl
             rotate_left
             ·simp only [Act.put, List.setIfInBounds_toArray, List.set_cons_zero, List.set_cons_succ, i64_w, i32_w]
              rfl
             refine pure_ (i := 10) (N := some 103) (v := ?_) (a' := ?_) #[true, true, true, true, true, true, true, true, true, true, true, false, false, false, false, false, false, false] rfl rfl (any_of HT_.out (by kernel_rfl)) (fun _ _ _ h => h) (Or.inl ⟨by rfl, ?_⟩) ?_ ?_
             rotate_left
             ·intro w'
              go_simp
              with_reducible rfl
             rotate_left
             ·simp only [Act.put, List.setIfInBounds_toArray, List.set_cons_zero, List.set_cons_succ, i64_w, i32_w]
              rfl
             refine pure_ (i := 11) (N := some 104) (v := ?_) (a' := ?_) #[true, true, true, true, true, true, true, true, true, true, true, true, false, false, false, false, false, false] rfl rfl (any_of HT_.out (by kernel_rfl)) (fun _ _ _ h => h) (Or.inl ⟨by rfl, ?_⟩) ?_ ?_
             rotate_left
             ·intro w'
              go_simp
              with_reducible rfl
             rotate_left
             ·simp only [Act.put, List.setIfInBounds_toArray, List.set_cons_zero, List.set_cons_succ, i64_w, i32_w]
              rfl
             refine take_ (i := 12) (N := some 105) (v := ?_) (a' := ?_) #[true, true, true, true, true, true, true, true, true, true, true, true, true, false, false, false, false, false] rfl rfl (take_ofW HT_.out HW_.out (by kernel_rfl)) (fun _ _ _ h => h) (Or.inl ⟨by rfl, ?_⟩) hHeld ?_ ?_
             rotate_left
             ·rintro w' ⟨s0, s1, s2, s3, s4, s5, s6, s7, s8⟩
              go_simp
              with_reducible rfl
             rotate_left
             ·simp only [Act.put, List.setIfInBounds_toArray, List.set_cons_zero, List.set_cons_succ, i64_w, i32_w]
              rfl
             refine pure_ (i := 13) (N := some 106) (v := ?_) (a' := ?_) #[true, true, true, true, true, true, true, true, true, true, true, true, true, true, false, false, false, false] rfl rfl (any_of HT_.out (by kernel_rfl)) (fun _ _ _ h => h) (Or.inl ⟨by rfl, ?_⟩) ?_ ?_
             rotate_left
             ·intro w'
              go_simp
              with_reducible rfl
             rotate_left
             ·simp only [Act.put, List.setIfInBounds_toArray, List.set_cons_zero, List.set_cons_succ, i64_w, i32_w]
              rfl
             refine one_ (i := 14) (N := some 107) #[true, true, true, true, true, true, true, true, true, true, true, true, true, true, true, false, false, false] rfl rfl (one_of HT_.out (by kernel_rfl)) (by decide) (fun K hK => ?_)
             refine value_ (w1 := ?_) (v := ?_) (by rfl) rfl ?_ ?_
             rotate_left 2
             ·go_simp
              constructor
              ·rfl
              ·rfl
             refine hK.out _ _ ⟨(blk_cell (blk_alloc BK102.out _) 0).trans rfl, (blk_cell (blk_alloc BK110.out _) 0).trans rfl, (blk_cell (blk_alloc BK110.out _) 1).trans rfl, (blk_cell (blk_alloc BK116.out _) 0).trans rfl, (blk_cell (blk_alloc BK116.out _) 1).trans rfl, (World.cell?_alloc_lt _ _ _ (World.block_lt_of_cell? _ _ (hHeld.2.2.2.2.2.1))).trans (hHeld.2.2.2.2.2.1), (World.cell?_alloc_lt _ _ _ (World.block_lt_of_cell? _ _ (hHeld.2.2.2.2.2.2.1))).trans (hHeld.2.2.2.2.2.2.1), (World.cell?_alloc_lt _ _ _ (World.block_lt_of_cell? _ _ (hHeld.2.2.2.2.2.2.2.1))).trans (hHeld.2.2.2.2.2.2.2.1), (World.cell?_alloc_lt _ _ _ (World.block_lt_of_cell? _ _ (hHeld.2.2.2.2.2.2.2.2))).trans (hHeld.2.2.2.2.2.2.2.2)⟩ (fun hHeld => ?_)
             clear hK K
             refine norm_ (a' := ?_) ?_ ?_
             rotate_left
             ·show Act.put _ (some 107) _ = _
              simp only [Act.put, List.setIfInBounds_toArray, List.set_cons_zero, List.set_cons_succ, i64_w, i32_w]
              rfl
             refine last_ (i := 15) (N := some 108) #[true, true, true, true, true, true, true, true, true, true, true, true, true, true, true, true, false, false] rfl rfl (one_of HT_.out (by kernel_rfl)) (by decide) (fun K hK => ?_)
             refine Kd.S_append_step k101 (w0 := w) w.heap.size (by rfl) (.tmp 94) (.tmp 107) 92 101 (.agg #[(.int .i64 0), (.slice none 0 0), (.int .i64 0), (.int .i64 0)]) 48 rfl Try.underlying92 info101 rfl (by decide) (by omega) u103000 x103000_1 (⟨(⟨t105, t106⟩ : S43), (rd_T62 t112 0).f0, (rd_T62 t112 0).f1⟩ : S101) [.int .i64 t105, .slice Ao56 t106.length co56, .int .i64 ((rd_T62 t112 0).f0), .int .i64 ((rd_T62 t112 0).f1)] (fun k_ => some k_ ≠ (.slice (some ad120) t112.length co65 : Value).ownBlock) (fun k_ => some k_ = (.slice Ao56 t106.length co56 : Value).ownBlock) rfl rfl ?aP (fun k_ hk_ => ((Kd.R_mono (ok' := fun k_ => ((fun k_ => some k_ ≠ (.slice (some ad120) t112.length co65 : Value).ownBlock)) k_ ∧ some k_ ≠ (u103000 : Value).ownBlock) (Kd.R_apart' (HO108.out) (Kd.S_typed HO_103000.out) (by decide)) (fun k_ hk => ⟨hk.1, hk.2⟩))).1 k_ hk_.symm) ?aF ?aO ?aB ?aS ?aL ?_
             (case aP => exact k101_mkM _ _ _ (⟨(⟨t105, t106⟩ : S43), (rd_T62 t112 0).f0, (rd_T62 t112 0).f1⟩ : S101) (Kd.R_mono (Kd.R_tight rfl (Kd.R_mono (ok' := fun k_ => ((fun k_ => some k_ ≠ (.slice (some ad120) t112.length co65 : Value).ownBlock)) k_ ∧ some k_ ≠ (u103000 : Value).ownBlock) (Kd.R_apart' (HO108.out) (Kd.S_typed HO_103000.out) (by decide)) (fun k_ hk => ⟨hk.1, hk.2⟩))) (fun _ h_ => h_)))
             (case aB => exact (bl_ HB))
             (case aF => exact (fun k_ hk => Kd.fresh' (Kd.R_lt (rl_ HO114)) k_ hk))
             (case aO => exact (by (with_reducible repeat (first | apply Kd.S_alloc | apply Kd.S_drewN | apply Kd.S_drew)); exact Kd.S_mono HO_103000.out (fun k_ hk => ⟨hk.2, fun e_ => hk.1 e_⟩)))
             (case aS => exact (below_size (bl_ HB)))
             (case aL => have := LMc45.out; omega)
             intro v123 w68 ho hb hg hat
             rw [← Ny122.out] at ho
             have HO124 := Aside0.mk (ho)
             replace BK101 := Aside0.mk (blk_grown (g := gb101) (o := .cells #[.slice none 0 0] 94 (0, 0)) (pl_ BK101) hg (Kd.S_ne HO_103000.out BK101.out (by decide)))
             replace BK102 := Aside0.mk (blk_grown (g := gb102) (o := .cells #[u103000] 94 (0, 0)) (pl_ BK102) hg (Kd.S_ne HO_103000.out BK102.out (by decide)))
             replace BK104 := Aside0.mk (blk_grown (g := gb104) (o := .cells #[.int .i64 ((rd_T45 l1 x52_1).f0.f0), .slice A103_1 ((rd_T45 l1 x52_1).f0.f1).length c103_1, .int .i64 ((rd_T45 l1 x52_1).f1.f0), .slice A103_3 ((rd_T45 l1 x52_1).f1.f1).length c103_3] 45 (0, 0)) (pl_ BK104) hg (Kd.S_ne HO_103000.out BK104.out (by decide)))
             replace BK110 := Aside0.mk (blk_grown (g := gb110) (o := .cells #[.int .i64 t105, .slice Ao56 t106.length co56] 43 (0, 0)) (pl_ BK110) hg (Kd.S_ne HO_103000.out BK110.out (by decide)))
             replace HO114 := Aside0.mk (Kd.R_over' (rl_ HO114) (Kd.S_typed (by (with_reducible repeat (first | apply Kd.S_alloc | apply Kd.S_drewN | apply Kd.S_drew)); exact HO_103000.out)) (by decide) hg)
             replace BK116 := Aside0.mk (blk_grown (g := gb116) (o := .cells #[.int .i64 t111, .slice (some ad120) t112.length co65] 43 (0, 0)) (pl_ BK116) hg (Kd.S_ne HO_103000.out BK116.out (by decide)))
             replace HB := Aside0.mk (hb)
             clear HO_103000 HO108 ho hb hg hat
             obtain ⟨Ao69, co69, eo69⟩ := Kd.S_slice HO124.out
             (first | subst eo69 | (injection eo69 with f1_ f2_ f3_; have f4_ := f1_.symm; have f5_ := f3_.symm; clear f1_ f2_ f3_; subst f4_; subst f5_))
             refine hK.out _ _ ?_
             clear hK K
             refine norm_ (a' := ?_) ?_ ?_
             rotate_left
             ·show Act.put _ (some 108) _ = _
              simp only [Act.put, List.setIfInBounds_toArray, List.set_cons_zero, List.set_cons_succ, i64_w, i32_w]
              rfl
             refine pure_ (i := 16) (N := some 109) (v := ?_) (a' := ?_) #[true, true, true, true, true, true, true, true, true, true, true, true, true, true, true, true, true, false] rfl rfl (any_of HT_.out (by kernel_rfl)) (fun _ _ _ h => h) (Or.inl ⟨by rfl, ?_⟩) ?_ ?_
             rotate_left
             ·intro w'
              go_simp
              with_reducible rfl
             rotate_left
             ·simp only [Act.put, List.setIfInBounds_toArray, List.set_cons_zero, List.set_cons_succ, i64_w, i32_w]
              rfl
             refine last_ (i := 17) (N := none) #[true, true, true, true, true, true, true, true, true, true, true, true, true, true, true, true, true, true] rfl rfl (one_of HT_.out (by kernel_rfl)) (by decide) (fun K hK => ?_)
             have hs70 : w68.cell? ⟨gb102, 0, none⟩ = some (u103000) := (blk_cell BK102.out 0).trans rfl
             have hfs70 := blk_frozen BK102.out 0
             have hns70_0 := NB101_102.out
             have hns70_2 := NB104_102.out
             have hns70_3 := NB110_102.out
             have hns70_4 := NB116_102.out
             have hms70_0 := NB102_101.out
             have hms70_2 := NB102_104.out
             have hms70_3 := NB102_110.out
             have hms70_4 := NB102_116.out
             refine skip_ (w1 := ?_) (by rfl) rfl ?_ ?_
             rotate_left
             ·go_simp
              rfl
             refine hK.out _ _ ?_
             clear hK K
             refine done_ (done_of HT_.out (by kernel_rfl)) ?_
             try go_wp2
             go_roundg k1
             case measure => have := HK1.out; omega
             case rel => exact ⟨(wrap64 (x52_1 + 1)), (y122), (.slice Ao69 y122.length co69), (by first | rfl | (simp; done) | (simp [*]; done)), H', ⟨by have := HK1.out; omega⟩, ⟨by (with_reducible repeat (first | apply Kd.S_alloc | apply Kd.S_drewN | apply Kd.S_drew)); exact Kd.S_mono (Kd.S_far (p := ⟨gb102, 0, none⟩) (Kd.S_types HO124.out BK102.out (by decide)) (fun _ hk => hk.2) (.slice Ao69 y122.length co69)) (fun _ hk => trivial)⟩, ⟨by (with_reducible repeat (first | refine blk_drewN ?_ _ | refine blk_drew ?_ | refine blk_alloc ?_ _)); refine blk_far ?_ NB101_102.out _; (with_reducible repeat (first | refine blk_drewN ?_ _ | refine blk_drew ?_ | refine blk_alloc ?_ _)); exact BK101.out⟩, ⟨by (with_reducible repeat (first | refine blk_drewN ?_ _ | refine blk_drew ?_ | refine blk_alloc ?_ _)); refine blk_put (cs := #[u103000]) ?_ 0 _ rfl; (with_reducible repeat (first | refine blk_drewN ?_ _ | refine blk_drew ?_ | refine blk_alloc ?_ _)); exact BK102.out⟩, ⟨by repeat (first | (with_reducible first | exact HB.out | apply below_alloc | apply pw_below_drewN | apply below_drew1 | refine below_set ?_ GE101.out | refine below_set ?_ GE102.out | refine below_set ?_ GE104.out | refine below_set ?_ GE110.out | refine below_set ?_ GE116.out) | exact HB.out)⟩⟩
            ·rw [if_neg c45] at H
             exact absurd H (by simp)
           ·rw [if_neg c44] at H
            exact absurd H (by simp)
          ·rw [if_neg c43] at H
           have c43b0 : (t111 == 0) = false := beq_eq_false_iff_ne.mpr c43
           have c43b1 : (t111 != 0) = true := bne_iff_ne.mpr c43
           simp only [Option.some.injEq, Prod.mk.injEq] at H
           obtain ⟨rfl, rfl⟩ := H
           have p103 : 0 ≤ (x52_1 : Int) := of_decide_eq_true (by first | (with_reducible assumption) | assumption)
           have q103 : x52_1 < (l1.length : Int) := of_decide_eq_true (by first | (with_reducible assumption) | assumption)
           obtain ⟨ad103, A103_1, c103_1, A103_3, c103_3, e103, hx103_0, hx103_1, hx103_2, hx103_3, hl103_1, hi103_1, hl103_3, hi103_3⟩ := at_T45 HR1.out x52_1 p103 q103
           cases e103
           replace hx103_0 := (HB.out.cell (World.block_lt_of_cell? w _ hx103_0)).trans hx103_0
           replace hx103_1 := (HB.out.cell (World.block_lt_of_cell? w _ hx103_1)).trans hx103_1
           replace hx103_2 := (HB.out.cell (World.block_lt_of_cell? w _ hx103_2)).trans hx103_2
           replace hx103_3 := (HB.out.cell (World.block_lt_of_cell? w _ hx103_3)).trans hx103_3
           have HR103_1 := Aside0.mk hi103_1
           have HC103_1 := Aside0.mk hl103_1
           clear hi103_1 hl103_1
           have HR103_3 := Aside0.mk hi103_3
           have HC103_3 := Aside0.mk hl103_3
           clear hi103_3 hl103_3
           replace p103 := eq_true p103
           replace q103 := eq_true q103
           go_wp2_with (first | ((with_reducible refine gate_dst (N := 14) rfl ?_); refine box_event ?hg (N := 14) ?hd (cs := #[.int .i64 0, .slice none 0 0, .int .i64 0, .slice none 0 0]) (t := 45) ?hr ?_; (case hd => rfl); (case hg => rfl); (case hr => first | (go_simp; done) | (go_simp; rfl)); intro gb104 hg w71 hbox hb; have BK104 := Aside0.mk (hbox); have GW104 := Aside0.mk ((bs_ hg HB : w.heap.size ≤ gb104)); have GE104 := Aside0.mk ((bs_ hg HB : w.heap.size ≤ gb104)); have NB101_104 := Aside0.mk ((nl_ hg BK101 : gb101 ≠ gb104)); have NB104_101 := Aside0.mk ((ng_ hg BK101 : gb104 ≠ gb101)); have NB102_104 := Aside0.mk ((nl_ hg BK102 : gb102 ≠ gb104)); have NB104_102 := Aside0.mk ((ng_ hg BK102 : gb104 ≠ gb102)); replace HO_103000 := Aside0.mk (Kd.S_below (by (with_reducible repeat (first | apply Kd.S_alloc | apply Kd.S_drewN | apply Kd.S_drew)); exact HO_103000.out) hb); replace BK101 := bb_ BK101 hb; replace BK102 := bb_ BK102 hb; replace HB := hs_ HB hb; clear hb hbox hg; have hnb72 := NB104_101.out; have hnc72 := NB101_104.out; have hnb73 := NB104_102.out; have hnc73 := NB102_104.out; have hcz74_0 : w71.cell? ⟨gb104, 0, none⟩ = some (.int .i64 0) := (blk_cell BK104.out 0).trans rfl; have hcz74_1 : w71.cell? ⟨gb104, 1, none⟩ = some (.slice none 0 0) := (blk_cell BK104.out 1).trans rfl; have hcz74_2 : w71.cell? ⟨gb104, 2, none⟩ = some (.int .i64 0) := (blk_cell BK104.out 2).trans rfl; have hcz74_3 : w71.cell? ⟨gb104, 3, none⟩ = some (.slice none 0 0) := (blk_cell BK104.out 3).trans rfl; have hfz74_0 := blk_frozen BK104.out 0; have hfz74_1 := blk_frozen BK104.out 1; have hfz74_2 := blk_frozen BK104.out 2; have hfz74_3 := blk_frozen BK104.out 3) | ((with_reducible refine gate_callee (f := 40) rfl ?_); refine goesL_ (some 59) rfl rfl Try.func40 (by kernel_rfl) rfl #[.agg #[.int .i64 ((rd_T45 l1 x52_1).f0.f0), .slice A103_1 ((rd_T45 l1 x52_1).f0.f1).length c103_1]] rfl (by (try simp only [List.map_toArray, List.map_cons, List.map_nil]); first | done | rfl | (simp only [List.length_drop, List.length_take]; rfl)) ?_; (with_reducible refine (level_Norm.calls k1 ((rd_T45 l1 x52_1).f0.f0) _ _ ((rd_T45 l1 x52_1).f0.f1) t105 t106 t109 _ ?side1 ?side2 A10.out).mono ?_); (case side1 => exact Kd.C_below HR103_1.out (bl_ HB)); (case side2 => exact HC103_1.out); rintro e w75 ⟨v107, rfl, ho0, hb⟩; refine ⟨_, rfl, ?_⟩; have HO108 := Aside0.mk (Kd.R_lower ho0 (below_size (bl_ HB))); replace HO_103000 := Aside0.mk (Kd.S_elder' (by (with_reducible repeat (first | apply Kd.S_alloc | apply Kd.S_drewN | apply Kd.S_drew)); exact (Kd.S_mono (Kd.S_far (p := ⟨gb104, 3, none⟩) (Kd.S_far (p := ⟨gb104, 2, none⟩) (Kd.S_far (p := ⟨gb104, 1, none⟩) (Kd.S_far (p := ⟨gb104, 0, none⟩) (Kd.S_types HO_103000.out BK104.out (by decide)) (fun _ hk => hk.2) (.int .i64 ((rd_T45 l1 x52_1).f0.f0))) (fun _ hk => hk.2) (.slice A103_1 ((rd_T45 l1 x52_1).f0.f1).length c103_1)) (fun _ hk => hk.2) (.int .i64 ((rd_T45 l1 x52_1).f1.f0))) (fun _ hk => hk.2) (.slice A103_3 ((rd_T45 l1 x52_1).f1.f1).length c103_3)) (fun _ h_ => h_.1))) (Kd.R_base ho0) hb); replace BK101 := Aside0.mk (blk_below (pf_ BK101) hb); replace BK102 := Aside0.mk (blk_below (pf_ BK102) hb); replace BK104 := Aside0.mk (blk_below (g := gb104) (o := .cells #[.int .i64 ((rd_T45 l1 x52_1).f0.f0), .slice A103_1 ((rd_T45 l1 x52_1).f0.f1).length c103_1, .int .i64 ((rd_T45 l1 x52_1).f1.f0), .slice A103_3 ((rd_T45 l1 x52_1).f1.f1).length c103_3] 45 (0, 0)) (by (with_reducible repeat (first | refine blk_drewN ?_ _ | refine blk_drew ?_ | refine blk_alloc ?_ _)); refine blk_put (cs := #[.int .i64 ((rd_T45 l1 x52_1).f0.f0), .slice A103_1 ((rd_T45 l1 x52_1).f0.f1).length c103_1, .int .i64 ((rd_T45 l1 x52_1).f1.f0), .slice none 0 0]) ?_ 3 _ rfl; (with_reducible repeat (first | refine blk_drewN ?_ _ | refine blk_drew ?_ | refine blk_alloc ?_ _)); refine blk_put (cs := #[.int .i64 ((rd_T45 l1 x52_1).f0.f0), .slice A103_1 ((rd_T45 l1 x52_1).f0.f1).length c103_1, .int .i64 0, .slice none 0 0]) ?_ 2 _ rfl; (with_reducible repeat (first | refine blk_drewN ?_ _ | refine blk_drew ?_ | refine blk_alloc ?_ _)); refine blk_put (cs := #[.int .i64 ((rd_T45 l1 x52_1).f0.f0), .slice none 0 0, .int .i64 0, .slice none 0 0]) ?_ 1 _ rfl; (with_reducible repeat (first | refine blk_drewN ?_ _ | refine blk_drew ?_ | refine blk_alloc ?_ _)); refine blk_put (cs := #[.int .i64 0, .slice none 0 0, .int .i64 0, .slice none 0 0]) ?_ 0 _ rfl; (with_reducible repeat (first | refine blk_drewN ?_ _ | refine blk_drew ?_ | refine blk_alloc ?_ _)); exact BK104.out) hb); replace HB := hs_ HB hb; (try clear hb); (try clear hb2); (try clear hk); (try clear hi); (try clear ho0)) | ((with_reducible refine gate_dst (N := 15) rfl ?_); refine box_event ?hg (N := 15) ?hd (cs := #[.int .i64 0, .slice none 0 0]) (t := 43) ?hr ?_; (case hd => rfl); (case hg => rfl); (case hr => first | (go_simp; done) | (go_simp; rfl)); intro gb110 hg w76 hbox hb; have BK110 := Aside0.mk (hbox); have GW110 := Aside0.mk ((bs_ hg HB : w.heap.size ≤ gb110)); have GE110 := Aside0.mk ((bs_ hg HB : w.heap.size ≤ gb110)); have NB101_110 := Aside0.mk ((nl_ hg BK101 : gb101 ≠ gb110)); have NB110_101 := Aside0.mk ((ng_ hg BK101 : gb110 ≠ gb101)); have NB102_110 := Aside0.mk ((nl_ hg BK102 : gb102 ≠ gb110)); have NB110_102 := Aside0.mk ((ng_ hg BK102 : gb110 ≠ gb102)); have NB104_110 := Aside0.mk ((nl_ hg BK104 : gb104 ≠ gb110)); have NB110_104 := Aside0.mk ((ng_ hg BK104 : gb110 ≠ gb104)); replace HO_103000 := Aside0.mk (Kd.S_below (by (with_reducible repeat (first | apply Kd.S_alloc | apply Kd.S_drewN | apply Kd.S_drew)); exact HO_103000.out) hb); replace HO108 := Aside0.mk (Kd.R_below (rl_ HO108) hb); replace BK101 := bb_ BK101 hb; replace BK102 := bb_ BK102 hb; replace BK104 := bb_ BK104 hb; replace HB := hs_ HB hb; clear hb hbox hg; have hnb77 := NB110_101.out; have hnc77 := NB101_110.out; have hnb78 := NB110_102.out; have hnc78 := NB102_110.out; have hnb79 := NB110_104.out; have hnc79 := NB104_110.out; have hcz80_0 : w76.cell? ⟨gb110, 0, none⟩ = some (.int .i64 0) := (blk_cell BK110.out 0).trans rfl; have hcz80_1 : w76.cell? ⟨gb110, 1, none⟩ = some (.slice none 0 0) := (blk_cell BK110.out 1).trans rfl; have hfz80_0 := blk_frozen BK110.out 0; have hfz80_1 := blk_frozen BK110.out 1; obtain ⟨Ao81, co81, eo81⟩ := Kd.R_slice HO108.out; subst eo81; have hcz82_0 : w76.cell? ⟨gb104, 0, none⟩ = some (.int .i64 ((rd_T45 l1 x52_1).f0.f0)) := (blk_cell BK104.out 0).trans rfl; have hcz82_1 : w76.cell? ⟨gb104, 1, none⟩ = some (.slice A103_1 ((rd_T45 l1 x52_1).f0.f1).length c103_1) := (blk_cell BK104.out 1).trans rfl; have hcz82_2 : w76.cell? ⟨gb104, 2, none⟩ = some (.int .i64 ((rd_T45 l1 x52_1).f1.f0)) := (blk_cell BK104.out 2).trans rfl; have hcz82_3 : w76.cell? ⟨gb104, 3, none⟩ = some (.slice A103_3 ((rd_T45 l1 x52_1).f1.f1).length c103_3) := (blk_cell BK104.out 3).trans rfl; have hfz82_0 := blk_frozen BK104.out 0; have hfz82_1 := blk_frozen BK104.out 1; have hfz82_2 := blk_frozen BK104.out 2; have hfz82_3 := blk_frozen BK104.out 3) | ((with_reducible refine gate_callee (f := 40) rfl ?_); refine goesL_ (some 65) rfl rfl Try.func40 (by kernel_rfl) rfl #[.agg #[.int .i64 ((rd_T45 l1 x52_1).f1.f0), .slice A103_3 ((rd_T45 l1 x52_1).f1.f1).length c103_3]] rfl (by (try simp only [List.map_toArray, List.map_cons, List.map_nil]); first | done | rfl | (simp only [List.length_drop, List.length_take]; rfl)) ?_; (with_reducible refine (level_Norm.calls k1 ((rd_T45 l1 x52_1).f1.f0) _ _ ((rd_T45 l1 x52_1).f1.f1) t111 t112 t115 _ ?side1 ?side2 A11.out).mono ?_); (case side1 => exact Kd.C_below HR103_3.out (bl_ HB)); (case side2 => exact HC103_3.out); rintro e w83 ⟨v113, rfl, ho0, hb⟩; refine ⟨_, rfl, ?_⟩; have HO114 := Aside0.mk (Kd.R_lower (Kd.R_new' ho0 (Kd.R_lt (by (with_reducible repeat (first | apply Kd.R_alloc | apply Kd.R_drewN | apply Kd.R_drew)); exact (Kd.R_mono (Kd.R_far (p := ⟨gb110, 1, none⟩) (Kd.R_far (p := ⟨gb110, 0, none⟩) (Kd.R_types HO108.out BK110.out (by decide)) (fun _ hk => hk.2) (.int .i64 t105)) (fun _ hk => hk.2) (.slice Ao81 t106.length co81)) (fun _ h_ => h_.1))))) (below_size (bl_ HB))); replace HO_103000 := Aside0.mk (Kd.S_elder' (by (with_reducible repeat (first | apply Kd.S_alloc | apply Kd.S_drewN | apply Kd.S_drew)); exact (Kd.S_mono (Kd.S_far (p := ⟨gb110, 1, none⟩) (Kd.S_far (p := ⟨gb110, 0, none⟩) (Kd.S_types HO_103000.out BK110.out (by decide)) (fun _ hk => hk.2) (.int .i64 t105)) (fun _ hk => hk.2) (.slice Ao81 t106.length co81)) (fun _ h_ => h_.1))) (Kd.R_base ho0) hb); replace HO108 := Aside0.mk (Kd.R_elder' (by (with_reducible repeat (first | apply Kd.R_alloc | apply Kd.R_drewN | apply Kd.R_drew)); exact (Kd.R_mono (Kd.R_far (p := ⟨gb110, 1, none⟩) (Kd.R_far (p := ⟨gb110, 0, none⟩) (Kd.R_types HO108.out BK110.out (by decide)) (fun _ hk => hk.2) (.int .i64 t105)) (fun _ hk => hk.2) (.slice Ao81 t106.length co81)) (fun _ h_ => h_.1))) (Kd.R_base ho0) hb); replace BK101 := Aside0.mk (blk_below (pf_ BK101) hb); replace BK102 := Aside0.mk (blk_below (pf_ BK102) hb); replace BK104 := Aside0.mk (blk_below (pf_ BK104) hb); replace BK110 := Aside0.mk (blk_below (g := gb110) (o := .cells #[.int .i64 t105, .slice Ao81 t106.length co81] 43 (0, 0)) (by (with_reducible repeat (first | refine blk_drewN ?_ _ | refine blk_drew ?_ | refine blk_alloc ?_ _)); refine blk_put (cs := #[.int .i64 t105, .slice none 0 0]) ?_ 1 _ rfl; (with_reducible repeat (first | refine blk_drewN ?_ _ | refine blk_drew ?_ | refine blk_alloc ?_ _)); refine blk_put (cs := #[.int .i64 0, .slice none 0 0]) ?_ 0 _ rfl; (with_reducible repeat (first | refine blk_drewN ?_ _ | refine blk_drew ?_ | refine blk_alloc ?_ _)); exact BK110.out) hb); replace HB := hs_ HB hb; (try clear hb); (try clear hb2); (try clear hk); (try clear hi); (try clear ho0)) | ((with_reducible refine gate_dst (N := 17) rfl ?_); refine box_event ?hg (N := 17) ?hd (cs := #[.int .i64 0, .slice none 0 0]) (t := 43) ?hr ?_; (case hd => rfl); (case hg => rfl); (case hr => first | (go_simp; done) | (go_simp; rfl)); intro gb116 hg w84 hbox hb; have BK116 := Aside0.mk (hbox); have GW116 := Aside0.mk ((bs_ hg HB : w.heap.size ≤ gb116)); have GE116 := Aside0.mk ((bs_ hg HB : w.heap.size ≤ gb116)); have NB101_116 := Aside0.mk ((nl_ hg BK101 : gb101 ≠ gb116)); have NB116_101 := Aside0.mk ((ng_ hg BK101 : gb116 ≠ gb101)); have NB102_116 := Aside0.mk ((nl_ hg BK102 : gb102 ≠ gb116)); have NB116_102 := Aside0.mk ((ng_ hg BK102 : gb116 ≠ gb102)); have NB104_116 := Aside0.mk ((nl_ hg BK104 : gb104 ≠ gb116)); have NB116_104 := Aside0.mk ((ng_ hg BK104 : gb116 ≠ gb104)); have NB110_116 := Aside0.mk ((nl_ hg BK110 : gb110 ≠ gb116)); have NB116_110 := Aside0.mk ((ng_ hg BK110 : gb116 ≠ gb110)); replace HO_103000 := Aside0.mk (Kd.S_below (by (with_reducible repeat (first | apply Kd.S_alloc | apply Kd.S_drewN | apply Kd.S_drew)); exact HO_103000.out) hb); replace HO108 := Aside0.mk (Kd.R_below (rl_ HO108) hb); replace HO114 := Aside0.mk (Kd.R_below (rl_ HO114) hb); replace BK101 := bb_ BK101 hb; replace BK102 := bb_ BK102 hb; replace BK104 := bb_ BK104 hb; replace BK110 := bb_ BK110 hb; replace HB := hs_ HB hb; clear hb hbox hg; have hnb85 := NB116_101.out; have hnc85 := NB101_116.out; have hnb86 := NB116_102.out; have hnc86 := NB102_116.out; have hnb87 := NB116_104.out; have hnc87 := NB104_116.out; have hnb88 := NB116_110.out; have hnc88 := NB110_116.out; have hcz89_0 : w84.cell? ⟨gb116, 0, none⟩ = some (.int .i64 0) := (blk_cell BK116.out 0).trans rfl; have hcz89_1 : w84.cell? ⟨gb116, 1, none⟩ = some (.slice none 0 0) := (blk_cell BK116.out 1).trans rfl; have hfz89_0 := blk_frozen BK116.out 0; have hfz89_1 := blk_frozen BK116.out 1; obtain ⟨Ao90, co90, eo90⟩ := Kd.R_slice HO114.out; subst eo90; have hnb91 := NB102_101.out; have hnc91 := NB101_102.out; have hcz92_0 : w84.cell? ⟨gb102, 0, none⟩ = some (u103000) := (blk_cell BK102.out 0).trans rfl; have hfz92_0 := blk_frozen BK102.out 0; obtain ⟨Ao93, co93, eo93⟩ := Kd.S_slice HO_103000.out; subst eo93; have hcz94_0 : w84.cell? ⟨gb101, 0, none⟩ = some (.slice none 0 0) := (blk_cell BK101.out 0).trans rfl; have hfz94_0 := blk_frozen BK101.out 0))
           refine bodyPost_ret (results_ct rfl _ _ gb101 94 #[.slice Ao93 x103000_1.length co93] (0, 0) _ rfl (by (with_reducible repeat (first | refine blk_drewN ?_ _ | refine blk_drew ?_ | refine blk_alloc ?_ _)); refine blk_put (cs := #[.slice none 0 0]) ?_ 0 _ rfl; (with_reducible repeat (first | refine blk_drewN ?_ _ | refine blk_drew ?_ | refine blk_alloc ?_ _)); refine blk_far ?_ NB101_116.out _; (with_reducible repeat (first | refine blk_drewN ?_ _ | refine blk_drew ?_ | refine blk_alloc ?_ _)); refine blk_far ?_ NB101_116.out _; (with_reducible repeat (first | refine blk_drewN ?_ _ | refine blk_drew ?_ | refine blk_alloc ?_ _)); exact BK101.out) Try.underlying94 rfl (by kernel_rfl)) rfl ?_
           exact ⟨_, by first | rfl | (simp [errW_none, errW_some] <;> rfl) | (simp [*, errW_none, errW_some] <;> rfl), by (with_reducible repeat (first | apply Kd.S_alloc | apply Kd.S_drewN | apply Kd.S_drew)); exact Kd.S_mono (Kd.S_far (p := ⟨gb101, 0, none⟩) (Kd.S_far (p := ⟨gb116, 1, none⟩) (Kd.S_far (p := ⟨gb116, 0, none⟩) (Kd.S_types (Kd.S_types HO_103000.out BK116.out (by decide)) BK101.out (by decide)) (fun _ hk => hk.1.2) (.int .i64 t111)) (fun _ hk => hk.1.2) (.slice Ao90 t112.length co90)) (fun _ hk => hk.2) (.slice Ao93 x103000_1.length co93)) (fun _ hk => trivial), by repeat (first | (with_reducible first | exact HB.out | apply below_alloc | apply pw_below_drewN | apply below_drew1 | refine below_set ?_ GE101.out | refine below_set ?_ GE102.out | refine below_set ?_ GE104.out | refine below_set ?_ GE110.out | refine below_set ?_ GE116.out) | exact HB.out)⟩
         ·rw [if_neg c42] at H
          have c42b0 : ((t112.length : Int) == 1) = false := beq_eq_false_iff_ne.mpr c42
          have c42b1 : ((t112.length : Int) != 1) = true := bne_iff_ne.mpr c42
          simp only [Option.some.injEq, Prod.mk.injEq] at H
          obtain ⟨rfl, rfl⟩ := H
          have p103 : 0 ≤ (x52_1 : Int) := of_decide_eq_true (by first | (with_reducible assumption) | assumption)
          have q103 : x52_1 < (l1.length : Int) := of_decide_eq_true (by first | (with_reducible assumption) | assumption)
          obtain ⟨ad103, A103_1, c103_1, A103_3, c103_3, e103, hx103_0, hx103_1, hx103_2, hx103_3, hl103_1, hi103_1, hl103_3, hi103_3⟩ := at_T45 HR1.out x52_1 p103 q103
          cases e103
          replace hx103_0 := (HB.out.cell (World.block_lt_of_cell? w _ hx103_0)).trans hx103_0
          replace hx103_1 := (HB.out.cell (World.block_lt_of_cell? w _ hx103_1)).trans hx103_1
          replace hx103_2 := (HB.out.cell (World.block_lt_of_cell? w _ hx103_2)).trans hx103_2
          replace hx103_3 := (HB.out.cell (World.block_lt_of_cell? w _ hx103_3)).trans hx103_3
          have HR103_1 := Aside0.mk hi103_1
          have HC103_1 := Aside0.mk hl103_1
          clear hi103_1 hl103_1
          have HR103_3 := Aside0.mk hi103_3
          have HC103_3 := Aside0.mk hl103_3
          clear hi103_3 hl103_3
          replace p103 := eq_true p103
          replace q103 := eq_true q103
          go_wp2_with (first | ((with_reducible refine gate_dst (N := 14) rfl ?_); refine box_event ?hg (N := 14) ?hd (cs := #[.int .i64 0, .slice none 0 0, .int .i64 0, .slice none 0 0]) (t := 45) ?hr ?_; (case hd => rfl); (case hg => rfl); (case hr => first | (go_simp; done) | (go_simp; rfl)); intro gb104 hg w95 hbox hb; have BK104 := Aside0.mk (hbox); have GW104 := Aside0.mk ((bs_ hg HB : w.heap.size ≤ gb104)); have GE104 := Aside0.mk ((bs_ hg HB : w.heap.size ≤ gb104)); have NB101_104 := Aside0.mk ((nl_ hg BK101 : gb101 ≠ gb104)); have NB104_101 := Aside0.mk ((ng_ hg BK101 : gb104 ≠ gb101)); have NB102_104 := Aside0.mk ((nl_ hg BK102 : gb102 ≠ gb104)); have NB104_102 := Aside0.mk ((ng_ hg BK102 : gb104 ≠ gb102)); replace HO_103000 := Aside0.mk (Kd.S_below (by (with_reducible repeat (first | apply Kd.S_alloc | apply Kd.S_drewN | apply Kd.S_drew)); exact HO_103000.out) hb); replace BK101 := bb_ BK101 hb; replace BK102 := bb_ BK102 hb; replace HB := hs_ HB hb; clear hb hbox hg; have hnb96 := NB104_101.out; have hnc96 := NB101_104.out; have hnb97 := NB104_102.out; have hnc97 := NB102_104.out; have hcz98_0 : w95.cell? ⟨gb104, 0, none⟩ = some (.int .i64 0) := (blk_cell BK104.out 0).trans rfl; have hcz98_1 : w95.cell? ⟨gb104, 1, none⟩ = some (.slice none 0 0) := (blk_cell BK104.out 1).trans rfl; have hcz98_2 : w95.cell? ⟨gb104, 2, none⟩ = some (.int .i64 0) := (blk_cell BK104.out 2).trans rfl; have hcz98_3 : w95.cell? ⟨gb104, 3, none⟩ = some (.slice none 0 0) := (blk_cell BK104.out 3).trans rfl; have hfz98_0 := blk_frozen BK104.out 0; have hfz98_1 := blk_frozen BK104.out 1; have hfz98_2 := blk_frozen BK104.out 2; have hfz98_3 := blk_frozen BK104.out 3) | ((with_reducible refine gate_callee (f := 40) rfl ?_); refine goesL_ (some 59) rfl rfl Try.func40 (by kernel_rfl) rfl #[.agg #[.int .i64 ((rd_T45 l1 x52_1).f0.f0), .slice A103_1 ((rd_T45 l1 x52_1).f0.f1).length c103_1]] rfl (by (try simp only [List.map_toArray, List.map_cons, List.map_nil]); first | done | rfl | (simp only [List.length_drop, List.length_take]; rfl)) ?_; (with_reducible refine (level_Norm.calls k1 ((rd_T45 l1 x52_1).f0.f0) _ _ ((rd_T45 l1 x52_1).f0.f1) t105 t106 t109 _ ?side1 ?side2 A10.out).mono ?_); (case side1 => exact Kd.C_below HR103_1.out (bl_ HB)); (case side2 => exact HC103_1.out); rintro e w99 ⟨v107, rfl, ho0, hb⟩; refine ⟨_, rfl, ?_⟩; have HO108 := Aside0.mk (Kd.R_lower ho0 (below_size (bl_ HB))); replace HO_103000 := Aside0.mk (Kd.S_elder' (by (with_reducible repeat (first | apply Kd.S_alloc | apply Kd.S_drewN | apply Kd.S_drew)); exact (Kd.S_mono (Kd.S_far (p := ⟨gb104, 3, none⟩) (Kd.S_far (p := ⟨gb104, 2, none⟩) (Kd.S_far (p := ⟨gb104, 1, none⟩) (Kd.S_far (p := ⟨gb104, 0, none⟩) (Kd.S_types HO_103000.out BK104.out (by decide)) (fun _ hk => hk.2) (.int .i64 ((rd_T45 l1 x52_1).f0.f0))) (fun _ hk => hk.2) (.slice A103_1 ((rd_T45 l1 x52_1).f0.f1).length c103_1)) (fun _ hk => hk.2) (.int .i64 ((rd_T45 l1 x52_1).f1.f0))) (fun _ hk => hk.2) (.slice A103_3 ((rd_T45 l1 x52_1).f1.f1).length c103_3)) (fun _ h_ => h_.1))) (Kd.R_base ho0) hb); replace BK101 := Aside0.mk (blk_below (pf_ BK101) hb); replace BK102 := Aside0.mk (blk_below (pf_ BK102) hb); replace BK104 := Aside0.mk (blk_below (g := gb104) (o := .cells #[.int .i64 ((rd_T45 l1 x52_1).f0.f0), .slice A103_1 ((rd_T45 l1 x52_1).f0.f1).length c103_1, .int .i64 ((rd_T45 l1 x52_1).f1.f0), .slice A103_3 ((rd_T45 l1 x52_1).f1.f1).length c103_3] 45 (0, 0)) (by (with_reducible repeat (first | refine blk_drewN ?_ _ | refine blk_drew ?_ | refine blk_alloc ?_ _)); refine blk_put (cs := #[.int .i64 ((rd_T45 l1 x52_1).f0.f0), .slice A103_1 ((rd_T45 l1 x52_1).f0.f1).length c103_1, .int .i64 ((rd_T45 l1 x52_1).f1.f0), .slice none 0 0]) ?_ 3 _ rfl; (with_reducible repeat (first | refine blk_drewN ?_ _ | refine blk_drew ?_ | refine blk_alloc ?_ _)); refine blk_put (cs := #[.int .i64 ((rd_T45 l1 x52_1).f0.f0), .slice A103_1 ((rd_T45 l1 x52_1).f0.f1).length c103_1, .int .i64 0, .slice none 0 0]) ?_ 2 _ rfl; (with_reducible repeat (first | refine blk_drewN ?_ _ | refine blk_drew ?_ | refine blk_alloc ?_ _)); refine blk_put (cs := #[.int .i64 ((rd_T45 l1 x52_1).f0.f0), .slice none 0 0, .int .i64 0, .slice none 0 0]) ?_ 1 _ rfl; (with_reducible repeat (first | refine blk_drewN ?_ _ | refine blk_drew ?_ | refine blk_alloc ?_ _)); refine blk_put (cs := #[.int .i64 0, .slice none 0 0, .int .i64 0, .slice none 0 0]) ?_ 0 _ rfl; (with_reducible repeat (first | refine blk_drewN ?_ _ | refine blk_drew ?_ | refine blk_alloc ?_ _)); exact BK104.out) hb); replace HB := hs_ HB hb; (try clear hb); (try clear hb2); (try clear hk); (try clear hi); (try clear ho0)) | ((with_reducible refine gate_dst (N := 15) rfl ?_); refine box_event ?hg (N := 15) ?hd (cs := #[.int .i64 0, .slice none 0 0]) (t := 43) ?hr ?_; (case hd => rfl); (case hg => rfl); (case hr => first | (go_simp; done) | (go_simp; rfl)); intro gb110 hg w100 hbox hb; have BK110 := Aside0.mk (hbox); have GW110 := Aside0.mk ((bs_ hg HB : w.heap.size ≤ gb110)); have GE110 := Aside0.mk ((bs_ hg HB : w.heap.size ≤ gb110)); have NB101_110 := Aside0.mk ((nl_ hg BK101 : gb101 ≠ gb110)); have NB110_101 := Aside0.mk ((ng_ hg BK101 : gb110 ≠ gb101)); have NB102_110 := Aside0.mk ((nl_ hg BK102 : gb102 ≠ gb110)); have NB110_102 := Aside0.mk ((ng_ hg BK102 : gb110 ≠ gb102)); have NB104_110 := Aside0.mk ((nl_ hg BK104 : gb104 ≠ gb110)); have NB110_104 := Aside0.mk ((ng_ hg BK104 : gb110 ≠ gb104)); replace HO_103000 := Aside0.mk (Kd.S_below (by (with_reducible repeat (first | apply Kd.S_alloc | apply Kd.S_drewN | apply Kd.S_drew)); exact HO_103000.out) hb); replace HO108 := Aside0.mk (Kd.R_below (rl_ HO108) hb); replace BK101 := bb_ BK101 hb; replace BK102 := bb_ BK102 hb; replace BK104 := bb_ BK104 hb; replace HB := hs_ HB hb; clear hb hbox hg; have hnb101 := NB110_101.out; have hnc101 := NB101_110.out; have hnb102 := NB110_102.out; have hnc102 := NB102_110.out; have hnb103 := NB110_104.out; have hnc103 := NB104_110.out; have hcz104_0 : w100.cell? ⟨gb110, 0, none⟩ = some (.int .i64 0) := (blk_cell BK110.out 0).trans rfl; have hcz104_1 : w100.cell? ⟨gb110, 1, none⟩ = some (.slice none 0 0) := (blk_cell BK110.out 1).trans rfl; have hfz104_0 := blk_frozen BK110.out 0; have hfz104_1 := blk_frozen BK110.out 1; obtain ⟨Ao105, co105, eo105⟩ := Kd.R_slice HO108.out; subst eo105; have hcz106_0 : w100.cell? ⟨gb104, 0, none⟩ = some (.int .i64 ((rd_T45 l1 x52_1).f0.f0)) := (blk_cell BK104.out 0).trans rfl; have hcz106_1 : w100.cell? ⟨gb104, 1, none⟩ = some (.slice A103_1 ((rd_T45 l1 x52_1).f0.f1).length c103_1) := (blk_cell BK104.out 1).trans rfl; have hcz106_2 : w100.cell? ⟨gb104, 2, none⟩ = some (.int .i64 ((rd_T45 l1 x52_1).f1.f0)) := (blk_cell BK104.out 2).trans rfl; have hcz106_3 : w100.cell? ⟨gb104, 3, none⟩ = some (.slice A103_3 ((rd_T45 l1 x52_1).f1.f1).length c103_3) := (blk_cell BK104.out 3).trans rfl; have hfz106_0 := blk_frozen BK104.out 0; have hfz106_1 := blk_frozen BK104.out 1; have hfz106_2 := blk_frozen BK104.out 2; have hfz106_3 := blk_frozen BK104.out 3) | ((with_reducible refine gate_callee (f := 40) rfl ?_); refine goesL_ (some 65) rfl rfl Try.func40 (by kernel_rfl) rfl #[.agg #[.int .i64 ((rd_T45 l1 x52_1).f1.f0), .slice A103_3 ((rd_T45 l1 x52_1).f1.f1).length c103_3]] rfl (by (try simp only [List.map_toArray, List.map_cons, List.map_nil]); first | done | rfl | (simp only [List.length_drop, List.length_take]; rfl)) ?_; (with_reducible refine (level_Norm.calls k1 ((rd_T45 l1 x52_1).f1.f0) _ _ ((rd_T45 l1 x52_1).f1.f1) t111 t112 t115 _ ?side1 ?side2 A11.out).mono ?_); (case side1 => exact Kd.C_below HR103_3.out (bl_ HB)); (case side2 => exact HC103_3.out); rintro e w107 ⟨v113, rfl, ho0, hb⟩; refine ⟨_, rfl, ?_⟩; have HO114 := Aside0.mk (Kd.R_lower (Kd.R_new' ho0 (Kd.R_lt (by (with_reducible repeat (first | apply Kd.R_alloc | apply Kd.R_drewN | apply Kd.R_drew)); exact (Kd.R_mono (Kd.R_far (p := ⟨gb110, 1, none⟩) (Kd.R_far (p := ⟨gb110, 0, none⟩) (Kd.R_types HO108.out BK110.out (by decide)) (fun _ hk => hk.2) (.int .i64 t105)) (fun _ hk => hk.2) (.slice Ao105 t106.length co105)) (fun _ h_ => h_.1))))) (below_size (bl_ HB))); replace HO_103000 := Aside0.mk (Kd.S_elder' (by (with_reducible repeat (first | apply Kd.S_alloc | apply Kd.S_drewN | apply Kd.S_drew)); exact (Kd.S_mono (Kd.S_far (p := ⟨gb110, 1, none⟩) (Kd.S_far (p := ⟨gb110, 0, none⟩) (Kd.S_types HO_103000.out BK110.out (by decide)) (fun _ hk => hk.2) (.int .i64 t105)) (fun _ hk => hk.2) (.slice Ao105 t106.length co105)) (fun _ h_ => h_.1))) (Kd.R_base ho0) hb); replace HO108 := Aside0.mk (Kd.R_elder' (by (with_reducible repeat (first | apply Kd.R_alloc | apply Kd.R_drewN | apply Kd.R_drew)); exact (Kd.R_mono (Kd.R_far (p := ⟨gb110, 1, none⟩) (Kd.R_far (p := ⟨gb110, 0, none⟩) (Kd.R_types HO108.out BK110.out (by decide)) (fun _ hk => hk.2) (.int .i64 t105)) (fun _ hk => hk.2) (.slice Ao105 t106.length co105)) (fun _ h_ => h_.1))) (Kd.R_base ho0) hb); replace BK101 := Aside0.mk (blk_below (pf_ BK101) hb); replace BK102 := Aside0.mk (blk_below (pf_ BK102) hb); replace BK104 := Aside0.mk (blk_below (pf_ BK104) hb); replace BK110 := Aside0.mk (blk_below (g := gb110) (o := .cells #[.int .i64 t105, .slice Ao105 t106.length co105] 43 (0, 0)) (by (with_reducible repeat (first | refine blk_drewN ?_ _ | refine blk_drew ?_ | refine blk_alloc ?_ _)); refine blk_put (cs := #[.int .i64 t105, .slice none 0 0]) ?_ 1 _ rfl; (with_reducible repeat (first | refine blk_drewN ?_ _ | refine blk_drew ?_ | refine blk_alloc ?_ _)); refine blk_put (cs := #[.int .i64 0, .slice none 0 0]) ?_ 0 _ rfl; (with_reducible repeat (first | refine blk_drewN ?_ _ | refine blk_drew ?_ | refine blk_alloc ?_ _)); exact BK110.out) hb); replace HB := hs_ HB hb; (try clear hb); (try clear hb2); (try clear hk); (try clear hi); (try clear ho0)) | ((with_reducible refine gate_dst (N := 17) rfl ?_); refine box_event ?hg (N := 17) ?hd (cs := #[.int .i64 0, .slice none 0 0]) (t := 43) ?hr ?_; (case hd => rfl); (case hg => rfl); (case hr => first | (go_simp; done) | (go_simp; rfl)); intro gb116 hg w108 hbox hb; have BK116 := Aside0.mk (hbox); have GW116 := Aside0.mk ((bs_ hg HB : w.heap.size ≤ gb116)); have GE116 := Aside0.mk ((bs_ hg HB : w.heap.size ≤ gb116)); have NB101_116 := Aside0.mk ((nl_ hg BK101 : gb101 ≠ gb116)); have NB116_101 := Aside0.mk ((ng_ hg BK101 : gb116 ≠ gb101)); have NB102_116 := Aside0.mk ((nl_ hg BK102 : gb102 ≠ gb116)); have NB116_102 := Aside0.mk ((ng_ hg BK102 : gb116 ≠ gb102)); have NB104_116 := Aside0.mk ((nl_ hg BK104 : gb104 ≠ gb116)); have NB116_104 := Aside0.mk ((ng_ hg BK104 : gb116 ≠ gb104)); have NB110_116 := Aside0.mk ((nl_ hg BK110 : gb110 ≠ gb116)); have NB116_110 := Aside0.mk ((ng_ hg BK110 : gb116 ≠ gb110)); replace HO_103000 := Aside0.mk (Kd.S_below (by (with_reducible repeat (first | apply Kd.S_alloc | apply Kd.S_drewN | apply Kd.S_drew)); exact HO_103000.out) hb); replace HO108 := Aside0.mk (Kd.R_below (rl_ HO108) hb); replace HO114 := Aside0.mk (Kd.R_below (rl_ HO114) hb); replace BK101 := bb_ BK101 hb; replace BK102 := bb_ BK102 hb; replace BK104 := bb_ BK104 hb; replace BK110 := bb_ BK110 hb; replace HB := hs_ HB hb; clear hb hbox hg; have hnb109 := NB116_101.out; have hnc109 := NB101_116.out; have hnb110 := NB116_102.out; have hnc110 := NB102_116.out; have hnb111 := NB116_104.out; have hnc111 := NB104_116.out; have hnb112 := NB116_110.out; have hnc112 := NB110_116.out; have hcz113_0 : w108.cell? ⟨gb116, 0, none⟩ = some (.int .i64 0) := (blk_cell BK116.out 0).trans rfl; have hcz113_1 : w108.cell? ⟨gb116, 1, none⟩ = some (.slice none 0 0) := (blk_cell BK116.out 1).trans rfl; have hfz113_0 := blk_frozen BK116.out 0; have hfz113_1 := blk_frozen BK116.out 1; obtain ⟨Ao114, co114, eo114⟩ := Kd.R_slice HO114.out; subst eo114; have hnb115 := NB102_101.out; have hnc115 := NB101_102.out; have hcz116_0 : w108.cell? ⟨gb102, 0, none⟩ = some (u103000) := (blk_cell BK102.out 0).trans rfl; have hfz116_0 := blk_frozen BK102.out 0; obtain ⟨Ao117, co117, eo117⟩ := Kd.S_slice HO_103000.out; subst eo117; have hcz118_0 : w108.cell? ⟨gb101, 0, none⟩ = some (.slice none 0 0) := (blk_cell BK101.out 0).trans rfl; have hfz118_0 := blk_frozen BK101.out 0))
          refine bodyPost_ret (results_ct rfl _ _ gb101 94 #[.slice Ao117 x103000_1.length co117] (0, 0) _ rfl (by (with_reducible repeat (first | refine blk_drewN ?_ _ | refine blk_drew ?_ | refine blk_alloc ?_ _)); refine blk_put (cs := #[.slice none 0 0]) ?_ 0 _ rfl; (with_reducible repeat (first | refine blk_drewN ?_ _ | refine blk_drew ?_ | refine blk_alloc ?_ _)); refine blk_far ?_ NB101_116.out _; (with_reducible repeat (first | refine blk_drewN ?_ _ | refine blk_drew ?_ | refine blk_alloc ?_ _)); refine blk_far ?_ NB101_116.out _; (with_reducible repeat (first | refine blk_drewN ?_ _ | refine blk_drew ?_ | refine blk_alloc ?_ _)); exact BK101.out) Try.underlying94 rfl (by kernel_rfl)) rfl ?_
          exact ⟨_, by first | rfl | (simp [errW_none, errW_some] <;> rfl) | (simp [*, errW_none, errW_some] <;> rfl), by (with_reducible repeat (first | apply Kd.S_alloc | apply Kd.S_drewN | apply Kd.S_drew)); exact Kd.S_mono (Kd.S_far (p := ⟨gb101, 0, none⟩) (Kd.S_far (p := ⟨gb116, 1, none⟩) (Kd.S_far (p := ⟨gb116, 0, none⟩) (Kd.S_types (Kd.S_types HO_103000.out BK116.out (by decide)) BK101.out (by decide)) (fun _ hk => hk.1.2) (.int .i64 t111)) (fun _ hk => hk.1.2) (.slice Ao114 t112.length co114)) (fun _ hk => hk.2) (.slice Ao117 x103000_1.length co117)) (fun _ hk => trivial), by repeat (first | (with_reducible first | exact HB.out | apply below_alloc | apply pw_below_drewN | apply below_drew1 | refine below_set ?_ GE101.out | refine below_set ?_ GE102.out | refine below_set ?_ GE104.out | refine below_set ?_ GE110.out | refine below_set ?_ GE116.out) | exact HB.out)⟩
       ·rw [if_neg c9] at H
        exact absurd H (by simp)
      ·rw [if_neg c8] at H
       exact absurd H (by simp)
     ·rw [if_neg c7] at H
      have c7b0 : decide (x52_1 < (l1.length : Int)) = false := decide_eq_false c7
      clear c7
      simp only [Option.some.injEq, Prod.mk.injEq] at H
      obtain ⟨rfl, rfl⟩ := H
      have hnb119 := NB102_101.out
      have hnc119 := NB101_102.out
      have hcz120_0 : wr.cell? ⟨gb102, 0, none⟩ = some (u103000) := (blk_cell BK102.out 0).trans rfl
      have hfz120_0 := blk_frozen BK102.out 0
      obtain ⟨Ao121, co121, eo121⟩ := Kd.S_slice HO_103000.out
      subst eo121
      have hcz122_0 : wr.cell? ⟨gb101, 0, none⟩ = some (.slice none 0 0) := (blk_cell BK101.out 0).trans rfl
      have hfz122_0 := blk_frozen BK101.out 0
      go_wp2
      refine bodyPost_ret (results_ct rfl _ _ gb101 94 #[.slice Ao121 x103000_1.length co121] (0, 0) _ rfl (by (with_reducible repeat (first | refine blk_drewN ?_ _ | refine blk_drew ?_ | refine blk_alloc ?_ _)); refine blk_put (cs := #[.slice none 0 0]) ?_ 0 _ rfl; (with_reducible repeat (first | refine blk_drewN ?_ _ | refine blk_drew ?_ | refine blk_alloc ?_ _)); exact BK101.out) Try.underlying94 rfl (by kernel_rfl)) rfl ?_
      exact ⟨_, by first | rfl | (simp [errW_none, errW_some] <;> rfl) | (simp [*, errW_none, errW_some] <;> rfl), by (with_reducible repeat (first | apply Kd.S_alloc | apply Kd.S_drewN | apply Kd.S_drew)); exact Kd.S_mono (Kd.S_far (p := ⟨gb101, 0, none⟩) (Kd.S_types HO_103000.out BK101.out (by decide)) (fun _ hk => hk.2) (.slice Ao121 x103000_1.length co121)) (fun _ hk => trivial), by repeat (first | (with_reducible first | exact HB.out | apply below_alloc | apply pw_below_drewN | apply below_drew1 | refine below_set ?_ GE101.out | refine below_set ?_ GE102.out) | exact HB.out)⟩
set_option maxHeartbeats 8000000 in
set_option maxRecDepth 100000 in
theorem lsolve_ask.bad (k : Nat) (a0 : Int) (A1 : Option Addr) (c1 : Nat) (l1 : List (S45)) (w : World) (hr1 : Kd.C k45 w A1 l1.length l1) (hc1 : l1.length ≤ c1) (hbad : ∃ x ∈ l1, ¬ (M.okL a0 x.f0 = true ∧ M.okL a0 x.f1 = true)) :
  Calls Try.prog 70 #[.int .i64 a0, .slice A1 l1.length c1] w fun e w' => e = .returned (.tuple #[.agg #[.slice none 0 0], .int .i64 13]) ∧ Below w.heap.size w w' := by
 have hu94 := Try.underlying94
 have hu45 := Try.underlying45
 have hu43 := Try.underlying43
 have hu101 := Try.underlying101
 have HR1 := Aside0.mk hr1
 have HC1 := Aside0.mk hc1
 clear hr1 hc1
 have HB := Aside0.mk (Below.refl w.heap.size w)
 go_enter Try.func70, Try.ntmps70
 go_wp2_with (first | ((with_reducible refine gate_dst (N := 4) rfl ?_); refine box_event ?hg (N := 4) ?hd (cs := #[.slice none 0 0]) (t := 94) ?hr ?_; (case hd => rfl); (case hg => rfl); (case hr => first | (go_simp; done) | (go_simp; rfl)); intro gb101 hg w3 hbox hb; have BK101 := Aside0.mk (hbox); have GW101 := Aside0.mk ((bs_ hg HB : w.heap.size ≤ gb101)); have GE101 := Aside0.mk ((bs_ hg HB : w.heap.size ≤ gb101)); replace HB := hs_ HB hb; clear hb hbox hg) | ((with_reducible refine gate_dst (N := 6) rfl ?_); refine box_event ?hg (N := 6) ?hd (cs := #[.slice none 0 0]) (t := 94) ?hr ?_; (case hd => rfl); (case hg => rfl); (case hr => first | (go_simp; done) | (go_simp; rfl)); intro gb102 hg w4 hbox hb; have BK102 := Aside0.mk (hbox); have GW102 := Aside0.mk ((bs_ hg HB : w.heap.size ≤ gb102)); have GE102 := Aside0.mk ((bs_ hg HB : w.heap.size ≤ gb102)); have NB101_102 := Aside0.mk ((nl_ hg BK101 : gb101 ≠ gb102)); have NB102_101 := Aside0.mk ((ng_ hg BK101 : gb102 ≠ gb101)); replace BK101 := bb_ BK101 hb; replace HB := hs_ HB hb; clear hb hbox hg; have hnb5 := NB102_101.out; have hnc5 := NB101_102.out; have hcz6_0 : w4.cell? ⟨gb102, 0, none⟩ = some (.slice none 0 0) := (blk_cell BK102.out 0).trans rfl; have hfz6_0 := blk_frozen BK102.out 0))

 have HBAD := Aside0.mk hbad
 clear hbad
 have hmax := Kd.C_max HR1.out
 go_loopw [22] (fun i wr => ∃ q : Nat, q ≤ l1.length ∧ i = .int .i64 (q : Int) ∧ Aside0 (∀ j, j < q → ∀ x, l1[j]? = some x → M.okL a0 x.f0 = true ∧ M.okL a0 x.f1 = true) ∧ Aside0 (wr.heap[gb101]? = some (.cells #[(.slice none 0 0)] 94 (0, 0))) ∧ Aside0 (wr.heap[gb102]? = some (.cells #[(.slice none 0 0)] 94 (0, 0))) ∧ Aside0 (Below w.heap.size w wr))
   (fun i _ => l1.length - (intOf i).toNat)
 case atStart => exact ⟨0, Nat.zero_le _, rfl, ⟨fun j hj => absurd hj (Nat.not_lt_zero _)⟩, ⟨blk_far BK101.out NB101_102.out _⟩, ⟨blk_put BK102.out 0 _ rfl⟩, ⟨(bl_ HB)⟩⟩
 case round =>
  clear BK101 BK102 HB hcz6_0 hfz6_0
  obtain ⟨q, hq, rfl, HQ, BK101, BK102, HB⟩ := hrel
  by_cases hlt : q < l1.length
  ·obtain ⟨ad3, A3_1, c3_1, A3_3, c3_3, e3, hx3_0, hx3_1, hx3_2, hx3_3, hl3_1, hi3_1, hl3_3, hi3_3⟩ := at_T45 HR1.out (q : Int) (by omega) (by omega)
   cases e3
   replace hx3_0 := (HB.out.cell (World.block_lt_of_cell? w _ hx3_0)).trans hx3_0
   replace hx3_1 := (HB.out.cell (World.block_lt_of_cell? w _ hx3_1)).trans hx3_1
   replace hx3_2 := (HB.out.cell (World.block_lt_of_cell? w _ hx3_2)).trans hx3_2
   replace hx3_3 := (HB.out.cell (World.block_lt_of_cell? w _ hx3_3)).trans hx3_3
   simp only [Int.toNat_natCast] at hx3_0 hx3_1 hx3_2 hx3_3
   go_wp2
   have hmem : rd_T45 l1 (q : Int) ∈ l1 := by
    simp only [rd_T45, Int.toNat_natCast, List.getD_eq_getElem?_getD, List.getElem?_eq_getElem hlt, Option.getD_some]
    exact List.getElem_mem hlt
   have hat : l1[q]? = some (rd_T45 l1 (q : Int)) := by
    simp only [rd_T45, Int.toNat_natCast, List.getD_eq_getElem?_getD, List.getElem?_eq_getElem hlt, Option.getD_some]
   go_loopw [31] (fun j wr' => ∃ b : Nat, b ≤ 2 ∧ j = .int .i64 (b : Int) ∧ Aside0 (b = 1 → M.okL a0 (rd_T45 l1 (q : Int)).f0 = true) ∧ Aside0 (b = 2 → M.okL a0 (rd_T45 l1 (q : Int)).f0 = true ∧ M.okL a0 (rd_T45 l1 (q : Int)).f1 = true) ∧ Aside0 (wr'.heap[gb101]? = some (.cells #[(.slice none 0 0)] 94 (0, 0))) ∧ Aside0 (wr'.heap[gb102]? = some (.cells #[(.slice none 0 0)] 94 (0, 0))) ∧ Aside0 (Below w.heap.size w wr'))
     (fun j _ => 2 - (intOf j).toNat)
   case atStart => exact ⟨0, by omega, rfl, ⟨fun h => by omega⟩, ⟨fun h => by omega⟩, ⟨blk_alloc BK101.out _⟩, ⟨blk_alloc BK102.out _⟩, ⟨(bl_ HB)⟩⟩
   case round =>
    clear BK101 BK102 HB
    obtain ⟨b, hb, rfl, HI1, HI2, BK101, BK102, HB⟩ := hrel
    by_cases hb2 : b < 2
    ·obtain hb0 | hb1 : b = 0 ∨ b = 1 := by omega
     ·subst hb0
      have hcC := Kd.C_below hi3_1 HB.out
      obtain ⟨kN, hN⟩ := (M.Norm_all (rd_T45 l1 (q : Int)).f0.f0 (rd_T45 l1 (q : Int)).f0.f1).ex
      obtain ⟨kB, hB⟩ := (M.Bound_all (rd_T45 l1 (q : Int)).f0.f0 (rd_T45 l1 (q : Int)).f0.f1).ex
      rw [show (((0 : Nat) : Int)) = 0 from rfl]
      cases hrt : M.rightB (rd_T45 l1 (q : Int)).f0.f0 (rd_T45 l1 (q : Int)).f0.f1
      ·have e13 : M.normR (rd_T45 l1 (q : Int)).f0.f0 (rd_T45 l1 (q : Int)).f0.f1 = (0, [], 13) := by unfold M.normR; rw [hrt]; rfl
       rw [e13] at hN
       go_wp2_with fail
       refine (level_Norm.calls kN (rd_T45 l1 (q : Int)).f0.f0 _ _ (rd_T45 l1 (q : Int)).f0.f1 _ _ _ _ (Kd.C_alloc hcC _) hl3_1 hN).mono ?_
       rintro e w1 ⟨v1, rfl, hR, hb⟩
       obtain ⟨Ax, cx, rfl⟩ := Kd.R_slice hR
       replace BK101 := bb_ BK101 hb
       replace BK102 := bb_ BK102 hb
       replace HB := hs_ HB hb
       clear hR hb
       have hcz9 : (w1.alloc (.cells #[.int .i64 0, .slice Ax 0 cx] 43)).cell? ⟨gb102, 0, none⟩ = some (.slice none 0 0) := (blk_cell (blk_alloc BK102.out _) 0).trans rfl
       have hfz9 := blk_frozen (blk_alloc BK102.out (.cells #[.int .i64 0, .slice Ax 0 cx] 43)) 0
       have hcz8 : (w1.alloc (.cells #[.int .i64 0, .slice Ax 0 cx] 43)).cell? ⟨gb101, 0, none⟩ = some (.slice none 0 0) := (blk_cell (blk_alloc BK101.out _) 0).trans rfl
       have hfz8 := blk_frozen (blk_alloc BK101.out (.cells #[.int .i64 0, .slice Ax 0 cx] 43)) 0
       have hn9 := NB101_102.out
       go_wp2
       refine bodyPost_ret (results_ct rfl _ _ gb101 94 #[.slice none 0 0] (0, 0) _ rfl (by (with_reducible repeat (first | refine blk_drewN ?_ _ | refine blk_drew ?_ | refine blk_alloc ?_ _)); refine blk_put (cs := #[.slice none 0 0]) ?_ 0 _ rfl; (with_reducible repeat (first | refine blk_drewN ?_ _ | refine blk_drew ?_ | refine blk_alloc ?_ _)); exact BK101.out) Try.underlying94 rfl (by kernel_rfl)) rfl ?_
       exact ⟨rfl, (bl_ HB)⟩
      ·have e0 : M.normR (rd_T45 l1 (q : Int)).f0.f0 (rd_T45 l1 (q : Int)).f0.f1 = (M.zN (rd_T45 l1 (q : Int)).f0.f0 (M.can (rd_T45 l1 (q : Int)).f0.f1), M.can (rd_T45 l1 (q : Int)).f0.f1, 0) := by unfold M.normR; rw [hrt]; rfl
       rw [e0] at hN
       go_wp2_with fail
       refine (level_Norm.calls kN (rd_T45 l1 (q : Int)).f0.f0 _ _ (rd_T45 l1 (q : Int)).f0.f1 _ _ _ _ (Kd.C_alloc hcC _) hl3_1 hN).mono ?_
       rintro e w1 ⟨v1, rfl, hR, hb⟩
       obtain ⟨Ax, cx, rfl⟩ := Kd.R_slice hR
       have BK10 := Aside0.mk (blk_below (World.alloc_heap_new wr (.cells #[.int .i64 (rd_T45 l1 (q : Int)).f0.f0, .slice A3_1 (rd_T45 l1 (q : Int)).f0.f1.length c3_1] 43)) hb)
       replace BK101 := bb_ BK101 hb
       replace BK102 := bb_ BK102 hb
       replace HB := hs_ HB hb
       have hcC1 := Kd.C_below hi3_1 HB.out
       have z0 : (w1.alloc (.cells #[.int .i64 (M.zN (rd_T45 l1 (q : Int)).f0.f0 (M.can (rd_T45 l1 (q : Int)).f0.f1)), .slice Ax (M.can (rd_T45 l1 (q : Int)).f0.f1).length cx] 43)).cell? ⟨wr.heap.size, 0, none⟩ = some (.int .i64 (rd_T45 l1 (q : Int)).f0.f0) := (blk_cell (blk_alloc BK10.out _) 0).trans rfl
       have z1 : (w1.alloc (.cells #[.int .i64 (M.zN (rd_T45 l1 (q : Int)).f0.f0 (M.can (rd_T45 l1 (q : Int)).f0.f1)), .slice Ax (M.can (rd_T45 l1 (q : Int)).f0.f1).length cx] 43)).cell? ⟨wr.heap.size, 1, none⟩ = some (.slice A3_1 (rd_T45 l1 (q : Int)).f0.f1.length c3_1) := (blk_cell (blk_alloc BK10.out _) 1).trans rfl
       clear hR hb
       go_wp2_with fail
       refine (level_Bound.calls kB (rd_T45 l1 (q : Int)).f0.f0 _ _ (rd_T45 l1 (q : Int)).f0.f1 _ _ (Kd.C_alloc hcC1 _) hl3_1 hB).mono ?_
       rintro e w2 ⟨rfl, hb⟩
       replace BK101 := bb_ BK101 hb
       replace BK102 := bb_ BK102 hb
       replace HB := hs_ HB hb
       clear hb z0 z1 BK10
       by_cases hle : M.bndR (rd_T45 l1 (q : Int)).f0.f0 (rd_T45 l1 (q : Int)).f0.f1 ≤ a0
       ·have hgt : (M.bndR (rd_T45 l1 (q : Int)).f0.f0 (rd_T45 l1 (q : Int)).f0.f1 > a0) = False := by simp; omega
        go_wp2
        go_roundw
        case rel => exact ⟨0+1, by omega, by go_num, ⟨fun h => by exact (by simp only [M.okL, hrt, decide_eq_true hle, Bool.and_self])⟩, ⟨fun h => by omega⟩, BK101, BK102, HB⟩
        case measure => simp [intOf]
       ·have hgt : (M.bndR (rd_T45 l1 (q : Int)).f0.f0 (rd_T45 l1 (q : Int)).f0.f1 > a0) = True := by simp; omega
        have hcz9 : w2.cell? ⟨gb102, 0, none⟩ = some (.slice none 0 0) := (blk_cell BK102.out 0).trans rfl
        have hfz9 := blk_frozen BK102.out 0
        have hcz8 : w2.cell? ⟨gb101, 0, none⟩ = some (.slice none 0 0) := (blk_cell BK101.out 0).trans rfl
        have hfz8 := blk_frozen BK101.out 0
        have hn9 := NB101_102.out
        go_wp2
        refine bodyPost_ret (results_ct rfl _ _ gb101 94 #[.slice none 0 0] (0, 0) _ rfl (by (with_reducible repeat (first | refine blk_drewN ?_ _ | refine blk_drew ?_ | refine blk_alloc ?_ _)); refine blk_put (cs := #[.slice none 0 0]) ?_ 0 _ rfl; (with_reducible repeat (first | refine blk_drewN ?_ _ | refine blk_drew ?_ | refine blk_alloc ?_ _)); exact BK101.out) Try.underlying94 rfl (by kernel_rfl)) rfl ?_
        exact ⟨rfl, (bl_ HB)⟩
     ·subst hb1
      have hcC := Kd.C_below hi3_3 HB.out
      obtain ⟨kN, hN⟩ := (M.Norm_all (rd_T45 l1 (q : Int)).f1.f0 (rd_T45 l1 (q : Int)).f1.f1).ex
      obtain ⟨kB, hB⟩ := (M.Bound_all (rd_T45 l1 (q : Int)).f1.f0 (rd_T45 l1 (q : Int)).f1.f1).ex
      rw [show (((1 : Nat) : Int)) = 1 from rfl]
      cases hrt : M.rightB (rd_T45 l1 (q : Int)).f1.f0 (rd_T45 l1 (q : Int)).f1.f1
      ·have e13 : M.normR (rd_T45 l1 (q : Int)).f1.f0 (rd_T45 l1 (q : Int)).f1.f1 = (0, [], 13) := by unfold M.normR; rw [hrt]; rfl
       rw [e13] at hN
       go_wp2_with fail
       refine (level_Norm.calls kN (rd_T45 l1 (q : Int)).f1.f0 _ _ (rd_T45 l1 (q : Int)).f1.f1 _ _ _ _ (Kd.C_alloc hcC _) hl3_3 hN).mono ?_
       rintro e w1 ⟨v1, rfl, hR, hb⟩
       obtain ⟨Ax, cx, rfl⟩ := Kd.R_slice hR
       replace BK101 := bb_ BK101 hb
       replace BK102 := bb_ BK102 hb
       replace HB := hs_ HB hb
       clear hR hb
       have hcz9 : (w1.alloc (.cells #[.int .i64 0, .slice Ax 0 cx] 43)).cell? ⟨gb102, 0, none⟩ = some (.slice none 0 0) := (blk_cell (blk_alloc BK102.out _) 0).trans rfl
       have hfz9 := blk_frozen (blk_alloc BK102.out (.cells #[.int .i64 0, .slice Ax 0 cx] 43)) 0
       have hcz8 : (w1.alloc (.cells #[.int .i64 0, .slice Ax 0 cx] 43)).cell? ⟨gb101, 0, none⟩ = some (.slice none 0 0) := (blk_cell (blk_alloc BK101.out _) 0).trans rfl
       have hfz8 := blk_frozen (blk_alloc BK101.out (.cells #[.int .i64 0, .slice Ax 0 cx] 43)) 0
       have hn9 := NB101_102.out
       go_wp2
       refine bodyPost_ret (results_ct rfl _ _ gb101 94 #[.slice none 0 0] (0, 0) _ rfl (by (with_reducible repeat (first | refine blk_drewN ?_ _ | refine blk_drew ?_ | refine blk_alloc ?_ _)); refine blk_put (cs := #[.slice none 0 0]) ?_ 0 _ rfl; (with_reducible repeat (first | refine blk_drewN ?_ _ | refine blk_drew ?_ | refine blk_alloc ?_ _)); exact BK101.out) Try.underlying94 rfl (by kernel_rfl)) rfl ?_
       exact ⟨rfl, (bl_ HB)⟩
      ·have e0 : M.normR (rd_T45 l1 (q : Int)).f1.f0 (rd_T45 l1 (q : Int)).f1.f1 = (M.zN (rd_T45 l1 (q : Int)).f1.f0 (M.can (rd_T45 l1 (q : Int)).f1.f1), M.can (rd_T45 l1 (q : Int)).f1.f1, 0) := by unfold M.normR; rw [hrt]; rfl
       rw [e0] at hN
       go_wp2_with fail
       refine (level_Norm.calls kN (rd_T45 l1 (q : Int)).f1.f0 _ _ (rd_T45 l1 (q : Int)).f1.f1 _ _ _ _ (Kd.C_alloc hcC _) hl3_3 hN).mono ?_
       rintro e w1 ⟨v1, rfl, hR, hb⟩
       obtain ⟨Ax, cx, rfl⟩ := Kd.R_slice hR
       have BK10 := Aside0.mk (blk_below (World.alloc_heap_new wr (.cells #[.int .i64 (rd_T45 l1 (q : Int)).f1.f0, .slice A3_3 (rd_T45 l1 (q : Int)).f1.f1.length c3_3] 43)) hb)
       replace BK101 := bb_ BK101 hb
       replace BK102 := bb_ BK102 hb
       replace HB := hs_ HB hb
       have hcC1 := Kd.C_below hi3_3 HB.out
       have z0 : (w1.alloc (.cells #[.int .i64 (M.zN (rd_T45 l1 (q : Int)).f1.f0 (M.can (rd_T45 l1 (q : Int)).f1.f1)), .slice Ax (M.can (rd_T45 l1 (q : Int)).f1.f1).length cx] 43)).cell? ⟨wr.heap.size, 0, none⟩ = some (.int .i64 (rd_T45 l1 (q : Int)).f1.f0) := (blk_cell (blk_alloc BK10.out _) 0).trans rfl
       have z1 : (w1.alloc (.cells #[.int .i64 (M.zN (rd_T45 l1 (q : Int)).f1.f0 (M.can (rd_T45 l1 (q : Int)).f1.f1)), .slice Ax (M.can (rd_T45 l1 (q : Int)).f1.f1).length cx] 43)).cell? ⟨wr.heap.size, 1, none⟩ = some (.slice A3_3 (rd_T45 l1 (q : Int)).f1.f1.length c3_3) := (blk_cell (blk_alloc BK10.out _) 1).trans rfl
       clear hR hb
       go_wp2_with fail
       refine (level_Bound.calls kB (rd_T45 l1 (q : Int)).f1.f0 _ _ (rd_T45 l1 (q : Int)).f1.f1 _ _ (Kd.C_alloc hcC1 _) hl3_3 hB).mono ?_
       rintro e w2 ⟨rfl, hb⟩
       replace BK101 := bb_ BK101 hb
       replace BK102 := bb_ BK102 hb
       replace HB := hs_ HB hb
       clear hb z0 z1 BK10
       by_cases hle : M.bndR (rd_T45 l1 (q : Int)).f1.f0 (rd_T45 l1 (q : Int)).f1.f1 ≤ a0
       ·have hgt : (M.bndR (rd_T45 l1 (q : Int)).f1.f0 (rd_T45 l1 (q : Int)).f1.f1 > a0) = False := by simp; omega
        go_wp2
        go_roundw
        case rel => exact ⟨1+1, by omega, by go_num, ⟨fun h => by omega⟩, ⟨fun h => by exact ⟨HI1.out (by trivial), by simp only [M.okL, hrt, decide_eq_true hle, Bool.and_self]⟩⟩, BK101, BK102, HB⟩
        case measure => simp [intOf]
       ·have hgt : (M.bndR (rd_T45 l1 (q : Int)).f1.f0 (rd_T45 l1 (q : Int)).f1.f1 > a0) = True := by simp; omega
        have hcz9 : w2.cell? ⟨gb102, 0, none⟩ = some (.slice none 0 0) := (blk_cell BK102.out 0).trans rfl
        have hfz9 := blk_frozen BK102.out 0
        have hcz8 : w2.cell? ⟨gb101, 0, none⟩ = some (.slice none 0 0) := (blk_cell BK101.out 0).trans rfl
        have hfz8 := blk_frozen BK101.out 0
        have hn9 := NB101_102.out
        go_wp2
        refine bodyPost_ret (results_ct rfl _ _ gb101 94 #[.slice none 0 0] (0, 0) _ rfl (by (with_reducible repeat (first | refine blk_drewN ?_ _ | refine blk_drew ?_ | refine blk_alloc ?_ _)); refine blk_put (cs := #[.slice none 0 0]) ?_ 0 _ rfl; (with_reducible repeat (first | refine blk_drewN ?_ _ | refine blk_drew ?_ | refine blk_alloc ?_ _)); exact BK101.out) Try.underlying94 rfl (by kernel_rfl)) rfl ?_
        exact ⟨rfl, (bl_ HB)⟩
    ·go_wp2
     have hq2 := HI2.out (by omega)
     refine ⟨⟨q + 1, by omega, by go_num, ⟨fun j hj x hx => ?_⟩, BK101, BK102, HB⟩, ?_⟩
     ·by_cases hjq : j = q
      ·subst hjq
       rw [hat] at hx
       obtain rfl := Option.some.inj hx
       exact hq2
      ·exact HQ.out j (by omega) x hx
     ·simp [intOf]; omega
  ·exfalso
   obtain ⟨x, hx, hn⟩ := HBAD.out
   obtain ⟨j, hj, e⟩ := List.getElem_of_mem hx
   exact hn (HQ.out j (by omega) x (by rw [List.getElem?_eq_getElem hj, e]))

end Go.Proofs.Ytbopadglafbdjaa.PX
