-- by wip/tools/gprint.py of this session over the kit's print; given functions are this session's own text
import Derived.Test.YtbopadglafbdjaaPXx0
import Derived.Test.YtbopadglafbdjaaPXxf22
import Derived.Test.YtbopadglafbdjaaPXxf20
import Derived.Test.YtbopadglafbdjaaPXxf26
import Derived.Test.YtbopadglafbdjaaPXxf27
namespace Go.Proofs.Ytbopadglafbdjaa.PX
open Go.RowKit Go.Proofs.YtbopadglafbdjaaW.PrintWords Go.Proofs.YtbopadglafbdjaaW.PrintLast Go.Proofs.YtbopadglafbdjaaW.PrintMore
attribute [local go_sem] max2_int min2_int max_two min_two max_three min_three max_four min_four   -- for this text's walks alone
set_option linter.unusedVariables false
set_option linter.unusedSimpArgs false

/-! ### telamonlaw23_alive: function 18 -/
def telamonlaw23_alive.f  : Option (Bool) := (telamonlaw21_V.f).bind fun bt101 => ((telamonlaw21_P.f (⟨#[115, 117, 99]⟩ : ByteArray) (([(⟨bt101.1, bt101.2.1, bt101.2.2⟩ : S36)] : List (S36)))).bind fun bt109 => ((telamonlaw21_V.f).bind fun bt115 => ((recurse_Find.f (([(⟨(([(⟨bt115.1, bt115.2.1, bt115.2.2⟩ : S36), (⟨bt109.1, bt109.2.1, bt109.2.2⟩ : S36)] : List (S36))), (([0, 1] : List Int))⟩ : S31)] : List (S31))) 2).bind fun bt129 => ((telamonlaw21_V.f).bind fun bt131 => ((recurse_Find.f (([(⟨(([(⟨bt131.1, bt131.2.1, bt131.2.2⟩ : S36)] : List (S36))), (([0] : List Int))⟩ : S31)] : List (S31))) 1).bind fun bt145 => (if bt129.2 = true then (if bt129.1 = 1 then (if bt145.2 = true then (some false) else ((telamonlaw21_V.f).bind fun bt147 => ((recurse_Vars.f (([(⟨bt147.1, bt147.2.1, bt147.2.2⟩ : S36), (⟨bt109.1, bt109.2.1, bt109.2.2⟩ : S36)] : List (S36)))).bind fun t155 => (some (t155 == 2))))) else (some false)) else (some false)))))))
def telamonlaw23_alive.T2 : Bool × List (List Nat × List Nat) := (true, [([], []), ([], []), ([0, 1], [0, 1]), ([], []), ([2, 3], [2, 3]), ([4], [4]), ([5, 0], [5]), ([6], [6]), ([7], [7]), ([7], [7]), ([8, 6, 0, 1, 2, 3, 4, 5, 6, 7, 8], [8]), ([9, 10, 0, 1, 2, 3, 4, 5, 6, 7, 8, 9, 10], [9])])
def telamonlaw23_alive.B2 : List Nat := [0, 0, 3, 0, 15, 31, 63, 127, 255, 255, 511, 2047]
theorem telamonlaw23_alive.tab2 : rtab .any (opsOf Try.f18 2) = telamonlaw23_alive.T2 := by kernel_rfl
theorem telamonlaw23_alive.bits2 : waitsOk telamonlaw23_alive.T2.2 telamonlaw23_alive.B2 = true := by kernel_rfl
def telamonlaw23_alive.T4 : Bool × List (List Nat × List Nat) := (true, [([], []), ([0], [0]), ([1], [1]), ([2, 1], [1, 2]), ([1, 3], [1, 3]), ([4, 1], [4]), ([5], [5]), ([6, 5], [5, 6]), ([5, 7], [5, 7]), ([8, 5], [8]), ([9, 9], [9]), ([9], [9]), ([10, 11, 9], [9, 10, 11]), ([12, 10, 9], [9, 12]), ([13, 9], [9, 13]), ([9, 14], [9, 14]), ([15, 13, 0, 1, 2, 3, 4, 5, 6, 7, 8, 9, 10, 11, 12, 13, 14, 15], [15])])
def telamonlaw23_alive.B4 : List Nat := [0, 1, 3, 7, 15, 31, 63, 127, 255, 511, 1023, 1023, 4095, 8191, 16383, 32767, 65535]
theorem telamonlaw23_alive.tab4 : rtab .any (opsOf Try.f18 4) = telamonlaw23_alive.T4 := by kernel_rfl
theorem telamonlaw23_alive.bits4 : waitsOk telamonlaw23_alive.T4.2 telamonlaw23_alive.B4 = true := by kernel_rfl
set_option maxHeartbeats 8000000 in
set_option maxRecDepth 100000 in
theorem telamonlaw23_alive.calls  (r : Bool) (w : World) (h : telamonlaw23_alive.f  = some r) :
  Calls Try.prog 18 #[] w fun e w' => e = .returned (.bool r) ∧ Below w.heap.size w w' := by
 have hu36 := Try.underlying36
 have hu31 := Try.underlying31
 have HB := Aside0.mk (Below.refl w.heap.size w)
 have H : ((telamonlaw21_V.f).bind fun bt101 => ((telamonlaw21_P.f (⟨#[115, 117, 99]⟩ : ByteArray) (([(⟨bt101.1, bt101.2.1, bt101.2.2⟩ : S36)] : List (S36)))).bind fun bt109 => ((telamonlaw21_V.f).bind fun bt115 => ((recurse_Find.f (([(⟨(([(⟨bt115.1, bt115.2.1, bt115.2.2⟩ : S36), (⟨bt109.1, bt109.2.1, bt109.2.2⟩ : S36)] : List (S36))), (([0, 1] : List Int))⟩ : S31)] : List (S31))) 2).bind fun bt129 => ((telamonlaw21_V.f).bind fun bt131 => ((recurse_Find.f (([(⟨(([(⟨bt131.1, bt131.2.1, bt131.2.2⟩ : S36)] : List (S36))), (([0] : List Int))⟩ : S31)] : List (S31))) 1).bind fun bt145 => (if bt129.2 = true then (if bt129.1 = 1 then (if bt145.2 = true then (some false) else ((telamonlaw21_V.f).bind fun bt147 => ((recurse_Vars.f (([(⟨bt147.1, bt147.2.1, bt147.2.2⟩ : S36), (⟨bt109.1, bt109.2.1, bt109.2.2⟩ : S36)] : List (S36)))).bind fun t155 => (some (t155 == 2))))) else (some false)) else (some false)))))))) = some r := h
 clear h
 replace H := Option.bind_eq_some_iff.mp H
 obtain ⟨⟨t101, t102, t103⟩, A10, H⟩ := H
 replace H : ((telamonlaw21_P.f (⟨#[115, 117, 99]⟩ : ByteArray) (([(⟨t101, t102, t103⟩ : S36)] : List (S36)))).bind fun bt109 => ((telamonlaw21_V.f).bind fun bt115 => ((recurse_Find.f (([(⟨(([(⟨bt115.1, bt115.2.1, bt115.2.2⟩ : S36), (⟨bt109.1, bt109.2.1, bt109.2.2⟩ : S36)] : List (S36))), (([0, 1] : List Int))⟩ : S31)] : List (S31))) 2).bind fun bt129 => ((telamonlaw21_V.f).bind fun bt131 => ((recurse_Find.f (([(⟨(([(⟨bt131.1, bt131.2.1, bt131.2.2⟩ : S36)] : List (S36))), (([0] : List Int))⟩ : S31)] : List (S31))) 1).bind fun bt145 => (if bt129.2 = true then (if bt129.1 = 1 then (if bt145.2 = true then (some false) else ((telamonlaw21_V.f).bind fun bt147 => ((recurse_Vars.f (([(⟨bt147.1, bt147.2.1, bt147.2.2⟩ : S36), (⟨bt109.1, bt109.2.1, bt109.2.2⟩ : S36)] : List (S36)))).bind fun t155 => (some (t155 == 2))))) else (some false)) else (some false))))))) = some r := H
 have A1 := Aside0.mk A10
 clear A10
 obtain ⟨y106, hy106⟩ : ∃ y_ : List (S36), y_ = (([(⟨t101, t102, t103⟩ : S36)] : List (S36))) := ⟨_, rfl⟩
 replace H : ((telamonlaw21_P.f (⟨#[115, 117, 99]⟩ : ByteArray) y106).bind fun bt109 => ((telamonlaw21_V.f).bind fun bt115 => ((recurse_Find.f (([(⟨(([(⟨bt115.1, bt115.2.1, bt115.2.2⟩ : S36), (⟨bt109.1, bt109.2.1, bt109.2.2⟩ : S36)] : List (S36))), (([0, 1] : List Int))⟩ : S31)] : List (S31))) 2).bind fun bt129 => ((telamonlaw21_V.f).bind fun bt131 => ((recurse_Find.f (([(⟨(([(⟨bt131.1, bt131.2.1, bt131.2.2⟩ : S36)] : List (S36))), (([0] : List Int))⟩ : S31)] : List (S31))) 1).bind fun bt145 => (if bt129.2 = true then (if bt129.1 = 1 then (if bt145.2 = true then (some false) else ((telamonlaw21_V.f).bind fun bt147 => ((recurse_Vars.f (([(⟨bt147.1, bt147.2.1, bt147.2.2⟩ : S36), (⟨bt109.1, bt109.2.1, bt109.2.2⟩ : S36)] : List (S36)))).bind fun t155 => (some (t155 == 2))))) else (some false)) else (some false))))))) = some r := by first | (rw [hy106]; with_reducible exact H) | (have H2_ := (Option.bind_some _ _).symm.trans H; rw [hy106]; with_reducible exact H2_) | (have H2_ := (Option.bind_some _ _).symm.trans H; with_reducible exact H2_) | with_reducible exact H | (rw [hy106]; exact H) | exact H
 have Ny106 := Aside0.mk hy106
 clear hy106
 replace H := Option.bind_eq_some_iff.mp H
 obtain ⟨⟨t109, t110, t111⟩, A20, H⟩ := H
 replace H : ((telamonlaw21_V.f).bind fun bt115 => ((recurse_Find.f (([(⟨(([(⟨bt115.1, bt115.2.1, bt115.2.2⟩ : S36), (⟨t109, t110, t111⟩ : S36)] : List (S36))), (([0, 1] : List Int))⟩ : S31)] : List (S31))) 2).bind fun bt129 => ((telamonlaw21_V.f).bind fun bt131 => ((recurse_Find.f (([(⟨(([(⟨bt131.1, bt131.2.1, bt131.2.2⟩ : S36)] : List (S36))), (([0] : List Int))⟩ : S31)] : List (S31))) 1).bind fun bt145 => (if bt129.2 = true then (if bt129.1 = 1 then (if bt145.2 = true then (some false) else ((telamonlaw21_V.f).bind fun bt147 => ((recurse_Vars.f (([(⟨bt147.1, bt147.2.1, bt147.2.2⟩ : S36), (⟨t109, t110, t111⟩ : S36)] : List (S36)))).bind fun t155 => (some (t155 == 2))))) else (some false)) else (some false)))))) = some r := H
 have A2 := Aside0.mk A20
 clear A20
 replace H := Option.bind_eq_some_iff.mp H
 obtain ⟨⟨t115, t116, t117⟩, A30, H⟩ := H
 replace H : ((recurse_Find.f (([(⟨(([(⟨t115, t116, t117⟩ : S36), (⟨t109, t110, t111⟩ : S36)] : List (S36))), (([0, 1] : List Int))⟩ : S31)] : List (S31))) 2).bind fun bt129 => ((telamonlaw21_V.f).bind fun bt131 => ((recurse_Find.f (([(⟨(([(⟨bt131.1, bt131.2.1, bt131.2.2⟩ : S36)] : List (S36))), (([0] : List Int))⟩ : S31)] : List (S31))) 1).bind fun bt145 => (if bt129.2 = true then (if bt129.1 = 1 then (if bt145.2 = true then (some false) else ((telamonlaw21_V.f).bind fun bt147 => ((recurse_Vars.f (([(⟨bt147.1, bt147.2.1, bt147.2.2⟩ : S36), (⟨t109, t110, t111⟩ : S36)] : List (S36)))).bind fun t155 => (some (t155 == 2))))) else (some false)) else (some false))))) = some r := H
 have A3 := Aside0.mk A30
 clear A30
 obtain ⟨y120, hy120⟩ : ∃ y_ : List (S36), y_ = (([(⟨t115, t116, t117⟩ : S36), (⟨t109, t110, t111⟩ : S36)] : List (S36))) := ⟨_, rfl⟩
 replace H : ((recurse_Find.f (([(⟨y120, (([0, 1] : List Int))⟩ : S31)] : List (S31))) 2).bind fun bt129 => ((telamonlaw21_V.f).bind fun bt131 => ((recurse_Find.f (([(⟨(([(⟨bt131.1, bt131.2.1, bt131.2.2⟩ : S36)] : List (S36))), (([0] : List Int))⟩ : S31)] : List (S31))) 1).bind fun bt145 => (if bt129.2 = true then (if bt129.1 = 1 then (if bt145.2 = true then (some false) else ((telamonlaw21_V.f).bind fun bt147 => ((recurse_Vars.f (([(⟨bt147.1, bt147.2.1, bt147.2.2⟩ : S36), (⟨t109, t110, t111⟩ : S36)] : List (S36)))).bind fun t155 => (some (t155 == 2))))) else (some false)) else (some false))))) = some r := by first | (rw [hy120]; with_reducible exact H) | (have H2_ := (Option.bind_some _ _).symm.trans H; rw [hy120]; with_reducible exact H2_) | (have H2_ := (Option.bind_some _ _).symm.trans H; with_reducible exact H2_) | with_reducible exact H | (rw [hy120]; exact H) | exact H
 have Ny120 := Aside0.mk hy120
 clear hy120
 obtain ⟨y123, hy123⟩ : ∃ y_ : List Int, y_ = (([0, 1] : List Int)) := ⟨_, rfl⟩
 replace H : ((recurse_Find.f (([(⟨y120, y123⟩ : S31)] : List (S31))) 2).bind fun bt129 => ((telamonlaw21_V.f).bind fun bt131 => ((recurse_Find.f (([(⟨(([(⟨bt131.1, bt131.2.1, bt131.2.2⟩ : S36)] : List (S36))), (([0] : List Int))⟩ : S31)] : List (S31))) 1).bind fun bt145 => (if bt129.2 = true then (if bt129.1 = 1 then (if bt145.2 = true then (some false) else ((telamonlaw21_V.f).bind fun bt147 => ((recurse_Vars.f (([(⟨bt147.1, bt147.2.1, bt147.2.2⟩ : S36), (⟨t109, t110, t111⟩ : S36)] : List (S36)))).bind fun t155 => (some (t155 == 2))))) else (some false)) else (some false))))) = some r := by first | (rw [hy123]; with_reducible exact H) | (have H2_ := (Option.bind_some _ _).symm.trans H; rw [hy123]; with_reducible exact H2_) | (have H2_ := (Option.bind_some _ _).symm.trans H; with_reducible exact H2_) | with_reducible exact H | (rw [hy123]; exact H) | exact H
 have Ny123 := Aside0.mk hy123
 clear hy123
 obtain ⟨y126, hy126⟩ : ∃ y_ : List (S31), y_ = (([(⟨y120, y123⟩ : S31)] : List (S31))) := ⟨_, rfl⟩
 replace H : ((recurse_Find.f y126 2).bind fun bt129 => ((telamonlaw21_V.f).bind fun bt131 => ((recurse_Find.f (([(⟨(([(⟨bt131.1, bt131.2.1, bt131.2.2⟩ : S36)] : List (S36))), (([0] : List Int))⟩ : S31)] : List (S31))) 1).bind fun bt145 => (if bt129.2 = true then (if bt129.1 = 1 then (if bt145.2 = true then (some false) else ((telamonlaw21_V.f).bind fun bt147 => ((recurse_Vars.f (([(⟨bt147.1, bt147.2.1, bt147.2.2⟩ : S36), (⟨t109, t110, t111⟩ : S36)] : List (S36)))).bind fun t155 => (some (t155 == 2))))) else (some false)) else (some false))))) = some r := by first | (rw [hy126]; with_reducible exact H) | (have H2_ := (Option.bind_some _ _).symm.trans H; rw [hy126]; with_reducible exact H2_) | (have H2_ := (Option.bind_some _ _).symm.trans H; with_reducible exact H2_) | with_reducible exact H | (rw [hy126]; exact H) | exact H
 have Ny126 := Aside0.mk hy126
 clear hy126
 replace H := Option.bind_eq_some_iff.mp H
 obtain ⟨⟨t129, t130⟩, A40, H⟩ := H
 replace H : ((telamonlaw21_V.f).bind fun bt131 => ((recurse_Find.f (([(⟨(([(⟨bt131.1, bt131.2.1, bt131.2.2⟩ : S36)] : List (S36))), (([0] : List Int))⟩ : S31)] : List (S31))) 1).bind fun bt145 => (if t130 = true then (if t129 = 1 then (if bt145.2 = true then (some false) else ((telamonlaw21_V.f).bind fun bt147 => ((recurse_Vars.f (([(⟨bt147.1, bt147.2.1, bt147.2.2⟩ : S36), (⟨t109, t110, t111⟩ : S36)] : List (S36)))).bind fun t155 => (some (t155 == 2))))) else (some false)) else (some false)))) = some r := H
 have A4 := Aside0.mk A40
 clear A40
 replace H := Option.bind_eq_some_iff.mp H
 obtain ⟨⟨t131, t132, t133⟩, A50, H⟩ := H
 replace H : ((recurse_Find.f (([(⟨(([(⟨t131, t132, t133⟩ : S36)] : List (S36))), (([0] : List Int))⟩ : S31)] : List (S31))) 1).bind fun bt145 => (if t130 = true then (if t129 = 1 then (if bt145.2 = true then (some false) else ((telamonlaw21_V.f).bind fun bt147 => ((recurse_Vars.f (([(⟨bt147.1, bt147.2.1, bt147.2.2⟩ : S36), (⟨t109, t110, t111⟩ : S36)] : List (S36)))).bind fun t155 => (some (t155 == 2))))) else (some false)) else (some false))) = some r := H
 have A5 := Aside0.mk A50
 clear A50
 obtain ⟨y136, hy136⟩ : ∃ y_ : List (S36), y_ = (([(⟨t131, t132, t133⟩ : S36)] : List (S36))) := ⟨_, rfl⟩
 replace H : ((recurse_Find.f (([(⟨y136, (([0] : List Int))⟩ : S31)] : List (S31))) 1).bind fun bt145 => (if t130 = true then (if t129 = 1 then (if bt145.2 = true then (some false) else ((telamonlaw21_V.f).bind fun bt147 => ((recurse_Vars.f (([(⟨bt147.1, bt147.2.1, bt147.2.2⟩ : S36), (⟨t109, t110, t111⟩ : S36)] : List (S36)))).bind fun t155 => (some (t155 == 2))))) else (some false)) else (some false))) = some r := by first | (rw [hy136]; with_reducible exact H) | (have H2_ := (Option.bind_some _ _).symm.trans H; rw [hy136]; with_reducible exact H2_) | (have H2_ := (Option.bind_some _ _).symm.trans H; with_reducible exact H2_) | with_reducible exact H | (rw [hy136]; exact H) | exact H
 have Ny136 := Aside0.mk hy136
 clear hy136
 obtain ⟨y139, hy139⟩ : ∃ y_ : List Int, y_ = (([0] : List Int)) := ⟨_, rfl⟩
 replace H : ((recurse_Find.f (([(⟨y136, y139⟩ : S31)] : List (S31))) 1).bind fun bt145 => (if t130 = true then (if t129 = 1 then (if bt145.2 = true then (some false) else ((telamonlaw21_V.f).bind fun bt147 => ((recurse_Vars.f (([(⟨bt147.1, bt147.2.1, bt147.2.2⟩ : S36), (⟨t109, t110, t111⟩ : S36)] : List (S36)))).bind fun t155 => (some (t155 == 2))))) else (some false)) else (some false))) = some r := by first | (rw [hy139]; with_reducible exact H) | (have H2_ := (Option.bind_some _ _).symm.trans H; rw [hy139]; with_reducible exact H2_) | (have H2_ := (Option.bind_some _ _).symm.trans H; with_reducible exact H2_) | with_reducible exact H | (rw [hy139]; exact H) | exact H
 have Ny139 := Aside0.mk hy139
 clear hy139
 obtain ⟨y142, hy142⟩ : ∃ y_ : List (S31), y_ = (([(⟨y136, y139⟩ : S31)] : List (S31))) := ⟨_, rfl⟩
 replace H : ((recurse_Find.f y142 1).bind fun bt145 => (if t130 = true then (if t129 = 1 then (if bt145.2 = true then (some false) else ((telamonlaw21_V.f).bind fun bt147 => ((recurse_Vars.f (([(⟨bt147.1, bt147.2.1, bt147.2.2⟩ : S36), (⟨t109, t110, t111⟩ : S36)] : List (S36)))).bind fun t155 => (some (t155 == 2))))) else (some false)) else (some false))) = some r := by first | (rw [hy142]; with_reducible exact H) | (have H2_ := (Option.bind_some _ _).symm.trans H; rw [hy142]; with_reducible exact H2_) | (have H2_ := (Option.bind_some _ _).symm.trans H; with_reducible exact H2_) | with_reducible exact H | (rw [hy142]; exact H) | exact H
 have Ny142 := Aside0.mk hy142
 clear hy142
 replace H := Option.bind_eq_some_iff.mp H
 obtain ⟨⟨t145, t146⟩, A60, H⟩ := H
 replace H : (if t130 = true then (if t129 = 1 then (if t146 = true then (some false) else ((telamonlaw21_V.f).bind fun bt147 => ((recurse_Vars.f (([(⟨bt147.1, bt147.2.1, bt147.2.2⟩ : S36), (⟨t109, t110, t111⟩ : S36)] : List (S36)))).bind fun t155 => (some (t155 == 2))))) else (some false)) else (some false)) = some r := H
 have A6 := Aside0.mk A60
 clear A60
 by_cases c7 : t130 = true
 ·subst c7
  have H1 : (if t129 = 1 then (if t146 = true then (some false) else ((telamonlaw21_V.f).bind fun bt147 => ((recurse_Vars.f (([(⟨bt147.1, bt147.2.1, bt147.2.2⟩ : S36), (⟨t109, t110, t111⟩ : S36)] : List (S36)))).bind fun t155 => (some (t155 == 2))))) else (some false)) = some r := by rw [if_pos rfl] at H; exact H
  clear H
  have H := H1
  clear H1
  by_cases c8 : t129 = 1
  ·rw [if_pos c8] at H
   have c8b0 : (t129 == 1) = true := beq_iff_eq.mpr c8
   have c8b1 : (t129 != 1) = false := bne_eq_false_iff_eq.mpr c8
   clear c8
   by_cases c9 : t146 = true
   ·subst c9
    have H1 : (some false) = some r := by rw [if_pos rfl] at H; exact H
    clear H
    have H := H1
    clear H1
    obtain rfl := Option.some.inj H
    go_enter Try.func18, Try.ntmps18
    try go_wp2_with (first | ((with_reducible refine gate_callee (f := 26) rfl ?_); refine goesL_ (some 6) rfl rfl Try.func26 (by kernel_rfl) rfl #[] rfl (by (try simp only [List.map_toArray, List.map_cons, List.map_nil]); first | done | rfl | (simp only [List.length_drop, List.length_take]; rfl)) ?_; (with_reducible refine (telamonlaw21_V.calls  t101 t102 t103 _ A1.out).mono ?_); rintro e w10 ⟨v104, rfl, ho0, hb⟩; refine ⟨_, rfl, ?_⟩; have HO105 := Aside0.mk (Kd.N_lower (Kd.N_mono (ok' := fun k_ => True) (Kd.R_N (Kd.R_bound ho0)) (fun k_ hk_ => trivial)) (below_size (bl_ HB))); replace HB := hs_ HB hb; (try clear hb); (try clear hb2); (try clear hk); (try clear hi); (try clear ho0); obtain ⟨Ao11, co11, eo11⟩ := Kd.N_slice HO105.out; subst eo11) | ((with_reducible refine gate_dst (N := 7) rfl ?_); (try (refine gate_guard (by rfl) ?_; dsimp only)); refine Kd.N_lit k36 _ 36 ?hg (N' := 7) ?hd (xs := ([(⟨t101, t102, t103⟩ : S36)] : List (S36))) (inner := [.int .i64 t101, .string t102, .slice Ao11 t103.length co11]) (ok := (fun _ => True)) (okp := (fun _ => True)) ?hr ?hp (fun _ hk => hk) ((show ∀ k_, w10.heap.size ≤ k_ → (fun _ => True) k_ from fun k_ hk => trivial) _ (Nat.le_refl _)) (Below.refl _ _) (Nat.le_refl _) (by simp) ?_; (case hd => rfl); (case hg => rfl); (case hr => first | (go_simp; done) | (go_simp; rfl)); (case hp => exact (Reps.c3 (show Kd.FK k36 _ _ (⟨t101, t102, t103⟩ : S36) [.int .i64 t101, .string t102, .slice Ao11 t103.length co11] from (k36_mkF _ _ (⟨t101, t102, t103⟩ : S36) (Kd.N_reads' (Kd.N_mono (ok' := (fun _ => True)) (HO105.out) (fun k_ hk => trivial))).2.1 (Kd.N_F (Kd.N_mono (ok' := (fun _ => True)) (HO105.out) (fun k_ hk => trivial))))) (Reps.none _ _))); intro v107 w12 ho13 hb hg_ hnew_; clear hg_ hnew_; (first | rw [← Ny106.out] at ho13 | (simp only [Int.reduceToNat] at ho13; rw [← Ny106.out] at ho13)); have HO108 := Aside0.mk (Kd.N_lower ho13 (below_size (bl_ HB))); replace HB := hs_ HB hb; clear HO105; clear hb ho13; obtain ⟨Ao14, co14, eo14⟩ := Kd.N_slice HO108.out; subst eo14) | ((with_reducible refine gate_callee (f := 27) rfl ?_); refine goesL_ (some 8) rfl rfl Try.func27 (by kernel_rfl) rfl #[.string (⟨#[115, 117, 99]⟩ : ByteArray), .slice Ao14 y106.length co14] rfl (by (try simp only [List.map_toArray, List.map_cons, List.map_nil]); first | done | rfl | (simp only [List.length_drop, List.length_take]; rfl)) ?_; (with_reducible refine (telamonlaw21_P.calls (⟨#[115, 117, 99]⟩ : ByteArray) (fun k_ => True) _ _ y106 t109 t110 t111 _ ?side1 A2.out).mono ?_); (case side1 => exact Kd.N_V (HO108.out)); rintro e w15 ⟨v112, rfl, ho0, hb⟩; refine ⟨_, rfl, ?_⟩; have HO113 := Aside0.mk (Kd.V_lower (Kd.V_mono (ok' := fun k_ => True) ho0 (fun k_ hk_ => trivial)) (below_size (bl_ HB))); replace HO108 := Aside0.mk (Kd.N_below (by (with_reducible repeat (first | apply Kd.N_alloc | apply Kd.N_drewN | apply Kd.N_drew)); exact HO108.out) hb); replace HB := hs_ HB hb; (try clear hb); (try clear hb2); (try clear hk); (try clear hi); (try clear ho0)) | ((with_reducible refine gate_dst (N := 1) rfl ?_); (try (refine gate_guard (by rfl) ?_; dsimp only)); refine box_event ?hg (N := 1) ?hd (cs := #[.int .i64 0, .string (⟨#[]⟩ : ByteArray), .slice none 0 0]) (t := 36) ?hr ?_; (case hd => rfl); (case hg => rfl); (case hr => first | (go_simp; done) | (go_simp; rfl)); intro gb114 hg w16 hbox hb; have BK114 := Aside0.mk (hbox); have GW114 := Aside0.mk ((bs_ hg HB : w.heap.size ≤ gb114)); have GE114 := Aside0.mk ((bs_ hg HB : w.heap.size ≤ gb114)); replace HO108 := Aside0.mk (Kd.N_below (Kd.N_elderB (by (with_reducible repeat (first | apply Kd.N_alloc | apply Kd.N_drewN | apply Kd.N_drew)); exact HO108.out) gb114 (Nat.le_of_eq hg.symm)) hb); replace HO113 := Aside0.mk (Kd.V_below (Kd.V_elderB (by (with_reducible repeat (first | apply Kd.V_alloc | apply Kd.V_drewN | apply Kd.V_drew)); exact HO113.out) gb114 (Nat.le_of_eq hg.symm)) hb); replace HB := hs_ HB hb; clear hb hbox hg; have hcz17_0 : w16.cell? ⟨gb114, 0, none⟩ = some (.int .i64 0) := (blk_cell BK114.out 0).trans rfl; have hcz17_1 : w16.cell? ⟨gb114, 1, none⟩ = some (.string (⟨#[]⟩ : ByteArray)) := (blk_cell BK114.out 1).trans rfl; have hcz17_2 : w16.cell? ⟨gb114, 2, none⟩ = some (.slice none 0 0) := (blk_cell BK114.out 2).trans rfl; have hfz17_0 := blk_frozen BK114.out 0; have hfz17_1 := blk_frozen BK114.out 1; have hfz17_2 := blk_frozen BK114.out 2; obtain ⟨Ao18, co18, eo18⟩ := Kd.V_slice HO113.out; subst eo18))
    have n0_ : Aside0 (Kd.N k36 36 (((w16.setCell ⟨gb114, 0, none⟩ (.int .i64 t109)).setCell ⟨gb114, 1, none⟩ (.string t110)).setCell ⟨gb114, 2, none⟩ (.slice Ao18 t111.length co18)) w.heap.size (fun k_ => k_ ≠ gb114) (.slice Ao14 y106.length co14) y106) := ⟨by (with_reducible repeat (first | apply Kd.N_alloc | apply Kd.N_drewN | apply Kd.N_drew)); exact Kd.N_mono (Kd.N_far (p := ⟨gb114, 2, none⟩) (Kd.N_far (p := ⟨gb114, 1, none⟩) (Kd.N_far (p := ⟨gb114, 0, none⟩) (Kd.N_mono HO108.out (fun k_ hk => (⟨hk, hk.2⟩ : _ ∧ k_ ≠ gb114))) (fun _ hk => hk.2) (.int .i64 t109)) (fun _ hk => hk.2) (.string t110)) (fun _ hk => hk.2) (.slice Ao18 t111.length co18)) (fun _ hk => hk.1.2)⟩
    have n1_ : Aside0 (Kd.V k36 36 (((w16.setCell ⟨gb114, 0, none⟩ (.int .i64 t109)).setCell ⟨gb114, 1, none⟩ (.string t110)).setCell ⟨gb114, 2, none⟩ (.slice Ao18 t111.length co18)) w.heap.size (fun k_ => k_ ≠ gb114) (.slice Ao18 t111.length co18) t111) := ⟨by (with_reducible repeat (first | apply Kd.V_alloc | apply Kd.V_drewN | apply Kd.V_drew)); exact Kd.V_mono (Kd.V_far (p := ⟨gb114, 2, none⟩) (Kd.V_far (p := ⟨gb114, 1, none⟩) (Kd.V_far (p := ⟨gb114, 0, none⟩) (Kd.V_mono HO113.out (fun k_ hk => (⟨hk, hk.2⟩ : _ ∧ k_ ≠ gb114))) (fun _ hk => hk.2) (.int .i64 t109)) (fun _ hk => hk.2) (.string t110)) (fun _ hk => hk.2) (.slice Ao18 t111.length co18)) (fun _ hk => hk.1.2)⟩
    have n2_ : Aside0 ((((w16.setCell ⟨gb114, 0, none⟩ (.int .i64 t109)).setCell ⟨gb114, 1, none⟩ (.string t110)).setCell ⟨gb114, 2, none⟩ (.slice Ao18 t111.length co18)).heap[gb114]? = some (.cells #[.int .i64 t109, .string t110, .slice Ao18 t111.length co18] 36 (0, 0))) := ⟨by (with_reducible repeat (first | refine blk_drewN ?_ _ | refine blk_drew ?_ | refine blk_alloc ?_ _)); refine blk_put (cs := #[.int .i64 t109, .string t110, .slice none 0 0]) ?_ 2 _ rfl; (with_reducible repeat (first | refine blk_drewN ?_ _ | refine blk_drew ?_ | refine blk_alloc ?_ _)); refine blk_put (cs := #[.int .i64 t109, .string (⟨#[]⟩ : ByteArray), .slice none 0 0]) ?_ 1 _ rfl; (with_reducible repeat (first | refine blk_drewN ?_ _ | refine blk_drew ?_ | refine blk_alloc ?_ _)); refine blk_put (cs := #[.int .i64 0, .string (⟨#[]⟩ : ByteArray), .slice none 0 0]) ?_ 0 _ rfl; (with_reducible repeat (first | refine blk_drewN ?_ _ | refine blk_drew ?_ | refine blk_alloc ?_ _)); exact BK114.out⟩
    have n3_ : Aside0 (Below w.heap.size w (((w16.setCell ⟨gb114, 0, none⟩ (.int .i64 t109)).setCell ⟨gb114, 1, none⟩ (.string t110)).setCell ⟨gb114, 2, none⟩ (.slice Ao18 t111.length co18))) := ⟨by repeat (first | (with_reducible first | exact HB.out | apply below_alloc | apply pw_below_drewN | apply below_drew1 | refine below_set ?_ GE114.out) | exact HB.out)⟩
    (try clear HO108); (try clear HO113); (try clear BK114); (try clear HB)
    generalize (((w16.setCell ⟨gb114, 0, none⟩ (.int .i64 t109)).setCell ⟨gb114, 1, none⟩ (.string t110)).setCell ⟨gb114, 2, none⟩ (.slice Ao18 t111.length co18)) = w19 at n0_ n1_ n2_ n3_ ⊢
    have HO108 := n0_
    have HO113 := n1_
    have BK114 := n2_
    have HB := n3_
    clear n0_ n1_ n2_ n3_
    replace HO108 := Aside0.mk (Kd.N_drew HO108.out)
    replace HO113 := Aside0.mk (Kd.V_drew HO113.out)
    replace BK114 := Aside0.mk (blk_drew BK114.out)
    replace HB := Aside0.mk (below_drew1 HB.out)
    refine start_ (n := 12) (S := fun w' => w'.cell? ⟨gb114, 0, none⟩ = some (.int .i64 t109) ∧ w'.cell? ⟨gb114, 1, none⟩ = some (.string t110) ∧ w'.cell? ⟨gb114, 2, none⟩ = some (.slice Ao18 t111.length co18)) (ds := []) #[false, false, false, false, false, false, false, false, false, false, false, false] (by kernel_rfl) rfl rfl ⟨(blk_cell BK114.out 0).trans rfl, (blk_cell BK114.out 1).trans rfl, (blk_cell BK114.out 2).trans rfl⟩ (fun hHeld => ?_); refine with_tabW telamonlaw23_alive.tab2 telamonlaw23_alive.bits2 (fun HT_ HW_ => ?_)
    generalize w19.drew = w20 at HO108 HO113 BK114 HB HO108 HO113 hHeld ⊢
    refine take_ (i := 1) (N := some 11) (v := ?_) (a' := ?_) #[false, true, false, false, false, false, false, false, false, false, false, false] rfl rfl (take_ofW HT_.out HW_.out (by kernel_rfl)) (fun _ _ _ h => h) (Or.inl ⟨by rfl, ?_⟩) hHeld ?_ ?_
    rotate_left
    ·rintro w' ⟨s0, s1, s2⟩
     go_simp
     with_reducible rfl
    rotate_left
    ·simp only [Act.put, List.setIfInBounds_toArray, List.set_cons_zero, List.set_cons_succ, i64_w, i32_w]
     rfl
    refine join_ (σ := Value × Value × Value) 8 #[true, true, true, true, false, false, false, false, false, false, false, false] (fun s_ => [(10, .agg #[.int .i64 t115, .string t116, s_.1]), (12, s_.2.1), (13, s_.2.2)]) (fun s_ w' => (w'.cell? ⟨gb114, 0, none⟩ = some (.int .i64 t109) ∧ w'.cell? ⟨gb114, 1, none⟩ = some (.string t110) ∧ w'.cell? ⟨gb114, 2, none⟩ = some (.slice Ao18 t111.length co18)) ∧ (Kd.N k36 36 w' w.heap.size (fun k_ => some k_ ≠ (s_.2.1 : Value).ownBlock ∧ some k_ ≠ (s_.2.2 : Value).ownBlock ∧ k_ ≠ gb114) (.slice Ao14 y106.length co14) y106) ∧ (Kd.V k36 36 w' w.heap.size (fun k_ => some k_ ≠ (s_.2.1 : Value).ownBlock ∧ some k_ ≠ (s_.2.2 : Value).ownBlock ∧ k_ ≠ gb114) (.slice Ao18 t111.length co18) t111) ∧ (Kd.N k36 36 w' w.heap.size (fun k_ => some k_ ≠ (s_.2.2 : Value).ownBlock ∧ k_ ≠ gb114) s_.2.1 y120) ∧ (Kd.R (Kd.int .i64) 3 w' w.heap.size (fun _ => True) s_.2.2 y123) ∧ (w'.heap[gb114]? = some (.cells #[.int .i64 t109, .string t110, .slice Ao18 t111.length co18] 36 (0, 0))) ∧ (Below w.heap.size w w')) ?_ ?_
    rotate_left
    ·intro hCont
     refine two_ (i := 0) (j := 3) (Ni := some 10) (Nj := some 13) #[true, true, false, false, false, false, false, false, false, false, false, false] #[false, true, false, true, false, false, false, false, false, false, false, false] rfl rfl rfl rfl (two_of HT_.out (by kernel_rfl)) (by decide) (by decide) (fun K hK => ?_) (fun K hK => ?_)
     ·skip
      refine goes_ Try.func26 (by kernel_rfl) rfl #[] (by rfl) rfl rfl (by (try simp only [List.map_toArray, List.map_cons, List.map_nil]); first | done | rfl | (simp only [List.length_drop, List.length_take]; rfl)) ?_
      with_reducible refine (telamonlaw21_V.calls  t115 t116 t117 _ A3.out).mono ?_
      rintro e w21 ⟨v118, rfl, ho0, hb⟩
      refine ⟨_, rfl, ?_⟩
      have HO119 := Aside0.mk (Kd.N_lower (Kd.N_mono (ok' := fun k_ => some k_ ≠ (.slice Ao14 y106.length co14 : Value).ownBlock ∧ k_ ≠ gb114) (Kd.R_N (Kd.R_bound ho0)) (fun k_ hk_ => ⟨(Kd.fresh' (Kd.N_lt (by (with_reducible repeat (first | apply Kd.N_alloc | apply Kd.N_drewN | apply Kd.N_drew)); exact HO108.out)) k_ hk_.2.1), (Kd.freshB (g := gb114) (o := .cells #[.int .i64 t109, .string t110, .slice Ao18 t111.length co18] 36 (0, 0)) (pl_ BK114) k_ hk_.2.1)⟩)) (below_size (bl_ HB)))
      replace HO108 := Aside0.mk (Kd.N_elder' (by (with_reducible repeat (first | apply Kd.N_alloc | apply Kd.N_drewN | apply Kd.N_drew)); exact HO108.out) (Kd.N_base (Kd.R_N (Kd.R_bound ho0))) hb)
      replace HO113 := Aside0.mk (Kd.V_elder' (by (with_reducible repeat (first | apply Kd.V_alloc | apply Kd.V_drewN | apply Kd.V_drew)); exact HO113.out) (Kd.N_base (Kd.R_N (Kd.R_bound ho0))) hb)
      replace BK114 := bb_ BK114 hb
      replace HB := hs_ HB hb
      (try clear hb); (try clear hb2); (try clear hk); (try clear hi); (try clear ho0)
      obtain ⟨Ao22, co22, eo22⟩ := Kd.N_slice HO119.out
      (first | subst eo22 | (injection eo22 with f1_ f2_ f3_; have f4_ := f1_.symm; have f5_ := f3_.symm; clear f1_ f2_ f3_; subst f4_; subst f5_))
      refine hK.out _ _ ⟨(blk_cell BK114.out 0).trans rfl, (blk_cell BK114.out 1).trans rfl, (blk_cell BK114.out 2).trans rfl⟩ (fun hHeld => ?_)
      clear hK K
      refine norm_ (a' := ?_) ?_ ?_
      rotate_left
      ·show Act.put _ (some 10) _ = _
       simp only [Act.put, List.setIfInBounds_toArray, List.set_cons_zero, List.set_cons_succ, i64_w, i32_w]
       rfl
      refine two_ (i := 2) (j := 3) (Ni := some 12) (Nj := some 13) #[true, true, true, false, false, false, false, false, false, false, false, false] #[true, true, false, true, false, false, false, false, false, false, false, false] rfl rfl rfl rfl (two_of HT_.out (by kernel_rfl)) (by decide) (by decide) (fun K hK => ?_) (fun K hK => ?_)
      ·skip
       refine Kd.N_lit_step k36 _ 36 ?hg (N' := 12) ?hd (xs := ([(⟨t115, t116, t117⟩ : S36), (⟨t109, t110, t111⟩ : S36)] : List (S36))) (inner := [.int .i64 t115, .string t116, .slice Ao22 t117.length co22, .int .i64 t109, .string t110, .slice Ao18 t111.length co18]) (ok := (fun k_ => k_ ≠ gb114)) (okp := (fun k_ => k_ ≠ gb114)) ?hr ?hp (fun _ hk => hk) ((show ∀ k_, w21.heap.size ≤ k_ → (fun k_ => k_ ≠ gb114) k_ from fun k_ hk => Kd.freshB (g := gb114) (o := .cells #[.int .i64 t109, .string t110, .slice Ao18 t111.length co18] 36 (0, 0)) (pl_ BK114) k_ hk) _ (Nat.le_refl _)) (Below.refl _ _) (Nat.le_refl _) (by simp) ?_; (case hd => rfl); (case hg => rfl); (case hr => first | (go_simp; done) | (go_simp; rfl)); (case hp => exact (Reps.c3 (show Kd.FK k36 _ _ (⟨t115, t116, t117⟩ : S36) [.int .i64 t115, .string t116, .slice Ao22 t117.length co22] from (k36_mkF _ _ (⟨t115, t116, t117⟩ : S36) (Kd.N_reads' (Kd.N_mono (ok' := (fun k_ => k_ ≠ gb114)) (HO119.out) (fun k_ hk => hk.2))).2.1 (Kd.N_F (Kd.N_mono (ok' := (fun k_ => k_ ≠ gb114)) (HO119.out) (fun k_ hk => hk.2))))) (Reps.c3 (show Kd.FK k36 _ _ (⟨t109, t110, t111⟩ : S36) [.int .i64 t109, .string t110, .slice Ao18 t111.length co18] from (k36_mkF _ _ (⟨t109, t110, t111⟩ : S36) (Kd.V_reads' (Kd.V_mono (ok' := (fun k_ => k_ ≠ gb114)) (HO113.out) (fun k_ hk => hk.1))).2.1 (Kd.V_F (Kd.V_mono (ok' := (fun k_ => k_ ≠ gb114)) (HO113.out) (fun k_ hk => hk.1))))) (Reps.none _ _))))
       intro v121 w23 ho24 hb hg_ hnew_
       clear hg_ hnew_
       (first | rw [← Ny120.out] at ho24 | (simp only [Int.reduceToNat] at ho24; rw [← Ny120.out] at ho24))
       have HO122 := Aside0.mk (Kd.N_lower ho24 (below_size (bl_ HB)))
       replace HO108 := Aside0.mk (Kd.N_elder' (by (with_reducible repeat (first | apply Kd.N_alloc | apply Kd.N_drewN | apply Kd.N_drew)); exact HO108.out) (Kd.N_base ho24) hb)
       replace HO113 := Aside0.mk (Kd.V_elder' (by (with_reducible repeat (first | apply Kd.V_alloc | apply Kd.V_drewN | apply Kd.V_drew)); exact HO113.out) (Kd.N_base ho24) hb)
       replace BK114 := bb_ BK114 hb
       replace HB := hs_ HB hb
       clear HO119 hb ho24
       refine hK.out _ _ ⟨(blk_cell BK114.out 0).trans rfl, (blk_cell BK114.out 1).trans rfl, (blk_cell BK114.out 2).trans rfl⟩ (fun hHeld => ?_)
       clear hK K
       refine norm_ (a' := ?_) ?_ ?_
       rotate_left
       ·show Act.put _ (some 12) _ = _
        simp only [Act.put, List.setIfInBounds_toArray, List.set_cons_zero, List.set_cons_succ, i64_w, i32_w]
        rfl
       refine one_ (i := 3) (N := some 13) #[true, true, true, true, false, false, false, false, false, false, false, false] rfl rfl (one_of HT_.out (by kernel_rfl)) (by decide) (fun K hK => ?_)
       refine Kd.R_lit_step (Kd.int .i64) _ 3 ?hg (N := 13) ?hd (xs := ([0, 1] : List Int)) (inner := [.int .i64 0, .int .i64 1]) (ok := fun _ => True) (okp := fun _ => True) ?hr ?hp (fun _ hk => hk) trivial (Below.refl _ _) (Nat.le_refl _) (by simp) ?_; (case hd => rfl); (case hg => rfl); (case hr => first | (go_simp; done) | (go_simp; rfl)); (case hp => exact (Reps.one (show Kd.M (Kd.int .i64) _ _ _ 0 [.int .i64 0] from rfl) (Reps.one (show Kd.M (Kd.int .i64) _ _ _ 1 [.int .i64 1] from rfl) (Reps.none _ _))))
       intro v124 w25 ho26 hb hg_ hnew_
       clear hg_ hnew_
       (first | rw [← Ny123.out] at ho26 | (simp only [Int.reduceToNat] at ho26; rw [← Ny123.out] at ho26))
       have HO125 := Aside0.mk (Kd.R_lower ho26 (below_size (bl_ HB)))
       replace HO108 := Aside0.mk (Kd.N_elder' (by (with_reducible repeat (first | apply Kd.N_alloc | apply Kd.N_drewN | apply Kd.N_drew)); exact HO108.out) (Kd.R_base ho26) hb)
       replace HO113 := Aside0.mk (Kd.V_elder' (by (with_reducible repeat (first | apply Kd.V_alloc | apply Kd.V_drewN | apply Kd.V_drew)); exact HO113.out) (Kd.R_base ho26) hb)
       replace HO122 := Aside0.mk (Kd.N_elder' (by (with_reducible repeat (first | apply Kd.N_alloc | apply Kd.N_drewN | apply Kd.N_drew)); exact HO122.out) (Kd.R_base ho26) hb)
       replace BK114 := bb_ BK114 hb
       replace HB := hs_ HB hb
       clear hb ho26
       obtain ⟨Ao27, co27, eo27⟩ := Kd.R_slice HO125.out
       (first | subst eo27 | (injection eo27 with f1_ f2_ f3_; have f4_ := f1_.symm; have f5_ := f3_.symm; clear f1_ f2_ f3_; subst f4_; subst f5_))
       obtain ⟨Ao28, co28, eo28⟩ := Kd.N_slice HO122.out
       (first | subst eo28 | (injection eo28 with f1_ f2_ f3_; have f4_ := f1_.symm; have f5_ := f3_.symm; clear f1_ f2_ f3_; subst f4_; subst f5_))
       refine hK.out _ _ ⟨(blk_cell BK114.out 0).trans rfl, (blk_cell BK114.out 1).trans rfl, (blk_cell BK114.out 2).trans rfl⟩ (fun hHeld => ?_)
       clear hK K
       refine norm_ (a' := ?_) ?_ ?_
       rotate_left
       ·show Act.put _ (some 13) _ = _
        simp only [Act.put, List.setIfInBounds_toArray, List.set_cons_zero, List.set_cons_succ, i64_w, i32_w]
        rfl
       exact norm_ (by simp only [putAll, Act.put, List.setIfInBounds_toArray, List.set_cons_zero, List.set_cons_succ]) (hCont (.slice Ao22 t117.length co22, .slice Ao28 y120.length co28, .slice Ao27 y123.length co27) _ ⟨hHeld, (by (with_reducible repeat (first | apply Kd.N_alloc | apply Kd.N_drewN | apply Kd.N_drew)); exact Kd.N_mono HO108.out (fun _ hk => ⟨hk.1.2, ⟨hk.2, hk.1.1.1⟩⟩)), (by (with_reducible repeat (first | apply Kd.V_alloc | apply Kd.V_drewN | apply Kd.V_drew)); exact Kd.V_mono HO113.out (fun _ hk => ⟨hk.1.2, ⟨hk.2, hk.1.1.1⟩⟩)), (by (with_reducible repeat (first | apply Kd.N_alloc | apply Kd.N_drewN | apply Kd.N_drew)); exact Kd.N_mono HO122.out (fun _ hk => ⟨hk.2, hk.1⟩)), (rl_ HO125), (pl_ BK114), (bl_ HB)⟩)
      ·skip
       refine Kd.R_lit_step (Kd.int .i64) _ 3 ?hg (N := 13) ?hd (xs := ([0, 1] : List Int)) (inner := [.int .i64 0, .int .i64 1]) (ok := fun _ => True) (okp := fun _ => True) ?hr ?hp (fun _ hk => hk) trivial (Below.refl _ _) (Nat.le_refl _) (by simp) ?_; (case hd => rfl); (case hg => rfl); (case hr => first | (go_simp; done) | (go_simp; rfl)); (case hp => exact (Reps.one (show Kd.M (Kd.int .i64) _ _ _ 0 [.int .i64 0] from rfl) (Reps.one (show Kd.M (Kd.int .i64) _ _ _ 1 [.int .i64 1] from rfl) (Reps.none _ _))))
       intro v124 w22 ho23 hb hg_ hnew_
       clear hg_ hnew_
       (first | rw [← Ny123.out] at ho23 | (simp only [Int.reduceToNat] at ho23; rw [← Ny123.out] at ho23))
       have HO125 := Aside0.mk (Kd.R_lower ho23 (below_size (bl_ HB)))
       replace HO108 := Aside0.mk (Kd.N_elder' (by (with_reducible repeat (first | apply Kd.N_alloc | apply Kd.N_drewN | apply Kd.N_drew)); exact HO108.out) (Kd.R_base ho23) hb)
       replace HO113 := Aside0.mk (Kd.V_elder' (by (with_reducible repeat (first | apply Kd.V_alloc | apply Kd.V_drewN | apply Kd.V_drew)); exact HO113.out) (Kd.R_base ho23) hb)
       replace HO119 := Aside0.mk (Kd.N_elder' (by (with_reducible repeat (first | apply Kd.N_alloc | apply Kd.N_drewN | apply Kd.N_drew)); exact HO119.out) (Kd.R_base ho23) hb)
       replace BK114 := bb_ BK114 hb
       replace HB := hs_ HB hb
       clear hb ho23
       obtain ⟨Ao24, co24, eo24⟩ := Kd.N_slice HO119.out
       (first | subst eo24 | (injection eo24 with f1_ f2_ f3_; have f4_ := f1_.symm; have f5_ := f3_.symm; clear f1_ f2_ f3_; subst f4_; subst f5_))
       refine hK.out _ _ ⟨(blk_cell BK114.out 0).trans rfl, (blk_cell BK114.out 1).trans rfl, (blk_cell BK114.out 2).trans rfl⟩ (fun hHeld => ?_)
       clear hK K
       refine norm_ (a' := ?_) ?_ ?_
       rotate_left
       ·show Act.put _ (some 13) _ = _
        simp only [Act.put, List.setIfInBounds_toArray, List.set_cons_zero, List.set_cons_succ, i64_w, i32_w]
        rfl
       refine one_ (i := 2) (N := some 12) #[true, true, true, true, false, false, false, false, false, false, false, false] rfl rfl (one_of HT_.out (by kernel_rfl)) (by decide) (fun K hK => ?_)
       refine Kd.N_lit_step k36 _ 36 ?hg (N' := 12) ?hd (xs := ([(⟨t115, t116, t117⟩ : S36), (⟨t109, t110, t111⟩ : S36)] : List (S36))) (inner := [.int .i64 t115, .string t116, .slice Ao24 t117.length co24, .int .i64 t109, .string t110, .slice Ao18 t111.length co18]) (ok := (fun k_ => some k_ ≠ (v124 : Value).ownBlock ∧ k_ ≠ gb114)) (okp := (fun k_ => some k_ ≠ (v124 : Value).ownBlock ∧ k_ ≠ gb114)) ?hr ?hp (fun _ hk => hk) ((show ∀ k_, w22.heap.size ≤ k_ → (fun k_ => some k_ ≠ (v124 : Value).ownBlock ∧ k_ ≠ gb114) k_ from fun k_ hk => ⟨Kd.fresh' (Kd.R_lt (rl_ HO125)) k_ hk, Kd.freshB (g := gb114) (o := .cells #[.int .i64 t109, .string t110, .slice Ao18 t111.length co18] 36 (0, 0)) (pl_ BK114) k_ hk⟩) _ (Nat.le_refl _)) (Below.refl _ _) (Nat.le_refl _) (by simp) ?_; (case hd => rfl); (case hg => rfl); (case hr => first | (go_simp; done) | (go_simp; rfl)); (case hp => exact (Reps.c3 (show Kd.FK k36 _ _ (⟨t115, t116, t117⟩ : S36) [.int .i64 t115, .string t116, .slice Ao24 t117.length co24] from (k36_mkF _ _ (⟨t115, t116, t117⟩ : S36) (Kd.N_reads' (Kd.N_mono (ok' := (fun k_ => some k_ ≠ (v124 : Value).ownBlock ∧ k_ ≠ gb114)) (HO119.out) (fun k_ hk => ⟨hk.2, hk.1.2⟩))).2.1 (Kd.N_F (Kd.N_mono (ok' := (fun k_ => some k_ ≠ (v124 : Value).ownBlock ∧ k_ ≠ gb114)) (HO119.out) (fun k_ hk => ⟨hk.2, hk.1.2⟩))))) (Reps.c3 (show Kd.FK k36 _ _ (⟨t109, t110, t111⟩ : S36) [.int .i64 t109, .string t110, .slice Ao18 t111.length co18] from (k36_mkF _ _ (⟨t109, t110, t111⟩ : S36) (Kd.V_reads' (Kd.V_mono (ok' := (fun k_ => some k_ ≠ (v124 : Value).ownBlock ∧ k_ ≠ gb114)) (HO113.out) (fun k_ hk => ⟨hk.2, hk.1.1⟩))).2.1 (Kd.V_F (Kd.V_mono (ok' := (fun k_ => some k_ ≠ (v124 : Value).ownBlock ∧ k_ ≠ gb114)) (HO113.out) (fun k_ hk => ⟨hk.2, hk.1.1⟩))))) (Reps.none _ _))))
       intro v121 w25 ho26 hb hg_ hnew_
       clear hg_ hnew_
       (first | rw [← Ny120.out] at ho26 | (simp only [Int.reduceToNat] at ho26; rw [← Ny120.out] at ho26))
       have HO122 := Aside0.mk (Kd.N_lower ho26 (below_size (bl_ HB)))
       replace HO108 := Aside0.mk (Kd.N_elder' (by (with_reducible repeat (first | apply Kd.N_alloc | apply Kd.N_drewN | apply Kd.N_drew)); exact HO108.out) (Kd.N_base ho26) hb)
       replace HO113 := Aside0.mk (Kd.V_elder' (by (with_reducible repeat (first | apply Kd.V_alloc | apply Kd.V_drewN | apply Kd.V_drew)); exact HO113.out) (Kd.N_base ho26) hb)
       replace HO125 := Aside0.mk (Kd.R_below (rl_ HO125) hb)
       replace BK114 := bb_ BK114 hb
       replace HB := hs_ HB hb
       clear HO119 hb ho26
       obtain ⟨Ao27, co27, eo27⟩ := Kd.R_slice HO125.out
       (first | subst eo27 | (injection eo27 with f1_ f2_ f3_; have f4_ := f1_.symm; have f5_ := f3_.symm; clear f1_ f2_ f3_; subst f4_; subst f5_))
       obtain ⟨Ao28, co28, eo28⟩ := Kd.N_slice HO122.out
       (first | subst eo28 | (injection eo28 with f1_ f2_ f3_; have f4_ := f1_.symm; have f5_ := f3_.symm; clear f1_ f2_ f3_; subst f4_; subst f5_))
       refine hK.out _ _ ⟨(blk_cell BK114.out 0).trans rfl, (blk_cell BK114.out 1).trans rfl, (blk_cell BK114.out 2).trans rfl⟩ (fun hHeld => ?_)
       clear hK K
       refine norm_ (a' := ?_) ?_ ?_
       rotate_left
       ·show Act.put _ (some 12) _ = _
        simp only [Act.put, List.setIfInBounds_toArray, List.set_cons_zero, List.set_cons_succ, i64_w, i32_w]
        rfl
       exact norm_ (by simp only [putAll, Act.put, List.setIfInBounds_toArray, List.set_cons_zero, List.set_cons_succ]) (hCont (.slice Ao24 t117.length co24, .slice Ao28 y120.length co28, .slice Ao27 y123.length co27) _ ⟨hHeld, (by (with_reducible repeat (first | apply Kd.N_alloc | apply Kd.N_drewN | apply Kd.N_drew)); exact Kd.N_mono HO108.out (fun _ hk => ⟨hk.2, ⟨hk.1.2, hk.1.1.1⟩⟩)), (by (with_reducible repeat (first | apply Kd.V_alloc | apply Kd.V_drewN | apply Kd.V_drew)); exact Kd.V_mono HO113.out (fun _ hk => ⟨hk.2, ⟨hk.1.2, hk.1.1.1⟩⟩)), (by (with_reducible repeat (first | apply Kd.N_alloc | apply Kd.N_drewN | apply Kd.N_drew)); exact HO122.out), (rl_ HO125), (pl_ BK114), (bl_ HB)⟩)
     ·skip
      refine Kd.R_lit_step (Kd.int .i64) _ 3 ?hg (N := 13) ?hd (xs := ([0, 1] : List Int)) (inner := [.int .i64 0, .int .i64 1]) (ok := fun _ => True) (okp := fun _ => True) ?hr ?hp (fun _ hk => hk) trivial (Below.refl _ _) (Nat.le_refl _) (by simp) ?_; (case hd => rfl); (case hg => rfl); (case hr => first | (go_simp; done) | (go_simp; rfl)); (case hp => exact (Reps.one (show Kd.M (Kd.int .i64) _ _ _ 0 [.int .i64 0] from rfl) (Reps.one (show Kd.M (Kd.int .i64) _ _ _ 1 [.int .i64 1] from rfl) (Reps.none _ _))))
      intro v124 w21 ho22 hb hg_ hnew_
      clear hg_ hnew_
      (first | rw [← Ny123.out] at ho22 | (simp only [Int.reduceToNat] at ho22; rw [← Ny123.out] at ho22))
      have HO125 := Aside0.mk (Kd.R_lower ho22 (below_size (bl_ HB)))
      replace HO108 := Aside0.mk (Kd.N_elder' (by (with_reducible repeat (first | apply Kd.N_alloc | apply Kd.N_drewN | apply Kd.N_drew)); exact HO108.out) (Kd.R_base ho22) hb)
      replace HO113 := Aside0.mk (Kd.V_elder' (by (with_reducible repeat (first | apply Kd.V_alloc | apply Kd.V_drewN | apply Kd.V_drew)); exact HO113.out) (Kd.R_base ho22) hb)
      replace BK114 := bb_ BK114 hb
      replace HB := hs_ HB hb
      clear hb ho22
      refine hK.out _ _ ⟨(blk_cell BK114.out 0).trans rfl, (blk_cell BK114.out 1).trans rfl, (blk_cell BK114.out 2).trans rfl⟩ (fun hHeld => ?_)
      clear hK K
      refine norm_ (a' := ?_) ?_ ?_
      rotate_left
      ·show Act.put _ (some 13) _ = _
       simp only [Act.put, List.setIfInBounds_toArray, List.set_cons_zero, List.set_cons_succ, i64_w, i32_w]
       rfl
      refine one_ (i := 0) (N := some 10) #[true, true, false, true, false, false, false, false, false, false, false, false] rfl rfl (one_of HT_.out (by kernel_rfl)) (by decide) (fun K hK => ?_)
      refine goes_ Try.func26 (by kernel_rfl) rfl #[] (by rfl) rfl rfl (by (try simp only [List.map_toArray, List.map_cons, List.map_nil]); first | done | rfl | (simp only [List.length_drop, List.length_take]; rfl)) ?_
      with_reducible refine (telamonlaw21_V.calls  t115 t116 t117 _ A3.out).mono ?_
      rintro e w23 ⟨v118, rfl, ho0, hb⟩
      refine ⟨_, rfl, ?_⟩
      have HO119 := Aside0.mk (Kd.N_lower (Kd.N_mono (ok' := fun k_ => some k_ ≠ (.slice Ao14 y106.length co14 : Value).ownBlock ∧ some k_ ≠ (v124 : Value).ownBlock ∧ k_ ≠ gb114) (Kd.R_N (Kd.R_bound ho0)) (fun k_ hk_ => ⟨(Kd.fresh' (Kd.N_lt (by (with_reducible repeat (first | apply Kd.N_alloc | apply Kd.N_drewN | apply Kd.N_drew)); exact HO108.out)) k_ hk_.2.1), (Kd.fresh' (Kd.R_lt (rl_ HO125)) k_ hk_.2.1), (Kd.freshB (g := gb114) (o := .cells #[.int .i64 t109, .string t110, .slice Ao18 t111.length co18] 36 (0, 0)) (pl_ BK114) k_ hk_.2.1)⟩)) (below_size (bl_ HB)))
      replace HO108 := Aside0.mk (Kd.N_elder' (by (with_reducible repeat (first | apply Kd.N_alloc | apply Kd.N_drewN | apply Kd.N_drew)); exact HO108.out) (Kd.N_base (Kd.R_N (Kd.R_bound ho0))) hb)
      replace HO113 := Aside0.mk (Kd.V_elder' (by (with_reducible repeat (first | apply Kd.V_alloc | apply Kd.V_drewN | apply Kd.V_drew)); exact HO113.out) (Kd.N_base (Kd.R_N (Kd.R_bound ho0))) hb)
      replace HO125 := Aside0.mk (Kd.R_below (rl_ HO125) hb)
      replace BK114 := bb_ BK114 hb
      replace HB := hs_ HB hb
      (try clear hb); (try clear hb2); (try clear hk); (try clear hi); (try clear ho0)
      obtain ⟨Ao24, co24, eo24⟩ := Kd.N_slice HO119.out
      (first | subst eo24 | (injection eo24 with f1_ f2_ f3_; have f4_ := f1_.symm; have f5_ := f3_.symm; clear f1_ f2_ f3_; subst f4_; subst f5_))
      refine hK.out _ _ ⟨(blk_cell BK114.out 0).trans rfl, (blk_cell BK114.out 1).trans rfl, (blk_cell BK114.out 2).trans rfl⟩ (fun hHeld => ?_)
      clear hK K
      refine norm_ (a' := ?_) ?_ ?_
      rotate_left
      ·show Act.put _ (some 10) _ = _
       simp only [Act.put, List.setIfInBounds_toArray, List.set_cons_zero, List.set_cons_succ, i64_w, i32_w]
       rfl
      refine one_ (i := 2) (N := some 12) #[true, true, true, true, false, false, false, false, false, false, false, false] rfl rfl (one_of HT_.out (by kernel_rfl)) (by decide) (fun K hK => ?_)
      refine Kd.N_lit_step k36 _ 36 ?hg (N' := 12) ?hd (xs := ([(⟨t115, t116, t117⟩ : S36), (⟨t109, t110, t111⟩ : S36)] : List (S36))) (inner := [.int .i64 t115, .string t116, .slice Ao24 t117.length co24, .int .i64 t109, .string t110, .slice Ao18 t111.length co18]) (ok := (fun k_ => some k_ ≠ (v124 : Value).ownBlock ∧ k_ ≠ gb114)) (okp := (fun k_ => some k_ ≠ (v124 : Value).ownBlock ∧ k_ ≠ gb114)) ?hr ?hp (fun _ hk => hk) ((show ∀ k_, w23.heap.size ≤ k_ → (fun k_ => some k_ ≠ (v124 : Value).ownBlock ∧ k_ ≠ gb114) k_ from fun k_ hk => ⟨Kd.fresh' (Kd.R_lt (rl_ HO125)) k_ hk, Kd.freshB (g := gb114) (o := .cells #[.int .i64 t109, .string t110, .slice Ao18 t111.length co18] 36 (0, 0)) (pl_ BK114) k_ hk⟩) _ (Nat.le_refl _)) (Below.refl _ _) (Nat.le_refl _) (by simp) ?_; (case hd => rfl); (case hg => rfl); (case hr => first | (go_simp; done) | (go_simp; rfl)); (case hp => exact (Reps.c3 (show Kd.FK k36 _ _ (⟨t115, t116, t117⟩ : S36) [.int .i64 t115, .string t116, .slice Ao24 t117.length co24] from (k36_mkF _ _ (⟨t115, t116, t117⟩ : S36) (Kd.N_reads' (Kd.N_mono (ok' := (fun k_ => some k_ ≠ (v124 : Value).ownBlock ∧ k_ ≠ gb114)) (HO119.out) (fun k_ hk => ⟨hk.2.1, hk.2.2⟩))).2.1 (Kd.N_F (Kd.N_mono (ok' := (fun k_ => some k_ ≠ (v124 : Value).ownBlock ∧ k_ ≠ gb114)) (HO119.out) (fun k_ hk => ⟨hk.2.1, hk.2.2⟩))))) (Reps.c3 (show Kd.FK k36 _ _ (⟨t109, t110, t111⟩ : S36) [.int .i64 t109, .string t110, .slice Ao18 t111.length co18] from (k36_mkF _ _ (⟨t109, t110, t111⟩ : S36) (Kd.V_reads' (Kd.V_mono (ok' := (fun k_ => some k_ ≠ (v124 : Value).ownBlock ∧ k_ ≠ gb114)) (HO113.out) (fun k_ hk => ⟨hk.1.2, hk.1.1⟩))).2.1 (Kd.V_F (Kd.V_mono (ok' := (fun k_ => some k_ ≠ (v124 : Value).ownBlock ∧ k_ ≠ gb114)) (HO113.out) (fun k_ hk => ⟨hk.1.2, hk.1.1⟩))))) (Reps.none _ _))))
      intro v121 w25 ho26 hb hg_ hnew_
      clear hg_ hnew_
      (first | rw [← Ny120.out] at ho26 | (simp only [Int.reduceToNat] at ho26; rw [← Ny120.out] at ho26))
      have HO122 := Aside0.mk (Kd.N_lower ho26 (below_size (bl_ HB)))
      replace HO108 := Aside0.mk (Kd.N_elder' (by (with_reducible repeat (first | apply Kd.N_alloc | apply Kd.N_drewN | apply Kd.N_drew)); exact HO108.out) (Kd.N_base ho26) hb)
      replace HO113 := Aside0.mk (Kd.V_elder' (by (with_reducible repeat (first | apply Kd.V_alloc | apply Kd.V_drewN | apply Kd.V_drew)); exact HO113.out) (Kd.N_base ho26) hb)
      replace HO125 := Aside0.mk (Kd.R_below (rl_ HO125) hb)
      replace BK114 := bb_ BK114 hb
      replace HB := hs_ HB hb
      clear HO119 hb ho26
      obtain ⟨Ao27, co27, eo27⟩ := Kd.R_slice HO125.out
      (first | subst eo27 | (injection eo27 with f1_ f2_ f3_; have f4_ := f1_.symm; have f5_ := f3_.symm; clear f1_ f2_ f3_; subst f4_; subst f5_))
      obtain ⟨Ao28, co28, eo28⟩ := Kd.N_slice HO122.out
      (first | subst eo28 | (injection eo28 with f1_ f2_ f3_; have f4_ := f1_.symm; have f5_ := f3_.symm; clear f1_ f2_ f3_; subst f4_; subst f5_))
      refine hK.out _ _ ⟨(blk_cell BK114.out 0).trans rfl, (blk_cell BK114.out 1).trans rfl, (blk_cell BK114.out 2).trans rfl⟩ (fun hHeld => ?_)
      clear hK K
      refine norm_ (a' := ?_) ?_ ?_
      rotate_left
      ·show Act.put _ (some 12) _ = _
       simp only [Act.put, List.setIfInBounds_toArray, List.set_cons_zero, List.set_cons_succ, i64_w, i32_w]
       rfl
      exact norm_ (by simp only [putAll, Act.put, List.setIfInBounds_toArray, List.set_cons_zero, List.set_cons_succ]) (hCont (.slice Ao24 t117.length co24, .slice Ao28 y120.length co28, .slice Ao27 y123.length co27) _ ⟨hHeld, (by (with_reducible repeat (first | apply Kd.N_alloc | apply Kd.N_drewN | apply Kd.N_drew)); exact Kd.N_mono HO108.out (fun _ hk => ⟨hk.2, ⟨hk.1.1.2, hk.1.1.1⟩⟩)), (by (with_reducible repeat (first | apply Kd.V_alloc | apply Kd.V_drewN | apply Kd.V_drew)); exact Kd.V_mono HO113.out (fun _ hk => ⟨hk.2, ⟨hk.1.1.2, hk.1.1.1⟩⟩)), (by (with_reducible repeat (first | apply Kd.N_alloc | apply Kd.N_drewN | apply Kd.N_drew)); exact HO122.out), (rl_ HO125), (pl_ BK114), (bl_ HB)⟩)
    rintro ⟨v118, v121, v124⟩ w29 ⟨hS_, h0_, h1_, h2_, h3_, h4_, h5_⟩
    have n0_ : Aside0 (Kd.N k36 36 w29 w.heap.size (fun k_ => some k_ ≠ (v121 : Value).ownBlock ∧ some k_ ≠ (v124 : Value).ownBlock ∧ k_ ≠ gb114) (.slice Ao14 y106.length co14) y106) := ⟨h0_⟩
    have n1_ : Aside0 (Kd.V k36 36 w29 w.heap.size (fun k_ => some k_ ≠ (v121 : Value).ownBlock ∧ some k_ ≠ (v124 : Value).ownBlock ∧ k_ ≠ gb114) (.slice Ao18 t111.length co18) t111) := ⟨h1_⟩
    have n2_ : Aside0 (Kd.N k36 36 w29 w.heap.size (fun k_ => some k_ ≠ (v124 : Value).ownBlock ∧ k_ ≠ gb114) v121 y120) := ⟨h2_⟩
    have n3_ : Aside0 (Kd.R (Kd.int .i64) 3 w29 w.heap.size (fun _ => True) v124 y123) := ⟨h3_⟩
    have n4_ : Aside0 (w29.heap[gb114]? = some (.cells #[.int .i64 t109, .string t110, .slice Ao18 t111.length co18] 36 (0, 0))) := ⟨h4_⟩
    have n5_ : Aside0 (Below w.heap.size w w29) := ⟨h5_⟩
    clear HO108 HO113 BK114 HB h0_ h1_ h2_ h3_ h4_ h5_
    have HO108 := n0_
    have HO113 := n1_
    have HO122 := n2_
    have HO125 := n3_
    have BK114 := n4_
    have HB := n5_
    clear n0_ n1_ n2_ n3_ n4_ n5_
    have hHeld : w29.cell? ⟨gb114, 0, none⟩ = some (.int .i64 t109) ∧ w29.cell? ⟨gb114, 1, none⟩ = some (.string t110) ∧ w29.cell? ⟨gb114, 2, none⟩ = some (.slice Ao18 t111.length co18) := hS_
    obtain ⟨Ao30, co30, eo30⟩ := Kd.R_slice HO125.out
    (first | subst eo30 | (injection eo30 with f1_ f2_ f3_; have f4_ := f1_.symm; have f5_ := f3_.symm; clear f1_ f2_ f3_; subst f4_; subst f5_))
    obtain ⟨Ao31, co31, eo31⟩ := Kd.N_slice HO122.out
    (first | subst eo31 | (injection eo31 with f1_ f2_ f3_; have f4_ := f1_.symm; have f5_ := f3_.symm; clear f1_ f2_ f3_; subst f4_; subst f5_))
    refine norm_ (a' := ?_) ?_ ?_
    rotate_left
    ·simp only [putAll, Act.put, List.setIfInBounds_toArray, List.set_cons_zero, List.set_cons_succ]
     rfl
    refine pure_ (i := 4) (N := some 14) (v := ?_) (a' := ?_) #[true, true, true, true, true, false, false, false, false, false, false, false] rfl rfl (any_of HT_.out (by kernel_rfl)) (fun _ _ _ h => h) (Or.inl ⟨by rfl, ?_⟩) ?_ ?_
    rotate_left
    ·intro w'
     go_simp
     with_reducible rfl
    rotate_left
    ·simp only [Act.put, List.setIfInBounds_toArray, List.set_cons_zero, List.set_cons_succ, i64_w, i32_w]
     rfl
    refine one_ (i := 5) (N := some 15) #[true, true, true, true, true, true, false, false, false, false, false, false] rfl rfl (one_of HT_.out (by kernel_rfl)) (by decide) (fun K hK => ?_)
    refine Kd.N_lit_step k31 _ 31 ?hg (N' := 15) ?hd (xs := ([(⟨y120, y123⟩ : S31)] : List (S31))) (inner := [.slice Ao31 y120.length co31, .slice Ao30 y123.length co30]) (ok := (fun k_ => k_ ≠ gb114)) (okp := (fun k_ => k_ ≠ gb114)) ?hr ?hp (fun _ hk => hk) ((show ∀ k_, w29.heap.size ≤ k_ → (fun k_ => k_ ≠ gb114) k_ from fun k_ hk => Kd.freshB (g := gb114) (o := .cells #[.int .i64 t109, .string t110, .slice Ao18 t111.length co18] 36 (0, 0)) (pl_ BK114) k_ hk) _ (Nat.le_refl _)) (Below.refl _ _) (Nat.le_refl _) (by simp) ?_; (case hd => rfl); (case hg => rfl); (case hr => first | (go_simp; done) | (go_simp; rfl)); (case hp => exact (Reps.c2 (show Kd.FK k31 _ _ (⟨y120, y123⟩ : S31) [.slice Ao31 y120.length co31, .slice Ao30 y123.length co30] from (k31_mkF _ _ (⟨y120, y123⟩ : S31) (Kd.N_reads' (Kd.N_mono (ok' := (fun k_ => k_ ≠ gb114)) (HO122.out) (fun k_ hk => hk.2))).2.1 (Kd.N_F (Kd.N_mono (ok' := (fun k_ => k_ ≠ gb114)) (HO122.out) (fun k_ hk => hk.2))) (Kd.R_reads' (Kd.R_mono (ok' := (fun k_ => k_ ≠ gb114)) (Kd.R_types (HO125.out) BK114.out (by decide)) (fun k_ hk => hk.2))).2.1 (Kd.R_F (Kd.R_mono (ok' := (fun k_ => k_ ≠ gb114)) (Kd.R_types (HO125.out) BK114.out (by decide)) (fun k_ hk => hk.2))))) (Reps.none _ _)))
    intro v127 w32 ho33 hb hg_ hnew_
    clear hg_ hnew_
    (first | rw [← Ny126.out] at ho33 | (simp only [Int.reduceToNat] at ho33; rw [← Ny126.out] at ho33))
    have HO128 := Aside0.mk (Kd.N_lower ho33 (below_size (bl_ HB)))
    replace HO108 := Aside0.mk (Kd.N_elder' (by (with_reducible repeat (first | apply Kd.N_alloc | apply Kd.N_drewN | apply Kd.N_drew)); exact HO108.out) (Kd.N_base ho33) hb)
    replace HO113 := Aside0.mk (Kd.V_elder' (by (with_reducible repeat (first | apply Kd.V_alloc | apply Kd.V_drewN | apply Kd.V_drew)); exact HO113.out) (Kd.N_base ho33) hb)
    replace BK114 := bb_ BK114 hb
    replace HB := hs_ HB hb
    clear HO122 HO125 hb ho33
    obtain ⟨Ao34, co34, eo34⟩ := Kd.N_slice HO128.out
    (first | subst eo34 | (injection eo34 with f1_ f2_ f3_; have f4_ := f1_.symm; have f5_ := f3_.symm; clear f1_ f2_ f3_; subst f4_; subst f5_))
    refine hK.out _ _ ⟨(blk_cell BK114.out 0).trans rfl, (blk_cell BK114.out 1).trans rfl, (blk_cell BK114.out 2).trans rfl⟩ (fun hHeld => ?_)
    clear hK K
    refine norm_ (a' := ?_) ?_ ?_
    rotate_left
    ·show Act.put _ (some 15) _ = _
     simp only [Act.put, List.setIfInBounds_toArray, List.set_cons_zero, List.set_cons_succ, i64_w, i32_w]
     rfl
    refine one_ (i := 6) (N := some 16) #[true, true, true, true, true, true, true, false, false, false, false, false] rfl rfl (one_of HT_.out (by kernel_rfl)) (by decide) (fun K hK => ?_)
    refine goes_ Try.func20 (by kernel_rfl) rfl #[.slice Ao34 y126.length co34, .int .i64 2] (by rfl) rfl rfl (by (try simp only [List.map_toArray, List.map_cons, List.map_nil]); first | done | rfl | (simp only [List.length_drop, List.length_take]; rfl)) ?_
    with_reducible refine (recurse_Find.calls _ _ y126 2 t129 true _ ?side1 ?side2 A4.out).mono ?_
    (case side1 => repeat (first | exact (Kd.N_reads' HO128.out).2.2 | (with_reducible refine Kd.C_alloc ?_ _) | (with_reducible refine Kd.C_drewN ?_ _) | (with_reducible refine Kd.C_drew ?_)))
    (case side2 => exact (Kd.N_reads' HO128.out).2.1)
    rintro e w35 ⟨rfl, hb⟩
    refine ⟨_, rfl, ?_⟩
    replace HO108 := Aside0.mk (Kd.N_below (by (with_reducible repeat (first | apply Kd.N_alloc | apply Kd.N_drewN | apply Kd.N_drew)); exact HO108.out) hb)
    replace HO113 := Aside0.mk (Kd.V_below (by (with_reducible repeat (first | apply Kd.V_alloc | apply Kd.V_drewN | apply Kd.V_drew)); exact HO113.out) hb)
    replace HO128 := Aside0.mk (Kd.N_below (by (with_reducible repeat (first | apply Kd.N_alloc | apply Kd.N_drewN | apply Kd.N_drew)); exact HO128.out) hb)
    replace BK114 := bb_ BK114 hb
    replace HB := hs_ HB hb
    (try clear hb); (try clear hb2); (try clear hk); (try clear hi)
    refine hK.out _ _ ⟨(blk_cell BK114.out 0).trans rfl, (blk_cell BK114.out 1).trans rfl, (blk_cell BK114.out 2).trans rfl⟩ (fun hHeld => ?_)
    clear hK K
    refine norm_ (a' := ?_) ?_ ?_
    rotate_left
    ·show Act.put _ (some 16) _ = _
     simp only [Act.put, List.setIfInBounds_toArray, List.set_cons_zero, List.set_cons_succ, i64_w, i32_w]
     rfl
    refine pure_ (i := 7) (N := some 9) (v := ?_) (a' := ?_) #[true, true, true, true, true, true, true, true, false, false, false, false] rfl rfl (any_of HT_.out (by kernel_rfl)) (fun _ _ _ h => h) (Or.inl ⟨by rfl, ?_⟩) ?_ ?_
    rotate_left
    ·intro w'
     go_simp
     with_reducible rfl
    rotate_left
    ·simp only [Act.put, List.setIfInBounds_toArray, List.set_cons_zero, List.set_cons_succ, i64_w, i32_w]
     rfl
    refine pure_ (i := 8) (N := some 17) (v := ?_) (a' := ?_) #[true, true, true, true, true, true, true, true, true, false, false, false] rfl rfl (any_of HT_.out (by kernel_rfl)) (fun _ _ _ h => h) (Or.inl ⟨by rfl, ?_⟩) ?_ ?_
    rotate_left
    ·intro w'
     go_simp
     with_reducible rfl
    rotate_left
    ·simp only [Act.put, List.setIfInBounds_toArray, List.set_cons_zero, List.set_cons_succ, i64_w, i32_w]
     rfl
    refine pure_ (i := 9) (N := some 18) (v := ?_) (a' := ?_) #[true, true, true, true, true, true, true, true, true, true, false, false] rfl rfl (any_of HT_.out (by kernel_rfl)) (fun _ _ _ h => h) (Or.inl ⟨by rfl, ?_⟩) ?_ ?_
    rotate_left
    ·intro w'
     go_simp
     with_reducible rfl
    rotate_left
    ·simp only [Act.put, List.setIfInBounds_toArray, List.set_cons_zero, List.set_cons_succ, i64_w, i32_w]
     rfl
    refine pure_ (i := 10) (N := some 2) (v := ?_) (a' := ?_) #[true, true, true, true, true, true, true, true, true, true, true, false] rfl rfl (any_of HT_.out (by kernel_rfl)) (fun _ _ _ h => h) (Or.inl ⟨by rfl, ?_⟩) ?_ ?_
    rotate_left
    ·intro w'
     go_simp
     with_reducible rfl
    rotate_left
    ·simp only [Act.put, List.setIfInBounds_toArray, List.set_cons_zero, List.set_cons_succ, i64_w, i32_w]
     rfl
    refine pure_ (i := 11) (N := some 3) (v := ?_) (a' := ?_) #[true, true, true, true, true, true, true, true, true, true, true, true] rfl rfl (any_of HT_.out (by kernel_rfl)) (fun _ _ _ h => h) (Or.inl ⟨by rfl, ?_⟩) ?_ ?_
    rotate_left
    ·intro w'
     go_simp
     with_reducible rfl
    rotate_left
    ·simp only [Act.put, List.setIfInBounds_toArray, List.set_cons_zero, List.set_cons_succ, i64_w, i32_w]
     rfl
    refine done_ (done_of HT_.out (by kernel_rfl)) ?_
    try go_wp2_with (first | ((with_reducible refine gate_callee (f := 26) rfl ?_); refine goesL_ (some 20) rfl rfl Try.func26 (by kernel_rfl) rfl #[] rfl (by (try simp only [List.map_toArray, List.map_cons, List.map_nil]); first | done | rfl | (simp only [List.length_drop, List.length_take]; rfl)) ?_; (with_reducible refine (telamonlaw21_V.calls  t131 t132 t133 _ A5.out).mono ?_); rintro e w36 ⟨v134, rfl, ho0, hb⟩; refine ⟨_, rfl, ?_⟩; have HO135 := Aside0.mk (Kd.N_lower (Kd.N_mono (ok' := fun k_ => some k_ ≠ (.slice Ao14 y106.length co14 : Value).ownBlock ∧ some k_ ≠ (.slice Ao34 y126.length co34 : Value).ownBlock ∧ k_ ≠ gb114) (Kd.R_N (Kd.R_bound ho0)) (fun k_ hk_ => ⟨(Kd.fresh' (Kd.N_lt (by (with_reducible repeat (first | apply Kd.N_alloc | apply Kd.N_drewN | apply Kd.N_drew)); exact HO108.out)) k_ hk_.2.1), (Kd.fresh' (Kd.N_lt (by (with_reducible repeat (first | apply Kd.N_alloc | apply Kd.N_drewN | apply Kd.N_drew)); exact HO128.out)) k_ hk_.2.1), (Kd.freshB (g := gb114) (o := .cells #[.int .i64 t109, .string t110, .slice Ao18 t111.length co18] 36 (0, 0)) (pl_ BK114) k_ hk_.2.1)⟩)) (below_size (bl_ HB))); replace HO108 := Aside0.mk (Kd.N_elder' (by (with_reducible repeat (first | apply Kd.N_alloc | apply Kd.N_drewN | apply Kd.N_drew)); exact HO108.out) (Kd.N_base (Kd.R_N (Kd.R_bound ho0))) hb); replace HO113 := Aside0.mk (Kd.V_elder' (by (with_reducible repeat (first | apply Kd.V_alloc | apply Kd.V_drewN | apply Kd.V_drew)); exact HO113.out) (Kd.N_base (Kd.R_N (Kd.R_bound ho0))) hb); replace HO128 := Aside0.mk (Kd.N_elder' (by (with_reducible repeat (first | apply Kd.N_alloc | apply Kd.N_drewN | apply Kd.N_drew)); exact HO128.out) (Kd.N_base (Kd.R_N (Kd.R_bound ho0))) hb); replace BK114 := bb_ BK114 hb; replace HB := hs_ HB hb; (try clear hb); (try clear hb2); (try clear hk); (try clear hi); (try clear ho0); obtain ⟨Ao37, co37, eo37⟩ := Kd.N_slice HO135.out; subst eo37) | ((with_reducible refine gate_dst (N := 21) rfl ?_); (try (refine gate_guard (by rfl) ?_; dsimp only)); refine Kd.N_lit k36 _ 36 ?hg (N' := 21) ?hd (xs := ([(⟨t131, t132, t133⟩ : S36)] : List (S36))) (inner := [.int .i64 t131, .string t132, .slice Ao37 t133.length co37]) (ok := (fun k_ => some k_ ≠ (.slice Ao14 y106.length co14 : Value).ownBlock ∧ some k_ ≠ (.slice Ao34 y126.length co34 : Value).ownBlock ∧ k_ ≠ gb114)) (okp := (fun k_ => some k_ ≠ (.slice Ao14 y106.length co14 : Value).ownBlock ∧ some k_ ≠ (.slice Ao34 y126.length co34 : Value).ownBlock ∧ k_ ≠ gb114)) ?hr ?hp (fun _ hk => hk) ((show ∀ k_, w36.heap.size ≤ k_ → (fun k_ => some k_ ≠ (.slice Ao14 y106.length co14 : Value).ownBlock ∧ some k_ ≠ (.slice Ao34 y126.length co34 : Value).ownBlock ∧ k_ ≠ gb114) k_ from fun k_ hk => ⟨Kd.fresh' (Kd.N_lt (by (with_reducible repeat (first | apply Kd.N_alloc | apply Kd.N_drewN | apply Kd.N_drew)); exact HO108.out)) k_ hk, Kd.fresh' (Kd.N_lt (by (with_reducible repeat (first | apply Kd.N_alloc | apply Kd.N_drewN | apply Kd.N_drew)); exact HO128.out)) k_ hk, Kd.freshB (g := gb114) (o := .cells #[.int .i64 t109, .string t110, .slice Ao18 t111.length co18] 36 (0, 0)) (pl_ BK114) k_ hk⟩) _ (Nat.le_refl _)) (Below.refl _ _) (Nat.le_refl _) (by simp) ?_; (case hd => rfl); (case hg => rfl); (case hr => first | (go_simp; done) | (go_simp; rfl)); (case hp => exact (Reps.c3 (show Kd.FK k36 _ _ (⟨t131, t132, t133⟩ : S36) [.int .i64 t131, .string t132, .slice Ao37 t133.length co37] from (k36_mkF _ _ (⟨t131, t132, t133⟩ : S36) (Kd.N_reads' (Kd.N_mono (ok' := (fun k_ => some k_ ≠ (.slice Ao14 y106.length co14 : Value).ownBlock ∧ some k_ ≠ (.slice Ao34 y126.length co34 : Value).ownBlock ∧ k_ ≠ gb114)) (HO135.out) (fun k_ hk => ⟨hk.1, ⟨hk.2.1, hk.2.2⟩⟩))).2.1 (Kd.N_F (Kd.N_mono (ok' := (fun k_ => some k_ ≠ (.slice Ao14 y106.length co14 : Value).ownBlock ∧ some k_ ≠ (.slice Ao34 y126.length co34 : Value).ownBlock ∧ k_ ≠ gb114)) (HO135.out) (fun k_ hk => ⟨hk.1, ⟨hk.2.1, hk.2.2⟩⟩))))) (Reps.none _ _))); intro v137 w38 ho39 hb hg_ hnew_; clear hg_ hnew_; (first | rw [← Ny136.out] at ho39 | (simp only [Int.reduceToNat] at ho39; rw [← Ny136.out] at ho39)); have HO138 := Aside0.mk (Kd.N_lower ho39 (below_size (bl_ HB))); replace HO108 := Aside0.mk (Kd.N_elder' (by (with_reducible repeat (first | apply Kd.N_alloc | apply Kd.N_drewN | apply Kd.N_drew)); exact HO108.out) (Kd.N_base ho39) hb); replace HO113 := Aside0.mk (Kd.V_elder' (by (with_reducible repeat (first | apply Kd.V_alloc | apply Kd.V_drewN | apply Kd.V_drew)); exact HO113.out) (Kd.N_base ho39) hb); replace HO128 := Aside0.mk (Kd.N_elder' (by (with_reducible repeat (first | apply Kd.N_alloc | apply Kd.N_drewN | apply Kd.N_drew)); exact HO128.out) (Kd.N_base ho39) hb); replace BK114 := bb_ BK114 hb; replace HB := hs_ HB hb; clear HO135; clear hb ho39) | ((with_reducible refine gate_dst (N := 22) rfl ?_); (try (refine gate_guard (by rfl) ?_; dsimp only)); refine Kd.R_lit (Kd.int .i64) _ 3 ?hg (N := 22) ?hd (xs := ([0] : List Int)) (inner := [.int .i64 0]) (ok := fun _ => True) (okp := fun _ => True) ?hr ?hp (fun _ hk => hk) trivial (Below.refl _ _) (Nat.le_refl _) (by simp) ?_; (case hd => rfl); (case hg => rfl); (case hr => first | (go_simp; done) | (go_simp; rfl)); (case hp => exact (Reps.one (show Kd.M (Kd.int .i64) _ _ _ 0 [.int .i64 0] from rfl) (Reps.none _ _))); intro v140 w40 ho41 hb hg_ hnew_; clear hg_ hnew_; (first | rw [← Ny139.out] at ho41 | (simp only [Int.reduceToNat] at ho41; rw [← Ny139.out] at ho41)); have HO141 := Aside0.mk (Kd.R_lower ho41 (below_size (bl_ HB))); replace HO108 := Aside0.mk (Kd.N_elder' (by (with_reducible repeat (first | apply Kd.N_alloc | apply Kd.N_drewN | apply Kd.N_drew)); exact HO108.out) (Kd.R_base ho41) hb); replace HO113 := Aside0.mk (Kd.V_elder' (by (with_reducible repeat (first | apply Kd.V_alloc | apply Kd.V_drewN | apply Kd.V_drew)); exact HO113.out) (Kd.R_base ho41) hb); replace HO128 := Aside0.mk (Kd.N_elder' (by (with_reducible repeat (first | apply Kd.N_alloc | apply Kd.N_drewN | apply Kd.N_drew)); exact HO128.out) (Kd.R_base ho41) hb); replace HO138 := Aside0.mk (Kd.N_elder' (by (with_reducible repeat (first | apply Kd.N_alloc | apply Kd.N_drewN | apply Kd.N_drew)); exact HO138.out) (Kd.R_base ho41) hb); replace BK114 := bb_ BK114 hb; replace HB := hs_ HB hb; clear hb ho41; obtain ⟨Ao42, co42, eo42⟩ := Kd.R_slice HO141.out; subst eo42; obtain ⟨Ao43, co43, eo43⟩ := Kd.N_slice HO138.out; subst eo43) | ((with_reducible refine gate_dst (N := 24) rfl ?_); (try (refine gate_guard (by rfl) ?_; dsimp only)); refine Kd.N_lit k31 _ 31 ?hg (N' := 24) ?hd (xs := ([(⟨y136, y139⟩ : S31)] : List (S31))) (inner := [.slice Ao43 y136.length co43, .slice Ao42 y139.length co42]) (ok := (fun k_ => some k_ ≠ (.slice Ao14 y106.length co14 : Value).ownBlock ∧ some k_ ≠ (.slice Ao34 y126.length co34 : Value).ownBlock ∧ k_ ≠ gb114)) (okp := (fun k_ => some k_ ≠ (.slice Ao14 y106.length co14 : Value).ownBlock ∧ some k_ ≠ (.slice Ao34 y126.length co34 : Value).ownBlock ∧ k_ ≠ gb114)) ?hr ?hp (fun _ hk => hk) ((show ∀ k_, w40.heap.size ≤ k_ → (fun k_ => some k_ ≠ (.slice Ao14 y106.length co14 : Value).ownBlock ∧ some k_ ≠ (.slice Ao34 y126.length co34 : Value).ownBlock ∧ k_ ≠ gb114) k_ from fun k_ hk => ⟨Kd.fresh' (Kd.N_lt (by (with_reducible repeat (first | apply Kd.N_alloc | apply Kd.N_drewN | apply Kd.N_drew)); exact HO108.out)) k_ hk, Kd.fresh' (Kd.N_lt (by (with_reducible repeat (first | apply Kd.N_alloc | apply Kd.N_drewN | apply Kd.N_drew)); exact HO128.out)) k_ hk, Kd.freshB (g := gb114) (o := .cells #[.int .i64 t109, .string t110, .slice Ao18 t111.length co18] 36 (0, 0)) (pl_ BK114) k_ hk⟩) _ (Nat.le_refl _)) (Below.refl _ _) (Nat.le_refl _) (by simp) ?_; (case hd => rfl); (case hg => rfl); (case hr => first | (go_simp; done) | (go_simp; rfl)); (case hp => exact (Reps.c2 (show Kd.FK k31 _ _ (⟨y136, y139⟩ : S31) [.slice Ao43 y136.length co43, .slice Ao42 y139.length co42] from (k31_mkF _ _ (⟨y136, y139⟩ : S31) (Kd.N_reads' (Kd.N_mono (ok' := (fun k_ => some k_ ≠ (.slice Ao14 y106.length co14 : Value).ownBlock ∧ some k_ ≠ (.slice Ao34 y126.length co34 : Value).ownBlock ∧ k_ ≠ gb114)) (HO138.out) (fun k_ hk => ⟨hk.1.1, ⟨hk.1.2.1, hk.1.2.2⟩⟩))).2.1 (Kd.N_F (Kd.N_mono (ok' := (fun k_ => some k_ ≠ (.slice Ao14 y106.length co14 : Value).ownBlock ∧ some k_ ≠ (.slice Ao34 y126.length co34 : Value).ownBlock ∧ k_ ≠ gb114)) (HO138.out) (fun k_ hk => ⟨hk.1.1, ⟨hk.1.2.1, hk.1.2.2⟩⟩))) (Kd.R_reads' (Kd.R_mono (ok' := (fun k_ => some k_ ≠ (.slice Ao14 y106.length co14 : Value).ownBlock ∧ some k_ ≠ (.slice Ao34 y126.length co34 : Value).ownBlock ∧ k_ ≠ gb114)) (Kd.R_types (Kd.R_apart' (Kd.R_apart' (HO141.out) (Kd.N_typed HO108.out) (by decide)) (Kd.N_typed HO128.out) (by decide)) BK114.out (by decide)) (fun k_ hk => ⟨hk.1.1.2, ⟨hk.1.2, hk.2⟩⟩))).2.1 (Kd.R_F (Kd.R_mono (ok' := (fun k_ => some k_ ≠ (.slice Ao14 y106.length co14 : Value).ownBlock ∧ some k_ ≠ (.slice Ao34 y126.length co34 : Value).ownBlock ∧ k_ ≠ gb114)) (Kd.R_types (Kd.R_apart' (Kd.R_apart' (HO141.out) (Kd.N_typed HO108.out) (by decide)) (Kd.N_typed HO128.out) (by decide)) BK114.out (by decide)) (fun k_ hk => ⟨hk.1.1.2, ⟨hk.1.2, hk.2⟩⟩))))) (Reps.none _ _))); intro v143 w44 ho45 hb hg_ hnew_; clear hg_ hnew_; (first | rw [← Ny142.out] at ho45 | (simp only [Int.reduceToNat] at ho45; rw [← Ny142.out] at ho45)); have HO144 := Aside0.mk (Kd.N_lower ho45 (below_size (bl_ HB))); replace HO108 := Aside0.mk (Kd.N_elder' (by (with_reducible repeat (first | apply Kd.N_alloc | apply Kd.N_drewN | apply Kd.N_drew)); exact HO108.out) (Kd.N_base ho45) hb); replace HO113 := Aside0.mk (Kd.V_elder' (by (with_reducible repeat (first | apply Kd.V_alloc | apply Kd.V_drewN | apply Kd.V_drew)); exact HO113.out) (Kd.N_base ho45) hb); replace HO128 := Aside0.mk (Kd.N_elder' (by (with_reducible repeat (first | apply Kd.N_alloc | apply Kd.N_drewN | apply Kd.N_drew)); exact HO128.out) (Kd.N_base ho45) hb); replace BK114 := bb_ BK114 hb; replace HB := hs_ HB hb; clear HO138; clear HO141; clear hb ho45; obtain ⟨Ao46, co46, eo46⟩ := Kd.N_slice HO144.out; subst eo46) | ((with_reducible refine gate_callee (f := 20) rfl ?_); refine goesL_ (some 25) rfl rfl Try.func20 (by kernel_rfl) rfl #[.slice Ao46 y142.length co46, .int .i64 1] rfl (by (try simp only [List.map_toArray, List.map_cons, List.map_nil]); first | done | rfl | (simp only [List.length_drop, List.length_take]; rfl)) ?_; (with_reducible refine (recurse_Find.calls _ _ y142 1 t145 true _ ?side1 ?side2 A6.out).mono ?_); (case side1 => repeat (first | exact (Kd.N_reads' HO144.out).2.2 | (with_reducible refine Kd.C_alloc ?_ _) | (with_reducible refine Kd.C_drewN ?_ _) | (with_reducible refine Kd.C_drew ?_))); (case side2 => exact (Kd.N_reads' HO144.out).2.1); rintro e w47 ⟨rfl, hb⟩; refine ⟨_, rfl, ?_⟩; replace HO108 := Aside0.mk (Kd.N_below (by (with_reducible repeat (first | apply Kd.N_alloc | apply Kd.N_drewN | apply Kd.N_drew)); exact HO108.out) hb); replace HO113 := Aside0.mk (Kd.V_below (by (with_reducible repeat (first | apply Kd.V_alloc | apply Kd.V_drewN | apply Kd.V_drew)); exact HO113.out) hb); replace HO128 := Aside0.mk (Kd.N_below (by (with_reducible repeat (first | apply Kd.N_alloc | apply Kd.N_drewN | apply Kd.N_drew)); exact HO128.out) hb); replace HO144 := Aside0.mk (Kd.N_below (by (with_reducible repeat (first | apply Kd.N_alloc | apply Kd.N_drewN | apply Kd.N_drew)); exact HO144.out) hb); replace BK114 := bb_ BK114 hb; replace HB := hs_ HB hb; (try clear hb); (try clear hb2); (try clear hk); (try clear hi)))
    replace HO108 := Aside0.mk (Kd.N_drew HO108.out)
    replace HO113 := Aside0.mk (Kd.V_drew HO113.out)
    replace HO128 := Aside0.mk (Kd.N_drew HO128.out)
    replace HO144 := Aside0.mk (Kd.N_drew HO144.out)
    replace BK114 := Aside0.mk (blk_drew BK114.out)
    replace HB := Aside0.mk (below_drew1 HB.out)
    refine start_ (n := 17) (S := fun w' => True) (ds := []) #[false, false, false, false, false, false, false, false, false, false, false, false, false, false, false, false, false] (by kernel_rfl) rfl rfl trivial (fun hHeld => ?_); refine with_tabW telamonlaw23_alive.tab4 telamonlaw23_alive.bits4 (fun HT_ HW_ => ?_)
    generalize w47.drew = w48 at HO108 HO113 HO128 HO144 BK114 HB hHeld ⊢
    refine pure_ (i := 0) (N := some 28) (v := ?_) (a' := ?_) #[true, false, false, false, false, false, false, false, false, false, false, false, false, false, false, false, false] rfl rfl (any_of HT_.out (by kernel_rfl)) (fun _ _ _ h => h) (Or.inl ⟨by rfl, ?_⟩) ?_ ?_
    rotate_left
    ·intro w'
     go_simp
     with_reducible rfl
    rotate_left
    ·simp only [Act.put, List.setIfInBounds_toArray, List.set_cons_zero, List.set_cons_succ, i64_w, i32_w]
     rfl
    refine pure_ (i := 1) (N := some 29) (v := ?_) (a' := ?_) #[true, true, false, false, false, false, false, false, false, false, false, false, false, false, false, false, false] rfl rfl (any_of HT_.out (by kernel_rfl)) (fun _ _ _ h => h) (Or.inl ⟨by rfl, ?_⟩) ?_ ?_
    rotate_left
    ·intro w'
     go_simp
     with_reducible rfl
    rotate_left
    ·simp only [Act.put, List.setIfInBounds_toArray, List.set_cons_zero, List.set_cons_succ, i64_w, i32_w]
     rfl
    refine pure_ (i := 2) (N := some 30) (v := ?_) (a' := ?_) #[true, true, true, false, false, false, false, false, false, false, false, false, false, false, false, false, false] rfl rfl (any_of HT_.out (by kernel_rfl)) (fun _ _ _ h => h) (Or.inl ⟨by rfl, ?_⟩) ?_ ?_
    rotate_left
    ·intro w'
     go_simp
     with_reducible rfl
    rotate_left
    ·simp only [Act.put, List.setIfInBounds_toArray, List.set_cons_zero, List.set_cons_succ, i64_w, i32_w]
     rfl
    refine pure_ (i := 3) (N := some 31) (v := ?_) (a' := ?_) #[true, true, true, true, false, false, false, false, false, false, false, false, false, false, false, false, false] rfl rfl (any_of HT_.out (by kernel_rfl)) (fun _ _ _ h => h) (Or.inl ⟨by rfl, ?_⟩) ?_ ?_
    rotate_left
    ·intro w'
     go_simp
     with_reducible rfl
    rotate_left
    ·simp only [Act.put, List.setIfInBounds_toArray, List.set_cons_zero, List.set_cons_succ, i64_w, i32_w]
     rfl
    refine pure_ (i := 4) (N := some 32) (v := ?_) (a' := ?_) #[true, true, true, true, true, false, false, false, false, false, false, false, false, false, false, false, false] rfl rfl (any_of HT_.out (by kernel_rfl)) (fun _ _ _ h => h) (Or.inl ⟨by rfl, ?_⟩) ?_ ?_
    rotate_left
    ·intro w'
     go_simp
     with_reducible rfl
    rotate_left
    ·simp only [Act.put, List.setIfInBounds_toArray, List.set_cons_zero, List.set_cons_succ, i64_w, i32_w]
     rfl
    refine pure_ (i := 5) (N := some 33) (v := ?_) (a' := ?_) #[true, true, true, true, true, true, false, false, false, false, false, false, false, false, false, false, false] rfl rfl (any_of HT_.out (by kernel_rfl)) (fun _ _ _ h => h) (Or.inl ⟨by rfl, ?_⟩) ?_ ?_
    rotate_left
    ·intro w'
     go_simp
     with_reducible rfl
    rotate_left
    ·simp only [Act.put, List.setIfInBounds_toArray, List.set_cons_zero, List.set_cons_succ, i64_w, i32_w]
     rfl
    refine pure_ (i := 6) (N := some 34) (v := ?_) (a' := ?_) #[true, true, true, true, true, true, true, false, false, false, false, false, false, false, false, false, false] rfl rfl (any_of HT_.out (by kernel_rfl)) (fun _ _ _ h => h) (Or.inl ⟨by rfl, ?_⟩) ?_ ?_
    rotate_left
    ·intro w'
     go_simp
     with_reducible rfl
    rotate_left
    ·simp only [Act.put, List.setIfInBounds_toArray, List.set_cons_zero, List.set_cons_succ, i64_w, i32_w]
     rfl
    refine pure_ (i := 7) (N := some 35) (v := ?_) (a' := ?_) #[true, true, true, true, true, true, true, true, false, false, false, false, false, false, false, false, false] rfl rfl (any_of HT_.out (by kernel_rfl)) (fun _ _ _ h => h) (Or.inl ⟨by rfl, ?_⟩) ?_ ?_
    rotate_left
    ·intro w'
     go_simp
     with_reducible rfl
    rotate_left
    ·simp only [Act.put, List.setIfInBounds_toArray, List.set_cons_zero, List.set_cons_succ, i64_w, i32_w]
     rfl
    refine pure_ (i := 8) (N := some 36) (v := ?_) (a' := ?_) #[true, true, true, true, true, true, true, true, true, false, false, false, false, false, false, false, false] rfl rfl (any_of HT_.out (by kernel_rfl)) (fun _ _ _ h => h) (Or.inl ⟨by rfl, ?_⟩) ?_ ?_
    rotate_left
    ·intro w'
     go_simp
     with_reducible rfl
    rotate_left
    ·simp only [Act.put, List.setIfInBounds_toArray, List.set_cons_zero, List.set_cons_succ, i64_w, i32_w]
     rfl
    refine pure_ (i := 9) (N := some 37) (v := ?_) (a' := ?_) #[true, true, true, true, true, true, true, true, true, true, false, false, false, false, false, false, false] rfl rfl (any_of HT_.out (by kernel_rfl)) (fun _ _ _ h => h) (Or.inl ⟨by rfl, ?_⟩) ?_ ?_
    rotate_left
    ·intro w'
     go_simp
     with_reducible rfl
    rotate_left
    ·simp only [Act.put, List.setIfInBounds_toArray, List.set_cons_zero, List.set_cons_succ, i64_w, i32_w]
     rfl
    refine pure_ (i := 10) (N := some 38) (v := undef) (a' := ?_) #[true, true, true, true, true, true, true, true, true, true, true, false, false, false, false, false, false] rfl rfl (any_of HT_.out (by kernel_rfl)) (fun _ _ _ h => h) (Or.inr ⟨by rfl, rfl⟩) ?_ ?_
    rotate_left
    ·simp only [Act.put, List.setIfInBounds_toArray, List.set_cons_zero, List.set_cons_succ, i64_w, i32_w]
     rfl
    refine pure_ (i := 11) (N := some 39) (v := undef) (a' := ?_) #[true, true, true, true, true, true, true, true, true, true, true, true, false, false, false, false, false] rfl rfl (any_of HT_.out (by kernel_rfl)) (fun _ _ _ h => h) (Or.inr ⟨by rfl, rfl⟩) ?_ ?_
    rotate_left
    ·simp only [Act.put, List.setIfInBounds_toArray, List.set_cons_zero, List.set_cons_succ, i64_w, i32_w]
     rfl
    refine pure_ (i := 12) (N := some 40) (v := undef) (a' := ?_) #[true, true, true, true, true, true, true, true, true, true, true, true, true, false, false, false, false] rfl rfl (any_of HT_.out (by kernel_rfl)) (fun _ _ _ h => h) (Or.inr ⟨by rfl, rfl⟩) ?_ ?_
    rotate_left
    ·simp only [Act.put, List.setIfInBounds_toArray, List.set_cons_zero, List.set_cons_succ, i64_w, i32_w]
     rfl
    refine pure_ (i := 13) (N := some 41) (v := undef) (a' := ?_) #[true, true, true, true, true, true, true, true, true, true, true, true, true, true, false, false, false] rfl rfl (any_of HT_.out (by kernel_rfl)) (fun _ _ _ h => h) (Or.inr ⟨by rfl, rfl⟩) ?_ ?_
    rotate_left
    ·simp only [Act.put, List.setIfInBounds_toArray, List.set_cons_zero, List.set_cons_succ, i64_w, i32_w]
     rfl
    refine pure_ (i := 14) (N := some 42) (v := undef) (a' := ?_) #[true, true, true, true, true, true, true, true, true, true, true, true, true, true, true, false, false] rfl rfl (any_of HT_.out (by kernel_rfl)) (fun _ _ _ h => h) (Or.inr ⟨by rfl, rfl⟩) ?_ ?_
    rotate_left
    ·simp only [Act.put, List.setIfInBounds_toArray, List.set_cons_zero, List.set_cons_succ, i64_w, i32_w]
     rfl
    refine pure_ (i := 15) (N := some 43) (v := ?_) (a' := ?_) #[true, true, true, true, true, true, true, true, true, true, true, true, true, true, true, true, false] rfl rfl (any_of HT_.out (by kernel_rfl)) (fun _ _ _ h => h) (Or.inl ⟨by rfl, ?_⟩) ?_ ?_
    rotate_left
    ·intro w'
     go_simp
     with_reducible rfl
    rotate_left
    ·simp only [Act.put, List.setIfInBounds_toArray, List.set_cons_zero, List.set_cons_succ, i64_w, i32_w]
     rfl
    refine pure_ (i := 16) (N := some 0) (v := ?_) (a' := ?_) #[true, true, true, true, true, true, true, true, true, true, true, true, true, true, true, true, true] rfl rfl (any_of HT_.out (by kernel_rfl)) (fun _ _ _ h => h) (Or.inl ⟨by rfl, ?_⟩) ?_ ?_
    rotate_left
    ·intro w'
     go_simp
     with_reducible rfl
    rotate_left
    ·simp only [Act.put, List.setIfInBounds_toArray, List.set_cons_zero, List.set_cons_succ, i64_w, i32_w]
     rfl
    refine done_ (done_of HT_.out (by kernel_rfl)) ?_
    try go_wp2
    go_ret
    exact ⟨by first | rfl | (simp [errW_none, errW_some] <;> rfl) | (simp [*, errW_none, errW_some] <;> rfl), by repeat (first | (with_reducible first | exact HB.out | apply below_alloc | apply pw_below_drewN | apply below_drew1 | refine below_set ?_ GE114.out) | exact HB.out)⟩
   ·replace c9 := Bool.eq_false_iff.mpr c9
    subst c9
    have H1 : ((telamonlaw21_V.f).bind fun bt147 => ((recurse_Vars.f (([(⟨bt147.1, bt147.2.1, bt147.2.2⟩ : S36), (⟨t109, t110, t111⟩ : S36)] : List (S36)))).bind fun t155 => (some (t155 == 2)))) = some r := by rw [if_neg (show ¬ (false = true) by decide)] at H; exact H
    clear H
    have H := H1
    clear H1
    replace H := Option.bind_eq_some_iff.mp H
    obtain ⟨⟨t147, t148, t149⟩, A490, H⟩ := H
    replace H : ((recurse_Vars.f (([(⟨t147, t148, t149⟩ : S36), (⟨t109, t110, t111⟩ : S36)] : List (S36)))).bind fun t155 => (some (t155 == 2))) = some r := H
    have A49 := Aside0.mk A490
    clear A490
    obtain ⟨y152, hy152⟩ : ∃ y_ : List (S36), y_ = (([(⟨t147, t148, t149⟩ : S36), (⟨t109, t110, t111⟩ : S36)] : List (S36))) := ⟨_, rfl⟩
    replace H : ((recurse_Vars.f y152).bind fun t155 => (some (t155 == 2))) = some r := by first | (rw [hy152]; with_reducible exact H) | (have H2_ := (Option.bind_some _ _).symm.trans H; rw [hy152]; with_reducible exact H2_) | (have H2_ := (Option.bind_some _ _).symm.trans H; with_reducible exact H2_) | with_reducible exact H | (rw [hy152]; exact H) | exact H
    have Ny152 := Aside0.mk hy152
    clear hy152
    replace H := Option.bind_eq_some_iff.mp H
    obtain ⟨t155, A500, H⟩ := H
    replace H : (some (t155 == 2)) = some r := H
    have A50 := Aside0.mk A500
    clear A500
    obtain rfl := Option.some.inj H
    go_enter Try.func18, Try.ntmps18
    try go_wp2_with (first | ((with_reducible refine gate_callee (f := 26) rfl ?_); refine goesL_ (some 6) rfl rfl Try.func26 (by kernel_rfl) rfl #[] rfl (by (try simp only [List.map_toArray, List.map_cons, List.map_nil]); first | done | rfl | (simp only [List.length_drop, List.length_take]; rfl)) ?_; (with_reducible refine (telamonlaw21_V.calls  t101 t102 t103 _ A1.out).mono ?_); rintro e w51 ⟨v104, rfl, ho0, hb⟩; refine ⟨_, rfl, ?_⟩; have HO105 := Aside0.mk (Kd.N_lower (Kd.N_mono (ok' := fun k_ => True) (Kd.R_N (Kd.R_bound ho0)) (fun k_ hk_ => trivial)) (below_size (bl_ HB))); replace HB := hs_ HB hb; (try clear hb); (try clear hb2); (try clear hk); (try clear hi); (try clear ho0); obtain ⟨Ao52, co52, eo52⟩ := Kd.N_slice HO105.out; subst eo52) | ((with_reducible refine gate_dst (N := 7) rfl ?_); (try (refine gate_guard (by rfl) ?_; dsimp only)); refine Kd.N_lit k36 _ 36 ?hg (N' := 7) ?hd (xs := ([(⟨t101, t102, t103⟩ : S36)] : List (S36))) (inner := [.int .i64 t101, .string t102, .slice Ao52 t103.length co52]) (ok := (fun _ => True)) (okp := (fun _ => True)) ?hr ?hp (fun _ hk => hk) ((show ∀ k_, w51.heap.size ≤ k_ → (fun _ => True) k_ from fun k_ hk => trivial) _ (Nat.le_refl _)) (Below.refl _ _) (Nat.le_refl _) (by simp) ?_; (case hd => rfl); (case hg => rfl); (case hr => first | (go_simp; done) | (go_simp; rfl)); (case hp => exact (Reps.c3 (show Kd.FK k36 _ _ (⟨t101, t102, t103⟩ : S36) [.int .i64 t101, .string t102, .slice Ao52 t103.length co52] from (k36_mkF _ _ (⟨t101, t102, t103⟩ : S36) (Kd.N_reads' (Kd.N_mono (ok' := (fun _ => True)) (HO105.out) (fun k_ hk => trivial))).2.1 (Kd.N_F (Kd.N_mono (ok' := (fun _ => True)) (HO105.out) (fun k_ hk => trivial))))) (Reps.none _ _))); intro v107 w53 ho54 hb hg_ hnew_; clear hg_ hnew_; (first | rw [← Ny106.out] at ho54 | (simp only [Int.reduceToNat] at ho54; rw [← Ny106.out] at ho54)); have HO108 := Aside0.mk (Kd.N_lower ho54 (below_size (bl_ HB))); replace HB := hs_ HB hb; clear HO105; clear hb ho54; obtain ⟨Ao55, co55, eo55⟩ := Kd.N_slice HO108.out; subst eo55) | ((with_reducible refine gate_callee (f := 27) rfl ?_); refine goesL_ (some 8) rfl rfl Try.func27 (by kernel_rfl) rfl #[.string (⟨#[115, 117, 99]⟩ : ByteArray), .slice Ao55 y106.length co55] rfl (by (try simp only [List.map_toArray, List.map_cons, List.map_nil]); first | done | rfl | (simp only [List.length_drop, List.length_take]; rfl)) ?_; (with_reducible refine (telamonlaw21_P.calls (⟨#[115, 117, 99]⟩ : ByteArray) (fun k_ => True) _ _ y106 t109 t110 t111 _ ?side1 A2.out).mono ?_); (case side1 => exact Kd.N_V (HO108.out)); rintro e w56 ⟨v112, rfl, ho0, hb⟩; refine ⟨_, rfl, ?_⟩; have HO113 := Aside0.mk (Kd.V_lower (Kd.V_mono (ok' := fun k_ => True) ho0 (fun k_ hk_ => trivial)) (below_size (bl_ HB))); replace HO108 := Aside0.mk (Kd.N_below (by (with_reducible repeat (first | apply Kd.N_alloc | apply Kd.N_drewN | apply Kd.N_drew)); exact HO108.out) hb); replace HB := hs_ HB hb; (try clear hb); (try clear hb2); (try clear hk); (try clear hi); (try clear ho0)) | ((with_reducible refine gate_dst (N := 1) rfl ?_); (try (refine gate_guard (by rfl) ?_; dsimp only)); refine box_event ?hg (N := 1) ?hd (cs := #[.int .i64 0, .string (⟨#[]⟩ : ByteArray), .slice none 0 0]) (t := 36) ?hr ?_; (case hd => rfl); (case hg => rfl); (case hr => first | (go_simp; done) | (go_simp; rfl)); intro gb114 hg w57 hbox hb; have BK114 := Aside0.mk (hbox); have GW114 := Aside0.mk ((bs_ hg HB : w.heap.size ≤ gb114)); have GE114 := Aside0.mk ((bs_ hg HB : w.heap.size ≤ gb114)); replace HO108 := Aside0.mk (Kd.N_below (Kd.N_elderB (by (with_reducible repeat (first | apply Kd.N_alloc | apply Kd.N_drewN | apply Kd.N_drew)); exact HO108.out) gb114 (Nat.le_of_eq hg.symm)) hb); replace HO113 := Aside0.mk (Kd.V_below (Kd.V_elderB (by (with_reducible repeat (first | apply Kd.V_alloc | apply Kd.V_drewN | apply Kd.V_drew)); exact HO113.out) gb114 (Nat.le_of_eq hg.symm)) hb); replace HB := hs_ HB hb; clear hb hbox hg; have hcz58_0 : w57.cell? ⟨gb114, 0, none⟩ = some (.int .i64 0) := (blk_cell BK114.out 0).trans rfl; have hcz58_1 : w57.cell? ⟨gb114, 1, none⟩ = some (.string (⟨#[]⟩ : ByteArray)) := (blk_cell BK114.out 1).trans rfl; have hcz58_2 : w57.cell? ⟨gb114, 2, none⟩ = some (.slice none 0 0) := (blk_cell BK114.out 2).trans rfl; have hfz58_0 := blk_frozen BK114.out 0; have hfz58_1 := blk_frozen BK114.out 1; have hfz58_2 := blk_frozen BK114.out 2; obtain ⟨Ao59, co59, eo59⟩ := Kd.V_slice HO113.out; subst eo59))
    have n0_ : Aside0 (Kd.N k36 36 (((w57.setCell ⟨gb114, 0, none⟩ (.int .i64 t109)).setCell ⟨gb114, 1, none⟩ (.string t110)).setCell ⟨gb114, 2, none⟩ (.slice Ao59 t111.length co59)) w.heap.size (fun k_ => k_ ≠ gb114) (.slice Ao55 y106.length co55) y106) := ⟨by (with_reducible repeat (first | apply Kd.N_alloc | apply Kd.N_drewN | apply Kd.N_drew)); exact Kd.N_mono (Kd.N_far (p := ⟨gb114, 2, none⟩) (Kd.N_far (p := ⟨gb114, 1, none⟩) (Kd.N_far (p := ⟨gb114, 0, none⟩) (Kd.N_mono HO108.out (fun k_ hk => (⟨hk, hk.2⟩ : _ ∧ k_ ≠ gb114))) (fun _ hk => hk.2) (.int .i64 t109)) (fun _ hk => hk.2) (.string t110)) (fun _ hk => hk.2) (.slice Ao59 t111.length co59)) (fun _ hk => hk.1.2)⟩
    have n1_ : Aside0 (Kd.V k36 36 (((w57.setCell ⟨gb114, 0, none⟩ (.int .i64 t109)).setCell ⟨gb114, 1, none⟩ (.string t110)).setCell ⟨gb114, 2, none⟩ (.slice Ao59 t111.length co59)) w.heap.size (fun k_ => k_ ≠ gb114) (.slice Ao59 t111.length co59) t111) := ⟨by (with_reducible repeat (first | apply Kd.V_alloc | apply Kd.V_drewN | apply Kd.V_drew)); exact Kd.V_mono (Kd.V_far (p := ⟨gb114, 2, none⟩) (Kd.V_far (p := ⟨gb114, 1, none⟩) (Kd.V_far (p := ⟨gb114, 0, none⟩) (Kd.V_mono HO113.out (fun k_ hk => (⟨hk, hk.2⟩ : _ ∧ k_ ≠ gb114))) (fun _ hk => hk.2) (.int .i64 t109)) (fun _ hk => hk.2) (.string t110)) (fun _ hk => hk.2) (.slice Ao59 t111.length co59)) (fun _ hk => hk.1.2)⟩
    have n2_ : Aside0 ((((w57.setCell ⟨gb114, 0, none⟩ (.int .i64 t109)).setCell ⟨gb114, 1, none⟩ (.string t110)).setCell ⟨gb114, 2, none⟩ (.slice Ao59 t111.length co59)).heap[gb114]? = some (.cells #[.int .i64 t109, .string t110, .slice Ao59 t111.length co59] 36 (0, 0))) := ⟨by (with_reducible repeat (first | refine blk_drewN ?_ _ | refine blk_drew ?_ | refine blk_alloc ?_ _)); refine blk_put (cs := #[.int .i64 t109, .string t110, .slice none 0 0]) ?_ 2 _ rfl; (with_reducible repeat (first | refine blk_drewN ?_ _ | refine blk_drew ?_ | refine blk_alloc ?_ _)); refine blk_put (cs := #[.int .i64 t109, .string (⟨#[]⟩ : ByteArray), .slice none 0 0]) ?_ 1 _ rfl; (with_reducible repeat (first | refine blk_drewN ?_ _ | refine blk_drew ?_ | refine blk_alloc ?_ _)); refine blk_put (cs := #[.int .i64 0, .string (⟨#[]⟩ : ByteArray), .slice none 0 0]) ?_ 0 _ rfl; (with_reducible repeat (first | refine blk_drewN ?_ _ | refine blk_drew ?_ | refine blk_alloc ?_ _)); exact BK114.out⟩
    have n3_ : Aside0 (Below w.heap.size w (((w57.setCell ⟨gb114, 0, none⟩ (.int .i64 t109)).setCell ⟨gb114, 1, none⟩ (.string t110)).setCell ⟨gb114, 2, none⟩ (.slice Ao59 t111.length co59))) := ⟨by repeat (first | (with_reducible first | exact HB.out | apply below_alloc | apply pw_below_drewN | apply below_drew1 | refine below_set ?_ GE114.out) | exact HB.out)⟩
    (try clear HO108); (try clear HO113); (try clear BK114); (try clear HB)
    generalize (((w57.setCell ⟨gb114, 0, none⟩ (.int .i64 t109)).setCell ⟨gb114, 1, none⟩ (.string t110)).setCell ⟨gb114, 2, none⟩ (.slice Ao59 t111.length co59)) = w60 at n0_ n1_ n2_ n3_ ⊢
    have HO108 := n0_
    have HO113 := n1_
    have BK114 := n2_
    have HB := n3_
    clear n0_ n1_ n2_ n3_
    replace HO108 := Aside0.mk (Kd.N_drew HO108.out)
    replace HO113 := Aside0.mk (Kd.V_drew HO113.out)
    replace BK114 := Aside0.mk (blk_drew BK114.out)
    replace HB := Aside0.mk (below_drew1 HB.out)
    refine start_ (n := 12) (S := fun w' => w'.cell? ⟨gb114, 0, none⟩ = some (.int .i64 t109) ∧ w'.cell? ⟨gb114, 1, none⟩ = some (.string t110) ∧ w'.cell? ⟨gb114, 2, none⟩ = some (.slice Ao59 t111.length co59)) (ds := []) #[false, false, false, false, false, false, false, false, false, false, false, false] (by kernel_rfl) rfl rfl ⟨(blk_cell BK114.out 0).trans rfl, (blk_cell BK114.out 1).trans rfl, (blk_cell BK114.out 2).trans rfl⟩ (fun hHeld => ?_); refine with_tabW telamonlaw23_alive.tab2 telamonlaw23_alive.bits2 (fun HT_ HW_ => ?_)
    generalize w60.drew = w61 at HO108 HO113 BK114 HB HO108 HO113 hHeld ⊢
    refine take_ (i := 1) (N := some 11) (v := ?_) (a' := ?_) #[false, true, false, false, false, false, false, false, false, false, false, false] rfl rfl (take_ofW HT_.out HW_.out (by kernel_rfl)) (fun _ _ _ h => h) (Or.inl ⟨by rfl, ?_⟩) hHeld ?_ ?_
    rotate_left
    ·rintro w' ⟨s0, s1, s2⟩
     go_simp
     with_reducible rfl
    rotate_left
    ·simp only [Act.put, List.setIfInBounds_toArray, List.set_cons_zero, List.set_cons_succ, i64_w, i32_w]
     rfl
    refine join_ (σ := Value × Value × Value) 8 #[true, true, true, true, false, false, false, false, false, false, false, false] (fun s_ => [(10, .agg #[.int .i64 t115, .string t116, s_.1]), (12, s_.2.1), (13, s_.2.2)]) (fun s_ w' => (w'.cell? ⟨gb114, 0, none⟩ = some (.int .i64 t109) ∧ w'.cell? ⟨gb114, 1, none⟩ = some (.string t110) ∧ w'.cell? ⟨gb114, 2, none⟩ = some (.slice Ao59 t111.length co59)) ∧ (Kd.N k36 36 w' w.heap.size (fun k_ => some k_ ≠ (s_.2.1 : Value).ownBlock ∧ some k_ ≠ (s_.2.2 : Value).ownBlock ∧ k_ ≠ gb114) (.slice Ao55 y106.length co55) y106) ∧ (Kd.V k36 36 w' w.heap.size (fun k_ => some k_ ≠ (s_.2.1 : Value).ownBlock ∧ some k_ ≠ (s_.2.2 : Value).ownBlock ∧ k_ ≠ gb114) (.slice Ao59 t111.length co59) t111) ∧ (Kd.N k36 36 w' w.heap.size (fun k_ => some k_ ≠ (s_.2.2 : Value).ownBlock ∧ k_ ≠ gb114) s_.2.1 y120) ∧ (Kd.R (Kd.int .i64) 3 w' w.heap.size (fun _ => True) s_.2.2 y123) ∧ (w'.heap[gb114]? = some (.cells #[.int .i64 t109, .string t110, .slice Ao59 t111.length co59] 36 (0, 0))) ∧ (Below w.heap.size w w')) ?_ ?_
    rotate_left
    ·intro hCont
     refine two_ (i := 0) (j := 3) (Ni := some 10) (Nj := some 13) #[true, true, false, false, false, false, false, false, false, false, false, false] #[false, true, false, true, false, false, false, false, false, false, false, false] rfl rfl rfl rfl (two_of HT_.out (by kernel_rfl)) (by decide) (by decide) (fun K hK => ?_) (fun K hK => ?_)
     ·skip
      refine goes_ Try.func26 (by kernel_rfl) rfl #[] (by rfl) rfl rfl (by (try simp only [List.map_toArray, List.map_cons, List.map_nil]); first | done | rfl | (simp only [List.length_drop, List.length_take]; rfl)) ?_
      with_reducible refine (telamonlaw21_V.calls  t115 t116 t117 _ A3.out).mono ?_
      rintro e w62 ⟨v118, rfl, ho0, hb⟩
      refine ⟨_, rfl, ?_⟩
      have HO119 := Aside0.mk (Kd.N_lower (Kd.N_mono (ok' := fun k_ => some k_ ≠ (.slice Ao55 y106.length co55 : Value).ownBlock ∧ k_ ≠ gb114) (Kd.R_N (Kd.R_bound ho0)) (fun k_ hk_ => ⟨(Kd.fresh' (Kd.N_lt (by (with_reducible repeat (first | apply Kd.N_alloc | apply Kd.N_drewN | apply Kd.N_drew)); exact HO108.out)) k_ hk_.2.1), (Kd.freshB (g := gb114) (o := .cells #[.int .i64 t109, .string t110, .slice Ao59 t111.length co59] 36 (0, 0)) (pl_ BK114) k_ hk_.2.1)⟩)) (below_size (bl_ HB)))
      replace HO108 := Aside0.mk (Kd.N_elder' (by (with_reducible repeat (first | apply Kd.N_alloc | apply Kd.N_drewN | apply Kd.N_drew)); exact HO108.out) (Kd.N_base (Kd.R_N (Kd.R_bound ho0))) hb)
      replace HO113 := Aside0.mk (Kd.V_elder' (by (with_reducible repeat (first | apply Kd.V_alloc | apply Kd.V_drewN | apply Kd.V_drew)); exact HO113.out) (Kd.N_base (Kd.R_N (Kd.R_bound ho0))) hb)
      replace BK114 := bb_ BK114 hb
      replace HB := hs_ HB hb
      (try clear hb); (try clear hb2); (try clear hk); (try clear hi); (try clear ho0)
      obtain ⟨Ao63, co63, eo63⟩ := Kd.N_slice HO119.out
      (first | subst eo63 | (injection eo63 with f1_ f2_ f3_; have f4_ := f1_.symm; have f5_ := f3_.symm; clear f1_ f2_ f3_; subst f4_; subst f5_))
      refine hK.out _ _ ⟨(blk_cell BK114.out 0).trans rfl, (blk_cell BK114.out 1).trans rfl, (blk_cell BK114.out 2).trans rfl⟩ (fun hHeld => ?_)
      clear hK K
      refine norm_ (a' := ?_) ?_ ?_
      rotate_left
      ·show Act.put _ (some 10) _ = _
       simp only [Act.put, List.setIfInBounds_toArray, List.set_cons_zero, List.set_cons_succ, i64_w, i32_w]
       rfl
      refine two_ (i := 2) (j := 3) (Ni := some 12) (Nj := some 13) #[true, true, true, false, false, false, false, false, false, false, false, false] #[true, true, false, true, false, false, false, false, false, false, false, false] rfl rfl rfl rfl (two_of HT_.out (by kernel_rfl)) (by decide) (by decide) (fun K hK => ?_) (fun K hK => ?_)
      ·skip
       refine Kd.N_lit_step k36 _ 36 ?hg (N' := 12) ?hd (xs := ([(⟨t115, t116, t117⟩ : S36), (⟨t109, t110, t111⟩ : S36)] : List (S36))) (inner := [.int .i64 t115, .string t116, .slice Ao63 t117.length co63, .int .i64 t109, .string t110, .slice Ao59 t111.length co59]) (ok := (fun k_ => k_ ≠ gb114)) (okp := (fun k_ => k_ ≠ gb114)) ?hr ?hp (fun _ hk => hk) ((show ∀ k_, w62.heap.size ≤ k_ → (fun k_ => k_ ≠ gb114) k_ from fun k_ hk => Kd.freshB (g := gb114) (o := .cells #[.int .i64 t109, .string t110, .slice Ao59 t111.length co59] 36 (0, 0)) (pl_ BK114) k_ hk) _ (Nat.le_refl _)) (Below.refl _ _) (Nat.le_refl _) (by simp) ?_; (case hd => rfl); (case hg => rfl); (case hr => first | (go_simp; done) | (go_simp; rfl)); (case hp => exact (Reps.c3 (show Kd.FK k36 _ _ (⟨t115, t116, t117⟩ : S36) [.int .i64 t115, .string t116, .slice Ao63 t117.length co63] from (k36_mkF _ _ (⟨t115, t116, t117⟩ : S36) (Kd.N_reads' (Kd.N_mono (ok' := (fun k_ => k_ ≠ gb114)) (HO119.out) (fun k_ hk => hk.2))).2.1 (Kd.N_F (Kd.N_mono (ok' := (fun k_ => k_ ≠ gb114)) (HO119.out) (fun k_ hk => hk.2))))) (Reps.c3 (show Kd.FK k36 _ _ (⟨t109, t110, t111⟩ : S36) [.int .i64 t109, .string t110, .slice Ao59 t111.length co59] from (k36_mkF _ _ (⟨t109, t110, t111⟩ : S36) (Kd.V_reads' (Kd.V_mono (ok' := (fun k_ => k_ ≠ gb114)) (HO113.out) (fun k_ hk => hk.1))).2.1 (Kd.V_F (Kd.V_mono (ok' := (fun k_ => k_ ≠ gb114)) (HO113.out) (fun k_ hk => hk.1))))) (Reps.none _ _))))
       intro v121 w64 ho65 hb hg_ hnew_
       clear hg_ hnew_
       (first | rw [← Ny120.out] at ho65 | (simp only [Int.reduceToNat] at ho65; rw [← Ny120.out] at ho65))
       have HO122 := Aside0.mk (Kd.N_lower ho65 (below_size (bl_ HB)))
       replace HO108 := Aside0.mk (Kd.N_elder' (by (with_reducible repeat (first | apply Kd.N_alloc | apply Kd.N_drewN | apply Kd.N_drew)); exact HO108.out) (Kd.N_base ho65) hb)
       replace HO113 := Aside0.mk (Kd.V_elder' (by (with_reducible repeat (first | apply Kd.V_alloc | apply Kd.V_drewN | apply Kd.V_drew)); exact HO113.out) (Kd.N_base ho65) hb)
       replace BK114 := bb_ BK114 hb
       replace HB := hs_ HB hb
       clear HO119 hb ho65
       refine hK.out _ _ ⟨(blk_cell BK114.out 0).trans rfl, (blk_cell BK114.out 1).trans rfl, (blk_cell BK114.out 2).trans rfl⟩ (fun hHeld => ?_)
       clear hK K
       refine norm_ (a' := ?_) ?_ ?_
       rotate_left
       ·show Act.put _ (some 12) _ = _
        simp only [Act.put, List.setIfInBounds_toArray, List.set_cons_zero, List.set_cons_succ, i64_w, i32_w]
        rfl
       refine one_ (i := 3) (N := some 13) #[true, true, true, true, false, false, false, false, false, false, false, false] rfl rfl (one_of HT_.out (by kernel_rfl)) (by decide) (fun K hK => ?_)
       refine Kd.R_lit_step (Kd.int .i64) _ 3 ?hg (N := 13) ?hd (xs := ([0, 1] : List Int)) (inner := [.int .i64 0, .int .i64 1]) (ok := fun _ => True) (okp := fun _ => True) ?hr ?hp (fun _ hk => hk) trivial (Below.refl _ _) (Nat.le_refl _) (by simp) ?_; (case hd => rfl); (case hg => rfl); (case hr => first | (go_simp; done) | (go_simp; rfl)); (case hp => exact (Reps.one (show Kd.M (Kd.int .i64) _ _ _ 0 [.int .i64 0] from rfl) (Reps.one (show Kd.M (Kd.int .i64) _ _ _ 1 [.int .i64 1] from rfl) (Reps.none _ _))))
       intro v124 w66 ho67 hb hg_ hnew_
       clear hg_ hnew_
       (first | rw [← Ny123.out] at ho67 | (simp only [Int.reduceToNat] at ho67; rw [← Ny123.out] at ho67))
       have HO125 := Aside0.mk (Kd.R_lower ho67 (below_size (bl_ HB)))
       replace HO108 := Aside0.mk (Kd.N_elder' (by (with_reducible repeat (first | apply Kd.N_alloc | apply Kd.N_drewN | apply Kd.N_drew)); exact HO108.out) (Kd.R_base ho67) hb)
       replace HO113 := Aside0.mk (Kd.V_elder' (by (with_reducible repeat (first | apply Kd.V_alloc | apply Kd.V_drewN | apply Kd.V_drew)); exact HO113.out) (Kd.R_base ho67) hb)
       replace HO122 := Aside0.mk (Kd.N_elder' (by (with_reducible repeat (first | apply Kd.N_alloc | apply Kd.N_drewN | apply Kd.N_drew)); exact HO122.out) (Kd.R_base ho67) hb)
       replace BK114 := bb_ BK114 hb
       replace HB := hs_ HB hb
       clear hb ho67
       obtain ⟨Ao68, co68, eo68⟩ := Kd.R_slice HO125.out
       (first | subst eo68 | (injection eo68 with f1_ f2_ f3_; have f4_ := f1_.symm; have f5_ := f3_.symm; clear f1_ f2_ f3_; subst f4_; subst f5_))
       obtain ⟨Ao69, co69, eo69⟩ := Kd.N_slice HO122.out
       (first | subst eo69 | (injection eo69 with f1_ f2_ f3_; have f4_ := f1_.symm; have f5_ := f3_.symm; clear f1_ f2_ f3_; subst f4_; subst f5_))
       refine hK.out _ _ ⟨(blk_cell BK114.out 0).trans rfl, (blk_cell BK114.out 1).trans rfl, (blk_cell BK114.out 2).trans rfl⟩ (fun hHeld => ?_)
       clear hK K
       refine norm_ (a' := ?_) ?_ ?_
       rotate_left
       ·show Act.put _ (some 13) _ = _
        simp only [Act.put, List.setIfInBounds_toArray, List.set_cons_zero, List.set_cons_succ, i64_w, i32_w]
        rfl
       exact norm_ (by simp only [putAll, Act.put, List.setIfInBounds_toArray, List.set_cons_zero, List.set_cons_succ]) (hCont (.slice Ao63 t117.length co63, .slice Ao69 y120.length co69, .slice Ao68 y123.length co68) _ ⟨hHeld, (by (with_reducible repeat (first | apply Kd.N_alloc | apply Kd.N_drewN | apply Kd.N_drew)); exact Kd.N_mono HO108.out (fun _ hk => ⟨hk.1.2, ⟨hk.2, hk.1.1.1⟩⟩)), (by (with_reducible repeat (first | apply Kd.V_alloc | apply Kd.V_drewN | apply Kd.V_drew)); exact Kd.V_mono HO113.out (fun _ hk => ⟨hk.1.2, ⟨hk.2, hk.1.1.1⟩⟩)), (by (with_reducible repeat (first | apply Kd.N_alloc | apply Kd.N_drewN | apply Kd.N_drew)); exact Kd.N_mono HO122.out (fun _ hk => ⟨hk.2, hk.1⟩)), (rl_ HO125), (pl_ BK114), (bl_ HB)⟩)
      ·skip
       refine Kd.R_lit_step (Kd.int .i64) _ 3 ?hg (N := 13) ?hd (xs := ([0, 1] : List Int)) (inner := [.int .i64 0, .int .i64 1]) (ok := fun _ => True) (okp := fun _ => True) ?hr ?hp (fun _ hk => hk) trivial (Below.refl _ _) (Nat.le_refl _) (by simp) ?_; (case hd => rfl); (case hg => rfl); (case hr => first | (go_simp; done) | (go_simp; rfl)); (case hp => exact (Reps.one (show Kd.M (Kd.int .i64) _ _ _ 0 [.int .i64 0] from rfl) (Reps.one (show Kd.M (Kd.int .i64) _ _ _ 1 [.int .i64 1] from rfl) (Reps.none _ _))))
       intro v124 w63 ho64 hb hg_ hnew_
       clear hg_ hnew_
       (first | rw [← Ny123.out] at ho64 | (simp only [Int.reduceToNat] at ho64; rw [← Ny123.out] at ho64))
       have HO125 := Aside0.mk (Kd.R_lower ho64 (below_size (bl_ HB)))
       replace HO108 := Aside0.mk (Kd.N_elder' (by (with_reducible repeat (first | apply Kd.N_alloc | apply Kd.N_drewN | apply Kd.N_drew)); exact HO108.out) (Kd.R_base ho64) hb)
       replace HO113 := Aside0.mk (Kd.V_elder' (by (with_reducible repeat (first | apply Kd.V_alloc | apply Kd.V_drewN | apply Kd.V_drew)); exact HO113.out) (Kd.R_base ho64) hb)
       replace HO119 := Aside0.mk (Kd.N_elder' (by (with_reducible repeat (first | apply Kd.N_alloc | apply Kd.N_drewN | apply Kd.N_drew)); exact HO119.out) (Kd.R_base ho64) hb)
       replace BK114 := bb_ BK114 hb
       replace HB := hs_ HB hb
       clear hb ho64
       obtain ⟨Ao65, co65, eo65⟩ := Kd.N_slice HO119.out
       (first | subst eo65 | (injection eo65 with f1_ f2_ f3_; have f4_ := f1_.symm; have f5_ := f3_.symm; clear f1_ f2_ f3_; subst f4_; subst f5_))
       refine hK.out _ _ ⟨(blk_cell BK114.out 0).trans rfl, (blk_cell BK114.out 1).trans rfl, (blk_cell BK114.out 2).trans rfl⟩ (fun hHeld => ?_)
       clear hK K
       refine norm_ (a' := ?_) ?_ ?_
       rotate_left
       ·show Act.put _ (some 13) _ = _
        simp only [Act.put, List.setIfInBounds_toArray, List.set_cons_zero, List.set_cons_succ, i64_w, i32_w]
        rfl
       refine one_ (i := 2) (N := some 12) #[true, true, true, true, false, false, false, false, false, false, false, false] rfl rfl (one_of HT_.out (by kernel_rfl)) (by decide) (fun K hK => ?_)
       refine Kd.N_lit_step k36 _ 36 ?hg (N' := 12) ?hd (xs := ([(⟨t115, t116, t117⟩ : S36), (⟨t109, t110, t111⟩ : S36)] : List (S36))) (inner := [.int .i64 t115, .string t116, .slice Ao65 t117.length co65, .int .i64 t109, .string t110, .slice Ao59 t111.length co59]) (ok := (fun k_ => some k_ ≠ (v124 : Value).ownBlock ∧ k_ ≠ gb114)) (okp := (fun k_ => some k_ ≠ (v124 : Value).ownBlock ∧ k_ ≠ gb114)) ?hr ?hp (fun _ hk => hk) ((show ∀ k_, w63.heap.size ≤ k_ → (fun k_ => some k_ ≠ (v124 : Value).ownBlock ∧ k_ ≠ gb114) k_ from fun k_ hk => ⟨Kd.fresh' (Kd.R_lt (rl_ HO125)) k_ hk, Kd.freshB (g := gb114) (o := .cells #[.int .i64 t109, .string t110, .slice Ao59 t111.length co59] 36 (0, 0)) (pl_ BK114) k_ hk⟩) _ (Nat.le_refl _)) (Below.refl _ _) (Nat.le_refl _) (by simp) ?_; (case hd => rfl); (case hg => rfl); (case hr => first | (go_simp; done) | (go_simp; rfl)); (case hp => exact (Reps.c3 (show Kd.FK k36 _ _ (⟨t115, t116, t117⟩ : S36) [.int .i64 t115, .string t116, .slice Ao65 t117.length co65] from (k36_mkF _ _ (⟨t115, t116, t117⟩ : S36) (Kd.N_reads' (Kd.N_mono (ok' := (fun k_ => some k_ ≠ (v124 : Value).ownBlock ∧ k_ ≠ gb114)) (HO119.out) (fun k_ hk => ⟨hk.2, hk.1.2⟩))).2.1 (Kd.N_F (Kd.N_mono (ok' := (fun k_ => some k_ ≠ (v124 : Value).ownBlock ∧ k_ ≠ gb114)) (HO119.out) (fun k_ hk => ⟨hk.2, hk.1.2⟩))))) (Reps.c3 (show Kd.FK k36 _ _ (⟨t109, t110, t111⟩ : S36) [.int .i64 t109, .string t110, .slice Ao59 t111.length co59] from (k36_mkF _ _ (⟨t109, t110, t111⟩ : S36) (Kd.V_reads' (Kd.V_mono (ok' := (fun k_ => some k_ ≠ (v124 : Value).ownBlock ∧ k_ ≠ gb114)) (HO113.out) (fun k_ hk => ⟨hk.2, hk.1.1⟩))).2.1 (Kd.V_F (Kd.V_mono (ok' := (fun k_ => some k_ ≠ (v124 : Value).ownBlock ∧ k_ ≠ gb114)) (HO113.out) (fun k_ hk => ⟨hk.2, hk.1.1⟩))))) (Reps.none _ _))))
       intro v121 w66 ho67 hb hg_ hnew_
       clear hg_ hnew_
       (first | rw [← Ny120.out] at ho67 | (simp only [Int.reduceToNat] at ho67; rw [← Ny120.out] at ho67))
       have HO122 := Aside0.mk (Kd.N_lower ho67 (below_size (bl_ HB)))
       replace HO108 := Aside0.mk (Kd.N_elder' (by (with_reducible repeat (first | apply Kd.N_alloc | apply Kd.N_drewN | apply Kd.N_drew)); exact HO108.out) (Kd.N_base ho67) hb)
       replace HO113 := Aside0.mk (Kd.V_elder' (by (with_reducible repeat (first | apply Kd.V_alloc | apply Kd.V_drewN | apply Kd.V_drew)); exact HO113.out) (Kd.N_base ho67) hb)
       replace HO125 := Aside0.mk (Kd.R_below (rl_ HO125) hb)
       replace BK114 := bb_ BK114 hb
       replace HB := hs_ HB hb
       clear HO119 hb ho67
       obtain ⟨Ao68, co68, eo68⟩ := Kd.R_slice HO125.out
       (first | subst eo68 | (injection eo68 with f1_ f2_ f3_; have f4_ := f1_.symm; have f5_ := f3_.symm; clear f1_ f2_ f3_; subst f4_; subst f5_))
       obtain ⟨Ao69, co69, eo69⟩ := Kd.N_slice HO122.out
       (first | subst eo69 | (injection eo69 with f1_ f2_ f3_; have f4_ := f1_.symm; have f5_ := f3_.symm; clear f1_ f2_ f3_; subst f4_; subst f5_))
       refine hK.out _ _ ⟨(blk_cell BK114.out 0).trans rfl, (blk_cell BK114.out 1).trans rfl, (blk_cell BK114.out 2).trans rfl⟩ (fun hHeld => ?_)
       clear hK K
       refine norm_ (a' := ?_) ?_ ?_
       rotate_left
       ·show Act.put _ (some 12) _ = _
        simp only [Act.put, List.setIfInBounds_toArray, List.set_cons_zero, List.set_cons_succ, i64_w, i32_w]
        rfl
       exact norm_ (by simp only [putAll, Act.put, List.setIfInBounds_toArray, List.set_cons_zero, List.set_cons_succ]) (hCont (.slice Ao65 t117.length co65, .slice Ao69 y120.length co69, .slice Ao68 y123.length co68) _ ⟨hHeld, (by (with_reducible repeat (first | apply Kd.N_alloc | apply Kd.N_drewN | apply Kd.N_drew)); exact Kd.N_mono HO108.out (fun _ hk => ⟨hk.2, ⟨hk.1.2, hk.1.1.1⟩⟩)), (by (with_reducible repeat (first | apply Kd.V_alloc | apply Kd.V_drewN | apply Kd.V_drew)); exact Kd.V_mono HO113.out (fun _ hk => ⟨hk.2, ⟨hk.1.2, hk.1.1.1⟩⟩)), (by (with_reducible repeat (first | apply Kd.N_alloc | apply Kd.N_drewN | apply Kd.N_drew)); exact HO122.out), (rl_ HO125), (pl_ BK114), (bl_ HB)⟩)
     ·skip
      refine Kd.R_lit_step (Kd.int .i64) _ 3 ?hg (N := 13) ?hd (xs := ([0, 1] : List Int)) (inner := [.int .i64 0, .int .i64 1]) (ok := fun _ => True) (okp := fun _ => True) ?hr ?hp (fun _ hk => hk) trivial (Below.refl _ _) (Nat.le_refl _) (by simp) ?_; (case hd => rfl); (case hg => rfl); (case hr => first | (go_simp; done) | (go_simp; rfl)); (case hp => exact (Reps.one (show Kd.M (Kd.int .i64) _ _ _ 0 [.int .i64 0] from rfl) (Reps.one (show Kd.M (Kd.int .i64) _ _ _ 1 [.int .i64 1] from rfl) (Reps.none _ _))))
      intro v124 w62 ho63 hb hg_ hnew_
      clear hg_ hnew_
      (first | rw [← Ny123.out] at ho63 | (simp only [Int.reduceToNat] at ho63; rw [← Ny123.out] at ho63))
      have HO125 := Aside0.mk (Kd.R_lower ho63 (below_size (bl_ HB)))
      replace HO108 := Aside0.mk (Kd.N_elder' (by (with_reducible repeat (first | apply Kd.N_alloc | apply Kd.N_drewN | apply Kd.N_drew)); exact HO108.out) (Kd.R_base ho63) hb)
      replace HO113 := Aside0.mk (Kd.V_elder' (by (with_reducible repeat (first | apply Kd.V_alloc | apply Kd.V_drewN | apply Kd.V_drew)); exact HO113.out) (Kd.R_base ho63) hb)
      replace BK114 := bb_ BK114 hb
      replace HB := hs_ HB hb
      clear hb ho63
      refine hK.out _ _ ⟨(blk_cell BK114.out 0).trans rfl, (blk_cell BK114.out 1).trans rfl, (blk_cell BK114.out 2).trans rfl⟩ (fun hHeld => ?_)
      clear hK K
      refine norm_ (a' := ?_) ?_ ?_
      rotate_left
      ·show Act.put _ (some 13) _ = _
       simp only [Act.put, List.setIfInBounds_toArray, List.set_cons_zero, List.set_cons_succ, i64_w, i32_w]
       rfl
      refine one_ (i := 0) (N := some 10) #[true, true, false, true, false, false, false, false, false, false, false, false] rfl rfl (one_of HT_.out (by kernel_rfl)) (by decide) (fun K hK => ?_)
      refine goes_ Try.func26 (by kernel_rfl) rfl #[] (by rfl) rfl rfl (by (try simp only [List.map_toArray, List.map_cons, List.map_nil]); first | done | rfl | (simp only [List.length_drop, List.length_take]; rfl)) ?_
      with_reducible refine (telamonlaw21_V.calls  t115 t116 t117 _ A3.out).mono ?_
      rintro e w64 ⟨v118, rfl, ho0, hb⟩
      refine ⟨_, rfl, ?_⟩
      have HO119 := Aside0.mk (Kd.N_lower (Kd.N_mono (ok' := fun k_ => some k_ ≠ (.slice Ao55 y106.length co55 : Value).ownBlock ∧ some k_ ≠ (v124 : Value).ownBlock ∧ k_ ≠ gb114) (Kd.R_N (Kd.R_bound ho0)) (fun k_ hk_ => ⟨(Kd.fresh' (Kd.N_lt (by (with_reducible repeat (first | apply Kd.N_alloc | apply Kd.N_drewN | apply Kd.N_drew)); exact HO108.out)) k_ hk_.2.1), (Kd.fresh' (Kd.R_lt (rl_ HO125)) k_ hk_.2.1), (Kd.freshB (g := gb114) (o := .cells #[.int .i64 t109, .string t110, .slice Ao59 t111.length co59] 36 (0, 0)) (pl_ BK114) k_ hk_.2.1)⟩)) (below_size (bl_ HB)))
      replace HO108 := Aside0.mk (Kd.N_elder' (by (with_reducible repeat (first | apply Kd.N_alloc | apply Kd.N_drewN | apply Kd.N_drew)); exact HO108.out) (Kd.N_base (Kd.R_N (Kd.R_bound ho0))) hb)
      replace HO113 := Aside0.mk (Kd.V_elder' (by (with_reducible repeat (first | apply Kd.V_alloc | apply Kd.V_drewN | apply Kd.V_drew)); exact HO113.out) (Kd.N_base (Kd.R_N (Kd.R_bound ho0))) hb)
      replace HO125 := Aside0.mk (Kd.R_below (rl_ HO125) hb)
      replace BK114 := bb_ BK114 hb
      replace HB := hs_ HB hb
      (try clear hb); (try clear hb2); (try clear hk); (try clear hi); (try clear ho0)
      obtain ⟨Ao65, co65, eo65⟩ := Kd.N_slice HO119.out
      (first | subst eo65 | (injection eo65 with f1_ f2_ f3_; have f4_ := f1_.symm; have f5_ := f3_.symm; clear f1_ f2_ f3_; subst f4_; subst f5_))
      refine hK.out _ _ ⟨(blk_cell BK114.out 0).trans rfl, (blk_cell BK114.out 1).trans rfl, (blk_cell BK114.out 2).trans rfl⟩ (fun hHeld => ?_)
      clear hK K
      refine norm_ (a' := ?_) ?_ ?_
      rotate_left
      ·show Act.put _ (some 10) _ = _
       simp only [Act.put, List.setIfInBounds_toArray, List.set_cons_zero, List.set_cons_succ, i64_w, i32_w]
       rfl
      refine one_ (i := 2) (N := some 12) #[true, true, true, true, false, false, false, false, false, false, false, false] rfl rfl (one_of HT_.out (by kernel_rfl)) (by decide) (fun K hK => ?_)
      refine Kd.N_lit_step k36 _ 36 ?hg (N' := 12) ?hd (xs := ([(⟨t115, t116, t117⟩ : S36), (⟨t109, t110, t111⟩ : S36)] : List (S36))) (inner := [.int .i64 t115, .string t116, .slice Ao65 t117.length co65, .int .i64 t109, .string t110, .slice Ao59 t111.length co59]) (ok := (fun k_ => some k_ ≠ (v124 : Value).ownBlock ∧ k_ ≠ gb114)) (okp := (fun k_ => some k_ ≠ (v124 : Value).ownBlock ∧ k_ ≠ gb114)) ?hr ?hp (fun _ hk => hk) ((show ∀ k_, w64.heap.size ≤ k_ → (fun k_ => some k_ ≠ (v124 : Value).ownBlock ∧ k_ ≠ gb114) k_ from fun k_ hk => ⟨Kd.fresh' (Kd.R_lt (rl_ HO125)) k_ hk, Kd.freshB (g := gb114) (o := .cells #[.int .i64 t109, .string t110, .slice Ao59 t111.length co59] 36 (0, 0)) (pl_ BK114) k_ hk⟩) _ (Nat.le_refl _)) (Below.refl _ _) (Nat.le_refl _) (by simp) ?_; (case hd => rfl); (case hg => rfl); (case hr => first | (go_simp; done) | (go_simp; rfl)); (case hp => exact (Reps.c3 (show Kd.FK k36 _ _ (⟨t115, t116, t117⟩ : S36) [.int .i64 t115, .string t116, .slice Ao65 t117.length co65] from (k36_mkF _ _ (⟨t115, t116, t117⟩ : S36) (Kd.N_reads' (Kd.N_mono (ok' := (fun k_ => some k_ ≠ (v124 : Value).ownBlock ∧ k_ ≠ gb114)) (HO119.out) (fun k_ hk => ⟨hk.2.1, hk.2.2⟩))).2.1 (Kd.N_F (Kd.N_mono (ok' := (fun k_ => some k_ ≠ (v124 : Value).ownBlock ∧ k_ ≠ gb114)) (HO119.out) (fun k_ hk => ⟨hk.2.1, hk.2.2⟩))))) (Reps.c3 (show Kd.FK k36 _ _ (⟨t109, t110, t111⟩ : S36) [.int .i64 t109, .string t110, .slice Ao59 t111.length co59] from (k36_mkF _ _ (⟨t109, t110, t111⟩ : S36) (Kd.V_reads' (Kd.V_mono (ok' := (fun k_ => some k_ ≠ (v124 : Value).ownBlock ∧ k_ ≠ gb114)) (HO113.out) (fun k_ hk => ⟨hk.1.2, hk.1.1⟩))).2.1 (Kd.V_F (Kd.V_mono (ok' := (fun k_ => some k_ ≠ (v124 : Value).ownBlock ∧ k_ ≠ gb114)) (HO113.out) (fun k_ hk => ⟨hk.1.2, hk.1.1⟩))))) (Reps.none _ _))))
      intro v121 w66 ho67 hb hg_ hnew_
      clear hg_ hnew_
      (first | rw [← Ny120.out] at ho67 | (simp only [Int.reduceToNat] at ho67; rw [← Ny120.out] at ho67))
      have HO122 := Aside0.mk (Kd.N_lower ho67 (below_size (bl_ HB)))
      replace HO108 := Aside0.mk (Kd.N_elder' (by (with_reducible repeat (first | apply Kd.N_alloc | apply Kd.N_drewN | apply Kd.N_drew)); exact HO108.out) (Kd.N_base ho67) hb)
      replace HO113 := Aside0.mk (Kd.V_elder' (by (with_reducible repeat (first | apply Kd.V_alloc | apply Kd.V_drewN | apply Kd.V_drew)); exact HO113.out) (Kd.N_base ho67) hb)
      replace HO125 := Aside0.mk (Kd.R_below (rl_ HO125) hb)
      replace BK114 := bb_ BK114 hb
      replace HB := hs_ HB hb
      clear HO119 hb ho67
      obtain ⟨Ao68, co68, eo68⟩ := Kd.R_slice HO125.out
      (first | subst eo68 | (injection eo68 with f1_ f2_ f3_; have f4_ := f1_.symm; have f5_ := f3_.symm; clear f1_ f2_ f3_; subst f4_; subst f5_))
      obtain ⟨Ao69, co69, eo69⟩ := Kd.N_slice HO122.out
      (first | subst eo69 | (injection eo69 with f1_ f2_ f3_; have f4_ := f1_.symm; have f5_ := f3_.symm; clear f1_ f2_ f3_; subst f4_; subst f5_))
      refine hK.out _ _ ⟨(blk_cell BK114.out 0).trans rfl, (blk_cell BK114.out 1).trans rfl, (blk_cell BK114.out 2).trans rfl⟩ (fun hHeld => ?_)
      clear hK K
      refine norm_ (a' := ?_) ?_ ?_
      rotate_left
      ·show Act.put _ (some 12) _ = _
       simp only [Act.put, List.setIfInBounds_toArray, List.set_cons_zero, List.set_cons_succ, i64_w, i32_w]
       rfl
      exact norm_ (by simp only [putAll, Act.put, List.setIfInBounds_toArray, List.set_cons_zero, List.set_cons_succ]) (hCont (.slice Ao65 t117.length co65, .slice Ao69 y120.length co69, .slice Ao68 y123.length co68) _ ⟨hHeld, (by (with_reducible repeat (first | apply Kd.N_alloc | apply Kd.N_drewN | apply Kd.N_drew)); exact Kd.N_mono HO108.out (fun _ hk => ⟨hk.2, ⟨hk.1.1.2, hk.1.1.1⟩⟩)), (by (with_reducible repeat (first | apply Kd.V_alloc | apply Kd.V_drewN | apply Kd.V_drew)); exact Kd.V_mono HO113.out (fun _ hk => ⟨hk.2, ⟨hk.1.1.2, hk.1.1.1⟩⟩)), (by (with_reducible repeat (first | apply Kd.N_alloc | apply Kd.N_drewN | apply Kd.N_drew)); exact HO122.out), (rl_ HO125), (pl_ BK114), (bl_ HB)⟩)
    rintro ⟨v118, v121, v124⟩ w70 ⟨hS_, h0_, h1_, h2_, h3_, h4_, h5_⟩
    have n0_ : Aside0 (Kd.N k36 36 w70 w.heap.size (fun k_ => some k_ ≠ (v121 : Value).ownBlock ∧ some k_ ≠ (v124 : Value).ownBlock ∧ k_ ≠ gb114) (.slice Ao55 y106.length co55) y106) := ⟨h0_⟩
    have n1_ : Aside0 (Kd.V k36 36 w70 w.heap.size (fun k_ => some k_ ≠ (v121 : Value).ownBlock ∧ some k_ ≠ (v124 : Value).ownBlock ∧ k_ ≠ gb114) (.slice Ao59 t111.length co59) t111) := ⟨h1_⟩
    have n2_ : Aside0 (Kd.N k36 36 w70 w.heap.size (fun k_ => some k_ ≠ (v124 : Value).ownBlock ∧ k_ ≠ gb114) v121 y120) := ⟨h2_⟩
    have n3_ : Aside0 (Kd.R (Kd.int .i64) 3 w70 w.heap.size (fun _ => True) v124 y123) := ⟨h3_⟩
    have n4_ : Aside0 (w70.heap[gb114]? = some (.cells #[.int .i64 t109, .string t110, .slice Ao59 t111.length co59] 36 (0, 0))) := ⟨h4_⟩
    have n5_ : Aside0 (Below w.heap.size w w70) := ⟨h5_⟩
    clear HO108 HO113 BK114 HB h0_ h1_ h2_ h3_ h4_ h5_
    have HO108 := n0_
    have HO113 := n1_
    have HO122 := n2_
    have HO125 := n3_
    have BK114 := n4_
    have HB := n5_
    clear n0_ n1_ n2_ n3_ n4_ n5_
    have hHeld : w70.cell? ⟨gb114, 0, none⟩ = some (.int .i64 t109) ∧ w70.cell? ⟨gb114, 1, none⟩ = some (.string t110) ∧ w70.cell? ⟨gb114, 2, none⟩ = some (.slice Ao59 t111.length co59) := hS_
    obtain ⟨Ao71, co71, eo71⟩ := Kd.R_slice HO125.out
    (first | subst eo71 | (injection eo71 with f1_ f2_ f3_; have f4_ := f1_.symm; have f5_ := f3_.symm; clear f1_ f2_ f3_; subst f4_; subst f5_))
    obtain ⟨Ao72, co72, eo72⟩ := Kd.N_slice HO122.out
    (first | subst eo72 | (injection eo72 with f1_ f2_ f3_; have f4_ := f1_.symm; have f5_ := f3_.symm; clear f1_ f2_ f3_; subst f4_; subst f5_))
    refine norm_ (a' := ?_) ?_ ?_
    rotate_left
    ·simp only [putAll, Act.put, List.setIfInBounds_toArray, List.set_cons_zero, List.set_cons_succ]
     rfl
    refine pure_ (i := 4) (N := some 14) (v := ?_) (a' := ?_) #[true, true, true, true, true, false, false, false, false, false, false, false] rfl rfl (any_of HT_.out (by kernel_rfl)) (fun _ _ _ h => h) (Or.inl ⟨by rfl, ?_⟩) ?_ ?_
    rotate_left
    ·intro w'
     go_simp
     with_reducible rfl
    rotate_left
    ·simp only [Act.put, List.setIfInBounds_toArray, List.set_cons_zero, List.set_cons_succ, i64_w, i32_w]
     rfl
    refine one_ (i := 5) (N := some 15) #[true, true, true, true, true, true, false, false, false, false, false, false] rfl rfl (one_of HT_.out (by kernel_rfl)) (by decide) (fun K hK => ?_)
    refine Kd.N_lit_step k31 _ 31 ?hg (N' := 15) ?hd (xs := ([(⟨y120, y123⟩ : S31)] : List (S31))) (inner := [.slice Ao72 y120.length co72, .slice Ao71 y123.length co71]) (ok := (fun k_ => k_ ≠ gb114)) (okp := (fun k_ => k_ ≠ gb114)) ?hr ?hp (fun _ hk => hk) ((show ∀ k_, w70.heap.size ≤ k_ → (fun k_ => k_ ≠ gb114) k_ from fun k_ hk => Kd.freshB (g := gb114) (o := .cells #[.int .i64 t109, .string t110, .slice Ao59 t111.length co59] 36 (0, 0)) (pl_ BK114) k_ hk) _ (Nat.le_refl _)) (Below.refl _ _) (Nat.le_refl _) (by simp) ?_; (case hd => rfl); (case hg => rfl); (case hr => first | (go_simp; done) | (go_simp; rfl)); (case hp => exact (Reps.c2 (show Kd.FK k31 _ _ (⟨y120, y123⟩ : S31) [.slice Ao72 y120.length co72, .slice Ao71 y123.length co71] from (k31_mkF _ _ (⟨y120, y123⟩ : S31) (Kd.N_reads' (Kd.N_mono (ok' := (fun k_ => k_ ≠ gb114)) (HO122.out) (fun k_ hk => hk.2))).2.1 (Kd.N_F (Kd.N_mono (ok' := (fun k_ => k_ ≠ gb114)) (HO122.out) (fun k_ hk => hk.2))) (Kd.R_reads' (Kd.R_mono (ok' := (fun k_ => k_ ≠ gb114)) (Kd.R_types (HO125.out) BK114.out (by decide)) (fun k_ hk => hk.2))).2.1 (Kd.R_F (Kd.R_mono (ok' := (fun k_ => k_ ≠ gb114)) (Kd.R_types (HO125.out) BK114.out (by decide)) (fun k_ hk => hk.2))))) (Reps.none _ _)))
    intro v127 w73 ho74 hb hg_ hnew_
    clear hg_ hnew_
    (first | rw [← Ny126.out] at ho74 | (simp only [Int.reduceToNat] at ho74; rw [← Ny126.out] at ho74))
    have HO128 := Aside0.mk (Kd.N_lower ho74 (below_size (bl_ HB)))
    replace HO108 := Aside0.mk (Kd.N_elder' (by (with_reducible repeat (first | apply Kd.N_alloc | apply Kd.N_drewN | apply Kd.N_drew)); exact HO108.out) (Kd.N_base ho74) hb)
    replace HO113 := Aside0.mk (Kd.V_elder' (by (with_reducible repeat (first | apply Kd.V_alloc | apply Kd.V_drewN | apply Kd.V_drew)); exact HO113.out) (Kd.N_base ho74) hb)
    replace BK114 := bb_ BK114 hb
    replace HB := hs_ HB hb
    clear HO122 HO125 hb ho74
    obtain ⟨Ao75, co75, eo75⟩ := Kd.N_slice HO128.out
    (first | subst eo75 | (injection eo75 with f1_ f2_ f3_; have f4_ := f1_.symm; have f5_ := f3_.symm; clear f1_ f2_ f3_; subst f4_; subst f5_))
    refine hK.out _ _ ⟨(blk_cell BK114.out 0).trans rfl, (blk_cell BK114.out 1).trans rfl, (blk_cell BK114.out 2).trans rfl⟩ (fun hHeld => ?_)
    clear hK K
    refine norm_ (a' := ?_) ?_ ?_
    rotate_left
    ·show Act.put _ (some 15) _ = _
     simp only [Act.put, List.setIfInBounds_toArray, List.set_cons_zero, List.set_cons_succ, i64_w, i32_w]
     rfl
    refine one_ (i := 6) (N := some 16) #[true, true, true, true, true, true, true, false, false, false, false, false] rfl rfl (one_of HT_.out (by kernel_rfl)) (by decide) (fun K hK => ?_)
    refine goes_ Try.func20 (by kernel_rfl) rfl #[.slice Ao75 y126.length co75, .int .i64 2] (by rfl) rfl rfl (by (try simp only [List.map_toArray, List.map_cons, List.map_nil]); first | done | rfl | (simp only [List.length_drop, List.length_take]; rfl)) ?_
    with_reducible refine (recurse_Find.calls _ _ y126 2 t129 true _ ?side1 ?side2 A4.out).mono ?_
    (case side1 => repeat (first | exact (Kd.N_reads' HO128.out).2.2 | (with_reducible refine Kd.C_alloc ?_ _) | (with_reducible refine Kd.C_drewN ?_ _) | (with_reducible refine Kd.C_drew ?_)))
    (case side2 => exact (Kd.N_reads' HO128.out).2.1)
    rintro e w76 ⟨rfl, hb⟩
    refine ⟨_, rfl, ?_⟩
    replace HO108 := Aside0.mk (Kd.N_below (by (with_reducible repeat (first | apply Kd.N_alloc | apply Kd.N_drewN | apply Kd.N_drew)); exact HO108.out) hb)
    replace HO113 := Aside0.mk (Kd.V_below (by (with_reducible repeat (first | apply Kd.V_alloc | apply Kd.V_drewN | apply Kd.V_drew)); exact HO113.out) hb)
    replace HO128 := Aside0.mk (Kd.N_below (by (with_reducible repeat (first | apply Kd.N_alloc | apply Kd.N_drewN | apply Kd.N_drew)); exact HO128.out) hb)
    replace BK114 := bb_ BK114 hb
    replace HB := hs_ HB hb
    (try clear hb); (try clear hb2); (try clear hk); (try clear hi)
    refine hK.out _ _ ⟨(blk_cell BK114.out 0).trans rfl, (blk_cell BK114.out 1).trans rfl, (blk_cell BK114.out 2).trans rfl⟩ (fun hHeld => ?_)
    clear hK K
    refine norm_ (a' := ?_) ?_ ?_
    rotate_left
    ·show Act.put _ (some 16) _ = _
     simp only [Act.put, List.setIfInBounds_toArray, List.set_cons_zero, List.set_cons_succ, i64_w, i32_w]
     rfl
    refine pure_ (i := 7) (N := some 9) (v := ?_) (a' := ?_) #[true, true, true, true, true, true, true, true, false, false, false, false] rfl rfl (any_of HT_.out (by kernel_rfl)) (fun _ _ _ h => h) (Or.inl ⟨by rfl, ?_⟩) ?_ ?_
    rotate_left
    ·intro w'
     go_simp
     with_reducible rfl
    rotate_left
    ·simp only [Act.put, List.setIfInBounds_toArray, List.set_cons_zero, List.set_cons_succ, i64_w, i32_w]
     rfl
    refine pure_ (i := 8) (N := some 17) (v := ?_) (a' := ?_) #[true, true, true, true, true, true, true, true, true, false, false, false] rfl rfl (any_of HT_.out (by kernel_rfl)) (fun _ _ _ h => h) (Or.inl ⟨by rfl, ?_⟩) ?_ ?_
    rotate_left
    ·intro w'
     go_simp
     with_reducible rfl
    rotate_left
    ·simp only [Act.put, List.setIfInBounds_toArray, List.set_cons_zero, List.set_cons_succ, i64_w, i32_w]
     rfl
    refine pure_ (i := 9) (N := some 18) (v := ?_) (a' := ?_) #[true, true, true, true, true, true, true, true, true, true, false, false] rfl rfl (any_of HT_.out (by kernel_rfl)) (fun _ _ _ h => h) (Or.inl ⟨by rfl, ?_⟩) ?_ ?_
    rotate_left
    ·intro w'
     go_simp
     with_reducible rfl
    rotate_left
    ·simp only [Act.put, List.setIfInBounds_toArray, List.set_cons_zero, List.set_cons_succ, i64_w, i32_w]
     rfl
    refine pure_ (i := 10) (N := some 2) (v := ?_) (a' := ?_) #[true, true, true, true, true, true, true, true, true, true, true, false] rfl rfl (any_of HT_.out (by kernel_rfl)) (fun _ _ _ h => h) (Or.inl ⟨by rfl, ?_⟩) ?_ ?_
    rotate_left
    ·intro w'
     go_simp
     with_reducible rfl
    rotate_left
    ·simp only [Act.put, List.setIfInBounds_toArray, List.set_cons_zero, List.set_cons_succ, i64_w, i32_w]
     rfl
    refine pure_ (i := 11) (N := some 3) (v := ?_) (a' := ?_) #[true, true, true, true, true, true, true, true, true, true, true, true] rfl rfl (any_of HT_.out (by kernel_rfl)) (fun _ _ _ h => h) (Or.inl ⟨by rfl, ?_⟩) ?_ ?_
    rotate_left
    ·intro w'
     go_simp
     with_reducible rfl
    rotate_left
    ·simp only [Act.put, List.setIfInBounds_toArray, List.set_cons_zero, List.set_cons_succ, i64_w, i32_w]
     rfl
    refine done_ (done_of HT_.out (by kernel_rfl)) ?_
    try go_wp2_with (first | ((with_reducible refine gate_callee (f := 26) rfl ?_); refine goesL_ (some 20) rfl rfl Try.func26 (by kernel_rfl) rfl #[] rfl (by (try simp only [List.map_toArray, List.map_cons, List.map_nil]); first | done | rfl | (simp only [List.length_drop, List.length_take]; rfl)) ?_; (with_reducible refine (telamonlaw21_V.calls  t131 t132 t133 _ A5.out).mono ?_); rintro e w77 ⟨v134, rfl, ho0, hb⟩; refine ⟨_, rfl, ?_⟩; have HO135 := Aside0.mk (Kd.N_lower (Kd.N_mono (ok' := fun k_ => some k_ ≠ (.slice Ao55 y106.length co55 : Value).ownBlock ∧ some k_ ≠ (.slice Ao75 y126.length co75 : Value).ownBlock ∧ k_ ≠ gb114) (Kd.R_N (Kd.R_bound ho0)) (fun k_ hk_ => ⟨(Kd.fresh' (Kd.N_lt (by (with_reducible repeat (first | apply Kd.N_alloc | apply Kd.N_drewN | apply Kd.N_drew)); exact HO108.out)) k_ hk_.2.1), (Kd.fresh' (Kd.N_lt (by (with_reducible repeat (first | apply Kd.N_alloc | apply Kd.N_drewN | apply Kd.N_drew)); exact HO128.out)) k_ hk_.2.1), (Kd.freshB (g := gb114) (o := .cells #[.int .i64 t109, .string t110, .slice Ao59 t111.length co59] 36 (0, 0)) (pl_ BK114) k_ hk_.2.1)⟩)) (below_size (bl_ HB))); replace HO108 := Aside0.mk (Kd.N_elder' (by (with_reducible repeat (first | apply Kd.N_alloc | apply Kd.N_drewN | apply Kd.N_drew)); exact HO108.out) (Kd.N_base (Kd.R_N (Kd.R_bound ho0))) hb); replace HO113 := Aside0.mk (Kd.V_elder' (by (with_reducible repeat (first | apply Kd.V_alloc | apply Kd.V_drewN | apply Kd.V_drew)); exact HO113.out) (Kd.N_base (Kd.R_N (Kd.R_bound ho0))) hb); replace HO128 := Aside0.mk (Kd.N_elder' (by (with_reducible repeat (first | apply Kd.N_alloc | apply Kd.N_drewN | apply Kd.N_drew)); exact HO128.out) (Kd.N_base (Kd.R_N (Kd.R_bound ho0))) hb); replace BK114 := bb_ BK114 hb; replace HB := hs_ HB hb; (try clear hb); (try clear hb2); (try clear hk); (try clear hi); (try clear ho0); obtain ⟨Ao78, co78, eo78⟩ := Kd.N_slice HO135.out; subst eo78) | ((with_reducible refine gate_dst (N := 21) rfl ?_); (try (refine gate_guard (by rfl) ?_; dsimp only)); refine Kd.N_lit k36 _ 36 ?hg (N' := 21) ?hd (xs := ([(⟨t131, t132, t133⟩ : S36)] : List (S36))) (inner := [.int .i64 t131, .string t132, .slice Ao78 t133.length co78]) (ok := (fun k_ => some k_ ≠ (.slice Ao55 y106.length co55 : Value).ownBlock ∧ some k_ ≠ (.slice Ao75 y126.length co75 : Value).ownBlock ∧ k_ ≠ gb114)) (okp := (fun k_ => some k_ ≠ (.slice Ao55 y106.length co55 : Value).ownBlock ∧ some k_ ≠ (.slice Ao75 y126.length co75 : Value).ownBlock ∧ k_ ≠ gb114)) ?hr ?hp (fun _ hk => hk) ((show ∀ k_, w77.heap.size ≤ k_ → (fun k_ => some k_ ≠ (.slice Ao55 y106.length co55 : Value).ownBlock ∧ some k_ ≠ (.slice Ao75 y126.length co75 : Value).ownBlock ∧ k_ ≠ gb114) k_ from fun k_ hk => ⟨Kd.fresh' (Kd.N_lt (by (with_reducible repeat (first | apply Kd.N_alloc | apply Kd.N_drewN | apply Kd.N_drew)); exact HO108.out)) k_ hk, Kd.fresh' (Kd.N_lt (by (with_reducible repeat (first | apply Kd.N_alloc | apply Kd.N_drewN | apply Kd.N_drew)); exact HO128.out)) k_ hk, Kd.freshB (g := gb114) (o := .cells #[.int .i64 t109, .string t110, .slice Ao59 t111.length co59] 36 (0, 0)) (pl_ BK114) k_ hk⟩) _ (Nat.le_refl _)) (Below.refl _ _) (Nat.le_refl _) (by simp) ?_; (case hd => rfl); (case hg => rfl); (case hr => first | (go_simp; done) | (go_simp; rfl)); (case hp => exact (Reps.c3 (show Kd.FK k36 _ _ (⟨t131, t132, t133⟩ : S36) [.int .i64 t131, .string t132, .slice Ao78 t133.length co78] from (k36_mkF _ _ (⟨t131, t132, t133⟩ : S36) (Kd.N_reads' (Kd.N_mono (ok' := (fun k_ => some k_ ≠ (.slice Ao55 y106.length co55 : Value).ownBlock ∧ some k_ ≠ (.slice Ao75 y126.length co75 : Value).ownBlock ∧ k_ ≠ gb114)) (HO135.out) (fun k_ hk => ⟨hk.1, ⟨hk.2.1, hk.2.2⟩⟩))).2.1 (Kd.N_F (Kd.N_mono (ok' := (fun k_ => some k_ ≠ (.slice Ao55 y106.length co55 : Value).ownBlock ∧ some k_ ≠ (.slice Ao75 y126.length co75 : Value).ownBlock ∧ k_ ≠ gb114)) (HO135.out) (fun k_ hk => ⟨hk.1, ⟨hk.2.1, hk.2.2⟩⟩))))) (Reps.none _ _))); intro v137 w79 ho80 hb hg_ hnew_; clear hg_ hnew_; (first | rw [← Ny136.out] at ho80 | (simp only [Int.reduceToNat] at ho80; rw [← Ny136.out] at ho80)); have HO138 := Aside0.mk (Kd.N_lower ho80 (below_size (bl_ HB))); replace HO108 := Aside0.mk (Kd.N_elder' (by (with_reducible repeat (first | apply Kd.N_alloc | apply Kd.N_drewN | apply Kd.N_drew)); exact HO108.out) (Kd.N_base ho80) hb); replace HO113 := Aside0.mk (Kd.V_elder' (by (with_reducible repeat (first | apply Kd.V_alloc | apply Kd.V_drewN | apply Kd.V_drew)); exact HO113.out) (Kd.N_base ho80) hb); replace HO128 := Aside0.mk (Kd.N_elder' (by (with_reducible repeat (first | apply Kd.N_alloc | apply Kd.N_drewN | apply Kd.N_drew)); exact HO128.out) (Kd.N_base ho80) hb); replace BK114 := bb_ BK114 hb; replace HB := hs_ HB hb; clear HO135; clear hb ho80) | ((with_reducible refine gate_dst (N := 22) rfl ?_); (try (refine gate_guard (by rfl) ?_; dsimp only)); refine Kd.R_lit (Kd.int .i64) _ 3 ?hg (N := 22) ?hd (xs := ([0] : List Int)) (inner := [.int .i64 0]) (ok := fun _ => True) (okp := fun _ => True) ?hr ?hp (fun _ hk => hk) trivial (Below.refl _ _) (Nat.le_refl _) (by simp) ?_; (case hd => rfl); (case hg => rfl); (case hr => first | (go_simp; done) | (go_simp; rfl)); (case hp => exact (Reps.one (show Kd.M (Kd.int .i64) _ _ _ 0 [.int .i64 0] from rfl) (Reps.none _ _))); intro v140 w81 ho82 hb hg_ hnew_; clear hg_ hnew_; (first | rw [← Ny139.out] at ho82 | (simp only [Int.reduceToNat] at ho82; rw [← Ny139.out] at ho82)); have HO141 := Aside0.mk (Kd.R_lower ho82 (below_size (bl_ HB))); replace HO108 := Aside0.mk (Kd.N_elder' (by (with_reducible repeat (first | apply Kd.N_alloc | apply Kd.N_drewN | apply Kd.N_drew)); exact HO108.out) (Kd.R_base ho82) hb); replace HO113 := Aside0.mk (Kd.V_elder' (by (with_reducible repeat (first | apply Kd.V_alloc | apply Kd.V_drewN | apply Kd.V_drew)); exact HO113.out) (Kd.R_base ho82) hb); replace HO128 := Aside0.mk (Kd.N_elder' (by (with_reducible repeat (first | apply Kd.N_alloc | apply Kd.N_drewN | apply Kd.N_drew)); exact HO128.out) (Kd.R_base ho82) hb); replace HO138 := Aside0.mk (Kd.N_elder' (by (with_reducible repeat (first | apply Kd.N_alloc | apply Kd.N_drewN | apply Kd.N_drew)); exact HO138.out) (Kd.R_base ho82) hb); replace BK114 := bb_ BK114 hb; replace HB := hs_ HB hb; clear hb ho82; obtain ⟨Ao83, co83, eo83⟩ := Kd.R_slice HO141.out; subst eo83; obtain ⟨Ao84, co84, eo84⟩ := Kd.N_slice HO138.out; subst eo84) | ((with_reducible refine gate_dst (N := 24) rfl ?_); (try (refine gate_guard (by rfl) ?_; dsimp only)); refine Kd.N_lit k31 _ 31 ?hg (N' := 24) ?hd (xs := ([(⟨y136, y139⟩ : S31)] : List (S31))) (inner := [.slice Ao84 y136.length co84, .slice Ao83 y139.length co83]) (ok := (fun k_ => some k_ ≠ (.slice Ao55 y106.length co55 : Value).ownBlock ∧ some k_ ≠ (.slice Ao75 y126.length co75 : Value).ownBlock ∧ k_ ≠ gb114)) (okp := (fun k_ => some k_ ≠ (.slice Ao55 y106.length co55 : Value).ownBlock ∧ some k_ ≠ (.slice Ao75 y126.length co75 : Value).ownBlock ∧ k_ ≠ gb114)) ?hr ?hp (fun _ hk => hk) ((show ∀ k_, w81.heap.size ≤ k_ → (fun k_ => some k_ ≠ (.slice Ao55 y106.length co55 : Value).ownBlock ∧ some k_ ≠ (.slice Ao75 y126.length co75 : Value).ownBlock ∧ k_ ≠ gb114) k_ from fun k_ hk => ⟨Kd.fresh' (Kd.N_lt (by (with_reducible repeat (first | apply Kd.N_alloc | apply Kd.N_drewN | apply Kd.N_drew)); exact HO108.out)) k_ hk, Kd.fresh' (Kd.N_lt (by (with_reducible repeat (first | apply Kd.N_alloc | apply Kd.N_drewN | apply Kd.N_drew)); exact HO128.out)) k_ hk, Kd.freshB (g := gb114) (o := .cells #[.int .i64 t109, .string t110, .slice Ao59 t111.length co59] 36 (0, 0)) (pl_ BK114) k_ hk⟩) _ (Nat.le_refl _)) (Below.refl _ _) (Nat.le_refl _) (by simp) ?_; (case hd => rfl); (case hg => rfl); (case hr => first | (go_simp; done) | (go_simp; rfl)); (case hp => exact (Reps.c2 (show Kd.FK k31 _ _ (⟨y136, y139⟩ : S31) [.slice Ao84 y136.length co84, .slice Ao83 y139.length co83] from (k31_mkF _ _ (⟨y136, y139⟩ : S31) (Kd.N_reads' (Kd.N_mono (ok' := (fun k_ => some k_ ≠ (.slice Ao55 y106.length co55 : Value).ownBlock ∧ some k_ ≠ (.slice Ao75 y126.length co75 : Value).ownBlock ∧ k_ ≠ gb114)) (HO138.out) (fun k_ hk => ⟨hk.1.1, ⟨hk.1.2.1, hk.1.2.2⟩⟩))).2.1 (Kd.N_F (Kd.N_mono (ok' := (fun k_ => some k_ ≠ (.slice Ao55 y106.length co55 : Value).ownBlock ∧ some k_ ≠ (.slice Ao75 y126.length co75 : Value).ownBlock ∧ k_ ≠ gb114)) (HO138.out) (fun k_ hk => ⟨hk.1.1, ⟨hk.1.2.1, hk.1.2.2⟩⟩))) (Kd.R_reads' (Kd.R_mono (ok' := (fun k_ => some k_ ≠ (.slice Ao55 y106.length co55 : Value).ownBlock ∧ some k_ ≠ (.slice Ao75 y126.length co75 : Value).ownBlock ∧ k_ ≠ gb114)) (Kd.R_types (Kd.R_apart' (Kd.R_apart' (HO141.out) (Kd.N_typed HO108.out) (by decide)) (Kd.N_typed HO128.out) (by decide)) BK114.out (by decide)) (fun k_ hk => ⟨hk.1.1.2, ⟨hk.1.2, hk.2⟩⟩))).2.1 (Kd.R_F (Kd.R_mono (ok' := (fun k_ => some k_ ≠ (.slice Ao55 y106.length co55 : Value).ownBlock ∧ some k_ ≠ (.slice Ao75 y126.length co75 : Value).ownBlock ∧ k_ ≠ gb114)) (Kd.R_types (Kd.R_apart' (Kd.R_apart' (HO141.out) (Kd.N_typed HO108.out) (by decide)) (Kd.N_typed HO128.out) (by decide)) BK114.out (by decide)) (fun k_ hk => ⟨hk.1.1.2, ⟨hk.1.2, hk.2⟩⟩))))) (Reps.none _ _))); intro v143 w85 ho86 hb hg_ hnew_; clear hg_ hnew_; (first | rw [← Ny142.out] at ho86 | (simp only [Int.reduceToNat] at ho86; rw [← Ny142.out] at ho86)); have HO144 := Aside0.mk (Kd.N_lower ho86 (below_size (bl_ HB))); replace HO108 := Aside0.mk (Kd.N_elder' (by (with_reducible repeat (first | apply Kd.N_alloc | apply Kd.N_drewN | apply Kd.N_drew)); exact HO108.out) (Kd.N_base ho86) hb); replace HO113 := Aside0.mk (Kd.V_elder' (by (with_reducible repeat (first | apply Kd.V_alloc | apply Kd.V_drewN | apply Kd.V_drew)); exact HO113.out) (Kd.N_base ho86) hb); replace HO128 := Aside0.mk (Kd.N_elder' (by (with_reducible repeat (first | apply Kd.N_alloc | apply Kd.N_drewN | apply Kd.N_drew)); exact HO128.out) (Kd.N_base ho86) hb); replace BK114 := bb_ BK114 hb; replace HB := hs_ HB hb; clear HO138; clear HO141; clear hb ho86; obtain ⟨Ao87, co87, eo87⟩ := Kd.N_slice HO144.out; subst eo87) | ((with_reducible refine gate_callee (f := 20) rfl ?_); refine goesL_ (some 25) rfl rfl Try.func20 (by kernel_rfl) rfl #[.slice Ao87 y142.length co87, .int .i64 1] rfl (by (try simp only [List.map_toArray, List.map_cons, List.map_nil]); first | done | rfl | (simp only [List.length_drop, List.length_take]; rfl)) ?_; (with_reducible refine (recurse_Find.calls _ _ y142 1 t145 false _ ?side1 ?side2 A6.out).mono ?_); (case side1 => repeat (first | exact (Kd.N_reads' HO144.out).2.2 | (with_reducible refine Kd.C_alloc ?_ _) | (with_reducible refine Kd.C_drewN ?_ _) | (with_reducible refine Kd.C_drew ?_))); (case side2 => exact (Kd.N_reads' HO144.out).2.1); rintro e w88 ⟨rfl, hb⟩; refine ⟨_, rfl, ?_⟩; replace HO108 := Aside0.mk (Kd.N_below (by (with_reducible repeat (first | apply Kd.N_alloc | apply Kd.N_drewN | apply Kd.N_drew)); exact HO108.out) hb); replace HO113 := Aside0.mk (Kd.V_below (by (with_reducible repeat (first | apply Kd.V_alloc | apply Kd.V_drewN | apply Kd.V_drew)); exact HO113.out) hb); replace HO128 := Aside0.mk (Kd.N_below (by (with_reducible repeat (first | apply Kd.N_alloc | apply Kd.N_drewN | apply Kd.N_drew)); exact HO128.out) hb); replace HO144 := Aside0.mk (Kd.N_below (by (with_reducible repeat (first | apply Kd.N_alloc | apply Kd.N_drewN | apply Kd.N_drew)); exact HO144.out) hb); replace BK114 := bb_ BK114 hb; replace HB := hs_ HB hb; (try clear hb); (try clear hb2); (try clear hk); (try clear hi)))
    replace HO108 := Aside0.mk (Kd.N_drew HO108.out)
    replace HO113 := Aside0.mk (Kd.V_drew HO113.out)
    replace HO128 := Aside0.mk (Kd.N_drew HO128.out)
    replace HO144 := Aside0.mk (Kd.N_drew HO144.out)
    replace BK114 := Aside0.mk (blk_drew BK114.out)
    replace HB := Aside0.mk (below_drew1 HB.out)
    refine start_ (n := 17) (S := fun w' => w'.cell? ⟨gb114, 0, none⟩ = some (.int .i64 t109) ∧ w'.cell? ⟨gb114, 1, none⟩ = some (.string t110) ∧ w'.cell? ⟨gb114, 2, none⟩ = some (.slice Ao59 t111.length co59)) (ds := []) #[false, false, false, false, false, false, false, false, false, false, false, false, false, false, false, false, false] (by kernel_rfl) rfl rfl ⟨(blk_cell BK114.out 0).trans rfl, (blk_cell BK114.out 1).trans rfl, (blk_cell BK114.out 2).trans rfl⟩ (fun hHeld => ?_); refine with_tabW telamonlaw23_alive.tab4 telamonlaw23_alive.bits4 (fun HT_ HW_ => ?_)
    generalize w88.drew = w89 at HO108 HO113 HO128 HO144 BK114 HB hHeld ⊢
    refine pure_ (i := 0) (N := some 28) (v := ?_) (a' := ?_) #[true, false, false, false, false, false, false, false, false, false, false, false, false, false, false, false, false] rfl rfl (any_of HT_.out (by kernel_rfl)) (fun _ _ _ h => h) (Or.inl ⟨by rfl, ?_⟩) ?_ ?_
    rotate_left
    ·intro w'
     go_simp
     with_reducible rfl
    rotate_left
    ·simp only [Act.put, List.setIfInBounds_toArray, List.set_cons_zero, List.set_cons_succ, i64_w, i32_w]
     rfl
    refine pure_ (i := 1) (N := some 29) (v := ?_) (a' := ?_) #[true, true, false, false, false, false, false, false, false, false, false, false, false, false, false, false, false] rfl rfl (any_of HT_.out (by kernel_rfl)) (fun _ _ _ h => h) (Or.inl ⟨by rfl, ?_⟩) ?_ ?_
    rotate_left
    ·intro w'
     go_simp
     with_reducible rfl
    rotate_left
    ·simp only [Act.put, List.setIfInBounds_toArray, List.set_cons_zero, List.set_cons_succ, i64_w, i32_w]
     rfl
    refine pure_ (i := 2) (N := some 30) (v := ?_) (a' := ?_) #[true, true, true, false, false, false, false, false, false, false, false, false, false, false, false, false, false] rfl rfl (any_of HT_.out (by kernel_rfl)) (fun _ _ _ h => h) (Or.inl ⟨by rfl, ?_⟩) ?_ ?_
    rotate_left
    ·intro w'
     go_simp
     with_reducible rfl
    rotate_left
    ·simp only [Act.put, List.setIfInBounds_toArray, List.set_cons_zero, List.set_cons_succ, i64_w, i32_w]
     rfl
    refine pure_ (i := 3) (N := some 31) (v := ?_) (a' := ?_) #[true, true, true, true, false, false, false, false, false, false, false, false, false, false, false, false, false] rfl rfl (any_of HT_.out (by kernel_rfl)) (fun _ _ _ h => h) (Or.inl ⟨by rfl, ?_⟩) ?_ ?_
    rotate_left
    ·intro w'
     go_simp
     with_reducible rfl
    rotate_left
    ·simp only [Act.put, List.setIfInBounds_toArray, List.set_cons_zero, List.set_cons_succ, i64_w, i32_w]
     rfl
    refine pure_ (i := 4) (N := some 32) (v := ?_) (a' := ?_) #[true, true, true, true, true, false, false, false, false, false, false, false, false, false, false, false, false] rfl rfl (any_of HT_.out (by kernel_rfl)) (fun _ _ _ h => h) (Or.inl ⟨by rfl, ?_⟩) ?_ ?_
    rotate_left
    ·intro w'
     go_simp
     with_reducible rfl
    rotate_left
    ·simp only [Act.put, List.setIfInBounds_toArray, List.set_cons_zero, List.set_cons_succ, i64_w, i32_w]
     rfl
    refine pure_ (i := 5) (N := some 33) (v := ?_) (a' := ?_) #[true, true, true, true, true, true, false, false, false, false, false, false, false, false, false, false, false] rfl rfl (any_of HT_.out (by kernel_rfl)) (fun _ _ _ h => h) (Or.inl ⟨by rfl, ?_⟩) ?_ ?_
    rotate_left
    ·intro w'
     go_simp
     with_reducible rfl
    rotate_left
    ·simp only [Act.put, List.setIfInBounds_toArray, List.set_cons_zero, List.set_cons_succ, i64_w, i32_w]
     rfl
    refine pure_ (i := 6) (N := some 34) (v := ?_) (a' := ?_) #[true, true, true, true, true, true, true, false, false, false, false, false, false, false, false, false, false] rfl rfl (any_of HT_.out (by kernel_rfl)) (fun _ _ _ h => h) (Or.inl ⟨by rfl, ?_⟩) ?_ ?_
    rotate_left
    ·intro w'
     go_simp
     with_reducible rfl
    rotate_left
    ·simp only [Act.put, List.setIfInBounds_toArray, List.set_cons_zero, List.set_cons_succ, i64_w, i32_w]
     rfl
    refine pure_ (i := 7) (N := some 35) (v := ?_) (a' := ?_) #[true, true, true, true, true, true, true, true, false, false, false, false, false, false, false, false, false] rfl rfl (any_of HT_.out (by kernel_rfl)) (fun _ _ _ h => h) (Or.inl ⟨by rfl, ?_⟩) ?_ ?_
    rotate_left
    ·intro w'
     go_simp
     with_reducible rfl
    rotate_left
    ·simp only [Act.put, List.setIfInBounds_toArray, List.set_cons_zero, List.set_cons_succ, i64_w, i32_w]
     rfl
    refine pure_ (i := 8) (N := some 36) (v := ?_) (a' := ?_) #[true, true, true, true, true, true, true, true, true, false, false, false, false, false, false, false, false] rfl rfl (any_of HT_.out (by kernel_rfl)) (fun _ _ _ h => h) (Or.inl ⟨by rfl, ?_⟩) ?_ ?_
    rotate_left
    ·intro w'
     go_simp
     with_reducible rfl
    rotate_left
    ·simp only [Act.put, List.setIfInBounds_toArray, List.set_cons_zero, List.set_cons_succ, i64_w, i32_w]
     rfl
    refine pure_ (i := 9) (N := some 37) (v := ?_) (a' := ?_) #[true, true, true, true, true, true, true, true, true, true, false, false, false, false, false, false, false] rfl rfl (any_of HT_.out (by kernel_rfl)) (fun _ _ _ h => h) (Or.inl ⟨by rfl, ?_⟩) ?_ ?_
    rotate_left
    ·intro w'
     go_simp
     with_reducible rfl
    rotate_left
    ·simp only [Act.put, List.setIfInBounds_toArray, List.set_cons_zero, List.set_cons_succ, i64_w, i32_w]
     rfl
    refine take_ (i := 11) (N := some 39) (v := ?_) (a' := ?_) #[true, true, true, true, true, true, true, true, true, true, false, true, false, false, false, false, false] rfl rfl (take_ofW HT_.out HW_.out (by kernel_rfl)) (fun _ _ _ h => h) (Or.inl ⟨by rfl, ?_⟩) hHeld ?_ ?_
    rotate_left
    ·rintro w' ⟨s0, s1, s2⟩
     go_simp
     with_reducible rfl
    rotate_left
    ·simp only [Act.put, List.setIfInBounds_toArray, List.set_cons_zero, List.set_cons_succ, i64_w, i32_w]
     rfl
    refine one_ (i := 10) (N := some 38) #[true, true, true, true, true, true, true, true, true, true, true, true, false, false, false, false, false] rfl rfl (one_of HT_.out (by kernel_rfl)) (by decide) (fun K hK => ?_)
    refine goes_ Try.func26 (by kernel_rfl) rfl #[] (by rfl) rfl rfl (by (try simp only [List.map_toArray, List.map_cons, List.map_nil]); first | done | rfl | (simp only [List.length_drop, List.length_take]; rfl)) ?_
    with_reducible refine (telamonlaw21_V.calls  t147 t148 t149 _ A49.out).mono ?_
    rintro e w90 ⟨v150, rfl, ho0, hb⟩
    refine ⟨_, rfl, ?_⟩
    have HO151 := Aside0.mk (Kd.N_lower (Kd.N_mono (ok' := fun k_ => some k_ ≠ (.slice Ao55 y106.length co55 : Value).ownBlock ∧ some k_ ≠ (.slice Ao75 y126.length co75 : Value).ownBlock ∧ some k_ ≠ (.slice Ao87 y142.length co87 : Value).ownBlock ∧ k_ ≠ gb114) (Kd.R_N (Kd.R_bound ho0)) (fun k_ hk_ => ⟨(Kd.fresh' (Kd.N_lt (by (with_reducible repeat (first | apply Kd.N_alloc | apply Kd.N_drewN | apply Kd.N_drew)); exact HO108.out)) k_ hk_.2.1), (Kd.fresh' (Kd.N_lt (by (with_reducible repeat (first | apply Kd.N_alloc | apply Kd.N_drewN | apply Kd.N_drew)); exact HO128.out)) k_ hk_.2.1), (Kd.fresh' (Kd.N_lt (by (with_reducible repeat (first | apply Kd.N_alloc | apply Kd.N_drewN | apply Kd.N_drew)); exact HO144.out)) k_ hk_.2.1), (Kd.freshB (g := gb114) (o := .cells #[.int .i64 t109, .string t110, .slice Ao59 t111.length co59] 36 (0, 0)) (pl_ BK114) k_ hk_.2.1)⟩)) (below_size (bl_ HB)))
    replace HO108 := Aside0.mk (Kd.N_elder' (by (with_reducible repeat (first | apply Kd.N_alloc | apply Kd.N_drewN | apply Kd.N_drew)); exact HO108.out) (Kd.N_base (Kd.R_N (Kd.R_bound ho0))) hb)
    replace HO113 := Aside0.mk (Kd.V_elder' (by (with_reducible repeat (first | apply Kd.V_alloc | apply Kd.V_drewN | apply Kd.V_drew)); exact HO113.out) (Kd.N_base (Kd.R_N (Kd.R_bound ho0))) hb)
    replace HO128 := Aside0.mk (Kd.N_elder' (by (with_reducible repeat (first | apply Kd.N_alloc | apply Kd.N_drewN | apply Kd.N_drew)); exact HO128.out) (Kd.N_base (Kd.R_N (Kd.R_bound ho0))) hb)
    replace HO144 := Aside0.mk (Kd.N_elder' (by (with_reducible repeat (first | apply Kd.N_alloc | apply Kd.N_drewN | apply Kd.N_drew)); exact HO144.out) (Kd.N_base (Kd.R_N (Kd.R_bound ho0))) hb)
    replace BK114 := bb_ BK114 hb
    replace HB := hs_ HB hb
    (try clear hb); (try clear hb2); (try clear hk); (try clear hi); (try clear ho0)
    obtain ⟨Ao91, co91, eo91⟩ := Kd.N_slice HO151.out
    (first | subst eo91 | (injection eo91 with f1_ f2_ f3_; have f4_ := f1_.symm; have f5_ := f3_.symm; clear f1_ f2_ f3_; subst f4_; subst f5_))
    refine hK.out _ _ ⟨(blk_cell BK114.out 0).trans rfl, (blk_cell BK114.out 1).trans rfl, (blk_cell BK114.out 2).trans rfl⟩ (fun hHeld => ?_)
    clear hK K
    refine norm_ (a' := ?_) ?_ ?_
    rotate_left
    ·show Act.put _ (some 38) _ = _
     simp only [Act.put, List.setIfInBounds_toArray, List.set_cons_zero, List.set_cons_succ, i64_w, i32_w]
     rfl
    refine one_ (i := 12) (N := some 40) #[true, true, true, true, true, true, true, true, true, true, true, true, true, false, false, false, false] rfl rfl (one_of HT_.out (by kernel_rfl)) (by decide) (fun K hK => ?_)
    refine Kd.N_lit_step k36 _ 36 ?hg (N' := 40) ?hd (xs := ([(⟨t147, t148, t149⟩ : S36), (⟨t109, t110, t111⟩ : S36)] : List (S36))) (inner := [.int .i64 t147, .string t148, .slice Ao91 t149.length co91, .int .i64 t109, .string t110, .slice Ao59 t111.length co59]) (ok := (fun k_ => some k_ ≠ (.slice Ao75 y126.length co75 : Value).ownBlock ∧ some k_ ≠ (.slice Ao87 y142.length co87 : Value).ownBlock ∧ k_ ≠ gb114)) (okp := (fun k_ => some k_ ≠ (.slice Ao75 y126.length co75 : Value).ownBlock ∧ some k_ ≠ (.slice Ao87 y142.length co87 : Value).ownBlock ∧ k_ ≠ gb114)) ?hr ?hp (fun _ hk => hk) ((show ∀ k_, w90.heap.size ≤ k_ → (fun k_ => some k_ ≠ (.slice Ao75 y126.length co75 : Value).ownBlock ∧ some k_ ≠ (.slice Ao87 y142.length co87 : Value).ownBlock ∧ k_ ≠ gb114) k_ from fun k_ hk => ⟨Kd.fresh' (Kd.N_lt (by (with_reducible repeat (first | apply Kd.N_alloc | apply Kd.N_drewN | apply Kd.N_drew)); exact HO128.out)) k_ hk, Kd.fresh' (Kd.N_lt (by (with_reducible repeat (first | apply Kd.N_alloc | apply Kd.N_drewN | apply Kd.N_drew)); exact HO144.out)) k_ hk, Kd.freshB (g := gb114) (o := .cells #[.int .i64 t109, .string t110, .slice Ao59 t111.length co59] 36 (0, 0)) (pl_ BK114) k_ hk⟩) _ (Nat.le_refl _)) (Below.refl _ _) (Nat.le_refl _) (by simp) ?_; (case hd => rfl); (case hg => rfl); (case hr => first | (go_simp; done) | (go_simp; rfl)); (case hp => exact (Reps.c3 (show Kd.FK k36 _ _ (⟨t147, t148, t149⟩ : S36) [.int .i64 t147, .string t148, .slice Ao91 t149.length co91] from (k36_mkF _ _ (⟨t147, t148, t149⟩ : S36) (Kd.N_reads' (Kd.N_mono (ok' := (fun k_ => some k_ ≠ (.slice Ao75 y126.length co75 : Value).ownBlock ∧ some k_ ≠ (.slice Ao87 y142.length co87 : Value).ownBlock ∧ k_ ≠ gb114)) (HO151.out) (fun k_ hk => ⟨hk.2.1, ⟨hk.2.2.1, hk.2.2.2⟩⟩))).2.1 (Kd.N_F (Kd.N_mono (ok' := (fun k_ => some k_ ≠ (.slice Ao75 y126.length co75 : Value).ownBlock ∧ some k_ ≠ (.slice Ao87 y142.length co87 : Value).ownBlock ∧ k_ ≠ gb114)) (HO151.out) (fun k_ hk => ⟨hk.2.1, ⟨hk.2.2.1, hk.2.2.2⟩⟩))))) (Reps.c3 (show Kd.FK k36 _ _ (⟨t109, t110, t111⟩ : S36) [.int .i64 t109, .string t110, .slice Ao59 t111.length co59] from (k36_mkF _ _ (⟨t109, t110, t111⟩ : S36) (Kd.V_reads' (Kd.V_mono (ok' := (fun k_ => some k_ ≠ (.slice Ao75 y126.length co75 : Value).ownBlock ∧ some k_ ≠ (.slice Ao87 y142.length co87 : Value).ownBlock ∧ k_ ≠ gb114)) (HO113.out) (fun k_ hk => ⟨hk.1.1.1.1.1.2, ⟨hk.1.2, hk.1.1.1.1.1.1.2.2⟩⟩))).2.1 (Kd.V_F (Kd.V_mono (ok' := (fun k_ => some k_ ≠ (.slice Ao75 y126.length co75 : Value).ownBlock ∧ some k_ ≠ (.slice Ao87 y142.length co87 : Value).ownBlock ∧ k_ ≠ gb114)) (HO113.out) (fun k_ hk => ⟨hk.1.1.1.1.1.2, ⟨hk.1.2, hk.1.1.1.1.1.1.2.2⟩⟩))))) (Reps.none _ _))))
    intro v153 w92 ho93 hb hg_ hnew_
    clear hg_ hnew_
    (first | rw [← Ny152.out] at ho93 | (simp only [Int.reduceToNat] at ho93; rw [← Ny152.out] at ho93))
    have HO154 := Aside0.mk (Kd.N_lower ho93 (below_size (bl_ HB)))
    replace HO108 := Aside0.mk (Kd.N_elder' (by (with_reducible repeat (first | apply Kd.N_alloc | apply Kd.N_drewN | apply Kd.N_drew)); exact HO108.out) (Kd.N_base ho93) hb)
    replace HO113 := Aside0.mk (Kd.V_elder' (by (with_reducible repeat (first | apply Kd.V_alloc | apply Kd.V_drewN | apply Kd.V_drew)); exact HO113.out) (Kd.N_base ho93) hb)
    replace HO128 := Aside0.mk (Kd.N_elder' (by (with_reducible repeat (first | apply Kd.N_alloc | apply Kd.N_drewN | apply Kd.N_drew)); exact HO128.out) (Kd.N_base ho93) hb)
    replace HO144 := Aside0.mk (Kd.N_elder' (by (with_reducible repeat (first | apply Kd.N_alloc | apply Kd.N_drewN | apply Kd.N_drew)); exact HO144.out) (Kd.N_base ho93) hb)
    replace BK114 := bb_ BK114 hb
    replace HB := hs_ HB hb
    clear HO151 hb ho93
    obtain ⟨Ao94, co94, eo94⟩ := Kd.N_slice HO154.out
    (first | subst eo94 | (injection eo94 with f1_ f2_ f3_; have f4_ := f1_.symm; have f5_ := f3_.symm; clear f1_ f2_ f3_; subst f4_; subst f5_))
    refine hK.out _ _ ⟨(blk_cell BK114.out 0).trans rfl, (blk_cell BK114.out 1).trans rfl, (blk_cell BK114.out 2).trans rfl⟩ (fun hHeld => ?_)
    clear hK K
    refine norm_ (a' := ?_) ?_ ?_
    rotate_left
    ·show Act.put _ (some 40) _ = _
     simp only [Act.put, List.setIfInBounds_toArray, List.set_cons_zero, List.set_cons_succ, i64_w, i32_w]
     rfl
    refine one_ (i := 13) (N := some 41) #[true, true, true, true, true, true, true, true, true, true, true, true, true, true, false, false, false] rfl rfl (one_of HT_.out (by kernel_rfl)) (by decide) (fun K hK => ?_)
    refine goes_ Try.func22 (by kernel_rfl) rfl #[.slice Ao94 y152.length co94] (by rfl) rfl rfl (by (try simp only [List.map_toArray, List.map_cons, List.map_nil]); first | done | rfl | (simp only [List.length_drop, List.length_take]; rfl)) ?_
    with_reducible refine (recurse_Vars.calls _ _ y152 t155 _ ?side1 ?side2 A50.out).mono ?_
    (case side1 => repeat (first | exact (Kd.N_reads' HO154.out).2.2 | (with_reducible refine Kd.C_alloc ?_ _) | (with_reducible refine Kd.C_drewN ?_ _) | (with_reducible refine Kd.C_drew ?_)))
    (case side2 => exact (Kd.N_reads' HO154.out).2.1)
    rintro e w95 ⟨rfl, hb⟩
    refine ⟨_, rfl, ?_⟩
    replace HO108 := Aside0.mk (Kd.N_below (by (with_reducible repeat (first | apply Kd.N_alloc | apply Kd.N_drewN | apply Kd.N_drew)); exact HO108.out) hb)
    replace HO113 := Aside0.mk (Kd.V_below (by (with_reducible repeat (first | apply Kd.V_alloc | apply Kd.V_drewN | apply Kd.V_drew)); exact HO113.out) hb)
    replace HO128 := Aside0.mk (Kd.N_below (by (with_reducible repeat (first | apply Kd.N_alloc | apply Kd.N_drewN | apply Kd.N_drew)); exact HO128.out) hb)
    replace HO144 := Aside0.mk (Kd.N_below (by (with_reducible repeat (first | apply Kd.N_alloc | apply Kd.N_drewN | apply Kd.N_drew)); exact HO144.out) hb)
    replace HO154 := Aside0.mk (Kd.N_below (by (with_reducible repeat (first | apply Kd.N_alloc | apply Kd.N_drewN | apply Kd.N_drew)); exact HO154.out) hb)
    replace BK114 := bb_ BK114 hb
    replace HB := hs_ HB hb
    (try clear hb); (try clear hb2); (try clear hk); (try clear hi)
    refine hK.out _ _ ⟨(blk_cell BK114.out 0).trans rfl, (blk_cell BK114.out 1).trans rfl, (blk_cell BK114.out 2).trans rfl⟩ (fun hHeld => ?_)
    clear hK K
    refine norm_ (a' := ?_) ?_ ?_
    rotate_left
    ·show Act.put _ (some 41) _ = _
     simp only [Act.put, List.setIfInBounds_toArray, List.set_cons_zero, List.set_cons_succ, i64_w, i32_w]
     rfl
    refine pure_ (i := 14) (N := some 42) (v := ?_) (a' := ?_) #[true, true, true, true, true, true, true, true, true, true, true, true, true, true, true, false, false] rfl rfl (any_of HT_.out (by kernel_rfl)) (fun _ _ _ h => h) (Or.inl ⟨by rfl, ?_⟩) ?_ ?_
    rotate_left
    ·intro w'
     go_simp
     with_reducible rfl
    rotate_left
    ·simp only [Act.put, List.setIfInBounds_toArray, List.set_cons_zero, List.set_cons_succ, i64_w, i32_w]
     rfl
    refine pure_ (i := 15) (N := some 43) (v := ?_) (a' := ?_) #[true, true, true, true, true, true, true, true, true, true, true, true, true, true, true, true, false] rfl rfl (any_of HT_.out (by kernel_rfl)) (fun _ _ _ h => h) (Or.inl ⟨by rfl, ?_⟩) ?_ ?_
    rotate_left
    ·intro w'
     go_simp
     with_reducible rfl
    rotate_left
    ·simp only [Act.put, List.setIfInBounds_toArray, List.set_cons_zero, List.set_cons_succ, i64_w, i32_w]
     rfl
    refine pure_ (i := 16) (N := some 0) (v := ?_) (a' := ?_) #[true, true, true, true, true, true, true, true, true, true, true, true, true, true, true, true, true] rfl rfl (any_of HT_.out (by kernel_rfl)) (fun _ _ _ h => h) (Or.inl ⟨by rfl, ?_⟩) ?_ ?_
    rotate_left
    ·intro w'
     go_simp
     with_reducible rfl
    rotate_left
    ·simp only [Act.put, List.setIfInBounds_toArray, List.set_cons_zero, List.set_cons_succ, i64_w, i32_w]
     rfl
    refine done_ (done_of HT_.out (by kernel_rfl)) ?_
    try go_wp2
    go_ret
    exact ⟨by first | rfl | (simp [errW_none, errW_some] <;> rfl) | (simp [*, errW_none, errW_some] <;> rfl), by repeat (first | (with_reducible first | exact HB.out | apply below_alloc | apply pw_below_drewN | apply below_drew1 | refine below_set ?_ GE114.out) | exact HB.out)⟩
  ·rw [if_neg c8] at H
   have c8b0 : (t129 == 1) = false := beq_eq_false_iff_ne.mpr c8
   have c8b1 : (t129 != 1) = true := bne_iff_ne.mpr c8
   obtain rfl := Option.some.inj H
   go_enter Try.func18, Try.ntmps18
   try go_wp2_with (first | ((with_reducible refine gate_callee (f := 26) rfl ?_); refine goesL_ (some 6) rfl rfl Try.func26 (by kernel_rfl) rfl #[] rfl (by (try simp only [List.map_toArray, List.map_cons, List.map_nil]); first | done | rfl | (simp only [List.length_drop, List.length_take]; rfl)) ?_; (with_reducible refine (telamonlaw21_V.calls  t101 t102 t103 _ A1.out).mono ?_); rintro e w96 ⟨v104, rfl, ho0, hb⟩; refine ⟨_, rfl, ?_⟩; have HO105 := Aside0.mk (Kd.N_lower (Kd.N_mono (ok' := fun k_ => True) (Kd.R_N (Kd.R_bound ho0)) (fun k_ hk_ => trivial)) (below_size (bl_ HB))); replace HB := hs_ HB hb; (try clear hb); (try clear hb2); (try clear hk); (try clear hi); (try clear ho0); obtain ⟨Ao97, co97, eo97⟩ := Kd.N_slice HO105.out; subst eo97) | ((with_reducible refine gate_dst (N := 7) rfl ?_); (try (refine gate_guard (by rfl) ?_; dsimp only)); refine Kd.N_lit k36 _ 36 ?hg (N' := 7) ?hd (xs := ([(⟨t101, t102, t103⟩ : S36)] : List (S36))) (inner := [.int .i64 t101, .string t102, .slice Ao97 t103.length co97]) (ok := (fun _ => True)) (okp := (fun _ => True)) ?hr ?hp (fun _ hk => hk) ((show ∀ k_, w96.heap.size ≤ k_ → (fun _ => True) k_ from fun k_ hk => trivial) _ (Nat.le_refl _)) (Below.refl _ _) (Nat.le_refl _) (by simp) ?_; (case hd => rfl); (case hg => rfl); (case hr => first | (go_simp; done) | (go_simp; rfl)); (case hp => exact (Reps.c3 (show Kd.FK k36 _ _ (⟨t101, t102, t103⟩ : S36) [.int .i64 t101, .string t102, .slice Ao97 t103.length co97] from (k36_mkF _ _ (⟨t101, t102, t103⟩ : S36) (Kd.N_reads' (Kd.N_mono (ok' := (fun _ => True)) (HO105.out) (fun k_ hk => trivial))).2.1 (Kd.N_F (Kd.N_mono (ok' := (fun _ => True)) (HO105.out) (fun k_ hk => trivial))))) (Reps.none _ _))); intro v107 w98 ho99 hb hg_ hnew_; clear hg_ hnew_; (first | rw [← Ny106.out] at ho99 | (simp only [Int.reduceToNat] at ho99; rw [← Ny106.out] at ho99)); have HO108 := Aside0.mk (Kd.N_lower ho99 (below_size (bl_ HB))); replace HB := hs_ HB hb; clear HO105; clear hb ho99; obtain ⟨Ao100, co100, eo100⟩ := Kd.N_slice HO108.out; subst eo100) | ((with_reducible refine gate_callee (f := 27) rfl ?_); refine goesL_ (some 8) rfl rfl Try.func27 (by kernel_rfl) rfl #[.string (⟨#[115, 117, 99]⟩ : ByteArray), .slice Ao100 y106.length co100] rfl (by (try simp only [List.map_toArray, List.map_cons, List.map_nil]); first | done | rfl | (simp only [List.length_drop, List.length_take]; rfl)) ?_; (with_reducible refine (telamonlaw21_P.calls (⟨#[115, 117, 99]⟩ : ByteArray) (fun k_ => True) _ _ y106 t109 t110 t111 _ ?side1 A2.out).mono ?_); (case side1 => exact Kd.N_V (HO108.out)); rintro e w101 ⟨v112, rfl, ho0, hb⟩; refine ⟨_, rfl, ?_⟩; have HO113 := Aside0.mk (Kd.V_lower (Kd.V_mono (ok' := fun k_ => True) ho0 (fun k_ hk_ => trivial)) (below_size (bl_ HB))); replace HO108 := Aside0.mk (Kd.N_below (by (with_reducible repeat (first | apply Kd.N_alloc | apply Kd.N_drewN | apply Kd.N_drew)); exact HO108.out) hb); replace HB := hs_ HB hb; (try clear hb); (try clear hb2); (try clear hk); (try clear hi); (try clear ho0)) | ((with_reducible refine gate_dst (N := 1) rfl ?_); (try (refine gate_guard (by rfl) ?_; dsimp only)); refine box_event ?hg (N := 1) ?hd (cs := #[.int .i64 0, .string (⟨#[]⟩ : ByteArray), .slice none 0 0]) (t := 36) ?hr ?_; (case hd => rfl); (case hg => rfl); (case hr => first | (go_simp; done) | (go_simp; rfl)); intro gb114 hg w102 hbox hb; have BK114 := Aside0.mk (hbox); have GW114 := Aside0.mk ((bs_ hg HB : w.heap.size ≤ gb114)); have GE114 := Aside0.mk ((bs_ hg HB : w.heap.size ≤ gb114)); replace HO108 := Aside0.mk (Kd.N_below (Kd.N_elderB (by (with_reducible repeat (first | apply Kd.N_alloc | apply Kd.N_drewN | apply Kd.N_drew)); exact HO108.out) gb114 (Nat.le_of_eq hg.symm)) hb); replace HO113 := Aside0.mk (Kd.V_below (Kd.V_elderB (by (with_reducible repeat (first | apply Kd.V_alloc | apply Kd.V_drewN | apply Kd.V_drew)); exact HO113.out) gb114 (Nat.le_of_eq hg.symm)) hb); replace HB := hs_ HB hb; clear hb hbox hg; have hcz103_0 : w102.cell? ⟨gb114, 0, none⟩ = some (.int .i64 0) := (blk_cell BK114.out 0).trans rfl; have hcz103_1 : w102.cell? ⟨gb114, 1, none⟩ = some (.string (⟨#[]⟩ : ByteArray)) := (blk_cell BK114.out 1).trans rfl; have hcz103_2 : w102.cell? ⟨gb114, 2, none⟩ = some (.slice none 0 0) := (blk_cell BK114.out 2).trans rfl; have hfz103_0 := blk_frozen BK114.out 0; have hfz103_1 := blk_frozen BK114.out 1; have hfz103_2 := blk_frozen BK114.out 2; obtain ⟨Ao104, co104, eo104⟩ := Kd.V_slice HO113.out; subst eo104))
   have n0_ : Aside0 (Kd.N k36 36 (((w102.setCell ⟨gb114, 0, none⟩ (.int .i64 t109)).setCell ⟨gb114, 1, none⟩ (.string t110)).setCell ⟨gb114, 2, none⟩ (.slice Ao104 t111.length co104)) w.heap.size (fun k_ => k_ ≠ gb114) (.slice Ao100 y106.length co100) y106) := ⟨by (with_reducible repeat (first | apply Kd.N_alloc | apply Kd.N_drewN | apply Kd.N_drew)); exact Kd.N_mono (Kd.N_far (p := ⟨gb114, 2, none⟩) (Kd.N_far (p := ⟨gb114, 1, none⟩) (Kd.N_far (p := ⟨gb114, 0, none⟩) (Kd.N_mono HO108.out (fun k_ hk => (⟨hk, hk.2⟩ : _ ∧ k_ ≠ gb114))) (fun _ hk => hk.2) (.int .i64 t109)) (fun _ hk => hk.2) (.string t110)) (fun _ hk => hk.2) (.slice Ao104 t111.length co104)) (fun _ hk => hk.1.2)⟩
   have n1_ : Aside0 (Kd.V k36 36 (((w102.setCell ⟨gb114, 0, none⟩ (.int .i64 t109)).setCell ⟨gb114, 1, none⟩ (.string t110)).setCell ⟨gb114, 2, none⟩ (.slice Ao104 t111.length co104)) w.heap.size (fun k_ => k_ ≠ gb114) (.slice Ao104 t111.length co104) t111) := ⟨by (with_reducible repeat (first | apply Kd.V_alloc | apply Kd.V_drewN | apply Kd.V_drew)); exact Kd.V_mono (Kd.V_far (p := ⟨gb114, 2, none⟩) (Kd.V_far (p := ⟨gb114, 1, none⟩) (Kd.V_far (p := ⟨gb114, 0, none⟩) (Kd.V_mono HO113.out (fun k_ hk => (⟨hk, hk.2⟩ : _ ∧ k_ ≠ gb114))) (fun _ hk => hk.2) (.int .i64 t109)) (fun _ hk => hk.2) (.string t110)) (fun _ hk => hk.2) (.slice Ao104 t111.length co104)) (fun _ hk => hk.1.2)⟩
   have n2_ : Aside0 ((((w102.setCell ⟨gb114, 0, none⟩ (.int .i64 t109)).setCell ⟨gb114, 1, none⟩ (.string t110)).setCell ⟨gb114, 2, none⟩ (.slice Ao104 t111.length co104)).heap[gb114]? = some (.cells #[.int .i64 t109, .string t110, .slice Ao104 t111.length co104] 36 (0, 0))) := ⟨by (with_reducible repeat (first | refine blk_drewN ?_ _ | refine blk_drew ?_ | refine blk_alloc ?_ _)); refine blk_put (cs := #[.int .i64 t109, .string t110, .slice none 0 0]) ?_ 2 _ rfl; (with_reducible repeat (first | refine blk_drewN ?_ _ | refine blk_drew ?_ | refine blk_alloc ?_ _)); refine blk_put (cs := #[.int .i64 t109, .string (⟨#[]⟩ : ByteArray), .slice none 0 0]) ?_ 1 _ rfl; (with_reducible repeat (first | refine blk_drewN ?_ _ | refine blk_drew ?_ | refine blk_alloc ?_ _)); refine blk_put (cs := #[.int .i64 0, .string (⟨#[]⟩ : ByteArray), .slice none 0 0]) ?_ 0 _ rfl; (with_reducible repeat (first | refine blk_drewN ?_ _ | refine blk_drew ?_ | refine blk_alloc ?_ _)); exact BK114.out⟩
   have n3_ : Aside0 (Below w.heap.size w (((w102.setCell ⟨gb114, 0, none⟩ (.int .i64 t109)).setCell ⟨gb114, 1, none⟩ (.string t110)).setCell ⟨gb114, 2, none⟩ (.slice Ao104 t111.length co104))) := ⟨by repeat (first | (with_reducible first | exact HB.out | apply below_alloc | apply pw_below_drewN | apply below_drew1 | refine below_set ?_ GE114.out) | exact HB.out)⟩
   (try clear HO108); (try clear HO113); (try clear BK114); (try clear HB)
   generalize (((w102.setCell ⟨gb114, 0, none⟩ (.int .i64 t109)).setCell ⟨gb114, 1, none⟩ (.string t110)).setCell ⟨gb114, 2, none⟩ (.slice Ao104 t111.length co104)) = w105 at n0_ n1_ n2_ n3_ ⊢
   have HO108 := n0_
   have HO113 := n1_
   have BK114 := n2_
   have HB := n3_
   clear n0_ n1_ n2_ n3_
   replace HO108 := Aside0.mk (Kd.N_drew HO108.out)
   replace HO113 := Aside0.mk (Kd.V_drew HO113.out)
   replace BK114 := Aside0.mk (blk_drew BK114.out)
   replace HB := Aside0.mk (below_drew1 HB.out)
   refine start_ (n := 12) (S := fun w' => w'.cell? ⟨gb114, 0, none⟩ = some (.int .i64 t109) ∧ w'.cell? ⟨gb114, 1, none⟩ = some (.string t110) ∧ w'.cell? ⟨gb114, 2, none⟩ = some (.slice Ao104 t111.length co104)) (ds := []) #[false, false, false, false, false, false, false, false, false, false, false, false] (by kernel_rfl) rfl rfl ⟨(blk_cell BK114.out 0).trans rfl, (blk_cell BK114.out 1).trans rfl, (blk_cell BK114.out 2).trans rfl⟩ (fun hHeld => ?_); refine with_tabW telamonlaw23_alive.tab2 telamonlaw23_alive.bits2 (fun HT_ HW_ => ?_)
   generalize w105.drew = w106 at HO108 HO113 BK114 HB HO108 HO113 hHeld ⊢
   refine take_ (i := 1) (N := some 11) (v := ?_) (a' := ?_) #[false, true, false, false, false, false, false, false, false, false, false, false] rfl rfl (take_ofW HT_.out HW_.out (by kernel_rfl)) (fun _ _ _ h => h) (Or.inl ⟨by rfl, ?_⟩) hHeld ?_ ?_
   rotate_left
   ·rintro w' ⟨s0, s1, s2⟩
    go_simp
    with_reducible rfl
   rotate_left
   ·simp only [Act.put, List.setIfInBounds_toArray, List.set_cons_zero, List.set_cons_succ, i64_w, i32_w]
    rfl
   refine join_ (σ := Value × Value × Value) 8 #[true, true, true, true, false, false, false, false, false, false, false, false] (fun s_ => [(10, .agg #[.int .i64 t115, .string t116, s_.1]), (12, s_.2.1), (13, s_.2.2)]) (fun s_ w' => (w'.cell? ⟨gb114, 0, none⟩ = some (.int .i64 t109) ∧ w'.cell? ⟨gb114, 1, none⟩ = some (.string t110) ∧ w'.cell? ⟨gb114, 2, none⟩ = some (.slice Ao104 t111.length co104)) ∧ (Kd.N k36 36 w' w.heap.size (fun k_ => some k_ ≠ (s_.2.1 : Value).ownBlock ∧ some k_ ≠ (s_.2.2 : Value).ownBlock ∧ k_ ≠ gb114) (.slice Ao100 y106.length co100) y106) ∧ (Kd.V k36 36 w' w.heap.size (fun k_ => some k_ ≠ (s_.2.1 : Value).ownBlock ∧ some k_ ≠ (s_.2.2 : Value).ownBlock ∧ k_ ≠ gb114) (.slice Ao104 t111.length co104) t111) ∧ (Kd.N k36 36 w' w.heap.size (fun k_ => some k_ ≠ (s_.2.2 : Value).ownBlock ∧ k_ ≠ gb114) s_.2.1 y120) ∧ (Kd.R (Kd.int .i64) 3 w' w.heap.size (fun _ => True) s_.2.2 y123) ∧ (w'.heap[gb114]? = some (.cells #[.int .i64 t109, .string t110, .slice Ao104 t111.length co104] 36 (0, 0))) ∧ (Below w.heap.size w w')) ?_ ?_
   rotate_left
   ·intro hCont
    refine two_ (i := 0) (j := 3) (Ni := some 10) (Nj := some 13) #[true, true, false, false, false, false, false, false, false, false, false, false] #[false, true, false, true, false, false, false, false, false, false, false, false] rfl rfl rfl rfl (two_of HT_.out (by kernel_rfl)) (by decide) (by decide) (fun K hK => ?_) (fun K hK => ?_)
    ·skip
     refine goes_ Try.func26 (by kernel_rfl) rfl #[] (by rfl) rfl rfl (by (try simp only [List.map_toArray, List.map_cons, List.map_nil]); first | done | rfl | (simp only [List.length_drop, List.length_take]; rfl)) ?_
     with_reducible refine (telamonlaw21_V.calls  t115 t116 t117 _ A3.out).mono ?_
     rintro e w107 ⟨v118, rfl, ho0, hb⟩
     refine ⟨_, rfl, ?_⟩
     have HO119 := Aside0.mk (Kd.N_lower (Kd.N_mono (ok' := fun k_ => some k_ ≠ (.slice Ao100 y106.length co100 : Value).ownBlock ∧ k_ ≠ gb114) (Kd.R_N (Kd.R_bound ho0)) (fun k_ hk_ => ⟨(Kd.fresh' (Kd.N_lt (by (with_reducible repeat (first | apply Kd.N_alloc | apply Kd.N_drewN | apply Kd.N_drew)); exact HO108.out)) k_ hk_.2.1), (Kd.freshB (g := gb114) (o := .cells #[.int .i64 t109, .string t110, .slice Ao104 t111.length co104] 36 (0, 0)) (pl_ BK114) k_ hk_.2.1)⟩)) (below_size (bl_ HB)))
     replace HO108 := Aside0.mk (Kd.N_elder' (by (with_reducible repeat (first | apply Kd.N_alloc | apply Kd.N_drewN | apply Kd.N_drew)); exact HO108.out) (Kd.N_base (Kd.R_N (Kd.R_bound ho0))) hb)
     replace HO113 := Aside0.mk (Kd.V_elder' (by (with_reducible repeat (first | apply Kd.V_alloc | apply Kd.V_drewN | apply Kd.V_drew)); exact HO113.out) (Kd.N_base (Kd.R_N (Kd.R_bound ho0))) hb)
     replace BK114 := bb_ BK114 hb
     replace HB := hs_ HB hb
     (try clear hb); (try clear hb2); (try clear hk); (try clear hi); (try clear ho0)
     obtain ⟨Ao108, co108, eo108⟩ := Kd.N_slice HO119.out
     (first | subst eo108 | (injection eo108 with f1_ f2_ f3_; have f4_ := f1_.symm; have f5_ := f3_.symm; clear f1_ f2_ f3_; subst f4_; subst f5_))
     refine hK.out _ _ ⟨(blk_cell BK114.out 0).trans rfl, (blk_cell BK114.out 1).trans rfl, (blk_cell BK114.out 2).trans rfl⟩ (fun hHeld => ?_)
     clear hK K
     refine norm_ (a' := ?_) ?_ ?_
     rotate_left
     ·show Act.put _ (some 10) _ = _
      simp only [Act.put, List.setIfInBounds_toArray, List.set_cons_zero, List.set_cons_succ, i64_w, i32_w]
      rfl
     refine two_ (i := 2) (j := 3) (Ni := some 12) (Nj := some 13) #[true, true, true, false, false, false, false, false, false, false, false, false] #[true, true, false, true, false, false, false, false, false, false, false, false] rfl rfl rfl rfl (two_of HT_.out (by kernel_rfl)) (by decide) (by decide) (fun K hK => ?_) (fun K hK => ?_)
     ·skip
      refine Kd.N_lit_step k36 _ 36 ?hg (N' := 12) ?hd (xs := ([(⟨t115, t116, t117⟩ : S36), (⟨t109, t110, t111⟩ : S36)] : List (S36))) (inner := [.int .i64 t115, .string t116, .slice Ao108 t117.length co108, .int .i64 t109, .string t110, .slice Ao104 t111.length co104]) (ok := (fun k_ => k_ ≠ gb114)) (okp := (fun k_ => k_ ≠ gb114)) ?hr ?hp (fun _ hk => hk) ((show ∀ k_, w107.heap.size ≤ k_ → (fun k_ => k_ ≠ gb114) k_ from fun k_ hk => Kd.freshB (g := gb114) (o := .cells #[.int .i64 t109, .string t110, .slice Ao104 t111.length co104] 36 (0, 0)) (pl_ BK114) k_ hk) _ (Nat.le_refl _)) (Below.refl _ _) (Nat.le_refl _) (by simp) ?_; (case hd => rfl); (case hg => rfl); (case hr => first | (go_simp; done) | (go_simp; rfl)); (case hp => exact (Reps.c3 (show Kd.FK k36 _ _ (⟨t115, t116, t117⟩ : S36) [.int .i64 t115, .string t116, .slice Ao108 t117.length co108] from (k36_mkF _ _ (⟨t115, t116, t117⟩ : S36) (Kd.N_reads' (Kd.N_mono (ok' := (fun k_ => k_ ≠ gb114)) (HO119.out) (fun k_ hk => hk.2))).2.1 (Kd.N_F (Kd.N_mono (ok' := (fun k_ => k_ ≠ gb114)) (HO119.out) (fun k_ hk => hk.2))))) (Reps.c3 (show Kd.FK k36 _ _ (⟨t109, t110, t111⟩ : S36) [.int .i64 t109, .string t110, .slice Ao104 t111.length co104] from (k36_mkF _ _ (⟨t109, t110, t111⟩ : S36) (Kd.V_reads' (Kd.V_mono (ok' := (fun k_ => k_ ≠ gb114)) (HO113.out) (fun k_ hk => hk.1))).2.1 (Kd.V_F (Kd.V_mono (ok' := (fun k_ => k_ ≠ gb114)) (HO113.out) (fun k_ hk => hk.1))))) (Reps.none _ _))))
      intro v121 w109 ho110 hb hg_ hnew_
      clear hg_ hnew_
      (first | rw [← Ny120.out] at ho110 | (simp only [Int.reduceToNat] at ho110; rw [← Ny120.out] at ho110))
      have HO122 := Aside0.mk (Kd.N_lower ho110 (below_size (bl_ HB)))
      replace HO108 := Aside0.mk (Kd.N_elder' (by (with_reducible repeat (first | apply Kd.N_alloc | apply Kd.N_drewN | apply Kd.N_drew)); exact HO108.out) (Kd.N_base ho110) hb)
      replace HO113 := Aside0.mk (Kd.V_elder' (by (with_reducible repeat (first | apply Kd.V_alloc | apply Kd.V_drewN | apply Kd.V_drew)); exact HO113.out) (Kd.N_base ho110) hb)
      replace BK114 := bb_ BK114 hb
      replace HB := hs_ HB hb
      clear HO119 hb ho110
      refine hK.out _ _ ⟨(blk_cell BK114.out 0).trans rfl, (blk_cell BK114.out 1).trans rfl, (blk_cell BK114.out 2).trans rfl⟩ (fun hHeld => ?_)
      clear hK K
      refine norm_ (a' := ?_) ?_ ?_
      rotate_left
      ·show Act.put _ (some 12) _ = _
       simp only [Act.put, List.setIfInBounds_toArray, List.set_cons_zero, List.set_cons_succ, i64_w, i32_w]
       rfl
      refine one_ (i := 3) (N := some 13) #[true, true, true, true, false, false, false, false, false, false, false, false] rfl rfl (one_of HT_.out (by kernel_rfl)) (by decide) (fun K hK => ?_)
      refine Kd.R_lit_step (Kd.int .i64) _ 3 ?hg (N := 13) ?hd (xs := ([0, 1] : List Int)) (inner := [.int .i64 0, .int .i64 1]) (ok := fun _ => True) (okp := fun _ => True) ?hr ?hp (fun _ hk => hk) trivial (Below.refl _ _) (Nat.le_refl _) (by simp) ?_; (case hd => rfl); (case hg => rfl); (case hr => first | (go_simp; done) | (go_simp; rfl)); (case hp => exact (Reps.one (show Kd.M (Kd.int .i64) _ _ _ 0 [.int .i64 0] from rfl) (Reps.one (show Kd.M (Kd.int .i64) _ _ _ 1 [.int .i64 1] from rfl) (Reps.none _ _))))
      intro v124 w111 ho112 hb hg_ hnew_
      clear hg_ hnew_
      (first | rw [← Ny123.out] at ho112 | (simp only [Int.reduceToNat] at ho112; rw [← Ny123.out] at ho112))
      have HO125 := Aside0.mk (Kd.R_lower ho112 (below_size (bl_ HB)))
      replace HO108 := Aside0.mk (Kd.N_elder' (by (with_reducible repeat (first | apply Kd.N_alloc | apply Kd.N_drewN | apply Kd.N_drew)); exact HO108.out) (Kd.R_base ho112) hb)
      replace HO113 := Aside0.mk (Kd.V_elder' (by (with_reducible repeat (first | apply Kd.V_alloc | apply Kd.V_drewN | apply Kd.V_drew)); exact HO113.out) (Kd.R_base ho112) hb)
      replace HO122 := Aside0.mk (Kd.N_elder' (by (with_reducible repeat (first | apply Kd.N_alloc | apply Kd.N_drewN | apply Kd.N_drew)); exact HO122.out) (Kd.R_base ho112) hb)
      replace BK114 := bb_ BK114 hb
      replace HB := hs_ HB hb
      clear hb ho112
      obtain ⟨Ao113, co113, eo113⟩ := Kd.R_slice HO125.out
      (first | subst eo113 | (injection eo113 with f1_ f2_ f3_; have f4_ := f1_.symm; have f5_ := f3_.symm; clear f1_ f2_ f3_; subst f4_; subst f5_))
      obtain ⟨Ao114, co114, eo114⟩ := Kd.N_slice HO122.out
      (first | subst eo114 | (injection eo114 with f1_ f2_ f3_; have f4_ := f1_.symm; have f5_ := f3_.symm; clear f1_ f2_ f3_; subst f4_; subst f5_))
      refine hK.out _ _ ⟨(blk_cell BK114.out 0).trans rfl, (blk_cell BK114.out 1).trans rfl, (blk_cell BK114.out 2).trans rfl⟩ (fun hHeld => ?_)
      clear hK K
      refine norm_ (a' := ?_) ?_ ?_
      rotate_left
      ·show Act.put _ (some 13) _ = _
       simp only [Act.put, List.setIfInBounds_toArray, List.set_cons_zero, List.set_cons_succ, i64_w, i32_w]
       rfl
      exact norm_ (by simp only [putAll, Act.put, List.setIfInBounds_toArray, List.set_cons_zero, List.set_cons_succ]) (hCont (.slice Ao108 t117.length co108, .slice Ao114 y120.length co114, .slice Ao113 y123.length co113) _ ⟨hHeld, (by (with_reducible repeat (first | apply Kd.N_alloc | apply Kd.N_drewN | apply Kd.N_drew)); exact Kd.N_mono HO108.out (fun _ hk => ⟨hk.1.2, ⟨hk.2, hk.1.1.1⟩⟩)), (by (with_reducible repeat (first | apply Kd.V_alloc | apply Kd.V_drewN | apply Kd.V_drew)); exact Kd.V_mono HO113.out (fun _ hk => ⟨hk.1.2, ⟨hk.2, hk.1.1.1⟩⟩)), (by (with_reducible repeat (first | apply Kd.N_alloc | apply Kd.N_drewN | apply Kd.N_drew)); exact Kd.N_mono HO122.out (fun _ hk => ⟨hk.2, hk.1⟩)), (rl_ HO125), (pl_ BK114), (bl_ HB)⟩)
     ·skip
      refine Kd.R_lit_step (Kd.int .i64) _ 3 ?hg (N := 13) ?hd (xs := ([0, 1] : List Int)) (inner := [.int .i64 0, .int .i64 1]) (ok := fun _ => True) (okp := fun _ => True) ?hr ?hp (fun _ hk => hk) trivial (Below.refl _ _) (Nat.le_refl _) (by simp) ?_; (case hd => rfl); (case hg => rfl); (case hr => first | (go_simp; done) | (go_simp; rfl)); (case hp => exact (Reps.one (show Kd.M (Kd.int .i64) _ _ _ 0 [.int .i64 0] from rfl) (Reps.one (show Kd.M (Kd.int .i64) _ _ _ 1 [.int .i64 1] from rfl) (Reps.none _ _))))
      intro v124 w108 ho109 hb hg_ hnew_
      clear hg_ hnew_
      (first | rw [← Ny123.out] at ho109 | (simp only [Int.reduceToNat] at ho109; rw [← Ny123.out] at ho109))
      have HO125 := Aside0.mk (Kd.R_lower ho109 (below_size (bl_ HB)))
      replace HO108 := Aside0.mk (Kd.N_elder' (by (with_reducible repeat (first | apply Kd.N_alloc | apply Kd.N_drewN | apply Kd.N_drew)); exact HO108.out) (Kd.R_base ho109) hb)
      replace HO113 := Aside0.mk (Kd.V_elder' (by (with_reducible repeat (first | apply Kd.V_alloc | apply Kd.V_drewN | apply Kd.V_drew)); exact HO113.out) (Kd.R_base ho109) hb)
      replace HO119 := Aside0.mk (Kd.N_elder' (by (with_reducible repeat (first | apply Kd.N_alloc | apply Kd.N_drewN | apply Kd.N_drew)); exact HO119.out) (Kd.R_base ho109) hb)
      replace BK114 := bb_ BK114 hb
      replace HB := hs_ HB hb
      clear hb ho109
      obtain ⟨Ao110, co110, eo110⟩ := Kd.N_slice HO119.out
      (first | subst eo110 | (injection eo110 with f1_ f2_ f3_; have f4_ := f1_.symm; have f5_ := f3_.symm; clear f1_ f2_ f3_; subst f4_; subst f5_))
      refine hK.out _ _ ⟨(blk_cell BK114.out 0).trans rfl, (blk_cell BK114.out 1).trans rfl, (blk_cell BK114.out 2).trans rfl⟩ (fun hHeld => ?_)
      clear hK K
      refine norm_ (a' := ?_) ?_ ?_
      rotate_left
      ·show Act.put _ (some 13) _ = _
       simp only [Act.put, List.setIfInBounds_toArray, List.set_cons_zero, List.set_cons_succ, i64_w, i32_w]
       rfl
      refine one_ (i := 2) (N := some 12) #[true, true, true, true, false, false, false, false, false, false, false, false] rfl rfl (one_of HT_.out (by kernel_rfl)) (by decide) (fun K hK => ?_)
      refine Kd.N_lit_step k36 _ 36 ?hg (N' := 12) ?hd (xs := ([(⟨t115, t116, t117⟩ : S36), (⟨t109, t110, t111⟩ : S36)] : List (S36))) (inner := [.int .i64 t115, .string t116, .slice Ao110 t117.length co110, .int .i64 t109, .string t110, .slice Ao104 t111.length co104]) (ok := (fun k_ => some k_ ≠ (v124 : Value).ownBlock ∧ k_ ≠ gb114)) (okp := (fun k_ => some k_ ≠ (v124 : Value).ownBlock ∧ k_ ≠ gb114)) ?hr ?hp (fun _ hk => hk) ((show ∀ k_, w108.heap.size ≤ k_ → (fun k_ => some k_ ≠ (v124 : Value).ownBlock ∧ k_ ≠ gb114) k_ from fun k_ hk => ⟨Kd.fresh' (Kd.R_lt (rl_ HO125)) k_ hk, Kd.freshB (g := gb114) (o := .cells #[.int .i64 t109, .string t110, .slice Ao104 t111.length co104] 36 (0, 0)) (pl_ BK114) k_ hk⟩) _ (Nat.le_refl _)) (Below.refl _ _) (Nat.le_refl _) (by simp) ?_; (case hd => rfl); (case hg => rfl); (case hr => first | (go_simp; done) | (go_simp; rfl)); (case hp => exact (Reps.c3 (show Kd.FK k36 _ _ (⟨t115, t116, t117⟩ : S36) [.int .i64 t115, .string t116, .slice Ao110 t117.length co110] from (k36_mkF _ _ (⟨t115, t116, t117⟩ : S36) (Kd.N_reads' (Kd.N_mono (ok' := (fun k_ => some k_ ≠ (v124 : Value).ownBlock ∧ k_ ≠ gb114)) (HO119.out) (fun k_ hk => ⟨hk.2, hk.1.2⟩))).2.1 (Kd.N_F (Kd.N_mono (ok' := (fun k_ => some k_ ≠ (v124 : Value).ownBlock ∧ k_ ≠ gb114)) (HO119.out) (fun k_ hk => ⟨hk.2, hk.1.2⟩))))) (Reps.c3 (show Kd.FK k36 _ _ (⟨t109, t110, t111⟩ : S36) [.int .i64 t109, .string t110, .slice Ao104 t111.length co104] from (k36_mkF _ _ (⟨t109, t110, t111⟩ : S36) (Kd.V_reads' (Kd.V_mono (ok' := (fun k_ => some k_ ≠ (v124 : Value).ownBlock ∧ k_ ≠ gb114)) (HO113.out) (fun k_ hk => ⟨hk.2, hk.1.1⟩))).2.1 (Kd.V_F (Kd.V_mono (ok' := (fun k_ => some k_ ≠ (v124 : Value).ownBlock ∧ k_ ≠ gb114)) (HO113.out) (fun k_ hk => ⟨hk.2, hk.1.1⟩))))) (Reps.none _ _))))
      intro v121 w111 ho112 hb hg_ hnew_
      clear hg_ hnew_
      (first | rw [← Ny120.out] at ho112 | (simp only [Int.reduceToNat] at ho112; rw [← Ny120.out] at ho112))
      have HO122 := Aside0.mk (Kd.N_lower ho112 (below_size (bl_ HB)))
      replace HO108 := Aside0.mk (Kd.N_elder' (by (with_reducible repeat (first | apply Kd.N_alloc | apply Kd.N_drewN | apply Kd.N_drew)); exact HO108.out) (Kd.N_base ho112) hb)
      replace HO113 := Aside0.mk (Kd.V_elder' (by (with_reducible repeat (first | apply Kd.V_alloc | apply Kd.V_drewN | apply Kd.V_drew)); exact HO113.out) (Kd.N_base ho112) hb)
      replace HO125 := Aside0.mk (Kd.R_below (rl_ HO125) hb)
      replace BK114 := bb_ BK114 hb
      replace HB := hs_ HB hb
      clear HO119 hb ho112
      obtain ⟨Ao113, co113, eo113⟩ := Kd.R_slice HO125.out
      (first | subst eo113 | (injection eo113 with f1_ f2_ f3_; have f4_ := f1_.symm; have f5_ := f3_.symm; clear f1_ f2_ f3_; subst f4_; subst f5_))
      obtain ⟨Ao114, co114, eo114⟩ := Kd.N_slice HO122.out
      (first | subst eo114 | (injection eo114 with f1_ f2_ f3_; have f4_ := f1_.symm; have f5_ := f3_.symm; clear f1_ f2_ f3_; subst f4_; subst f5_))
      refine hK.out _ _ ⟨(blk_cell BK114.out 0).trans rfl, (blk_cell BK114.out 1).trans rfl, (blk_cell BK114.out 2).trans rfl⟩ (fun hHeld => ?_)
      clear hK K
      refine norm_ (a' := ?_) ?_ ?_
      rotate_left
      ·show Act.put _ (some 12) _ = _
       simp only [Act.put, List.setIfInBounds_toArray, List.set_cons_zero, List.set_cons_succ, i64_w, i32_w]
       rfl
      exact norm_ (by simp only [putAll, Act.put, List.setIfInBounds_toArray, List.set_cons_zero, List.set_cons_succ]) (hCont (.slice Ao110 t117.length co110, .slice Ao114 y120.length co114, .slice Ao113 y123.length co113) _ ⟨hHeld, (by (with_reducible repeat (first | apply Kd.N_alloc | apply Kd.N_drewN | apply Kd.N_drew)); exact Kd.N_mono HO108.out (fun _ hk => ⟨hk.2, ⟨hk.1.2, hk.1.1.1⟩⟩)), (by (with_reducible repeat (first | apply Kd.V_alloc | apply Kd.V_drewN | apply Kd.V_drew)); exact Kd.V_mono HO113.out (fun _ hk => ⟨hk.2, ⟨hk.1.2, hk.1.1.1⟩⟩)), (by (with_reducible repeat (first | apply Kd.N_alloc | apply Kd.N_drewN | apply Kd.N_drew)); exact HO122.out), (rl_ HO125), (pl_ BK114), (bl_ HB)⟩)
    ·skip
     refine Kd.R_lit_step (Kd.int .i64) _ 3 ?hg (N := 13) ?hd (xs := ([0, 1] : List Int)) (inner := [.int .i64 0, .int .i64 1]) (ok := fun _ => True) (okp := fun _ => True) ?hr ?hp (fun _ hk => hk) trivial (Below.refl _ _) (Nat.le_refl _) (by simp) ?_; (case hd => rfl); (case hg => rfl); (case hr => first | (go_simp; done) | (go_simp; rfl)); (case hp => exact (Reps.one (show Kd.M (Kd.int .i64) _ _ _ 0 [.int .i64 0] from rfl) (Reps.one (show Kd.M (Kd.int .i64) _ _ _ 1 [.int .i64 1] from rfl) (Reps.none _ _))))
     intro v124 w107 ho108 hb hg_ hnew_
     clear hg_ hnew_
     (first | rw [← Ny123.out] at ho108 | (simp only [Int.reduceToNat] at ho108; rw [← Ny123.out] at ho108))
     have HO125 := Aside0.mk (Kd.R_lower ho108 (below_size (bl_ HB)))
     replace HO108 := Aside0.mk (Kd.N_elder' (by (with_reducible repeat (first | apply Kd.N_alloc | apply Kd.N_drewN | apply Kd.N_drew)); exact HO108.out) (Kd.R_base ho108) hb)
     replace HO113 := Aside0.mk (Kd.V_elder' (by (with_reducible repeat (first | apply Kd.V_alloc | apply Kd.V_drewN | apply Kd.V_drew)); exact HO113.out) (Kd.R_base ho108) hb)
     replace BK114 := bb_ BK114 hb
     replace HB := hs_ HB hb
     clear hb ho108
     refine hK.out _ _ ⟨(blk_cell BK114.out 0).trans rfl, (blk_cell BK114.out 1).trans rfl, (blk_cell BK114.out 2).trans rfl⟩ (fun hHeld => ?_)
     clear hK K
     refine norm_ (a' := ?_) ?_ ?_
     rotate_left
     ·show Act.put _ (some 13) _ = _
      simp only [Act.put, List.setIfInBounds_toArray, List.set_cons_zero, List.set_cons_succ, i64_w, i32_w]
      rfl
     refine one_ (i := 0) (N := some 10) #[true, true, false, true, false, false, false, false, false, false, false, false] rfl rfl (one_of HT_.out (by kernel_rfl)) (by decide) (fun K hK => ?_)
     refine goes_ Try.func26 (by kernel_rfl) rfl #[] (by rfl) rfl rfl (by (try simp only [List.map_toArray, List.map_cons, List.map_nil]); first | done | rfl | (simp only [List.length_drop, List.length_take]; rfl)) ?_
     with_reducible refine (telamonlaw21_V.calls  t115 t116 t117 _ A3.out).mono ?_
     rintro e w109 ⟨v118, rfl, ho0, hb⟩
     refine ⟨_, rfl, ?_⟩
     have HO119 := Aside0.mk (Kd.N_lower (Kd.N_mono (ok' := fun k_ => some k_ ≠ (.slice Ao100 y106.length co100 : Value).ownBlock ∧ some k_ ≠ (v124 : Value).ownBlock ∧ k_ ≠ gb114) (Kd.R_N (Kd.R_bound ho0)) (fun k_ hk_ => ⟨(Kd.fresh' (Kd.N_lt (by (with_reducible repeat (first | apply Kd.N_alloc | apply Kd.N_drewN | apply Kd.N_drew)); exact HO108.out)) k_ hk_.2.1), (Kd.fresh' (Kd.R_lt (rl_ HO125)) k_ hk_.2.1), (Kd.freshB (g := gb114) (o := .cells #[.int .i64 t109, .string t110, .slice Ao104 t111.length co104] 36 (0, 0)) (pl_ BK114) k_ hk_.2.1)⟩)) (below_size (bl_ HB)))
     replace HO108 := Aside0.mk (Kd.N_elder' (by (with_reducible repeat (first | apply Kd.N_alloc | apply Kd.N_drewN | apply Kd.N_drew)); exact HO108.out) (Kd.N_base (Kd.R_N (Kd.R_bound ho0))) hb)
     replace HO113 := Aside0.mk (Kd.V_elder' (by (with_reducible repeat (first | apply Kd.V_alloc | apply Kd.V_drewN | apply Kd.V_drew)); exact HO113.out) (Kd.N_base (Kd.R_N (Kd.R_bound ho0))) hb)
     replace HO125 := Aside0.mk (Kd.R_below (rl_ HO125) hb)
     replace BK114 := bb_ BK114 hb
     replace HB := hs_ HB hb
     (try clear hb); (try clear hb2); (try clear hk); (try clear hi); (try clear ho0)
     obtain ⟨Ao110, co110, eo110⟩ := Kd.N_slice HO119.out
     (first | subst eo110 | (injection eo110 with f1_ f2_ f3_; have f4_ := f1_.symm; have f5_ := f3_.symm; clear f1_ f2_ f3_; subst f4_; subst f5_))
     refine hK.out _ _ ⟨(blk_cell BK114.out 0).trans rfl, (blk_cell BK114.out 1).trans rfl, (blk_cell BK114.out 2).trans rfl⟩ (fun hHeld => ?_)
     clear hK K
     refine norm_ (a' := ?_) ?_ ?_
     rotate_left
     ·show Act.put _ (some 10) _ = _
      simp only [Act.put, List.setIfInBounds_toArray, List.set_cons_zero, List.set_cons_succ, i64_w, i32_w]
      rfl
     refine one_ (i := 2) (N := some 12) #[true, true, true, true, false, false, false, false, false, false, false, false] rfl rfl (one_of HT_.out (by kernel_rfl)) (by decide) (fun K hK => ?_)
     refine Kd.N_lit_step k36 _ 36 ?hg (N' := 12) ?hd (xs := ([(⟨t115, t116, t117⟩ : S36), (⟨t109, t110, t111⟩ : S36)] : List (S36))) (inner := [.int .i64 t115, .string t116, .slice Ao110 t117.length co110, .int .i64 t109, .string t110, .slice Ao104 t111.length co104]) (ok := (fun k_ => some k_ ≠ (v124 : Value).ownBlock ∧ k_ ≠ gb114)) (okp := (fun k_ => some k_ ≠ (v124 : Value).ownBlock ∧ k_ ≠ gb114)) ?hr ?hp (fun _ hk => hk) ((show ∀ k_, w109.heap.size ≤ k_ → (fun k_ => some k_ ≠ (v124 : Value).ownBlock ∧ k_ ≠ gb114) k_ from fun k_ hk => ⟨Kd.fresh' (Kd.R_lt (rl_ HO125)) k_ hk, Kd.freshB (g := gb114) (o := .cells #[.int .i64 t109, .string t110, .slice Ao104 t111.length co104] 36 (0, 0)) (pl_ BK114) k_ hk⟩) _ (Nat.le_refl _)) (Below.refl _ _) (Nat.le_refl _) (by simp) ?_; (case hd => rfl); (case hg => rfl); (case hr => first | (go_simp; done) | (go_simp; rfl)); (case hp => exact (Reps.c3 (show Kd.FK k36 _ _ (⟨t115, t116, t117⟩ : S36) [.int .i64 t115, .string t116, .slice Ao110 t117.length co110] from (k36_mkF _ _ (⟨t115, t116, t117⟩ : S36) (Kd.N_reads' (Kd.N_mono (ok' := (fun k_ => some k_ ≠ (v124 : Value).ownBlock ∧ k_ ≠ gb114)) (HO119.out) (fun k_ hk => ⟨hk.2.1, hk.2.2⟩))).2.1 (Kd.N_F (Kd.N_mono (ok' := (fun k_ => some k_ ≠ (v124 : Value).ownBlock ∧ k_ ≠ gb114)) (HO119.out) (fun k_ hk => ⟨hk.2.1, hk.2.2⟩))))) (Reps.c3 (show Kd.FK k36 _ _ (⟨t109, t110, t111⟩ : S36) [.int .i64 t109, .string t110, .slice Ao104 t111.length co104] from (k36_mkF _ _ (⟨t109, t110, t111⟩ : S36) (Kd.V_reads' (Kd.V_mono (ok' := (fun k_ => some k_ ≠ (v124 : Value).ownBlock ∧ k_ ≠ gb114)) (HO113.out) (fun k_ hk => ⟨hk.1.2, hk.1.1⟩))).2.1 (Kd.V_F (Kd.V_mono (ok' := (fun k_ => some k_ ≠ (v124 : Value).ownBlock ∧ k_ ≠ gb114)) (HO113.out) (fun k_ hk => ⟨hk.1.2, hk.1.1⟩))))) (Reps.none _ _))))
     intro v121 w111 ho112 hb hg_ hnew_
     clear hg_ hnew_
     (first | rw [← Ny120.out] at ho112 | (simp only [Int.reduceToNat] at ho112; rw [← Ny120.out] at ho112))
     have HO122 := Aside0.mk (Kd.N_lower ho112 (below_size (bl_ HB)))
     replace HO108 := Aside0.mk (Kd.N_elder' (by (with_reducible repeat (first | apply Kd.N_alloc | apply Kd.N_drewN | apply Kd.N_drew)); exact HO108.out) (Kd.N_base ho112) hb)
     replace HO113 := Aside0.mk (Kd.V_elder' (by (with_reducible repeat (first | apply Kd.V_alloc | apply Kd.V_drewN | apply Kd.V_drew)); exact HO113.out) (Kd.N_base ho112) hb)
     replace HO125 := Aside0.mk (Kd.R_below (rl_ HO125) hb)
     replace BK114 := bb_ BK114 hb
     replace HB := hs_ HB hb
     clear HO119 hb ho112
     obtain ⟨Ao113, co113, eo113⟩ := Kd.R_slice HO125.out
     (first | subst eo113 | (injection eo113 with f1_ f2_ f3_; have f4_ := f1_.symm; have f5_ := f3_.symm; clear f1_ f2_ f3_; subst f4_; subst f5_))
     obtain ⟨Ao114, co114, eo114⟩ := Kd.N_slice HO122.out
     (first | subst eo114 | (injection eo114 with f1_ f2_ f3_; have f4_ := f1_.symm; have f5_ := f3_.symm; clear f1_ f2_ f3_; subst f4_; subst f5_))
     refine hK.out _ _ ⟨(blk_cell BK114.out 0).trans rfl, (blk_cell BK114.out 1).trans rfl, (blk_cell BK114.out 2).trans rfl⟩ (fun hHeld => ?_)
     clear hK K
     refine norm_ (a' := ?_) ?_ ?_
     rotate_left
     ·show Act.put _ (some 12) _ = _
      simp only [Act.put, List.setIfInBounds_toArray, List.set_cons_zero, List.set_cons_succ, i64_w, i32_w]
      rfl
     exact norm_ (by simp only [putAll, Act.put, List.setIfInBounds_toArray, List.set_cons_zero, List.set_cons_succ]) (hCont (.slice Ao110 t117.length co110, .slice Ao114 y120.length co114, .slice Ao113 y123.length co113) _ ⟨hHeld, (by (with_reducible repeat (first | apply Kd.N_alloc | apply Kd.N_drewN | apply Kd.N_drew)); exact Kd.N_mono HO108.out (fun _ hk => ⟨hk.2, ⟨hk.1.1.2, hk.1.1.1⟩⟩)), (by (with_reducible repeat (first | apply Kd.V_alloc | apply Kd.V_drewN | apply Kd.V_drew)); exact Kd.V_mono HO113.out (fun _ hk => ⟨hk.2, ⟨hk.1.1.2, hk.1.1.1⟩⟩)), (by (with_reducible repeat (first | apply Kd.N_alloc | apply Kd.N_drewN | apply Kd.N_drew)); exact HO122.out), (rl_ HO125), (pl_ BK114), (bl_ HB)⟩)
   rintro ⟨v118, v121, v124⟩ w115 ⟨hS_, h0_, h1_, h2_, h3_, h4_, h5_⟩
   have n0_ : Aside0 (Kd.N k36 36 w115 w.heap.size (fun k_ => some k_ ≠ (v121 : Value).ownBlock ∧ some k_ ≠ (v124 : Value).ownBlock ∧ k_ ≠ gb114) (.slice Ao100 y106.length co100) y106) := ⟨h0_⟩
   have n1_ : Aside0 (Kd.V k36 36 w115 w.heap.size (fun k_ => some k_ ≠ (v121 : Value).ownBlock ∧ some k_ ≠ (v124 : Value).ownBlock ∧ k_ ≠ gb114) (.slice Ao104 t111.length co104) t111) := ⟨h1_⟩
   have n2_ : Aside0 (Kd.N k36 36 w115 w.heap.size (fun k_ => some k_ ≠ (v124 : Value).ownBlock ∧ k_ ≠ gb114) v121 y120) := ⟨h2_⟩
   have n3_ : Aside0 (Kd.R (Kd.int .i64) 3 w115 w.heap.size (fun _ => True) v124 y123) := ⟨h3_⟩
   have n4_ : Aside0 (w115.heap[gb114]? = some (.cells #[.int .i64 t109, .string t110, .slice Ao104 t111.length co104] 36 (0, 0))) := ⟨h4_⟩
   have n5_ : Aside0 (Below w.heap.size w w115) := ⟨h5_⟩
   clear HO108 HO113 BK114 HB h0_ h1_ h2_ h3_ h4_ h5_
   have HO108 := n0_
   have HO113 := n1_
   have HO122 := n2_
   have HO125 := n3_
   have BK114 := n4_
   have HB := n5_
   clear n0_ n1_ n2_ n3_ n4_ n5_
   have hHeld : w115.cell? ⟨gb114, 0, none⟩ = some (.int .i64 t109) ∧ w115.cell? ⟨gb114, 1, none⟩ = some (.string t110) ∧ w115.cell? ⟨gb114, 2, none⟩ = some (.slice Ao104 t111.length co104) := hS_
   obtain ⟨Ao116, co116, eo116⟩ := Kd.R_slice HO125.out
   (first | subst eo116 | (injection eo116 with f1_ f2_ f3_; have f4_ := f1_.symm; have f5_ := f3_.symm; clear f1_ f2_ f3_; subst f4_; subst f5_))
   obtain ⟨Ao117, co117, eo117⟩ := Kd.N_slice HO122.out
   (first | subst eo117 | (injection eo117 with f1_ f2_ f3_; have f4_ := f1_.symm; have f5_ := f3_.symm; clear f1_ f2_ f3_; subst f4_; subst f5_))
   refine norm_ (a' := ?_) ?_ ?_
   rotate_left
   ·simp only [putAll, Act.put, List.setIfInBounds_toArray, List.set_cons_zero, List.set_cons_succ]
    rfl
   refine pure_ (i := 4) (N := some 14) (v := ?_) (a' := ?_) #[true, true, true, true, true, false, false, false, false, false, false, false] rfl rfl (any_of HT_.out (by kernel_rfl)) (fun _ _ _ h => h) (Or.inl ⟨by rfl, ?_⟩) ?_ ?_
   rotate_left
   ·intro w'
    go_simp
    with_reducible rfl
   rotate_left
   ·simp only [Act.put, List.setIfInBounds_toArray, List.set_cons_zero, List.set_cons_succ, i64_w, i32_w]
    rfl
   refine one_ (i := 5) (N := some 15) #[true, true, true, true, true, true, false, false, false, false, false, false] rfl rfl (one_of HT_.out (by kernel_rfl)) (by decide) (fun K hK => ?_)
   refine Kd.N_lit_step k31 _ 31 ?hg (N' := 15) ?hd (xs := ([(⟨y120, y123⟩ : S31)] : List (S31))) (inner := [.slice Ao117 y120.length co117, .slice Ao116 y123.length co116]) (ok := (fun k_ => k_ ≠ gb114)) (okp := (fun k_ => k_ ≠ gb114)) ?hr ?hp (fun _ hk => hk) ((show ∀ k_, w115.heap.size ≤ k_ → (fun k_ => k_ ≠ gb114) k_ from fun k_ hk => Kd.freshB (g := gb114) (o := .cells #[.int .i64 t109, .string t110, .slice Ao104 t111.length co104] 36 (0, 0)) (pl_ BK114) k_ hk) _ (Nat.le_refl _)) (Below.refl _ _) (Nat.le_refl _) (by simp) ?_; (case hd => rfl); (case hg => rfl); (case hr => first | (go_simp; done) | (go_simp; rfl)); (case hp => exact (Reps.c2 (show Kd.FK k31 _ _ (⟨y120, y123⟩ : S31) [.slice Ao117 y120.length co117, .slice Ao116 y123.length co116] from (k31_mkF _ _ (⟨y120, y123⟩ : S31) (Kd.N_reads' (Kd.N_mono (ok' := (fun k_ => k_ ≠ gb114)) (HO122.out) (fun k_ hk => hk.2))).2.1 (Kd.N_F (Kd.N_mono (ok' := (fun k_ => k_ ≠ gb114)) (HO122.out) (fun k_ hk => hk.2))) (Kd.R_reads' (Kd.R_mono (ok' := (fun k_ => k_ ≠ gb114)) (Kd.R_types (HO125.out) BK114.out (by decide)) (fun k_ hk => hk.2))).2.1 (Kd.R_F (Kd.R_mono (ok' := (fun k_ => k_ ≠ gb114)) (Kd.R_types (HO125.out) BK114.out (by decide)) (fun k_ hk => hk.2))))) (Reps.none _ _)))
   intro v127 w118 ho119 hb hg_ hnew_
   clear hg_ hnew_
   (first | rw [← Ny126.out] at ho119 | (simp only [Int.reduceToNat] at ho119; rw [← Ny126.out] at ho119))
   have HO128 := Aside0.mk (Kd.N_lower ho119 (below_size (bl_ HB)))
   replace HO108 := Aside0.mk (Kd.N_elder' (by (with_reducible repeat (first | apply Kd.N_alloc | apply Kd.N_drewN | apply Kd.N_drew)); exact HO108.out) (Kd.N_base ho119) hb)
   replace HO113 := Aside0.mk (Kd.V_elder' (by (with_reducible repeat (first | apply Kd.V_alloc | apply Kd.V_drewN | apply Kd.V_drew)); exact HO113.out) (Kd.N_base ho119) hb)
   replace BK114 := bb_ BK114 hb
   replace HB := hs_ HB hb
   clear HO122 HO125 hb ho119
   obtain ⟨Ao120, co120, eo120⟩ := Kd.N_slice HO128.out
   (first | subst eo120 | (injection eo120 with f1_ f2_ f3_; have f4_ := f1_.symm; have f5_ := f3_.symm; clear f1_ f2_ f3_; subst f4_; subst f5_))
   refine hK.out _ _ ⟨(blk_cell BK114.out 0).trans rfl, (blk_cell BK114.out 1).trans rfl, (blk_cell BK114.out 2).trans rfl⟩ (fun hHeld => ?_)
   clear hK K
   refine norm_ (a' := ?_) ?_ ?_
   rotate_left
   ·show Act.put _ (some 15) _ = _
    simp only [Act.put, List.setIfInBounds_toArray, List.set_cons_zero, List.set_cons_succ, i64_w, i32_w]
    rfl
   refine one_ (i := 6) (N := some 16) #[true, true, true, true, true, true, true, false, false, false, false, false] rfl rfl (one_of HT_.out (by kernel_rfl)) (by decide) (fun K hK => ?_)
   refine goes_ Try.func20 (by kernel_rfl) rfl #[.slice Ao120 y126.length co120, .int .i64 2] (by rfl) rfl rfl (by (try simp only [List.map_toArray, List.map_cons, List.map_nil]); first | done | rfl | (simp only [List.length_drop, List.length_take]; rfl)) ?_
   with_reducible refine (recurse_Find.calls _ _ y126 2 t129 true _ ?side1 ?side2 A4.out).mono ?_
   (case side1 => repeat (first | exact (Kd.N_reads' HO128.out).2.2 | (with_reducible refine Kd.C_alloc ?_ _) | (with_reducible refine Kd.C_drewN ?_ _) | (with_reducible refine Kd.C_drew ?_)))
   (case side2 => exact (Kd.N_reads' HO128.out).2.1)
   rintro e w121 ⟨rfl, hb⟩
   refine ⟨_, rfl, ?_⟩
   replace HO108 := Aside0.mk (Kd.N_below (by (with_reducible repeat (first | apply Kd.N_alloc | apply Kd.N_drewN | apply Kd.N_drew)); exact HO108.out) hb)
   replace HO113 := Aside0.mk (Kd.V_below (by (with_reducible repeat (first | apply Kd.V_alloc | apply Kd.V_drewN | apply Kd.V_drew)); exact HO113.out) hb)
   replace HO128 := Aside0.mk (Kd.N_below (by (with_reducible repeat (first | apply Kd.N_alloc | apply Kd.N_drewN | apply Kd.N_drew)); exact HO128.out) hb)
   replace BK114 := bb_ BK114 hb
   replace HB := hs_ HB hb
   (try clear hb); (try clear hb2); (try clear hk); (try clear hi)
   refine hK.out _ _ ⟨(blk_cell BK114.out 0).trans rfl, (blk_cell BK114.out 1).trans rfl, (blk_cell BK114.out 2).trans rfl⟩ (fun hHeld => ?_)
   clear hK K
   refine norm_ (a' := ?_) ?_ ?_
   rotate_left
   ·show Act.put _ (some 16) _ = _
    simp only [Act.put, List.setIfInBounds_toArray, List.set_cons_zero, List.set_cons_succ, i64_w, i32_w]
    rfl
   refine pure_ (i := 7) (N := some 9) (v := ?_) (a' := ?_) #[true, true, true, true, true, true, true, true, false, false, false, false] rfl rfl (any_of HT_.out (by kernel_rfl)) (fun _ _ _ h => h) (Or.inl ⟨by rfl, ?_⟩) ?_ ?_
   rotate_left
   ·intro w'
    go_simp
    with_reducible rfl
   rotate_left
   ·simp only [Act.put, List.setIfInBounds_toArray, List.set_cons_zero, List.set_cons_succ, i64_w, i32_w]
    rfl
   refine pure_ (i := 8) (N := some 17) (v := ?_) (a' := ?_) #[true, true, true, true, true, true, true, true, true, false, false, false] rfl rfl (any_of HT_.out (by kernel_rfl)) (fun _ _ _ h => h) (Or.inl ⟨by rfl, ?_⟩) ?_ ?_
   rotate_left
   ·intro w'
    go_simp
    with_reducible rfl
   rotate_left
   ·simp only [Act.put, List.setIfInBounds_toArray, List.set_cons_zero, List.set_cons_succ, i64_w, i32_w]
    rfl
   refine pure_ (i := 9) (N := some 18) (v := ?_) (a' := ?_) #[true, true, true, true, true, true, true, true, true, true, false, false] rfl rfl (any_of HT_.out (by kernel_rfl)) (fun _ _ _ h => h) (Or.inl ⟨by rfl, ?_⟩) ?_ ?_
   rotate_left
   ·intro w'
    go_simp
    with_reducible rfl
   rotate_left
   ·simp only [Act.put, List.setIfInBounds_toArray, List.set_cons_zero, List.set_cons_succ, i64_w, i32_w]
    rfl
   refine pure_ (i := 10) (N := some 2) (v := ?_) (a' := ?_) #[true, true, true, true, true, true, true, true, true, true, true, false] rfl rfl (any_of HT_.out (by kernel_rfl)) (fun _ _ _ h => h) (Or.inl ⟨by rfl, ?_⟩) ?_ ?_
   rotate_left
   ·intro w'
    go_simp
    with_reducible rfl
   rotate_left
   ·simp only [Act.put, List.setIfInBounds_toArray, List.set_cons_zero, List.set_cons_succ, i64_w, i32_w]
    rfl
   refine pure_ (i := 11) (N := some 3) (v := ?_) (a' := ?_) #[true, true, true, true, true, true, true, true, true, true, true, true] rfl rfl (any_of HT_.out (by kernel_rfl)) (fun _ _ _ h => h) (Or.inl ⟨by rfl, ?_⟩) ?_ ?_
   rotate_left
   ·intro w'
    go_simp
    with_reducible rfl
   rotate_left
   ·simp only [Act.put, List.setIfInBounds_toArray, List.set_cons_zero, List.set_cons_succ, i64_w, i32_w]
    rfl
   refine done_ (done_of HT_.out (by kernel_rfl)) ?_
   try go_wp2_with (first | ((with_reducible refine gate_callee (f := 26) rfl ?_); refine goesL_ (some 20) rfl rfl Try.func26 (by kernel_rfl) rfl #[] rfl (by (try simp only [List.map_toArray, List.map_cons, List.map_nil]); first | done | rfl | (simp only [List.length_drop, List.length_take]; rfl)) ?_; (with_reducible refine (telamonlaw21_V.calls  t131 t132 t133 _ A5.out).mono ?_); rintro e w122 ⟨v134, rfl, ho0, hb⟩; refine ⟨_, rfl, ?_⟩; have HO135 := Aside0.mk (Kd.N_lower (Kd.N_mono (ok' := fun k_ => some k_ ≠ (.slice Ao100 y106.length co100 : Value).ownBlock ∧ some k_ ≠ (.slice Ao120 y126.length co120 : Value).ownBlock ∧ k_ ≠ gb114) (Kd.R_N (Kd.R_bound ho0)) (fun k_ hk_ => ⟨(Kd.fresh' (Kd.N_lt (by (with_reducible repeat (first | apply Kd.N_alloc | apply Kd.N_drewN | apply Kd.N_drew)); exact HO108.out)) k_ hk_.2.1), (Kd.fresh' (Kd.N_lt (by (with_reducible repeat (first | apply Kd.N_alloc | apply Kd.N_drewN | apply Kd.N_drew)); exact HO128.out)) k_ hk_.2.1), (Kd.freshB (g := gb114) (o := .cells #[.int .i64 t109, .string t110, .slice Ao104 t111.length co104] 36 (0, 0)) (pl_ BK114) k_ hk_.2.1)⟩)) (below_size (bl_ HB))); replace HO108 := Aside0.mk (Kd.N_elder' (by (with_reducible repeat (first | apply Kd.N_alloc | apply Kd.N_drewN | apply Kd.N_drew)); exact HO108.out) (Kd.N_base (Kd.R_N (Kd.R_bound ho0))) hb); replace HO113 := Aside0.mk (Kd.V_elder' (by (with_reducible repeat (first | apply Kd.V_alloc | apply Kd.V_drewN | apply Kd.V_drew)); exact HO113.out) (Kd.N_base (Kd.R_N (Kd.R_bound ho0))) hb); replace HO128 := Aside0.mk (Kd.N_elder' (by (with_reducible repeat (first | apply Kd.N_alloc | apply Kd.N_drewN | apply Kd.N_drew)); exact HO128.out) (Kd.N_base (Kd.R_N (Kd.R_bound ho0))) hb); replace BK114 := bb_ BK114 hb; replace HB := hs_ HB hb; (try clear hb); (try clear hb2); (try clear hk); (try clear hi); (try clear ho0); obtain ⟨Ao123, co123, eo123⟩ := Kd.N_slice HO135.out; subst eo123) | ((with_reducible refine gate_dst (N := 21) rfl ?_); (try (refine gate_guard (by rfl) ?_; dsimp only)); refine Kd.N_lit k36 _ 36 ?hg (N' := 21) ?hd (xs := ([(⟨t131, t132, t133⟩ : S36)] : List (S36))) (inner := [.int .i64 t131, .string t132, .slice Ao123 t133.length co123]) (ok := (fun k_ => some k_ ≠ (.slice Ao100 y106.length co100 : Value).ownBlock ∧ some k_ ≠ (.slice Ao120 y126.length co120 : Value).ownBlock ∧ k_ ≠ gb114)) (okp := (fun k_ => some k_ ≠ (.slice Ao100 y106.length co100 : Value).ownBlock ∧ some k_ ≠ (.slice Ao120 y126.length co120 : Value).ownBlock ∧ k_ ≠ gb114)) ?hr ?hp (fun _ hk => hk) ((show ∀ k_, w122.heap.size ≤ k_ → (fun k_ => some k_ ≠ (.slice Ao100 y106.length co100 : Value).ownBlock ∧ some k_ ≠ (.slice Ao120 y126.length co120 : Value).ownBlock ∧ k_ ≠ gb114) k_ from fun k_ hk => ⟨Kd.fresh' (Kd.N_lt (by (with_reducible repeat (first | apply Kd.N_alloc | apply Kd.N_drewN | apply Kd.N_drew)); exact HO108.out)) k_ hk, Kd.fresh' (Kd.N_lt (by (with_reducible repeat (first | apply Kd.N_alloc | apply Kd.N_drewN | apply Kd.N_drew)); exact HO128.out)) k_ hk, Kd.freshB (g := gb114) (o := .cells #[.int .i64 t109, .string t110, .slice Ao104 t111.length co104] 36 (0, 0)) (pl_ BK114) k_ hk⟩) _ (Nat.le_refl _)) (Below.refl _ _) (Nat.le_refl _) (by simp) ?_; (case hd => rfl); (case hg => rfl); (case hr => first | (go_simp; done) | (go_simp; rfl)); (case hp => exact (Reps.c3 (show Kd.FK k36 _ _ (⟨t131, t132, t133⟩ : S36) [.int .i64 t131, .string t132, .slice Ao123 t133.length co123] from (k36_mkF _ _ (⟨t131, t132, t133⟩ : S36) (Kd.N_reads' (Kd.N_mono (ok' := (fun k_ => some k_ ≠ (.slice Ao100 y106.length co100 : Value).ownBlock ∧ some k_ ≠ (.slice Ao120 y126.length co120 : Value).ownBlock ∧ k_ ≠ gb114)) (HO135.out) (fun k_ hk => ⟨hk.1, ⟨hk.2.1, hk.2.2⟩⟩))).2.1 (Kd.N_F (Kd.N_mono (ok' := (fun k_ => some k_ ≠ (.slice Ao100 y106.length co100 : Value).ownBlock ∧ some k_ ≠ (.slice Ao120 y126.length co120 : Value).ownBlock ∧ k_ ≠ gb114)) (HO135.out) (fun k_ hk => ⟨hk.1, ⟨hk.2.1, hk.2.2⟩⟩))))) (Reps.none _ _))); intro v137 w124 ho125 hb hg_ hnew_; clear hg_ hnew_; (first | rw [← Ny136.out] at ho125 | (simp only [Int.reduceToNat] at ho125; rw [← Ny136.out] at ho125)); have HO138 := Aside0.mk (Kd.N_lower ho125 (below_size (bl_ HB))); replace HO108 := Aside0.mk (Kd.N_elder' (by (with_reducible repeat (first | apply Kd.N_alloc | apply Kd.N_drewN | apply Kd.N_drew)); exact HO108.out) (Kd.N_base ho125) hb); replace HO113 := Aside0.mk (Kd.V_elder' (by (with_reducible repeat (first | apply Kd.V_alloc | apply Kd.V_drewN | apply Kd.V_drew)); exact HO113.out) (Kd.N_base ho125) hb); replace HO128 := Aside0.mk (Kd.N_elder' (by (with_reducible repeat (first | apply Kd.N_alloc | apply Kd.N_drewN | apply Kd.N_drew)); exact HO128.out) (Kd.N_base ho125) hb); replace BK114 := bb_ BK114 hb; replace HB := hs_ HB hb; clear HO135; clear hb ho125) | ((with_reducible refine gate_dst (N := 22) rfl ?_); (try (refine gate_guard (by rfl) ?_; dsimp only)); refine Kd.R_lit (Kd.int .i64) _ 3 ?hg (N := 22) ?hd (xs := ([0] : List Int)) (inner := [.int .i64 0]) (ok := fun _ => True) (okp := fun _ => True) ?hr ?hp (fun _ hk => hk) trivial (Below.refl _ _) (Nat.le_refl _) (by simp) ?_; (case hd => rfl); (case hg => rfl); (case hr => first | (go_simp; done) | (go_simp; rfl)); (case hp => exact (Reps.one (show Kd.M (Kd.int .i64) _ _ _ 0 [.int .i64 0] from rfl) (Reps.none _ _))); intro v140 w126 ho127 hb hg_ hnew_; clear hg_ hnew_; (first | rw [← Ny139.out] at ho127 | (simp only [Int.reduceToNat] at ho127; rw [← Ny139.out] at ho127)); have HO141 := Aside0.mk (Kd.R_lower ho127 (below_size (bl_ HB))); replace HO108 := Aside0.mk (Kd.N_elder' (by (with_reducible repeat (first | apply Kd.N_alloc | apply Kd.N_drewN | apply Kd.N_drew)); exact HO108.out) (Kd.R_base ho127) hb); replace HO113 := Aside0.mk (Kd.V_elder' (by (with_reducible repeat (first | apply Kd.V_alloc | apply Kd.V_drewN | apply Kd.V_drew)); exact HO113.out) (Kd.R_base ho127) hb); replace HO128 := Aside0.mk (Kd.N_elder' (by (with_reducible repeat (first | apply Kd.N_alloc | apply Kd.N_drewN | apply Kd.N_drew)); exact HO128.out) (Kd.R_base ho127) hb); replace HO138 := Aside0.mk (Kd.N_elder' (by (with_reducible repeat (first | apply Kd.N_alloc | apply Kd.N_drewN | apply Kd.N_drew)); exact HO138.out) (Kd.R_base ho127) hb); replace BK114 := bb_ BK114 hb; replace HB := hs_ HB hb; clear hb ho127; obtain ⟨Ao128, co128, eo128⟩ := Kd.R_slice HO141.out; subst eo128; obtain ⟨Ao129, co129, eo129⟩ := Kd.N_slice HO138.out; subst eo129) | ((with_reducible refine gate_dst (N := 24) rfl ?_); (try (refine gate_guard (by rfl) ?_; dsimp only)); refine Kd.N_lit k31 _ 31 ?hg (N' := 24) ?hd (xs := ([(⟨y136, y139⟩ : S31)] : List (S31))) (inner := [.slice Ao129 y136.length co129, .slice Ao128 y139.length co128]) (ok := (fun k_ => some k_ ≠ (.slice Ao100 y106.length co100 : Value).ownBlock ∧ some k_ ≠ (.slice Ao120 y126.length co120 : Value).ownBlock ∧ k_ ≠ gb114)) (okp := (fun k_ => some k_ ≠ (.slice Ao100 y106.length co100 : Value).ownBlock ∧ some k_ ≠ (.slice Ao120 y126.length co120 : Value).ownBlock ∧ k_ ≠ gb114)) ?hr ?hp (fun _ hk => hk) ((show ∀ k_, w126.heap.size ≤ k_ → (fun k_ => some k_ ≠ (.slice Ao100 y106.length co100 : Value).ownBlock ∧ some k_ ≠ (.slice Ao120 y126.length co120 : Value).ownBlock ∧ k_ ≠ gb114) k_ from fun k_ hk => ⟨Kd.fresh' (Kd.N_lt (by (with_reducible repeat (first | apply Kd.N_alloc | apply Kd.N_drewN | apply Kd.N_drew)); exact HO108.out)) k_ hk, Kd.fresh' (Kd.N_lt (by (with_reducible repeat (first | apply Kd.N_alloc | apply Kd.N_drewN | apply Kd.N_drew)); exact HO128.out)) k_ hk, Kd.freshB (g := gb114) (o := .cells #[.int .i64 t109, .string t110, .slice Ao104 t111.length co104] 36 (0, 0)) (pl_ BK114) k_ hk⟩) _ (Nat.le_refl _)) (Below.refl _ _) (Nat.le_refl _) (by simp) ?_; (case hd => rfl); (case hg => rfl); (case hr => first | (go_simp; done) | (go_simp; rfl)); (case hp => exact (Reps.c2 (show Kd.FK k31 _ _ (⟨y136, y139⟩ : S31) [.slice Ao129 y136.length co129, .slice Ao128 y139.length co128] from (k31_mkF _ _ (⟨y136, y139⟩ : S31) (Kd.N_reads' (Kd.N_mono (ok' := (fun k_ => some k_ ≠ (.slice Ao100 y106.length co100 : Value).ownBlock ∧ some k_ ≠ (.slice Ao120 y126.length co120 : Value).ownBlock ∧ k_ ≠ gb114)) (HO138.out) (fun k_ hk => ⟨hk.1.1, ⟨hk.1.2.1, hk.1.2.2⟩⟩))).2.1 (Kd.N_F (Kd.N_mono (ok' := (fun k_ => some k_ ≠ (.slice Ao100 y106.length co100 : Value).ownBlock ∧ some k_ ≠ (.slice Ao120 y126.length co120 : Value).ownBlock ∧ k_ ≠ gb114)) (HO138.out) (fun k_ hk => ⟨hk.1.1, ⟨hk.1.2.1, hk.1.2.2⟩⟩))) (Kd.R_reads' (Kd.R_mono (ok' := (fun k_ => some k_ ≠ (.slice Ao100 y106.length co100 : Value).ownBlock ∧ some k_ ≠ (.slice Ao120 y126.length co120 : Value).ownBlock ∧ k_ ≠ gb114)) (Kd.R_types (Kd.R_apart' (Kd.R_apart' (HO141.out) (Kd.N_typed HO108.out) (by decide)) (Kd.N_typed HO128.out) (by decide)) BK114.out (by decide)) (fun k_ hk => ⟨hk.1.1.2, ⟨hk.1.2, hk.2⟩⟩))).2.1 (Kd.R_F (Kd.R_mono (ok' := (fun k_ => some k_ ≠ (.slice Ao100 y106.length co100 : Value).ownBlock ∧ some k_ ≠ (.slice Ao120 y126.length co120 : Value).ownBlock ∧ k_ ≠ gb114)) (Kd.R_types (Kd.R_apart' (Kd.R_apart' (HO141.out) (Kd.N_typed HO108.out) (by decide)) (Kd.N_typed HO128.out) (by decide)) BK114.out (by decide)) (fun k_ hk => ⟨hk.1.1.2, ⟨hk.1.2, hk.2⟩⟩))))) (Reps.none _ _))); intro v143 w130 ho131 hb hg_ hnew_; clear hg_ hnew_; (first | rw [← Ny142.out] at ho131 | (simp only [Int.reduceToNat] at ho131; rw [← Ny142.out] at ho131)); have HO144 := Aside0.mk (Kd.N_lower ho131 (below_size (bl_ HB))); replace HO108 := Aside0.mk (Kd.N_elder' (by (with_reducible repeat (first | apply Kd.N_alloc | apply Kd.N_drewN | apply Kd.N_drew)); exact HO108.out) (Kd.N_base ho131) hb); replace HO113 := Aside0.mk (Kd.V_elder' (by (with_reducible repeat (first | apply Kd.V_alloc | apply Kd.V_drewN | apply Kd.V_drew)); exact HO113.out) (Kd.N_base ho131) hb); replace HO128 := Aside0.mk (Kd.N_elder' (by (with_reducible repeat (first | apply Kd.N_alloc | apply Kd.N_drewN | apply Kd.N_drew)); exact HO128.out) (Kd.N_base ho131) hb); replace BK114 := bb_ BK114 hb; replace HB := hs_ HB hb; clear HO138; clear HO141; clear hb ho131; obtain ⟨Ao132, co132, eo132⟩ := Kd.N_slice HO144.out; subst eo132) | ((with_reducible refine gate_callee (f := 20) rfl ?_); refine goesL_ (some 25) rfl rfl Try.func20 (by kernel_rfl) rfl #[.slice Ao132 y142.length co132, .int .i64 1] rfl (by (try simp only [List.map_toArray, List.map_cons, List.map_nil]); first | done | rfl | (simp only [List.length_drop, List.length_take]; rfl)) ?_; (with_reducible refine (recurse_Find.calls _ _ y142 1 t145 t146 _ ?side1 ?side2 A6.out).mono ?_); (case side1 => repeat (first | exact (Kd.N_reads' HO144.out).2.2 | (with_reducible refine Kd.C_alloc ?_ _) | (with_reducible refine Kd.C_drewN ?_ _) | (with_reducible refine Kd.C_drew ?_))); (case side2 => exact (Kd.N_reads' HO144.out).2.1); rintro e w133 ⟨rfl, hb⟩; refine ⟨_, rfl, ?_⟩; replace HO108 := Aside0.mk (Kd.N_below (by (with_reducible repeat (first | apply Kd.N_alloc | apply Kd.N_drewN | apply Kd.N_drew)); exact HO108.out) hb); replace HO113 := Aside0.mk (Kd.V_below (by (with_reducible repeat (first | apply Kd.V_alloc | apply Kd.V_drewN | apply Kd.V_drew)); exact HO113.out) hb); replace HO128 := Aside0.mk (Kd.N_below (by (with_reducible repeat (first | apply Kd.N_alloc | apply Kd.N_drewN | apply Kd.N_drew)); exact HO128.out) hb); replace HO144 := Aside0.mk (Kd.N_below (by (with_reducible repeat (first | apply Kd.N_alloc | apply Kd.N_drewN | apply Kd.N_drew)); exact HO144.out) hb); replace BK114 := bb_ BK114 hb; replace HB := hs_ HB hb; (try clear hb); (try clear hb2); (try clear hk); (try clear hi)))
   replace HO108 := Aside0.mk (Kd.N_drew HO108.out)
   replace HO113 := Aside0.mk (Kd.V_drew HO113.out)
   replace HO128 := Aside0.mk (Kd.N_drew HO128.out)
   replace HO144 := Aside0.mk (Kd.N_drew HO144.out)
   replace BK114 := Aside0.mk (blk_drew BK114.out)
   replace HB := Aside0.mk (below_drew1 HB.out)
   refine start_ (n := 17) (S := fun w' => True) (ds := []) #[false, false, false, false, false, false, false, false, false, false, false, false, false, false, false, false, false] (by kernel_rfl) rfl rfl trivial (fun hHeld => ?_); refine with_tabW telamonlaw23_alive.tab4 telamonlaw23_alive.bits4 (fun HT_ HW_ => ?_)
   generalize w133.drew = w134 at HO108 HO113 HO128 HO144 BK114 HB hHeld ⊢
   refine pure_ (i := 0) (N := some 28) (v := ?_) (a' := ?_) #[true, false, false, false, false, false, false, false, false, false, false, false, false, false, false, false, false] rfl rfl (any_of HT_.out (by kernel_rfl)) (fun _ _ _ h => h) (Or.inl ⟨by rfl, ?_⟩) ?_ ?_
   rotate_left
   ·intro w'
    go_simp
    with_reducible rfl
   rotate_left
   ·simp only [Act.put, List.setIfInBounds_toArray, List.set_cons_zero, List.set_cons_succ, i64_w, i32_w]
    rfl
   refine pure_ (i := 1) (N := some 29) (v := ?_) (a' := ?_) #[true, true, false, false, false, false, false, false, false, false, false, false, false, false, false, false, false] rfl rfl (any_of HT_.out (by kernel_rfl)) (fun _ _ _ h => h) (Or.inl ⟨by rfl, ?_⟩) ?_ ?_
   rotate_left
   ·intro w'
    go_simp
    with_reducible rfl
   rotate_left
   ·simp only [Act.put, List.setIfInBounds_toArray, List.set_cons_zero, List.set_cons_succ, i64_w, i32_w]
    rfl
   refine pure_ (i := 2) (N := some 30) (v := ?_) (a' := ?_) #[true, true, true, false, false, false, false, false, false, false, false, false, false, false, false, false, false] rfl rfl (any_of HT_.out (by kernel_rfl)) (fun _ _ _ h => h) (Or.inl ⟨by rfl, ?_⟩) ?_ ?_
   rotate_left
   ·intro w'
    go_simp
    with_reducible rfl
   rotate_left
   ·simp only [Act.put, List.setIfInBounds_toArray, List.set_cons_zero, List.set_cons_succ, i64_w, i32_w]
    rfl
   refine pure_ (i := 3) (N := some 31) (v := ?_) (a' := ?_) #[true, true, true, true, false, false, false, false, false, false, false, false, false, false, false, false, false] rfl rfl (any_of HT_.out (by kernel_rfl)) (fun _ _ _ h => h) (Or.inl ⟨by rfl, ?_⟩) ?_ ?_
   rotate_left
   ·intro w'
    go_simp
    with_reducible rfl
   rotate_left
   ·simp only [Act.put, List.setIfInBounds_toArray, List.set_cons_zero, List.set_cons_succ, i64_w, i32_w]
    rfl
   refine pure_ (i := 4) (N := some 32) (v := ?_) (a' := ?_) #[true, true, true, true, true, false, false, false, false, false, false, false, false, false, false, false, false] rfl rfl (any_of HT_.out (by kernel_rfl)) (fun _ _ _ h => h) (Or.inl ⟨by rfl, ?_⟩) ?_ ?_
   rotate_left
   ·intro w'
    go_simp
    with_reducible rfl
   rotate_left
   ·simp only [Act.put, List.setIfInBounds_toArray, List.set_cons_zero, List.set_cons_succ, i64_w, i32_w]
    rfl
   refine pure_ (i := 5) (N := some 33) (v := ?_) (a' := ?_) #[true, true, true, true, true, true, false, false, false, false, false, false, false, false, false, false, false] rfl rfl (any_of HT_.out (by kernel_rfl)) (fun _ _ _ h => h) (Or.inl ⟨by rfl, ?_⟩) ?_ ?_
   rotate_left
   ·intro w'
    go_simp
    with_reducible rfl
   rotate_left
   ·simp only [Act.put, List.setIfInBounds_toArray, List.set_cons_zero, List.set_cons_succ, i64_w, i32_w]
    rfl
   refine pure_ (i := 6) (N := some 34) (v := undef) (a' := ?_) #[true, true, true, true, true, true, true, false, false, false, false, false, false, false, false, false, false] rfl rfl (any_of HT_.out (by kernel_rfl)) (fun _ _ _ h => h) (Or.inr ⟨by rfl, rfl⟩) ?_ ?_
   rotate_left
   ·simp only [Act.put, List.setIfInBounds_toArray, List.set_cons_zero, List.set_cons_succ, i64_w, i32_w]
    rfl
   refine pure_ (i := 7) (N := some 35) (v := undef) (a' := ?_) #[true, true, true, true, true, true, true, true, false, false, false, false, false, false, false, false, false] rfl rfl (any_of HT_.out (by kernel_rfl)) (fun _ _ _ h => h) (Or.inr ⟨by rfl, rfl⟩) ?_ ?_
   rotate_left
   ·simp only [Act.put, List.setIfInBounds_toArray, List.set_cons_zero, List.set_cons_succ, i64_w, i32_w]
    rfl
   refine pure_ (i := 8) (N := some 36) (v := ?_) (a' := ?_) #[true, true, true, true, true, true, true, true, true, false, false, false, false, false, false, false, false] rfl rfl (any_of HT_.out (by kernel_rfl)) (fun _ _ _ h => h) (Or.inl ⟨by rfl, ?_⟩) ?_ ?_
   rotate_left
   ·intro w'
    go_simp
    with_reducible rfl
   rotate_left
   ·simp only [Act.put, List.setIfInBounds_toArray, List.set_cons_zero, List.set_cons_succ, i64_w, i32_w]
    rfl
   refine pure_ (i := 9) (N := some 37) (v := ?_) (a' := ?_) #[true, true, true, true, true, true, true, true, true, true, false, false, false, false, false, false, false] rfl rfl (any_of HT_.out (by kernel_rfl)) (fun _ _ _ h => h) (Or.inl ⟨by rfl, ?_⟩) ?_ ?_
   rotate_left
   ·intro w'
    go_simp
    with_reducible rfl
   rotate_left
   ·simp only [Act.put, List.setIfInBounds_toArray, List.set_cons_zero, List.set_cons_succ, i64_w, i32_w]
    rfl
   refine pure_ (i := 10) (N := some 38) (v := undef) (a' := ?_) #[true, true, true, true, true, true, true, true, true, true, true, false, false, false, false, false, false] rfl rfl (any_of HT_.out (by kernel_rfl)) (fun _ _ _ h => h) (Or.inr ⟨by rfl, rfl⟩) ?_ ?_
   rotate_left
   ·simp only [Act.put, List.setIfInBounds_toArray, List.set_cons_zero, List.set_cons_succ, i64_w, i32_w]
    rfl
   refine pure_ (i := 11) (N := some 39) (v := undef) (a' := ?_) #[true, true, true, true, true, true, true, true, true, true, true, true, false, false, false, false, false] rfl rfl (any_of HT_.out (by kernel_rfl)) (fun _ _ _ h => h) (Or.inr ⟨by rfl, rfl⟩) ?_ ?_
   rotate_left
   ·simp only [Act.put, List.setIfInBounds_toArray, List.set_cons_zero, List.set_cons_succ, i64_w, i32_w]
    rfl
   refine pure_ (i := 12) (N := some 40) (v := undef) (a' := ?_) #[true, true, true, true, true, true, true, true, true, true, true, true, true, false, false, false, false] rfl rfl (any_of HT_.out (by kernel_rfl)) (fun _ _ _ h => h) (Or.inr ⟨by rfl, rfl⟩) ?_ ?_
   rotate_left
   ·simp only [Act.put, List.setIfInBounds_toArray, List.set_cons_zero, List.set_cons_succ, i64_w, i32_w]
    rfl
   refine pure_ (i := 13) (N := some 41) (v := undef) (a' := ?_) #[true, true, true, true, true, true, true, true, true, true, true, true, true, true, false, false, false] rfl rfl (any_of HT_.out (by kernel_rfl)) (fun _ _ _ h => h) (Or.inr ⟨by rfl, rfl⟩) ?_ ?_
   rotate_left
   ·simp only [Act.put, List.setIfInBounds_toArray, List.set_cons_zero, List.set_cons_succ, i64_w, i32_w]
    rfl
   refine pure_ (i := 14) (N := some 42) (v := undef) (a' := ?_) #[true, true, true, true, true, true, true, true, true, true, true, true, true, true, true, false, false] rfl rfl (any_of HT_.out (by kernel_rfl)) (fun _ _ _ h => h) (Or.inr ⟨by rfl, rfl⟩) ?_ ?_
   rotate_left
   ·simp only [Act.put, List.setIfInBounds_toArray, List.set_cons_zero, List.set_cons_succ, i64_w, i32_w]
    rfl
   refine pure_ (i := 15) (N := some 43) (v := ?_) (a' := ?_) #[true, true, true, true, true, true, true, true, true, true, true, true, true, true, true, true, false] rfl rfl (any_of HT_.out (by kernel_rfl)) (fun _ _ _ h => h) (Or.inl ⟨by rfl, ?_⟩) ?_ ?_
   rotate_left
   ·intro w'
    go_simp
    with_reducible rfl
   rotate_left
   ·simp only [Act.put, List.setIfInBounds_toArray, List.set_cons_zero, List.set_cons_succ, i64_w, i32_w]
    rfl
   refine pure_ (i := 16) (N := some 0) (v := ?_) (a' := ?_) #[true, true, true, true, true, true, true, true, true, true, true, true, true, true, true, true, true] rfl rfl (any_of HT_.out (by kernel_rfl)) (fun _ _ _ h => h) (Or.inl ⟨by rfl, ?_⟩) ?_ ?_
   rotate_left
   ·intro w'
    go_simp
    with_reducible rfl
   rotate_left
   ·simp only [Act.put, List.setIfInBounds_toArray, List.set_cons_zero, List.set_cons_succ, i64_w, i32_w]
    rfl
   refine done_ (done_of HT_.out (by kernel_rfl)) ?_
   try go_wp2
   go_ret
   exact ⟨by first | rfl | (simp [errW_none, errW_some] <;> rfl) | (simp [*, errW_none, errW_some] <;> rfl), by repeat (first | (with_reducible first | exact HB.out | apply below_alloc | apply pw_below_drewN | apply below_drew1 | refine below_set ?_ GE114.out) | exact HB.out)⟩
 ·replace c7 := Bool.eq_false_iff.mpr c7
  subst c7
  have H1 : (some false) = some r := by rw [if_neg (show ¬ (false = true) by decide)] at H; exact H
  clear H
  have H := H1
  clear H1
  obtain rfl := Option.some.inj H
  go_enter Try.func18, Try.ntmps18
  try go_wp2_with (first | ((with_reducible refine gate_callee (f := 26) rfl ?_); refine goesL_ (some 6) rfl rfl Try.func26 (by kernel_rfl) rfl #[] rfl (by (try simp only [List.map_toArray, List.map_cons, List.map_nil]); first | done | rfl | (simp only [List.length_drop, List.length_take]; rfl)) ?_; (with_reducible refine (telamonlaw21_V.calls  t101 t102 t103 _ A1.out).mono ?_); rintro e w135 ⟨v104, rfl, ho0, hb⟩; refine ⟨_, rfl, ?_⟩; have HO105 := Aside0.mk (Kd.N_lower (Kd.N_mono (ok' := fun k_ => True) (Kd.R_N (Kd.R_bound ho0)) (fun k_ hk_ => trivial)) (below_size (bl_ HB))); replace HB := hs_ HB hb; (try clear hb); (try clear hb2); (try clear hk); (try clear hi); (try clear ho0); obtain ⟨Ao136, co136, eo136⟩ := Kd.N_slice HO105.out; subst eo136) | ((with_reducible refine gate_dst (N := 7) rfl ?_); (try (refine gate_guard (by rfl) ?_; dsimp only)); refine Kd.N_lit k36 _ 36 ?hg (N' := 7) ?hd (xs := ([(⟨t101, t102, t103⟩ : S36)] : List (S36))) (inner := [.int .i64 t101, .string t102, .slice Ao136 t103.length co136]) (ok := (fun _ => True)) (okp := (fun _ => True)) ?hr ?hp (fun _ hk => hk) ((show ∀ k_, w135.heap.size ≤ k_ → (fun _ => True) k_ from fun k_ hk => trivial) _ (Nat.le_refl _)) (Below.refl _ _) (Nat.le_refl _) (by simp) ?_; (case hd => rfl); (case hg => rfl); (case hr => first | (go_simp; done) | (go_simp; rfl)); (case hp => exact (Reps.c3 (show Kd.FK k36 _ _ (⟨t101, t102, t103⟩ : S36) [.int .i64 t101, .string t102, .slice Ao136 t103.length co136] from (k36_mkF _ _ (⟨t101, t102, t103⟩ : S36) (Kd.N_reads' (Kd.N_mono (ok' := (fun _ => True)) (HO105.out) (fun k_ hk => trivial))).2.1 (Kd.N_F (Kd.N_mono (ok' := (fun _ => True)) (HO105.out) (fun k_ hk => trivial))))) (Reps.none _ _))); intro v107 w137 ho138 hb hg_ hnew_; clear hg_ hnew_; (first | rw [← Ny106.out] at ho138 | (simp only [Int.reduceToNat] at ho138; rw [← Ny106.out] at ho138)); have HO108 := Aside0.mk (Kd.N_lower ho138 (below_size (bl_ HB))); replace HB := hs_ HB hb; clear HO105; clear hb ho138; obtain ⟨Ao139, co139, eo139⟩ := Kd.N_slice HO108.out; subst eo139) | ((with_reducible refine gate_callee (f := 27) rfl ?_); refine goesL_ (some 8) rfl rfl Try.func27 (by kernel_rfl) rfl #[.string (⟨#[115, 117, 99]⟩ : ByteArray), .slice Ao139 y106.length co139] rfl (by (try simp only [List.map_toArray, List.map_cons, List.map_nil]); first | done | rfl | (simp only [List.length_drop, List.length_take]; rfl)) ?_; (with_reducible refine (telamonlaw21_P.calls (⟨#[115, 117, 99]⟩ : ByteArray) (fun k_ => True) _ _ y106 t109 t110 t111 _ ?side1 A2.out).mono ?_); (case side1 => exact Kd.N_V (HO108.out)); rintro e w140 ⟨v112, rfl, ho0, hb⟩; refine ⟨_, rfl, ?_⟩; have HO113 := Aside0.mk (Kd.V_lower (Kd.V_mono (ok' := fun k_ => True) ho0 (fun k_ hk_ => trivial)) (below_size (bl_ HB))); replace HO108 := Aside0.mk (Kd.N_below (by (with_reducible repeat (first | apply Kd.N_alloc | apply Kd.N_drewN | apply Kd.N_drew)); exact HO108.out) hb); replace HB := hs_ HB hb; (try clear hb); (try clear hb2); (try clear hk); (try clear hi); (try clear ho0)) | ((with_reducible refine gate_dst (N := 1) rfl ?_); (try (refine gate_guard (by rfl) ?_; dsimp only)); refine box_event ?hg (N := 1) ?hd (cs := #[.int .i64 0, .string (⟨#[]⟩ : ByteArray), .slice none 0 0]) (t := 36) ?hr ?_; (case hd => rfl); (case hg => rfl); (case hr => first | (go_simp; done) | (go_simp; rfl)); intro gb114 hg w141 hbox hb; have BK114 := Aside0.mk (hbox); have GW114 := Aside0.mk ((bs_ hg HB : w.heap.size ≤ gb114)); have GE114 := Aside0.mk ((bs_ hg HB : w.heap.size ≤ gb114)); replace HO108 := Aside0.mk (Kd.N_below (Kd.N_elderB (by (with_reducible repeat (first | apply Kd.N_alloc | apply Kd.N_drewN | apply Kd.N_drew)); exact HO108.out) gb114 (Nat.le_of_eq hg.symm)) hb); replace HO113 := Aside0.mk (Kd.V_below (Kd.V_elderB (by (with_reducible repeat (first | apply Kd.V_alloc | apply Kd.V_drewN | apply Kd.V_drew)); exact HO113.out) gb114 (Nat.le_of_eq hg.symm)) hb); replace HB := hs_ HB hb; clear hb hbox hg; have hcz142_0 : w141.cell? ⟨gb114, 0, none⟩ = some (.int .i64 0) := (blk_cell BK114.out 0).trans rfl; have hcz142_1 : w141.cell? ⟨gb114, 1, none⟩ = some (.string (⟨#[]⟩ : ByteArray)) := (blk_cell BK114.out 1).trans rfl; have hcz142_2 : w141.cell? ⟨gb114, 2, none⟩ = some (.slice none 0 0) := (blk_cell BK114.out 2).trans rfl; have hfz142_0 := blk_frozen BK114.out 0; have hfz142_1 := blk_frozen BK114.out 1; have hfz142_2 := blk_frozen BK114.out 2; obtain ⟨Ao143, co143, eo143⟩ := Kd.V_slice HO113.out; subst eo143))
  have n0_ : Aside0 (Kd.N k36 36 (((w141.setCell ⟨gb114, 0, none⟩ (.int .i64 t109)).setCell ⟨gb114, 1, none⟩ (.string t110)).setCell ⟨gb114, 2, none⟩ (.slice Ao143 t111.length co143)) w.heap.size (fun k_ => k_ ≠ gb114) (.slice Ao139 y106.length co139) y106) := ⟨by (with_reducible repeat (first | apply Kd.N_alloc | apply Kd.N_drewN | apply Kd.N_drew)); exact Kd.N_mono (Kd.N_far (p := ⟨gb114, 2, none⟩) (Kd.N_far (p := ⟨gb114, 1, none⟩) (Kd.N_far (p := ⟨gb114, 0, none⟩) (Kd.N_mono HO108.out (fun k_ hk => (⟨hk, hk.2⟩ : _ ∧ k_ ≠ gb114))) (fun _ hk => hk.2) (.int .i64 t109)) (fun _ hk => hk.2) (.string t110)) (fun _ hk => hk.2) (.slice Ao143 t111.length co143)) (fun _ hk => hk.1.2)⟩
  have n1_ : Aside0 (Kd.V k36 36 (((w141.setCell ⟨gb114, 0, none⟩ (.int .i64 t109)).setCell ⟨gb114, 1, none⟩ (.string t110)).setCell ⟨gb114, 2, none⟩ (.slice Ao143 t111.length co143)) w.heap.size (fun k_ => k_ ≠ gb114) (.slice Ao143 t111.length co143) t111) := ⟨by (with_reducible repeat (first | apply Kd.V_alloc | apply Kd.V_drewN | apply Kd.V_drew)); exact Kd.V_mono (Kd.V_far (p := ⟨gb114, 2, none⟩) (Kd.V_far (p := ⟨gb114, 1, none⟩) (Kd.V_far (p := ⟨gb114, 0, none⟩) (Kd.V_mono HO113.out (fun k_ hk => (⟨hk, hk.2⟩ : _ ∧ k_ ≠ gb114))) (fun _ hk => hk.2) (.int .i64 t109)) (fun _ hk => hk.2) (.string t110)) (fun _ hk => hk.2) (.slice Ao143 t111.length co143)) (fun _ hk => hk.1.2)⟩
  have n2_ : Aside0 ((((w141.setCell ⟨gb114, 0, none⟩ (.int .i64 t109)).setCell ⟨gb114, 1, none⟩ (.string t110)).setCell ⟨gb114, 2, none⟩ (.slice Ao143 t111.length co143)).heap[gb114]? = some (.cells #[.int .i64 t109, .string t110, .slice Ao143 t111.length co143] 36 (0, 0))) := ⟨by (with_reducible repeat (first | refine blk_drewN ?_ _ | refine blk_drew ?_ | refine blk_alloc ?_ _)); refine blk_put (cs := #[.int .i64 t109, .string t110, .slice none 0 0]) ?_ 2 _ rfl; (with_reducible repeat (first | refine blk_drewN ?_ _ | refine blk_drew ?_ | refine blk_alloc ?_ _)); refine blk_put (cs := #[.int .i64 t109, .string (⟨#[]⟩ : ByteArray), .slice none 0 0]) ?_ 1 _ rfl; (with_reducible repeat (first | refine blk_drewN ?_ _ | refine blk_drew ?_ | refine blk_alloc ?_ _)); refine blk_put (cs := #[.int .i64 0, .string (⟨#[]⟩ : ByteArray), .slice none 0 0]) ?_ 0 _ rfl; (with_reducible repeat (first | refine blk_drewN ?_ _ | refine blk_drew ?_ | refine blk_alloc ?_ _)); exact BK114.out⟩
  have n3_ : Aside0 (Below w.heap.size w (((w141.setCell ⟨gb114, 0, none⟩ (.int .i64 t109)).setCell ⟨gb114, 1, none⟩ (.string t110)).setCell ⟨gb114, 2, none⟩ (.slice Ao143 t111.length co143))) := ⟨by repeat (first | (with_reducible first | exact HB.out | apply below_alloc | apply pw_below_drewN | apply below_drew1 | refine below_set ?_ GE114.out) | exact HB.out)⟩
  (try clear HO108); (try clear HO113); (try clear BK114); (try clear HB)
  generalize (((w141.setCell ⟨gb114, 0, none⟩ (.int .i64 t109)).setCell ⟨gb114, 1, none⟩ (.string t110)).setCell ⟨gb114, 2, none⟩ (.slice Ao143 t111.length co143)) = w144 at n0_ n1_ n2_ n3_ ⊢
  have HO108 := n0_
  have HO113 := n1_
  have BK114 := n2_
  have HB := n3_
  clear n0_ n1_ n2_ n3_
  replace HO108 := Aside0.mk (Kd.N_drew HO108.out)
  replace HO113 := Aside0.mk (Kd.V_drew HO113.out)
  replace BK114 := Aside0.mk (blk_drew BK114.out)
  replace HB := Aside0.mk (below_drew1 HB.out)
  refine start_ (n := 12) (S := fun w' => w'.cell? ⟨gb114, 0, none⟩ = some (.int .i64 t109) ∧ w'.cell? ⟨gb114, 1, none⟩ = some (.string t110) ∧ w'.cell? ⟨gb114, 2, none⟩ = some (.slice Ao143 t111.length co143)) (ds := []) #[false, false, false, false, false, false, false, false, false, false, false, false] (by kernel_rfl) rfl rfl ⟨(blk_cell BK114.out 0).trans rfl, (blk_cell BK114.out 1).trans rfl, (blk_cell BK114.out 2).trans rfl⟩ (fun hHeld => ?_); refine with_tabW telamonlaw23_alive.tab2 telamonlaw23_alive.bits2 (fun HT_ HW_ => ?_)
  generalize w144.drew = w145 at HO108 HO113 BK114 HB HO108 HO113 hHeld ⊢
  refine take_ (i := 1) (N := some 11) (v := ?_) (a' := ?_) #[false, true, false, false, false, false, false, false, false, false, false, false] rfl rfl (take_ofW HT_.out HW_.out (by kernel_rfl)) (fun _ _ _ h => h) (Or.inl ⟨by rfl, ?_⟩) hHeld ?_ ?_
  rotate_left
  ·rintro w' ⟨s0, s1, s2⟩
   go_simp
   with_reducible rfl
  rotate_left
  ·simp only [Act.put, List.setIfInBounds_toArray, List.set_cons_zero, List.set_cons_succ, i64_w, i32_w]
   rfl
  refine join_ (σ := Value × Value × Value) 8 #[true, true, true, true, false, false, false, false, false, false, false, false] (fun s_ => [(10, .agg #[.int .i64 t115, .string t116, s_.1]), (12, s_.2.1), (13, s_.2.2)]) (fun s_ w' => (w'.cell? ⟨gb114, 0, none⟩ = some (.int .i64 t109) ∧ w'.cell? ⟨gb114, 1, none⟩ = some (.string t110) ∧ w'.cell? ⟨gb114, 2, none⟩ = some (.slice Ao143 t111.length co143)) ∧ (Kd.N k36 36 w' w.heap.size (fun k_ => some k_ ≠ (s_.2.1 : Value).ownBlock ∧ some k_ ≠ (s_.2.2 : Value).ownBlock ∧ k_ ≠ gb114) (.slice Ao139 y106.length co139) y106) ∧ (Kd.V k36 36 w' w.heap.size (fun k_ => some k_ ≠ (s_.2.1 : Value).ownBlock ∧ some k_ ≠ (s_.2.2 : Value).ownBlock ∧ k_ ≠ gb114) (.slice Ao143 t111.length co143) t111) ∧ (Kd.N k36 36 w' w.heap.size (fun k_ => some k_ ≠ (s_.2.2 : Value).ownBlock ∧ k_ ≠ gb114) s_.2.1 y120) ∧ (Kd.R (Kd.int .i64) 3 w' w.heap.size (fun _ => True) s_.2.2 y123) ∧ (w'.heap[gb114]? = some (.cells #[.int .i64 t109, .string t110, .slice Ao143 t111.length co143] 36 (0, 0))) ∧ (Below w.heap.size w w')) ?_ ?_
  rotate_left
  ·intro hCont
   refine two_ (i := 0) (j := 3) (Ni := some 10) (Nj := some 13) #[true, true, false, false, false, false, false, false, false, false, false, false] #[false, true, false, true, false, false, false, false, false, false, false, false] rfl rfl rfl rfl (two_of HT_.out (by kernel_rfl)) (by decide) (by decide) (fun K hK => ?_) (fun K hK => ?_)
   ·skip
    refine goes_ Try.func26 (by kernel_rfl) rfl #[] (by rfl) rfl rfl (by (try simp only [List.map_toArray, List.map_cons, List.map_nil]); first | done | rfl | (simp only [List.length_drop, List.length_take]; rfl)) ?_
    with_reducible refine (telamonlaw21_V.calls  t115 t116 t117 _ A3.out).mono ?_
    rintro e w146 ⟨v118, rfl, ho0, hb⟩
    refine ⟨_, rfl, ?_⟩
    have HO119 := Aside0.mk (Kd.N_lower (Kd.N_mono (ok' := fun k_ => some k_ ≠ (.slice Ao139 y106.length co139 : Value).ownBlock ∧ k_ ≠ gb114) (Kd.R_N (Kd.R_bound ho0)) (fun k_ hk_ => ⟨(Kd.fresh' (Kd.N_lt (by (with_reducible repeat (first | apply Kd.N_alloc | apply Kd.N_drewN | apply Kd.N_drew)); exact HO108.out)) k_ hk_.2.1), (Kd.freshB (g := gb114) (o := .cells #[.int .i64 t109, .string t110, .slice Ao143 t111.length co143] 36 (0, 0)) (pl_ BK114) k_ hk_.2.1)⟩)) (below_size (bl_ HB)))
    replace HO108 := Aside0.mk (Kd.N_elder' (by (with_reducible repeat (first | apply Kd.N_alloc | apply Kd.N_drewN | apply Kd.N_drew)); exact HO108.out) (Kd.N_base (Kd.R_N (Kd.R_bound ho0))) hb)
    replace HO113 := Aside0.mk (Kd.V_elder' (by (with_reducible repeat (first | apply Kd.V_alloc | apply Kd.V_drewN | apply Kd.V_drew)); exact HO113.out) (Kd.N_base (Kd.R_N (Kd.R_bound ho0))) hb)
    replace BK114 := bb_ BK114 hb
    replace HB := hs_ HB hb
    (try clear hb); (try clear hb2); (try clear hk); (try clear hi); (try clear ho0)
    obtain ⟨Ao147, co147, eo147⟩ := Kd.N_slice HO119.out
    (first | subst eo147 | (injection eo147 with f1_ f2_ f3_; have f4_ := f1_.symm; have f5_ := f3_.symm; clear f1_ f2_ f3_; subst f4_; subst f5_))
    refine hK.out _ _ ⟨(blk_cell BK114.out 0).trans rfl, (blk_cell BK114.out 1).trans rfl, (blk_cell BK114.out 2).trans rfl⟩ (fun hHeld => ?_)
    clear hK K
    refine norm_ (a' := ?_) ?_ ?_
    rotate_left
    ·show Act.put _ (some 10) _ = _
     simp only [Act.put, List.setIfInBounds_toArray, List.set_cons_zero, List.set_cons_succ, i64_w, i32_w]
     rfl
    refine two_ (i := 2) (j := 3) (Ni := some 12) (Nj := some 13) #[true, true, true, false, false, false, false, false, false, false, false, false] #[true, true, false, true, false, false, false, false, false, false, false, false] rfl rfl rfl rfl (two_of HT_.out (by kernel_rfl)) (by decide) (by decide) (fun K hK => ?_) (fun K hK => ?_)
    ·skip
     refine Kd.N_lit_step k36 _ 36 ?hg (N' := 12) ?hd (xs := ([(⟨t115, t116, t117⟩ : S36), (⟨t109, t110, t111⟩ : S36)] : List (S36))) (inner := [.int .i64 t115, .string t116, .slice Ao147 t117.length co147, .int .i64 t109, .string t110, .slice Ao143 t111.length co143]) (ok := (fun k_ => k_ ≠ gb114)) (okp := (fun k_ => k_ ≠ gb114)) ?hr ?hp (fun _ hk => hk) ((show ∀ k_, w146.heap.size ≤ k_ → (fun k_ => k_ ≠ gb114) k_ from fun k_ hk => Kd.freshB (g := gb114) (o := .cells #[.int .i64 t109, .string t110, .slice Ao143 t111.length co143] 36 (0, 0)) (pl_ BK114) k_ hk) _ (Nat.le_refl _)) (Below.refl _ _) (Nat.le_refl _) (by simp) ?_; (case hd => rfl); (case hg => rfl); (case hr => first | (go_simp; done) | (go_simp; rfl)); (case hp => exact (Reps.c3 (show Kd.FK k36 _ _ (⟨t115, t116, t117⟩ : S36) [.int .i64 t115, .string t116, .slice Ao147 t117.length co147] from (k36_mkF _ _ (⟨t115, t116, t117⟩ : S36) (Kd.N_reads' (Kd.N_mono (ok' := (fun k_ => k_ ≠ gb114)) (HO119.out) (fun k_ hk => hk.2))).2.1 (Kd.N_F (Kd.N_mono (ok' := (fun k_ => k_ ≠ gb114)) (HO119.out) (fun k_ hk => hk.2))))) (Reps.c3 (show Kd.FK k36 _ _ (⟨t109, t110, t111⟩ : S36) [.int .i64 t109, .string t110, .slice Ao143 t111.length co143] from (k36_mkF _ _ (⟨t109, t110, t111⟩ : S36) (Kd.V_reads' (Kd.V_mono (ok' := (fun k_ => k_ ≠ gb114)) (HO113.out) (fun k_ hk => hk.1))).2.1 (Kd.V_F (Kd.V_mono (ok' := (fun k_ => k_ ≠ gb114)) (HO113.out) (fun k_ hk => hk.1))))) (Reps.none _ _))))
     intro v121 w148 ho149 hb hg_ hnew_
     clear hg_ hnew_
     (first | rw [← Ny120.out] at ho149 | (simp only [Int.reduceToNat] at ho149; rw [← Ny120.out] at ho149))
     have HO122 := Aside0.mk (Kd.N_lower ho149 (below_size (bl_ HB)))
     replace HO108 := Aside0.mk (Kd.N_elder' (by (with_reducible repeat (first | apply Kd.N_alloc | apply Kd.N_drewN | apply Kd.N_drew)); exact HO108.out) (Kd.N_base ho149) hb)
     replace HO113 := Aside0.mk (Kd.V_elder' (by (with_reducible repeat (first | apply Kd.V_alloc | apply Kd.V_drewN | apply Kd.V_drew)); exact HO113.out) (Kd.N_base ho149) hb)
     replace BK114 := bb_ BK114 hb
     replace HB := hs_ HB hb
     clear HO119 hb ho149
     refine hK.out _ _ ⟨(blk_cell BK114.out 0).trans rfl, (blk_cell BK114.out 1).trans rfl, (blk_cell BK114.out 2).trans rfl⟩ (fun hHeld => ?_)
     clear hK K
     refine norm_ (a' := ?_) ?_ ?_
     rotate_left
     ·show Act.put _ (some 12) _ = _
      simp only [Act.put, List.setIfInBounds_toArray, List.set_cons_zero, List.set_cons_succ, i64_w, i32_w]
      rfl
     refine one_ (i := 3) (N := some 13) #[true, true, true, true, false, false, false, false, false, false, false, false] rfl rfl (one_of HT_.out (by kernel_rfl)) (by decide) (fun K hK => ?_)
     refine Kd.R_lit_step (Kd.int .i64) _ 3 ?hg (N := 13) ?hd (xs := ([0, 1] : List Int)) (inner := [.int .i64 0, .int .i64 1]) (ok := fun _ => True) (okp := fun _ => True) ?hr ?hp (fun _ hk => hk) trivial (Below.refl _ _) (Nat.le_refl _) (by simp) ?_; (case hd => rfl); (case hg => rfl); (case hr => first | (go_simp; done) | (go_simp; rfl)); (case hp => exact (Reps.one (show Kd.M (Kd.int .i64) _ _ _ 0 [.int .i64 0] from rfl) (Reps.one (show Kd.M (Kd.int .i64) _ _ _ 1 [.int .i64 1] from rfl) (Reps.none _ _))))
     intro v124 w150 ho151 hb hg_ hnew_
     clear hg_ hnew_
     (first | rw [← Ny123.out] at ho151 | (simp only [Int.reduceToNat] at ho151; rw [← Ny123.out] at ho151))
     have HO125 := Aside0.mk (Kd.R_lower ho151 (below_size (bl_ HB)))
     replace HO108 := Aside0.mk (Kd.N_elder' (by (with_reducible repeat (first | apply Kd.N_alloc | apply Kd.N_drewN | apply Kd.N_drew)); exact HO108.out) (Kd.R_base ho151) hb)
     replace HO113 := Aside0.mk (Kd.V_elder' (by (with_reducible repeat (first | apply Kd.V_alloc | apply Kd.V_drewN | apply Kd.V_drew)); exact HO113.out) (Kd.R_base ho151) hb)
     replace HO122 := Aside0.mk (Kd.N_elder' (by (with_reducible repeat (first | apply Kd.N_alloc | apply Kd.N_drewN | apply Kd.N_drew)); exact HO122.out) (Kd.R_base ho151) hb)
     replace BK114 := bb_ BK114 hb
     replace HB := hs_ HB hb
     clear hb ho151
     obtain ⟨Ao152, co152, eo152⟩ := Kd.R_slice HO125.out
     (first | subst eo152 | (injection eo152 with f1_ f2_ f3_; have f4_ := f1_.symm; have f5_ := f3_.symm; clear f1_ f2_ f3_; subst f4_; subst f5_))
     obtain ⟨Ao153, co153, eo153⟩ := Kd.N_slice HO122.out
     (first | subst eo153 | (injection eo153 with f1_ f2_ f3_; have f4_ := f1_.symm; have f5_ := f3_.symm; clear f1_ f2_ f3_; subst f4_; subst f5_))
     refine hK.out _ _ ⟨(blk_cell BK114.out 0).trans rfl, (blk_cell BK114.out 1).trans rfl, (blk_cell BK114.out 2).trans rfl⟩ (fun hHeld => ?_)
     clear hK K
     refine norm_ (a' := ?_) ?_ ?_
     rotate_left
     ·show Act.put _ (some 13) _ = _
      simp only [Act.put, List.setIfInBounds_toArray, List.set_cons_zero, List.set_cons_succ, i64_w, i32_w]
      rfl
     exact norm_ (by simp only [putAll, Act.put, List.setIfInBounds_toArray, List.set_cons_zero, List.set_cons_succ]) (hCont (.slice Ao147 t117.length co147, .slice Ao153 y120.length co153, .slice Ao152 y123.length co152) _ ⟨hHeld, (by (with_reducible repeat (first | apply Kd.N_alloc | apply Kd.N_drewN | apply Kd.N_drew)); exact Kd.N_mono HO108.out (fun _ hk => ⟨hk.1.2, ⟨hk.2, hk.1.1.1⟩⟩)), (by (with_reducible repeat (first | apply Kd.V_alloc | apply Kd.V_drewN | apply Kd.V_drew)); exact Kd.V_mono HO113.out (fun _ hk => ⟨hk.1.2, ⟨hk.2, hk.1.1.1⟩⟩)), (by (with_reducible repeat (first | apply Kd.N_alloc | apply Kd.N_drewN | apply Kd.N_drew)); exact Kd.N_mono HO122.out (fun _ hk => ⟨hk.2, hk.1⟩)), (rl_ HO125), (pl_ BK114), (bl_ HB)⟩)
    ·skip
     refine Kd.R_lit_step (Kd.int .i64) _ 3 ?hg (N := 13) ?hd (xs := ([0, 1] : List Int)) (inner := [.int .i64 0, .int .i64 1]) (ok := fun _ => True) (okp := fun _ => True) ?hr ?hp (fun _ hk => hk) trivial (Below.refl _ _) (Nat.le_refl _) (by simp) ?_; (case hd => rfl); (case hg => rfl); (case hr => first | (go_simp; done) | (go_simp; rfl)); (case hp => exact (Reps.one (show Kd.M (Kd.int .i64) _ _ _ 0 [.int .i64 0] from rfl) (Reps.one (show Kd.M (Kd.int .i64) _ _ _ 1 [.int .i64 1] from rfl) (Reps.none _ _))))
     intro v124 w147 ho148 hb hg_ hnew_
     clear hg_ hnew_
     (first | rw [← Ny123.out] at ho148 | (simp only [Int.reduceToNat] at ho148; rw [← Ny123.out] at ho148))
     have HO125 := Aside0.mk (Kd.R_lower ho148 (below_size (bl_ HB)))
     replace HO108 := Aside0.mk (Kd.N_elder' (by (with_reducible repeat (first | apply Kd.N_alloc | apply Kd.N_drewN | apply Kd.N_drew)); exact HO108.out) (Kd.R_base ho148) hb)
     replace HO113 := Aside0.mk (Kd.V_elder' (by (with_reducible repeat (first | apply Kd.V_alloc | apply Kd.V_drewN | apply Kd.V_drew)); exact HO113.out) (Kd.R_base ho148) hb)
     replace HO119 := Aside0.mk (Kd.N_elder' (by (with_reducible repeat (first | apply Kd.N_alloc | apply Kd.N_drewN | apply Kd.N_drew)); exact HO119.out) (Kd.R_base ho148) hb)
     replace BK114 := bb_ BK114 hb
     replace HB := hs_ HB hb
     clear hb ho148
     obtain ⟨Ao149, co149, eo149⟩ := Kd.N_slice HO119.out
     (first | subst eo149 | (injection eo149 with f1_ f2_ f3_; have f4_ := f1_.symm; have f5_ := f3_.symm; clear f1_ f2_ f3_; subst f4_; subst f5_))
     refine hK.out _ _ ⟨(blk_cell BK114.out 0).trans rfl, (blk_cell BK114.out 1).trans rfl, (blk_cell BK114.out 2).trans rfl⟩ (fun hHeld => ?_)
     clear hK K
     refine norm_ (a' := ?_) ?_ ?_
     rotate_left
     ·show Act.put _ (some 13) _ = _
      simp only [Act.put, List.setIfInBounds_toArray, List.set_cons_zero, List.set_cons_succ, i64_w, i32_w]
      rfl
     refine one_ (i := 2) (N := some 12) #[true, true, true, true, false, false, false, false, false, false, false, false] rfl rfl (one_of HT_.out (by kernel_rfl)) (by decide) (fun K hK => ?_)
     refine Kd.N_lit_step k36 _ 36 ?hg (N' := 12) ?hd (xs := ([(⟨t115, t116, t117⟩ : S36), (⟨t109, t110, t111⟩ : S36)] : List (S36))) (inner := [.int .i64 t115, .string t116, .slice Ao149 t117.length co149, .int .i64 t109, .string t110, .slice Ao143 t111.length co143]) (ok := (fun k_ => some k_ ≠ (v124 : Value).ownBlock ∧ k_ ≠ gb114)) (okp := (fun k_ => some k_ ≠ (v124 : Value).ownBlock ∧ k_ ≠ gb114)) ?hr ?hp (fun _ hk => hk) ((show ∀ k_, w147.heap.size ≤ k_ → (fun k_ => some k_ ≠ (v124 : Value).ownBlock ∧ k_ ≠ gb114) k_ from fun k_ hk => ⟨Kd.fresh' (Kd.R_lt (rl_ HO125)) k_ hk, Kd.freshB (g := gb114) (o := .cells #[.int .i64 t109, .string t110, .slice Ao143 t111.length co143] 36 (0, 0)) (pl_ BK114) k_ hk⟩) _ (Nat.le_refl _)) (Below.refl _ _) (Nat.le_refl _) (by simp) ?_; (case hd => rfl); (case hg => rfl); (case hr => first | (go_simp; done) | (go_simp; rfl)); (case hp => exact (Reps.c3 (show Kd.FK k36 _ _ (⟨t115, t116, t117⟩ : S36) [.int .i64 t115, .string t116, .slice Ao149 t117.length co149] from (k36_mkF _ _ (⟨t115, t116, t117⟩ : S36) (Kd.N_reads' (Kd.N_mono (ok' := (fun k_ => some k_ ≠ (v124 : Value).ownBlock ∧ k_ ≠ gb114)) (HO119.out) (fun k_ hk => ⟨hk.2, hk.1.2⟩))).2.1 (Kd.N_F (Kd.N_mono (ok' := (fun k_ => some k_ ≠ (v124 : Value).ownBlock ∧ k_ ≠ gb114)) (HO119.out) (fun k_ hk => ⟨hk.2, hk.1.2⟩))))) (Reps.c3 (show Kd.FK k36 _ _ (⟨t109, t110, t111⟩ : S36) [.int .i64 t109, .string t110, .slice Ao143 t111.length co143] from (k36_mkF _ _ (⟨t109, t110, t111⟩ : S36) (Kd.V_reads' (Kd.V_mono (ok' := (fun k_ => some k_ ≠ (v124 : Value).ownBlock ∧ k_ ≠ gb114)) (HO113.out) (fun k_ hk => ⟨hk.2, hk.1.1⟩))).2.1 (Kd.V_F (Kd.V_mono (ok' := (fun k_ => some k_ ≠ (v124 : Value).ownBlock ∧ k_ ≠ gb114)) (HO113.out) (fun k_ hk => ⟨hk.2, hk.1.1⟩))))) (Reps.none _ _))))
     intro v121 w150 ho151 hb hg_ hnew_
     clear hg_ hnew_
     (first | rw [← Ny120.out] at ho151 | (simp only [Int.reduceToNat] at ho151; rw [← Ny120.out] at ho151))
     have HO122 := Aside0.mk (Kd.N_lower ho151 (below_size (bl_ HB)))
     replace HO108 := Aside0.mk (Kd.N_elder' (by (with_reducible repeat (first | apply Kd.N_alloc | apply Kd.N_drewN | apply Kd.N_drew)); exact HO108.out) (Kd.N_base ho151) hb)
     replace HO113 := Aside0.mk (Kd.V_elder' (by (with_reducible repeat (first | apply Kd.V_alloc | apply Kd.V_drewN | apply Kd.V_drew)); exact HO113.out) (Kd.N_base ho151) hb)
     replace HO125 := Aside0.mk (Kd.R_below (rl_ HO125) hb)
     replace BK114 := bb_ BK114 hb
     replace HB := hs_ HB hb
     clear HO119 hb ho151
     obtain ⟨Ao152, co152, eo152⟩ := Kd.R_slice HO125.out
     (first | subst eo152 | (injection eo152 with f1_ f2_ f3_; have f4_ := f1_.symm; have f5_ := f3_.symm; clear f1_ f2_ f3_; subst f4_; subst f5_))
     obtain ⟨Ao153, co153, eo153⟩ := Kd.N_slice HO122.out
     (first | subst eo153 | (injection eo153 with f1_ f2_ f3_; have f4_ := f1_.symm; have f5_ := f3_.symm; clear f1_ f2_ f3_; subst f4_; subst f5_))
     refine hK.out _ _ ⟨(blk_cell BK114.out 0).trans rfl, (blk_cell BK114.out 1).trans rfl, (blk_cell BK114.out 2).trans rfl⟩ (fun hHeld => ?_)
     clear hK K
     refine norm_ (a' := ?_) ?_ ?_
     rotate_left
     ·show Act.put _ (some 12) _ = _
      simp only [Act.put, List.setIfInBounds_toArray, List.set_cons_zero, List.set_cons_succ, i64_w, i32_w]
      rfl
     exact norm_ (by simp only [putAll, Act.put, List.setIfInBounds_toArray, List.set_cons_zero, List.set_cons_succ]) (hCont (.slice Ao149 t117.length co149, .slice Ao153 y120.length co153, .slice Ao152 y123.length co152) _ ⟨hHeld, (by (with_reducible repeat (first | apply Kd.N_alloc | apply Kd.N_drewN | apply Kd.N_drew)); exact Kd.N_mono HO108.out (fun _ hk => ⟨hk.2, ⟨hk.1.2, hk.1.1.1⟩⟩)), (by (with_reducible repeat (first | apply Kd.V_alloc | apply Kd.V_drewN | apply Kd.V_drew)); exact Kd.V_mono HO113.out (fun _ hk => ⟨hk.2, ⟨hk.1.2, hk.1.1.1⟩⟩)), (by (with_reducible repeat (first | apply Kd.N_alloc | apply Kd.N_drewN | apply Kd.N_drew)); exact HO122.out), (rl_ HO125), (pl_ BK114), (bl_ HB)⟩)
   ·skip
    refine Kd.R_lit_step (Kd.int .i64) _ 3 ?hg (N := 13) ?hd (xs := ([0, 1] : List Int)) (inner := [.int .i64 0, .int .i64 1]) (ok := fun _ => True) (okp := fun _ => True) ?hr ?hp (fun _ hk => hk) trivial (Below.refl _ _) (Nat.le_refl _) (by simp) ?_; (case hd => rfl); (case hg => rfl); (case hr => first | (go_simp; done) | (go_simp; rfl)); (case hp => exact (Reps.one (show Kd.M (Kd.int .i64) _ _ _ 0 [.int .i64 0] from rfl) (Reps.one (show Kd.M (Kd.int .i64) _ _ _ 1 [.int .i64 1] from rfl) (Reps.none _ _))))
    intro v124 w146 ho147 hb hg_ hnew_
    clear hg_ hnew_
    (first | rw [← Ny123.out] at ho147 | (simp only [Int.reduceToNat] at ho147; rw [← Ny123.out] at ho147))
    have HO125 := Aside0.mk (Kd.R_lower ho147 (below_size (bl_ HB)))
    replace HO108 := Aside0.mk (Kd.N_elder' (by (with_reducible repeat (first | apply Kd.N_alloc | apply Kd.N_drewN | apply Kd.N_drew)); exact HO108.out) (Kd.R_base ho147) hb)
    replace HO113 := Aside0.mk (Kd.V_elder' (by (with_reducible repeat (first | apply Kd.V_alloc | apply Kd.V_drewN | apply Kd.V_drew)); exact HO113.out) (Kd.R_base ho147) hb)
    replace BK114 := bb_ BK114 hb
    replace HB := hs_ HB hb
    clear hb ho147
    refine hK.out _ _ ⟨(blk_cell BK114.out 0).trans rfl, (blk_cell BK114.out 1).trans rfl, (blk_cell BK114.out 2).trans rfl⟩ (fun hHeld => ?_)
    clear hK K
    refine norm_ (a' := ?_) ?_ ?_
    rotate_left
    ·show Act.put _ (some 13) _ = _
     simp only [Act.put, List.setIfInBounds_toArray, List.set_cons_zero, List.set_cons_succ, i64_w, i32_w]
     rfl
    refine one_ (i := 0) (N := some 10) #[true, true, false, true, false, false, false, false, false, false, false, false] rfl rfl (one_of HT_.out (by kernel_rfl)) (by decide) (fun K hK => ?_)
    refine goes_ Try.func26 (by kernel_rfl) rfl #[] (by rfl) rfl rfl (by (try simp only [List.map_toArray, List.map_cons, List.map_nil]); first | done | rfl | (simp only [List.length_drop, List.length_take]; rfl)) ?_
    with_reducible refine (telamonlaw21_V.calls  t115 t116 t117 _ A3.out).mono ?_
    rintro e w148 ⟨v118, rfl, ho0, hb⟩
    refine ⟨_, rfl, ?_⟩
    have HO119 := Aside0.mk (Kd.N_lower (Kd.N_mono (ok' := fun k_ => some k_ ≠ (.slice Ao139 y106.length co139 : Value).ownBlock ∧ some k_ ≠ (v124 : Value).ownBlock ∧ k_ ≠ gb114) (Kd.R_N (Kd.R_bound ho0)) (fun k_ hk_ => ⟨(Kd.fresh' (Kd.N_lt (by (with_reducible repeat (first | apply Kd.N_alloc | apply Kd.N_drewN | apply Kd.N_drew)); exact HO108.out)) k_ hk_.2.1), (Kd.fresh' (Kd.R_lt (rl_ HO125)) k_ hk_.2.1), (Kd.freshB (g := gb114) (o := .cells #[.int .i64 t109, .string t110, .slice Ao143 t111.length co143] 36 (0, 0)) (pl_ BK114) k_ hk_.2.1)⟩)) (below_size (bl_ HB)))
    replace HO108 := Aside0.mk (Kd.N_elder' (by (with_reducible repeat (first | apply Kd.N_alloc | apply Kd.N_drewN | apply Kd.N_drew)); exact HO108.out) (Kd.N_base (Kd.R_N (Kd.R_bound ho0))) hb)
    replace HO113 := Aside0.mk (Kd.V_elder' (by (with_reducible repeat (first | apply Kd.V_alloc | apply Kd.V_drewN | apply Kd.V_drew)); exact HO113.out) (Kd.N_base (Kd.R_N (Kd.R_bound ho0))) hb)
    replace HO125 := Aside0.mk (Kd.R_below (rl_ HO125) hb)
    replace BK114 := bb_ BK114 hb
    replace HB := hs_ HB hb
    (try clear hb); (try clear hb2); (try clear hk); (try clear hi); (try clear ho0)
    obtain ⟨Ao149, co149, eo149⟩ := Kd.N_slice HO119.out
    (first | subst eo149 | (injection eo149 with f1_ f2_ f3_; have f4_ := f1_.symm; have f5_ := f3_.symm; clear f1_ f2_ f3_; subst f4_; subst f5_))
    refine hK.out _ _ ⟨(blk_cell BK114.out 0).trans rfl, (blk_cell BK114.out 1).trans rfl, (blk_cell BK114.out 2).trans rfl⟩ (fun hHeld => ?_)
    clear hK K
    refine norm_ (a' := ?_) ?_ ?_
    rotate_left
    ·show Act.put _ (some 10) _ = _
     simp only [Act.put, List.setIfInBounds_toArray, List.set_cons_zero, List.set_cons_succ, i64_w, i32_w]
     rfl
    refine one_ (i := 2) (N := some 12) #[true, true, true, true, false, false, false, false, false, false, false, false] rfl rfl (one_of HT_.out (by kernel_rfl)) (by decide) (fun K hK => ?_)
    refine Kd.N_lit_step k36 _ 36 ?hg (N' := 12) ?hd (xs := ([(⟨t115, t116, t117⟩ : S36), (⟨t109, t110, t111⟩ : S36)] : List (S36))) (inner := [.int .i64 t115, .string t116, .slice Ao149 t117.length co149, .int .i64 t109, .string t110, .slice Ao143 t111.length co143]) (ok := (fun k_ => some k_ ≠ (v124 : Value).ownBlock ∧ k_ ≠ gb114)) (okp := (fun k_ => some k_ ≠ (v124 : Value).ownBlock ∧ k_ ≠ gb114)) ?hr ?hp (fun _ hk => hk) ((show ∀ k_, w148.heap.size ≤ k_ → (fun k_ => some k_ ≠ (v124 : Value).ownBlock ∧ k_ ≠ gb114) k_ from fun k_ hk => ⟨Kd.fresh' (Kd.R_lt (rl_ HO125)) k_ hk, Kd.freshB (g := gb114) (o := .cells #[.int .i64 t109, .string t110, .slice Ao143 t111.length co143] 36 (0, 0)) (pl_ BK114) k_ hk⟩) _ (Nat.le_refl _)) (Below.refl _ _) (Nat.le_refl _) (by simp) ?_; (case hd => rfl); (case hg => rfl); (case hr => first | (go_simp; done) | (go_simp; rfl)); (case hp => exact (Reps.c3 (show Kd.FK k36 _ _ (⟨t115, t116, t117⟩ : S36) [.int .i64 t115, .string t116, .slice Ao149 t117.length co149] from (k36_mkF _ _ (⟨t115, t116, t117⟩ : S36) (Kd.N_reads' (Kd.N_mono (ok' := (fun k_ => some k_ ≠ (v124 : Value).ownBlock ∧ k_ ≠ gb114)) (HO119.out) (fun k_ hk => ⟨hk.2.1, hk.2.2⟩))).2.1 (Kd.N_F (Kd.N_mono (ok' := (fun k_ => some k_ ≠ (v124 : Value).ownBlock ∧ k_ ≠ gb114)) (HO119.out) (fun k_ hk => ⟨hk.2.1, hk.2.2⟩))))) (Reps.c3 (show Kd.FK k36 _ _ (⟨t109, t110, t111⟩ : S36) [.int .i64 t109, .string t110, .slice Ao143 t111.length co143] from (k36_mkF _ _ (⟨t109, t110, t111⟩ : S36) (Kd.V_reads' (Kd.V_mono (ok' := (fun k_ => some k_ ≠ (v124 : Value).ownBlock ∧ k_ ≠ gb114)) (HO113.out) (fun k_ hk => ⟨hk.1.2, hk.1.1⟩))).2.1 (Kd.V_F (Kd.V_mono (ok' := (fun k_ => some k_ ≠ (v124 : Value).ownBlock ∧ k_ ≠ gb114)) (HO113.out) (fun k_ hk => ⟨hk.1.2, hk.1.1⟩))))) (Reps.none _ _))))
    intro v121 w150 ho151 hb hg_ hnew_
    clear hg_ hnew_
    (first | rw [← Ny120.out] at ho151 | (simp only [Int.reduceToNat] at ho151; rw [← Ny120.out] at ho151))
    have HO122 := Aside0.mk (Kd.N_lower ho151 (below_size (bl_ HB)))
    replace HO108 := Aside0.mk (Kd.N_elder' (by (with_reducible repeat (first | apply Kd.N_alloc | apply Kd.N_drewN | apply Kd.N_drew)); exact HO108.out) (Kd.N_base ho151) hb)
    replace HO113 := Aside0.mk (Kd.V_elder' (by (with_reducible repeat (first | apply Kd.V_alloc | apply Kd.V_drewN | apply Kd.V_drew)); exact HO113.out) (Kd.N_base ho151) hb)
    replace HO125 := Aside0.mk (Kd.R_below (rl_ HO125) hb)
    replace BK114 := bb_ BK114 hb
    replace HB := hs_ HB hb
    clear HO119 hb ho151
    obtain ⟨Ao152, co152, eo152⟩ := Kd.R_slice HO125.out
    (first | subst eo152 | (injection eo152 with f1_ f2_ f3_; have f4_ := f1_.symm; have f5_ := f3_.symm; clear f1_ f2_ f3_; subst f4_; subst f5_))
    obtain ⟨Ao153, co153, eo153⟩ := Kd.N_slice HO122.out
    (first | subst eo153 | (injection eo153 with f1_ f2_ f3_; have f4_ := f1_.symm; have f5_ := f3_.symm; clear f1_ f2_ f3_; subst f4_; subst f5_))
    refine hK.out _ _ ⟨(blk_cell BK114.out 0).trans rfl, (blk_cell BK114.out 1).trans rfl, (blk_cell BK114.out 2).trans rfl⟩ (fun hHeld => ?_)
    clear hK K
    refine norm_ (a' := ?_) ?_ ?_
    rotate_left
    ·show Act.put _ (some 12) _ = _
     simp only [Act.put, List.setIfInBounds_toArray, List.set_cons_zero, List.set_cons_succ, i64_w, i32_w]
     rfl
    exact norm_ (by simp only [putAll, Act.put, List.setIfInBounds_toArray, List.set_cons_zero, List.set_cons_succ]) (hCont (.slice Ao149 t117.length co149, .slice Ao153 y120.length co153, .slice Ao152 y123.length co152) _ ⟨hHeld, (by (with_reducible repeat (first | apply Kd.N_alloc | apply Kd.N_drewN | apply Kd.N_drew)); exact Kd.N_mono HO108.out (fun _ hk => ⟨hk.2, ⟨hk.1.1.2, hk.1.1.1⟩⟩)), (by (with_reducible repeat (first | apply Kd.V_alloc | apply Kd.V_drewN | apply Kd.V_drew)); exact Kd.V_mono HO113.out (fun _ hk => ⟨hk.2, ⟨hk.1.1.2, hk.1.1.1⟩⟩)), (by (with_reducible repeat (first | apply Kd.N_alloc | apply Kd.N_drewN | apply Kd.N_drew)); exact HO122.out), (rl_ HO125), (pl_ BK114), (bl_ HB)⟩)
  rintro ⟨v118, v121, v124⟩ w154 ⟨hS_, h0_, h1_, h2_, h3_, h4_, h5_⟩
  have n0_ : Aside0 (Kd.N k36 36 w154 w.heap.size (fun k_ => some k_ ≠ (v121 : Value).ownBlock ∧ some k_ ≠ (v124 : Value).ownBlock ∧ k_ ≠ gb114) (.slice Ao139 y106.length co139) y106) := ⟨h0_⟩
  have n1_ : Aside0 (Kd.V k36 36 w154 w.heap.size (fun k_ => some k_ ≠ (v121 : Value).ownBlock ∧ some k_ ≠ (v124 : Value).ownBlock ∧ k_ ≠ gb114) (.slice Ao143 t111.length co143) t111) := ⟨h1_⟩
  have n2_ : Aside0 (Kd.N k36 36 w154 w.heap.size (fun k_ => some k_ ≠ (v124 : Value).ownBlock ∧ k_ ≠ gb114) v121 y120) := ⟨h2_⟩
  have n3_ : Aside0 (Kd.R (Kd.int .i64) 3 w154 w.heap.size (fun _ => True) v124 y123) := ⟨h3_⟩
  have n4_ : Aside0 (w154.heap[gb114]? = some (.cells #[.int .i64 t109, .string t110, .slice Ao143 t111.length co143] 36 (0, 0))) := ⟨h4_⟩
  have n5_ : Aside0 (Below w.heap.size w w154) := ⟨h5_⟩
  clear HO108 HO113 BK114 HB h0_ h1_ h2_ h3_ h4_ h5_
  have HO108 := n0_
  have HO113 := n1_
  have HO122 := n2_
  have HO125 := n3_
  have BK114 := n4_
  have HB := n5_
  clear n0_ n1_ n2_ n3_ n4_ n5_
  have hHeld : w154.cell? ⟨gb114, 0, none⟩ = some (.int .i64 t109) ∧ w154.cell? ⟨gb114, 1, none⟩ = some (.string t110) ∧ w154.cell? ⟨gb114, 2, none⟩ = some (.slice Ao143 t111.length co143) := hS_
  obtain ⟨Ao155, co155, eo155⟩ := Kd.R_slice HO125.out
  (first | subst eo155 | (injection eo155 with f1_ f2_ f3_; have f4_ := f1_.symm; have f5_ := f3_.symm; clear f1_ f2_ f3_; subst f4_; subst f5_))
  obtain ⟨Ao156, co156, eo156⟩ := Kd.N_slice HO122.out
  (first | subst eo156 | (injection eo156 with f1_ f2_ f3_; have f4_ := f1_.symm; have f5_ := f3_.symm; clear f1_ f2_ f3_; subst f4_; subst f5_))
  refine norm_ (a' := ?_) ?_ ?_
  rotate_left
  ·simp only [putAll, Act.put, List.setIfInBounds_toArray, List.set_cons_zero, List.set_cons_succ]
   rfl
  refine pure_ (i := 4) (N := some 14) (v := ?_) (a' := ?_) #[true, true, true, true, true, false, false, false, false, false, false, false] rfl rfl (any_of HT_.out (by kernel_rfl)) (fun _ _ _ h => h) (Or.inl ⟨by rfl, ?_⟩) ?_ ?_
  rotate_left
  ·intro w'
   go_simp
   with_reducible rfl
  rotate_left
  ·simp only [Act.put, List.setIfInBounds_toArray, List.set_cons_zero, List.set_cons_succ, i64_w, i32_w]
   rfl
  refine one_ (i := 5) (N := some 15) #[true, true, true, true, true, true, false, false, false, false, false, false] rfl rfl (one_of HT_.out (by kernel_rfl)) (by decide) (fun K hK => ?_)
  refine Kd.N_lit_step k31 _ 31 ?hg (N' := 15) ?hd (xs := ([(⟨y120, y123⟩ : S31)] : List (S31))) (inner := [.slice Ao156 y120.length co156, .slice Ao155 y123.length co155]) (ok := (fun k_ => k_ ≠ gb114)) (okp := (fun k_ => k_ ≠ gb114)) ?hr ?hp (fun _ hk => hk) ((show ∀ k_, w154.heap.size ≤ k_ → (fun k_ => k_ ≠ gb114) k_ from fun k_ hk => Kd.freshB (g := gb114) (o := .cells #[.int .i64 t109, .string t110, .slice Ao143 t111.length co143] 36 (0, 0)) (pl_ BK114) k_ hk) _ (Nat.le_refl _)) (Below.refl _ _) (Nat.le_refl _) (by simp) ?_; (case hd => rfl); (case hg => rfl); (case hr => first | (go_simp; done) | (go_simp; rfl)); (case hp => exact (Reps.c2 (show Kd.FK k31 _ _ (⟨y120, y123⟩ : S31) [.slice Ao156 y120.length co156, .slice Ao155 y123.length co155] from (k31_mkF _ _ (⟨y120, y123⟩ : S31) (Kd.N_reads' (Kd.N_mono (ok' := (fun k_ => k_ ≠ gb114)) (HO122.out) (fun k_ hk => hk.2))).2.1 (Kd.N_F (Kd.N_mono (ok' := (fun k_ => k_ ≠ gb114)) (HO122.out) (fun k_ hk => hk.2))) (Kd.R_reads' (Kd.R_mono (ok' := (fun k_ => k_ ≠ gb114)) (Kd.R_types (HO125.out) BK114.out (by decide)) (fun k_ hk => hk.2))).2.1 (Kd.R_F (Kd.R_mono (ok' := (fun k_ => k_ ≠ gb114)) (Kd.R_types (HO125.out) BK114.out (by decide)) (fun k_ hk => hk.2))))) (Reps.none _ _)))
  intro v127 w157 ho158 hb hg_ hnew_
  clear hg_ hnew_
  (first | rw [← Ny126.out] at ho158 | (simp only [Int.reduceToNat] at ho158; rw [← Ny126.out] at ho158))
  have HO128 := Aside0.mk (Kd.N_lower ho158 (below_size (bl_ HB)))
  replace HO108 := Aside0.mk (Kd.N_elder' (by (with_reducible repeat (first | apply Kd.N_alloc | apply Kd.N_drewN | apply Kd.N_drew)); exact HO108.out) (Kd.N_base ho158) hb)
  replace HO113 := Aside0.mk (Kd.V_elder' (by (with_reducible repeat (first | apply Kd.V_alloc | apply Kd.V_drewN | apply Kd.V_drew)); exact HO113.out) (Kd.N_base ho158) hb)
  replace BK114 := bb_ BK114 hb
  replace HB := hs_ HB hb
  clear HO122 HO125 hb ho158
  obtain ⟨Ao159, co159, eo159⟩ := Kd.N_slice HO128.out
  (first | subst eo159 | (injection eo159 with f1_ f2_ f3_; have f4_ := f1_.symm; have f5_ := f3_.symm; clear f1_ f2_ f3_; subst f4_; subst f5_))
  refine hK.out _ _ ⟨(blk_cell BK114.out 0).trans rfl, (blk_cell BK114.out 1).trans rfl, (blk_cell BK114.out 2).trans rfl⟩ (fun hHeld => ?_)
  clear hK K
  refine norm_ (a' := ?_) ?_ ?_
  rotate_left
  ·show Act.put _ (some 15) _ = _
   simp only [Act.put, List.setIfInBounds_toArray, List.set_cons_zero, List.set_cons_succ, i64_w, i32_w]
   rfl
  refine one_ (i := 6) (N := some 16) #[true, true, true, true, true, true, true, false, false, false, false, false] rfl rfl (one_of HT_.out (by kernel_rfl)) (by decide) (fun K hK => ?_)
  refine goes_ Try.func20 (by kernel_rfl) rfl #[.slice Ao159 y126.length co159, .int .i64 2] (by rfl) rfl rfl (by (try simp only [List.map_toArray, List.map_cons, List.map_nil]); first | done | rfl | (simp only [List.length_drop, List.length_take]; rfl)) ?_
  with_reducible refine (recurse_Find.calls _ _ y126 2 t129 false _ ?side1 ?side2 A4.out).mono ?_
  (case side1 => repeat (first | exact (Kd.N_reads' HO128.out).2.2 | (with_reducible refine Kd.C_alloc ?_ _) | (with_reducible refine Kd.C_drewN ?_ _) | (with_reducible refine Kd.C_drew ?_)))
  (case side2 => exact (Kd.N_reads' HO128.out).2.1)
  rintro e w160 ⟨rfl, hb⟩
  refine ⟨_, rfl, ?_⟩
  replace HO108 := Aside0.mk (Kd.N_below (by (with_reducible repeat (first | apply Kd.N_alloc | apply Kd.N_drewN | apply Kd.N_drew)); exact HO108.out) hb)
  replace HO113 := Aside0.mk (Kd.V_below (by (with_reducible repeat (first | apply Kd.V_alloc | apply Kd.V_drewN | apply Kd.V_drew)); exact HO113.out) hb)
  replace HO128 := Aside0.mk (Kd.N_below (by (with_reducible repeat (first | apply Kd.N_alloc | apply Kd.N_drewN | apply Kd.N_drew)); exact HO128.out) hb)
  replace BK114 := bb_ BK114 hb
  replace HB := hs_ HB hb
  (try clear hb); (try clear hb2); (try clear hk); (try clear hi)
  refine hK.out _ _ ⟨(blk_cell BK114.out 0).trans rfl, (blk_cell BK114.out 1).trans rfl, (blk_cell BK114.out 2).trans rfl⟩ (fun hHeld => ?_)
  clear hK K
  refine norm_ (a' := ?_) ?_ ?_
  rotate_left
  ·show Act.put _ (some 16) _ = _
   simp only [Act.put, List.setIfInBounds_toArray, List.set_cons_zero, List.set_cons_succ, i64_w, i32_w]
   rfl
  refine pure_ (i := 7) (N := some 9) (v := ?_) (a' := ?_) #[true, true, true, true, true, true, true, true, false, false, false, false] rfl rfl (any_of HT_.out (by kernel_rfl)) (fun _ _ _ h => h) (Or.inl ⟨by rfl, ?_⟩) ?_ ?_
  rotate_left
  ·intro w'
   go_simp
   with_reducible rfl
  rotate_left
  ·simp only [Act.put, List.setIfInBounds_toArray, List.set_cons_zero, List.set_cons_succ, i64_w, i32_w]
   rfl
  refine pure_ (i := 8) (N := some 17) (v := ?_) (a' := ?_) #[true, true, true, true, true, true, true, true, true, false, false, false] rfl rfl (any_of HT_.out (by kernel_rfl)) (fun _ _ _ h => h) (Or.inl ⟨by rfl, ?_⟩) ?_ ?_
  rotate_left
  ·intro w'
   go_simp
   with_reducible rfl
  rotate_left
  ·simp only [Act.put, List.setIfInBounds_toArray, List.set_cons_zero, List.set_cons_succ, i64_w, i32_w]
   rfl
  refine pure_ (i := 9) (N := some 18) (v := ?_) (a' := ?_) #[true, true, true, true, true, true, true, true, true, true, false, false] rfl rfl (any_of HT_.out (by kernel_rfl)) (fun _ _ _ h => h) (Or.inl ⟨by rfl, ?_⟩) ?_ ?_
  rotate_left
  ·intro w'
   go_simp
   with_reducible rfl
  rotate_left
  ·simp only [Act.put, List.setIfInBounds_toArray, List.set_cons_zero, List.set_cons_succ, i64_w, i32_w]
   rfl
  refine pure_ (i := 10) (N := some 2) (v := ?_) (a' := ?_) #[true, true, true, true, true, true, true, true, true, true, true, false] rfl rfl (any_of HT_.out (by kernel_rfl)) (fun _ _ _ h => h) (Or.inl ⟨by rfl, ?_⟩) ?_ ?_
  rotate_left
  ·intro w'
   go_simp
   with_reducible rfl
  rotate_left
  ·simp only [Act.put, List.setIfInBounds_toArray, List.set_cons_zero, List.set_cons_succ, i64_w, i32_w]
   rfl
  refine pure_ (i := 11) (N := some 3) (v := ?_) (a' := ?_) #[true, true, true, true, true, true, true, true, true, true, true, true] rfl rfl (any_of HT_.out (by kernel_rfl)) (fun _ _ _ h => h) (Or.inl ⟨by rfl, ?_⟩) ?_ ?_
  rotate_left
  ·intro w'
   go_simp
   with_reducible rfl
  rotate_left
  ·simp only [Act.put, List.setIfInBounds_toArray, List.set_cons_zero, List.set_cons_succ, i64_w, i32_w]
   rfl
  refine done_ (done_of HT_.out (by kernel_rfl)) ?_
  try go_wp2_with (first | ((with_reducible refine gate_callee (f := 26) rfl ?_); refine goesL_ (some 20) rfl rfl Try.func26 (by kernel_rfl) rfl #[] rfl (by (try simp only [List.map_toArray, List.map_cons, List.map_nil]); first | done | rfl | (simp only [List.length_drop, List.length_take]; rfl)) ?_; (with_reducible refine (telamonlaw21_V.calls  t131 t132 t133 _ A5.out).mono ?_); rintro e w161 ⟨v134, rfl, ho0, hb⟩; refine ⟨_, rfl, ?_⟩; have HO135 := Aside0.mk (Kd.N_lower (Kd.N_mono (ok' := fun k_ => some k_ ≠ (.slice Ao139 y106.length co139 : Value).ownBlock ∧ some k_ ≠ (.slice Ao159 y126.length co159 : Value).ownBlock ∧ k_ ≠ gb114) (Kd.R_N (Kd.R_bound ho0)) (fun k_ hk_ => ⟨(Kd.fresh' (Kd.N_lt (by (with_reducible repeat (first | apply Kd.N_alloc | apply Kd.N_drewN | apply Kd.N_drew)); exact HO108.out)) k_ hk_.2.1), (Kd.fresh' (Kd.N_lt (by (with_reducible repeat (first | apply Kd.N_alloc | apply Kd.N_drewN | apply Kd.N_drew)); exact HO128.out)) k_ hk_.2.1), (Kd.freshB (g := gb114) (o := .cells #[.int .i64 t109, .string t110, .slice Ao143 t111.length co143] 36 (0, 0)) (pl_ BK114) k_ hk_.2.1)⟩)) (below_size (bl_ HB))); replace HO108 := Aside0.mk (Kd.N_elder' (by (with_reducible repeat (first | apply Kd.N_alloc | apply Kd.N_drewN | apply Kd.N_drew)); exact HO108.out) (Kd.N_base (Kd.R_N (Kd.R_bound ho0))) hb); replace HO113 := Aside0.mk (Kd.V_elder' (by (with_reducible repeat (first | apply Kd.V_alloc | apply Kd.V_drewN | apply Kd.V_drew)); exact HO113.out) (Kd.N_base (Kd.R_N (Kd.R_bound ho0))) hb); replace HO128 := Aside0.mk (Kd.N_elder' (by (with_reducible repeat (first | apply Kd.N_alloc | apply Kd.N_drewN | apply Kd.N_drew)); exact HO128.out) (Kd.N_base (Kd.R_N (Kd.R_bound ho0))) hb); replace BK114 := bb_ BK114 hb; replace HB := hs_ HB hb; (try clear hb); (try clear hb2); (try clear hk); (try clear hi); (try clear ho0); obtain ⟨Ao162, co162, eo162⟩ := Kd.N_slice HO135.out; subst eo162) | ((with_reducible refine gate_dst (N := 21) rfl ?_); (try (refine gate_guard (by rfl) ?_; dsimp only)); refine Kd.N_lit k36 _ 36 ?hg (N' := 21) ?hd (xs := ([(⟨t131, t132, t133⟩ : S36)] : List (S36))) (inner := [.int .i64 t131, .string t132, .slice Ao162 t133.length co162]) (ok := (fun k_ => some k_ ≠ (.slice Ao139 y106.length co139 : Value).ownBlock ∧ some k_ ≠ (.slice Ao159 y126.length co159 : Value).ownBlock ∧ k_ ≠ gb114)) (okp := (fun k_ => some k_ ≠ (.slice Ao139 y106.length co139 : Value).ownBlock ∧ some k_ ≠ (.slice Ao159 y126.length co159 : Value).ownBlock ∧ k_ ≠ gb114)) ?hr ?hp (fun _ hk => hk) ((show ∀ k_, w161.heap.size ≤ k_ → (fun k_ => some k_ ≠ (.slice Ao139 y106.length co139 : Value).ownBlock ∧ some k_ ≠ (.slice Ao159 y126.length co159 : Value).ownBlock ∧ k_ ≠ gb114) k_ from fun k_ hk => ⟨Kd.fresh' (Kd.N_lt (by (with_reducible repeat (first | apply Kd.N_alloc | apply Kd.N_drewN | apply Kd.N_drew)); exact HO108.out)) k_ hk, Kd.fresh' (Kd.N_lt (by (with_reducible repeat (first | apply Kd.N_alloc | apply Kd.N_drewN | apply Kd.N_drew)); exact HO128.out)) k_ hk, Kd.freshB (g := gb114) (o := .cells #[.int .i64 t109, .string t110, .slice Ao143 t111.length co143] 36 (0, 0)) (pl_ BK114) k_ hk⟩) _ (Nat.le_refl _)) (Below.refl _ _) (Nat.le_refl _) (by simp) ?_; (case hd => rfl); (case hg => rfl); (case hr => first | (go_simp; done) | (go_simp; rfl)); (case hp => exact (Reps.c3 (show Kd.FK k36 _ _ (⟨t131, t132, t133⟩ : S36) [.int .i64 t131, .string t132, .slice Ao162 t133.length co162] from (k36_mkF _ _ (⟨t131, t132, t133⟩ : S36) (Kd.N_reads' (Kd.N_mono (ok' := (fun k_ => some k_ ≠ (.slice Ao139 y106.length co139 : Value).ownBlock ∧ some k_ ≠ (.slice Ao159 y126.length co159 : Value).ownBlock ∧ k_ ≠ gb114)) (HO135.out) (fun k_ hk => ⟨hk.1, ⟨hk.2.1, hk.2.2⟩⟩))).2.1 (Kd.N_F (Kd.N_mono (ok' := (fun k_ => some k_ ≠ (.slice Ao139 y106.length co139 : Value).ownBlock ∧ some k_ ≠ (.slice Ao159 y126.length co159 : Value).ownBlock ∧ k_ ≠ gb114)) (HO135.out) (fun k_ hk => ⟨hk.1, ⟨hk.2.1, hk.2.2⟩⟩))))) (Reps.none _ _))); intro v137 w163 ho164 hb hg_ hnew_; clear hg_ hnew_; (first | rw [← Ny136.out] at ho164 | (simp only [Int.reduceToNat] at ho164; rw [← Ny136.out] at ho164)); have HO138 := Aside0.mk (Kd.N_lower ho164 (below_size (bl_ HB))); replace HO108 := Aside0.mk (Kd.N_elder' (by (with_reducible repeat (first | apply Kd.N_alloc | apply Kd.N_drewN | apply Kd.N_drew)); exact HO108.out) (Kd.N_base ho164) hb); replace HO113 := Aside0.mk (Kd.V_elder' (by (with_reducible repeat (first | apply Kd.V_alloc | apply Kd.V_drewN | apply Kd.V_drew)); exact HO113.out) (Kd.N_base ho164) hb); replace HO128 := Aside0.mk (Kd.N_elder' (by (with_reducible repeat (first | apply Kd.N_alloc | apply Kd.N_drewN | apply Kd.N_drew)); exact HO128.out) (Kd.N_base ho164) hb); replace BK114 := bb_ BK114 hb; replace HB := hs_ HB hb; clear HO135; clear hb ho164) | ((with_reducible refine gate_dst (N := 22) rfl ?_); (try (refine gate_guard (by rfl) ?_; dsimp only)); refine Kd.R_lit (Kd.int .i64) _ 3 ?hg (N := 22) ?hd (xs := ([0] : List Int)) (inner := [.int .i64 0]) (ok := fun _ => True) (okp := fun _ => True) ?hr ?hp (fun _ hk => hk) trivial (Below.refl _ _) (Nat.le_refl _) (by simp) ?_; (case hd => rfl); (case hg => rfl); (case hr => first | (go_simp; done) | (go_simp; rfl)); (case hp => exact (Reps.one (show Kd.M (Kd.int .i64) _ _ _ 0 [.int .i64 0] from rfl) (Reps.none _ _))); intro v140 w165 ho166 hb hg_ hnew_; clear hg_ hnew_; (first | rw [← Ny139.out] at ho166 | (simp only [Int.reduceToNat] at ho166; rw [← Ny139.out] at ho166)); have HO141 := Aside0.mk (Kd.R_lower ho166 (below_size (bl_ HB))); replace HO108 := Aside0.mk (Kd.N_elder' (by (with_reducible repeat (first | apply Kd.N_alloc | apply Kd.N_drewN | apply Kd.N_drew)); exact HO108.out) (Kd.R_base ho166) hb); replace HO113 := Aside0.mk (Kd.V_elder' (by (with_reducible repeat (first | apply Kd.V_alloc | apply Kd.V_drewN | apply Kd.V_drew)); exact HO113.out) (Kd.R_base ho166) hb); replace HO128 := Aside0.mk (Kd.N_elder' (by (with_reducible repeat (first | apply Kd.N_alloc | apply Kd.N_drewN | apply Kd.N_drew)); exact HO128.out) (Kd.R_base ho166) hb); replace HO138 := Aside0.mk (Kd.N_elder' (by (with_reducible repeat (first | apply Kd.N_alloc | apply Kd.N_drewN | apply Kd.N_drew)); exact HO138.out) (Kd.R_base ho166) hb); replace BK114 := bb_ BK114 hb; replace HB := hs_ HB hb; clear hb ho166; obtain ⟨Ao167, co167, eo167⟩ := Kd.R_slice HO141.out; subst eo167; obtain ⟨Ao168, co168, eo168⟩ := Kd.N_slice HO138.out; subst eo168) | ((with_reducible refine gate_dst (N := 24) rfl ?_); (try (refine gate_guard (by rfl) ?_; dsimp only)); refine Kd.N_lit k31 _ 31 ?hg (N' := 24) ?hd (xs := ([(⟨y136, y139⟩ : S31)] : List (S31))) (inner := [.slice Ao168 y136.length co168, .slice Ao167 y139.length co167]) (ok := (fun k_ => some k_ ≠ (.slice Ao139 y106.length co139 : Value).ownBlock ∧ some k_ ≠ (.slice Ao159 y126.length co159 : Value).ownBlock ∧ k_ ≠ gb114)) (okp := (fun k_ => some k_ ≠ (.slice Ao139 y106.length co139 : Value).ownBlock ∧ some k_ ≠ (.slice Ao159 y126.length co159 : Value).ownBlock ∧ k_ ≠ gb114)) ?hr ?hp (fun _ hk => hk) ((show ∀ k_, w165.heap.size ≤ k_ → (fun k_ => some k_ ≠ (.slice Ao139 y106.length co139 : Value).ownBlock ∧ some k_ ≠ (.slice Ao159 y126.length co159 : Value).ownBlock ∧ k_ ≠ gb114) k_ from fun k_ hk => ⟨Kd.fresh' (Kd.N_lt (by (with_reducible repeat (first | apply Kd.N_alloc | apply Kd.N_drewN | apply Kd.N_drew)); exact HO108.out)) k_ hk, Kd.fresh' (Kd.N_lt (by (with_reducible repeat (first | apply Kd.N_alloc | apply Kd.N_drewN | apply Kd.N_drew)); exact HO128.out)) k_ hk, Kd.freshB (g := gb114) (o := .cells #[.int .i64 t109, .string t110, .slice Ao143 t111.length co143] 36 (0, 0)) (pl_ BK114) k_ hk⟩) _ (Nat.le_refl _)) (Below.refl _ _) (Nat.le_refl _) (by simp) ?_; (case hd => rfl); (case hg => rfl); (case hr => first | (go_simp; done) | (go_simp; rfl)); (case hp => exact (Reps.c2 (show Kd.FK k31 _ _ (⟨y136, y139⟩ : S31) [.slice Ao168 y136.length co168, .slice Ao167 y139.length co167] from (k31_mkF _ _ (⟨y136, y139⟩ : S31) (Kd.N_reads' (Kd.N_mono (ok' := (fun k_ => some k_ ≠ (.slice Ao139 y106.length co139 : Value).ownBlock ∧ some k_ ≠ (.slice Ao159 y126.length co159 : Value).ownBlock ∧ k_ ≠ gb114)) (HO138.out) (fun k_ hk => ⟨hk.1.1, ⟨hk.1.2.1, hk.1.2.2⟩⟩))).2.1 (Kd.N_F (Kd.N_mono (ok' := (fun k_ => some k_ ≠ (.slice Ao139 y106.length co139 : Value).ownBlock ∧ some k_ ≠ (.slice Ao159 y126.length co159 : Value).ownBlock ∧ k_ ≠ gb114)) (HO138.out) (fun k_ hk => ⟨hk.1.1, ⟨hk.1.2.1, hk.1.2.2⟩⟩))) (Kd.R_reads' (Kd.R_mono (ok' := (fun k_ => some k_ ≠ (.slice Ao139 y106.length co139 : Value).ownBlock ∧ some k_ ≠ (.slice Ao159 y126.length co159 : Value).ownBlock ∧ k_ ≠ gb114)) (Kd.R_types (Kd.R_apart' (Kd.R_apart' (HO141.out) (Kd.N_typed HO108.out) (by decide)) (Kd.N_typed HO128.out) (by decide)) BK114.out (by decide)) (fun k_ hk => ⟨hk.1.1.2, ⟨hk.1.2, hk.2⟩⟩))).2.1 (Kd.R_F (Kd.R_mono (ok' := (fun k_ => some k_ ≠ (.slice Ao139 y106.length co139 : Value).ownBlock ∧ some k_ ≠ (.slice Ao159 y126.length co159 : Value).ownBlock ∧ k_ ≠ gb114)) (Kd.R_types (Kd.R_apart' (Kd.R_apart' (HO141.out) (Kd.N_typed HO108.out) (by decide)) (Kd.N_typed HO128.out) (by decide)) BK114.out (by decide)) (fun k_ hk => ⟨hk.1.1.2, ⟨hk.1.2, hk.2⟩⟩))))) (Reps.none _ _))); intro v143 w169 ho170 hb hg_ hnew_; clear hg_ hnew_; (first | rw [← Ny142.out] at ho170 | (simp only [Int.reduceToNat] at ho170; rw [← Ny142.out] at ho170)); have HO144 := Aside0.mk (Kd.N_lower ho170 (below_size (bl_ HB))); replace HO108 := Aside0.mk (Kd.N_elder' (by (with_reducible repeat (first | apply Kd.N_alloc | apply Kd.N_drewN | apply Kd.N_drew)); exact HO108.out) (Kd.N_base ho170) hb); replace HO113 := Aside0.mk (Kd.V_elder' (by (with_reducible repeat (first | apply Kd.V_alloc | apply Kd.V_drewN | apply Kd.V_drew)); exact HO113.out) (Kd.N_base ho170) hb); replace HO128 := Aside0.mk (Kd.N_elder' (by (with_reducible repeat (first | apply Kd.N_alloc | apply Kd.N_drewN | apply Kd.N_drew)); exact HO128.out) (Kd.N_base ho170) hb); replace BK114 := bb_ BK114 hb; replace HB := hs_ HB hb; clear HO138; clear HO141; clear hb ho170; obtain ⟨Ao171, co171, eo171⟩ := Kd.N_slice HO144.out; subst eo171) | ((with_reducible refine gate_callee (f := 20) rfl ?_); refine goesL_ (some 25) rfl rfl Try.func20 (by kernel_rfl) rfl #[.slice Ao171 y142.length co171, .int .i64 1] rfl (by (try simp only [List.map_toArray, List.map_cons, List.map_nil]); first | done | rfl | (simp only [List.length_drop, List.length_take]; rfl)) ?_; (with_reducible refine (recurse_Find.calls _ _ y142 1 t145 t146 _ ?side1 ?side2 A6.out).mono ?_); (case side1 => repeat (first | exact (Kd.N_reads' HO144.out).2.2 | (with_reducible refine Kd.C_alloc ?_ _) | (with_reducible refine Kd.C_drewN ?_ _) | (with_reducible refine Kd.C_drew ?_))); (case side2 => exact (Kd.N_reads' HO144.out).2.1); rintro e w172 ⟨rfl, hb⟩; refine ⟨_, rfl, ?_⟩; replace HO108 := Aside0.mk (Kd.N_below (by (with_reducible repeat (first | apply Kd.N_alloc | apply Kd.N_drewN | apply Kd.N_drew)); exact HO108.out) hb); replace HO113 := Aside0.mk (Kd.V_below (by (with_reducible repeat (first | apply Kd.V_alloc | apply Kd.V_drewN | apply Kd.V_drew)); exact HO113.out) hb); replace HO128 := Aside0.mk (Kd.N_below (by (with_reducible repeat (first | apply Kd.N_alloc | apply Kd.N_drewN | apply Kd.N_drew)); exact HO128.out) hb); replace HO144 := Aside0.mk (Kd.N_below (by (with_reducible repeat (first | apply Kd.N_alloc | apply Kd.N_drewN | apply Kd.N_drew)); exact HO144.out) hb); replace BK114 := bb_ BK114 hb; replace HB := hs_ HB hb; (try clear hb); (try clear hb2); (try clear hk); (try clear hi)))
  replace HO108 := Aside0.mk (Kd.N_drew HO108.out)
  replace HO113 := Aside0.mk (Kd.V_drew HO113.out)
  replace HO128 := Aside0.mk (Kd.N_drew HO128.out)
  replace HO144 := Aside0.mk (Kd.N_drew HO144.out)
  replace BK114 := Aside0.mk (blk_drew BK114.out)
  replace HB := Aside0.mk (below_drew1 HB.out)
  refine start_ (n := 17) (S := fun w' => True) (ds := []) #[false, false, false, false, false, false, false, false, false, false, false, false, false, false, false, false, false] (by kernel_rfl) rfl rfl trivial (fun hHeld => ?_); refine with_tabW telamonlaw23_alive.tab4 telamonlaw23_alive.bits4 (fun HT_ HW_ => ?_)
  generalize w172.drew = w173 at HO108 HO113 HO128 HO144 BK114 HB hHeld ⊢
  refine pure_ (i := 0) (N := some 28) (v := ?_) (a' := ?_) #[true, false, false, false, false, false, false, false, false, false, false, false, false, false, false, false, false] rfl rfl (any_of HT_.out (by kernel_rfl)) (fun _ _ _ h => h) (Or.inl ⟨by rfl, ?_⟩) ?_ ?_
  rotate_left
  ·intro w'
   go_simp
   with_reducible rfl
  rotate_left
  ·simp only [Act.put, List.setIfInBounds_toArray, List.set_cons_zero, List.set_cons_succ, i64_w, i32_w]
   rfl
  refine pure_ (i := 1) (N := some 29) (v := ?_) (a' := ?_) #[true, true, false, false, false, false, false, false, false, false, false, false, false, false, false, false, false] rfl rfl (any_of HT_.out (by kernel_rfl)) (fun _ _ _ h => h) (Or.inl ⟨by rfl, ?_⟩) ?_ ?_
  rotate_left
  ·intro w'
   go_simp
   with_reducible rfl
  rotate_left
  ·simp only [Act.put, List.setIfInBounds_toArray, List.set_cons_zero, List.set_cons_succ, i64_w, i32_w]
   rfl
  refine pure_ (i := 2) (N := some 30) (v := undef) (a' := ?_) #[true, true, true, false, false, false, false, false, false, false, false, false, false, false, false, false, false] rfl rfl (any_of HT_.out (by kernel_rfl)) (fun _ _ _ h => h) (Or.inr ⟨by rfl, rfl⟩) ?_ ?_
  rotate_left
  ·simp only [Act.put, List.setIfInBounds_toArray, List.set_cons_zero, List.set_cons_succ, i64_w, i32_w]
   rfl
  refine pure_ (i := 3) (N := some 31) (v := undef) (a' := ?_) #[true, true, true, true, false, false, false, false, false, false, false, false, false, false, false, false, false] rfl rfl (any_of HT_.out (by kernel_rfl)) (fun _ _ _ h => h) (Or.inr ⟨by rfl, rfl⟩) ?_ ?_
  rotate_left
  ·simp only [Act.put, List.setIfInBounds_toArray, List.set_cons_zero, List.set_cons_succ, i64_w, i32_w]
   rfl
  refine pure_ (i := 4) (N := some 32) (v := ?_) (a' := ?_) #[true, true, true, true, true, false, false, false, false, false, false, false, false, false, false, false, false] rfl rfl (any_of HT_.out (by kernel_rfl)) (fun _ _ _ h => h) (Or.inl ⟨by rfl, ?_⟩) ?_ ?_
  rotate_left
  ·intro w'
   go_simp
   with_reducible rfl
  rotate_left
  ·simp only [Act.put, List.setIfInBounds_toArray, List.set_cons_zero, List.set_cons_succ, i64_w, i32_w]
   rfl
  refine pure_ (i := 5) (N := some 33) (v := ?_) (a' := ?_) #[true, true, true, true, true, true, false, false, false, false, false, false, false, false, false, false, false] rfl rfl (any_of HT_.out (by kernel_rfl)) (fun _ _ _ h => h) (Or.inl ⟨by rfl, ?_⟩) ?_ ?_
  rotate_left
  ·intro w'
   go_simp
   with_reducible rfl
  rotate_left
  ·simp only [Act.put, List.setIfInBounds_toArray, List.set_cons_zero, List.set_cons_succ, i64_w, i32_w]
   rfl
  refine pure_ (i := 6) (N := some 34) (v := undef) (a' := ?_) #[true, true, true, true, true, true, true, false, false, false, false, false, false, false, false, false, false] rfl rfl (any_of HT_.out (by kernel_rfl)) (fun _ _ _ h => h) (Or.inr ⟨by rfl, rfl⟩) ?_ ?_
  rotate_left
  ·simp only [Act.put, List.setIfInBounds_toArray, List.set_cons_zero, List.set_cons_succ, i64_w, i32_w]
   rfl
  refine pure_ (i := 7) (N := some 35) (v := undef) (a' := ?_) #[true, true, true, true, true, true, true, true, false, false, false, false, false, false, false, false, false] rfl rfl (any_of HT_.out (by kernel_rfl)) (fun _ _ _ h => h) (Or.inr ⟨by rfl, rfl⟩) ?_ ?_
  rotate_left
  ·simp only [Act.put, List.setIfInBounds_toArray, List.set_cons_zero, List.set_cons_succ, i64_w, i32_w]
   rfl
  refine pure_ (i := 8) (N := some 36) (v := ?_) (a' := ?_) #[true, true, true, true, true, true, true, true, true, false, false, false, false, false, false, false, false] rfl rfl (any_of HT_.out (by kernel_rfl)) (fun _ _ _ h => h) (Or.inl ⟨by rfl, ?_⟩) ?_ ?_
  rotate_left
  ·intro w'
   go_simp
   with_reducible rfl
  rotate_left
  ·simp only [Act.put, List.setIfInBounds_toArray, List.set_cons_zero, List.set_cons_succ, i64_w, i32_w]
   rfl
  refine pure_ (i := 9) (N := some 37) (v := ?_) (a' := ?_) #[true, true, true, true, true, true, true, true, true, true, false, false, false, false, false, false, false] rfl rfl (any_of HT_.out (by kernel_rfl)) (fun _ _ _ h => h) (Or.inl ⟨by rfl, ?_⟩) ?_ ?_
  rotate_left
  ·intro w'
   go_simp
   with_reducible rfl
  rotate_left
  ·simp only [Act.put, List.setIfInBounds_toArray, List.set_cons_zero, List.set_cons_succ, i64_w, i32_w]
   rfl
  refine pure_ (i := 10) (N := some 38) (v := undef) (a' := ?_) #[true, true, true, true, true, true, true, true, true, true, true, false, false, false, false, false, false] rfl rfl (any_of HT_.out (by kernel_rfl)) (fun _ _ _ h => h) (Or.inr ⟨by rfl, rfl⟩) ?_ ?_
  rotate_left
  ·simp only [Act.put, List.setIfInBounds_toArray, List.set_cons_zero, List.set_cons_succ, i64_w, i32_w]
   rfl
  refine pure_ (i := 11) (N := some 39) (v := undef) (a' := ?_) #[true, true, true, true, true, true, true, true, true, true, true, true, false, false, false, false, false] rfl rfl (any_of HT_.out (by kernel_rfl)) (fun _ _ _ h => h) (Or.inr ⟨by rfl, rfl⟩) ?_ ?_
  rotate_left
  ·simp only [Act.put, List.setIfInBounds_toArray, List.set_cons_zero, List.set_cons_succ, i64_w, i32_w]
   rfl
  refine pure_ (i := 12) (N := some 40) (v := undef) (a' := ?_) #[true, true, true, true, true, true, true, true, true, true, true, true, true, false, false, false, false] rfl rfl (any_of HT_.out (by kernel_rfl)) (fun _ _ _ h => h) (Or.inr ⟨by rfl, rfl⟩) ?_ ?_
  rotate_left
  ·simp only [Act.put, List.setIfInBounds_toArray, List.set_cons_zero, List.set_cons_succ, i64_w, i32_w]
   rfl
  refine pure_ (i := 13) (N := some 41) (v := undef) (a' := ?_) #[true, true, true, true, true, true, true, true, true, true, true, true, true, true, false, false, false] rfl rfl (any_of HT_.out (by kernel_rfl)) (fun _ _ _ h => h) (Or.inr ⟨by rfl, rfl⟩) ?_ ?_
  rotate_left
  ·simp only [Act.put, List.setIfInBounds_toArray, List.set_cons_zero, List.set_cons_succ, i64_w, i32_w]
   rfl
  refine pure_ (i := 14) (N := some 42) (v := undef) (a' := ?_) #[true, true, true, true, true, true, true, true, true, true, true, true, true, true, true, false, false] rfl rfl (any_of HT_.out (by kernel_rfl)) (fun _ _ _ h => h) (Or.inr ⟨by rfl, rfl⟩) ?_ ?_
  rotate_left
  ·simp only [Act.put, List.setIfInBounds_toArray, List.set_cons_zero, List.set_cons_succ, i64_w, i32_w]
   rfl
  refine pure_ (i := 15) (N := some 43) (v := ?_) (a' := ?_) #[true, true, true, true, true, true, true, true, true, true, true, true, true, true, true, true, false] rfl rfl (any_of HT_.out (by kernel_rfl)) (fun _ _ _ h => h) (Or.inl ⟨by rfl, ?_⟩) ?_ ?_
  rotate_left
  ·intro w'
   go_simp
   with_reducible rfl
  rotate_left
  ·simp only [Act.put, List.setIfInBounds_toArray, List.set_cons_zero, List.set_cons_succ, i64_w, i32_w]
   rfl
  refine pure_ (i := 16) (N := some 0) (v := ?_) (a' := ?_) #[true, true, true, true, true, true, true, true, true, true, true, true, true, true, true, true, true] rfl rfl (any_of HT_.out (by kernel_rfl)) (fun _ _ _ h => h) (Or.inl ⟨by rfl, ?_⟩) ?_ ?_
  rotate_left
  ·intro w'
   go_simp
   with_reducible rfl
  rotate_left
  ·simp only [Act.put, List.setIfInBounds_toArray, List.set_cons_zero, List.set_cons_succ, i64_w, i32_w]
   rfl
  refine done_ (done_of HT_.out (by kernel_rfl)) ?_
  try go_wp2
  go_ret
  exact ⟨by first | rfl | (simp [errW_none, errW_some] <;> rfl) | (simp [*, errW_none, errW_some] <;> rfl), by repeat (first | (with_reducible first | exact HB.out | apply below_alloc | apply pw_below_drewN | apply below_drew1 | refine below_set ?_ GE114.out) | exact HB.out)⟩

end Go.Proofs.Ytbopadglafbdjaa.PX
