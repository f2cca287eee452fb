-- by wip/tools/gprint.py of this session over the kit's print; given functions are this session's own text
import Derived.Test.YtbopadglafbdjaaPXx0
import Derived.Test.YtbopadglafbdjaaPXxf40
import Derived.Test.YtbopadglafbdjaaPXxf33
import Derived.Test.YtbopadglafbdjaaPXxf43
import Derived.Test.YtbopadglafbdjaaPXxf44
import Derived.Test.YtbopadglafbdjaaPXxf49
import Derived.Test.YtbopadglafbdjaaPXxf51
namespace Go.Proofs.Ytbopadglafbdjaa.PX
open Go.RowKit Go.Proofs.YtbopadglafbdjaaW.PrintWords Go.Proofs.YtbopadglafbdjaaW.PrintLast Go.Proofs.YtbopadglafbdjaaW.PrintMore
attribute [local go_sem] max2_int min2_int max_two min_two max_three min_three max_four min_four   -- for this text's walks alone
set_option linter.unusedVariables false
set_option linter.unusedSimpArgs false

/-! ### telamonlaw1_alive: function 37 -/
-- GIVEN
attribute [local go_sem] max2_int min2_int max_two min_two max_three min_three max_four min_four   -- for this text's walks alone
def telamonlaw1_alive.f0 (k : Nat)  : Option (Bool) := (level_Norm.f k 1 (([(⟨0, 2⟩ : S62)] : List (S62)))).bind fun bt104 => ((telamonlaw1_V.f 0 1).bind fun bt110 => ((level_Subst.f k bt110.1 bt110.2 (([(⟨2, (([(⟨1, 0⟩ : S62)] : List (S62)))⟩ : S43)] : List (S43)))).bind fun bt120 => ((telamonlaw1_V.f 0 0).bind fun bt126 => ((telamonlaw1_V.f 0 1).bind fun bt130 => ((level_Leq.f k bt126.1 bt126.2 bt130.1 bt130.2).bind fun t134 => ((telamonlaw1_V.f 0 1).bind fun bt135 => ((level_Leq.f k bt135.1 bt135.2 3 (([(⟨0, 0⟩ : S62)] : List (S62)))).bind fun t142 => ((telamonlaw1_num.f bt104.2.2).bind fun t143 => (if t143 = 0 then ((telamonlaw1_V.f 0 2).bind fun bt144 => ((telamonref1_ExactLevel.f k bt104.1 bt104.2.1 bt144.1 bt144.2).bind fun t148 => (if t148 = true then (if t134 = true then (if t142 = true then (some false) else ((telamonlaw1_num.f bt120.2.2).bind fun t149 => (if t149 = 0 then ((telamonref1_ExactLevel.f k bt120.1 bt120.2.1 3 (([(⟨1, 1⟩ : S62)] : List (S62)))).bind fun t153 => (some t153)) else (some false)))) else (some false)) else (some false)))) else (some false))))))))))
def telamonlaw1_alive.T5 : Bool × List (List Nat × List Nat) := (true, [([], []), ([0], [0]), ([1], [1]), ([2, 1], [2]), ([3], [3]), ([3, 3], [3]), ([4, 5, 5, 3], [3, 4, 5]), ([3, 6], [3, 6]), ([7, 6], [7]), ([8], [8]), ([8, 9], [8, 9]), ([10, 8], [10]), ([11], [11]), ([12, 11], [11, 12]), ([11, 13], [11, 13]), ([14, 11], [14]), ([15], [15]), ([16, 15, 15], [15, 16]), ([17, 15], [15, 17]), ([15, 18], [15, 18]), ([19, 17], [19]), ([20], [20]), ([20], [20]), ([22, 20], [20, 22]), ([23, 20], [20, 23]), ([21, 24, 20, 20], [20, 21, 24]), ([20, 25], [20, 25]), ([26, 25, 0, 1, 2, 3, 4, 5, 6, 7, 8, 9, 10, 11, 12, 13, 14, 15, 16, 17, 18, 19, 20, 21, 22, 23, 24, 25, 26], [26])])
def telamonlaw1_alive.B5 : List Nat := [0, 1, 3, 7, 15, 15, 63, 127, 255, 511, 1023, 2047, 4095, 8191, 16383, 32767, 65535, 131071, 262143, 524287, 1048575, 2097151, 2097151, 6291455, 14680063, 33554431, 67108863, 134217727]
theorem telamonlaw1_alive.tab5 : rtab .any (opsOf Try.f37 5) = telamonlaw1_alive.T5 := by kernel_rfl
theorem telamonlaw1_alive.bits5 : waitsOk telamonlaw1_alive.T5.2 telamonlaw1_alive.B5 = true := by kernel_rfl
def telamonlaw1_alive.f : Option Bool := some true
set_option maxHeartbeats 8000000 in
set_option maxRecDepth 100000 in
theorem telamonlaw1_alive.calls  (r : Bool) (w : World) (h : telamonlaw1_alive.f  = some r) :
  Calls Try.prog 37 #[] w fun e w' => e = .returned (.bool r) ∧ Below w.heap.size w w' := by
 have hu62 := Try.underlying62
 have hu43 := Try.underlying43
 have HB := Aside0.mk (Below.refl w.heap.size w)
 obtain ⟨k, hk⟩ : ∃ k, telamonlaw1_alive.f0 k = some true := ⟨40, by kernel_rfl⟩
 obtain rfl := Option.some.inj h
 have H : ((level_Norm.f k 1 (([(⟨0, 2⟩ : S62)] : List (S62)))).bind fun bt104 => ((telamonlaw1_V.f 0 1).bind fun bt110 => ((level_Subst.f k bt110.1 bt110.2 (([(⟨2, (([(⟨1, 0⟩ : S62)] : List (S62)))⟩ : S43)] : List (S43)))).bind fun bt120 => ((telamonlaw1_V.f 0 0).bind fun bt126 => ((telamonlaw1_V.f 0 1).bind fun bt130 => ((level_Leq.f k bt126.1 bt126.2 bt130.1 bt130.2).bind fun t134 => ((telamonlaw1_V.f 0 1).bind fun bt135 => ((level_Leq.f k bt135.1 bt135.2 3 (([(⟨0, 0⟩ : S62)] : List (S62)))).bind fun t142 => ((telamonlaw1_num.f bt104.2.2).bind fun t143 => (if t143 = 0 then ((telamonlaw1_V.f 0 2).bind fun bt144 => ((telamonref1_ExactLevel.f k bt104.1 bt104.2.1 bt144.1 bt144.2).bind fun t148 => (if t148 = true then (if t134 = true then (if t142 = true then (some false) else ((telamonlaw1_num.f bt120.2.2).bind fun t149 => (if t149 = 0 then ((telamonref1_ExactLevel.f k bt120.1 bt120.2.1 3 (([(⟨1, 1⟩ : S62)] : List (S62)))).bind fun t153 => (some t153)) else (some false)))) else (some false)) else (some false)))) else (some false))))))))))) = some true := hk
 clear h
 obtain ⟨y101, hy101⟩ : ∃ y_ : List (S62), y_ = (([(⟨0, 2⟩ : S62)] : List (S62))) := ⟨_, rfl⟩
 replace H : ((level_Norm.f k 1 y101).bind fun bt104 => ((telamonlaw1_V.f 0 1).bind fun bt110 => ((level_Subst.f k bt110.1 bt110.2 (([(⟨2, (([(⟨1, 0⟩ : S62)] : List (S62)))⟩ : S43)] : List (S43)))).bind fun bt120 => ((telamonlaw1_V.f 0 0).bind fun bt126 => ((telamonlaw1_V.f 0 1).bind fun bt130 => ((level_Leq.f k bt126.1 bt126.2 bt130.1 bt130.2).bind fun t134 => ((telamonlaw1_V.f 0 1).bind fun bt135 => ((level_Leq.f k bt135.1 bt135.2 3 (([(⟨0, 0⟩ : S62)] : List (S62)))).bind fun t142 => ((telamonlaw1_num.f bt104.2.2).bind fun t143 => (if t143 = 0 then ((telamonlaw1_V.f 0 2).bind fun bt144 => ((telamonref1_ExactLevel.f k bt104.1 bt104.2.1 bt144.1 bt144.2).bind fun t148 => (if t148 = true then (if t134 = true then (if t142 = true then (some false) else ((telamonlaw1_num.f bt120.2.2).bind fun t149 => (if t149 = 0 then ((telamonref1_ExactLevel.f k bt120.1 bt120.2.1 3 (([(⟨1, 1⟩ : S62)] : List (S62)))).bind fun t153 => (some t153)) else (some false)))) else (some false)) else (some false)))) else (some false))))))))))) = some true := by first | (rw [hy101]; with_reducible exact H) | (have H2_ := (Option.bind_some _ _).symm.trans H; rw [hy101]; with_reducible exact H2_) | (have H2_ := (Option.bind_some _ _).symm.trans H; with_reducible exact H2_) | with_reducible exact H | (rw [hy101]; exact H) | exact H
 have Ny101 := Aside0.mk hy101
 clear hy101
 replace H := Option.bind_eq_some_iff.mp H
 obtain ⟨⟨t104, t105, t108⟩, A10, H⟩ := H
 replace H : ((telamonlaw1_V.f 0 1).bind fun bt110 => ((level_Subst.f k bt110.1 bt110.2 (([(⟨2, (([(⟨1, 0⟩ : S62)] : List (S62)))⟩ : S43)] : List (S43)))).bind fun bt120 => ((telamonlaw1_V.f 0 0).bind fun bt126 => ((telamonlaw1_V.f 0 1).bind fun bt130 => ((level_Leq.f k bt126.1 bt126.2 bt130.1 bt130.2).bind fun t134 => ((telamonlaw1_V.f 0 1).bind fun bt135 => ((level_Leq.f k bt135.1 bt135.2 3 (([(⟨0, 0⟩ : S62)] : List (S62)))).bind fun t142 => ((telamonlaw1_num.f t108).bind fun t143 => (if t143 = 0 then ((telamonlaw1_V.f 0 2).bind fun bt144 => ((telamonref1_ExactLevel.f k t104 t105 bt144.1 bt144.2).bind fun t148 => (if t148 = true then (if t134 = true then (if t142 = true then (some false) else ((telamonlaw1_num.f bt120.2.2).bind fun t149 => (if t149 = 0 then ((telamonref1_ExactLevel.f k bt120.1 bt120.2.1 3 (([(⟨1, 1⟩ : S62)] : List (S62)))).bind fun t153 => (some t153)) else (some false)))) else (some false)) else (some false)))) else (some false)))))))))) = some true := H
 have A1 := Aside0.mk A10
 clear A10
 replace H := Option.bind_eq_some_iff.mp H
 obtain ⟨⟨t110, t111⟩, A20, H⟩ := H
 replace H : ((level_Subst.f k t110 t111 (([(⟨2, (([(⟨1, 0⟩ : S62)] : List (S62)))⟩ : S43)] : List (S43)))).bind fun bt120 => ((telamonlaw1_V.f 0 0).bind fun bt126 => ((telamonlaw1_V.f 0 1).bind fun bt130 => ((level_Leq.f k bt126.1 bt126.2 bt130.1 bt130.2).bind fun t134 => ((telamonlaw1_V.f 0 1).bind fun bt135 => ((level_Leq.f k bt135.1 bt135.2 3 (([(⟨0, 0⟩ : S62)] : List (S62)))).bind fun t142 => ((telamonlaw1_num.f t108).bind fun t143 => (if t143 = 0 then ((telamonlaw1_V.f 0 2).bind fun bt144 => ((telamonref1_ExactLevel.f k t104 t105 bt144.1 bt144.2).bind fun t148 => (if t148 = true then (if t134 = true then (if t142 = true then (some false) else ((telamonlaw1_num.f bt120.2.2).bind fun t149 => (if t149 = 0 then ((telamonref1_ExactLevel.f k bt120.1 bt120.2.1 3 (([(⟨1, 1⟩ : S62)] : List (S62)))).bind fun t153 => (some t153)) else (some false)))) else (some false)) else (some false)))) else (some false))))))))) = some true := H
 have A2 := Aside0.mk A20
 clear A20
 obtain ⟨y114, hy114⟩ : ∃ y_ : List (S62), y_ = (([(⟨1, 0⟩ : S62)] : List (S62))) := ⟨_, rfl⟩
 replace H : ((level_Subst.f k t110 t111 (([(⟨2, y114⟩ : S43)] : List (S43)))).bind fun bt120 => ((telamonlaw1_V.f 0 0).bind fun bt126 => ((telamonlaw1_V.f 0 1).bind fun bt130 => ((level_Leq.f k bt126.1 bt126.2 bt130.1 bt130.2).bind fun t134 => ((telamonlaw1_V.f 0 1).bind fun bt135 => ((level_Leq.f k bt135.1 bt135.2 3 (([(⟨0, 0⟩ : S62)] : List (S62)))).bind fun t142 => ((telamonlaw1_num.f t108).bind fun t143 => (if t143 = 0 then ((telamonlaw1_V.f 0 2).bind fun bt144 => ((telamonref1_ExactLevel.f k t104 t105 bt144.1 bt144.2).bind fun t148 => (if t148 = true then (if t134 = true then (if t142 = true then (some false) else ((telamonlaw1_num.f bt120.2.2).bind fun t149 => (if t149 = 0 then ((telamonref1_ExactLevel.f k bt120.1 bt120.2.1 3 (([(⟨1, 1⟩ : S62)] : List (S62)))).bind fun t153 => (some t153)) else (some false)))) else (some false)) else (some false)))) else (some false))))))))) = some true := by first | (rw [hy114]; with_reducible exact H) | (have H2_ := (Option.bind_some _ _).symm.trans H; rw [hy114]; with_reducible exact H2_) | (have H2_ := (Option.bind_some _ _).symm.trans H; with_reducible exact H2_) | with_reducible exact H | (rw [hy114]; exact H) | exact H
 have Ny114 := Aside0.mk hy114
 clear hy114
 obtain ⟨y117, hy117⟩ : ∃ y_ : List (S43), y_ = (([(⟨2, y114⟩ : S43)] : List (S43))) := ⟨_, rfl⟩
 replace H : ((level_Subst.f k t110 t111 y117).bind fun bt120 => ((telamonlaw1_V.f 0 0).bind fun bt126 => ((telamonlaw1_V.f 0 1).bind fun bt130 => ((level_Leq.f k bt126.1 bt126.2 bt130.1 bt130.2).bind fun t134 => ((telamonlaw1_V.f 0 1).bind fun bt135 => ((level_Leq.f k bt135.1 bt135.2 3 (([(⟨0, 0⟩ : S62)] : List (S62)))).bind fun t142 => ((telamonlaw1_num.f t108).bind fun t143 => (if t143 = 0 then ((telamonlaw1_V.f 0 2).bind fun bt144 => ((telamonref1_ExactLevel.f k t104 t105 bt144.1 bt144.2).bind fun t148 => (if t148 = true then (if t134 = true then (if t142 = true then (some false) else ((telamonlaw1_num.f bt120.2.2).bind fun t149 => (if t149 = 0 then ((telamonref1_ExactLevel.f k bt120.1 bt120.2.1 3 (([(⟨1, 1⟩ : S62)] : List (S62)))).bind fun t153 => (some t153)) else (some false)))) else (some false)) else (some false)))) else (some false))))))))) = some true := by first | (rw [hy117]; with_reducible exact H) | (have H2_ := (Option.bind_some _ _).symm.trans H; rw [hy117]; with_reducible exact H2_) | (have H2_ := (Option.bind_some _ _).symm.trans H; with_reducible exact H2_) | with_reducible exact H | (rw [hy117]; exact H) | exact H
 have Ny117 := Aside0.mk hy117
 clear hy117
 replace H := Option.bind_eq_some_iff.mp H
 obtain ⟨⟨t120, t121, t124⟩, A30, H⟩ := H
 replace H : ((telamonlaw1_V.f 0 0).bind fun bt126 => ((telamonlaw1_V.f 0 1).bind fun bt130 => ((level_Leq.f k bt126.1 bt126.2 bt130.1 bt130.2).bind fun t134 => ((telamonlaw1_V.f 0 1).bind fun bt135 => ((level_Leq.f k bt135.1 bt135.2 3 (([(⟨0, 0⟩ : S62)] : List (S62)))).bind fun t142 => ((telamonlaw1_num.f t108).bind fun t143 => (if t143 = 0 then ((telamonlaw1_V.f 0 2).bind fun bt144 => ((telamonref1_ExactLevel.f k t104 t105 bt144.1 bt144.2).bind fun t148 => (if t148 = true then (if t134 = true then (if t142 = true then (some false) else ((telamonlaw1_num.f t124).bind fun t149 => (if t149 = 0 then ((telamonref1_ExactLevel.f k t120 t121 3 (([(⟨1, 1⟩ : S62)] : List (S62)))).bind fun t153 => (some t153)) else (some false)))) else (some false)) else (some false)))) else (some false)))))))) = some true := H
 have A3 := Aside0.mk A30
 clear A30
 replace H := Option.bind_eq_some_iff.mp H
 obtain ⟨⟨t126, t127⟩, A40, H⟩ := H
 replace H : ((telamonlaw1_V.f 0 1).bind fun bt130 => ((level_Leq.f k t126 t127 bt130.1 bt130.2).bind fun t134 => ((telamonlaw1_V.f 0 1).bind fun bt135 => ((level_Leq.f k bt135.1 bt135.2 3 (([(⟨0, 0⟩ : S62)] : List (S62)))).bind fun t142 => ((telamonlaw1_num.f t108).bind fun t143 => (if t143 = 0 then ((telamonlaw1_V.f 0 2).bind fun bt144 => ((telamonref1_ExactLevel.f k t104 t105 bt144.1 bt144.2).bind fun t148 => (if t148 = true then (if t134 = true then (if t142 = true then (some false) else ((telamonlaw1_num.f t124).bind fun t149 => (if t149 = 0 then ((telamonref1_ExactLevel.f k t120 t121 3 (([(⟨1, 1⟩ : S62)] : List (S62)))).bind fun t153 => (some t153)) else (some false)))) else (some false)) else (some false)))) else (some false))))))) = some true := H
 have A4 := Aside0.mk A40
 clear A40
 replace H := Option.bind_eq_some_iff.mp H
 obtain ⟨⟨t130, t131⟩, A50, H⟩ := H
 replace H : ((level_Leq.f k t126 t127 t130 t131).bind fun t134 => ((telamonlaw1_V.f 0 1).bind fun bt135 => ((level_Leq.f k bt135.1 bt135.2 3 (([(⟨0, 0⟩ : S62)] : List (S62)))).bind fun t142 => ((telamonlaw1_num.f t108).bind fun t143 => (if t143 = 0 then ((telamonlaw1_V.f 0 2).bind fun bt144 => ((telamonref1_ExactLevel.f k t104 t105 bt144.1 bt144.2).bind fun t148 => (if t148 = true then (if t134 = true then (if t142 = true then (some false) else ((telamonlaw1_num.f t124).bind fun t149 => (if t149 = 0 then ((telamonref1_ExactLevel.f k t120 t121 3 (([(⟨1, 1⟩ : S62)] : List (S62)))).bind fun t153 => (some t153)) else (some false)))) else (some false)) else (some false)))) else (some false)))))) = some true := H
 have A5 := Aside0.mk A50
 clear A50
 replace H := Option.bind_eq_some_iff.mp H
 obtain ⟨t134, A60, H⟩ := H
 replace H : ((telamonlaw1_V.f 0 1).bind fun bt135 => ((level_Leq.f k bt135.1 bt135.2 3 (([(⟨0, 0⟩ : S62)] : List (S62)))).bind fun t142 => ((telamonlaw1_num.f t108).bind fun t143 => (if t143 = 0 then ((telamonlaw1_V.f 0 2).bind fun bt144 => ((telamonref1_ExactLevel.f k t104 t105 bt144.1 bt144.2).bind fun t148 => (if t148 = true then (if t134 = true then (if t142 = true then (some false) else ((telamonlaw1_num.f t124).bind fun t149 => (if t149 = 0 then ((telamonref1_ExactLevel.f k t120 t121 3 (([(⟨1, 1⟩ : S62)] : List (S62)))).bind fun t153 => (some t153)) else (some false)))) else (some false)) else (some false)))) else (some false))))) = some true := H
 have A6 := Aside0.mk A60
 clear A60
 replace H := Option.bind_eq_some_iff.mp H
 obtain ⟨⟨t135, t136⟩, A70, H⟩ := H
 replace H : ((level_Leq.f k t135 t136 3 (([(⟨0, 0⟩ : S62)] : List (S62)))).bind fun t142 => ((telamonlaw1_num.f t108).bind fun t143 => (if t143 = 0 then ((telamonlaw1_V.f 0 2).bind fun bt144 => ((telamonref1_ExactLevel.f k t104 t105 bt144.1 bt144.2).bind fun t148 => (if t148 = true then (if t134 = true then (if t142 = true then (some false) else ((telamonlaw1_num.f t124).bind fun t149 => (if t149 = 0 then ((telamonref1_ExactLevel.f k t120 t121 3 (([(⟨1, 1⟩ : S62)] : List (S62)))).bind fun t153 => (some t153)) else (some false)))) else (some false)) else (some false)))) else (some false)))) = some true := H
 have A7 := Aside0.mk A70
 clear A70
 obtain ⟨y139, hy139⟩ : ∃ y_ : List (S62), y_ = (([(⟨0, 0⟩ : S62)] : List (S62))) := ⟨_, rfl⟩
 replace H : ((level_Leq.f k t135 t136 3 y139).bind fun t142 => ((telamonlaw1_num.f t108).bind fun t143 => (if t143 = 0 then ((telamonlaw1_V.f 0 2).bind fun bt144 => ((telamonref1_ExactLevel.f k t104 t105 bt144.1 bt144.2).bind fun t148 => (if t148 = true then (if t134 = true then (if t142 = true then (some false) else ((telamonlaw1_num.f t124).bind fun t149 => (if t149 = 0 then ((telamonref1_ExactLevel.f k t120 t121 3 (([(⟨1, 1⟩ : S62)] : List (S62)))).bind fun t153 => (some t153)) else (some false)))) else (some false)) else (some false)))) else (some false)))) = some true := by first | (rw [hy139]; with_reducible exact H) | (have H2_ := (Option.bind_some _ _).symm.trans H; rw [hy139]; with_reducible exact H2_) | (have H2_ := (Option.bind_some _ _).symm.trans H; with_reducible exact H2_) | with_reducible exact H | (rw [hy139]; exact H) | exact H
 have Ny139 := Aside0.mk hy139
 clear hy139
 replace H := Option.bind_eq_some_iff.mp H
 obtain ⟨t142, A80, H⟩ := H
 replace H : ((telamonlaw1_num.f t108).bind fun t143 => (if t143 = 0 then ((telamonlaw1_V.f 0 2).bind fun bt144 => ((telamonref1_ExactLevel.f k t104 t105 bt144.1 bt144.2).bind fun t148 => (if t148 = true then (if t134 = true then (if t142 = true then (some false) else ((telamonlaw1_num.f t124).bind fun t149 => (if t149 = 0 then ((telamonref1_ExactLevel.f k t120 t121 3 (([(⟨1, 1⟩ : S62)] : List (S62)))).bind fun t153 => (some t153)) else (some false)))) else (some false)) else (some false)))) else (some false))) = some true := H
 have A8 := Aside0.mk A80
 clear A80
 replace H := Option.bind_eq_some_iff.mp H
 obtain ⟨t143, A90, H⟩ := H
 replace H : (if t143 = 0 then ((telamonlaw1_V.f 0 2).bind fun bt144 => ((telamonref1_ExactLevel.f k t104 t105 bt144.1 bt144.2).bind fun t148 => (if t148 = true then (if t134 = true then (if t142 = true then (some false) else ((telamonlaw1_num.f t124).bind fun t149 => (if t149 = 0 then ((telamonref1_ExactLevel.f k t120 t121 3 (([(⟨1, 1⟩ : S62)] : List (S62)))).bind fun t153 => (some t153)) else (some false)))) else (some false)) else (some false)))) else (some false)) = some true := H
 have A9 := Aside0.mk A90
 clear A90
 by_cases c10 : t143 = 0
 ·rw [if_pos c10] at H
  have c10b0 : (t143 == 0) = true := beq_iff_eq.mpr c10
  have c10b1 : (t143 != 0) = false := bne_eq_false_iff_eq.mpr c10
  clear c10
  replace H := Option.bind_eq_some_iff.mp H
  obtain ⟨⟨t144, t145⟩, A110, H⟩ := H
  replace H : ((telamonref1_ExactLevel.f k t104 t105 t144 t145).bind fun t148 => (if t148 = true then (if t134 = true then (if t142 = true then (some false) else ((telamonlaw1_num.f t124).bind fun t149 => (if t149 = 0 then ((telamonref1_ExactLevel.f k t120 t121 3 (([(⟨1, 1⟩ : S62)] : List (S62)))).bind fun t153 => (some t153)) else (some false)))) else (some false)) else (some false))) = some true := H
  have A11 := Aside0.mk A110
  clear A110
  replace H := Option.bind_eq_some_iff.mp H
  obtain ⟨t148, A120, H⟩ := H
  replace H : (if t148 = true then (if t134 = true then (if t142 = true then (some false) else ((telamonlaw1_num.f t124).bind fun t149 => (if t149 = 0 then ((telamonref1_ExactLevel.f k t120 t121 3 (([(⟨1, 1⟩ : S62)] : List (S62)))).bind fun t153 => (some t153)) else (some false)))) else (some false)) else (some false)) = some true := H
  have A12 := Aside0.mk A120
  clear A120
  by_cases c13 : t148 = true
  ·subst c13
   have H1 : (if t134 = true then (if t142 = true then (some false) else ((telamonlaw1_num.f t124).bind fun t149 => (if t149 = 0 then ((telamonref1_ExactLevel.f k t120 t121 3 (([(⟨1, 1⟩ : S62)] : List (S62)))).bind fun t153 => (some t153)) else (some false)))) else (some false)) = some true := by rw [if_pos rfl] at H; exact H
   clear H
   have H := H1
   clear H1
   by_cases c14 : t134 = true
   ·subst c14
    have H1 : (if t142 = true then (some false) else ((telamonlaw1_num.f t124).bind fun t149 => (if t149 = 0 then ((telamonref1_ExactLevel.f k t120 t121 3 (([(⟨1, 1⟩ : S62)] : List (S62)))).bind fun t153 => (some t153)) else (some false)))) = some true := by rw [if_pos rfl] at H; exact H
    clear H
    have H := H1
    clear H1
    by_cases c15 : t142 = true
    ·exfalso; rw [if_pos c15] at H; simp at H
    ·replace c15 := Bool.eq_false_iff.mpr c15
     subst c15
     have H1 : ((telamonlaw1_num.f t124).bind fun t149 => (if t149 = 0 then ((telamonref1_ExactLevel.f k t120 t121 3 (([(⟨1, 1⟩ : S62)] : List (S62)))).bind fun t153 => (some t153)) else (some false))) = some true := by rw [if_neg (show ¬ (false = true) by decide)] at H; exact H
     clear H
     have H := H1
     clear H1
     replace H := Option.bind_eq_some_iff.mp H
     obtain ⟨t149, A510, H⟩ := H
     replace H : (if t149 = 0 then ((telamonref1_ExactLevel.f k t120 t121 3 (([(⟨1, 1⟩ : S62)] : List (S62)))).bind fun t153 => (some t153)) else (some false)) = some true := H
     have A51 := Aside0.mk A510
     clear A510
     by_cases c52 : t149 = 0
     ·rw [if_pos c52] at H
      have c52b0 : (t149 == 0) = true := beq_iff_eq.mpr c52
      have c52b1 : (t149 != 0) = false := bne_eq_false_iff_eq.mpr c52
      clear c52
      obtain ⟨y150, hy150⟩ : ∃ y_ : List (S62), y_ = (([(⟨1, 1⟩ : S62)] : List (S62))) := ⟨_, rfl⟩
      replace H : ((telamonref1_ExactLevel.f k t120 t121 3 y150).bind fun t153 => (some t153)) = some true := by first | (rw [hy150]; with_reducible exact H) | (have H2_ := (Option.bind_some _ _).symm.trans H; rw [hy150]; with_reducible exact H2_) | (have H2_ := (Option.bind_some _ _).symm.trans H; with_reducible exact H2_) | with_reducible exact H | (rw [hy150]; exact H) | exact H
      have Ny150 := Aside0.mk hy150
      clear hy150
      replace H := Option.bind_eq_some_iff.mp H
      obtain ⟨t153, A530, H⟩ := H
      replace H : (some t153) = some true := H
      have A53 := Aside0.mk A530
      clear A530
      obtain rfl := Option.some.inj H
      go_enter Try.func37, Try.ntmps37
      try go_wp2_with (first | ((with_reducible refine gate_dst (N := 9) rfl ?_); (try (refine gate_guard (by rfl) ?_; dsimp only)); refine Kd.R_lit k62 _ 62 ?hg (N := 9) ?hd (xs := ([(⟨0, 2⟩ : S62)] : List (S62))) (inner := [.int .i64 0, .int .i64 2]) (ok := fun _ => True) (okp := fun _ => True) ?hr ?hp (fun _ hk => hk) trivial (Below.refl _ _) (Nat.le_refl _) (by simp) ?_; (case hd => rfl); (case hg => rfl); (case hr => first | (go_simp; done) | (go_simp; rfl)); (case hp => exact (Reps.c2 (show Kd.M k62 _ _ _ (⟨0, 2⟩ : S62) [.int .i64 0, .int .i64 2] from (k62_mkM _ _ _ (⟨0, 2⟩ : S62) )) (Reps.none _ _))); intro v102 w54 ho55 hb hg_ hnew_; clear hg_ hnew_; (first | rw [← Ny101.out] at ho55 | (simp only [Int.reduceToNat] at ho55; rw [← Ny101.out] at ho55)); have n0_ := Aside0.mk (Kd.R_lower ho55 (below_size (bl_ HB))); have n1_ := hs_ HB hb; clear HB; have HO103 := n0_; have HB := n1_; clear n0_ n1_; clear hb ho55; obtain ⟨Ao56, co56, eo56⟩ := Kd.R_slice HO103.out; subst eo56) | ((with_reducible refine gate_callee (f := 40) rfl ?_); refine goesL_ (some 11) rfl rfl Try.func40 (by kernel_rfl) rfl #[.agg #[.int .i64 1, .slice Ao56 y101.length co56]] rfl (by (try simp only [List.map_toArray, List.map_cons, List.map_nil]); first | done | rfl | (simp only [List.length_drop, List.length_take]; rfl)) ?_; (with_reducible refine (level_Norm.calls k 1 _ _ y101 t104 t105 t108 _ ?side1 ?side2 A1.out).mono ?_); (case side1 => repeat (first | exact (Kd.R_reads' HO103.out).2.2 | (with_reducible refine Kd.C_alloc ?_ _) | (with_reducible refine Kd.C_drewN ?_ _) | (with_reducible refine Kd.C_drew ?_))); (case side2 => exact (Kd.R_reads' HO103.out).2.1); rintro e w57 ⟨v106, rfl, ho0, hb⟩; refine ⟨_, rfl, ?_⟩; have n0_ := Aside0.mk (Kd.R_elder' (rl_ HO103) (Kd.R_base ho0) hb); have n1_ := Aside0.mk (Kd.R_lower (Kd.R_new' ho0 (Kd.R_lt (rl_ HO103))) (below_size (bl_ HB))); have n2_ := hs_ HB hb; clear HO103; clear HB; have HO103 := n0_; have HO107 := n1_; have HB := n2_; clear n0_ n1_ n2_; (try clear hb); (try clear hb2); (try clear hk); (try clear hi); (try clear ho0)) | ((with_reducible refine gate_dst (N := 1) rfl ?_); (try (refine gate_guard (by rfl) ?_; dsimp only)); refine box_event ?hg (N := 1) ?hd (cs := #[.int .i64 0, .slice none 0 0]) (t := 43) ?hr ?_; (case hd => rfl); (case hg => rfl); (case hr => first | (go_simp; done) | (go_simp; rfl)); intro gb109 hg w58 hbox hb; have n0_ := Aside0.mk (Kd.R_below (rl_ HO103) hb); have n1_ := Aside0.mk (Kd.R_below (rl_ HO107) hb); have n2_ := hs_ HB hb; have n3_ := Aside0.mk (hbox); have n4_ := Aside0.mk ((bs_ hg HB : w.heap.size ≤ gb109)); have n5_ := Aside0.mk ((bs_ hg HB : w.heap.size ≤ gb109)); clear HO103; clear HO107; clear HB; have HO103 := n0_; have HO107 := n1_; have HB := n2_; have BK109 := n3_; have GW109 := n4_; have GE109 := n5_; clear n0_ n1_ n2_ n3_ n4_ n5_; clear hb hbox hg; have hcz59_0 : w58.cell? ⟨gb109, 0, none⟩ = some (.int .i64 0) := (blk_cell BK109.out 0).trans rfl; have hcz59_1 : w58.cell? ⟨gb109, 1, none⟩ = some (.slice none 0 0) := (blk_cell BK109.out 1).trans rfl; have hfz59_0 := blk_frozen BK109.out 0; have hfz59_1 := blk_frozen BK109.out 1; obtain ⟨Ao60, co60, eo60⟩ := Kd.R_slice HO107.out; subst eo60) | ((with_reducible refine gate_callee (f := 33) rfl ?_); refine goesL_ (some 15) rfl rfl Try.func33 (by kernel_rfl) rfl #[.int .i64 0, .int .i64 1] rfl (by (try simp only [List.map_toArray, List.map_cons, List.map_nil]); first | done | rfl | (simp only [List.length_drop, List.length_take]; rfl)) ?_; (with_reducible refine (telamonlaw1_V.calls 0 1 t110 t111 _ A2.out).mono ?_); rintro e w61 ⟨v112, rfl, ho0, hb⟩; refine ⟨_, rfl, ?_⟩; have n0_ := Aside0.mk (Kd.R_elder' (by (with_reducible repeat (first | apply Kd.R_alloc | apply Kd.R_drewN | apply Kd.R_drew)); exact (Kd.R_mono (Kd.R_far (p := ⟨gb109, 1, none⟩) (Kd.R_far (p := ⟨gb109, 0, none⟩) (Kd.R_types HO103.out BK109.out (by decide)) (fun _ hk => hk.2) (.int .i64 t104)) (fun _ hk => hk.2) (.slice Ao60 t105.length co60)) (fun _ h_ => h_.1))) (Kd.R_base ho0) hb); have n1_ := Aside0.mk (Kd.R_elder' (by (with_reducible repeat (first | apply Kd.R_alloc | apply Kd.R_drewN | apply Kd.R_drew)); exact (Kd.R_mono (Kd.R_far (p := ⟨gb109, 1, none⟩) (Kd.R_far (p := ⟨gb109, 0, none⟩) (Kd.R_types HO107.out BK109.out (by decide)) (fun _ hk => hk.2) (.int .i64 t104)) (fun _ hk => hk.2) (.slice Ao60 t105.length co60)) (fun _ h_ => h_.1))) (Kd.R_base ho0) hb); have n2_ := Aside0.mk (Kd.R_lower (Kd.R_new' (Kd.R_new' ho0 (Kd.R_lt (by (with_reducible repeat (first | apply Kd.R_alloc | apply Kd.R_drewN | apply Kd.R_drew)); exact (Kd.R_mono (Kd.R_far (p := ⟨gb109, 1, none⟩) (Kd.R_far (p := ⟨gb109, 0, none⟩) (Kd.R_types HO103.out BK109.out (by decide)) (fun _ hk => hk.2) (.int .i64 t104)) (fun _ hk => hk.2) (.slice Ao60 t105.length co60)) (fun _ h_ => h_.1))))) (Kd.R_lt (by (with_reducible repeat (first | apply Kd.R_alloc | apply Kd.R_drewN | apply Kd.R_drew)); exact (Kd.R_mono (Kd.R_far (p := ⟨gb109, 1, none⟩) (Kd.R_far (p := ⟨gb109, 0, none⟩) (Kd.R_types HO107.out BK109.out (by decide)) (fun _ hk => hk.2) (.int .i64 t104)) (fun _ hk => hk.2) (.slice Ao60 t105.length co60)) (fun _ h_ => h_.1))))) (below_size (bl_ HB))); have n3_ := Aside0.mk (blk_below (g := gb109) (o := .cells #[.int .i64 t104, .slice Ao60 t105.length co60] 43 (0, 0)) (by (with_reducible repeat (first | refine blk_drewN ?_ _ | refine blk_drew ?_ | refine blk_alloc ?_ _)); refine blk_put (cs := #[.int .i64 t104, .slice none 0 0]) ?_ 1 _ rfl; (with_reducible repeat (first | refine blk_drewN ?_ _ | refine blk_drew ?_ | refine blk_alloc ?_ _)); refine blk_put (cs := #[.int .i64 0, .slice none 0 0]) ?_ 0 _ rfl; (with_reducible repeat (first | refine blk_drewN ?_ _ | refine blk_drew ?_ | refine blk_alloc ?_ _)); exact BK109.out) hb); have n4_ := hs_ HB hb; clear HO103; clear HO107; clear BK109; clear HB; have HO103 := n0_; have HO107 := n1_; have HO113 := n2_; have BK109 := n3_; have HB := n4_; clear n0_ n1_ n2_ n3_ n4_; (try clear hb); (try clear hb2); (try clear hk); (try clear hi); (try clear ho0)) | ((with_reducible refine gate_dst (N := 17) rfl ?_); (try (refine gate_guard (by rfl) ?_; dsimp only)); refine Kd.R_lit k62 _ 62 ?hg (N := 17) ?hd (xs := ([(⟨1, 0⟩ : S62)] : List (S62))) (inner := [.int .i64 1, .int .i64 0]) (ok := fun _ => True) (okp := fun _ => True) ?hr ?hp (fun _ hk => hk) trivial (Below.refl _ _) (Nat.le_refl _) (by simp) ?_; (case hd => rfl); (case hg => rfl); (case hr => first | (go_simp; done) | (go_simp; rfl)); (case hp => exact (Reps.c2 (show Kd.M k62 _ _ _ (⟨1, 0⟩ : S62) [.int .i64 1, .int .i64 0] from (k62_mkM _ _ _ (⟨1, 0⟩ : S62) )) (Reps.none _ _))); intro v115 w62 ho63 hb hg_ hnew_; clear hg_ hnew_; (first | rw [← Ny114.out] at ho63 | (simp only [Int.reduceToNat] at ho63; rw [← Ny114.out] at ho63)); have n0_ := Aside0.mk (Kd.R_elder' (rl_ HO103) (Kd.R_base ho63) hb); have n1_ := Aside0.mk (Kd.R_elder' (rl_ HO107) (Kd.R_base ho63) hb); have n2_ := Aside0.mk (Kd.R_elder' (rl_ HO113) (Kd.R_base ho63) hb); have n3_ := Aside0.mk (Kd.R_lower (Kd.R_new' (Kd.R_new' (Kd.R_new' ho63 (Kd.R_lt (rl_ HO103))) (Kd.R_lt (rl_ HO107))) (Kd.R_lt (rl_ HO113))) (below_size (bl_ HB))); have n4_ := bb_ BK109 hb; have n5_ := hs_ HB hb; clear HO103; clear HO107; clear HO113; clear BK109; clear HB; have HO103 := n0_; have HO107 := n1_; have HO113 := n2_; have HO116 := n3_; have BK109 := n4_; have HB := n5_; clear n0_ n1_ n2_ n3_ n4_ n5_; clear hb ho63; obtain ⟨Ao64, co64, eo64⟩ := Kd.R_slice HO116.out; subst eo64) | ((with_reducible refine gate_dst (N := 19) rfl ?_); (try (refine gate_guard (by rfl) ?_; dsimp only)); refine Kd.N_lit k43 _ 43 ?hg (N' := 19) ?hd (xs := ([(⟨2, y114⟩ : S43)] : List (S43))) (inner := [.int .i64 2, .slice Ao64 y114.length co64]) (ok := (fun k_ => some k_ ≠ (.slice Ao56 y101.length co56 : Value).ownBlock ∧ some k_ ≠ (.slice Ao60 t105.length co60 : Value).ownBlock ∧ some k_ ≠ (v112 : Value).ownBlock ∧ k_ ≠ gb109)) (okp := (fun k_ => some k_ ≠ (.slice Ao56 y101.length co56 : Value).ownBlock ∧ some k_ ≠ (.slice Ao60 t105.length co60 : Value).ownBlock ∧ some k_ ≠ (v112 : Value).ownBlock ∧ k_ ≠ gb109)) ?hr ?hp (fun _ hk => hk) ((show ∀ k_, w62.heap.size ≤ k_ → (fun k_ => some k_ ≠ (.slice Ao56 y101.length co56 : Value).ownBlock ∧ some k_ ≠ (.slice Ao60 t105.length co60 : Value).ownBlock ∧ some k_ ≠ (v112 : Value).ownBlock ∧ k_ ≠ gb109) k_ from fun k_ hk => ⟨Kd.fresh' (Kd.R_lt (rl_ HO103)) k_ hk, Kd.fresh' (Kd.R_lt (rl_ HO107)) k_ hk, Kd.fresh' (Kd.R_lt (rl_ HO113)) k_ hk, Kd.freshB (g := gb109) (o := .cells #[.int .i64 t104, .slice Ao60 t105.length co60] 43 (0, 0)) (pl_ BK109) k_ hk⟩) _ (Nat.le_refl _)) (Below.refl _ _) (Nat.le_refl _) (by simp) ?_; (case hd => rfl); (case hg => rfl); (case hr => first | (go_simp; done) | (go_simp; rfl)); (case hp => exact (Reps.c2 (show Kd.FK k43 _ _ (⟨2, y114⟩ : S43) [.int .i64 2, .slice Ao64 y114.length co64] from (k43_mkF _ _ (⟨2, y114⟩ : S43) (Kd.R_reads' (Kd.R_mono (ok' := (fun k_ => some k_ ≠ (.slice Ao56 y101.length co56 : Value).ownBlock ∧ some k_ ≠ (.slice Ao60 t105.length co60 : Value).ownBlock ∧ some k_ ≠ (v112 : Value).ownBlock ∧ k_ ≠ gb109)) (Kd.R_types (HO116.out) BK109.out (by decide)) (fun k_ hk => ⟨hk.1.1.1.2, ⟨hk.1.1.2, ⟨hk.1.2, hk.2⟩⟩⟩))).2.1 (Kd.R_F (Kd.R_mono (ok' := (fun k_ => some k_ ≠ (.slice Ao56 y101.length co56 : Value).ownBlock ∧ some k_ ≠ (.slice Ao60 t105.length co60 : Value).ownBlock ∧ some k_ ≠ (v112 : Value).ownBlock ∧ k_ ≠ gb109)) (Kd.R_types (HO116.out) BK109.out (by decide)) (fun k_ hk => ⟨hk.1.1.1.2, ⟨hk.1.1.2, ⟨hk.1.2, hk.2⟩⟩⟩))))) (Reps.none _ _))); intro v118 w65 ho66 hb hg_ hnew_; clear hg_ hnew_; (first | rw [← Ny117.out] at ho66 | (simp only [Int.reduceToNat] at ho66; rw [← Ny117.out] at ho66)); have n0_ := Aside0.mk (Kd.R_below (rl_ HO103) hb); have n1_ := Aside0.mk (Kd.R_below (rl_ HO107) hb); have n2_ := Aside0.mk (Kd.R_below (rl_ HO113) hb); have n3_ := Aside0.mk (Kd.N_lower ho66 (below_size (bl_ HB))); have n4_ := bb_ BK109 hb; have n5_ := hs_ HB hb; clear HO103; clear HO107; clear HO113; clear BK109; clear HB; clear HO116; have HO103 := n0_; have HO107 := n1_; have HO113 := n2_; have HO119 := n3_; have BK109 := n4_; have HB := n5_; clear n0_ n1_ n2_ n3_ n4_ n5_; clear hb ho66; obtain ⟨Ao67, co67, eo67⟩ := Kd.R_slice HO113.out; subst eo67; obtain ⟨Ao68, co68, eo68⟩ := Kd.N_slice HO119.out; subst eo68) | ((with_reducible refine gate_callee (f := 51) rfl ?_); refine goesL_ (some 20) rfl rfl Try.func51 (by kernel_rfl) rfl #[.agg #[.int .i64 t110, .slice Ao67 t111.length co67], .slice Ao68 y117.length co68] rfl (by (try simp only [List.map_toArray, List.map_cons, List.map_nil]); first | done | rfl | (simp only [List.length_drop, List.length_take]; rfl)) ?_; (with_reducible refine (level_Subst.calls k t110 _ _ t111 _ _ y117 t120 t121 t124 _ ?side1 ?side2 ?side3 ?side4 A3.out).mono ?_); (case side1 => repeat (first | exact (Kd.R_reads' HO113.out).2.2 | (with_reducible refine Kd.C_alloc ?_ _) | (with_reducible refine Kd.C_drewN ?_ _) | (with_reducible refine Kd.C_drew ?_))); (case side2 => exact (Kd.R_reads' HO113.out).2.1); (case side3 => repeat (first | exact (Kd.N_reads' HO119.out).2.2 | (with_reducible refine Kd.C_alloc ?_ _) | (with_reducible refine Kd.C_drewN ?_ _) | (with_reducible refine Kd.C_drew ?_))); (case side4 => exact (Kd.N_reads' HO119.out).2.1); rintro e w69 ⟨v122, rfl, ho0, hb⟩; refine ⟨_, rfl, ?_⟩; have n0_ := Aside0.mk (Kd.R_elder' (rl_ HO103) (Kd.R_base ho0) hb); have n1_ := Aside0.mk (Kd.R_elder' (rl_ HO107) (Kd.R_base ho0) hb); have n2_ := Aside0.mk (Kd.R_elder' (rl_ HO113) (Kd.R_base ho0) hb); have n3_ := Aside0.mk (Kd.N_elder' (by (with_reducible repeat (first | apply Kd.N_alloc | apply Kd.N_drewN | apply Kd.N_drew)); exact HO119.out) (Kd.R_base ho0) hb); have n4_ := Aside0.mk (Kd.R_lower (Kd.R_new' (Kd.R_new' (Kd.R_new' ho0 (Kd.R_lt (rl_ HO103))) (Kd.R_lt (rl_ HO107))) (Kd.R_lt (rl_ HO113))) (below_size (bl_ HB))); have n5_ := bb_ BK109 hb; have n6_ := hs_ HB hb; clear HO103; clear HO107; clear HO113; clear HO119; clear BK109; clear HB; have HO103 := n0_; have HO107 := n1_; have HO113 := n2_; have HO119 := n3_; have HO123 := n4_; have BK109 := n5_; have HB := n6_; clear n0_ n1_ n2_ n3_ n4_ n5_ n6_; (try clear hb); (try clear hb2); (try clear hk); (try clear hi); (try clear ho0)) | ((with_reducible refine gate_dst (N := 3) rfl ?_); (try (refine gate_guard (by rfl) ?_; dsimp only)); refine box_event ?hg (N := 3) ?hd (cs := #[.int .i64 0, .slice none 0 0]) (t := 43) ?hr ?_; (case hd => rfl); (case hg => rfl); (case hr => first | (go_simp; done) | (go_simp; rfl)); intro gb125 hg w70 hbox hb; have n0_ := Aside0.mk (Kd.R_below (rl_ HO103) hb); have n1_ := Aside0.mk (Kd.R_below (rl_ HO107) hb); have n2_ := Aside0.mk (Kd.R_below (rl_ HO113) hb); have n3_ := Aside0.mk (Kd.N_below (Kd.N_elderB (by (with_reducible repeat (first | apply Kd.N_alloc | apply Kd.N_drewN | apply Kd.N_drew)); exact HO119.out) gb125 (Nat.le_of_eq hg.symm)) hb); have n4_ := Aside0.mk (Kd.R_below (rl_ HO123) hb); have n5_ := bb_ BK109 hb; have n6_ := hs_ HB hb; have n7_ := Aside0.mk (hbox); have n8_ := Aside0.mk ((bs_ hg HB : w.heap.size ≤ gb125)); have n9_ := Aside0.mk ((bs_ hg HB : w.heap.size ≤ gb125)); have n10_ := Aside0.mk ((nl_ hg BK109 : gb109 ≠ gb125)); have n11_ := Aside0.mk ((ng_ hg BK109 : gb125 ≠ gb109)); clear HO103; clear HO107; clear HO113; clear HO119; clear HO123; clear BK109; clear HB; have HO103 := n0_; have HO107 := n1_; have HO113 := n2_; have HO119 := n3_; have HO123 := n4_; have BK109 := n5_; have HB := n6_; have BK125 := n7_; have GW125 := n8_; have GE125 := n9_; have NB109_125 := n10_; have NB125_109 := n11_; clear n0_ n1_ n2_ n3_ n4_ n5_ n6_ n7_ n8_ n9_ n10_ n11_; clear hb hbox hg; have hnb71 := NB125_109.out; have hnc71 := NB109_125.out; have hcz72_0 : w70.cell? ⟨gb125, 0, none⟩ = some (.int .i64 0) := (blk_cell BK125.out 0).trans rfl; have hcz72_1 : w70.cell? ⟨gb125, 1, none⟩ = some (.slice none 0 0) := (blk_cell BK125.out 1).trans rfl; have hfz72_0 := blk_frozen BK125.out 0; have hfz72_1 := blk_frozen BK125.out 1; obtain ⟨Ao73, co73, eo73⟩ := Kd.R_slice HO123.out; subst eo73) | ((with_reducible refine gate_callee (f := 33) rfl ?_); refine goesL_ (some 23) rfl rfl Try.func33 (by kernel_rfl) rfl #[.int .i64 0, .int .i64 0] rfl (by (try simp only [List.map_toArray, List.map_cons, List.map_nil]); first | done | rfl | (simp only [List.length_drop, List.length_take]; rfl)) ?_; (with_reducible refine (telamonlaw1_V.calls 0 0 t126 t127 _ A4.out).mono ?_); rintro e w74 ⟨v128, rfl, ho0, hb⟩; refine ⟨_, rfl, ?_⟩; have n0_ := Aside0.mk (Kd.R_elder' (by (with_reducible repeat (first | apply Kd.R_alloc | apply Kd.R_drewN | apply Kd.R_drew)); exact (Kd.R_mono (Kd.R_far (p := ⟨gb125, 1, none⟩) (Kd.R_far (p := ⟨gb125, 0, none⟩) (Kd.R_types HO103.out BK125.out (by decide)) (fun _ hk => hk.2) (.int .i64 t120)) (fun _ hk => hk.2) (.slice Ao73 t121.length co73)) (fun _ h_ => h_.1))) (Kd.R_base ho0) hb); have n1_ := Aside0.mk (Kd.R_elder' (by (with_reducible repeat (first | apply Kd.R_alloc | apply Kd.R_drewN | apply Kd.R_drew)); exact (Kd.R_mono (Kd.R_far (p := ⟨gb125, 1, none⟩) (Kd.R_far (p := ⟨gb125, 0, none⟩) (Kd.R_types HO107.out BK125.out (by decide)) (fun _ hk => hk.2) (.int .i64 t120)) (fun _ hk => hk.2) (.slice Ao73 t121.length co73)) (fun _ h_ => h_.1))) (Kd.R_base ho0) hb); have n2_ := Aside0.mk (Kd.R_elder' (by (with_reducible repeat (first | apply Kd.R_alloc | apply Kd.R_drewN | apply Kd.R_drew)); exact (Kd.R_mono (Kd.R_far (p := ⟨gb125, 1, none⟩) (Kd.R_far (p := ⟨gb125, 0, none⟩) (Kd.R_types HO113.out BK125.out (by decide)) (fun _ hk => hk.2) (.int .i64 t120)) (fun _ hk => hk.2) (.slice Ao73 t121.length co73)) (fun _ h_ => h_.1))) (Kd.R_base ho0) hb); have n3_ := Aside0.mk (Kd.N_elder' (by (with_reducible repeat (first | apply Kd.N_alloc | apply Kd.N_drewN | apply Kd.N_drew)); exact (Kd.N_mono (Kd.N_far (p := ⟨gb125, 1, none⟩) (Kd.N_far (p := ⟨gb125, 0, none⟩) (Kd.N_mono HO119.out (fun k_ hk => (⟨hk, hk.2⟩ : _ ∧ k_ ≠ gb125))) (fun _ hk => hk.2) (.int .i64 t120)) (fun _ hk => hk.2) (.slice Ao73 t121.length co73)) (fun _ h_ => h_.1))) (Kd.R_base ho0) hb); have n4_ := Aside0.mk (Kd.R_elder' (by (with_reducible repeat (first | apply Kd.R_alloc | apply Kd.R_drewN | apply Kd.R_drew)); exact (Kd.R_mono (Kd.R_far (p := ⟨gb125, 1, none⟩) (Kd.R_far (p := ⟨gb125, 0, none⟩) (Kd.R_types HO123.out BK125.out (by decide)) (fun _ hk => hk.2) (.int .i64 t120)) (fun _ hk => hk.2) (.slice Ao73 t121.length co73)) (fun _ h_ => h_.1))) (Kd.R_base ho0) hb); have n5_ := Aside0.mk (Kd.R_lower (Kd.R_new' (Kd.R_new' (Kd.R_new' (Kd.R_new' ho0 (Kd.R_lt (by (with_reducible repeat (first | apply Kd.R_alloc | apply Kd.R_drewN | apply Kd.R_drew)); exact (Kd.R_mono (Kd.R_far (p := ⟨gb125, 1, none⟩) (Kd.R_far (p := ⟨gb125, 0, none⟩) (Kd.R_types HO103.out BK125.out (by decide)) (fun _ hk => hk.2) (.int .i64 t120)) (fun _ hk => hk.2) (.slice Ao73 t121.length co73)) (fun _ h_ => h_.1))))) (Kd.R_lt (by (with_reducible repeat (first | apply Kd.R_alloc | apply Kd.R_drewN | apply Kd.R_drew)); exact (Kd.R_mono (Kd.R_far (p := ⟨gb125, 1, none⟩) (Kd.R_far (p := ⟨gb125, 0, none⟩) (Kd.R_types HO107.out BK125.out (by decide)) (fun _ hk => hk.2) (.int .i64 t120)) (fun _ hk => hk.2) (.slice Ao73 t121.length co73)) (fun _ h_ => h_.1))))) (Kd.R_lt (by (with_reducible repeat (first | apply Kd.R_alloc | apply Kd.R_drewN | apply Kd.R_drew)); exact (Kd.R_mono (Kd.R_far (p := ⟨gb125, 1, none⟩) (Kd.R_far (p := ⟨gb125, 0, none⟩) (Kd.R_types HO113.out BK125.out (by decide)) (fun _ hk => hk.2) (.int .i64 t120)) (fun _ hk => hk.2) (.slice Ao73 t121.length co73)) (fun _ h_ => h_.1))))) (Kd.R_lt (by (with_reducible repeat (first | apply Kd.R_alloc | apply Kd.R_drewN | apply Kd.R_drew)); exact (Kd.R_mono (Kd.R_far (p := ⟨gb125, 1, none⟩) (Kd.R_far (p := ⟨gb125, 0, none⟩) (Kd.R_types HO123.out BK125.out (by decide)) (fun _ hk => hk.2) (.int .i64 t120)) (fun _ hk => hk.2) (.slice Ao73 t121.length co73)) (fun _ h_ => h_.1))))) (below_size (bl_ HB))); have n6_ := Aside0.mk (blk_below (pf_ BK109) hb); have n7_ := Aside0.mk (blk_below (g := gb125) (o := .cells #[.int .i64 t120, .slice Ao73 t121.length co73] 43 (0, 0)) (by (with_reducible repeat (first | refine blk_drewN ?_ _ | refine blk_drew ?_ | refine blk_alloc ?_ _)); refine blk_put (cs := #[.int .i64 t120, .slice none 0 0]) ?_ 1 _ rfl; (with_reducible repeat (first | refine blk_drewN ?_ _ | refine blk_drew ?_ | refine blk_alloc ?_ _)); refine blk_put (cs := #[.int .i64 0, .slice none 0 0]) ?_ 0 _ rfl; (with_reducible repeat (first | refine blk_drewN ?_ _ | refine blk_drew ?_ | refine blk_alloc ?_ _)); exact BK125.out) hb); have n8_ := hs_ HB hb; clear HO103; clear HO107; clear HO113; clear HO119; clear HO123; clear BK109; clear BK125; clear HB; have HO103 := n0_; have HO107 := n1_; have HO113 := n2_; have HO119 := n3_; have HO123 := n4_; have HO129 := n5_; have BK109 := n6_; have BK125 := n7_; have HB := n8_; clear n0_ n1_ n2_ n3_ n4_ n5_ n6_ n7_ n8_; (try clear hb); (try clear hb2); (try clear hk); (try clear hi); (try clear ho0)) | ((with_reducible refine gate_callee (f := 33) rfl ?_); refine goesL_ (some 24) rfl rfl Try.func33 (by kernel_rfl) rfl #[.int .i64 0, .int .i64 1] rfl (by (try simp only [List.map_toArray, List.map_cons, List.map_nil]); first | done | rfl | (simp only [List.length_drop, List.length_take]; rfl)) ?_; (with_reducible refine (telamonlaw1_V.calls 0 1 t130 t131 _ A5.out).mono ?_); rintro e w75 ⟨v132, rfl, ho0, hb⟩; refine ⟨_, rfl, ?_⟩; have n0_ := Aside0.mk (Kd.R_elder' (rl_ HO103) (Kd.R_base ho0) hb); have n1_ := Aside0.mk (Kd.R_elder' (rl_ HO107) (Kd.R_base ho0) hb); have n2_ := Aside0.mk (Kd.R_elder' (rl_ HO113) (Kd.R_base ho0) hb); have n3_ := Aside0.mk (Kd.N_elder' (by (with_reducible repeat (first | apply Kd.N_alloc | apply Kd.N_drewN | apply Kd.N_drew)); exact HO119.out) (Kd.R_base ho0) hb); have n4_ := Aside0.mk (Kd.R_elder' (rl_ HO123) (Kd.R_base ho0) hb); have n5_ := Aside0.mk (Kd.R_elder' (rl_ HO129) (Kd.R_base ho0) hb); have n6_ := Aside0.mk (Kd.R_lower (Kd.R_new' (Kd.R_new' (Kd.R_new' (Kd.R_new' (Kd.R_new' ho0 (Kd.R_lt (rl_ HO103))) (Kd.R_lt (rl_ HO107))) (Kd.R_lt (rl_ HO113))) (Kd.R_lt (rl_ HO123))) (Kd.R_lt (rl_ HO129))) (below_size (bl_ HB))); have n7_ := bb_ BK109 hb; have n8_ := bb_ BK125 hb; have n9_ := hs_ HB hb; clear HO103; clear HO107; clear HO113; clear HO119; clear HO123; clear HO129; clear BK109; clear BK125; clear HB; have HO103 := n0_; have HO107 := n1_; have HO113 := n2_; have HO119 := n3_; have HO123 := n4_; have HO129 := n5_; have HO133 := n6_; have BK109 := n7_; have BK125 := n8_; have HB := n9_; clear n0_ n1_ n2_ n3_ n4_ n5_ n6_ n7_ n8_ n9_; (try clear hb); (try clear hb2); (try clear hk); (try clear hi); (try clear ho0); obtain ⟨Ao76, co76, eo76⟩ := Kd.R_slice HO129.out; subst eo76; obtain ⟨Ao77, co77, eo77⟩ := Kd.R_slice HO133.out; subst eo77) | ((with_reducible refine gate_callee (f := 49) rfl ?_); refine goesL_ (some 25) rfl rfl Try.func49 (by kernel_rfl) rfl #[.agg #[.int .i64 t126, .slice Ao76 t127.length co76], .agg #[.int .i64 t130, .slice Ao77 t131.length co77]] rfl (by (try simp only [List.map_toArray, List.map_cons, List.map_nil]); first | done | rfl | (simp only [List.length_drop, List.length_take]; rfl)) ?_; (with_reducible refine (level_Leq.calls k t126 _ _ t127 t130 _ _ t131 true _ ?side1 ?side2 ?side3 ?side4 A6.out).mono ?_); (case side1 => repeat (first | exact (Kd.R_reads' HO129.out).2.2 | (with_reducible refine Kd.C_alloc ?_ _) | (with_reducible refine Kd.C_drewN ?_ _) | (with_reducible refine Kd.C_drew ?_))); (case side2 => exact (Kd.R_reads' HO129.out).2.1); (case side3 => repeat (first | exact (Kd.R_reads' HO133.out).2.2 | (with_reducible refine Kd.C_alloc ?_ _) | (with_reducible refine Kd.C_drewN ?_ _) | (with_reducible refine Kd.C_drew ?_))); (case side4 => exact (Kd.R_reads' HO133.out).2.1); rintro e w78 ⟨rfl, hb⟩; refine ⟨_, rfl, ?_⟩; have n0_ := Aside0.mk (Kd.R_below (rl_ HO103) hb); have n1_ := Aside0.mk (Kd.R_below (rl_ HO107) hb); have n2_ := Aside0.mk (Kd.R_below (rl_ HO113) hb); have n3_ := Aside0.mk (Kd.N_below (by (with_reducible repeat (first | apply Kd.N_alloc | apply Kd.N_drewN | apply Kd.N_drew)); exact HO119.out) hb); have n4_ := Aside0.mk (Kd.R_below (rl_ HO123) hb); have n5_ := Aside0.mk (Kd.R_below (rl_ HO129) hb); have n6_ := Aside0.mk (Kd.R_below (rl_ HO133) hb); have n7_ := bb_ BK109 hb; have n8_ := bb_ BK125 hb; have n9_ := hs_ HB hb; clear HO103; clear HO107; clear HO113; clear HO119; clear HO123; clear HO129; clear HO133; clear BK109; clear BK125; clear HB; have HO103 := n0_; have HO107 := n1_; have HO113 := n2_; have HO119 := n3_; have HO123 := n4_; have HO129 := n5_; have HO133 := n6_; have BK109 := n7_; have BK125 := n8_; have HB := n9_; clear n0_ n1_ n2_ n3_ n4_ n5_ n6_ n7_ n8_ n9_; (try clear hb); (try clear hb2); (try clear hk); (try clear hi)) | ((with_reducible refine gate_callee (f := 33) rfl ?_); refine goesL_ (some 26) rfl rfl Try.func33 (by kernel_rfl) rfl #[.int .i64 0, .int .i64 1] rfl (by (try simp only [List.map_toArray, List.map_cons, List.map_nil]); first | done | rfl | (simp only [List.length_drop, List.length_take]; rfl)) ?_; (with_reducible refine (telamonlaw1_V.calls 0 1 t135 t136 _ A7.out).mono ?_); rintro e w79 ⟨v137, rfl, ho0, hb⟩; refine ⟨_, rfl, ?_⟩; have n0_ := Aside0.mk (Kd.R_elder' (rl_ HO103) (Kd.R_base ho0) hb); have n1_ := Aside0.mk (Kd.R_elder' (rl_ HO107) (Kd.R_base ho0) hb); have n2_ := Aside0.mk (Kd.R_elder' (rl_ HO113) (Kd.R_base ho0) hb); have n3_ := Aside0.mk (Kd.N_elder' (by (with_reducible repeat (first | apply Kd.N_alloc | apply Kd.N_drewN | apply Kd.N_drew)); exact HO119.out) (Kd.R_base ho0) hb); have n4_ := Aside0.mk (Kd.R_elder' (rl_ HO123) (Kd.R_base ho0) hb); have n5_ := Aside0.mk (Kd.R_elder' (rl_ HO129) (Kd.R_base ho0) hb); have n6_ := Aside0.mk (Kd.R_elder' (rl_ HO133) (Kd.R_base ho0) hb); have n7_ := Aside0.mk (Kd.R_lower (Kd.R_new' (Kd.R_new' (Kd.R_new' (Kd.R_new' (Kd.R_new' (Kd.R_new' ho0 (Kd.R_lt (rl_ HO103))) (Kd.R_lt (rl_ HO107))) (Kd.R_lt (rl_ HO113))) (Kd.R_lt (rl_ HO123))) (Kd.R_lt (rl_ HO129))) (Kd.R_lt (rl_ HO133))) (below_size (bl_ HB))); have n8_ := bb_ BK109 hb; have n9_ := bb_ BK125 hb; have n10_ := hs_ HB hb; clear HO103; clear HO107; clear HO113; clear HO119; clear HO123; clear HO129; clear HO133; clear BK109; clear BK125; clear HB; have HO103 := n0_; have HO107 := n1_; have HO113 := n2_; have HO119 := n3_; have HO123 := n4_; have HO129 := n5_; have HO133 := n6_; have HO138 := n7_; have BK109 := n8_; have BK125 := n9_; have HB := n10_; clear n0_ n1_ n2_ n3_ n4_ n5_ n6_ n7_ n8_ n9_ n10_; (try clear hb); (try clear hb2); (try clear hk); (try clear hi); (try clear ho0)) | ((with_reducible refine gate_dst (N := 28) rfl ?_); (try (refine gate_guard (by rfl) ?_; dsimp only)); refine Kd.R_lit k62 _ 62 ?hg (N := 28) ?hd (xs := ([(⟨0, 0⟩ : S62)] : List (S62))) (inner := [.int .i64 0, .int .i64 0]) (ok := fun _ => True) (okp := fun _ => True) ?hr ?hp (fun _ hk => hk) trivial (Below.refl _ _) (Nat.le_refl _) (by simp) ?_; (case hd => rfl); (case hg => rfl); (case hr => first | (go_simp; done) | (go_simp; rfl)); (case hp => exact (Reps.c2 (show Kd.M k62 _ _ _ (⟨0, 0⟩ : S62) [.int .i64 0, .int .i64 0] from (k62_mkM _ _ _ (⟨0, 0⟩ : S62) )) (Reps.none _ _))); intro v140 w80 ho81 hb hg_ hnew_; clear hg_ hnew_; (first | rw [← Ny139.out] at ho81 | (simp only [Int.reduceToNat] at ho81; rw [← Ny139.out] at ho81)); have n0_ := Aside0.mk (Kd.R_elder' (rl_ HO103) (Kd.R_base ho81) hb); have n1_ := Aside0.mk (Kd.R_elder' (rl_ HO107) (Kd.R_base ho81) hb); have n2_ := Aside0.mk (Kd.R_elder' (rl_ HO113) (Kd.R_base ho81) hb); have n3_ := Aside0.mk (Kd.N_elder' (by (with_reducible repeat (first | apply Kd.N_alloc | apply Kd.N_drewN | apply Kd.N_drew)); exact HO119.out) (Kd.R_base ho81) hb); have n4_ := Aside0.mk (Kd.R_elder' (rl_ HO123) (Kd.R_base ho81) hb); have n5_ := Aside0.mk (Kd.R_elder' (rl_ HO129) (Kd.R_base ho81) hb); have n6_ := Aside0.mk (Kd.R_elder' (rl_ HO133) (Kd.R_base ho81) hb); have n7_ := Aside0.mk (Kd.R_elder' (rl_ HO138) (Kd.R_base ho81) hb); have n8_ := Aside0.mk (Kd.R_lower (Kd.R_new' (Kd.R_new' (Kd.R_new' (Kd.R_new' (Kd.R_new' (Kd.R_new' (Kd.R_new' ho81 (Kd.R_lt (rl_ HO103))) (Kd.R_lt (rl_ HO107))) (Kd.R_lt (rl_ HO113))) (Kd.R_lt (rl_ HO123))) (Kd.R_lt (rl_ HO129))) (Kd.R_lt (rl_ HO133))) (Kd.R_lt (rl_ HO138))) (below_size (bl_ HB))); have n9_ := bb_ BK109 hb; have n10_ := bb_ BK125 hb; have n11_ := hs_ HB hb; clear HO103; clear HO107; clear HO113; clear HO119; clear HO123; clear HO129; clear HO133; clear HO138; clear BK109; clear BK125; clear HB; have HO103 := n0_; have HO107 := n1_; have HO113 := n2_; have HO119 := n3_; have HO123 := n4_; have HO129 := n5_; have HO133 := n6_; have HO138 := n7_; have HO141 := n8_; have BK109 := n9_; have BK125 := n10_; have HB := n11_; clear n0_ n1_ n2_ n3_ n4_ n5_ n6_ n7_ n8_ n9_ n10_ n11_; clear hb ho81; obtain ⟨Ao82, co82, eo82⟩ := Kd.R_slice HO141.out; subst eo82; obtain ⟨Ao83, co83, eo83⟩ := Kd.R_slice HO138.out; subst eo83) | ((with_reducible refine gate_callee (f := 49) rfl ?_); refine goesL_ (some 30) rfl rfl Try.func49 (by kernel_rfl) rfl #[.agg #[.int .i64 t135, .slice Ao83 t136.length co83], .agg #[.int .i64 3, .slice Ao82 y139.length co82]] rfl (by (try simp only [List.map_toArray, List.map_cons, List.map_nil]); first | done | rfl | (simp only [List.length_drop, List.length_take]; rfl)) ?_; (with_reducible refine (level_Leq.calls k t135 _ _ t136 3 _ _ y139 false _ ?side1 ?side2 ?side3 ?side4 A8.out).mono ?_); (case side1 => repeat (first | exact (Kd.R_reads' HO138.out).2.2 | (with_reducible refine Kd.C_alloc ?_ _) | (with_reducible refine Kd.C_drewN ?_ _) | (with_reducible refine Kd.C_drew ?_))); (case side2 => exact (Kd.R_reads' HO138.out).2.1); (case side3 => repeat (first | exact (Kd.R_reads' HO141.out).2.2 | (with_reducible refine Kd.C_alloc ?_ _) | (with_reducible refine Kd.C_drewN ?_ _) | (with_reducible refine Kd.C_drew ?_))); (case side4 => exact (Kd.R_reads' HO141.out).2.1); rintro e w84 ⟨rfl, hb⟩; refine ⟨_, rfl, ?_⟩; have n0_ := Aside0.mk (Kd.R_below (rl_ HO103) hb); have n1_ := Aside0.mk (Kd.R_below (rl_ HO107) hb); have n2_ := Aside0.mk (Kd.R_below (rl_ HO113) hb); have n3_ := Aside0.mk (Kd.N_below (by (with_reducible repeat (first | apply Kd.N_alloc | apply Kd.N_drewN | apply Kd.N_drew)); exact HO119.out) hb); have n4_ := Aside0.mk (Kd.R_below (rl_ HO123) hb); have n5_ := Aside0.mk (Kd.R_below (rl_ HO129) hb); have n6_ := Aside0.mk (Kd.R_below (rl_ HO133) hb); have n7_ := Aside0.mk (Kd.R_below (rl_ HO138) hb); have n8_ := Aside0.mk (Kd.R_below (rl_ HO141) hb); have n9_ := bb_ BK109 hb; have n10_ := bb_ BK125 hb; have n11_ := hs_ HB hb; clear HO103; clear HO107; clear HO113; clear HO119; clear HO123; clear HO129; clear HO133; clear HO138; clear HO141; clear BK109; clear BK125; clear HB; have HO103 := n0_; have HO107 := n1_; have HO113 := n2_; have HO119 := n3_; have HO123 := n4_; have HO129 := n5_; have HO133 := n6_; have HO138 := n7_; have HO141 := n8_; have BK109 := n9_; have BK125 := n10_; have HB := n11_; clear n0_ n1_ n2_ n3_ n4_ n5_ n6_ n7_ n8_ n9_ n10_ n11_; (try clear hb); (try clear hb2); (try clear hk); (try clear hi)))
      have n0_ := Aside0.mk (Kd.R_drew HO103.out)
      have n1_ := Aside0.mk (Kd.R_drew HO107.out)
      have n2_ := Aside0.mk (Kd.R_drew HO113.out)
      have n3_ := Aside0.mk (Kd.N_drew HO119.out)
      have n4_ := Aside0.mk (Kd.R_drew HO123.out)
      have n5_ := Aside0.mk (Kd.R_drew HO129.out)
      have n6_ := Aside0.mk (Kd.R_drew HO133.out)
      have n7_ := Aside0.mk (Kd.R_drew HO138.out)
      have n8_ := Aside0.mk (Kd.R_drew HO141.out)
      have n9_ := Aside0.mk (blk_drew BK109.out)
      have n10_ := Aside0.mk (blk_drew BK125.out)
      have n11_ := Aside0.mk (below_drew1 HB.out)
      clear HO103
      clear HO107
      clear HO113
      clear HO119
      clear HO123
      clear HO129
      clear HO133
      clear HO138
      clear HO141
      clear BK109
      clear BK125
      clear HB
      have HO103 := n0_
      have HO107 := n1_
      have HO113 := n2_
      have HO119 := n3_
      have HO123 := n4_
      have HO129 := n5_
      have HO133 := n6_
      have HO138 := n7_
      have HO141 := n8_
      have BK109 := n9_
      have BK125 := n10_
      have HB := n11_
      clear n0_ n1_ n2_ n3_ n4_ n5_ n6_ n7_ n8_ n9_ n10_ n11_
      refine start_ (n := 28) (S := fun w' => w'.cell? ⟨gb109, 0, none⟩ = some (.int .i64 t104) ∧ w'.cell? ⟨gb109, 1, none⟩ = some (.slice Ao60 t105.length co60) ∧ w'.cell? ⟨gb125, 0, none⟩ = some (.int .i64 t120) ∧ w'.cell? ⟨gb125, 1, none⟩ = some (.slice Ao73 t121.length co73)) (ds := []) #[false, false, false, false, false, false, false, false, false, false, false, false, false, false, false, false, false, false, false, false, false, false, false, false, false, false, false, false] (by kernel_rfl) rfl rfl ⟨(blk_cell BK109.out 0).trans rfl, (blk_cell BK109.out 1).trans rfl, (blk_cell BK125.out 0).trans rfl, (blk_cell BK125.out 1).trans rfl⟩ (fun hHeld => ?_); refine with_tabW telamonlaw1_alive.tab5 telamonlaw1_alive.bits5 (fun HT_ HW_ => ?_)
      generalize w84.drew = w85 at HO103 HO107 HO113 HO119 HO123 HO129 HO133 HO138 HO141 BK109 BK125 HB hHeld ⊢
      refine pure_ (i := 0) (N := some 31) (v := ?_) (a' := ?_) #[true, false, false, false, false, false, false, false, false, false, false, false, false, false, false, false, false, false, false, false, false, false, false, false, false, false, false, false] rfl rfl (any_of HT_.out (by kernel_rfl)) (fun _ _ _ h => h) (Or.inl ⟨by rfl, ?_⟩) ?_ ?_
      rotate_left
      ·intro w'
       go_simp
       with_reducible rfl
      rotate_left
      ·simp only [Act.put, List.setIfInBounds_toArray, List.set_cons_zero, List.set_cons_succ, i64_w, i32_w]
       rfl
      refine one_ (i := 1) (N := some 32) #[true, true, false, false, false, false, false, false, false, false, false, false, false, false, false, false, false, false, false, false, false, false, false, false, false, false, false, false] rfl rfl (one_of HT_.out (by kernel_rfl)) (by decide) (fun K hK => ?_)
      refine goes_ Try.func43 (by kernel_rfl) rfl #[.int .i64 t108] (by rfl) rfl rfl (by (try simp only [List.map_toArray, List.map_cons, List.map_nil]); first | done | rfl | (simp only [List.length_drop, List.length_take]; rfl)) ?_
      with_reducible refine (telamonlaw1_num.calls t108 t143 _ A9.out).mono ?_
      rintro e w' ⟨rfl, ⟨nd, rfl⟩⟩
      refine ⟨_, rfl, ?_⟩
      refine hK.out _ _ ⟨(blk_cell BK109.out 0).trans rfl, (blk_cell BK109.out 1).trans rfl, (blk_cell BK125.out 0).trans rfl, (blk_cell BK125.out 1).trans rfl⟩ (fun hHeld => ?_)
      clear hK K
      refine norm_ (a' := ?_) ?_ ?_
      rotate_left
      ·show Act.put _ (some 32) _ = _
       simp only [Act.put, List.setIfInBounds_toArray, List.set_cons_zero, List.set_cons_succ, i64_w, i32_w]
       rfl
      refine pure_ (i := 2) (N := some 33) (v := ?_) (a' := ?_) #[true, true, true, false, false, false, false, false, false, false, false, false, false, false, false, false, false, false, false, false, false, false, false, false, false, false, false, false] rfl rfl (any_of HT_.out (by kernel_rfl)) (fun _ _ _ h => h) (Or.inl ⟨by rfl, ?_⟩) ?_ ?_
      rotate_left
      ·intro w'
       go_simp
       with_reducible rfl
      rotate_left
      ·simp only [Act.put, List.setIfInBounds_toArray, List.set_cons_zero, List.set_cons_succ, i64_w, i32_w]
       rfl
      refine pure_ (i := 3) (N := some 34) (v := ?_) (a' := ?_) #[true, true, true, true, false, false, false, false, false, false, false, false, false, false, false, false, false, false, false, false, false, false, false, false, false, false, false, false] rfl rfl (any_of HT_.out (by kernel_rfl)) (fun _ _ _ h => h) (Or.inl ⟨by rfl, ?_⟩) ?_ ?_
      rotate_left
      ·intro w'
       go_simp
       with_reducible rfl
      rotate_left
      ·simp only [Act.put, List.setIfInBounds_toArray, List.set_cons_zero, List.set_cons_succ, i64_w, i32_w]
       rfl
      refine take_ (i := 4) (N := some 35) (v := ?_) (a' := ?_) #[true, true, true, true, true, false, false, false, false, false, false, false, false, false, false, false, false, false, false, false, false, false, false, false, false, false, false, false] rfl rfl (take_ofW HT_.out HW_.out (by kernel_rfl)) (fun _ _ _ h => h) (Or.inl ⟨by rfl, ?_⟩) hHeld ?_ ?_
      rotate_left
      ·rintro w' ⟨s0, s1, s2, s3⟩
       go_simp
       with_reducible rfl
      rotate_left
      ·simp only [Act.put, List.setIfInBounds_toArray, List.set_cons_zero, List.set_cons_succ, i64_w, i32_w]
       rfl
      refine one_ (i := 5) (N := some 36) #[true, true, true, true, true, true, false, false, false, false, false, false, false, false, false, false, false, false, false, false, false, false, false, false, false, false, false, false] rfl rfl (one_of HT_.out (by kernel_rfl)) (by decide) (fun K hK => ?_)
      refine goes_ Try.func33 (by kernel_rfl) rfl #[.int .i64 0, .int .i64 2] (by rfl) rfl rfl (by (try simp only [List.map_toArray, List.map_cons, List.map_nil]); first | done | rfl | (simp only [List.length_drop, List.length_take]; rfl)) ?_
      with_reducible refine (telamonlaw1_V.calls 0 2 t144 t145 _ A11.out).mono ?_
      rintro e w86 ⟨v146, rfl, ho0, hb⟩
      refine ⟨_, rfl, ?_⟩
      have n0_ := Aside0.mk (Kd.R_elder' (rl_ HO103) (Kd.R_base ho0) hb)
      have n1_ := Aside0.mk (Kd.R_elder' (rl_ HO107) (Kd.R_base ho0) hb)
      have n2_ := Aside0.mk (Kd.R_elder' (rl_ HO113) (Kd.R_base ho0) hb)
      have n3_ := Aside0.mk (Kd.N_elder' (by (with_reducible repeat (first | apply Kd.N_alloc | apply Kd.N_drewN | apply Kd.N_drew)); exact HO119.out) (Kd.R_base ho0) hb)
      have n4_ := Aside0.mk (Kd.R_elder' (rl_ HO123) (Kd.R_base ho0) hb)
      have n5_ := Aside0.mk (Kd.R_elder' (rl_ HO129) (Kd.R_base ho0) hb)
      have n6_ := Aside0.mk (Kd.R_elder' (rl_ HO133) (Kd.R_base ho0) hb)
      have n7_ := Aside0.mk (Kd.R_elder' (rl_ HO138) (Kd.R_base ho0) hb)
      have n8_ := Aside0.mk (Kd.R_elder' (rl_ HO141) (Kd.R_base ho0) hb)
      have n9_ := Aside0.mk (Kd.R_lower (Kd.R_new' (Kd.R_new' (Kd.R_new' (Kd.R_new' (Kd.R_new' (Kd.R_new' (Kd.R_new' (Kd.R_new' ho0 (Kd.R_lt (rl_ HO103))) (Kd.R_lt (rl_ HO107))) (Kd.R_lt (rl_ HO113))) (Kd.R_lt (rl_ HO123))) (Kd.R_lt (rl_ HO129))) (Kd.R_lt (rl_ HO133))) (Kd.R_lt (rl_ HO138))) (Kd.R_lt (rl_ HO141))) (below_size (bl_ HB)))
      have n10_ := bb_ BK109 hb
      have n11_ := bb_ BK125 hb
      have n12_ := hs_ HB hb
      clear HO103
      clear HO107
      clear HO113
      clear HO119
      clear HO123
      clear HO129
      clear HO133
      clear HO138
      clear HO141
      clear BK109
      clear BK125
      clear HB
      have HO103 := n0_
      have HO107 := n1_
      have HO113 := n2_
      have HO119 := n3_
      have HO123 := n4_
      have HO129 := n5_
      have HO133 := n6_
      have HO138 := n7_
      have HO141 := n8_
      have HO147 := n9_
      have BK109 := n10_
      have BK125 := n11_
      have HB := n12_
      clear n0_ n1_ n2_ n3_ n4_ n5_ n6_ n7_ n8_ n9_ n10_ n11_ n12_
      (try clear hb)
      (try clear hb2)
      (try clear hk)
      (try clear hi)
      (try clear ho0)
      obtain ⟨Ao87, co87, eo87⟩ := Kd.R_slice HO147.out
      (first | subst eo87 | (injection eo87 with f1_ f2_ f3_; have f4_ := f1_.symm; have f5_ := f3_.symm; clear f1_ f2_ f3_; subst f4_; subst f5_))
      refine hK.out _ _ ⟨(blk_cell BK109.out 0).trans rfl, (blk_cell BK109.out 1).trans rfl, (blk_cell BK125.out 0).trans rfl, (blk_cell BK125.out 1).trans rfl⟩ (fun hHeld => ?_)
      clear hK K
      refine norm_ (a' := ?_) ?_ ?_
      rotate_left
      ·show Act.put _ (some 36) _ = _
       simp only [Act.put, List.setIfInBounds_toArray, List.set_cons_zero, List.set_cons_succ, i64_w, i32_w]
       rfl
      refine one_ (i := 6) (N := some 37) #[true, true, true, true, true, true, true, false, false, false, false, false, false, false, false, false, false, false, false, false, false, false, false, false, false, false, false, false] rfl rfl (one_of HT_.out (by kernel_rfl)) (by decide) (fun K hK => ?_)
      refine goes_ Try.func44 (by kernel_rfl) rfl #[.agg #[.int .i64 t104, .slice Ao60 t105.length co60], .agg #[.int .i64 t144, .slice Ao87 t145.length co87]] (by rfl) rfl rfl (by (try simp only [List.map_toArray, List.map_cons, List.map_nil]); first | done | rfl | (simp only [List.length_drop, List.length_take]; rfl)) ?_
      with_reducible refine (telamonref1_ExactLevel.calls k t104 _ _ t105 t144 _ _ t145 true _ ?side1 ?side2 ?side3 ?side4 A12.out).mono ?_
      (case side1 => repeat (first | exact (Kd.R_reads' HO107.out).2.2 | (with_reducible refine Kd.C_alloc ?_ _) | (with_reducible refine Kd.C_drewN ?_ _) | (with_reducible refine Kd.C_drew ?_)))
      (case side2 => exact (Kd.R_reads' HO107.out).2.1)
      (case side3 => repeat (first | exact (Kd.R_reads' HO147.out).2.2 | (with_reducible refine Kd.C_alloc ?_ _) | (with_reducible refine Kd.C_drewN ?_ _) | (with_reducible refine Kd.C_drew ?_)))
      (case side4 => exact (Kd.R_reads' HO147.out).2.1)
      rintro e w88 ⟨rfl, hb⟩
      refine ⟨_, rfl, ?_⟩
      have n0_ := Aside0.mk (Kd.R_below (rl_ HO103) hb)
      have n1_ := Aside0.mk (Kd.R_below (rl_ HO107) hb)
      have n2_ := Aside0.mk (Kd.R_below (rl_ HO113) hb)
      have n3_ := Aside0.mk (Kd.N_below (by (with_reducible repeat (first | apply Kd.N_alloc | apply Kd.N_drewN | apply Kd.N_drew)); exact HO119.out) hb)
      have n4_ := Aside0.mk (Kd.R_below (rl_ HO123) hb)
      have n5_ := Aside0.mk (Kd.R_below (rl_ HO129) hb)
      have n6_ := Aside0.mk (Kd.R_below (rl_ HO133) hb)
      have n7_ := Aside0.mk (Kd.R_below (rl_ HO138) hb)
      have n8_ := Aside0.mk (Kd.R_below (rl_ HO141) hb)
      have n9_ := Aside0.mk (Kd.R_below (rl_ HO147) hb)
      have n10_ := bb_ BK109 hb
      have n11_ := bb_ BK125 hb
      have n12_ := hs_ HB hb
      clear HO103
      clear HO107
      clear HO113
      clear HO119
      clear HO123
      clear HO129
      clear HO133
      clear HO138
      clear HO141
      clear HO147
      clear BK109
      clear BK125
      clear HB
      have HO103 := n0_
      have HO107 := n1_
      have HO113 := n2_
      have HO119 := n3_
      have HO123 := n4_
      have HO129 := n5_
      have HO133 := n6_
      have HO138 := n7_
      have HO141 := n8_
      have HO147 := n9_
      have BK109 := n10_
      have BK125 := n11_
      have HB := n12_
      clear n0_ n1_ n2_ n3_ n4_ n5_ n6_ n7_ n8_ n9_ n10_ n11_ n12_
      (try clear hb)
      (try clear hb2)
      (try clear hk)
      (try clear hi)
      refine hK.out _ _ ⟨(blk_cell BK109.out 0).trans rfl, (blk_cell BK109.out 1).trans rfl, (blk_cell BK125.out 0).trans rfl, (blk_cell BK125.out 1).trans rfl⟩ (fun hHeld => ?_)
      clear hK K
      refine norm_ (a' := ?_) ?_ ?_
      rotate_left
      ·show Act.put _ (some 37) _ = _
       simp only [Act.put, List.setIfInBounds_toArray, List.set_cons_zero, List.set_cons_succ, i64_w, i32_w]
       rfl
      refine pure_ (i := 7) (N := some 38) (v := ?_) (a' := ?_) #[true, true, true, true, true, true, true, true, false, false, false, false, false, false, false, false, false, false, false, false, false, false, false, false, false, false, false, false] rfl rfl (any_of HT_.out (by kernel_rfl)) (fun _ _ _ h => h) (Or.inl ⟨by rfl, ?_⟩) ?_ ?_
      rotate_left
      ·intro w'
       go_simp
       with_reducible rfl
      rotate_left
      ·simp only [Act.put, List.setIfInBounds_toArray, List.set_cons_zero, List.set_cons_succ, i64_w, i32_w]
       rfl
      refine pure_ (i := 8) (N := some 39) (v := ?_) (a' := ?_) #[true, true, true, true, true, true, true, true, true, false, false, false, false, false, false, false, false, false, false, false, false, false, false, false, false, false, false, false] rfl rfl (any_of HT_.out (by kernel_rfl)) (fun _ _ _ h => h) (Or.inl ⟨by rfl, ?_⟩) ?_ ?_
      rotate_left
      ·intro w'
       go_simp
       with_reducible rfl
      rotate_left
      ·simp only [Act.put, List.setIfInBounds_toArray, List.set_cons_zero, List.set_cons_succ, i64_w, i32_w]
       rfl
      refine pure_ (i := 9) (N := some 40) (v := ?_) (a' := ?_) #[true, true, true, true, true, true, true, true, true, true, false, false, false, false, false, false, false, false, false, false, false, false, false, false, false, false, false, false] rfl rfl (any_of HT_.out (by kernel_rfl)) (fun _ _ _ h => h) (Or.inl ⟨by rfl, ?_⟩) ?_ ?_
      rotate_left
      ·intro w'
       go_simp
       with_reducible rfl
      rotate_left
      ·simp only [Act.put, List.setIfInBounds_toArray, List.set_cons_zero, List.set_cons_succ, i64_w, i32_w]
       rfl
      refine pure_ (i := 10) (N := some 41) (v := ?_) (a' := ?_) #[true, true, true, true, true, true, true, true, true, true, true, false, false, false, false, false, false, false, false, false, false, false, false, false, false, false, false, false] rfl rfl (any_of HT_.out (by kernel_rfl)) (fun _ _ _ h => h) (Or.inl ⟨by rfl, ?_⟩) ?_ ?_
      rotate_left
      ·intro w'
       go_simp
       with_reducible rfl
      rotate_left
      ·simp only [Act.put, List.setIfInBounds_toArray, List.set_cons_zero, List.set_cons_succ, i64_w, i32_w]
       rfl
      refine pure_ (i := 11) (N := some 42) (v := ?_) (a' := ?_) #[true, true, true, true, true, true, true, true, true, true, true, true, false, false, false, false, false, false, false, false, false, false, false, false, false, false, false, false] rfl rfl (any_of HT_.out (by kernel_rfl)) (fun _ _ _ h => h) (Or.inl ⟨by rfl, ?_⟩) ?_ ?_
      rotate_left
      ·intro w'
       go_simp
       with_reducible rfl
      rotate_left
      ·simp only [Act.put, List.setIfInBounds_toArray, List.set_cons_zero, List.set_cons_succ, i64_w, i32_w]
       rfl
      refine pure_ (i := 12) (N := some 43) (v := ?_) (a' := ?_) #[true, true, true, true, true, true, true, true, true, true, true, true, true, false, false, false, false, false, false, false, false, false, false, false, false, false, false, false] rfl rfl (any_of HT_.out (by kernel_rfl)) (fun _ _ _ h => h) (Or.inl ⟨by rfl, ?_⟩) ?_ ?_
      rotate_left
      ·intro w'
       go_simp
       with_reducible rfl
      rotate_left
      ·simp only [Act.put, List.setIfInBounds_toArray, List.set_cons_zero, List.set_cons_succ, i64_w, i32_w]
       rfl
      refine pure_ (i := 13) (N := some 44) (v := ?_) (a' := ?_) #[true, true, true, true, true, true, true, true, true, true, true, true, true, true, false, false, false, false, false, false, false, false, false, false, false, false, false, false] rfl rfl (any_of HT_.out (by kernel_rfl)) (fun _ _ _ h => h) (Or.inl ⟨by rfl, ?_⟩) ?_ ?_
      rotate_left
      ·intro w'
       go_simp
       with_reducible rfl
      rotate_left
      ·simp only [Act.put, List.setIfInBounds_toArray, List.set_cons_zero, List.set_cons_succ, i64_w, i32_w]
       rfl
      refine pure_ (i := 14) (N := some 45) (v := ?_) (a' := ?_) #[true, true, true, true, true, true, true, true, true, true, true, true, true, true, true, false, false, false, false, false, false, false, false, false, false, false, false, false] rfl rfl (any_of HT_.out (by kernel_rfl)) (fun _ _ _ h => h) (Or.inl ⟨by rfl, ?_⟩) ?_ ?_
      rotate_left
      ·intro w'
       go_simp
       with_reducible rfl
      rotate_left
      ·simp only [Act.put, List.setIfInBounds_toArray, List.set_cons_zero, List.set_cons_succ, i64_w, i32_w]
       rfl
      refine pure_ (i := 15) (N := some 46) (v := ?_) (a' := ?_) #[true, true, true, true, true, true, true, true, true, true, true, true, true, true, true, true, false, false, false, false, false, false, false, false, false, false, false, false] rfl rfl (any_of HT_.out (by kernel_rfl)) (fun _ _ _ h => h) (Or.inl ⟨by rfl, ?_⟩) ?_ ?_
      rotate_left
      ·intro w'
       go_simp
       with_reducible rfl
      rotate_left
      ·simp only [Act.put, List.setIfInBounds_toArray, List.set_cons_zero, List.set_cons_succ, i64_w, i32_w]
       rfl
      refine pure_ (i := 16) (N := some 47) (v := ?_) (a' := ?_) #[true, true, true, true, true, true, true, true, true, true, true, true, true, true, true, true, true, false, false, false, false, false, false, false, false, false, false, false] rfl rfl (any_of HT_.out (by kernel_rfl)) (fun _ _ _ h => h) (Or.inl ⟨by rfl, ?_⟩) ?_ ?_
      rotate_left
      ·intro w'
       go_simp
       with_reducible rfl
      rotate_left
      ·simp only [Act.put, List.setIfInBounds_toArray, List.set_cons_zero, List.set_cons_succ, i64_w, i32_w]
       rfl
      refine one_ (i := 17) (N := some 48) #[true, true, true, true, true, true, true, true, true, true, true, true, true, true, true, true, true, true, false, false, false, false, false, false, false, false, false, false] rfl rfl (one_of HT_.out (by kernel_rfl)) (by decide) (fun K hK => ?_)
      refine goes_ Try.func43 (by kernel_rfl) rfl #[.int .i64 t124] (by rfl) rfl rfl (by (try simp only [List.map_toArray, List.map_cons, List.map_nil]); first | done | rfl | (simp only [List.length_drop, List.length_take]; rfl)) ?_
      with_reducible refine (telamonlaw1_num.calls t124 t149 _ A51.out).mono ?_
      rintro e w' ⟨rfl, ⟨nd, rfl⟩⟩
      refine ⟨_, rfl, ?_⟩
      refine hK.out _ _ ⟨(blk_cell BK109.out 0).trans rfl, (blk_cell BK109.out 1).trans rfl, (blk_cell BK125.out 0).trans rfl, (blk_cell BK125.out 1).trans rfl⟩ (fun hHeld => ?_)
      clear hK K
      refine norm_ (a' := ?_) ?_ ?_
      rotate_left
      ·show Act.put _ (some 48) _ = _
       simp only [Act.put, List.setIfInBounds_toArray, List.set_cons_zero, List.set_cons_succ, i64_w, i32_w]
       rfl
      refine pure_ (i := 18) (N := some 49) (v := ?_) (a' := ?_) #[true, true, true, true, true, true, true, true, true, true, true, true, true, true, true, true, true, true, true, false, false, false, false, false, false, false, false, false] rfl rfl (any_of HT_.out (by kernel_rfl)) (fun _ _ _ h => h) (Or.inl ⟨by rfl, ?_⟩) ?_ ?_
      rotate_left
      ·intro w'
       go_simp
       with_reducible rfl
      rotate_left
      ·simp only [Act.put, List.setIfInBounds_toArray, List.set_cons_zero, List.set_cons_succ, i64_w, i32_w]
       rfl
      refine pure_ (i := 19) (N := some 50) (v := ?_) (a' := ?_) #[true, true, true, true, true, true, true, true, true, true, true, true, true, true, true, true, true, true, true, true, false, false, false, false, false, false, false, false] rfl rfl (any_of HT_.out (by kernel_rfl)) (fun _ _ _ h => h) (Or.inl ⟨by rfl, ?_⟩) ?_ ?_
      rotate_left
      ·intro w'
       go_simp
       with_reducible rfl
      rotate_left
      ·simp only [Act.put, List.setIfInBounds_toArray, List.set_cons_zero, List.set_cons_succ, i64_w, i32_w]
       rfl
      refine pure_ (i := 20) (N := some 51) (v := ?_) (a' := ?_) #[true, true, true, true, true, true, true, true, true, true, true, true, true, true, true, true, true, true, true, true, true, false, false, false, false, false, false, false] rfl rfl (any_of HT_.out (by kernel_rfl)) (fun _ _ _ h => h) (Or.inl ⟨by rfl, ?_⟩) ?_ ?_
      rotate_left
      ·intro w'
       go_simp
       with_reducible rfl
      rotate_left
      ·simp only [Act.put, List.setIfInBounds_toArray, List.set_cons_zero, List.set_cons_succ, i64_w, i32_w]
       rfl
      refine pure_ (i := 22) (N := some 53) (v := ?_) (a' := ?_) #[true, true, true, true, true, true, true, true, true, true, true, true, true, true, true, true, true, true, true, true, true, false, true, false, false, false, false, false] rfl rfl (any_of HT_.out (by kernel_rfl)) (fun _ _ _ h => h) (Or.inl ⟨by rfl, ?_⟩) ?_ ?_
      rotate_left
      ·intro w'
       go_simp
       with_reducible rfl
      rotate_left
      ·simp only [Act.put, List.setIfInBounds_toArray, List.set_cons_zero, List.set_cons_succ, i64_w, i32_w]
       rfl
      refine take_ (i := 21) (N := some 52) (v := ?_) (a' := ?_) #[true, true, true, true, true, true, true, true, true, true, true, true, true, true, true, true, true, true, true, true, true, true, true, false, false, false, false, false] rfl rfl (take_ofW HT_.out HW_.out (by kernel_rfl)) (fun _ _ _ h => h) (Or.inl ⟨by rfl, ?_⟩) hHeld ?_ ?_
      rotate_left
      ·rintro w' ⟨s0, s1, s2, s3⟩
       go_simp
       with_reducible rfl
      rotate_left
      ·simp only [Act.put, List.setIfInBounds_toArray, List.set_cons_zero, List.set_cons_succ, i64_w, i32_w]
       rfl
      refine one_ (i := 23) (N := some 54) #[true, true, true, true, true, true, true, true, true, true, true, true, true, true, true, true, true, true, true, true, true, true, true, true, false, false, false, false] rfl rfl (one_of HT_.out (by kernel_rfl)) (by decide) (fun K hK => ?_)
      refine Kd.R_lit_step k62 _ 62 ?hg (N := 54) ?hd (xs := ([(⟨1, 1⟩ : S62)] : List (S62))) (inner := [.int .i64 1, .int .i64 1]) (ok := fun _ => True) (okp := fun _ => True) ?hr ?hp (fun _ hk => hk) trivial (Below.refl _ _) (Nat.le_refl _) (by simp) ?_; (case hd => rfl); (case hg => rfl); (case hr => first | (go_simp; done) | (go_simp; rfl)); (case hp => exact (Reps.c2 (show Kd.M k62 _ _ _ (⟨1, 1⟩ : S62) [.int .i64 1, .int .i64 1] from (k62_mkM _ _ _ (⟨1, 1⟩ : S62) )) (Reps.none _ _)))
      intro v151 w89 ho90 hb hg_ hnew_
      clear hg_ hnew_
      (first | rw [← Ny150.out] at ho90 | (simp only [Int.reduceToNat] at ho90; rw [← Ny150.out] at ho90))
      have n0_ := Aside0.mk (Kd.R_elder' (rl_ HO103) (Kd.R_base ho90) hb)
      have n1_ := Aside0.mk (Kd.R_elder' (rl_ HO107) (Kd.R_base ho90) hb)
      have n2_ := Aside0.mk (Kd.R_elder' (rl_ HO113) (Kd.R_base ho90) hb)
      have n3_ := Aside0.mk (Kd.N_elder' (by (with_reducible repeat (first | apply Kd.N_alloc | apply Kd.N_drewN | apply Kd.N_drew)); exact HO119.out) (Kd.R_base ho90) hb)
      have n4_ := Aside0.mk (Kd.R_elder' (rl_ HO123) (Kd.R_base ho90) hb)
      have n5_ := Aside0.mk (Kd.R_elder' (rl_ HO129) (Kd.R_base ho90) hb)
      have n6_ := Aside0.mk (Kd.R_elder' (rl_ HO133) (Kd.R_base ho90) hb)
      have n7_ := Aside0.mk (Kd.R_elder' (rl_ HO138) (Kd.R_base ho90) hb)
      have n8_ := Aside0.mk (Kd.R_elder' (rl_ HO141) (Kd.R_base ho90) hb)
      have n9_ := Aside0.mk (Kd.R_elder' (rl_ HO147) (Kd.R_base ho90) hb)
      have n10_ := Aside0.mk (Kd.R_lower (Kd.R_new' (Kd.R_new' (Kd.R_new' (Kd.R_new' (Kd.R_new' (Kd.R_new' (Kd.R_new' (Kd.R_new' (Kd.R_new' ho90 (Kd.R_lt (rl_ HO103))) (Kd.R_lt (rl_ HO107))) (Kd.R_lt (rl_ HO113))) (Kd.R_lt (rl_ HO123))) (Kd.R_lt (rl_ HO129))) (Kd.R_lt (rl_ HO133))) (Kd.R_lt (rl_ HO138))) (Kd.R_lt (rl_ HO141))) (Kd.R_lt (rl_ HO147))) (below_size (bl_ HB)))
      have n11_ := bb_ BK109 hb
      have n12_ := bb_ BK125 hb
      have n13_ := hs_ HB hb
      clear HO103
      clear HO107
      clear HO113
      clear HO119
      clear HO123
      clear HO129
      clear HO133
      clear HO138
      clear HO141
      clear HO147
      clear BK109
      clear BK125
      clear HB
      have HO103 := n0_
      have HO107 := n1_
      have HO113 := n2_
      have HO119 := n3_
      have HO123 := n4_
      have HO129 := n5_
      have HO133 := n6_
      have HO138 := n7_
      have HO141 := n8_
      have HO147 := n9_
      have HO152 := n10_
      have BK109 := n11_
      have BK125 := n12_
      have HB := n13_
      clear n0_ n1_ n2_ n3_ n4_ n5_ n6_ n7_ n8_ n9_ n10_ n11_ n12_ n13_
      clear hb ho90
      obtain ⟨Ao91, co91, eo91⟩ := Kd.R_slice HO152.out
      (first | subst eo91 | (injection eo91 with f1_ f2_ f3_; have f4_ := f1_.symm; have f5_ := f3_.symm; clear f1_ f2_ f3_; subst f4_; subst f5_))
      refine hK.out _ _ ⟨(blk_cell BK109.out 0).trans rfl, (blk_cell BK109.out 1).trans rfl, (blk_cell BK125.out 0).trans rfl, (blk_cell BK125.out 1).trans rfl⟩ (fun hHeld => ?_)
      clear hK K
      refine norm_ (a' := ?_) ?_ ?_
      rotate_left
      ·show Act.put _ (some 54) _ = _
       simp only [Act.put, List.setIfInBounds_toArray, List.set_cons_zero, List.set_cons_succ, i64_w, i32_w]
       rfl
      refine pure_ (i := 24) (N := some 55) (v := ?_) (a' := ?_) #[true, true, true, true, true, true, true, true, true, true, true, true, true, true, true, true, true, true, true, true, true, true, true, true, true, false, false, false] rfl rfl (any_of HT_.out (by kernel_rfl)) (fun _ _ _ h => h) (Or.inl ⟨by rfl, ?_⟩) ?_ ?_
      rotate_left
      ·intro w'
       go_simp
       with_reducible rfl
      rotate_left
      ·simp only [Act.put, List.setIfInBounds_toArray, List.set_cons_zero, List.set_cons_succ, i64_w, i32_w]
       rfl
      refine one_ (i := 25) (N := some 56) #[true, true, true, true, true, true, true, true, true, true, true, true, true, true, true, true, true, true, true, true, true, true, true, true, true, true, false, false] rfl rfl (one_of HT_.out (by kernel_rfl)) (by decide) (fun K hK => ?_)
      refine goes_ Try.func44 (by kernel_rfl) rfl #[.agg #[.int .i64 t120, .slice Ao73 t121.length co73], .agg #[.int .i64 3, .slice Ao91 y150.length co91]] (by rfl) rfl rfl (by (try simp only [List.map_toArray, List.map_cons, List.map_nil]); first | done | rfl | (simp only [List.length_drop, List.length_take]; rfl)) ?_
      with_reducible refine (telamonref1_ExactLevel.calls k t120 _ _ t121 3 _ _ y150 true _ ?side1 ?side2 ?side3 ?side4 A53.out).mono ?_
      (case side1 => repeat (first | exact (Kd.R_reads' HO123.out).2.2 | (with_reducible refine Kd.C_alloc ?_ _) | (with_reducible refine Kd.C_drewN ?_ _) | (with_reducible refine Kd.C_drew ?_)))
      (case side2 => exact (Kd.R_reads' HO123.out).2.1)
      (case side3 => repeat (first | exact (Kd.R_reads' HO152.out).2.2 | (with_reducible refine Kd.C_alloc ?_ _) | (with_reducible refine Kd.C_drewN ?_ _) | (with_reducible refine Kd.C_drew ?_)))
      (case side4 => exact (Kd.R_reads' HO152.out).2.1)
      rintro e w92 ⟨rfl, hb⟩
      refine ⟨_, rfl, ?_⟩
      have n0_ := Aside0.mk (Kd.R_below (rl_ HO103) hb)
      have n1_ := Aside0.mk (Kd.R_below (rl_ HO107) hb)
      have n2_ := Aside0.mk (Kd.R_below (rl_ HO113) hb)
      have n3_ := Aside0.mk (Kd.N_below (by (with_reducible repeat (first | apply Kd.N_alloc | apply Kd.N_drewN | apply Kd.N_drew)); exact HO119.out) hb)
      have n4_ := Aside0.mk (Kd.R_below (rl_ HO123) hb)
      have n5_ := Aside0.mk (Kd.R_below (rl_ HO129) hb)
      have n6_ := Aside0.mk (Kd.R_below (rl_ HO133) hb)
      have n7_ := Aside0.mk (Kd.R_below (rl_ HO138) hb)
      have n8_ := Aside0.mk (Kd.R_below (rl_ HO141) hb)
      have n9_ := Aside0.mk (Kd.R_below (rl_ HO147) hb)
      have n10_ := Aside0.mk (Kd.R_below (rl_ HO152) hb)
      have n11_ := bb_ BK109 hb
      have n12_ := bb_ BK125 hb
      have n13_ := hs_ HB hb
      clear HO103
      clear HO107
      clear HO113
      clear HO119
      clear HO123
      clear HO129
      clear HO133
      clear HO138
      clear HO141
      clear HO147
      clear HO152
      clear BK109
      clear BK125
      clear HB
      have HO103 := n0_
      have HO107 := n1_
      have HO113 := n2_
      have HO119 := n3_
      have HO123 := n4_
      have HO129 := n5_
      have HO133 := n6_
      have HO138 := n7_
      have HO141 := n8_
      have HO147 := n9_
      have HO152 := n10_
      have BK109 := n11_
      have BK125 := n12_
      have HB := n13_
      clear n0_ n1_ n2_ n3_ n4_ n5_ n6_ n7_ n8_ n9_ n10_ n11_ n12_ n13_
      (try clear hb)
      (try clear hb2)
      (try clear hk)
      (try clear hi)
      refine hK.out _ _ ⟨(blk_cell BK109.out 0).trans rfl, (blk_cell BK109.out 1).trans rfl, (blk_cell BK125.out 0).trans rfl, (blk_cell BK125.out 1).trans rfl⟩ (fun hHeld => ?_)
      clear hK K
      refine norm_ (a' := ?_) ?_ ?_
      rotate_left
      ·show Act.put _ (some 56) _ = _
       simp only [Act.put, List.setIfInBounds_toArray, List.set_cons_zero, List.set_cons_succ, i64_w, i32_w]
       rfl
      refine pure_ (i := 26) (N := some 57) (v := ?_) (a' := ?_) #[true, true, true, true, true, true, true, true, true, true, true, true, true, true, true, true, true, true, true, true, true, true, true, true, true, true, true, false] rfl rfl (any_of HT_.out (by kernel_rfl)) (fun _ _ _ h => h) (Or.inl ⟨by rfl, ?_⟩) ?_ ?_
      rotate_left
      ·intro w'
       go_simp
       with_reducible rfl
      rotate_left
      ·simp only [Act.put, List.setIfInBounds_toArray, List.set_cons_zero, List.set_cons_succ, i64_w, i32_w]
       rfl
      refine pure_ (i := 27) (N := some 0) (v := ?_) (a' := ?_) #[true, true, true, true, true, true, true, true, true, true, true, true, true, true, true, true, true, true, true, true, true, true, true, true, true, true, true, true] rfl rfl (any_of HT_.out (by kernel_rfl)) (fun _ _ _ h => h) (Or.inl ⟨by rfl, ?_⟩) ?_ ?_
      rotate_left
      ·intro w'
       go_simp
       with_reducible rfl
      rotate_left
      ·simp only [Act.put, List.setIfInBounds_toArray, List.set_cons_zero, List.set_cons_succ, i64_w, i32_w]
       rfl
      refine done_ (done_of HT_.out (by kernel_rfl)) ?_
      try go_wp2
      go_ret
      exact ⟨by first | rfl | (simp [errW_none, errW_some] <;> rfl) | (simp [*, errW_none, errW_some] <;> rfl), by repeat (first | (with_reducible first | exact HB.out | apply below_alloc | apply pw_below_drewN | apply below_drew1 | refine below_set ?_ GE109.out | refine below_set ?_ GE125.out) | exact HB.out)⟩
     ·exfalso; rw [if_neg c52] at H; simp at H
   ·exfalso; rw [if_neg c14] at H; simp at H
  ·exfalso; rw [if_neg c13] at H; simp at H
 ·exfalso; rw [if_neg c10] at H; simp at H

end Go.Proofs.Ytbopadglafbdjaa.PX
