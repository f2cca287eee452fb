/- A number's text. -/
import Derived.Test.YthdfpbemdaabaaaDoorTP
import Derived.Shelf.Strconv.Itoa1
set_option linter.unusedVariables false
set_option linter.unusedSimpArgs false
namespace Go.Proofs.YthdfpbemdaabaaaDoor.D
open Go Go.RowKit Go.Proofs.YthdfpbemdaabaaaDoorW.PrintWords Go.Proofs.YthdfpbemdaabaaaDoorW.PrintLast Go.Proofs.YthdfpbemdaabaaaDoorW.PrintMore
/-- A number's text. -/
def dg (n : Nat) : ByteArray := ⟨(Lib.decDigits n).toArray⟩
set_option maxHeartbeats 4000000 in
set_option maxRecDepth 100000 in
theorem small_calls (n : Nat) (hn : n < 100) (w : World) : Calls Tryd.prog 58 #[.int .i64 (n : Int)] w fun e w' => e = .returned (.string (dg n)) ∧ w' = w := by
  go_enter Tryd.func58, Tryd.ntmps58
  go_name_bytes_deep 45 SM hSM
  have eSM : SM = Lib.smalls := by rw [← hSM]; decide +kernel
  subst eSM
  clear hSM
  go_name_bytes_deep 30 DG hDG
  have eDG : DG = Lib.digits36 := by rw [← hDG]; decide +kernel
  subst eDG
  clear hDG
  by_cases h10 : n < 10
  · have hsl : ∀ w, (Instr.slice 9 (.string Lib.digits36) (some (.int .i64 (n : Int))) (some (.int .i64 ((n : Int) + 1))) none).run Tryd.prog w = .ok (.string (Lib.digits36.extract n (n + 1))) w := fun w => by
      rw [run_slice_string w 9 Lib.digits36 .i64 .i64 _ _ Tryd.underlying9 (by omega) (by omega) (by rw [Lib.digits36_size]; omega), show ((n : Int)).toNat = n by omega, show ((n : Int) + 1).toNat = n + 1 by omega]
    go_wp2
    go_ret
    refine ⟨?_, rfl⟩
    show Ending.returned (Value.string (Lib.digits36.extract n (n + 1))) = _
    rw [AnyPlain.small_ba (Lib.digits36.extract n (n + 1)) (Lib.decDigits n) (by rw [Lib.extract_data]; exact Lib.digits36_piece h10)]
    rfl
  · have hsl : ∀ w, (Instr.slice 9 (.string Lib.smalls) (some (.int .i64 ((n : Int) * 2))) (some (.int .i64 ((n : Int) * 2 + 2))) none).run Tryd.prog w = .ok (.string (Lib.smalls.extract (n * 2) (n * 2 + 2))) w := fun w => by
      rw [run_slice_string w 9 Lib.smalls .i64 .i64 _ _ Tryd.underlying9 (by omega) (by omega) (by rw [Lib.smalls_size]; omega), show ((n : Int) * 2).toNat = n * 2 by omega, show ((n : Int) * 2 + 2).toNat = n * 2 + 2 by omega]
    go_wp2
    go_ret
    refine ⟨?_, rfl⟩
    show Ending.returned (Value.string (Lib.smalls.extract (n * 2) (n * 2 + 2))) = _
    rw [AnyPlain.small_ba (Lib.smalls.extract (n * 2) (n * 2 + 2)) (Lib.decDigits n) (by rw [Lib.extract_data]; exact Lib.smalls_piece h10 hn)]
    rfl
set_option maxHeartbeats 4000000 in
set_option maxRecDepth 100000 in
theorem format_calls (n : Nat) (hn : n < 100) (w : World) : Calls Tryd.prog 55 #[.int .i64 (n : Int), .int .i64 10] w fun e w' => e = .returned (.string (dg n)) ∧ w' = w := by
  have HS := Aside0.mk (small_calls n hn w)
  have h0 : (0 : Int) ≤ (n : Int) := by omega
  have h1 : (n : Int) < 100 := by omega
  go_enter Tryd.func55, Tryd.ntmps55
  go_wp2_with fail
  refine HS.out.mono ?_
  rintro e w2 ⟨rfl, rfl⟩
  go_wp2
  go_ret
  exact ⟨rfl, rfl⟩
set_option maxRecDepth 100000 in
theorem itoa_calls (n : Nat) (hn : n < 100) (w : World) : Calls Tryd.prog 46 #[.int .i64 (n : Int)] w fun e w' => e = .returned (.string (dg n)) ∧ w' = w := by
  have HS := Aside0.mk (format_calls n hn w)
  have HT : Calls Tryd.prog 51 #[.int .i64 (n : Int)] w fun e w' => e = .returned (.string (dg n)) ∧ w' = w := by
    go_enter Tryd.func51, Tryd.ntmps51
    go_wp2_with fail
    refine HS.out.mono ?_
    rintro e w2 ⟨rfl, rfl⟩
    go_wp2
    go_ret
    exact ⟨rfl, rfl⟩
  have HU := Aside0.mk HT
  clear HT
  go_enter Tryd.func46, Tryd.ntmps46
  go_wp2_with fail
  refine HU.out.mono ?_
  rintro e w2 ⟨rfl, rfl⟩
  go_wp2
  go_ret
  exact ⟨rfl, rfl⟩
theorem own_same {w w2 : World} {B n : Nat} {v : Value} {xs : List Value} (h : w.ownsRow B 5 1 v n xs) (hk : ∀ g, v.ownBlock = some g → w2.heap[g]? = w.heap[g]?) : w2.ownsRow B 5 1 v n xs := by
  obtain ⟨h1, h2⟩ := h
  refine ⟨h1, h2.imp id ?_⟩
  rintro ⟨g, cap, cur, rfl, hb, hg, r⟩
  exact ⟨g, cap, cur, rfl, hb, (hk g rfl).trans hg, r⟩
theorem builder_below {w w2 : World} {B G : Nat} {bs : List Value} (h : Lib.IsBuilder 45 5 B G bs w) (hb : Below w.heap.size w w2) : Lib.IsBuilder 45 5 B G bs w2 := by
  have step : ∀ p, Lib.BuilderAt 45 5 B G p bs w → Lib.BuilderAt 45 5 B G p bs w2 := by
    rintro p ⟨hB, v, hbk, hown, hne⟩
    exact ⟨hB, v, (hb.block _ (blk_lt hbk)).trans hbk, own_same hown (fun g hg => hb.block _ (hown.lt g hg).2), hne⟩
  exact h.imp (step _) (step _)
theorem builder_alloc {w : World} {B G : Nat} {bs : List Value} (h : Lib.IsBuilder 45 5 B G bs w) (o : Obj) : Lib.IsBuilder 45 5 B G bs (w.alloc o) := builder_below h (below_alloc (Below.refl _ _) o)
theorem Pr.trans {B G : Nat} {w w1 w2 : World} {bs cs : List Value} (h : Pr B G w bs w1) (k : Pr B G w1 cs w2) : Pr B G w cs w2 := ⟨k.is, h.bel.trans k.bel, h.kept.trans k.kept⟩
theorem Pr.al {B G : Nat} {w w2 : World} {o : Obj} {cs : List Value} (hB : B ≤ w.heap.size) (k : Pr B G (w.alloc o) cs w2) : Pr B G w cs w2 :=
  ⟨k.is, ((Below.refl B w).alloc hB o).trans k.bel, ((Lib.OthersKept.refl _ _ w).alloc o).trans k.kept⟩
theorem Pr.le {B G : Nat} {w w2 : World} {cs : List Value} (hB : B ≤ w.heap.size) (k : Pr B G w cs w2) : B ≤ w2.heap.size := by have := k.bel.size; omega
/-- Strings that a call lays for it are put. -/
theorem put_new (B G : Nat) (bs : List Value) (ss : List ByteArray) (w : World) (h : Lib.IsBuilder 45 5 B G bs w) (hB : B ≤ w.heap.size) (hn : ss.length ≤ 1000) (hl : bs.length + (strs ss).length ≤ 100000000) :
    Calls Tryd.prog 36 #[.pointer (some ⟨G, 0, none⟩), .slice (some ⟨w.heap.size, 0, none⟩) ss.length ss.length] (w.alloc (.cells (ss.map Value.string).toArray 9)) fun e w' => e = .returned (.tuple #[]) ∧ Pr B G w (bs ++ strs ss) w' :=
  (put_calls B G bs w.heap.size ss (w.alloc (.cells (ss.map Value.string).toArray 9)) (builder_alloc h _) (blk_new w _) (by simp; omega) hn hl).mono fun e w' h => ⟨h.1, h.2.al hB⟩
theorem dg_le (n : Nat) (h : n < 100) : (dg n).size ≤ 2 := by
  show ((Lib.decDigits n).toArray).size ≤ 2
  rw [List.size_toArray]
  unfold Lib.decDigits
  split
  · simp
  · unfold Lib.decDigits
    split
    · simp
    · omega
theorem strs_len1 (s : ByteArray) : (strs [s]).length = s.size := by simp [strs, Lib.strCells_length]
set_option maxHeartbeats 4000000 in
set_option maxRecDepth 100000 in
theorem number_calls (B G : Nat) (bs : List Value) (n : Nat) (hn : n < 100) (w : World) (h : Lib.IsBuilder 45 5 B G bs w) (hB : B ≤ w.heap.size) (hl : bs.length ≤ 50000000) :
    Calls Tryd.prog 37 #[.pointer (some ⟨G, 0, none⟩), .int .i64 (n : Int)] w fun e w' => e = .returned (.tuple #[]) ∧ Pr B G w (bs ++ strs [dg n]) w' := by
  have HI := Aside0.mk (itoa_calls n hn w)
  have hd := dg_le n hn
  have HP := Aside0.mk (put_new B G bs [dg n] w h hB (by simp) (by rw [strs_len1]; omega))
  clear hd h hl hB hn
  go_enter Tryd.func37, Tryd.ntmps37
  go_wp2_with fail
  refine HI.out.mono ?_
  rintro e w2 ⟨rfl, rfl⟩
  go_wp2_with fail
  refine HP.out.mono ?_
  rintro e w3 ⟨rfl, hP⟩
  have HP3 := Aside0.mk hP
  clear hP
  go_wp2
  go_end0
  exact ⟨rfl, HP3.out⟩
/-- Terms: variables, the least universe, functions. -/
inductive Tm where
  | v (n : Nat)
  | s
  | l (h : Bool) (a b : Tm)
def Tm.f : Tm → Int
  | .v _ => 1
  | .s => 2
  | .l _ _ _ => 4
def Tm.n : Tm → Int
  | .v n => n
  | _ => 0
def Tm.h : Tm → Bool
  | .l h _ _ => h
  | _ => false
/-- How a term lies: its levels and its kids. -/
def TmV (W : World) : Tm → Value → Value → Prop
  | .v _, lv, kv => lv = .slice none 0 0 ∧ kv = .slice none 0 0
  | .s, lv, kv => kv = .slice none 0 0 ∧ ∃ b, lv = .slice (some ⟨b, 0, none⟩) 1 1 ∧ W.heap[b]? = some (.cells #[.int .i64 0, .slice none 0 0] 35 (0, 0))
  | .l _ x y, lv, kv => lv = .slice none 0 0 ∧ ∃ b lx kx ly ky, kv = .slice (some ⟨b, 0, none⟩) 2 2 ∧
      W.heap[b]? = some (.cells #[.int .i64 x.f, .int .i64 x.n, .bool x.h, .string ⟨#[]⟩, lx, kx, .int .i64 y.f, .int .i64 y.n, .bool y.h, .string ⟨#[]⟩, ly, ky] 26 (0, 0)) ∧ TmV W x lx kx ∧ TmV W y ly ky
/-- A term as a value. -/
def Tm.val (t : Tm) (lv kv : Value) : Value := .agg #[.int .i64 t.f, .int .i64 t.n, .bool t.h, .string ⟨#[]⟩, lv, kv]
theorem TmV.same {W W2 : World} : ∀ {t : Tm} {lv kv : Value}, TmV W t lv kv → (∀ (k : Nat) (cs : Array Value) (ty : TypeId), (ty = 26 ∨ ty = 35) → W.heap[k]? = some (Obj.cells cs ty (0, 0)) → W2.heap[k]? = some (Obj.cells cs ty (0, 0))) → TmV W2 t lv kv
  | .v _, _, _, h, _ => h
  | .s, _, _, ⟨h1, b, h2, h3⟩, hk => ⟨h1, b, h2, hk _ _ _ (Or.inr rfl) h3⟩
  | .l _ x y, _, _, ⟨h1, b, lx, kx, ly, ky, h2, h3, h4, h5⟩, hk => ⟨h1, b, lx, kx, ly, ky, h2, hk _ _ _ (Or.inl rfl) h3, TmV.same h4 hk, TmV.same h5 hk⟩
theorem TmV.below {W W2 : World} {t : Tm} {lv kv : Value} (h : TmV W t lv kv) (hb : Below W.heap.size W W2) : TmV W2 t lv kv := h.same (fun k cs ty _ hk => (hb.block _ (blk_lt hk)).trans hk)
theorem TmV.alloc {W : World} {t : Tm} {lv kv : Value} (h : TmV W t lv kv) (o : Obj) : TmV (W.alloc o) t lv kv := h.below (below_alloc (Below.refl _ _) o)
/-- A term is kept where a block of another kind is written, or rows of bytes. -/
theorem TmV.kept {W W2 : World} {t : Tm} {lv kv : Value} (h : TmV W t lv kv) {G : Nat} {cs : Array Value} {ty : TypeId} (hG : W.heap[G]? = some (.cells cs ty (0, 0))) (h1 : ty ≠ 26) (h2 : ty ≠ 35) (hk : Lib.OthersKept 5 (some G) W W2) : TmV W2 t lv kv := by
  refine h.same (fun k cs' ty' ht hb => hk k _ hb ?_ ?_)
  · intro e
    injection e with e
    subst e
    rw [hG] at hb
    injection hb with hb
    injection hb with _ hb
    rcases ht with rfl | rfl
    · exact h1 hb
    · exact h2 hb
  · intro c fz e
    injection e with _ e
    rcases ht with rfl | rfl <;> cases e
theorem TmV.pr {B G : Nat} {W W2 : World} {bs cs : List Value} {t : Tm} {lv kv : Value} (h : TmV W t lv kv) (hb : Lib.IsBuilder 45 5 B G bs W) (hp : Pr B G W cs W2) : TmV W2 t lv kv := by
  rcases hb with ⟨_, v, hb, _⟩ | ⟨_, v, hb, _⟩
  · exact h.kept hb (by decide) (by decide) hp.kept
  · exact h.kept hb (by decide) (by decide) hp.kept
end Go.Proofs.YthdfpbemdaabaaaDoor.D
