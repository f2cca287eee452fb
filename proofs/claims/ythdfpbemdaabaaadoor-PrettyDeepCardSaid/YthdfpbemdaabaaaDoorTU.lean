/- The law's terms and their text; Digits, max. -/
import Derived.Test.YthdfpbemdaabaaaDoorTJ
set_option linter.unusedVariables false
set_option linter.unusedSimpArgs false
namespace Go.Proofs.YthdfpbemdaabaaaDoor.D
open Go Go.RowKit Go.Proofs.YthdfpbemdaabaaaDoorW.PrintWords Go.Proofs.YthdfpbemdaabaaaDoorW.PrintLast Go.Proofs.YthdfpbemdaabaaaDoorW.PrintMore
/-- The law's term: so many functions over a variable. -/
def lt (h : Bool) (k : Nat) : Nat → Tm
  | 0 => .v k
  | i + 1 => .l h .s (lt h k i)
def aB : Bool → ByteArray
  | true => ⟨#[92, 123, 120]⟩
  | false => ⟨#[92, 40, 120]⟩
def bB : Bool → ByteArray
  | true => ⟨#[32, 58, 32, 83, 101, 116, 32, 48, 125, 32, 45, 62, 32]⟩
  | false => ⟨#[32, 58, 32, 83, 101, 116, 32, 48, 41, 32, 45, 62, 32]⟩
/-- What the law reckons behind so many rounds. -/
def sB (h : Bool) : Nat → ByteArray
  | 0 => ⟨#[]⟩
  | i + 1 => sB h i ++ aB h ++ dg i ++ bB h
theorem strCells_add (a b : ByteArray) : Lib.strCells (a ++ b) = Lib.strCells a ++ Lib.strCells b := by
  simp [Lib.strCells]
theorem dg0 : dg 0 = ⟨#[48]⟩ := by unfold dg; rw [dd1 0 (by decide)]; rfl
theorem piece (h : Bool) (d : Nat) : strs ([bLam, bOp h, bX] ++ [dg d] ++ [bCol] ++ [bSet, dg 0] ++ [bCl h, bArr]) = Lib.strCells (aB h) ++ Lib.strCells (dg d) ++ Lib.strCells (bB h) := by
  rw [dg0]
  generalize dg d = x
  cases h <;> simp only [strs_app, strs, List.append_nil, List.append_assoc, List.nil_append] <;> rfl
theorem txt_lt (h : Bool) (k : Nat) : ∀ m d, Lib.strCells (sB h d) ++ strs (txt (lt h k m) d) = Lib.strCells (sB h (d + m)) ++ strs (txt (.v k) (d + m))
  | 0, d => rfl
  | m + 1, d => by
    have e : txt (lt h k (m + 1)) d = ([bLam, bOp h, bX] ++ [dg d] ++ [bCol] ++ [bSet, dg 0] ++ [bCl h, bArr]) ++ txt (lt h k m) (d + 1) := rfl
    have ih := txt_lt h k m (d + 1)
    have e2 : Lib.strCells (sB h (d + 1)) = Lib.strCells (sB h d) ++ (Lib.strCells (aB h) ++ Lib.strCells (dg d) ++ Lib.strCells (bB h)) := by
      show Lib.strCells (sB h d ++ aB h ++ dg d ++ bB h) = _
      simp only [strCells_add, List.append_assoc]
    rw [e, strs_app, piece, ← List.append_assoc, ← e2, ih, show d + 1 + m = d + (m + 1) by omega]
/-- The variable's text. -/
def vB (k n : Nat) : ByteArray := if k < n then ⟨#[120]⟩ ++ dg (n - 1 - k) else ⟨#[102]⟩ ++ dg (k - n)
theorem txt_all (h : Bool) (k n : Nat) : Lib.byteCells (sB h n ++ vB k n).data.toList = strs (txt (lt h k n) 0) := by
  have := txt_lt h k n 0
  rw [Nat.zero_add] at this
  rw [← Lib.strCells_eq, strCells_add]
  have e0 : Lib.strCells (sB h 0) = [] := rfl
  rw [e0, List.nil_append] at this
  rw [this]
  congr 1
  unfold vB
  simp only [txt]
  by_cases c : k < n
  · rw [if_pos c, if_pos c, strCells_add]
    simp only [strs, List.append_nil]
    rfl
  · rw [if_neg c, if_neg c, strCells_add]
    simp only [strs, List.append_nil]
    rfl
theorem aB_size (h : Bool) : (aB h).size = 3 := by cases h <;> rfl
theorem bB_size (h : Bool) : (bB h).size = 13 := by cases h <;> rfl
theorem sB_size (h : Bool) : ∀ n, n < 100 → (sB h n).size ≤ 18 * n
  | 0, _ => Nat.le_refl _
  | n + 1, hn => by
    have ih := sB_size h n (by omega)
    have hd := dg_le n (by omega)
    show (sB h n ++ aB h ++ dg n ++ bB h).size ≤ _
    simp only [ByteArray.size_append, aB_size, bB_size]
    omega
theorem vB_size (k n : Nat) (hk : k < 100) (hn : n < 100) : 1 ≤ (vB k n).size ∧ (vB k n).size ≤ 3 := by
  unfold vB
  split
  · have := dg_le (n - 1 - k) (by omega)
    rw [ByteArray.size_append, show (⟨#[120]⟩ : ByteArray).size = 1 from rfl]
    omega
  · have := dg_le (k - n) (by omega)
    rw [ByteArray.size_append, show (⟨#[102]⟩ : ByteArray).size = 1 from rfl]
    omega
theorem lt_sz (h : Bool) (k : Nat) : ∀ n, sz (lt h k n) = 1 + 2 * n
  | 0 => rfl
  | n + 1 => by
    have := lt_sz h k n
    show 1 + sz .s + sz (lt h k n) = _
    simp only [sz]; omega
theorem lt_ht (h : Bool) (k : Nat) : ∀ n, ht (lt h k n) ≤ n
  | 0 => Nat.le_refl _
  | n + 1 => by
    have := lt_ht h k n
    show 1 + max (ht .s) (ht (lt h k n)) ≤ _
    simp only [ht]; omega
theorem lt_wl (h : Bool) (k : Nat) : ∀ n, wl (lt h k n) = 2 + 5 * n
  | 0 => rfl
  | n + 1 => by
    have := lt_wl h k n
    show 2 + wl .s + wl (lt h k n) = _
    simp only [wl]; omega
theorem lt_okA (h : Bool) (k : Nat) (hk : k < 100) : ∀ n, okA (lt h k n)
  | 0 => hk
  | n + 1 => ⟨trivial, lt_okA h k hk n⟩
theorem lt_okW (h : Bool) (k : Nat) (hk : k < 100) : ∀ n, okW (lt h k n)
  | 0 => Nat.lt_trans hk (by decide)
  | n + 1 => ⟨trivial, lt_okW h k hk n⟩
theorem lt_okT (h : Bool) (k : Nat) (hk : k < 100) : ∀ n d, d + n < 100 → okT (lt h k n) d
  | 0, d, hd => ⟨hk, hd⟩
  | n + 1, d, hd => ⟨by omega, trivial, lt_okT h k hk n (d + 1) (by omega)⟩
/-- The law's term is put as the law reckons. -/
theorem pterm_lt (h : Bool) (k n : Nat) (hk : k < 100) (hn : n < 90) (w : World) (lv kv : Value) (hT : TmV w (lt h k n) lv kv) :
    Calls Tryd.prog 9 #[(lt h k n).val lv kv] w fun e w' => e = .returned (.string (sB h n ++ vB k n)) ∧ Below w.heap.size w w' := by
  have h1 := sB_size h n (by omega)
  have h2 := vB_size k n hk (by omega)
  have h3 : (sB h n ++ vB k n).data.toList.length = (sB h n ++ vB k n).size := rfl
  have h4 : (sB h n ++ vB k n).size = (sB h n).size + (vB k n).size := ByteArray.size_append
  have h5 : (sB h n ++ vB k n).data.toList ≠ [] := fun e => by
    have e1 := congrArg List.length e
    rw [h3, List.length_nil] at e1
    omega
  exact pterm_calls (lt h k n) (sB h n ++ vB k n).data.toList (txt_all h k n) h5 (by omega) (by rw [lt_sz]; omega) (by have := lt_ht h k n; omega) (lt_okA h k hk n) (lt_okW h k hk n) (by rw [lt_wl]; omega) (lt_okT h k hk n 0 (by omega)) w lv kv hT
/-- A term that is read whatever stands in one block. -/
def Tf (PB : Nat) (W : World) (t : Tm) (lv kv : Value) : Prop := ∀ W' : World, (∀ k, k < W.heap.size → k ≠ PB → W'.heap[k]? = W.heap[k]?) → TmV W' t lv kv
theorem Tf.step {PB : Nat} {W W2 : World} {t : Tm} {lv kv : Value} (h : Tf PB W t lv kv) (hs : W.heap.size ≤ W2.heap.size) (hk : ∀ k, k < W.heap.size → k ≠ PB → W2.heap[k]? = W.heap[k]?) : Tf PB W2 t lv kv :=
  fun W' hW => h W' (fun k h1 h2 => (hW k (by omega) h2).trans (hk k h1 h2))
theorem Tf.below {PB : Nat} {W W2 : World} {t : Tm} {lv kv : Value} (h : Tf PB W t lv kv) (hb : Below W.heap.size W W2) : Tf PB W2 t lv kv := h.step hb.size (fun k h1 _ => hb.block k h1)
theorem size_set (W : World) (p : Addr) (u : Value) : (W.setCell p u).heap.size = W.heap.size := by
  simp [World.setCell]
theorem Tf.put {PB : Nat} {W : World} {t : Tm} {lv kv : Value} (h : Tf PB W t lv kv) (i : Nat) (u : Value) : Tf PB (W.setCell ⟨PB, i, none⟩ u) t lv kv :=
  h.step (by rw [size_set]; exact Nat.le_refl _) (fun k h1 h2 => Below.heap_setCell W _ u k h2)
theorem Tf.over {PB b : Nat} {W : World} {h : Bool} {t : Tm} {lv kv : Value} (hT : Tf PB W t lv kv) (hb : W.heap[b]? = some (.cells #[.int .i64 0, .slice none 0 0] 35 (0, 0))) (hbP : b ≠ PB) (hPB : PB < W.heap.size) :
    Tf PB (W.alloc (.cells #[.int .i64 2, .int .i64 0, .bool false, .string ⟨#[]⟩, .slice (some ⟨b, 0, none⟩) 1 1, .slice none 0 0, .int .i64 t.f, .int .i64 t.n, .bool t.h, .string ⟨#[]⟩, lv, kv] 26)) (.l h .s t) (.slice none 0 0) (.slice (some ⟨W.heap.size, 0, none⟩) 2 2) := by
  intro W' hW
  refine ⟨rfl, W.heap.size, .slice (some ⟨b, 0, none⟩) 1 1, .slice none 0 0, lv, kv, rfl, (hW W.heap.size (by simp) (by omega)).trans (blk_new W _), ⟨rfl, b, rfl, ?_⟩, hT W' fun k h1 h2 => (hW k (by simp; omega) h2).trans (Below.heap_alloc W _ k h1)⟩
  have hbl := blk_lt hb
  exact (hW b (by simp; omega) hbP).trans ((Below.heap_alloc W _ b hbl).trans hb)
set_option maxHeartbeats 4000000 in
set_option maxRecDepth 100000 in
theorem max_calls (a b : Int) (w : World) : Calls Tryd.prog 8 #[.int .i64 a, .int .i64 b] w fun e w' => e = .returned (.int .i64 (if a < b then b else a)) ∧ w' = w := by
  by_cases c : a < b
  · rw [if_pos c]
    go_enter Tryd.func8, Tryd.ntmps8
    go_wp2
    go_ret
    exact ⟨rfl, rfl⟩
  · rw [if_neg c]
    go_enter Tryd.func8, Tryd.ntmps8
    go_wp2
    go_ret
    exact ⟨rfl, rfl⟩
def decs : ByteArray := ⟨#[48, 49, 50, 51, 52, 53, 54, 55, 56, 57]⟩
theorem decs_piece : ∀ n : Nat, n < 10 → decs.extract n (n + 1) = dg n := by
  intro n hn
  unfold dg
  rw [dd1 n hn]
  match n, hn with
  | 0, _ => rfl
  | 1, _ => rfl
  | 2, _ => rfl
  | 3, _ => rfl
  | 4, _ => rfl
  | 5, _ => rfl
  | 6, _ => rfl
  | 7, _ => rfl
  | 8, _ => rfl
  | 9, _ => rfl
theorem dg_two (n : Nat) (h : ¬ n < 10) (h2 : n < 100) : dg n = dg (n / 10) ++ dg (n % 10) := by
  unfold dg
  rw [dd1 (n / 10) (by omega), dd1 (n % 10) (by omega)]
  unfold Lib.decDigits
  rw [dif_neg h, dd1 (n / 10) (by omega)]
  rfl
end Go.Proofs.YthdfpbemdaabaaaDoor.D
