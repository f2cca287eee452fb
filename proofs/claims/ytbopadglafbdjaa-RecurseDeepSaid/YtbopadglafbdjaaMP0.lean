/- Plain Lean about levels: rounds that are enough; canonical rows of variables; right and canonical levels. -/
import Derived.Test.YtbopadglafbdjaaPXxf40
set_option linter.unusedVariables false
set_option linter.unusedSimpArgs false
namespace Go.Proofs.Ytbopadglafbdjaa.M
open Go.RowKit Go.Proofs.Ytbopadglafbdjaa.PX Go.Proofs.YtbopadglafbdjaaW.PrintWords Go.Proofs.YtbopadglafbdjaaW.PrintLast Go.Proofs.YtbopadglafbdjaaW.PrintMore

/-! ### Rounds that are enough -/
def Ev {α : Type} (g : Nat → Option α) (v : α) : Prop := ∃ k0, ∀ k, k0 ≤ k → g k = some v
theorem Ev.pure {α : Type} (v : α) : Ev (fun _ => some v) v := ⟨0, fun _ _ => rfl⟩
theorem Ev.succ {α : Type} {g : Nat → Option α} {v : α} (h : Ev (fun k => g (k + 1)) v) : Ev g v := by
  obtain ⟨k0, h⟩ := h
  refine ⟨k0 + 1, fun k hk => ?_⟩
  obtain ⟨j, rfl⟩ : ∃ j, k = j + 1 := ⟨k - 1, by omega⟩
  exact h j (by omega)
theorem Ev.bind {α β : Type} {g : Nat → Option α} {h : Nat → α → Option β} {v : α} {u : β} (hg : Ev g v) (hh : Ev (fun k => h k v) u) : Ev (fun k => (g k).bind (h k)) u := by
  obtain ⟨k0, hg⟩ := hg
  obtain ⟨k1, hh⟩ := hh
  refine ⟨max k0 k1, fun k hk => ?_⟩
  show (g k).bind (h k) = some u
  rw [hg k (by omega)]
  exact hh k (by omega)
theorem Ev.ex {α : Type} {g : Nat → Option α} {v : α} (h : Ev g v) : ∃ k, g k = some v := by
  obtain ⟨k0, h⟩ := h
  exact ⟨k0, h k0 (Nat.le_refl _)⟩
theorem Ev.congr {α : Type} {g g' : Nat → Option α} {v : α} (h : ∀ k, g k = g' k) (hg : Ev g' v) : Ev g v := by
  obtain ⟨k0, hg⟩ := hg
  exact ⟨k0, fun k hk => (h k).trans (hg k hk)⟩
theorem Ev.eq {α : Type} {g : Nat → Option α} {v u : α} (h : Ev g v) (e : v = u) : Ev g u := e ▸ h
/-! ### A place of a list -/
theorem at_split {xs pre rest : List S62} {v : S62} (h : xs = pre ++ v :: rest) (hl : xs.length ≤ 1000000000000) :
    ((pre.length : Int) < (xs.length : Int)) = True ∧ ((0 : Int) ≤ (pre.length : Int)) = True ∧ rd_T62 xs (pre.length : Int) = v ∧ wrap64 ((pre.length : Int) + 1) = ((pre ++ [v]).length : Int) ∧ xs = (pre ++ [v]) ++ rest := by
  subst h
  simp only [List.length_append, List.length_cons] at hl
  refine ⟨by simp; omega, by simp, by simp [rd_T62, List.getD_eq_getElem?_getD], ?_, by simp⟩
  unfold wrap64; simp only [List.length_append, List.length_cons, List.length_nil]; omega
theorem at_end {xs pre : List S62} (h : xs = pre ++ []) : ((pre.length : Int) < (xs.length : Int)) = False := by subst h; simp
/-! ### Canonical rows of variables -/
def SS (l : List S62) : Prop := l.Pairwise (fun x y => x.f0 < y.f0)
structure IsCan (l o : List S62) : Prop where
  ss : SS o
  sub : ∀ x ∈ o, x ∈ l
  top : ∀ y ∈ l, ∃ z ∈ o, z.f0 = y.f0 ∧ y.f1 ≤ z.f1
theorem S62.ext {x y : S62} (h0 : x.f0 = y.f0) (h1 : x.f1 = y.f1) : x = y := by cases x; cases y; simp_all
theorem SS.one {o : List S62} (h : SS o) {x y : S62} (hx : x ∈ o) (hy : y ∈ o) (e : x.f0 = y.f0) : x = y := by
  induction o with
  | nil => simp at hx
  | cons z r ih =>
    obtain ⟨h1, h2⟩ := List.pairwise_cons.1 h
    rcases List.mem_cons.1 hx with ex | hx' <;> rcases List.mem_cons.1 hy with ey | hy'
    · exact ex.trans ey.symm
    · have := h1 _ hy'; rw [← ex] at this; omega
    · have := h1 _ hx'; rw [← ey] at this; omega
    · exact ih h2 hx' hy'
theorem SS.ext {o1 o2 : List S62} (h1 : SS o1) (h2 : SS o2) (h : ∀ x, x ∈ o1 ↔ x ∈ o2) : o1 = o2 := by
  induction o1 generalizing o2 with
  | nil => cases o2 with
    | nil => rfl
    | cons y r => exact absurd ((h y).2 (by simp)) (by simp)
  | cons x r ih =>
    cases o2 with
    | nil => exact absurd ((h x).1 (by simp)) (by simp)
    | cons y s =>
      obtain ⟨a1, a2⟩ := List.pairwise_cons.1 h1
      obtain ⟨b1, b2⟩ := List.pairwise_cons.1 h2
      have exy : x = y := by
        rcases List.mem_cons.1 ((h x).1 (by simp)) with e | hx
        · exact e
        · rcases List.mem_cons.1 ((h y).2 (by simp)) with e | hy
          · exact e.symm
          · have := a1 _ hy; have := b1 _ hx; omega
      subst exy
      rw [ih a2 b2]
      intro z
      constructor
      · intro hz
        rcases List.mem_cons.1 ((h z).1 (by simp [hz])) with e | hz'
        · subst e; have := a1 _ hz; omega
        · exact hz'
      · intro hz
        rcases List.mem_cons.1 ((h z).2 (by simp [hz])) with e | hz'
        · subst e; have := b1 _ hz; omega
        · exact hz'
theorem IsCan.sub' {l o1 o2 : List S62} (h1 : IsCan l o1) (h2 : IsCan l o2) : ∀ x ∈ o1, x ∈ o2 := by
  intro x hx
  obtain ⟨z, hz, e0, e1⟩ := h2.top x (h1.sub x hx)
  obtain ⟨w, hw, g0, g1⟩ := h1.top z (h2.sub z hz)
  have := h1.ss.one hw hx (g0.trans e0)
  subst this
  have : z = w := S62.ext e0 (by omega)
  exact this ▸ hz
theorem IsCan.uniq {l o1 o2 : List S62} (h1 : IsCan l o1) (h2 : IsCan l o2) : o1 = o2 :=
  h1.ss.ext h2.ss fun x => ⟨h1.sub' h2 x, h2.sub' h1 x⟩
theorem IsCan.congr {l l' o : List S62} (h : IsCan l o) (e : ∀ x, x ∈ l ↔ x ∈ l') : IsCan l' o :=
  ⟨h.ss, fun x hx => (e x).1 (h.sub x hx), fun y hy => h.top y ((e y).2 hy)⟩
theorem IsCan.self {o : List S62} (h : SS o) : IsCan o o := ⟨h, fun _ hx => hx, fun y hy => ⟨y, hy, rfl, Int.le_refl _⟩⟩
theorem IsCan.trans {l o p : List S62} (h : IsCan l o) (g : IsCan o p) : IsCan l p :=
  ⟨g.ss, fun x hx => h.sub x (g.sub x hx), fun y hy => by
    obtain ⟨z, hz, e0, e1⟩ := h.top y hy
    obtain ⟨w, hw, g0, g1⟩ := g.top z hz
    exact ⟨w, hw, g0.trans e0, by omega⟩⟩
/-- Two rising rows joined. -/
def joinS : List S62 → List S62 → List S62
  | [], b => b
  | a, [] => a
  | x :: a, y :: b => if x.f0 < y.f0 then x :: joinS a (y :: b) else if y.f0 < x.f0 then y :: joinS (x :: a) b else (if x.f1 < y.f1 then y else x) :: joinS a b
termination_by a b => a.length + b.length
theorem joinS_sub (a b : List S62) : ∀ x ∈ joinS a b, x ∈ a ∨ x ∈ b := by
  fun_induction joinS a b with
  | case1 b => grind
  | case2 a => grind
  | case3 x a y b h ih => grind
  | case4 x a y b h h' ih => grind
  | case5 x a y b h h' ih => grind
theorem joinS_top (a b : List S62) : ∀ y, y ∈ a ∨ y ∈ b → ∃ z ∈ joinS a b, z.f0 = y.f0 ∧ y.f1 ≤ z.f1 := by
  fun_induction joinS a b with
  | case1 b => grind
  | case2 a => grind
  | case3 x a y b h ih => grind
  | case4 x a y b h h' ih => grind
  | case5 x a y b h h' ih => grind
theorem joinS_ss (a b : List S62) : SS a → SS b → SS (joinS a b) := by
  fun_induction joinS a b with
  | case1 b => exact fun _ h => h
  | case2 a => exact fun h _ => h
  | case3 x a y b h ih =>
    intro ha hb
    obtain ⟨a1, a2⟩ := List.pairwise_cons.1 ha
    obtain ⟨b1, b2⟩ := List.pairwise_cons.1 hb
    refine List.pairwise_cons.2 ⟨fun z hz => ?_, ih a2 hb⟩
    rcases joinS_sub _ _ z hz with h | h
    · exact a1 z h
    · rcases List.mem_cons.1 h with rfl | h
      · assumption
      · have := b1 z h; omega
  | case4 x a y b h h' ih =>
    intro ha hb
    obtain ⟨a1, a2⟩ := List.pairwise_cons.1 ha
    obtain ⟨b1, b2⟩ := List.pairwise_cons.1 hb
    refine List.pairwise_cons.2 ⟨fun z hz => ?_, ih ha b2⟩
    rcases joinS_sub _ _ z hz with h | h
    · rcases List.mem_cons.1 h with rfl | h
      · assumption
      · have := a1 z h; omega
    · exact b1 z h
  | case5 x a y b h h' ih =>
    intro ha hb
    obtain ⟨a1, a2⟩ := List.pairwise_cons.1 ha
    obtain ⟨b1, b2⟩ := List.pairwise_cons.1 hb
    refine List.pairwise_cons.2 ⟨fun z hz => ?_, ih a2 b2⟩
    have hx : x.f0 = y.f0 := by omega
    rcases joinS_sub _ _ z hz with h | h
    · have := a1 z h; split <;> omega
    · have := b1 z h; split <;> omega
theorem IsCan.join {l m a b : List S62} (h : IsCan l a) (g : IsCan m b) : IsCan (l ++ m) (joinS a b) :=
  ⟨joinS_ss a b h.ss g.ss, fun x hx => by
    rcases joinS_sub _ _ x hx with h1 | h1
    · exact List.mem_append_left _ (h.sub x h1)
    · exact List.mem_append_right _ (g.sub x h1), fun y hy => by
    rcases List.mem_append.1 hy with h1 | h1
    · obtain ⟨z, hz, e0, e1⟩ := h.top y h1
      obtain ⟨w, hw, g0, g1⟩ := joinS_top a b z (.inl hz)
      exact ⟨w, hw, g0.trans e0, by omega⟩
    · obtain ⟨z, hz, e0, e1⟩ := g.top y h1
      obtain ⟨w, hw, g0, g1⟩ := joinS_top a b z (.inr hz)
      exact ⟨w, hw, g0.trans e0, by omega⟩⟩
theorem joinS_len (a b : List S62) : (joinS a b).length ≤ a.length + b.length := by
  fun_induction joinS a b with
  | case1 b => simp
  | case2 a => simp
  | case3 x a y b h ih => simp at *; omega
  | case4 x a y b h h' ih => simp at *; omega
  | case5 x a y b h h' ih => simp at *; omega
/-- The canonical row. -/
def can (l : List S62) : List S62 := l.foldl (fun o v => joinS o [v]) []
theorem can_go (l : List S62) : ∀ p o, IsCan p o → IsCan (p ++ l) (l.foldl (fun o v => joinS o [v]) o) := by
  induction l with
  | nil => intro p o h; simpa using h
  | cons v l ih =>
    intro p o h
    have := ih (p ++ [v]) (joinS o [v]) (h.join (IsCan.self (List.pairwise_singleton _ _)))
    simpa using this
theorem can_is (l : List S62) : IsCan l (can l) := by
  have := can_go l [] [] ⟨List.Pairwise.nil, by simp, by simp⟩
  simpa [can] using this
theorem can_snoc (l : List S62) (v : S62) : can (l ++ [v]) = joinS (can l) [v] := by simp [can]
theorem can_eq {l o : List S62} (h : IsCan l o) : can l = o := (can_is l).uniq h
theorem can_idem (l : List S62) : can (can l) = can l := can_eq (IsCan.self (can_is l).ss)
theorem can_len (l : List S62) : (can l).length ≤ l.length := by
  have : ∀ l o : List S62, (l.foldl (fun o v => joinS o [v]) o).length ≤ o.length + l.length := by
    intro l
    induction l with
    | nil => simp
    | cons v l ih => intro o; have := ih (joinS o [v]); have := joinS_len o [v]; simp at *; omega
  have := this l []; simpa [can] using this
/-! ### Right levels -/
def fineB (n : Int) : Bool := decide (0 ≤ n) && decide (n ≤ 1000)
def okV (v : S62) : Bool := fineB v.f0 && fineB v.f1
def rightB (N : Int) (l : List S62) : Bool := fineB N && (decide (l.length ≤ 64) && l.all okV)
theorem fine_is (a : Int) : level_fine.f a = some (fineB a) := by
  unfold level_fine.f fineB
  by_cases h : a ≥ 0 <;> simp [h]
theorem right_l0 (xs : List S62) (hl : xs.length ≤ 1000000000000) : ∀ rest pre, xs = pre ++ rest → Ev (fun k => level_right.l0 k xs (xs.length : Int) (pre.length : Int)) (rest.all okV)
  | [], pre, h => Ev.succ (by
    simp only [level_right.l0, at_end h, if_false]
    exact Ev.pure _)
  | v :: rest, pre, h => Ev.succ (by
    obtain ⟨h1, h2, h3, h4, h5⟩ := at_split h hl
    simp only [level_right.l0, h1, h2, h3, h4, if_true, fine_is, Option.bind_some]
    cases e0 : fineB v.f0
    · simp [okV, e0]; exact Ev.pure _
    · cases e1 : fineB v.f1
      · simp [okV, e0, e1]; exact Ev.pure _
      · have := right_l0 xs hl rest (pre ++ [v]) h5
        simpa [okV, e0, e1] using this)
theorem right_is (N : Int) (l : List S62) (hl : l.length ≤ 1000000000000) : Ev (fun k => level_right.f k N l) (rightB N l) := by
  simp only [level_right.f, fine_is, Option.bind_some]
  cases e0 : fineB N
  · simp only [Bool.false_eq_true, if_false]
    refine Ev.succ ?_
    simp only [level_right.j0, if_true]
    simp [rightB, e0]; exact Ev.pure _
  · simp only [if_true]
    refine Ev.succ ?_
    simp only [level_right.j0]
    by_cases h : (l.length : Int) > 64
    · simp [h, rightB, e0, show ¬ l.length ≤ 64 by omega]; exact Ev.pure _
    · have := right_l0 l hl l [] (by simp)
      simpa [h, rightB, e0, show l.length ≤ 64 by omega] using this
/-! ### joined -/
theorem num_is (a b : Int) : level_number.f a b = some a := rfl
theorem great_is (a b c d : Int) : level_greater.f a b c d = some (if b < d then (c, d) else (a, b)) := by unfold level_greater.f; split <;> rfl
theorem rd0 (v : S62) (l : List S62) : rd_T62 (v :: l) 0 = v := rfl
theorem joined_l0 (a b out : List S62) (hl : out.length + a.length + b.length ≤ 1000000000000) : Ev (fun k => api_LVar_int.l0 k a b out) (out ++ joinS a b) := by
  fun_induction joinS a b generalizing out with
  | case1 b =>
    refine Ev.succ (Ev.congr (g' := fun k => api_LVar_int.j1 k [] b out false) (fun k => by simp [api_LVar_int.l0]) (Ev.succ ?_))
    simp at hl
    simp [api_LVar_int.j1, show out.length + b.length < 8796093022208 by omega, show out.length < 8796093022208 by omega]
    exact Ev.pure _
  | case2 a h =>
    refine Ev.succ (Ev.congr (g' := fun k => api_LVar_int.j1 k a [] out false) (fun k => by simp [api_LVar_int.l0]) (Ev.succ ?_))
    simp at hl
    simp [api_LVar_int.j1, show out.length + a.length < 8796093022208 by omega]
    exact Ev.pure _
  | case3 x a y b h ih =>
    refine Ev.succ (Ev.congr (g' := fun k => api_LVar_int.j1 k (x :: a) (y :: b) out true) (fun k => by simp [api_LVar_int.l0] <;> omega) (Ev.succ ?_))
    simp only [List.length_cons] at hl
    have h1 : (0 : Int) < ((x :: a).length : Int) := by (simp <;> omega)
    have h2 : (0 : Int) < ((y :: b).length : Int) := by (simp <;> omega)
    have h3 : (1 : Int) ≤ ((x :: a).length : Int) := by (simp <;> omega)
    have h4 : out.length < 8796093022208 := by omega
    simp only [api_LVar_int.j1, if_true, h1, h2, h3, h4, rd0, num_is, Option.bind_some, h, List.drop_succ_cons, List.drop_zero]
    have := ih (out ++ [⟨x.f0, x.f1⟩]) (by simp; omega)
    simpa using this
  | case4 x a y b h h' ih =>
    refine Ev.succ (Ev.congr (g' := fun k => api_LVar_int.j1 k (x :: a) (y :: b) out true) (fun k => by simp [api_LVar_int.l0] <;> omega) (Ev.succ ?_))
    simp only [List.length_cons] at hl
    have h1 : (0 : Int) < ((x :: a).length : Int) := by (simp <;> omega)
    have h2 : (0 : Int) < ((y :: b).length : Int) := by (simp <;> omega)
    have h3 : (1 : Int) ≤ ((y :: b).length : Int) := by (simp <;> omega)
    have h4 : out.length < 8796093022208 := by omega
    simp only [api_LVar_int.j1, if_true, h1, h2, h3, h4, rd0, num_is, Option.bind_some, h, h', if_false, List.drop_succ_cons, List.drop_zero]
    have := ih (out ++ [⟨y.f0, y.f1⟩]) (by simp; omega)
    simpa using this
  | case5 x a y b h h' ih =>
    refine Ev.succ (Ev.congr (g' := fun k => api_LVar_int.j1 k (x :: a) (y :: b) out true) (fun k => by simp [api_LVar_int.l0] <;> omega) (Ev.succ ?_))
    simp only [List.length_cons] at hl
    have h1 : (0 : Int) < ((x :: a).length : Int) := by (simp <;> omega)
    have h2 : (0 : Int) < ((y :: b).length : Int) := by (simp <;> omega)
    have h3 : (1 : Int) ≤ ((x :: a).length : Int) := by (simp <;> omega)
    have h5 : (1 : Int) ≤ ((y :: b).length : Int) := by (simp <;> omega)
    have h4 : out.length < 8796093022208 := by omega
    simp only [api_LVar_int.j1, if_true, h1, h2, h3, h4, h5, rd0, num_is, great_is, Option.bind_some, h, h', if_false, List.drop_succ_cons, List.drop_zero]
    by_cases c : x.f1 < y.f1
    · have := ih (out ++ [⟨y.f0, y.f1⟩]) (by simp; omega)
      simpa [c] using this
    · have := ih (out ++ [⟨x.f0, x.f1⟩]) (by simp; omega)
      simpa [c] using this
theorem joined_is (a b : List S62) (hl : a.length + b.length ≤ 1000000000000) : Ev (fun k => api_LVar_int.f k a b) (joinS a b) := by
  have := joined_l0 a b [] (by simpa using hl)
  simpa [api_LVar_int.f] using this
/-! ### The canonical level -/
/-- The number of a canonical level: none where a variable's says as much. -/
def zN (N : Int) (l : List S62) : Int := if l.any (fun v => decide (N ≤ v.f1)) then 0 else N
def zF (N : Int) : List S62 → Int
  | [] => N
  | v :: r => zF (if v.f1 ≥ N then 0 else N) r
theorem zF_zero (l : List S62) : zF 0 l = 0 := by
  induction l with
  | nil => rfl
  | cons v r ih => simp [zF, ih]
theorem zF_is (N : Int) (l : List S62) : zF N l = zN N l := by
  induction l with
  | nil => simp [zF, zN]
  | cons v r ih =>
    by_cases c : v.f1 ≥ N
    · simp [zF, zN, c, zF_zero]
    · simp only [zF, c, if_false, ih]
      simp [zN, show ¬ N ≤ v.f1 by omega]
theorem norm_l1 (xs : List S62) (hl : xs.length ≤ 1000000000000) (L : List S62) : ∀ rest pre N, xs = pre ++ rest → Ev (fun k => level_norm.l1 k xs (xs.length : Int) (pre.length : Int) N L) (zF N rest, L)
  | [], pre, N, h => Ev.succ (by
    simp only [level_norm.l1, at_end h, if_false]
    exact Ev.pure _)
  | v :: rest, pre, N, h => Ev.succ (by
    obtain ⟨h1, h2, h3, h4, h5⟩ := at_split h hl
    simp only [level_norm.l1, h1, h2, h3, h4, if_true]
    by_cases c : v.f1 ≥ N
    · simp only [c, if_true, zF]; exact norm_l1 xs hl L rest _ 0 h5
    · simp only [c, if_false, zF]; exact norm_l1 xs hl L rest _ N h5)
theorem norm_l0 (xs : List S62) (hl : xs.length ≤ 100000000000) (N : Int) (L : List S62) : ∀ rest pre, xs = pre ++ rest → Ev (fun k => level_norm.l0 k (can pre) xs (xs.length : Int) (pre.length : Int) N L) (zN N (can xs), can xs)
  | [], pre, h => Ev.succ (by
    simp only [level_norm.l0, at_end h, if_false]
    have e : pre = xs := by simpa using h.symm
    subst e
    rw [← zF_is]
    exact norm_l1 (can pre) (by have := can_len pre; omega) (can pre) (can pre) [] N (by simp))
  | v :: rest, pre, h => Ev.succ (by
    obtain ⟨h1, h2, h3, h4, h5⟩ := at_split h (by omega)
    simp only [level_norm.l0, h1, h2, h3, h4, if_true]
    refine Ev.bind (joined_is (can pre) [v] ?_) ?_
    · have := can_len pre; have e : xs.length = pre.length + (rest.length + 1) := by rw [h]; simp
      simp; omega
    · rw [← can_snoc]; exact norm_l0 xs hl N L rest _ h5)
theorem norm_is (N : Int) (l : List S62) (hl : l.length ≤ 100000000000) : Ev (fun k => level_norm.f k N l) (zN N (can l), can l) :=
  norm_l0 l hl N l l [] (by simp)
/-- What Norm tells. -/
def normR (N : Int) (l : List S62) : Int × List S62 × Int := if rightB N l then (zN N (can l), can l, 0) else (0, [], 13)
theorem Norm_is (N : Int) (l : List S62) (hl : l.length ≤ 100000000000) : Ev (fun k => level_Norm.f k N l) (normR N l) := by
  unfold level_Norm.f
  refine Ev.bind (right_is N l (by omega)) ?_
  unfold normR
  cases rightB N l
  · simp; exact Ev.pure _
  · simp only [if_true]; exact Ev.bind (norm_is N l hl) (Ev.pure _)
/-! ### Right levels, in words -/
theorem fineB_iff (n : Int) : fineB n = true ↔ 0 ≤ n ∧ n ≤ 1000 := by simp [fineB]
theorem rightB_iff (N : Int) (l : List S62) : rightB N l = true ↔ (0 ≤ N ∧ N ≤ 1000) ∧ l.length ≤ 64 ∧ ∀ v ∈ l, (0 ≤ v.f0 ∧ v.f0 ≤ 1000) ∧ (0 ≤ v.f1 ∧ v.f1 ≤ 1000) := by
  simp [rightB, fineB_iff, okV, List.all_eq_true]
theorem can_mem {l : List S62} {x : S62} (h : x ∈ can l) : x ∈ l := (can_is l).sub x h
theorem can_top {l : List S62} {x : S62} (h : x ∈ l) : ∃ z ∈ can l, z.f0 = x.f0 ∧ x.f1 ≤ z.f1 := (can_is l).top x h
theorem can_ss (l : List S62) : SS (can l) := (can_is l).ss
theorem zN_cases (N : Int) (l : List S62) : (zN N l = 0 ∧ ∃ v ∈ l, N ≤ v.f1) ∨ (zN N l = N ∧ ∀ v ∈ l, v.f1 < N) := by
  unfold zN
  by_cases h : l.any (fun v => decide (N ≤ v.f1)) = true
  · left
    simp only [h, if_true, true_and]
    simpa using h
  · right
    simp only [h, if_false, Bool.false_eq_true, true_and]
    intro v hv
    simp at h
    exact h v hv
theorem zN_zero (l : List S62) : zN 0 l = 0 := by rcases zN_cases 0 l with h | h <;> exact h.1
theorem zN_idem (N : Int) (l : List S62) : zN (zN N l) l = zN N l := by
  rcases zN_cases N l with ⟨h, _⟩ | ⟨h, _⟩
  · rw [h, zN_zero]
  · rw [h, h]
theorem right_can {N : Int} {l : List S62} (h : rightB N l = true) : rightB (zN N (can l)) (can l) = true := by
  rw [rightB_iff] at h ⊢
  obtain ⟨h1, h2, h3⟩ := h
  refine ⟨?_, by have := can_len l; omega, fun v hv => h3 v (can_mem hv)⟩
  rcases zN_cases N (can l) with ⟨e, _⟩ | ⟨e, _⟩ <;> rw [e] <;> omega
theorem wr (a : Int) (h1 : -1000000000000 ≤ a) (h2 : a ≤ 1000000000000) : wrap64 a = a := by unfold wrap64; omega
theorem normR_len (N : Int) (l : List S62) : (normR N l).2.1.length ≤ l.length := by
  unfold normR; split
  · exact can_len l
  · simp
theorem can_self {l : List S62} (h : SS l) : can l = l := can_eq (IsCan.self h)
theorem can_one (v : S62) : can [v] = [v] := can_self (List.pairwise_singleton _ _)
end Go.Proofs.Ytbopadglafbdjaa.M
