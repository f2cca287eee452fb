/- A term's text is put. -/
import Derived.Test.YthdfpbemdaabaaaDoorTD
import Derived.Test.YthdfpbemdaabaaaDoorGoesT
set_option linter.unusedVariables false
set_option linter.unusedSimpArgs false
namespace Go.Proofs.YthdfpbemdaabaaaDoor.D
open Go Go.RowKit Go.Proofs.YthdfpbemdaabaaaDoorW.PrintWords Go.Proofs.YthdfpbemdaabaaaDoorW.PrintLast Go.Proofs.YthdfpbemdaabaaaDoorW.PrintMore
theorem blkAt (W : World) (o : Obj) {n : Nat} (h : W.heap.size = n) : (W.alloc o).heap[n]? = some o := h ▸ blk_new W o
theorem heap_sets (g : Nat) : ∀ (vs : List Value) (o : Nat) (w : World) (k : Nat), k ≠ g → (w.setCells g o vs).heap[k]? = w.heap[k]?
  | [], _, _, _, _ => rfl
  | v :: r, o, w, k, h => by rw [World.setCells, heap_sets g r (o + 1) _ k h]; exact Below.heap_setCell w ⟨g, o, none⟩ v k h
theorem below_sets (g : Nat) : ∀ (vs : List Value) (o : Nat) (w : World) (b : Nat), b ≤ g → Below b w (w.setCells g o vs)
  | [], _, _, _, _ => Below.refl _ _
  | v :: r, o, w, b, h => by
    rw [World.setCells]
    exact ((Below.refl b w).setCell (p := ⟨g, o, none⟩) h v).trans (below_sets g r (o + 1) _ b h)
theorem store_tab {P : Program} {ops : Array Oper} {rest : List Oper} {o : Oper} {a : Act} {Q : Exit → Act → World → Prop} {W W3 : World} {ptr u : Value} (hg : o.guard = none) (p x : Operand) (hop : o.op = Op.store 56 p x) (hp : a.eval p = ptr) (hx : a.eval x = u)
    (hst : (Instr.storeAt 56 ptr u).run P W = .ok () W3) (h : wpList P ops Q rest (a.put o.dst undef) W3) : wpList P ops Q (o :: rest) a W := by
  refine wpList_plain hg fun K' hK' => ?_
  unfold Oper.wp
  simp [execOp, hop, hp, hx, hst, Result.andThen]
  exact hK' _ _ h
theorem tab_store {box : Obj} {k : Nat} (W : World) (hx : W.heap[k]? = some box) (hg : W.heap[k + 1]? = some (.cells #[.nilFunc, .nilFunc, .nilFunc, .nilFunc, .nilFunc, .nilFunc, .nilFunc, .nilFunc, .nilFunc, .nilFunc, .nilFunc, .nilFunc] 56 (0, 0))) :
    ∃ W3, (Instr.storeAt 56 (.pointer (some ⟨k + 1, 0, none⟩)) (.agg #[.nilFunc, .func (.func 18) #[] #[], .func (.func 19) #[] #[], .func (.func 20) #[] #[], .func (.func 21) #[] #[], .func (.func 22) #[] #[], .func (.func 23) #[] #[], .func (.func 24) #[] #[], .func (.func 25) #[] #[], .func (.func 25) #[] #[], .func (.func 26) #[] #[], .func (.func 27) #[] #[]])).run Tryd.prog W = .ok () W3 ∧ W3.heap[k]? = some box ∧ W3.heap[k + 1]? = some (.cells #[.nilFunc, .func (.func 18) #[] #[], .func (.func 19) #[] #[], .func (.func 20) #[] #[], .func (.func 21) #[] #[], .func (.func 22) #[] #[], .func (.func 23) #[] #[], .func (.func 24) #[] #[], .func (.func 25) #[] #[], .func (.func 25) #[] #[], .func (.func 26) #[] #[], .func (.func 27) #[] #[]] 56 (0, 0)) ∧ (∀ b, b ≤ k + 1 → Below b W W3) := by
  refine ⟨W.setCells (k + 1) 0 [.nilFunc, .func (.func 18) #[] #[], .func (.func 19) #[] #[], .func (.func 20) #[] #[], .func (.func 21) #[] #[], .func (.func 22) #[] #[], .func (.func 23) #[] #[], .func (.func 24) #[] #[], .func (.func 25) #[] #[], .func (.func 25) #[] #[], .func (.func 26) #[] #[], .func (.func 27) #[] #[]], run_store_run 56 _ [.nilFunc, .func (.func 18) #[] #[], .func (.func 19) #[] #[], .func (.func 20) #[] #[], .func (.func 21) #[] #[], .func (.func 22) #[] #[], .func (.func 23) #[] #[], .func (.func 24) #[] #[], .func (.func 25) #[] #[], .func (.func 25) #[] #[], .func (.func 26) #[] #[], .func (.func 27) #[] #[]] hg rfl (by kernel_rfl) (by decide) (by simp [Value.oneCell']), ?_, ?_, ?_⟩
  · rw [heap_sets _ _ _ _ k (by omega)]; exact hx
  · obtain ⟨cur', h1, h2, h3⟩ := setCells_row [.nilFunc, .func (.func 18) #[] #[], .func (.func 19) #[] #[], .func (.func 20) #[] #[], .func (.func 21) #[] #[], .func (.func 22) #[] #[], .func (.func 23) #[] #[], .func (.func 24) #[] #[], .func (.func 25) #[] #[], .func (.func 25) #[] #[], .func (.func 26) #[] #[], .func (.func 27) #[] #[]] 0 W _ hg (by decide)
    rw [h1, show cur' = #[.nilFunc, .func (.func 18) #[] #[], .func (.func 19) #[] #[], .func (.func 20) #[] #[], .func (.func 21) #[] #[], .func (.func 22) #[] #[], .func (.func 23) #[] #[], .func (.func 24) #[] #[], .func (.func 25) #[] #[], .func (.func 25) #[] #[], .func (.func 26) #[] #[], .func (.func 27) #[] #[]] from Array.ext' (by rw [h3]; kernel_rfl)]
  · intro b hb
    exact below_sets _ _ _ _ _ hb

set_option maxHeartbeats 8000000 in
set_option maxRecDepth 100000 in
theorem term_1 (n : Int) (d : Nat) (add : List Value) (B G : Nat) (bs : List Value) (w : World) (lv kv : Value) (h : Lib.IsBuilder 45 5 B G bs w) (hB : B ≤ w.heap.size) (hl : bs.length ≤ 8000000)
    (hc : ∀ W, Below w.heap.size w W → Calls Tryd.prog 18 #[.pointer (some ⟨G, 0, none⟩), .agg #[.int .i64 1, .int .i64 n, .bool false, .string ⟨#[]⟩, lv, kv], .int .i64 (d : Int)] W fun e w' => e = .returned (.tuple #[]) ∧ Pr B G W (bs ++ add) w') :
    Calls Tryd.prog 12 #[.pointer (some ⟨G, 0, none⟩), .agg #[.int .i64 1, .int .i64 n, .bool false, .string ⟨#[]⟩, lv, kv], .int .i64 (d : Int)] w fun e w' => e = .returned (.tuple #[]) ∧ Pr B G w (bs ++ add) w' := by
  have HC := Aside0.mk hc
  have HB := Aside0.mk hB
  have HGL := Aside0.mk (show G < w.heap.size by rcases h with ⟨_, v, hb, _⟩ | ⟨_, v, hb, _⟩ <;> exact blk_lt hb)
  have HNG := Aside0.mk (show some w.heap.size ≠ some G by intro e; injection e with e; have := HGL.out; omega)
  have HNT := Aside0.mk (show some (w.heap.size + 1) ≠ some G by intro e; injection e with e; have := HGL.out; omega)
  have HLN := Aside0.mk (len_calls B G bs (w.alloc (.cells #[.int .i64 1, .int .i64 n, .bool false, .string ⟨#[]⟩, lv, kv] 26)) (builder_alloc h _))
  have hll : ¬ (bs.length : Int) > 8000000 := by omega
  have BX := Aside0.mk (blk_alloc (blk_new w (.cells #[.int .i64 1, .int .i64 n, .bool false, .string ⟨#[]⟩, lv, kv] 26)) (.cells #[.nilFunc, .nilFunc, .nilFunc, .nilFunc, .nilFunc, .nilFunc, .nilFunc, .nilFunc, .nilFunc, .nilFunc, .nilFunc, .nilFunc] 56))
  have BT := Aside0.mk (show ((w.alloc (.cells #[.int .i64 1, .int .i64 n, .bool false, .string ⟨#[]⟩, lv, kv] 26)).alloc (.cells #[.nilFunc, .nilFunc, .nilFunc, .nilFunc, .nilFunc, .nilFunc, .nilFunc, .nilFunc, .nilFunc, .nilFunc, .nilFunc, .nilFunc] 56)).heap[w.heap.size + 1]? = some (.cells #[.nilFunc, .nilFunc, .nilFunc, .nilFunc, .nilFunc, .nilFunc, .nilFunc, .nilFunc, .nilFunc, .nilFunc, .nilFunc, .nilFunc] 56) from blkAt _ _ (by simp))
  clear hc h hB hl
  obtain ⟨W3, hst, HBX0, HBT0, HBW0⟩ := tab_store ((w.alloc (.cells #[.int .i64 1, .int .i64 n, .bool false, .string ⟨#[]⟩, lv, kv] 26)).alloc (.cells #[.nilFunc, .nilFunc, .nilFunc, .nilFunc, .nilFunc, .nilFunc, .nilFunc, .nilFunc, .nilFunc, .nilFunc, .nilFunc, .nilFunc] 56)) BX.out BT.out
  have HBX := Aside0.mk HBX0
  have HBT := Aside0.mk HBT0
  have HBW := Aside0.mk (show Below w.heap.size w W3 from (below_alloc (below_alloc (Below.refl _ _) _) _).trans (HBW0 _ (by omega)))
  clear HBX0 HBT0 HBW0
  go_enter Tryd.func12, Tryd.ntmps12
  go_wp2_with fail
  refine HLN.out.mono ?_
  rintro e w2 ⟨rfl, rfl⟩
  have HST := Aside0.mk hst
  clear hst
  go_wp2_with (refine store_tab rfl _ _ rfl rfl rfl HST.out ?_)
  have BX3 := Aside0.mk (show W3.drew.heap[w.heap.size]? = some (.cells #[.int .i64 1, .int .i64 n, .bool false, .string ⟨#[]⟩, lv, kv] 26) from HBX.out)
  have BT3 := Aside0.mk (show W3.drew.heap[w.heap.size + 1]? = some (.cells #[.nilFunc, .func (.func 18) #[] #[], .func (.func 19) #[] #[], .func (.func 20) #[] #[], .func (.func 21) #[] #[], .func (.func 22) #[] #[], .func (.func 23) #[] #[], .func (.func 24) #[] #[], .func (.func 25) #[] #[], .func (.func 25) #[] #[], .func (.func 26) #[] #[], .func (.func 27) #[] #[]] 56) from HBT.out)
  have HB3 := Aside0.mk (show Below w.heap.size w W3.drew from below_drew HBW.out)
  refine start_ (n := 8) (S := fun w' => w'.cell? ⟨w.heap.size, 0, none⟩ = some (.int .i64 1) ∧ w'.cell? ⟨w.heap.size, 1, none⟩ = some (.int .i64 n) ∧ w'.cell? ⟨w.heap.size, 2, none⟩ = some (.bool false) ∧ w'.cell? ⟨w.heap.size, 3, none⟩ = some (.string ⟨#[]⟩) ∧ w'.cell? ⟨w.heap.size, 4, none⟩ = some (lv) ∧ w'.cell? ⟨w.heap.size, 5, none⟩ = some (kv) ∧ w'.cell? ⟨w.heap.size + 1, 1, none⟩ = some (.func (.func 18) #[] #[])) (ds := []) #[false, false, false, false, false, false, false, false] (by kernel_rfl) rfl rfl ⟨(blk_cell BX3.out 0).trans rfl, (blk_cell BX3.out 1).trans rfl, (blk_cell BX3.out 2).trans rfl, (blk_cell BX3.out 3).trans rfl, (blk_cell BX3.out 4).trans rfl, (blk_cell BX3.out 5).trans rfl, (blk_cell BT3.out 1).trans rfl⟩ (fun hHeld => ?_)
  refine pure_ (i := 0) (N := some 13) (v := ?_) (a' := ?_) #[true, false, false, false, false, false, false, false] rfl rfl (by kernel_rfl) (fun _ _ _ h => h) (Or.inl ⟨by rfl, ?_⟩) ?_ ?_
  rotate_left
  · intro w'
    go_simp
    with_reducible rfl
  rotate_left
  · simp only [Act.put, List.setIfInBounds_toArray, List.set_cons_zero, List.set_cons_succ, i64_w, i32_w]
    rfl
  refine pure_ (i := 4) (N := some 17) (v := ?_) (a' := ?_) #[true, false, false, false, true, false, false, false] rfl rfl (by kernel_rfl) (fun _ _ _ h => h) (Or.inl ⟨by rfl, ?_⟩) ?_ ?_
  rotate_left
  · intro w'
    go_simp
    with_reducible rfl
  rotate_left
  · simp only [Act.put, List.setIfInBounds_toArray, List.set_cons_zero, List.set_cons_succ, i64_w, i32_w]
    rfl
  refine pure_ (i := 6) (N := some 19) (v := ?_) (a' := ?_) #[true, false, false, false, true, false, true, false] rfl rfl (by kernel_rfl) (fun _ _ _ h => h) (Or.inl ⟨by rfl, ?_⟩) ?_ ?_
  rotate_left
  · intro w'
    go_simp
    with_reducible rfl
  rotate_left
  · simp only [Act.put, List.setIfInBounds_toArray, List.set_cons_zero, List.set_cons_succ, i64_w, i32_w]
    rfl
  refine take_ (i := 1) (N := some 14) (v := ?_) (a' := ?_) #[true, true, false, false, true, false, true, false] rfl rfl (by kernel_rfl) (fun _ _ _ h => h) (Or.inl ⟨by rfl, ?_⟩) hHeld ?_ ?_
  rotate_left
  · rintro w' ⟨s0, s1, s2, s3, s4, s5, s6⟩
    go_simp
    with_reducible rfl
  rotate_left
  · simp only [Act.put, List.setIfInBounds_toArray, List.set_cons_zero, List.set_cons_succ, i64_w, i32_w]
    rfl
  refine pure_ (i := 2) (N := some 15) (v := ?_) (a' := ?_) #[true, true, true, false, true, false, true, false] rfl rfl (by kernel_rfl) (fun _ _ _ h => h) (Or.inl ⟨by rfl, ?_⟩) ?_ ?_
  rotate_left
  · intro w'
    go_simp
    with_reducible rfl
  rotate_left
  · simp only [Act.put, List.setIfInBounds_toArray, List.set_cons_zero, List.set_cons_succ, i64_w, i32_w]
    rfl
  refine take_ (i := 3) (N := some 16) (v := ?_) (a' := ?_) #[true, true, true, true, true, false, true, false] rfl rfl (by kernel_rfl) (fun _ _ _ h => h) (Or.inl ⟨by rfl, ?_⟩) hHeld ?_ ?_
  rotate_left
  · rintro w' ⟨s0, s1, s2, s3, s4, s5, s6⟩
    go_simp
    with_reducible rfl
  rotate_left
  · simp only [Act.put, List.setIfInBounds_toArray, List.set_cons_zero, List.set_cons_succ, i64_w, i32_w]
    rfl
  refine take_ (i := 5) (N := some 18) (v := ?_) (a' := ?_) #[true, true, true, true, true, true, true, false] rfl rfl (by kernel_rfl) (fun _ _ _ h => h) (Or.inl ⟨by rfl, ?_⟩) hHeld ?_ ?_
  rotate_left
  · rintro w' ⟨s0, s1, s2, s3, s4, s5, s6⟩
    go_simp
    with_reducible rfl
  rotate_left
  · simp only [Act.put, List.setIfInBounds_toArray, List.set_cons_zero, List.set_cons_succ, i64_w, i32_w]
    rfl
  refine one_ (i := 7) (N := some 20) #[true, true, true, true, true, true, true, true] rfl rfl (by kernel_rfl) (by decide) (fun K hK => ?_)
  refine goesC_ Tryd.func18 (by kernel_rfl) rfl #[.pointer (some ⟨G, 0, none⟩), .agg #[.int .i64 1, .int .i64 n, .bool false, .string ⟨#[]⟩, lv, kv], .int .i64 (d : Int)] (by rfl) rfl rfl (by (try simp only [List.map_toArray, List.map_cons, List.map_nil]); first | done | rfl) ?_
  with_reducible refine (HC.out _ HB3.out).mono ?_
  rintro e w4 ⟨rfl, hP⟩
  refine ⟨_, rfl, ?_⟩
  have HP4 := Aside0.mk hP
  have hO4 := hP.kept
  clear hP
  refine hK.out _ _ ⟨(blk_cell (hO4 _ _ BX3.out (HNG.out) (by intro c fz e; injection e with _ e; cases e)) 0).trans rfl, (blk_cell (hO4 _ _ BX3.out (HNG.out) (by intro c fz e; injection e with _ e; cases e)) 1).trans rfl, (blk_cell (hO4 _ _ BX3.out (HNG.out) (by intro c fz e; injection e with _ e; cases e)) 2).trans rfl, (blk_cell (hO4 _ _ BX3.out (HNG.out) (by intro c fz e; injection e with _ e; cases e)) 3).trans rfl, (blk_cell (hO4 _ _ BX3.out (HNG.out) (by intro c fz e; injection e with _ e; cases e)) 4).trans rfl, (blk_cell (hO4 _ _ BX3.out (HNG.out) (by intro c fz e; injection e with _ e; cases e)) 5).trans rfl, (blk_cell (hO4 _ _ BT3.out (HNT.out) (by intro c fz e; injection e with _ e; cases e)) 1).trans rfl⟩ (fun hHeld => ?_)
  clear hK K
  refine norm_ (a' := ?_) ?_ ?_
  rotate_left
  · show Act.put _ (some 20) _ = _
    simp only [Act.put, List.setIfInBounds_toArray, List.set_cons_zero, List.set_cons_succ, i64_w, i32_w]
    rfl
  refine done_ (by kernel_rfl) ?_
  go_end0
  exact ⟨rfl, ⟨HP4.out.is, (Below.mono HB3.out HB.out).trans HP4.out.bel, (((((Lib.OthersKept.refl _ _ w).below HB3.out)).trans HP4.out.kept))⟩⟩

set_option maxHeartbeats 8000000 in
set_option maxRecDepth 100000 in
theorem term_2 (_u : Unit) (d : Nat) (add : List Value) (B G : Nat) (bs : List Value) (w : World) (lv kv : Value) (h : Lib.IsBuilder 45 5 B G bs w) (hB : B ≤ w.heap.size) (hl : bs.length ≤ 8000000)
    (hc : ∀ W, Below w.heap.size w W → Calls Tryd.prog 19 #[.pointer (some ⟨G, 0, none⟩), .agg #[.int .i64 2, .int .i64 0, .bool false, .string ⟨#[]⟩, lv, kv], .int .i64 (d : Int)] W fun e w' => e = .returned (.tuple #[]) ∧ Pr B G W (bs ++ add) w') :
    Calls Tryd.prog 12 #[.pointer (some ⟨G, 0, none⟩), .agg #[.int .i64 2, .int .i64 0, .bool false, .string ⟨#[]⟩, lv, kv], .int .i64 (d : Int)] w fun e w' => e = .returned (.tuple #[]) ∧ Pr B G w (bs ++ add) w' := by
  have HC := Aside0.mk hc
  have HB := Aside0.mk hB
  have HGL := Aside0.mk (show G < w.heap.size by rcases h with ⟨_, v, hb, _⟩ | ⟨_, v, hb, _⟩ <;> exact blk_lt hb)
  have HNG := Aside0.mk (show some w.heap.size ≠ some G by intro e; injection e with e; have := HGL.out; omega)
  have HNT := Aside0.mk (show some (w.heap.size + 1) ≠ some G by intro e; injection e with e; have := HGL.out; omega)
  have HLN := Aside0.mk (len_calls B G bs (w.alloc (.cells #[.int .i64 2, .int .i64 0, .bool false, .string ⟨#[]⟩, lv, kv] 26)) (builder_alloc h _))
  have hll : ¬ (bs.length : Int) > 8000000 := by omega
  have BX := Aside0.mk (blk_alloc (blk_new w (.cells #[.int .i64 2, .int .i64 0, .bool false, .string ⟨#[]⟩, lv, kv] 26)) (.cells #[.nilFunc, .nilFunc, .nilFunc, .nilFunc, .nilFunc, .nilFunc, .nilFunc, .nilFunc, .nilFunc, .nilFunc, .nilFunc, .nilFunc] 56))
  have BT := Aside0.mk (show ((w.alloc (.cells #[.int .i64 2, .int .i64 0, .bool false, .string ⟨#[]⟩, lv, kv] 26)).alloc (.cells #[.nilFunc, .nilFunc, .nilFunc, .nilFunc, .nilFunc, .nilFunc, .nilFunc, .nilFunc, .nilFunc, .nilFunc, .nilFunc, .nilFunc] 56)).heap[w.heap.size + 1]? = some (.cells #[.nilFunc, .nilFunc, .nilFunc, .nilFunc, .nilFunc, .nilFunc, .nilFunc, .nilFunc, .nilFunc, .nilFunc, .nilFunc, .nilFunc] 56) from blkAt _ _ (by simp))
  clear hc h hB hl
  obtain ⟨W3, hst, HBX0, HBT0, HBW0⟩ := tab_store ((w.alloc (.cells #[.int .i64 2, .int .i64 0, .bool false, .string ⟨#[]⟩, lv, kv] 26)).alloc (.cells #[.nilFunc, .nilFunc, .nilFunc, .nilFunc, .nilFunc, .nilFunc, .nilFunc, .nilFunc, .nilFunc, .nilFunc, .nilFunc, .nilFunc] 56)) BX.out BT.out
  have HBX := Aside0.mk HBX0
  have HBT := Aside0.mk HBT0
  have HBW := Aside0.mk (show Below w.heap.size w W3 from (below_alloc (below_alloc (Below.refl _ _) _) _).trans (HBW0 _ (by omega)))
  clear HBX0 HBT0 HBW0
  go_enter Tryd.func12, Tryd.ntmps12
  go_wp2_with fail
  refine HLN.out.mono ?_
  rintro e w2 ⟨rfl, rfl⟩
  have HST := Aside0.mk hst
  clear hst
  go_wp2_with (refine store_tab rfl _ _ rfl rfl rfl HST.out ?_)
  have BX3 := Aside0.mk (show W3.drew.heap[w.heap.size]? = some (.cells #[.int .i64 2, .int .i64 0, .bool false, .string ⟨#[]⟩, lv, kv] 26) from HBX.out)
  have BT3 := Aside0.mk (show W3.drew.heap[w.heap.size + 1]? = some (.cells #[.nilFunc, .func (.func 18) #[] #[], .func (.func 19) #[] #[], .func (.func 20) #[] #[], .func (.func 21) #[] #[], .func (.func 22) #[] #[], .func (.func 23) #[] #[], .func (.func 24) #[] #[], .func (.func 25) #[] #[], .func (.func 25) #[] #[], .func (.func 26) #[] #[], .func (.func 27) #[] #[]] 56) from HBT.out)
  have HB3 := Aside0.mk (show Below w.heap.size w W3.drew from below_drew HBW.out)
  refine start_ (n := 8) (S := fun w' => w'.cell? ⟨w.heap.size, 0, none⟩ = some (.int .i64 2) ∧ w'.cell? ⟨w.heap.size, 1, none⟩ = some (.int .i64 0) ∧ w'.cell? ⟨w.heap.size, 2, none⟩ = some (.bool false) ∧ w'.cell? ⟨w.heap.size, 3, none⟩ = some (.string ⟨#[]⟩) ∧ w'.cell? ⟨w.heap.size, 4, none⟩ = some (lv) ∧ w'.cell? ⟨w.heap.size, 5, none⟩ = some (kv) ∧ w'.cell? ⟨w.heap.size + 1, 2, none⟩ = some (.func (.func 19) #[] #[])) (ds := []) #[false, false, false, false, false, false, false, false] (by kernel_rfl) rfl rfl ⟨(blk_cell BX3.out 0).trans rfl, (blk_cell BX3.out 1).trans rfl, (blk_cell BX3.out 2).trans rfl, (blk_cell BX3.out 3).trans rfl, (blk_cell BX3.out 4).trans rfl, (blk_cell BX3.out 5).trans rfl, (blk_cell BT3.out 2).trans rfl⟩ (fun hHeld => ?_)
  refine pure_ (i := 0) (N := some 13) (v := ?_) (a' := ?_) #[true, false, false, false, false, false, false, false] rfl rfl (by kernel_rfl) (fun _ _ _ h => h) (Or.inl ⟨by rfl, ?_⟩) ?_ ?_
  rotate_left
  · intro w'
    go_simp
    with_reducible rfl
  rotate_left
  · simp only [Act.put, List.setIfInBounds_toArray, List.set_cons_zero, List.set_cons_succ, i64_w, i32_w]
    rfl
  refine pure_ (i := 4) (N := some 17) (v := ?_) (a' := ?_) #[true, false, false, false, true, false, false, false] rfl rfl (by kernel_rfl) (fun _ _ _ h => h) (Or.inl ⟨by rfl, ?_⟩) ?_ ?_
  rotate_left
  · intro w'
    go_simp
    with_reducible rfl
  rotate_left
  · simp only [Act.put, List.setIfInBounds_toArray, List.set_cons_zero, List.set_cons_succ, i64_w, i32_w]
    rfl
  refine pure_ (i := 6) (N := some 19) (v := ?_) (a' := ?_) #[true, false, false, false, true, false, true, false] rfl rfl (by kernel_rfl) (fun _ _ _ h => h) (Or.inl ⟨by rfl, ?_⟩) ?_ ?_
  rotate_left
  · intro w'
    go_simp
    with_reducible rfl
  rotate_left
  · simp only [Act.put, List.setIfInBounds_toArray, List.set_cons_zero, List.set_cons_succ, i64_w, i32_w]
    rfl
  refine take_ (i := 1) (N := some 14) (v := ?_) (a' := ?_) #[true, true, false, false, true, false, true, false] rfl rfl (by kernel_rfl) (fun _ _ _ h => h) (Or.inl ⟨by rfl, ?_⟩) hHeld ?_ ?_
  rotate_left
  · rintro w' ⟨s0, s1, s2, s3, s4, s5, s6⟩
    go_simp
    with_reducible rfl
  rotate_left
  · simp only [Act.put, List.setIfInBounds_toArray, List.set_cons_zero, List.set_cons_succ, i64_w, i32_w]
    rfl
  refine pure_ (i := 2) (N := some 15) (v := ?_) (a' := ?_) #[true, true, true, false, true, false, true, false] rfl rfl (by kernel_rfl) (fun _ _ _ h => h) (Or.inl ⟨by rfl, ?_⟩) ?_ ?_
  rotate_left
  · intro w'
    go_simp
    with_reducible rfl
  rotate_left
  · simp only [Act.put, List.setIfInBounds_toArray, List.set_cons_zero, List.set_cons_succ, i64_w, i32_w]
    rfl
  refine take_ (i := 3) (N := some 16) (v := ?_) (a' := ?_) #[true, true, true, true, true, false, true, false] rfl rfl (by kernel_rfl) (fun _ _ _ h => h) (Or.inl ⟨by rfl, ?_⟩) hHeld ?_ ?_
  rotate_left
  · rintro w' ⟨s0, s1, s2, s3, s4, s5, s6⟩
    go_simp
    with_reducible rfl
  rotate_left
  · simp only [Act.put, List.setIfInBounds_toArray, List.set_cons_zero, List.set_cons_succ, i64_w, i32_w]
    rfl
  refine take_ (i := 5) (N := some 18) (v := ?_) (a' := ?_) #[true, true, true, true, true, true, true, false] rfl rfl (by kernel_rfl) (fun _ _ _ h => h) (Or.inl ⟨by rfl, ?_⟩) hHeld ?_ ?_
  rotate_left
  · rintro w' ⟨s0, s1, s2, s3, s4, s5, s6⟩
    go_simp
    with_reducible rfl
  rotate_left
  · simp only [Act.put, List.setIfInBounds_toArray, List.set_cons_zero, List.set_cons_succ, i64_w, i32_w]
    rfl
  refine one_ (i := 7) (N := some 20) #[true, true, true, true, true, true, true, true] rfl rfl (by kernel_rfl) (by decide) (fun K hK => ?_)
  refine goesC_ Tryd.func19 (by kernel_rfl) rfl #[.pointer (some ⟨G, 0, none⟩), .agg #[.int .i64 2, .int .i64 0, .bool false, .string ⟨#[]⟩, lv, kv], .int .i64 (d : Int)] (by rfl) rfl rfl (by (try simp only [List.map_toArray, List.map_cons, List.map_nil]); first | done | rfl) ?_
  with_reducible refine (HC.out _ HB3.out).mono ?_
  rintro e w4 ⟨rfl, hP⟩
  refine ⟨_, rfl, ?_⟩
  have HP4 := Aside0.mk hP
  have hO4 := hP.kept
  clear hP
  refine hK.out _ _ ⟨(blk_cell (hO4 _ _ BX3.out (HNG.out) (by intro c fz e; injection e with _ e; cases e)) 0).trans rfl, (blk_cell (hO4 _ _ BX3.out (HNG.out) (by intro c fz e; injection e with _ e; cases e)) 1).trans rfl, (blk_cell (hO4 _ _ BX3.out (HNG.out) (by intro c fz e; injection e with _ e; cases e)) 2).trans rfl, (blk_cell (hO4 _ _ BX3.out (HNG.out) (by intro c fz e; injection e with _ e; cases e)) 3).trans rfl, (blk_cell (hO4 _ _ BX3.out (HNG.out) (by intro c fz e; injection e with _ e; cases e)) 4).trans rfl, (blk_cell (hO4 _ _ BX3.out (HNG.out) (by intro c fz e; injection e with _ e; cases e)) 5).trans rfl, (blk_cell (hO4 _ _ BT3.out (HNT.out) (by intro c fz e; injection e with _ e; cases e)) 2).trans rfl⟩ (fun hHeld => ?_)
  clear hK K
  refine norm_ (a' := ?_) ?_ ?_
  rotate_left
  · show Act.put _ (some 20) _ = _
    simp only [Act.put, List.setIfInBounds_toArray, List.set_cons_zero, List.set_cons_succ, i64_w, i32_w]
    rfl
  refine done_ (by kernel_rfl) ?_
  go_end0
  exact ⟨rfl, ⟨HP4.out.is, (Below.mono HB3.out HB.out).trans HP4.out.bel, (((((Lib.OthersKept.refl _ _ w).below HB3.out)).trans HP4.out.kept))⟩⟩

set_option maxHeartbeats 8000000 in
set_option maxRecDepth 100000 in
theorem term_4 (hb : Bool) (d : Nat) (add : List Value) (B G : Nat) (bs : List Value) (w : World) (lv kv : Value) (h : Lib.IsBuilder 45 5 B G bs w) (hB : B ≤ w.heap.size) (hl : bs.length ≤ 8000000)
    (hc : ∀ W, Below w.heap.size w W → Calls Tryd.prog 21 #[.pointer (some ⟨G, 0, none⟩), .agg #[.int .i64 4, .int .i64 0, .bool hb, .string ⟨#[]⟩, lv, kv], .int .i64 (d : Int)] W fun e w' => e = .returned (.tuple #[]) ∧ Pr B G W (bs ++ add) w') :
    Calls Tryd.prog 12 #[.pointer (some ⟨G, 0, none⟩), .agg #[.int .i64 4, .int .i64 0, .bool hb, .string ⟨#[]⟩, lv, kv], .int .i64 (d : Int)] w fun e w' => e = .returned (.tuple #[]) ∧ Pr B G w (bs ++ add) w' := by
  have HC := Aside0.mk hc
  have HB := Aside0.mk hB
  have HGL := Aside0.mk (show G < w.heap.size by rcases h with ⟨_, v, hb, _⟩ | ⟨_, v, hb, _⟩ <;> exact blk_lt hb)
  have HNG := Aside0.mk (show some w.heap.size ≠ some G by intro e; injection e with e; have := HGL.out; omega)
  have HNT := Aside0.mk (show some (w.heap.size + 1) ≠ some G by intro e; injection e with e; have := HGL.out; omega)
  have HLN := Aside0.mk (len_calls B G bs (w.alloc (.cells #[.int .i64 4, .int .i64 0, .bool hb, .string ⟨#[]⟩, lv, kv] 26)) (builder_alloc h _))
  have hll : ¬ (bs.length : Int) > 8000000 := by omega
  have BX := Aside0.mk (blk_alloc (blk_new w (.cells #[.int .i64 4, .int .i64 0, .bool hb, .string ⟨#[]⟩, lv, kv] 26)) (.cells #[.nilFunc, .nilFunc, .nilFunc, .nilFunc, .nilFunc, .nilFunc, .nilFunc, .nilFunc, .nilFunc, .nilFunc, .nilFunc, .nilFunc] 56))
  have BT := Aside0.mk (show ((w.alloc (.cells #[.int .i64 4, .int .i64 0, .bool hb, .string ⟨#[]⟩, lv, kv] 26)).alloc (.cells #[.nilFunc, .nilFunc, .nilFunc, .nilFunc, .nilFunc, .nilFunc, .nilFunc, .nilFunc, .nilFunc, .nilFunc, .nilFunc, .nilFunc] 56)).heap[w.heap.size + 1]? = some (.cells #[.nilFunc, .nilFunc, .nilFunc, .nilFunc, .nilFunc, .nilFunc, .nilFunc, .nilFunc, .nilFunc, .nilFunc, .nilFunc, .nilFunc] 56) from blkAt _ _ (by simp))
  clear hc h hB hl
  obtain ⟨W3, hst, HBX0, HBT0, HBW0⟩ := tab_store ((w.alloc (.cells #[.int .i64 4, .int .i64 0, .bool hb, .string ⟨#[]⟩, lv, kv] 26)).alloc (.cells #[.nilFunc, .nilFunc, .nilFunc, .nilFunc, .nilFunc, .nilFunc, .nilFunc, .nilFunc, .nilFunc, .nilFunc, .nilFunc, .nilFunc] 56)) BX.out BT.out
  have HBX := Aside0.mk HBX0
  have HBT := Aside0.mk HBT0
  have HBW := Aside0.mk (show Below w.heap.size w W3 from (below_alloc (below_alloc (Below.refl _ _) _) _).trans (HBW0 _ (by omega)))
  clear HBX0 HBT0 HBW0
  go_enter Tryd.func12, Tryd.ntmps12
  go_wp2_with fail
  refine HLN.out.mono ?_
  rintro e w2 ⟨rfl, rfl⟩
  have HST := Aside0.mk hst
  clear hst
  go_wp2_with (refine store_tab rfl _ _ rfl rfl rfl HST.out ?_)
  have BX3 := Aside0.mk (show W3.drew.heap[w.heap.size]? = some (.cells #[.int .i64 4, .int .i64 0, .bool hb, .string ⟨#[]⟩, lv, kv] 26) from HBX.out)
  have BT3 := Aside0.mk (show W3.drew.heap[w.heap.size + 1]? = some (.cells #[.nilFunc, .func (.func 18) #[] #[], .func (.func 19) #[] #[], .func (.func 20) #[] #[], .func (.func 21) #[] #[], .func (.func 22) #[] #[], .func (.func 23) #[] #[], .func (.func 24) #[] #[], .func (.func 25) #[] #[], .func (.func 25) #[] #[], .func (.func 26) #[] #[], .func (.func 27) #[] #[]] 56) from HBT.out)
  have HB3 := Aside0.mk (show Below w.heap.size w W3.drew from below_drew HBW.out)
  refine start_ (n := 8) (S := fun w' => w'.cell? ⟨w.heap.size, 0, none⟩ = some (.int .i64 4) ∧ w'.cell? ⟨w.heap.size, 1, none⟩ = some (.int .i64 0) ∧ w'.cell? ⟨w.heap.size, 2, none⟩ = some (.bool hb) ∧ w'.cell? ⟨w.heap.size, 3, none⟩ = some (.string ⟨#[]⟩) ∧ w'.cell? ⟨w.heap.size, 4, none⟩ = some (lv) ∧ w'.cell? ⟨w.heap.size, 5, none⟩ = some (kv) ∧ w'.cell? ⟨w.heap.size + 1, 4, none⟩ = some (.func (.func 21) #[] #[])) (ds := []) #[false, false, false, false, false, false, false, false] (by kernel_rfl) rfl rfl ⟨(blk_cell BX3.out 0).trans rfl, (blk_cell BX3.out 1).trans rfl, (blk_cell BX3.out 2).trans rfl, (blk_cell BX3.out 3).trans rfl, (blk_cell BX3.out 4).trans rfl, (blk_cell BX3.out 5).trans rfl, (blk_cell BT3.out 4).trans rfl⟩ (fun hHeld => ?_)
  refine pure_ (i := 0) (N := some 13) (v := ?_) (a' := ?_) #[true, false, false, false, false, false, false, false] rfl rfl (by kernel_rfl) (fun _ _ _ h => h) (Or.inl ⟨by rfl, ?_⟩) ?_ ?_
  rotate_left
  · intro w'
    go_simp
    with_reducible rfl
  rotate_left
  · simp only [Act.put, List.setIfInBounds_toArray, List.set_cons_zero, List.set_cons_succ, i64_w, i32_w]
    rfl
  refine pure_ (i := 4) (N := some 17) (v := ?_) (a' := ?_) #[true, false, false, false, true, false, false, false] rfl rfl (by kernel_rfl) (fun _ _ _ h => h) (Or.inl ⟨by rfl, ?_⟩) ?_ ?_
  rotate_left
  · intro w'
    go_simp
    with_reducible rfl
  rotate_left
  · simp only [Act.put, List.setIfInBounds_toArray, List.set_cons_zero, List.set_cons_succ, i64_w, i32_w]
    rfl
  refine pure_ (i := 6) (N := some 19) (v := ?_) (a' := ?_) #[true, false, false, false, true, false, true, false] rfl rfl (by kernel_rfl) (fun _ _ _ h => h) (Or.inl ⟨by rfl, ?_⟩) ?_ ?_
  rotate_left
  · intro w'
    go_simp
    with_reducible rfl
  rotate_left
  · simp only [Act.put, List.setIfInBounds_toArray, List.set_cons_zero, List.set_cons_succ, i64_w, i32_w]
    rfl
  refine take_ (i := 1) (N := some 14) (v := ?_) (a' := ?_) #[true, true, false, false, true, false, true, false] rfl rfl (by kernel_rfl) (fun _ _ _ h => h) (Or.inl ⟨by rfl, ?_⟩) hHeld ?_ ?_
  rotate_left
  · rintro w' ⟨s0, s1, s2, s3, s4, s5, s6⟩
    go_simp
    with_reducible rfl
  rotate_left
  · simp only [Act.put, List.setIfInBounds_toArray, List.set_cons_zero, List.set_cons_succ, i64_w, i32_w]
    rfl
  refine pure_ (i := 2) (N := some 15) (v := ?_) (a' := ?_) #[true, true, true, false, true, false, true, false] rfl rfl (by kernel_rfl) (fun _ _ _ h => h) (Or.inl ⟨by rfl, ?_⟩) ?_ ?_
  rotate_left
  · intro w'
    go_simp
    with_reducible rfl
  rotate_left
  · simp only [Act.put, List.setIfInBounds_toArray, List.set_cons_zero, List.set_cons_succ, i64_w, i32_w]
    rfl
  refine take_ (i := 3) (N := some 16) (v := ?_) (a' := ?_) #[true, true, true, true, true, false, true, false] rfl rfl (by kernel_rfl) (fun _ _ _ h => h) (Or.inl ⟨by rfl, ?_⟩) hHeld ?_ ?_
  rotate_left
  · rintro w' ⟨s0, s1, s2, s3, s4, s5, s6⟩
    go_simp
    with_reducible rfl
  rotate_left
  · simp only [Act.put, List.setIfInBounds_toArray, List.set_cons_zero, List.set_cons_succ, i64_w, i32_w]
    rfl
  refine take_ (i := 5) (N := some 18) (v := ?_) (a' := ?_) #[true, true, true, true, true, true, true, false] rfl rfl (by kernel_rfl) (fun _ _ _ h => h) (Or.inl ⟨by rfl, ?_⟩) hHeld ?_ ?_
  rotate_left
  · rintro w' ⟨s0, s1, s2, s3, s4, s5, s6⟩
    go_simp
    with_reducible rfl
  rotate_left
  · simp only [Act.put, List.setIfInBounds_toArray, List.set_cons_zero, List.set_cons_succ, i64_w, i32_w]
    rfl
  refine one_ (i := 7) (N := some 20) #[true, true, true, true, true, true, true, true] rfl rfl (by kernel_rfl) (by decide) (fun K hK => ?_)
  refine goesC_ Tryd.func21 (by kernel_rfl) rfl #[.pointer (some ⟨G, 0, none⟩), .agg #[.int .i64 4, .int .i64 0, .bool hb, .string ⟨#[]⟩, lv, kv], .int .i64 (d : Int)] (by rfl) rfl rfl (by (try simp only [List.map_toArray, List.map_cons, List.map_nil]); first | done | rfl) ?_
  with_reducible refine (HC.out _ HB3.out).mono ?_
  rintro e w4 ⟨rfl, hP⟩
  refine ⟨_, rfl, ?_⟩
  have HP4 := Aside0.mk hP
  have hO4 := hP.kept
  clear hP
  refine hK.out _ _ ⟨(blk_cell (hO4 _ _ BX3.out (HNG.out) (by intro c fz e; injection e with _ e; cases e)) 0).trans rfl, (blk_cell (hO4 _ _ BX3.out (HNG.out) (by intro c fz e; injection e with _ e; cases e)) 1).trans rfl, (blk_cell (hO4 _ _ BX3.out (HNG.out) (by intro c fz e; injection e with _ e; cases e)) 2).trans rfl, (blk_cell (hO4 _ _ BX3.out (HNG.out) (by intro c fz e; injection e with _ e; cases e)) 3).trans rfl, (blk_cell (hO4 _ _ BX3.out (HNG.out) (by intro c fz e; injection e with _ e; cases e)) 4).trans rfl, (blk_cell (hO4 _ _ BX3.out (HNG.out) (by intro c fz e; injection e with _ e; cases e)) 5).trans rfl, (blk_cell (hO4 _ _ BT3.out (HNT.out) (by intro c fz e; injection e with _ e; cases e)) 4).trans rfl⟩ (fun hHeld => ?_)
  clear hK K
  refine norm_ (a' := ?_) ?_ ?_
  rotate_left
  · show Act.put _ (some 20) _ = _
    simp only [Act.put, List.setIfInBounds_toArray, List.set_cons_zero, List.set_cons_succ, i64_w, i32_w]
    rfl
  refine done_ (by kernel_rfl) ?_
  go_end0
  exact ⟨rfl, ⟨HP4.out.is, (Below.mono HB3.out HB.out).trans HP4.out.bel, (((((Lib.OthersKept.refl _ _ w).below HB3.out)).trans HP4.out.kept))⟩⟩

/-- Terms whose numbers have at most two digits. -/
def okT : Tm → Nat → Prop
  | .v n, d => n < 100 ∧ d < 100
  | .s, _ => True
  | .l _ x y, d => d < 99 ∧ okT x d ∧ okT y (d + 1)
theorem term_calls : ∀ (t : Tm) (d : Nat), okT t d → TC t d
  | .v n, d, ⟨h1, h2⟩ => by
    intro B G bs w lv kv hT h hB hl
    obtain ⟨rfl, rfl⟩ := hT
    exact term_1 (n : Int) d _ B G bs w _ _ h hB (by omega) (fun W hW => var_calls B G bs n d h1 h2 W (builder_below h hW) (by have := hW.size; omega) (by omega))
  | .s, d, _ => by
    intro B G bs w lv kv hT h hB hl
    exact term_2 () d _ B G bs w _ _ h hB (by omega) (fun W hW => sort_calls B G bs d W lv kv (hT.below hW) (builder_below h hW) (by have := hW.size; omega) (by omega))
  | .l hb x y, d, ⟨h1, h2, h3⟩ => by
    intro B G bs w lv kv hT h hB hl
    exact term_4 hb d _ B G bs w _ _ h hB (by omega) (fun W hW => lam_calls hb x y d h1 (term_calls x d h2) (term_calls y (d + 1) h3) B G bs W lv kv (hT.below hW) (builder_below h hW) (by have := hW.size; omega) hl)
end Go.Proofs.YthdfpbemdaabaaaDoor.D
