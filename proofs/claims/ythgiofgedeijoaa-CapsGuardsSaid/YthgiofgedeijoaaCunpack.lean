/- Contracts of Unpack over the translation, the program's. -/
import Derived.Test.YthgiofgedeijoaaCpack
import Derived.ChangeKeysEq
set_option linter.unusedVariables false
set_option linter.unusedSimpArgs false
namespace Go.Proofs.Ythgiofgedeijoaa
open Go.RowKit Wd Cd

set_option maxRecDepth 100000 in
set_option maxHeartbeats 1600000 in
theorem get_any (x a n blk : Nat) (hx : Word x) (h : a + n ≤ 64) (hn : n ≤ 31) (w : World) (hc : w.cell? ⟨blk, 0, none⟩ = some (.int .u64 x)) :
    Calls Try.prog 32 #[.int .i64 a, .int .i64 n, .pointer (some ⟨blk, 0, none⟩)] w fun e w' => e = .returned (.int .i64 (fld x a n)) ∧ ∃ k, w' = w.drewN k := by
  have HF := Lib.hid (field_any x a n hx h)
  have hw : IntKind.i64.wrap (fld x a n : Int) = (fld x a n : Int) := fld_i64 x a n hn
  clear hx h hn
  go_enter Try.func32, Try.ntmps32
  go_wp2_with fail
  refine (HF.out _).mono ?_
  rintro e w' ⟨rfl, k1, rfl⟩
  go_wp2
  go_ret
  exact ⟨rfl, _, rfl⟩

theorem cellsOf_word : Try.prog.cellsOf 22 = 1 := by kernel_rfl
theorem info_word : (Try.prog.info? 22).isSome = true := by kernel_rfl
/-- A result that lies in a block of six cells, and a number beside it. -/
theorem cap_results {fn : Func} {p u : Tmp} (h : fn.results = #[.cell p 24, .tmp u]) (tmps : Array Value) (W : World) (hb : Nat) {v0 v1 v2 v3 v4 v5 : Value} (hp : tmps.getD p undef = .pointer (some ⟨hb, 0, none⟩))
    (h0 : W.cell? ⟨hb, 0, none⟩ = some v0) (h1 : W.cell? ⟨hb, 1, none⟩ = some v1) (h2 : W.cell? ⟨hb, 2, none⟩ = some v2) (h3 : W.cell? ⟨hb, 3, none⟩ = some v3) (h4 : W.cell? ⟨hb, 4, none⟩ = some v4) (h5 : W.cell? ⟨hb, 5, none⟩ = some v5) :
    (results fn tmps).run Try.prog W = .ok (.tuple #[.agg #[v0, v1, v2, v3, v4, v5], tmps.getD u undef]) W := by
  rw [results_cell_tmp h, hp]
  simp [go_sem, asAddr, h0, h1, h2, h3, h4, h5]

/-- '==' of two arrays of two words. -/
theorem eq_pairs (x y : Nat × Nat) (w : World) :
    (Op.equalIn 10000 35 (.agg #[.int .u64 x.1, .int .u64 x.2]) (.agg #[.int .u64 y.1, .int .u64 y.2])).run Try.prog w = .ok (decide (x = y)) w := by
  obtain ⟨i, hi⟩ := Option.isSome_iff_exists.1 info_word
  obtain ⟨a, b⟩ := x
  obtain ⟨c, d⟩ := y
  rw [show (10000 : Nat) = 9998 + 1 + 1 from rfl, run_equalIn_array w (9998 + 1) _ _ Try.underlying35 hi, cellsOf_word, show List.range 2 = [0, 1] from rfl]
  by_cases h1 : a = c
  · by_cases h2 : b = d
    · simp [Op.eqItems, go_sem, h1, h2]
    · simp [Op.eqItems, go_sem, h1, h2]
      omega
  · simp [Op.eqItems, go_sem, h1]
    omega
theorem pairs_ne (x y a b : Nat) (h : x ≠ a ∨ y ≠ b) (w : World) :
    (Op.equalIn 10000 35 (.agg #[.int .u64 x, .int .u64 y]) (.agg #[.int .u64 a, .int .u64 b])).run Try.prog w = .ok false w := by
  have h1 := eq_pairs (x, y) (a, b) w
  rw [decide_eq_false (by intro e; injection e; omega)] at h1
  exact h1
theorem pairs_eq (x y : Nat) (w : World) :
    (Op.equalIn 10000 35 (.agg #[.int .u64 x, .int .u64 y]) (.agg #[.int .u64 x, .int .u64 y])).run Try.prog w = .ok true w := by
  have h1 := eq_pairs (x, y) (x, y) w
  rw [decide_eq_true rfl] at h1
  exact h1

set_option maxRecDepth 100000 in
set_option maxHeartbeats 3200000 in
theorem unpack_node_form (x y : Nat) (hx : Word x) (hy : Word y) (hk : (((fld x 0 4) : Int) == 2) = true) (hok : ¬ Cp.Ok ⟨((fld x 0 4) : Int), ((fld x 16 31) : Int), ((fld x 4 3) : Int), 0, y, ((fld x 7 7) : Int)⟩) (w : World) :
    Calls Try.prog 20 #[(.agg #[.int .u64 x, .int .u64 y])] w fun e w' => e = .returned (.tuple #[(.agg #[.int .i64 0, .int .i64 0, .int .i64 0, .int .u64 0, .int .u64 0, .int .i64 0]), .int .i64 40]) ∧ Below w.heap.size w w' := by
  have HB := Lib.hid hok
  clear hok
  go_enter Try.func20, Try.ntmps20
  go_wp2_with fail
  refine (get_any x 0 4 w.heap.size hx (by decide) (by decide) _ (by simp [go_sem])).mono ?_
  rintro e w' ⟨rfl, k0, rfl⟩
  go_wp2_with fail
  refine (get_any x 4 3 w.heap.size hx (by decide) (by decide) _ (by simp [go_sem])).mono ?_
  rintro e w' ⟨rfl, k1, rfl⟩
  go_wp2_with fail
  refine (get_any x 7 7 w.heap.size hx (by decide) (by decide) _ (by simp [go_sem])).mono ?_
  rintro e w' ⟨rfl, k2, rfl⟩
  go_wp2_with fail
  refine (get_any x 16 31 w.heap.size hx (by decide) (by decide) _ (by simp [go_sem])).mono ?_
  rintro e w' ⟨rfl, k3, rfl⟩
  go_wp2_with fail
  refine (pack_form ⟨((fld x 0 4) : Int), ((fld x 16 31) : Int), ((fld x 4 3) : Int), 0, y, ((fld x 7 7) : Int)⟩ hy HB.out _).mono ?_
  rintro e w2 ⟨rfl, hb2⟩
  have hz2 : w.heap.size + 2 < w2.heap.size := by have := hb2.size; simp at this; omega
  have hz1 : w.heap.size + 1 < w2.heap.size := by omega
  have hz0 : w.heap.size < w2.heap.size := by omega
  have hn1 : ¬ w.heap.size + 1 = w2.heap.size := by omega
  have hn0 : ¬ w.heap.size = w2.heap.size := by omega
  have hn2 : ¬ w.heap.size + 2 = w2.heap.size := by omega
  have c0 : w2.cell? ⟨w.heap.size + 2, 0, none⟩ = some (.int .i64 (fld x 0 4)) := (hb2.cell (p := ⟨w.heap.size + 2, 0, none⟩) (by simp)).trans (by simp [go_sem])
  have c1 : w2.cell? ⟨w.heap.size + 2, 1, none⟩ = some (.int .i64 (fld x 16 31)) := (hb2.cell (p := ⟨w.heap.size + 2, 1, none⟩) (by simp)).trans (by simp [go_sem])
  have c2 : w2.cell? ⟨w.heap.size + 2, 2, none⟩ = some (.int .i64 (fld x 4 3)) := (hb2.cell (p := ⟨w.heap.size + 2, 2, none⟩) (by simp)).trans (by simp [go_sem])
  have c3 : w2.cell? ⟨w.heap.size + 2, 3, none⟩ = some (.int .u64 0) := (hb2.cell (p := ⟨w.heap.size + 2, 3, none⟩) (by simp)).trans (by simp [go_sem])
  have c4 : w2.cell? ⟨w.heap.size + 2, 4, none⟩ = some (.int .u64 y) := (hb2.cell (p := ⟨w.heap.size + 2, 4, none⟩) (by simp)).trans (by simp [go_sem])
  have c5 : w2.cell? ⟨w.heap.size + 2, 5, none⟩ = some (.int .i64 (fld x 7 7)) := (hb2.cell (p := ⟨w.heap.size + 2, 5, none⟩) (by simp)).trans (by simp [go_sem])
  have d0 : w2.cell? ⟨w.heap.size, 0, none⟩ = some (.int .u64 x) := (hb2.cell (p := ⟨w.heap.size, 0, none⟩) (by simp; omega)).trans (by simp [go_sem])
  have d1 : w2.cell? ⟨w.heap.size, 1, none⟩ = some (.int .u64 y) := (hb2.cell (p := ⟨w.heap.size, 1, none⟩) (by simp; omega)).trans (by simp [go_sem])
  have r0 : w2.cell? ⟨w.heap.size + 1, 0, none⟩ = some (.int .i64 0) := (hb2.cell (p := ⟨w.heap.size + 1, 0, none⟩) (by simp)).trans (by simp [go_sem])
  have s0 : w2.frozen? ⟨w.heap.size + 1, 0, none⟩ = false := (hb2.frozen (p := ⟨w.heap.size + 1, 0, none⟩) (by simp)).trans (by simp [go_sem])
  have r1 : w2.cell? ⟨w.heap.size + 1, 1, none⟩ = some (.int .i64 0) := (hb2.cell (p := ⟨w.heap.size + 1, 1, none⟩) (by simp)).trans (by simp [go_sem])
  have s1 : w2.frozen? ⟨w.heap.size + 1, 1, none⟩ = false := (hb2.frozen (p := ⟨w.heap.size + 1, 1, none⟩) (by simp)).trans (by simp [go_sem])
  have r2 : w2.cell? ⟨w.heap.size + 1, 2, none⟩ = some (.int .i64 0) := (hb2.cell (p := ⟨w.heap.size + 1, 2, none⟩) (by simp)).trans (by simp [go_sem])
  have s2 : w2.frozen? ⟨w.heap.size + 1, 2, none⟩ = false := (hb2.frozen (p := ⟨w.heap.size + 1, 2, none⟩) (by simp)).trans (by simp [go_sem])
  have r3 : w2.cell? ⟨w.heap.size + 1, 3, none⟩ = some (.int .u64 0) := (hb2.cell (p := ⟨w.heap.size + 1, 3, none⟩) (by simp)).trans (by simp [go_sem])
  have s3 : w2.frozen? ⟨w.heap.size + 1, 3, none⟩ = false := (hb2.frozen (p := ⟨w.heap.size + 1, 3, none⟩) (by simp)).trans (by simp [go_sem])
  have r4 : w2.cell? ⟨w.heap.size + 1, 4, none⟩ = some (.int .u64 0) := (hb2.cell (p := ⟨w.heap.size + 1, 4, none⟩) (by simp)).trans (by simp [go_sem])
  have s4 : w2.frozen? ⟨w.heap.size + 1, 4, none⟩ = false := (hb2.frozen (p := ⟨w.heap.size + 1, 4, none⟩) (by simp)).trans (by simp [go_sem])
  have r5 : w2.cell? ⟨w.heap.size + 1, 5, none⟩ = some (.int .i64 0) := (hb2.cell (p := ⟨w.heap.size + 1, 5, none⟩) (by simp)).trans (by simp [go_sem])
  have s5 : w2.frozen? ⟨w.heap.size + 1, 5, none⟩ = false := (hb2.frozen (p := ⟨w.heap.size + 1, 5, none⟩) (by simp)).trans (by simp [go_sem])
  have HB2 := Lib.hid hb2
  clear hb2
  go_wp2
  refine bodyPost_ret (cap_results rfl _ _ (w.heap.size + 1) rfl ?_ ?_ ?_ ?_ ?_ ?_) rfl ⟨rfl, ?_⟩
  · exact cell_new (by simp [go_sem, r0])
  · exact cell_new (by simp [go_sem, r1])
  · exact cell_new (by simp [go_sem, r2])
  · exact cell_new (by simp [go_sem, r3])
  · exact cell_new (by simp [go_sem, r4])
  · exact cell_new (by simp [go_sem, r5])
  · have h2 : Below w.heap.size w w2 := below_then (below_new (below_draws (below_new (below_new (Below.refl _ _) _) _) _) _) HB2.out
    apply below_new
    iterate 6 refine below_put ?_ _ _ (by simp)
    exact h2

set_option maxRecDepth 100000 in
set_option maxHeartbeats 3200000 in
theorem unpack_node_ne (x y : Nat) (hx : Word x) (hy : Word y) (hk : (((fld x 0 4) : Int) == 2) = true) (hok : Cp.Ok ⟨((fld x 0 4) : Int), ((fld x 16 31) : Int), ((fld x 4 3) : Int), 0, y, ((fld x 7 7) : Int)⟩) (hne : pk (fld x 0 4) (fld x 4 3) (fld x 7 7) (fld x 16 31) 4 ≠ x) (w : World) :
    Calls Try.prog 20 #[(.agg #[.int .u64 x, .int .u64 y])] w fun e w' => e = .returned (.tuple #[(.agg #[.int .i64 0, .int .i64 0, .int .i64 0, .int .u64 0, .int .u64 0, .int .i64 0]), .int .i64 40]) ∧ Below w.heap.size w w' := by
  have HB := Lib.hid hok
  clear hok
  have HP := Lib.hid (pack_node (fld x 0 4) (fld x 4 3) (fld x 7 7) (fld x 16 31) 0 y (fld_lt x 0 4) (fld_lt x 4 3) (fld_lt x 7 7) (fld_lt x 16 31) hy HB.out hk)
  have HQ := pairs_ne _ y x y (.inl hne)
  clear hne
  go_enter Try.func20, Try.ntmps20
  go_wp2_with fail
  refine (get_any x 0 4 w.heap.size hx (by decide) (by decide) _ (by simp [go_sem])).mono ?_
  rintro e w' ⟨rfl, k0, rfl⟩
  go_wp2_with fail
  refine (get_any x 4 3 w.heap.size hx (by decide) (by decide) _ (by simp [go_sem])).mono ?_
  rintro e w' ⟨rfl, k1, rfl⟩
  go_wp2_with fail
  refine (get_any x 7 7 w.heap.size hx (by decide) (by decide) _ (by simp [go_sem])).mono ?_
  rintro e w' ⟨rfl, k2, rfl⟩
  go_wp2_with fail
  refine (get_any x 16 31 w.heap.size hx (by decide) (by decide) _ (by simp [go_sem])).mono ?_
  rintro e w' ⟨rfl, k3, rfl⟩
  go_wp2_with fail
  refine (HP.out _).mono ?_
  rintro e w2 ⟨rfl, hb2⟩
  have hz2 : w.heap.size + 2 < w2.heap.size := by have := hb2.size; simp at this; omega
  have hz1 : w.heap.size + 1 < w2.heap.size := by omega
  have hz0 : w.heap.size < w2.heap.size := by omega
  have hn1 : ¬ w.heap.size + 1 = w2.heap.size := by omega
  have hn0 : ¬ w.heap.size = w2.heap.size := by omega
  have hn2 : ¬ w.heap.size + 2 = w2.heap.size := by omega
  have c0 : w2.cell? ⟨w.heap.size + 2, 0, none⟩ = some (.int .i64 (fld x 0 4)) := (hb2.cell (p := ⟨w.heap.size + 2, 0, none⟩) (by simp)).trans (by simp [go_sem])
  have c1 : w2.cell? ⟨w.heap.size + 2, 1, none⟩ = some (.int .i64 (fld x 16 31)) := (hb2.cell (p := ⟨w.heap.size + 2, 1, none⟩) (by simp)).trans (by simp [go_sem])
  have c2 : w2.cell? ⟨w.heap.size + 2, 2, none⟩ = some (.int .i64 (fld x 4 3)) := (hb2.cell (p := ⟨w.heap.size + 2, 2, none⟩) (by simp)).trans (by simp [go_sem])
  have c3 : w2.cell? ⟨w.heap.size + 2, 3, none⟩ = some (.int .u64 0) := (hb2.cell (p := ⟨w.heap.size + 2, 3, none⟩) (by simp)).trans (by simp [go_sem])
  have c4 : w2.cell? ⟨w.heap.size + 2, 4, none⟩ = some (.int .u64 y) := (hb2.cell (p := ⟨w.heap.size + 2, 4, none⟩) (by simp)).trans (by simp [go_sem])
  have c5 : w2.cell? ⟨w.heap.size + 2, 5, none⟩ = some (.int .i64 (fld x 7 7)) := (hb2.cell (p := ⟨w.heap.size + 2, 5, none⟩) (by simp)).trans (by simp [go_sem])
  have d0 : w2.cell? ⟨w.heap.size, 0, none⟩ = some (.int .u64 x) := (hb2.cell (p := ⟨w.heap.size, 0, none⟩) (by simp; omega)).trans (by simp [go_sem])
  have d1 : w2.cell? ⟨w.heap.size, 1, none⟩ = some (.int .u64 y) := (hb2.cell (p := ⟨w.heap.size, 1, none⟩) (by simp; omega)).trans (by simp [go_sem])
  have r0 : w2.cell? ⟨w.heap.size + 1, 0, none⟩ = some (.int .i64 0) := (hb2.cell (p := ⟨w.heap.size + 1, 0, none⟩) (by simp)).trans (by simp [go_sem])
  have s0 : w2.frozen? ⟨w.heap.size + 1, 0, none⟩ = false := (hb2.frozen (p := ⟨w.heap.size + 1, 0, none⟩) (by simp)).trans (by simp [go_sem])
  have r1 : w2.cell? ⟨w.heap.size + 1, 1, none⟩ = some (.int .i64 0) := (hb2.cell (p := ⟨w.heap.size + 1, 1, none⟩) (by simp)).trans (by simp [go_sem])
  have s1 : w2.frozen? ⟨w.heap.size + 1, 1, none⟩ = false := (hb2.frozen (p := ⟨w.heap.size + 1, 1, none⟩) (by simp)).trans (by simp [go_sem])
  have r2 : w2.cell? ⟨w.heap.size + 1, 2, none⟩ = some (.int .i64 0) := (hb2.cell (p := ⟨w.heap.size + 1, 2, none⟩) (by simp)).trans (by simp [go_sem])
  have s2 : w2.frozen? ⟨w.heap.size + 1, 2, none⟩ = false := (hb2.frozen (p := ⟨w.heap.size + 1, 2, none⟩) (by simp)).trans (by simp [go_sem])
  have r3 : w2.cell? ⟨w.heap.size + 1, 3, none⟩ = some (.int .u64 0) := (hb2.cell (p := ⟨w.heap.size + 1, 3, none⟩) (by simp)).trans (by simp [go_sem])
  have s3 : w2.frozen? ⟨w.heap.size + 1, 3, none⟩ = false := (hb2.frozen (p := ⟨w.heap.size + 1, 3, none⟩) (by simp)).trans (by simp [go_sem])
  have r4 : w2.cell? ⟨w.heap.size + 1, 4, none⟩ = some (.int .u64 0) := (hb2.cell (p := ⟨w.heap.size + 1, 4, none⟩) (by simp)).trans (by simp [go_sem])
  have s4 : w2.frozen? ⟨w.heap.size + 1, 4, none⟩ = false := (hb2.frozen (p := ⟨w.heap.size + 1, 4, none⟩) (by simp)).trans (by simp [go_sem])
  have r5 : w2.cell? ⟨w.heap.size + 1, 5, none⟩ = some (.int .i64 0) := (hb2.cell (p := ⟨w.heap.size + 1, 5, none⟩) (by simp)).trans (by simp [go_sem])
  have s5 : w2.frozen? ⟨w.heap.size + 1, 5, none⟩ = false := (hb2.frozen (p := ⟨w.heap.size + 1, 5, none⟩) (by simp)).trans (by simp [go_sem])
  have HB2 := Lib.hid hb2
  clear hb2
  go_wp2
  refine bodyPost_ret (cap_results rfl _ _ (w.heap.size + 1) rfl ?_ ?_ ?_ ?_ ?_ ?_) rfl ⟨rfl, ?_⟩
  · exact cell_new (by simp [go_sem, r0])
  · exact cell_new (by simp [go_sem, r1])
  · exact cell_new (by simp [go_sem, r2])
  · exact cell_new (by simp [go_sem, r3])
  · exact cell_new (by simp [go_sem, r4])
  · exact cell_new (by simp [go_sem, r5])
  · have h2 : Below w.heap.size w w2 := below_then (below_new (below_draws (below_new (below_new (Below.refl _ _) _) _) _) _) HB2.out
    apply below_new
    iterate 6 refine below_put ?_ _ _ (by simp)
    exact h2

set_option maxRecDepth 100000 in
set_option maxHeartbeats 3200000 in
theorem unpack_node_good (x y : Nat) (hx : Word x) (hy : Word y) (hk : (((fld x 0 4) : Int) == 2) = true) (hok : Cp.Ok ⟨((fld x 0 4) : Int), ((fld x 16 31) : Int), ((fld x 4 3) : Int), 0, y, ((fld x 7 7) : Int)⟩) (heq : pk (fld x 0 4) (fld x 4 3) (fld x 7 7) (fld x 16 31) 4 = x) (w : World) :
    Calls Try.prog 20 #[(.agg #[.int .u64 x, .int .u64 y])] w fun e w' => e = .returned (.tuple #[(.agg #[.int .i64 (fld x 0 4), .int .i64 (fld x 16 31), .int .i64 (fld x 4 3), .int .u64 0, .int .u64 y, .int .i64 (fld x 7 7)]), .int .i64 0]) ∧ Below w.heap.size w w' := by
  have HB := Lib.hid hok
  clear hok
  have HP := Lib.hid (pack_node (fld x 0 4) (fld x 4 3) (fld x 7 7) (fld x 16 31) 0 y (fld_lt x 0 4) (fld_lt x 4 3) (fld_lt x 7 7) (fld_lt x 16 31) hy HB.out hk)
  rw [heq] at HP
  have HQ := pairs_eq x y
  clear heq
  go_enter Try.func20, Try.ntmps20
  go_wp2_with fail
  refine (get_any x 0 4 w.heap.size hx (by decide) (by decide) _ (by simp [go_sem])).mono ?_
  rintro e w' ⟨rfl, k0, rfl⟩
  go_wp2_with fail
  refine (get_any x 4 3 w.heap.size hx (by decide) (by decide) _ (by simp [go_sem])).mono ?_
  rintro e w' ⟨rfl, k1, rfl⟩
  go_wp2_with fail
  refine (get_any x 7 7 w.heap.size hx (by decide) (by decide) _ (by simp [go_sem])).mono ?_
  rintro e w' ⟨rfl, k2, rfl⟩
  go_wp2_with fail
  refine (get_any x 16 31 w.heap.size hx (by decide) (by decide) _ (by simp [go_sem])).mono ?_
  rintro e w' ⟨rfl, k3, rfl⟩
  go_wp2_with fail
  refine (HP.out _).mono ?_
  rintro e w2 ⟨rfl, hb2⟩
  have hz2 : w.heap.size + 2 < w2.heap.size := by have := hb2.size; simp at this; omega
  have hz1 : w.heap.size + 1 < w2.heap.size := by omega
  have hz0 : w.heap.size < w2.heap.size := by omega
  have hn1 : ¬ w.heap.size + 1 = w2.heap.size := by omega
  have hn0 : ¬ w.heap.size = w2.heap.size := by omega
  have hn2 : ¬ w.heap.size + 2 = w2.heap.size := by omega
  have c0 : w2.cell? ⟨w.heap.size + 2, 0, none⟩ = some (.int .i64 (fld x 0 4)) := (hb2.cell (p := ⟨w.heap.size + 2, 0, none⟩) (by simp)).trans (by simp [go_sem])
  have c1 : w2.cell? ⟨w.heap.size + 2, 1, none⟩ = some (.int .i64 (fld x 16 31)) := (hb2.cell (p := ⟨w.heap.size + 2, 1, none⟩) (by simp)).trans (by simp [go_sem])
  have c2 : w2.cell? ⟨w.heap.size + 2, 2, none⟩ = some (.int .i64 (fld x 4 3)) := (hb2.cell (p := ⟨w.heap.size + 2, 2, none⟩) (by simp)).trans (by simp [go_sem])
  have c3 : w2.cell? ⟨w.heap.size + 2, 3, none⟩ = some (.int .u64 0) := (hb2.cell (p := ⟨w.heap.size + 2, 3, none⟩) (by simp)).trans (by simp [go_sem])
  have c4 : w2.cell? ⟨w.heap.size + 2, 4, none⟩ = some (.int .u64 y) := (hb2.cell (p := ⟨w.heap.size + 2, 4, none⟩) (by simp)).trans (by simp [go_sem])
  have c5 : w2.cell? ⟨w.heap.size + 2, 5, none⟩ = some (.int .i64 (fld x 7 7)) := (hb2.cell (p := ⟨w.heap.size + 2, 5, none⟩) (by simp)).trans (by simp [go_sem])
  have d0 : w2.cell? ⟨w.heap.size, 0, none⟩ = some (.int .u64 x) := (hb2.cell (p := ⟨w.heap.size, 0, none⟩) (by simp; omega)).trans (by simp [go_sem])
  have d1 : w2.cell? ⟨w.heap.size, 1, none⟩ = some (.int .u64 y) := (hb2.cell (p := ⟨w.heap.size, 1, none⟩) (by simp; omega)).trans (by simp [go_sem])
  have r0 : w2.cell? ⟨w.heap.size + 1, 0, none⟩ = some (.int .i64 0) := (hb2.cell (p := ⟨w.heap.size + 1, 0, none⟩) (by simp)).trans (by simp [go_sem])
  have s0 : w2.frozen? ⟨w.heap.size + 1, 0, none⟩ = false := (hb2.frozen (p := ⟨w.heap.size + 1, 0, none⟩) (by simp)).trans (by simp [go_sem])
  have r1 : w2.cell? ⟨w.heap.size + 1, 1, none⟩ = some (.int .i64 0) := (hb2.cell (p := ⟨w.heap.size + 1, 1, none⟩) (by simp)).trans (by simp [go_sem])
  have s1 : w2.frozen? ⟨w.heap.size + 1, 1, none⟩ = false := (hb2.frozen (p := ⟨w.heap.size + 1, 1, none⟩) (by simp)).trans (by simp [go_sem])
  have r2 : w2.cell? ⟨w.heap.size + 1, 2, none⟩ = some (.int .i64 0) := (hb2.cell (p := ⟨w.heap.size + 1, 2, none⟩) (by simp)).trans (by simp [go_sem])
  have s2 : w2.frozen? ⟨w.heap.size + 1, 2, none⟩ = false := (hb2.frozen (p := ⟨w.heap.size + 1, 2, none⟩) (by simp)).trans (by simp [go_sem])
  have r3 : w2.cell? ⟨w.heap.size + 1, 3, none⟩ = some (.int .u64 0) := (hb2.cell (p := ⟨w.heap.size + 1, 3, none⟩) (by simp)).trans (by simp [go_sem])
  have s3 : w2.frozen? ⟨w.heap.size + 1, 3, none⟩ = false := (hb2.frozen (p := ⟨w.heap.size + 1, 3, none⟩) (by simp)).trans (by simp [go_sem])
  have r4 : w2.cell? ⟨w.heap.size + 1, 4, none⟩ = some (.int .u64 0) := (hb2.cell (p := ⟨w.heap.size + 1, 4, none⟩) (by simp)).trans (by simp [go_sem])
  have s4 : w2.frozen? ⟨w.heap.size + 1, 4, none⟩ = false := (hb2.frozen (p := ⟨w.heap.size + 1, 4, none⟩) (by simp)).trans (by simp [go_sem])
  have r5 : w2.cell? ⟨w.heap.size + 1, 5, none⟩ = some (.int .i64 0) := (hb2.cell (p := ⟨w.heap.size + 1, 5, none⟩) (by simp)).trans (by simp [go_sem])
  have s5 : w2.frozen? ⟨w.heap.size + 1, 5, none⟩ = false := (hb2.frozen (p := ⟨w.heap.size + 1, 5, none⟩) (by simp)).trans (by simp [go_sem])
  have HB2 := Lib.hid hb2
  clear hb2
  go_wp2
  refine bodyPost_ret (cap_results rfl _ _ (w.heap.size + 1) rfl ?_ ?_ ?_ ?_ ?_ ?_) rfl ⟨rfl, ?_⟩
  · exact cell_new (by simp [go_sem, r0])
  · exact cell_new (by simp [go_sem, r1])
  · exact cell_new (by simp [go_sem, r2])
  · exact cell_new (by simp [go_sem, r3])
  · exact cell_new (by simp [go_sem, r4])
  · exact cell_new (by simp [go_sem, r5])
  · have h2 : Below w.heap.size w w2 := below_then (below_new (below_draws (below_new (below_new (Below.refl _ _) _) _) _) _) HB2.out
    apply below_new
    iterate 6 refine below_put ?_ _ _ (by simp)
    exact h2

set_option maxRecDepth 100000 in
set_option maxHeartbeats 3200000 in
theorem unpack_other_form (x y : Nat) (hx : Word x) (hy : Word y) (hk : (((fld x 0 4) : Int) == 2) = false) (hok : ¬ Cp.Ok ⟨((fld x 0 4) : Int), ((fld x 16 31) : Int), ((fld x 4 3) : Int), y, 0, ((fld x 7 7) : Int)⟩) (w : World) :
    Calls Try.prog 20 #[(.agg #[.int .u64 x, .int .u64 y])] w fun e w' => e = .returned (.tuple #[(.agg #[.int .i64 0, .int .i64 0, .int .i64 0, .int .u64 0, .int .u64 0, .int .i64 0]), .int .i64 40]) ∧ Below w.heap.size w w' := by
  have HB := Lib.hid hok
  clear hok
  go_enter Try.func20, Try.ntmps20
  go_wp2_with fail
  refine (get_any x 0 4 w.heap.size hx (by decide) (by decide) _ (by simp [go_sem])).mono ?_
  rintro e w' ⟨rfl, k0, rfl⟩
  go_wp2_with fail
  refine (get_any x 4 3 w.heap.size hx (by decide) (by decide) _ (by simp [go_sem])).mono ?_
  rintro e w' ⟨rfl, k1, rfl⟩
  go_wp2_with fail
  refine (get_any x 7 7 w.heap.size hx (by decide) (by decide) _ (by simp [go_sem])).mono ?_
  rintro e w' ⟨rfl, k2, rfl⟩
  go_wp2_with fail
  refine (get_any x 16 31 w.heap.size hx (by decide) (by decide) _ (by simp [go_sem])).mono ?_
  rintro e w' ⟨rfl, k3, rfl⟩
  go_wp2_with fail
  refine (pack_form ⟨((fld x 0 4) : Int), ((fld x 16 31) : Int), ((fld x 4 3) : Int), y, 0, ((fld x 7 7) : Int)⟩ ⟨by show (0 : Nat) < 2 ^ 64; decide⟩ HB.out _).mono ?_
  rintro e w2 ⟨rfl, hb2⟩
  have hz2 : w.heap.size + 2 < w2.heap.size := by have := hb2.size; simp at this; omega
  have hz1 : w.heap.size + 1 < w2.heap.size := by omega
  have hz0 : w.heap.size < w2.heap.size := by omega
  have hn1 : ¬ w.heap.size + 1 = w2.heap.size := by omega
  have hn0 : ¬ w.heap.size = w2.heap.size := by omega
  have hn2 : ¬ w.heap.size + 2 = w2.heap.size := by omega
  have c0 : w2.cell? ⟨w.heap.size + 2, 0, none⟩ = some (.int .i64 (fld x 0 4)) := (hb2.cell (p := ⟨w.heap.size + 2, 0, none⟩) (by simp)).trans (by simp [go_sem])
  have c1 : w2.cell? ⟨w.heap.size + 2, 1, none⟩ = some (.int .i64 (fld x 16 31)) := (hb2.cell (p := ⟨w.heap.size + 2, 1, none⟩) (by simp)).trans (by simp [go_sem])
  have c2 : w2.cell? ⟨w.heap.size + 2, 2, none⟩ = some (.int .i64 (fld x 4 3)) := (hb2.cell (p := ⟨w.heap.size + 2, 2, none⟩) (by simp)).trans (by simp [go_sem])
  have c3 : w2.cell? ⟨w.heap.size + 2, 3, none⟩ = some (.int .u64 y) := (hb2.cell (p := ⟨w.heap.size + 2, 3, none⟩) (by simp)).trans (by simp [go_sem])
  have c4 : w2.cell? ⟨w.heap.size + 2, 4, none⟩ = some (.int .u64 0) := (hb2.cell (p := ⟨w.heap.size + 2, 4, none⟩) (by simp)).trans (by simp [go_sem])
  have c5 : w2.cell? ⟨w.heap.size + 2, 5, none⟩ = some (.int .i64 (fld x 7 7)) := (hb2.cell (p := ⟨w.heap.size + 2, 5, none⟩) (by simp)).trans (by simp [go_sem])
  have d0 : w2.cell? ⟨w.heap.size, 0, none⟩ = some (.int .u64 x) := (hb2.cell (p := ⟨w.heap.size, 0, none⟩) (by simp; omega)).trans (by simp [go_sem])
  have d1 : w2.cell? ⟨w.heap.size, 1, none⟩ = some (.int .u64 y) := (hb2.cell (p := ⟨w.heap.size, 1, none⟩) (by simp; omega)).trans (by simp [go_sem])
  have r0 : w2.cell? ⟨w.heap.size + 1, 0, none⟩ = some (.int .i64 0) := (hb2.cell (p := ⟨w.heap.size + 1, 0, none⟩) (by simp)).trans (by simp [go_sem])
  have s0 : w2.frozen? ⟨w.heap.size + 1, 0, none⟩ = false := (hb2.frozen (p := ⟨w.heap.size + 1, 0, none⟩) (by simp)).trans (by simp [go_sem])
  have r1 : w2.cell? ⟨w.heap.size + 1, 1, none⟩ = some (.int .i64 0) := (hb2.cell (p := ⟨w.heap.size + 1, 1, none⟩) (by simp)).trans (by simp [go_sem])
  have s1 : w2.frozen? ⟨w.heap.size + 1, 1, none⟩ = false := (hb2.frozen (p := ⟨w.heap.size + 1, 1, none⟩) (by simp)).trans (by simp [go_sem])
  have r2 : w2.cell? ⟨w.heap.size + 1, 2, none⟩ = some (.int .i64 0) := (hb2.cell (p := ⟨w.heap.size + 1, 2, none⟩) (by simp)).trans (by simp [go_sem])
  have s2 : w2.frozen? ⟨w.heap.size + 1, 2, none⟩ = false := (hb2.frozen (p := ⟨w.heap.size + 1, 2, none⟩) (by simp)).trans (by simp [go_sem])
  have r3 : w2.cell? ⟨w.heap.size + 1, 3, none⟩ = some (.int .u64 0) := (hb2.cell (p := ⟨w.heap.size + 1, 3, none⟩) (by simp)).trans (by simp [go_sem])
  have s3 : w2.frozen? ⟨w.heap.size + 1, 3, none⟩ = false := (hb2.frozen (p := ⟨w.heap.size + 1, 3, none⟩) (by simp)).trans (by simp [go_sem])
  have r4 : w2.cell? ⟨w.heap.size + 1, 4, none⟩ = some (.int .u64 0) := (hb2.cell (p := ⟨w.heap.size + 1, 4, none⟩) (by simp)).trans (by simp [go_sem])
  have s4 : w2.frozen? ⟨w.heap.size + 1, 4, none⟩ = false := (hb2.frozen (p := ⟨w.heap.size + 1, 4, none⟩) (by simp)).trans (by simp [go_sem])
  have r5 : w2.cell? ⟨w.heap.size + 1, 5, none⟩ = some (.int .i64 0) := (hb2.cell (p := ⟨w.heap.size + 1, 5, none⟩) (by simp)).trans (by simp [go_sem])
  have s5 : w2.frozen? ⟨w.heap.size + 1, 5, none⟩ = false := (hb2.frozen (p := ⟨w.heap.size + 1, 5, none⟩) (by simp)).trans (by simp [go_sem])
  have HB2 := Lib.hid hb2
  clear hb2
  go_wp2
  refine bodyPost_ret (cap_results rfl _ _ (w.heap.size + 1) rfl ?_ ?_ ?_ ?_ ?_ ?_) rfl ⟨rfl, ?_⟩
  · exact cell_new (by simp [go_sem, r0])
  · exact cell_new (by simp [go_sem, r1])
  · exact cell_new (by simp [go_sem, r2])
  · exact cell_new (by simp [go_sem, r3])
  · exact cell_new (by simp [go_sem, r4])
  · exact cell_new (by simp [go_sem, r5])
  · have h2 : Below w.heap.size w w2 := below_then (below_new (below_draws (below_new (below_new (Below.refl _ _) _) _) _) _) HB2.out
    apply below_new
    iterate 6 refine below_put ?_ _ _ (by simp)
    exact h2

set_option maxRecDepth 100000 in
set_option maxHeartbeats 3200000 in
theorem unpack_other_ne (x y : Nat) (hx : Word x) (hy : Word y) (hk : (((fld x 0 4) : Int) == 2) = false) (hok : Cp.Ok ⟨((fld x 0 4) : Int), ((fld x 16 31) : Int), ((fld x 4 3) : Int), y, 0, ((fld x 7 7) : Int)⟩) (hne : pk (fld x 0 4) (fld x 4 3) (fld x 7 7) (fld x 16 31) 4 ≠ x) (w : World) :
    Calls Try.prog 20 #[(.agg #[.int .u64 x, .int .u64 y])] w fun e w' => e = .returned (.tuple #[(.agg #[.int .i64 0, .int .i64 0, .int .i64 0, .int .u64 0, .int .u64 0, .int .i64 0]), .int .i64 40]) ∧ Below w.heap.size w w' := by
  have HB := Lib.hid hok
  clear hok
  have HP := Lib.hid (pack_other (fld x 0 4) (fld x 4 3) (fld x 7 7) (fld x 16 31) y 0 (fld_lt x 0 4) (fld_lt x 4 3) (fld_lt x 7 7) (fld_lt x 16 31) ⟨by show (0 : Nat) < 2 ^ 64; decide⟩ HB.out hk)
  have HQ := pairs_ne _ y x y (.inl hne)
  clear hne
  go_enter Try.func20, Try.ntmps20
  go_wp2_with fail
  refine (get_any x 0 4 w.heap.size hx (by decide) (by decide) _ (by simp [go_sem])).mono ?_
  rintro e w' ⟨rfl, k0, rfl⟩
  go_wp2_with fail
  refine (get_any x 4 3 w.heap.size hx (by decide) (by decide) _ (by simp [go_sem])).mono ?_
  rintro e w' ⟨rfl, k1, rfl⟩
  go_wp2_with fail
  refine (get_any x 7 7 w.heap.size hx (by decide) (by decide) _ (by simp [go_sem])).mono ?_
  rintro e w' ⟨rfl, k2, rfl⟩
  go_wp2_with fail
  refine (get_any x 16 31 w.heap.size hx (by decide) (by decide) _ (by simp [go_sem])).mono ?_
  rintro e w' ⟨rfl, k3, rfl⟩
  go_wp2_with fail
  refine (HP.out _).mono ?_
  rintro e w2 ⟨rfl, hb2⟩
  have hz2 : w.heap.size + 2 < w2.heap.size := by have := hb2.size; simp at this; omega
  have hz1 : w.heap.size + 1 < w2.heap.size := by omega
  have hz0 : w.heap.size < w2.heap.size := by omega
  have hn1 : ¬ w.heap.size + 1 = w2.heap.size := by omega
  have hn0 : ¬ w.heap.size = w2.heap.size := by omega
  have hn2 : ¬ w.heap.size + 2 = w2.heap.size := by omega
  have c0 : w2.cell? ⟨w.heap.size + 2, 0, none⟩ = some (.int .i64 (fld x 0 4)) := (hb2.cell (p := ⟨w.heap.size + 2, 0, none⟩) (by simp)).trans (by simp [go_sem])
  have c1 : w2.cell? ⟨w.heap.size + 2, 1, none⟩ = some (.int .i64 (fld x 16 31)) := (hb2.cell (p := ⟨w.heap.size + 2, 1, none⟩) (by simp)).trans (by simp [go_sem])
  have c2 : w2.cell? ⟨w.heap.size + 2, 2, none⟩ = some (.int .i64 (fld x 4 3)) := (hb2.cell (p := ⟨w.heap.size + 2, 2, none⟩) (by simp)).trans (by simp [go_sem])
  have c3 : w2.cell? ⟨w.heap.size + 2, 3, none⟩ = some (.int .u64 y) := (hb2.cell (p := ⟨w.heap.size + 2, 3, none⟩) (by simp)).trans (by simp [go_sem])
  have c4 : w2.cell? ⟨w.heap.size + 2, 4, none⟩ = some (.int .u64 0) := (hb2.cell (p := ⟨w.heap.size + 2, 4, none⟩) (by simp)).trans (by simp [go_sem])
  have c5 : w2.cell? ⟨w.heap.size + 2, 5, none⟩ = some (.int .i64 (fld x 7 7)) := (hb2.cell (p := ⟨w.heap.size + 2, 5, none⟩) (by simp)).trans (by simp [go_sem])
  have d0 : w2.cell? ⟨w.heap.size, 0, none⟩ = some (.int .u64 x) := (hb2.cell (p := ⟨w.heap.size, 0, none⟩) (by simp; omega)).trans (by simp [go_sem])
  have d1 : w2.cell? ⟨w.heap.size, 1, none⟩ = some (.int .u64 y) := (hb2.cell (p := ⟨w.heap.size, 1, none⟩) (by simp; omega)).trans (by simp [go_sem])
  have r0 : w2.cell? ⟨w.heap.size + 1, 0, none⟩ = some (.int .i64 0) := (hb2.cell (p := ⟨w.heap.size + 1, 0, none⟩) (by simp)).trans (by simp [go_sem])
  have s0 : w2.frozen? ⟨w.heap.size + 1, 0, none⟩ = false := (hb2.frozen (p := ⟨w.heap.size + 1, 0, none⟩) (by simp)).trans (by simp [go_sem])
  have r1 : w2.cell? ⟨w.heap.size + 1, 1, none⟩ = some (.int .i64 0) := (hb2.cell (p := ⟨w.heap.size + 1, 1, none⟩) (by simp)).trans (by simp [go_sem])
  have s1 : w2.frozen? ⟨w.heap.size + 1, 1, none⟩ = false := (hb2.frozen (p := ⟨w.heap.size + 1, 1, none⟩) (by simp)).trans (by simp [go_sem])
  have r2 : w2.cell? ⟨w.heap.size + 1, 2, none⟩ = some (.int .i64 0) := (hb2.cell (p := ⟨w.heap.size + 1, 2, none⟩) (by simp)).trans (by simp [go_sem])
  have s2 : w2.frozen? ⟨w.heap.size + 1, 2, none⟩ = false := (hb2.frozen (p := ⟨w.heap.size + 1, 2, none⟩) (by simp)).trans (by simp [go_sem])
  have r3 : w2.cell? ⟨w.heap.size + 1, 3, none⟩ = some (.int .u64 0) := (hb2.cell (p := ⟨w.heap.size + 1, 3, none⟩) (by simp)).trans (by simp [go_sem])
  have s3 : w2.frozen? ⟨w.heap.size + 1, 3, none⟩ = false := (hb2.frozen (p := ⟨w.heap.size + 1, 3, none⟩) (by simp)).trans (by simp [go_sem])
  have r4 : w2.cell? ⟨w.heap.size + 1, 4, none⟩ = some (.int .u64 0) := (hb2.cell (p := ⟨w.heap.size + 1, 4, none⟩) (by simp)).trans (by simp [go_sem])
  have s4 : w2.frozen? ⟨w.heap.size + 1, 4, none⟩ = false := (hb2.frozen (p := ⟨w.heap.size + 1, 4, none⟩) (by simp)).trans (by simp [go_sem])
  have r5 : w2.cell? ⟨w.heap.size + 1, 5, none⟩ = some (.int .i64 0) := (hb2.cell (p := ⟨w.heap.size + 1, 5, none⟩) (by simp)).trans (by simp [go_sem])
  have s5 : w2.frozen? ⟨w.heap.size + 1, 5, none⟩ = false := (hb2.frozen (p := ⟨w.heap.size + 1, 5, none⟩) (by simp)).trans (by simp [go_sem])
  have HB2 := Lib.hid hb2
  clear hb2
  go_wp2
  refine bodyPost_ret (cap_results rfl _ _ (w.heap.size + 1) rfl ?_ ?_ ?_ ?_ ?_ ?_) rfl ⟨rfl, ?_⟩
  · exact cell_new (by simp [go_sem, r0])
  · exact cell_new (by simp [go_sem, r1])
  · exact cell_new (by simp [go_sem, r2])
  · exact cell_new (by simp [go_sem, r3])
  · exact cell_new (by simp [go_sem, r4])
  · exact cell_new (by simp [go_sem, r5])
  · have h2 : Below w.heap.size w w2 := below_then (below_new (below_draws (below_new (below_new (Below.refl _ _) _) _) _) _) HB2.out
    apply below_new
    iterate 6 refine below_put ?_ _ _ (by simp)
    exact h2

set_option maxRecDepth 100000 in
set_option maxHeartbeats 3200000 in
theorem unpack_other_good (x y : Nat) (hx : Word x) (hy : Word y) (hk : (((fld x 0 4) : Int) == 2) = false) (hok : Cp.Ok ⟨((fld x 0 4) : Int), ((fld x 16 31) : Int), ((fld x 4 3) : Int), y, 0, ((fld x 7 7) : Int)⟩) (heq : pk (fld x 0 4) (fld x 4 3) (fld x 7 7) (fld x 16 31) 4 = x) (w : World) :
    Calls Try.prog 20 #[(.agg #[.int .u64 x, .int .u64 y])] w fun e w' => e = .returned (.tuple #[(.agg #[.int .i64 (fld x 0 4), .int .i64 (fld x 16 31), .int .i64 (fld x 4 3), .int .u64 y, .int .u64 0, .int .i64 (fld x 7 7)]), .int .i64 0]) ∧ Below w.heap.size w w' := by
  have HB := Lib.hid hok
  clear hok
  have HP := Lib.hid (pack_other (fld x 0 4) (fld x 4 3) (fld x 7 7) (fld x 16 31) y 0 (fld_lt x 0 4) (fld_lt x 4 3) (fld_lt x 7 7) (fld_lt x 16 31) ⟨by show (0 : Nat) < 2 ^ 64; decide⟩ HB.out hk)
  rw [heq] at HP
  have HQ := pairs_eq x y
  clear heq
  go_enter Try.func20, Try.ntmps20
  go_wp2_with fail
  refine (get_any x 0 4 w.heap.size hx (by decide) (by decide) _ (by simp [go_sem])).mono ?_
  rintro e w' ⟨rfl, k0, rfl⟩
  go_wp2_with fail
  refine (get_any x 4 3 w.heap.size hx (by decide) (by decide) _ (by simp [go_sem])).mono ?_
  rintro e w' ⟨rfl, k1, rfl⟩
  go_wp2_with fail
  refine (get_any x 7 7 w.heap.size hx (by decide) (by decide) _ (by simp [go_sem])).mono ?_
  rintro e w' ⟨rfl, k2, rfl⟩
  go_wp2_with fail
  refine (get_any x 16 31 w.heap.size hx (by decide) (by decide) _ (by simp [go_sem])).mono ?_
  rintro e w' ⟨rfl, k3, rfl⟩
  go_wp2_with fail
  refine (HP.out _).mono ?_
  rintro e w2 ⟨rfl, hb2⟩
  have hz2 : w.heap.size + 2 < w2.heap.size := by have := hb2.size; simp at this; omega
  have hz1 : w.heap.size + 1 < w2.heap.size := by omega
  have hz0 : w.heap.size < w2.heap.size := by omega
  have hn1 : ¬ w.heap.size + 1 = w2.heap.size := by omega
  have hn0 : ¬ w.heap.size = w2.heap.size := by omega
  have hn2 : ¬ w.heap.size + 2 = w2.heap.size := by omega
  have c0 : w2.cell? ⟨w.heap.size + 2, 0, none⟩ = some (.int .i64 (fld x 0 4)) := (hb2.cell (p := ⟨w.heap.size + 2, 0, none⟩) (by simp)).trans (by simp [go_sem])
  have c1 : w2.cell? ⟨w.heap.size + 2, 1, none⟩ = some (.int .i64 (fld x 16 31)) := (hb2.cell (p := ⟨w.heap.size + 2, 1, none⟩) (by simp)).trans (by simp [go_sem])
  have c2 : w2.cell? ⟨w.heap.size + 2, 2, none⟩ = some (.int .i64 (fld x 4 3)) := (hb2.cell (p := ⟨w.heap.size + 2, 2, none⟩) (by simp)).trans (by simp [go_sem])
  have c3 : w2.cell? ⟨w.heap.size + 2, 3, none⟩ = some (.int .u64 y) := (hb2.cell (p := ⟨w.heap.size + 2, 3, none⟩) (by simp)).trans (by simp [go_sem])
  have c4 : w2.cell? ⟨w.heap.size + 2, 4, none⟩ = some (.int .u64 0) := (hb2.cell (p := ⟨w.heap.size + 2, 4, none⟩) (by simp)).trans (by simp [go_sem])
  have c5 : w2.cell? ⟨w.heap.size + 2, 5, none⟩ = some (.int .i64 (fld x 7 7)) := (hb2.cell (p := ⟨w.heap.size + 2, 5, none⟩) (by simp)).trans (by simp [go_sem])
  have d0 : w2.cell? ⟨w.heap.size, 0, none⟩ = some (.int .u64 x) := (hb2.cell (p := ⟨w.heap.size, 0, none⟩) (by simp; omega)).trans (by simp [go_sem])
  have d1 : w2.cell? ⟨w.heap.size, 1, none⟩ = some (.int .u64 y) := (hb2.cell (p := ⟨w.heap.size, 1, none⟩) (by simp; omega)).trans (by simp [go_sem])
  have r0 : w2.cell? ⟨w.heap.size + 1, 0, none⟩ = some (.int .i64 0) := (hb2.cell (p := ⟨w.heap.size + 1, 0, none⟩) (by simp)).trans (by simp [go_sem])
  have s0 : w2.frozen? ⟨w.heap.size + 1, 0, none⟩ = false := (hb2.frozen (p := ⟨w.heap.size + 1, 0, none⟩) (by simp)).trans (by simp [go_sem])
  have r1 : w2.cell? ⟨w.heap.size + 1, 1, none⟩ = some (.int .i64 0) := (hb2.cell (p := ⟨w.heap.size + 1, 1, none⟩) (by simp)).trans (by simp [go_sem])
  have s1 : w2.frozen? ⟨w.heap.size + 1, 1, none⟩ = false := (hb2.frozen (p := ⟨w.heap.size + 1, 1, none⟩) (by simp)).trans (by simp [go_sem])
  have r2 : w2.cell? ⟨w.heap.size + 1, 2, none⟩ = some (.int .i64 0) := (hb2.cell (p := ⟨w.heap.size + 1, 2, none⟩) (by simp)).trans (by simp [go_sem])
  have s2 : w2.frozen? ⟨w.heap.size + 1, 2, none⟩ = false := (hb2.frozen (p := ⟨w.heap.size + 1, 2, none⟩) (by simp)).trans (by simp [go_sem])
  have r3 : w2.cell? ⟨w.heap.size + 1, 3, none⟩ = some (.int .u64 0) := (hb2.cell (p := ⟨w.heap.size + 1, 3, none⟩) (by simp)).trans (by simp [go_sem])
  have s3 : w2.frozen? ⟨w.heap.size + 1, 3, none⟩ = false := (hb2.frozen (p := ⟨w.heap.size + 1, 3, none⟩) (by simp)).trans (by simp [go_sem])
  have r4 : w2.cell? ⟨w.heap.size + 1, 4, none⟩ = some (.int .u64 0) := (hb2.cell (p := ⟨w.heap.size + 1, 4, none⟩) (by simp)).trans (by simp [go_sem])
  have s4 : w2.frozen? ⟨w.heap.size + 1, 4, none⟩ = false := (hb2.frozen (p := ⟨w.heap.size + 1, 4, none⟩) (by simp)).trans (by simp [go_sem])
  have r5 : w2.cell? ⟨w.heap.size + 1, 5, none⟩ = some (.int .i64 0) := (hb2.cell (p := ⟨w.heap.size + 1, 5, none⟩) (by simp)).trans (by simp [go_sem])
  have s5 : w2.frozen? ⟨w.heap.size + 1, 5, none⟩ = false := (hb2.frozen (p := ⟨w.heap.size + 1, 5, none⟩) (by simp)).trans (by simp [go_sem])
  have HB2 := Lib.hid hb2
  clear hb2
  go_wp2
  refine bodyPost_ret (cap_results rfl _ _ (w.heap.size + 1) rfl ?_ ?_ ?_ ?_ ?_ ?_) rfl ⟨rfl, ?_⟩
  · exact cell_new (by simp [go_sem, r0])
  · exact cell_new (by simp [go_sem, r1])
  · exact cell_new (by simp [go_sem, r2])
  · exact cell_new (by simp [go_sem, r3])
  · exact cell_new (by simp [go_sem, r4])
  · exact cell_new (by simp [go_sem, r5])
  · have h2 : Below w.heap.size w w2 := below_then (below_new (below_draws (below_new (below_new (Below.refl _ _) _) _) _) _) HB2.out
    apply below_new
    iterate 6 refine below_put ?_ _ _ (by simp)
    exact h2

end Go.Proofs.Ythgiofgedeijoaa
