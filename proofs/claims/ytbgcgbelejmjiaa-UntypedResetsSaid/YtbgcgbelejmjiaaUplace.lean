/- Place of the program, in each of its cases, over the translation. -/
import Derived.Test.YtbgcgbelejmjiaaUlist
set_option linter.unusedVariables false
set_option linter.unusedSimpArgs false
namespace Go.Proofs.Ytbgcgbelejmjiaa
open Go.RowKit Wd Ud

set_option maxRecDepth 100000 in
set_option maxHeartbeats 3200000 in
theorem place_chk (x : Ut) (hb : Word x.b) (hu : Word x.u) (k n : Int) (c : Int) (SZ : Hid (∀ w : World, Calls Try.prog 12 #[.int .i64 k, .int .i64 n] w fun e w' => e = .returned (.tuple #[.int .i64 (sizeU k n).1, .int .i64 (sizeU k n).2]) ∧ Below w.heap.size w w')) (hc : ((chkU x : Int) != 0) = true) (w : World) :
    Calls Try.prog 10 #[(.agg #[.int .u64 x.b, .int .i64 x.n, .int .u64 x.u]), .int .i64 k, .int .i64 n, .int .i64 c] w fun e w' => e = .returned (.tuple #[.slice Option.none 0 0, (.agg #[.int .u64 0, .int .i64 0, .int .u64 0]), .int .i64 (chkU x)]) ∧ Below w.heap.size w w' := by
  go_enter Try.func10, Try.ntmps10
  go_wp2_with fail
  refine (check_any x hb hu _).mono ?_
  rintro e w1 ⟨rfl, hb1⟩
  go_wp2_with fail
  refine (SZ.out _).mono ?_
  rintro e w2 ⟨rfl, hb2⟩
  have hw0 : Below w.heap.size w ((w.alloc (.cells #[.int .u64 x.b, .int .i64 x.n, .int .u64 x.u] 24)).alloc (.cells #[.int .u64 0, .int .i64 0, .int .u64 0] 24)) := below_new (below_new (Below.refl _ _) _) _
  have hb3 := below_into hw0 hb1 hb2
  clear hb1 hb2
  have hz1 : w.heap.size + 1 < w2.heap.size := by have := hb3.size; simp at this; omega
  have hz0 : w.heap.size < w2.heap.size := by omega
  have hn1 : ¬ w.heap.size + 1 = w2.heap.size := by omega
  have hn0 : ¬ w.heap.size = w2.heap.size := by omega
  have c0 : w2.cell? ⟨w.heap.size, 0, Option.none⟩ = some (.int .u64 x.b) := (hb3.cell (p := ⟨w.heap.size, 0, Option.none⟩) (by simp <;> omega)).trans (by simp [go_sem])
  have f0 : w2.frozen? ⟨w.heap.size, 0, Option.none⟩ = false := (hb3.frozen (p := ⟨w.heap.size, 0, Option.none⟩) (by simp <;> omega)).trans (by simp [go_sem])
  have c1 : w2.cell? ⟨w.heap.size, 1, Option.none⟩ = some (.int .i64 x.n) := (hb3.cell (p := ⟨w.heap.size, 1, Option.none⟩) (by simp <;> omega)).trans (by simp [go_sem])
  have f1 : w2.frozen? ⟨w.heap.size, 1, Option.none⟩ = false := (hb3.frozen (p := ⟨w.heap.size, 1, Option.none⟩) (by simp <;> omega)).trans (by simp [go_sem])
  have c2 : w2.cell? ⟨w.heap.size, 2, Option.none⟩ = some (.int .u64 x.u) := (hb3.cell (p := ⟨w.heap.size, 2, Option.none⟩) (by simp <;> omega)).trans (by simp [go_sem])
  have f2 : w2.frozen? ⟨w.heap.size, 2, Option.none⟩ = false := (hb3.frozen (p := ⟨w.heap.size, 2, Option.none⟩) (by simp <;> omega)).trans (by simp [go_sem])
  have r0 : w2.cell? ⟨w.heap.size + 1, 0, Option.none⟩ = some (.int .u64 0) := (hb3.cell (p := ⟨w.heap.size + 1, 0, Option.none⟩) (by simp <;> omega)).trans (by simp [go_sem])
  have s0 : w2.frozen? ⟨w.heap.size + 1, 0, Option.none⟩ = false := (hb3.frozen (p := ⟨w.heap.size + 1, 0, Option.none⟩) (by simp <;> omega)).trans (by simp [go_sem])
  have r1 : w2.cell? ⟨w.heap.size + 1, 1, Option.none⟩ = some (.int .i64 0) := (hb3.cell (p := ⟨w.heap.size + 1, 1, Option.none⟩) (by simp <;> omega)).trans (by simp [go_sem])
  have s1 : w2.frozen? ⟨w.heap.size + 1, 1, Option.none⟩ = false := (hb3.frozen (p := ⟨w.heap.size + 1, 1, Option.none⟩) (by simp <;> omega)).trans (by simp [go_sem])
  have r2 : w2.cell? ⟨w.heap.size + 1, 2, Option.none⟩ = some (.int .u64 0) := (hb3.cell (p := ⟨w.heap.size + 1, 2, Option.none⟩) (by simp <;> omega)).trans (by simp [go_sem])
  have s2 : w2.frozen? ⟨w.heap.size + 1, 2, Option.none⟩ = false := (hb3.frozen (p := ⟨w.heap.size + 1, 2, Option.none⟩) (by simp <;> omega)).trans (by simp [go_sem])
  have HB : Hid (Below w.heap.size w w2) := Lib.hid (below_from hw0 hb3)
  have HB3 := Lib.hid hb3
  clear hb3 hw0
  go_wp2
  refine bodyPost_ret (place_results rfl _ _ (w.heap.size + 1) rfl ?_ ?_ ?_) rfl ⟨rfl, ?_⟩
  · simp [go_sem, r0]
  · simp [go_sem, r1]
  · simp [go_sem, r2]
  · repeat (first | exact HB.out | refine below_draws ?_ _ | apply Below.drew | refine below_put ?_ _ _ (by simp))


set_option maxRecDepth 100000 in
set_option maxHeartbeats 3200000 in
theorem place_bad (x : Ut) (hb : Word x.b) (hu : Word x.u) (k n : Int) (c q z : Int) (SZ : Hid (∀ w : World, Calls Try.prog 12 #[.int .i64 k, .int .i64 n] w fun e w' => e = .returned (.tuple #[.int .i64 z, .int .i64 q]) ∧ Below w.heap.size w w')) (hc : ((chkU x : Int) != 0) = false) (hq : (q != 0) = true) (w : World) :
    Calls Try.prog 10 #[(.agg #[.int .u64 x.b, .int .i64 x.n, .int .u64 x.u]), .int .i64 k, .int .i64 n, .int .i64 c] w fun e w' => e = .returned (.tuple #[.slice Option.none 0 0, (.agg #[.int .u64 0, .int .i64 0, .int .u64 0]), .int .i64 q]) ∧ Below w.heap.size w w' := by
  go_enter Try.func10, Try.ntmps10
  go_wp2_with fail
  refine (check_any x hb hu _).mono ?_
  rintro e w1 ⟨rfl, hb1⟩
  go_wp2_with fail
  refine (SZ.out _).mono ?_
  rintro e w2 ⟨rfl, hb2⟩
  have hw0 : Below w.heap.size w ((w.alloc (.cells #[.int .u64 x.b, .int .i64 x.n, .int .u64 x.u] 24)).alloc (.cells #[.int .u64 0, .int .i64 0, .int .u64 0] 24)) := below_new (below_new (Below.refl _ _) _) _
  have hb3 := below_into hw0 hb1 hb2
  clear hb1 hb2
  have hz1 : w.heap.size + 1 < w2.heap.size := by have := hb3.size; simp at this; omega
  have hz0 : w.heap.size < w2.heap.size := by omega
  have hn1 : ¬ w.heap.size + 1 = w2.heap.size := by omega
  have hn0 : ¬ w.heap.size = w2.heap.size := by omega
  have c0 : w2.cell? ⟨w.heap.size, 0, Option.none⟩ = some (.int .u64 x.b) := (hb3.cell (p := ⟨w.heap.size, 0, Option.none⟩) (by simp <;> omega)).trans (by simp [go_sem])
  have f0 : w2.frozen? ⟨w.heap.size, 0, Option.none⟩ = false := (hb3.frozen (p := ⟨w.heap.size, 0, Option.none⟩) (by simp <;> omega)).trans (by simp [go_sem])
  have c1 : w2.cell? ⟨w.heap.size, 1, Option.none⟩ = some (.int .i64 x.n) := (hb3.cell (p := ⟨w.heap.size, 1, Option.none⟩) (by simp <;> omega)).trans (by simp [go_sem])
  have f1 : w2.frozen? ⟨w.heap.size, 1, Option.none⟩ = false := (hb3.frozen (p := ⟨w.heap.size, 1, Option.none⟩) (by simp <;> omega)).trans (by simp [go_sem])
  have c2 : w2.cell? ⟨w.heap.size, 2, Option.none⟩ = some (.int .u64 x.u) := (hb3.cell (p := ⟨w.heap.size, 2, Option.none⟩) (by simp <;> omega)).trans (by simp [go_sem])
  have f2 : w2.frozen? ⟨w.heap.size, 2, Option.none⟩ = false := (hb3.frozen (p := ⟨w.heap.size, 2, Option.none⟩) (by simp <;> omega)).trans (by simp [go_sem])
  have r0 : w2.cell? ⟨w.heap.size + 1, 0, Option.none⟩ = some (.int .u64 0) := (hb3.cell (p := ⟨w.heap.size + 1, 0, Option.none⟩) (by simp <;> omega)).trans (by simp [go_sem])
  have s0 : w2.frozen? ⟨w.heap.size + 1, 0, Option.none⟩ = false := (hb3.frozen (p := ⟨w.heap.size + 1, 0, Option.none⟩) (by simp <;> omega)).trans (by simp [go_sem])
  have r1 : w2.cell? ⟨w.heap.size + 1, 1, Option.none⟩ = some (.int .i64 0) := (hb3.cell (p := ⟨w.heap.size + 1, 1, Option.none⟩) (by simp <;> omega)).trans (by simp [go_sem])
  have s1 : w2.frozen? ⟨w.heap.size + 1, 1, Option.none⟩ = false := (hb3.frozen (p := ⟨w.heap.size + 1, 1, Option.none⟩) (by simp <;> omega)).trans (by simp [go_sem])
  have r2 : w2.cell? ⟨w.heap.size + 1, 2, Option.none⟩ = some (.int .u64 0) := (hb3.cell (p := ⟨w.heap.size + 1, 2, Option.none⟩) (by simp <;> omega)).trans (by simp [go_sem])
  have s2 : w2.frozen? ⟨w.heap.size + 1, 2, Option.none⟩ = false := (hb3.frozen (p := ⟨w.heap.size + 1, 2, Option.none⟩) (by simp <;> omega)).trans (by simp [go_sem])
  have HB : Hid (Below w.heap.size w w2) := Lib.hid (below_from hw0 hb3)
  have HB3 := Lib.hid hb3
  clear hb3 hw0
  go_wp2
  refine bodyPost_ret (place_results rfl _ _ (w.heap.size + 1) rfl ?_ ?_ ?_) rfl ⟨rfl, ?_⟩
  · simp [go_sem, r0]
  · simp [go_sem, r1]
  · simp [go_sem, r2]
  · repeat (first | exact HB.out | refine below_draws ?_ _ | apply Below.drew | refine below_put ?_ _ _ (by simp))


set_option maxRecDepth 100000 in
set_option maxHeartbeats 3200000 in
theorem place_lo (x : Ut) (hb : Word x.b) (hu : Word x.u) (k n : Int) (c z : Int) (SZ : Hid (∀ w : World, Calls Try.prog 12 #[.int .i64 k, .int .i64 n] w fun e w' => e = .returned (.tuple #[.int .i64 z, .int .i64 0]) ∧ Below w.heap.size w w')) (hc : ((chkU x : Int) != 0) = false) (hq : c < 1) (w : World) :
    Calls Try.prog 10 #[(.agg #[.int .u64 x.b, .int .i64 x.n, .int .u64 x.u]), .int .i64 k, .int .i64 n, .int .i64 c] w fun e w' => e = .returned (.tuple #[.slice Option.none 0 0, (.agg #[.int .u64 0, .int .i64 0, .int .u64 0]), .int .i64 1]) ∧ Below w.heap.size w w' := by
  go_enter Try.func10, Try.ntmps10
  go_wp2_with fail
  refine (check_any x hb hu _).mono ?_
  rintro e w1 ⟨rfl, hb1⟩
  go_wp2_with fail
  refine (SZ.out _).mono ?_
  rintro e w2 ⟨rfl, hb2⟩
  have hw0 : Below w.heap.size w ((w.alloc (.cells #[.int .u64 x.b, .int .i64 x.n, .int .u64 x.u] 24)).alloc (.cells #[.int .u64 0, .int .i64 0, .int .u64 0] 24)) := below_new (below_new (Below.refl _ _) _) _
  have hb3 := below_into hw0 hb1 hb2
  clear hb1 hb2
  have hz1 : w.heap.size + 1 < w2.heap.size := by have := hb3.size; simp at this; omega
  have hz0 : w.heap.size < w2.heap.size := by omega
  have hn1 : ¬ w.heap.size + 1 = w2.heap.size := by omega
  have hn0 : ¬ w.heap.size = w2.heap.size := by omega
  have c0 : w2.cell? ⟨w.heap.size, 0, Option.none⟩ = some (.int .u64 x.b) := (hb3.cell (p := ⟨w.heap.size, 0, Option.none⟩) (by simp <;> omega)).trans (by simp [go_sem])
  have f0 : w2.frozen? ⟨w.heap.size, 0, Option.none⟩ = false := (hb3.frozen (p := ⟨w.heap.size, 0, Option.none⟩) (by simp <;> omega)).trans (by simp [go_sem])
  have c1 : w2.cell? ⟨w.heap.size, 1, Option.none⟩ = some (.int .i64 x.n) := (hb3.cell (p := ⟨w.heap.size, 1, Option.none⟩) (by simp <;> omega)).trans (by simp [go_sem])
  have f1 : w2.frozen? ⟨w.heap.size, 1, Option.none⟩ = false := (hb3.frozen (p := ⟨w.heap.size, 1, Option.none⟩) (by simp <;> omega)).trans (by simp [go_sem])
  have c2 : w2.cell? ⟨w.heap.size, 2, Option.none⟩ = some (.int .u64 x.u) := (hb3.cell (p := ⟨w.heap.size, 2, Option.none⟩) (by simp <;> omega)).trans (by simp [go_sem])
  have f2 : w2.frozen? ⟨w.heap.size, 2, Option.none⟩ = false := (hb3.frozen (p := ⟨w.heap.size, 2, Option.none⟩) (by simp <;> omega)).trans (by simp [go_sem])
  have r0 : w2.cell? ⟨w.heap.size + 1, 0, Option.none⟩ = some (.int .u64 0) := (hb3.cell (p := ⟨w.heap.size + 1, 0, Option.none⟩) (by simp <;> omega)).trans (by simp [go_sem])
  have s0 : w2.frozen? ⟨w.heap.size + 1, 0, Option.none⟩ = false := (hb3.frozen (p := ⟨w.heap.size + 1, 0, Option.none⟩) (by simp <;> omega)).trans (by simp [go_sem])
  have r1 : w2.cell? ⟨w.heap.size + 1, 1, Option.none⟩ = some (.int .i64 0) := (hb3.cell (p := ⟨w.heap.size + 1, 1, Option.none⟩) (by simp <;> omega)).trans (by simp [go_sem])
  have s1 : w2.frozen? ⟨w.heap.size + 1, 1, Option.none⟩ = false := (hb3.frozen (p := ⟨w.heap.size + 1, 1, Option.none⟩) (by simp <;> omega)).trans (by simp [go_sem])
  have r2 : w2.cell? ⟨w.heap.size + 1, 2, Option.none⟩ = some (.int .u64 0) := (hb3.cell (p := ⟨w.heap.size + 1, 2, Option.none⟩) (by simp <;> omega)).trans (by simp [go_sem])
  have s2 : w2.frozen? ⟨w.heap.size + 1, 2, Option.none⟩ = false := (hb3.frozen (p := ⟨w.heap.size + 1, 2, Option.none⟩) (by simp <;> omega)).trans (by simp [go_sem])
  have HB : Hid (Below w.heap.size w w2) := Lib.hid (below_from hw0 hb3)
  have HB3 := Lib.hid hb3
  clear hb3 hw0
  go_wp2
  refine bodyPost_ret (place_results rfl _ _ (w.heap.size + 1) rfl ?_ ?_ ?_) rfl ⟨rfl, ?_⟩
  · simp [go_sem, r0]
  · simp [go_sem, r1]
  · simp [go_sem, r2]
  · repeat (first | exact HB.out | refine below_draws ?_ _ | apply Below.drew | refine below_put ?_ _ _ (by simp))


set_option maxRecDepth 100000 in
set_option maxHeartbeats 3200000 in
theorem place_hi (x : Ut) (hb : Word x.b) (hu : Word x.u) (k n : Int) (c z : Int) (SZ : Hid (∀ w : World, Calls Try.prog 12 #[.int .i64 k, .int .i64 n] w fun e w' => e = .returned (.tuple #[.int .i64 z, .int .i64 0]) ∧ Below w.heap.size w w')) (hc : ((chkU x : Int) != 0) = false) (hq : 64 < c) (w : World) :
    Calls Try.prog 10 #[(.agg #[.int .u64 x.b, .int .i64 x.n, .int .u64 x.u]), .int .i64 k, .int .i64 n, .int .i64 c] w fun e w' => e = .returned (.tuple #[.slice Option.none 0 0, (.agg #[.int .u64 0, .int .i64 0, .int .u64 0]), .int .i64 1]) ∧ Below w.heap.size w w' := by
  go_enter Try.func10, Try.ntmps10
  go_wp2_with fail
  refine (check_any x hb hu _).mono ?_
  rintro e w1 ⟨rfl, hb1⟩
  go_wp2_with fail
  refine (SZ.out _).mono ?_
  rintro e w2 ⟨rfl, hb2⟩
  have hw0 : Below w.heap.size w ((w.alloc (.cells #[.int .u64 x.b, .int .i64 x.n, .int .u64 x.u] 24)).alloc (.cells #[.int .u64 0, .int .i64 0, .int .u64 0] 24)) := below_new (below_new (Below.refl _ _) _) _
  have hb3 := below_into hw0 hb1 hb2
  clear hb1 hb2
  have hz1 : w.heap.size + 1 < w2.heap.size := by have := hb3.size; simp at this; omega
  have hz0 : w.heap.size < w2.heap.size := by omega
  have hn1 : ¬ w.heap.size + 1 = w2.heap.size := by omega
  have hn0 : ¬ w.heap.size = w2.heap.size := by omega
  have c0 : w2.cell? ⟨w.heap.size, 0, Option.none⟩ = some (.int .u64 x.b) := (hb3.cell (p := ⟨w.heap.size, 0, Option.none⟩) (by simp <;> omega)).trans (by simp [go_sem])
  have f0 : w2.frozen? ⟨w.heap.size, 0, Option.none⟩ = false := (hb3.frozen (p := ⟨w.heap.size, 0, Option.none⟩) (by simp <;> omega)).trans (by simp [go_sem])
  have c1 : w2.cell? ⟨w.heap.size, 1, Option.none⟩ = some (.int .i64 x.n) := (hb3.cell (p := ⟨w.heap.size, 1, Option.none⟩) (by simp <;> omega)).trans (by simp [go_sem])
  have f1 : w2.frozen? ⟨w.heap.size, 1, Option.none⟩ = false := (hb3.frozen (p := ⟨w.heap.size, 1, Option.none⟩) (by simp <;> omega)).trans (by simp [go_sem])
  have c2 : w2.cell? ⟨w.heap.size, 2, Option.none⟩ = some (.int .u64 x.u) := (hb3.cell (p := ⟨w.heap.size, 2, Option.none⟩) (by simp <;> omega)).trans (by simp [go_sem])
  have f2 : w2.frozen? ⟨w.heap.size, 2, Option.none⟩ = false := (hb3.frozen (p := ⟨w.heap.size, 2, Option.none⟩) (by simp <;> omega)).trans (by simp [go_sem])
  have r0 : w2.cell? ⟨w.heap.size + 1, 0, Option.none⟩ = some (.int .u64 0) := (hb3.cell (p := ⟨w.heap.size + 1, 0, Option.none⟩) (by simp <;> omega)).trans (by simp [go_sem])
  have s0 : w2.frozen? ⟨w.heap.size + 1, 0, Option.none⟩ = false := (hb3.frozen (p := ⟨w.heap.size + 1, 0, Option.none⟩) (by simp <;> omega)).trans (by simp [go_sem])
  have r1 : w2.cell? ⟨w.heap.size + 1, 1, Option.none⟩ = some (.int .i64 0) := (hb3.cell (p := ⟨w.heap.size + 1, 1, Option.none⟩) (by simp <;> omega)).trans (by simp [go_sem])
  have s1 : w2.frozen? ⟨w.heap.size + 1, 1, Option.none⟩ = false := (hb3.frozen (p := ⟨w.heap.size + 1, 1, Option.none⟩) (by simp <;> omega)).trans (by simp [go_sem])
  have r2 : w2.cell? ⟨w.heap.size + 1, 2, Option.none⟩ = some (.int .u64 0) := (hb3.cell (p := ⟨w.heap.size + 1, 2, Option.none⟩) (by simp <;> omega)).trans (by simp [go_sem])
  have s2 : w2.frozen? ⟨w.heap.size + 1, 2, Option.none⟩ = false := (hb3.frozen (p := ⟨w.heap.size + 1, 2, Option.none⟩) (by simp <;> omega)).trans (by simp [go_sem])
  have HB : Hid (Below w.heap.size w w2) := Lib.hid (below_from hw0 hb3)
  have HB3 := Lib.hid hb3
  clear hb3 hw0
  go_wp2
  refine bodyPost_ret (place_results rfl _ _ (w.heap.size + 1) rfl ?_ ?_ ?_) rfl ⟨rfl, ?_⟩
  · simp [go_sem, r0]
  · simp [go_sem, r1]
  · simp [go_sem, r2]
  · repeat (first | exact HB.out | refine below_draws ?_ _ | apply Below.drew | refine below_put ?_ _ _ (by simp))


set_option maxRecDepth 100000 in
set_option maxHeartbeats 3200000 in
theorem place_full (b m u s p i t : Nat) (k n : Int) (CHC : Hid (∀ w : World, Calls Try.prog 16 #[.agg #[.int .u64 b, .int .i64 (m : Int), .int .u64 u]] w fun e w' => e = .returned (.int .i64 0) ∧ Below w.heap.size w w')) (SZ : Hid (∀ w : World, Calls Try.prog 12 #[.int .i64 k, .int .i64 n] w fun e w' => e = .returned (.tuple #[.int .i64 (s : Int), .int .i64 0]) ∧ Below w.heap.size w w')) (UPC : Hid (∀ w : World, Calls Try.prog 20 #[.int .u64 ((b : Int) + (u : Int)), .int .i64 (s : Int)] w fun e w' => e = .returned (.tuple #[.int .u64 (p : Int), .int .i64 0]) ∧ w' = w)) (hm : m ≤ 20) (hs : s ≤ 20) (h1 : 1 ≤ i) (h64 : i ≤ 64) (hB : b ≤ 1099511627776) (hU : u ≤ 1048576) (hp : p ≤ 1099513724928) (ht : Hid (t = i * pw s)) (ht6 : t ≤ 67108864) (hf : b + pw m < p + t) (w : World) :
    Calls Try.prog 10 #[.agg #[.int .u64 b, .int .i64 (m : Int), .int .u64 u], .int .i64 k, .int .i64 n, .int .i64 (i : Int)] w fun e w' => e = .returned (.tuple #[.slice Option.none 0 0, (.agg #[.int .u64 0, .int .i64 0, .int .u64 0]), .int .i64 81]) ∧ Below w.heap.size w w' := by
  go_enter Try.func10, Try.ntmps10
  have e1 := wrap_2 m (by omega)
  have e2 := wrap_2 s (by omega)
  have e3 : pw m ≤ 1048576 := Nat.pow_le_pow_right (by decide) hm
  have e4 : pw s ≤ 1048576 := Nat.pow_le_pow_right (by decide) hs
  have e6 : IntKind.u64.wrap ((i : Int) * 2 ^ s) = (t : Int) := by
    have e5 : t = i * 2 ^ s := ht.out
    have := shl_spelt i s (by rw [← e5]; omega)
    rw [← e5] at this
    exact this
  go_wp2_with fail
  refine (CHC.out _).mono ?_
  rintro e w1 ⟨rfl, hb1⟩
  go_wp2_with fail
  refine (SZ.out _).mono ?_
  rintro e w2 ⟨rfl, hb2⟩
  have hw0 : Below w.heap.size w ((w.alloc (.cells #[.int .u64 b, .int .i64 (m : Int), .int .u64 u] 24)).alloc (.cells #[.int .u64 0, .int .i64 0, .int .u64 0] 24)) := below_new (below_new (Below.refl _ _) _) _
  have hb3 := below_into hw0 hb1 hb2
  clear hb1 hb2
  have hz1 : w.heap.size + 1 < w2.heap.size := by have := hb3.size; simp at this; omega
  have hz0 : w.heap.size < w2.heap.size := by omega
  have hn1 : ¬ w.heap.size + 1 = w2.heap.size := by omega
  have hn0 : ¬ w.heap.size = w2.heap.size := by omega
  have c0 : w2.cell? ⟨w.heap.size, 0, Option.none⟩ = some (.int .u64 b) := (hb3.cell (p := ⟨w.heap.size, 0, Option.none⟩) (by simp <;> omega)).trans (by simp [go_sem])
  have f0 : w2.frozen? ⟨w.heap.size, 0, Option.none⟩ = false := (hb3.frozen (p := ⟨w.heap.size, 0, Option.none⟩) (by simp <;> omega)).trans (by simp [go_sem])
  have c1 : w2.cell? ⟨w.heap.size, 1, Option.none⟩ = some (.int .i64 (m : Int)) := (hb3.cell (p := ⟨w.heap.size, 1, Option.none⟩) (by simp <;> omega)).trans (by simp [go_sem])
  have f1 : w2.frozen? ⟨w.heap.size, 1, Option.none⟩ = false := (hb3.frozen (p := ⟨w.heap.size, 1, Option.none⟩) (by simp <;> omega)).trans (by simp [go_sem])
  have c2 : w2.cell? ⟨w.heap.size, 2, Option.none⟩ = some (.int .u64 u) := (hb3.cell (p := ⟨w.heap.size, 2, Option.none⟩) (by simp <;> omega)).trans (by simp [go_sem])
  have f2 : w2.frozen? ⟨w.heap.size, 2, Option.none⟩ = false := (hb3.frozen (p := ⟨w.heap.size, 2, Option.none⟩) (by simp <;> omega)).trans (by simp [go_sem])
  have r0 : w2.cell? ⟨w.heap.size + 1, 0, Option.none⟩ = some (.int .u64 0) := (hb3.cell (p := ⟨w.heap.size + 1, 0, Option.none⟩) (by simp <;> omega)).trans (by simp [go_sem])
  have s0 : w2.frozen? ⟨w.heap.size + 1, 0, Option.none⟩ = false := (hb3.frozen (p := ⟨w.heap.size + 1, 0, Option.none⟩) (by simp <;> omega)).trans (by simp [go_sem])
  have r1 : w2.cell? ⟨w.heap.size + 1, 1, Option.none⟩ = some (.int .i64 0) := (hb3.cell (p := ⟨w.heap.size + 1, 1, Option.none⟩) (by simp <;> omega)).trans (by simp [go_sem])
  have s1 : w2.frozen? ⟨w.heap.size + 1, 1, Option.none⟩ = false := (hb3.frozen (p := ⟨w.heap.size + 1, 1, Option.none⟩) (by simp <;> omega)).trans (by simp [go_sem])
  have r2 : w2.cell? ⟨w.heap.size + 1, 2, Option.none⟩ = some (.int .u64 0) := (hb3.cell (p := ⟨w.heap.size + 1, 2, Option.none⟩) (by simp <;> omega)).trans (by simp [go_sem])
  have s2 : w2.frozen? ⟨w.heap.size + 1, 2, Option.none⟩ = false := (hb3.frozen (p := ⟨w.heap.size + 1, 2, Option.none⟩) (by simp <;> omega)).trans (by simp [go_sem])
  have HB : Hid (Below w.heap.size w w2) := Lib.hid (below_from hw0 hb3)
  have HB3 := Lib.hid hb3
  clear hb3 hw0
  go_wp2_with fail
  refine (UPC.out _).mono ?_
  rintro e w2 ⟨rfl, rfl⟩
  go_wp2_with fail
  go_quiet (fail)
  go_wp2_with fail
  refine bodyPost_ret (place_results rfl _ _ (w.heap.size + 1) rfl ?_ ?_ ?_) rfl ⟨rfl, ?_⟩
  · simp [go_sem, r0]
  · simp [go_sem, r1]
  · simp [go_sem, r2]
  · repeat (first | exact HB.out | refine below_draws ?_ _ | apply Below.drew | refine below_put ?_ _ _ (by simp))


set_option maxRecDepth 100000 in
set_option maxHeartbeats 3200000 in
theorem place_fit (b m u s p i t : Nat) (k n : Int) (CHC : Hid (∀ w : World, Calls Try.prog 16 #[.agg #[.int .u64 b, .int .i64 (m : Int), .int .u64 u]] w fun e w' => e = .returned (.int .i64 0) ∧ Below w.heap.size w w')) (SZ : Hid (∀ w : World, Calls Try.prog 12 #[.int .i64 k, .int .i64 n] w fun e w' => e = .returned (.tuple #[.int .i64 (s : Int), .int .i64 0]) ∧ Below w.heap.size w w')) (UPC : Hid (∀ w : World, Calls Try.prog 20 #[.int .u64 ((b : Int) + (u : Int)), .int .i64 (s : Int)] w fun e w' => e = .returned (.tuple #[.int .u64 (p : Int), .int .i64 0]) ∧ w' = w)) (hm : m ≤ 20) (hs : s ≤ 20) (h1 : 1 ≤ i) (h64 : i ≤ 64) (hB : b ≤ 1099511627776) (hU : u ≤ 1048576) (hp : p ≤ 1099513724928) (ht : Hid (t = i * pw s)) (ht6 : t ≤ 67108864) (hf : p + t ≤ b + pw m) (hbp : b ≤ p) (w : World) :
    Calls Try.prog 10 #[.agg #[.int .u64 b, .int .i64 (m : Int), .int .u64 u], .int .i64 k, .int .i64 n, .int .i64 (i : Int)] w fun e w' => ∃ v, e = .returned (.tuple #[v, (.agg #[.int .u64 b, .int .i64 (m : Int), .int .u64 (((p + t - b : Nat)) : Int)]), .int .i64 0]) ∧ w'.ownsRow w.heap.size 22 1 v i (us (lst p s i)) ∧ Below w.heap.size w w' := by
  go_enter Try.func10, Try.ntmps10
  have e1 := wrap_2 m (by omega)
  have e2 := wrap_2 s (by omega)
  have e3 : pw m ≤ 1048576 := Nat.pow_le_pow_right (by decide) hm
  have e4 : pw s ≤ 1048576 := Nat.pow_le_pow_right (by decide) hs
  have e6 : IntKind.u64.wrap ((i : Int) * 2 ^ s) = (t : Int) := by
    have e5 : t = i * 2 ^ s := ht.out
    have := shl_spelt i s (by rw [← e5]; omega)
    rw [← e5] at this
    exact this
  obtain ⟨i0, hi, hz0', hz1', hz2'⟩ := info_parts info_u64
  go_wp2_with fail
  refine (CHC.out _).mono ?_
  rintro e w1 ⟨rfl, hb1⟩
  go_wp2_with fail
  refine (SZ.out _).mono ?_
  rintro e w2 ⟨rfl, hb2⟩
  have hw0 : Below w.heap.size w ((w.alloc (.cells #[.int .u64 b, .int .i64 (m : Int), .int .u64 u] 24)).alloc (.cells #[.int .u64 0, .int .i64 0, .int .u64 0] 24)) := below_new (below_new (Below.refl _ _) _) _
  have hb3 := below_into hw0 hb1 hb2
  clear hb1 hb2
  have hz1 : w.heap.size + 1 < w2.heap.size := by have := hb3.size; simp at this; omega
  have hz0 : w.heap.size < w2.heap.size := by omega
  have hn1 : ¬ w.heap.size + 1 = w2.heap.size := by omega
  have hn0 : ¬ w.heap.size = w2.heap.size := by omega
  have c0 : w2.cell? ⟨w.heap.size, 0, Option.none⟩ = some (.int .u64 b) := (hb3.cell (p := ⟨w.heap.size, 0, Option.none⟩) (by simp <;> omega)).trans (by simp [go_sem])
  have f0 : w2.frozen? ⟨w.heap.size, 0, Option.none⟩ = false := (hb3.frozen (p := ⟨w.heap.size, 0, Option.none⟩) (by simp <;> omega)).trans (by simp [go_sem])
  have c1 : w2.cell? ⟨w.heap.size, 1, Option.none⟩ = some (.int .i64 (m : Int)) := (hb3.cell (p := ⟨w.heap.size, 1, Option.none⟩) (by simp <;> omega)).trans (by simp [go_sem])
  have f1 : w2.frozen? ⟨w.heap.size, 1, Option.none⟩ = false := (hb3.frozen (p := ⟨w.heap.size, 1, Option.none⟩) (by simp <;> omega)).trans (by simp [go_sem])
  have c2 : w2.cell? ⟨w.heap.size, 2, Option.none⟩ = some (.int .u64 u) := (hb3.cell (p := ⟨w.heap.size, 2, Option.none⟩) (by simp <;> omega)).trans (by simp [go_sem])
  have f2 : w2.frozen? ⟨w.heap.size, 2, Option.none⟩ = false := (hb3.frozen (p := ⟨w.heap.size, 2, Option.none⟩) (by simp <;> omega)).trans (by simp [go_sem])
  have r0 : w2.cell? ⟨w.heap.size + 1, 0, Option.none⟩ = some (.int .u64 0) := (hb3.cell (p := ⟨w.heap.size + 1, 0, Option.none⟩) (by simp <;> omega)).trans (by simp [go_sem])
  have s0 : w2.frozen? ⟨w.heap.size + 1, 0, Option.none⟩ = false := (hb3.frozen (p := ⟨w.heap.size + 1, 0, Option.none⟩) (by simp <;> omega)).trans (by simp [go_sem])
  have r1 : w2.cell? ⟨w.heap.size + 1, 1, Option.none⟩ = some (.int .i64 0) := (hb3.cell (p := ⟨w.heap.size + 1, 1, Option.none⟩) (by simp <;> omega)).trans (by simp [go_sem])
  have s1 : w2.frozen? ⟨w.heap.size + 1, 1, Option.none⟩ = false := (hb3.frozen (p := ⟨w.heap.size + 1, 1, Option.none⟩) (by simp <;> omega)).trans (by simp [go_sem])
  have r2 : w2.cell? ⟨w.heap.size + 1, 2, Option.none⟩ = some (.int .u64 0) := (hb3.cell (p := ⟨w.heap.size + 1, 2, Option.none⟩) (by simp <;> omega)).trans (by simp [go_sem])
  have s2 : w2.frozen? ⟨w.heap.size + 1, 2, Option.none⟩ = false := (hb3.frozen (p := ⟨w.heap.size + 1, 2, Option.none⟩) (by simp <;> omega)).trans (by simp [go_sem])
  have HB : Hid (Below w.heap.size w w2) := Lib.hid (below_from hw0 hb3)
  have HB3 := Lib.hid hb3
  clear hb3 hw0
  go_wp2_with fail
  refine (UPC.out _).mono ?_
  rintro e w2 ⟨rfl, rfl⟩
  go_wp2_with fail
  go_quiet (fail)
  go_wp2_with fail
  go_loopw [17, 14, 70] (fun v q' t' wr => ∃ kk q : Nat, kk ≤ i ∧ Hid (q = p + kk * pw s) ∧ q ≤ 1099513724928 + 67108864 ∧ p ≤ q ∧ t' = .int .i64 kk ∧ q' = .int .u64 q ∧ wr.ownsRow (w.heap.size + 2) 22 1 v kk (us (lst p s kk)) ∧ Below (w.heap.size + 2) w2 wr)
    (fun _ _ t' _ => i - (intOf t').toNat)
  case atStart => exact ⟨0, p, Nat.zero_le _, Lib.hid (by simp), by omega, Nat.le_refl _, rfl, rfl, World.ownsRow_nil _ _ _ _, below_drawsB (Below.refl _ _) _⟩
  case round =>
    obtain ⟨kk, q, hk, hq, hq4, hqp, rfl, rfl, hown, hnx⟩ := hrel
    have hzr := hnx.size
    by_cases hlt : kk < i
    · have hlt' : (kk : Int) < (i : Int) := by omega
      have hqb : q + pw s ≤ 1099513724928 + 67108864 := by
        have h9 : (kk + 1) * pw s ≤ i * pw s := Nat.mul_le_mul_right _ hlt
        have h8 := q_next hq.out
        have h7 : t = i * pw s := ht.out
        omega
      go_wp2_with (first | (at_builtin; refine wpList_append_own _ rfl (.tmp 72) (.tmp 74) 27 rfl (w.heap.size + 2) 22 i0 (.int .u64 0) 1 8 ul_slice hi hz0' hz1' hz2' rfl (by decide) _ _ _ rfl (hown.alloc _) ⟨wr.heap.size, 0, Option.none⟩ 1 1 [.int .u64 (q : Int)] rfl rfl ?c1 ?c2 ?c3 ?c4 ?c5 ?_) | fail)
      case c1 =>
        intro j u hj
        match j, hj with
        | 0, hj => simp at hj; subst hj; simp [Addr.add]
      case c2 => intro u hu; simp at hu; subst hu; rfl
      case c3 => unfold maxLen; omega
      case c4 => omega
      case c5 => simp; omega
      · intro v' w1 hown' hgrow _
        have R := rel_app (by omega) hown hnx hq.out hown' hgrow
        clear hown' hgrow hown
        go_wp2
        go_roundw
        case rel => exact ⟨kk + 1, q + pw s, by omega, Lib.hid (q_next hq.out), hqb, by omega, by go_num, by go_num, R.1, R.2⟩
        case measure => simp [intOf]; omega
    · have hke : kk = i := by omega
      subst hke
      have hnlt : ¬ (kk : Int) < (kk : Int) := by omega
      have HQ : Hid (q = p + t) := Lib.hid (by have h8 := hq.out; have h7 : t = kk * pw s := ht.out; omega)
      have hbq : b ≤ q := by omega
      have c0' : wr.cell? ⟨w.heap.size, 0, Option.none⟩ = some (.int .u64 b) := (hnx.cell (p := ⟨w.heap.size, 0, Option.none⟩) (by simp)).trans c0
      have f0' : wr.frozen? ⟨w.heap.size, 0, Option.none⟩ = false := (hnx.frozen (p := ⟨w.heap.size, 0, Option.none⟩) (by simp)).trans f0
      have r0' : wr.cell? ⟨w.heap.size + 1, 0, Option.none⟩ = some (.int .u64 0) := (hnx.cell (p := ⟨w.heap.size + 1, 0, Option.none⟩) (by simp)).trans r0
      have s0' : wr.frozen? ⟨w.heap.size + 1, 0, Option.none⟩ = false := (hnx.frozen (p := ⟨w.heap.size + 1, 0, Option.none⟩) (by simp)).trans s0
      have c1' : wr.cell? ⟨w.heap.size, 1, Option.none⟩ = some (.int .i64 (m : Int)) := (hnx.cell (p := ⟨w.heap.size, 1, Option.none⟩) (by simp)).trans c1
      have f1' : wr.frozen? ⟨w.heap.size, 1, Option.none⟩ = false := (hnx.frozen (p := ⟨w.heap.size, 1, Option.none⟩) (by simp)).trans f1
      have r1' : wr.cell? ⟨w.heap.size + 1, 1, Option.none⟩ = some (.int .i64 0) := (hnx.cell (p := ⟨w.heap.size + 1, 1, Option.none⟩) (by simp)).trans r1
      have s1' : wr.frozen? ⟨w.heap.size + 1, 1, Option.none⟩ = false := (hnx.frozen (p := ⟨w.heap.size + 1, 1, Option.none⟩) (by simp)).trans s1
      have c2' : wr.cell? ⟨w.heap.size, 2, Option.none⟩ = some (.int .u64 u) := (hnx.cell (p := ⟨w.heap.size, 2, Option.none⟩) (by simp)).trans c2
      have f2' : wr.frozen? ⟨w.heap.size, 2, Option.none⟩ = false := (hnx.frozen (p := ⟨w.heap.size, 2, Option.none⟩) (by simp)).trans f2
      have r2' : wr.cell? ⟨w.heap.size + 1, 2, Option.none⟩ = some (.int .u64 0) := (hnx.cell (p := ⟨w.heap.size + 1, 2, Option.none⟩) (by simp)).trans r2
      have s2' : wr.frozen? ⟨w.heap.size + 1, 2, Option.none⟩ = false := (hnx.frozen (p := ⟨w.heap.size + 1, 2, Option.none⟩) (by simp)).trans s2
      have HNX := Lib.hid hnx
      have HBR : Hid (Below w.heap.size w wr) := Lib.hid (HB.out.trans (hnx.mono (by omega)))
      have HOWN := Lib.hid hown
      have hzw : w.heap.size + 1 < wr.heap.size := by omega
      clear hnx hown c0 c1 c2 f0 f1 f2 r0 r1 r2 s0 s1 s2
      go_wp2_with fail
      have EQ : Hid ((q : Int) - (b : Int) = ((p + t - b : Nat) : Int)) := Lib.hid (by have := HQ.out; omega)
      go_region
      all_goals (try go_wp2)
      all_goals refine bodyPost_ret (place_results rfl _ _ (w.heap.size + 1) rfl ?_ ?_ ?_) rfl ⟨_, by rw [← EQ.out]; rfl, ?_, ?_⟩
      · simp [go_sem, r0']
      · simp [go_sem, r1']
      · simp [go_sem, r2']
      · exact own_low (by omega) (own_drew (ownsRow_setCell_below (ownsRow_setCell_below (ownsRow_setCell_below (ownsRow_setCell_below HOWN.out (by simp) _) (by simp) _) (by simp) _) (by simp) _))
      · apply Below.drew
        iterate 4 refine below_put ?_ _ _ (by simp)
        exact HBR.out


end Go.Proofs.Ytbgcgbelejmjiaa
