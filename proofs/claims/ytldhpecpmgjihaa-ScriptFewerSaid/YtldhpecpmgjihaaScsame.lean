/- Same of two lists of items, over the translation. -/
import Derived.Test.YtldhpecpmgjihaaScright
import Derived.Deep.QuietTactic
import Derived.BigQuiet
set_option linter.unusedVariables false
set_option linter.unusedSimpArgs false
namespace Go.Proofs.Ytldhpecpmgjihaa
open Go.RowKit Sc

theorem below_drawsB {B : Nat} {w w1 : World} (h : Below B w w1) (k : Nat) : Below B w (w1.drewN k) := ⟨h.os, h.tape, h.output, h.size, h.block⟩
/-- '==' of two items. -/
theorem eq_it (x y : It) (w : World) : (Op.equalIn 10000 29 (.agg #[.int .i64 x.k, .int .i64 x.c, .int .i64 x.a, .int .i64 x.b]) (.agg #[.int .i64 y.k, .int .i64 y.c, .int .i64 y.a, .int .i64 y.b])).run Try.prog w = .ok (decide (x = y)) w := by
  rw [show (10000 : Nat) = 9998 + 1 + 1 from rfl]
  go_simp
  obtain ⟨a1, a2, a3, a4⟩ := x
  obtain ⟨b1, b2, b3, b4⟩ := y
  simp only [It.mk.injEq]
  by_cases h1 : a1 = b1
  · by_cases h2 : a2 = b2
    · by_cases h3 : a3 = b3
      · by_cases h4 : a4 = b4 <;> simp [h1, h2, h3, h4]
      · simp [h1, h2, h3]
    · simp [h1, h2]
  · simp [h1]
set_option maxRecDepth 100000 in
set_option maxHeartbeats 800000 in
theorem same_len (ao bo : Option Addr) (n1 n2 c1 c2 : Nat) (h : ((n1 : Int) != (n2 : Int)) = true) (w : World) :
    Calls Try.prog 11 #[.slice ao n1 c1, .slice bo n2 c2] w fun e w' => e = .returned (.bool false) ∧ Below w.heap.size w w' := by
  go_enter Try.func11, Try.ntmps11
  go_wp2
  go_ret
  exact ⟨rfl, Below.refl _ _⟩
set_option maxRecDepth 100000 in
set_option maxHeartbeats 800000 in
theorem same_nil (ao bo : Option Addr) (c1 c2 : Nat) (w : World) :
    Calls Try.prog 11 #[.slice ao 0 c1, .slice bo 0 c2] w fun e w' => e = .returned (.bool true) ∧ Below w.heap.size w w' := by
  go_enter Try.func11, Try.ntmps11
  go_wp2
  refine wp_loop_rounds 1 ?_
  rw [rounds_succ]
  go_wp2
  go_ret
  exact ⟨rfl, Below.refl _ _⟩
set_option maxRecDepth 100000 in
set_option maxHeartbeats 1600000 in
theorem same_cells (g1 g2 o1 o2 n c1 c2 : Nat) (f1 f2 : Nat → It) (hn : n ≤ 1000000) (w : World) (hb1 : g1 < w.heap.size) (hb2 : g2 < w.heap.size) (h1 : ∀ j, j < n → w.cell? ⟨g1, o1 + j * 4, none⟩ = some (.int .i64 (f1 j).k) ∧ w.cell? ⟨g1, o1 + j * 4 + 1, none⟩ = some (.int .i64 (f1 j).c) ∧ w.cell? ⟨g1, o1 + j * 4 + 2, none⟩ = some (.int .i64 (f1 j).a) ∧ w.cell? ⟨g1, o1 + j * 4 + 3, none⟩ = some (.int .i64 (f1 j).b)) (h2 : ∀ j, j < n → w.cell? ⟨g2, o2 + j * 4, none⟩ = some (.int .i64 (f2 j).k) ∧ w.cell? ⟨g2, o2 + j * 4 + 1, none⟩ = some (.int .i64 (f2 j).c) ∧ w.cell? ⟨g2, o2 + j * 4 + 2, none⟩ = some (.int .i64 (f2 j).a) ∧ w.cell? ⟨g2, o2 + j * 4 + 3, none⟩ = some (.int .i64 (f2 j).b)) :
    Calls Try.prog 11 #[.slice (some ⟨g1, o1, none⟩) n c1, .slice (some ⟨g2, o2, none⟩) n c2] w fun e w' => e = .returned (.bool (decide (∀ j, j < n → f1 j = f2 j))) ∧ Below w.heap.size w w' := by
  have H1 := Lib.hid h1
  have H2 := Lib.hid h2
  clear h1 h2
  go_enter Try.func11, Try.ntmps11
  go_wp2
  go_loopw [5] (fun i wr => ∃ k : Nat, k ≤ n ∧ i = .int .i64 k ∧ Hid (∀ j, j < k → f1 j = f2 j) ∧ Below w.heap.size w wr) (fun i _ => n - (intOf i).toNat)
  case atStart => exact ⟨0, Nat.zero_le _, rfl, Lib.hid (fun j h => absurd h (by omega)), Below.refl _ _⟩
  case round =>
    obtain ⟨k, hk, rfl, hall, hnx⟩ := hrel
    have HN := Lib.hid hnx
    by_cases hlt : k < n
    · have hlt' : (k : Int) < (n : Int) := by omega
      have hk0 : (0 : Int) ≤ (k : Int) := by omega
      obtain ⟨x, hx⟩ : ∃ x, f1 k = x := ⟨_, rfl⟩
      obtain ⟨y, hy⟩ : ∃ y, f2 k = y := ⟨_, rfl⟩
      obtain ⟨p0, p1, p2, p3⟩ := H1.out k hlt
      obtain ⟨q0, q1, q2, q3⟩ := H2.out k hlt
      rw [hx] at p0 p1 p2 p3
      rw [hy] at q0 q1 q2 q3
      have P0 := (hnx.cell (p := ⟨g1, o1 + k * 4, none⟩) hb1).trans p0
      have Q0 := (hnx.cell (p := ⟨g2, o2 + k * 4, none⟩) hb2).trans q0
      have P1 := (hnx.cell (p := ⟨g1, o1 + k * 4 + 1, none⟩) hb1).trans p1
      have Q1 := (hnx.cell (p := ⟨g2, o2 + k * 4 + 1, none⟩) hb2).trans q1
      have P2 := (hnx.cell (p := ⟨g1, o1 + k * 4 + 2, none⟩) hb1).trans p2
      have Q2 := (hnx.cell (p := ⟨g2, o2 + k * 4 + 2, none⟩) hb2).trans q2
      have P3 := (hnx.cell (p := ⟨g1, o1 + k * 4 + 3, none⟩) hb1).trans p3
      have Q3 := (hnx.cell (p := ⟨g2, o2 + k * 4 + 3, none⟩) hb2).trans q3
      clear hnx p0 p1 p2 p3 q0 q1 q2 q3
      have HX := Lib.hid hx
      have HY := Lib.hid hy
      clear hx hy
      by_cases he : x = y
      · have hb : ∀ w : World, (Op.equalIn 10000 29 (.agg #[.int .i64 x.k, .int .i64 x.c, .int .i64 x.a, .int .i64 x.b]) (.agg #[.int .i64 y.k, .int .i64 y.c, .int .i64 y.a, .int .i64 y.b])).run Try.prog w = .ok true w := fun w => by rw [eq_it, decide_eq_true he]
        have HE := Lib.hid he
        clear he
        go_wp2_with fail
        go_quiet (fail)
        go_wp2_with fail
        go_roundw
        case rel => exact ⟨k + 1, by omega, by go_num, Lib.hid (fun j hj => by
          by_cases e : j = k
          · rw [e, HX.out, HY.out]; exact HE.out
          · exact hall.out j (by omega)), below_drawsB HN.out _⟩
        case measure => simp [intOf]; omega
      · have hb : ∀ w : World, (Op.equalIn 10000 29 (.agg #[.int .i64 x.k, .int .i64 x.c, .int .i64 x.a, .int .i64 x.b]) (.agg #[.int .i64 y.k, .int .i64 y.c, .int .i64 y.a, .int .i64 y.b])).run Try.prog w = .ok false w := fun w => by rw [eq_it, decide_eq_false he]
        have HE : Hid (decide (∀ j, j < n → f1 j = f2 j) = false) := Lib.hid (decide_eq_false fun h => he (by rw [← HX.out, ← HY.out]; exact h k hlt))
        clear he
        go_wp2_with fail
        go_quiet (fail)
        go_wp2_with fail
        go_ret
        exact ⟨by rw [HE.out]; rfl, below_drawsB HN.out _⟩
    · have hnl : ¬ (k : Int) < (n : Int) := by omega
      have HE : Hid (decide (∀ j, j < n → f1 j = f2 j) = true) := Lib.hid (decide_eq_true fun j hj => hall.out j (by omega))
      go_wp2_with fail
      go_ret
      exact ⟨by rw [HE.out]; rfl, HN.out⟩
end Go.Proofs.Ytldhpecpmgjihaa
