/- What is left of memory that may be may be; memory of which more is used than there is may not: for every input, no condition. -/
import Derived.Test.YtbgcgbelejmjiaaUfixed
import Derived.Test.YtbgcgbelejmjiaaUframe
import Derived.Test.YtbgcgbelejmjiaaUlaw
set_option linter.unusedVariables false
set_option linter.unusedSimpArgs false
namespace Go.Proofs.Ytbgcgbelejmjiaa
open Go.ChangeShapes Go.WideShapes Go.ChangeAt Go.RowKit Go.Joins Wd Ud

def Tb (w : World) (b : Nat) (q : Value × Value × Value) : Prop := b < w.heap.size ∧ w.cell? ⟨b, 0, Option.none⟩ = some q.1 ∧ w.cell? ⟨b, 1, Option.none⟩ = some q.2.1 ∧ w.cell? ⟨b, 2, Option.none⟩ = some q.2.2
theorem Tb.new (w : World) (q : Value × Value × Value) : Tb (w.alloc (.cells #[q.1, q.2.1, q.2.2] 24)) w.heap.size q :=
  ⟨by simp, by simp [go_sem], by simp [go_sem], by simp [go_sem]⟩
theorem Tb.new_at {w : World} {b : Nat} {x : Value × Value × Value} (h : b = w.heap.size) : Tb (w.alloc (.cells #[x.1, x.2.1, x.2.2] 24)) b x := by
  subst h
  exact Tb.new w x
theorem Tb.alloc {w : World} {b : Nat} {q : Value × Value × Value} {o : Obj} (h : Tb w b q) : Tb (w.alloc o) b q :=
  ⟨by have := h.1; simp; omega, cell_new h.2.1, cell_new h.2.2.1, cell_new h.2.2.2⟩
theorem Tb.keep {w w' : World} {b : Nat} {q : Value × Value × Value} (k : Below w.heap.size w w') (h : Tb w b q) : Tb w' b q :=
  ⟨Nat.lt_of_lt_of_le h.1 k.size, (k.cell (p := ⟨b, 0, Option.none⟩) h.1).trans h.2.1, (k.cell (p := ⟨b, 1, Option.none⟩) h.1).trans h.2.2.1, (k.cell (p := ⟨b, 2, Option.none⟩) h.1).trans h.2.2.2⟩
theorem Tb.drew {w : World} {b : Nat} {q : Value × Value × Value} (h : Tb w b q) (k : Nat) : Tb (w.drewN k) b q := h

set_option maxRecDepth 100000 in
set_option maxHeartbeats 3200000 in
theorem untypedChecks_in (b m u v r : Nat) (k n c : Int) (y : Ut) (l : List Nat) (P1 : Hid (∀ w : World, Calls Try.prog 10 #[(.agg #[.int .u64 b, .int .i64 (m : Int), .int .u64 u]), .int .i64 k, .int .i64 n, .int .i64 c] w fun e w' => ∃ v, e = .returned (.tuple #[v, (.agg #[.int .u64 y.b, .int .i64 y.n, .int .u64 y.u]), .int .i64 0]) ∧ SlIs w' v l ∧ Below w.heap.size w w')) (C1 : Hid (∀ w : World, Calls Try.prog 16 #[(.agg #[.int .u64 b, .int .i64 (m : Int), .int .u64 u])] w fun e w' => e = .returned (.int .i64 0) ∧ Below w.heap.size w w')) (C2 : Hid (∀ w : World, Calls Try.prog 16 #[(.agg #[.int .u64 y.b, .int .i64 y.n, .int .u64 y.u])] w fun e w' => e = .returned (.int .i64 0) ∧ Below w.heap.size w w')) (hlt : u < y.u) (C3 : Hid (∀ w : World, Calls Try.prog 16 #[(.agg #[.int .u64 b, .int .i64 (m : Int), .int .u64 ((pw m : Int) + 1 + (r : Int))])] w fun e w' => e = .returned (.int .i64 1) ∧ Below w.heap.size w w')) (R1 : Hid (∀ w : World, Calls Try.prog 18 #[(.agg #[.int .u64 b, .int .i64 (m : Int), .int .u64 ((pw m : Int) + 1 + (r : Int))])] w fun e w' => e = .returned (.agg #[.int .u64 b, .int .i64 (m : Int), .int .u64 0]) ∧ Below w.heap.size w w')) (C4 : Hid (∀ w : World, Calls Try.prog 16 #[(.agg #[.int .u64 b, .int .i64 (m : Int), .int .u64 0])] w fun e w' => e = .returned (.int .i64 0) ∧ Below w.heap.size w w')) (hm : m ≤ 20) (hr : bits .and .u64 (v : Int) 65535 = (r : Int)) (hr6 : r ≤ 65535) (W : World) :
    Calls Try.prog 9 #[(.agg #[.int .u64 b, .int .i64 (m : Int), .int .u64 u]), (.agg #[.int .i64 k, .int .i64 n, .int .i64 c]), .int .u64 (v : Int)] W fun e w' => e = .returned (.bool true) ∧ Below W.heap.size W w' := by
  have hS := wrap_2 m (by omega)
  have hp : pw m ≤ 1048576 := Nat.pow_le_pow_right (by decide) hm
  go_enter Try.func9, Try.ntmps9
  go_wp2_with fail
  refine (P1.out _).mono ?_
  rintro e w1 ⟨v1, rfl, _, hb⟩
  have XX' : Ub w1 (W.heap.size) ⟨b, (m : Int), u⟩ := Ub.keep hb (by repeat (first | fail | exact Ub.new _ ⟨b, (m : Int), u⟩ | exact Ub.new_at (x := ⟨b, (m : Int), u⟩) (by simp) | apply Ub.alloc | refine Ub.drew ?_ _))
  have XX := Lib.hid XX'
  clear XX'
  have HB1 : Hid (Below W.heap.size W w1) := Lib.hid (below_then (by repeat (first | exact (Below.refl _ _) | apply below_new | refine below_draws ?_ _)) hb)
  clear hb
  obtain ⟨zXX, c0XX, c1XX, c2XX, f0XX, f1XX, f2XX⟩ := XX.out
  have nXX : ¬ W.heap.size = w1.heap.size := by omega
  go_wp2_with fail
  clear zXX nXX c0XX c1XX c2XX f0XX f1XX f2XX
  refine (C1.out _).mono ?_
  rintro e w2 ⟨rfl, hb⟩
  have XX' : Ub w2 (W.heap.size) ⟨b, (m : Int), u⟩ := Ub.keep hb (by repeat (first | exact XX.out | exact Ub.new _ ⟨b, (m : Int), u⟩ | exact Ub.new_at (x := ⟨b, (m : Int), u⟩) (by simp) | apply Ub.alloc | refine Ub.drew ?_ _))
  clear XX
  have XX := Lib.hid XX'
  clear XX'
  have YY' : Ub w2 (w1.heap.size) y := Ub.keep hb (by repeat (first | fail | exact Ub.new _ y | exact Ub.new_at (x := y) (by simp) | apply Ub.alloc | refine Ub.drew ?_ _))
  have YY := Lib.hid YY'
  clear YY'
  have HB2 : Hid (Below W.heap.size W w2) := Lib.hid (below_then (by repeat (first | exact HB1.out | apply below_new | refine below_draws ?_ _)) hb)
  clear hb HB1
  obtain ⟨zYY, c0YY, c1YY, c2YY, f0YY, f1YY, f2YY⟩ := YY.out
  have nYY : ¬ w1.heap.size = w2.heap.size := by omega
  go_wp2_with fail
  clear zYY nYY c0YY c1YY c2YY f0YY f1YY f2YY
  refine (C2.out _).mono ?_
  rintro e w3 ⟨rfl, hb⟩
  have XX' : Ub w3 (W.heap.size) ⟨b, (m : Int), u⟩ := Ub.keep hb (by repeat (first | exact XX.out | exact Ub.new _ ⟨b, (m : Int), u⟩ | exact Ub.new_at (x := ⟨b, (m : Int), u⟩) (by simp) | apply Ub.alloc | refine Ub.drew ?_ _))
  clear XX
  have XX := Lib.hid XX'
  clear XX'
  have YY' : Ub w3 (w1.heap.size) y := Ub.keep hb (by repeat (first | exact YY.out | exact Ub.new _ y | exact Ub.new_at (x := y) (by simp) | apply Ub.alloc | refine Ub.drew ?_ _))
  clear YY
  have YY := Lib.hid YY'
  clear YY'
  have HB3 : Hid (Below W.heap.size W w3) := Lib.hid (below_then (by repeat (first | exact HB2.out | apply below_new | refine below_draws ?_ _)) hb)
  clear hb HB2
  obtain ⟨zXX, c0XX, c1XX, c2XX, f0XX, f1XX, f2XX⟩ := XX.out
  have nXX : ¬ W.heap.size = w3.heap.size := by omega
  obtain ⟨zYY, c0YY, c1YY, c2YY, f0YY, f1YY, f2YY⟩ := YY.out
  have nYY : ¬ w1.heap.size = w3.heap.size := by omega
  go_wp2_with fail
  clear zXX nXX c0XX c1XX c2XX f0XX f1XX f2XX
  clear zYY nYY c0YY c1YY c2YY f0YY f1YY f2YY
  refine (C1.out _).mono ?_
  rintro e w4 ⟨rfl, hb⟩
  clear YY
  have XX' : Ub w4 (W.heap.size) ⟨b, (m : Int), u⟩ := Ub.keep hb (by repeat (first | exact XX.out | exact Ub.new _ ⟨b, (m : Int), u⟩ | exact Ub.new_at (x := ⟨b, (m : Int), u⟩) (by simp) | apply Ub.alloc | refine Ub.drew ?_ _))
  clear XX
  have XX := Lib.hid XX'
  clear XX'
  have HB4 : Hid (Below W.heap.size W w4) := Lib.hid (below_then (by repeat (first | exact HB3.out | apply below_new | refine below_draws ?_ _)) hb)
  clear hb HB3
  obtain ⟨zXX, c0XX, c1XX, c2XX, f0XX, f1XX, f2XX⟩ := XX.out
  have nXX : ¬ W.heap.size = w4.heap.size := by omega
  go_wp2_with fail
  clear zXX nXX c0XX c1XX c2XX f0XX f1XX f2XX
  refine (C3.out _).mono ?_
  rintro e w5 ⟨rfl, hb⟩
  clear XX
  have TT' : Tb w5 (w4.heap.size) (Value.int .u64 b, Value.int .i64 (m : Int), Value.int .u64 ((pw m : Int) + 1 + (r : Int))) := Tb.keep hb (by repeat (first | fail | exact Tb.new _ (Value.int .u64 b, Value.int .i64 (m : Int), Value.int .u64 ((pw m : Int) + 1 + (r : Int))) | exact Tb.new_at (None := (Value.int .u64 b, Value.int .i64 (m : Int), Value.int .u64 ((pw m : Int) + 1 + (r : Int)))) (by simp) | apply Tb.alloc | refine Tb.drew ?_ _))
  have TT := Lib.hid TT'
  clear TT'
  have HB5 : Hid (Below W.heap.size W w5) := Lib.hid (below_then (by repeat (first | exact HB4.out | apply below_new | refine below_draws ?_ _)) hb)
  clear hb HB4
  obtain ⟨zTT, c0TT, c1TT, c2TT⟩ := TT.out
  have nTT : ¬ w4.heap.size = w5.heap.size := by omega
  go_wp2_with fail
  clear zTT nTT c0TT c1TT c2TT
  refine (R1.out _).mono ?_
  rintro e w6 ⟨rfl, hb⟩
  clear TT
  have HB6 : Hid (Below W.heap.size W w6) := Lib.hid (below_then (by repeat (first | exact HB5.out | apply below_new | refine below_draws ?_ _)) hb)
  clear hb HB5
  go_wp2_with fail
  refine (C4.out _).mono ?_
  rintro e w7 ⟨rfl, hb⟩
  have HB7 : Hid (Below W.heap.size W w7) := Lib.hid (below_then (by repeat (first | exact HB6.out | apply below_new | refine below_draws ?_ _)) hb)
  clear hb HB6
  go_wp2_with fail
  refine (fixed_true _).mono ?_
  rintro e w8 ⟨rfl, hb⟩
  have HB8 : Hid (Below W.heap.size W w8) := Lib.hid (below_then (by repeat (first | exact HB7.out | apply below_new | refine below_draws ?_ _)) hb)
  clear hb HB7
  go_wp2_with fail
  go_ret
  exact ⟨rfl, (by repeat (first | exact HB8.out | apply below_new | refine below_draws ?_ _))⟩

set_option maxRecDepth 100000 in
set_option maxHeartbeats 3200000 in
theorem untypedChecks_no (x : Ut) (v : Nat) (k n c : Int) (l : List Nat) (P1 : Hid (∀ w : World, Calls Try.prog 10 #[(.agg #[.int .u64 x.b, .int .i64 x.n, .int .u64 x.u]), .int .i64 k, .int .i64 n, .int .i64 c] w fun e w' => ∃ v, e = .returned (.tuple #[v, (.agg #[.int .u64 0, .int .i64 0, .int .u64 0]), .int .i64 1]) ∧ SlIs w' v l ∧ Below w.heap.size w w')) (C1 : Hid (∀ w : World, Calls Try.prog 16 #[(.agg #[.int .u64 x.b, .int .i64 x.n, .int .u64 x.u])] w fun e w' => e = .returned (.int .i64 1) ∧ Below w.heap.size w w')) (W : World) :
    Calls Try.prog 9 #[(.agg #[.int .u64 x.b, .int .i64 x.n, .int .u64 x.u]), (.agg #[.int .i64 k, .int .i64 n, .int .i64 c]), .int .u64 (v : Int)] W fun e w' => e = .returned (.bool true) ∧ Below W.heap.size W w' := by
  go_enter Try.func9, Try.ntmps9
  go_wp2_with fail
  refine (P1.out _).mono ?_
  rintro e w1 ⟨v1, rfl, _, hb⟩
  have XX' : Ub w1 (W.heap.size) x := Ub.keep hb (by repeat (first | fail | exact Ub.new _ x | exact Ub.new_at (x := x) (by simp) | apply Ub.alloc | refine Ub.drew ?_ _))
  have XX := Lib.hid XX'
  clear XX'
  have HB1 : Hid (Below W.heap.size W w1) := Lib.hid (below_then (by repeat (first | exact (Below.refl _ _) | apply below_new | refine below_draws ?_ _)) hb)
  clear hb
  obtain ⟨zXX, c0XX, c1XX, c2XX, f0XX, f1XX, f2XX⟩ := XX.out
  have nXX : ¬ W.heap.size = w1.heap.size := by omega
  go_wp2_with fail
  clear zXX nXX c0XX c1XX c2XX f0XX f1XX f2XX
  refine (C1.out _).mono ?_
  rintro e w2 ⟨rfl, hb⟩
  clear XX
  have HB2 : Hid (Below W.heap.size W w2) := Lib.hid (below_then (by repeat (first | exact HB1.out | apply below_new | refine below_draws ?_ _)) hb)
  clear hb HB1
  go_wp2_with fail
  refine (fixed_true _).mono ?_
  rintro e w3 ⟨rfl, hb⟩
  have HB3 : Hid (Below W.heap.size W w3) := Lib.hid (below_then (by repeat (first | exact HB2.out | apply below_new | refine below_draws ?_ _)) hb)
  clear hb HB2
  go_wp2_with fail
  go_ret
  exact ⟨rfl, (by repeat (first | exact HB3.out | apply below_new | refine below_draws ?_ _))⟩

set_option maxRecDepth 100000 in
set_option maxHeartbeats 3200000 in
theorem untypedChecks_out (b m u v r : Nat) (k n c i : Int) (l : List Nat) (P1 : Hid (∀ w : World, Calls Try.prog 10 #[(.agg #[.int .u64 b, .int .i64 (m : Int), .int .u64 u]), .int .i64 k, .int .i64 n, .int .i64 c] w fun e w' => ∃ v, e = .returned (.tuple #[v, (.agg #[.int .u64 0, .int .i64 0, .int .u64 0]), .int .i64 i]) ∧ SlIs w' v l ∧ Below w.heap.size w w')) (C1 : Hid (∀ w : World, Calls Try.prog 16 #[(.agg #[.int .u64 b, .int .i64 (m : Int), .int .u64 u])] w fun e w' => e = .returned (.int .i64 0) ∧ Below w.heap.size w w')) (hi : (i == 0) = false) (C3 : Hid (∀ w : World, Calls Try.prog 16 #[(.agg #[.int .u64 b, .int .i64 (m : Int), .int .u64 ((pw m : Int) + 1 + (r : Int))])] w fun e w' => e = .returned (.int .i64 1) ∧ Below w.heap.size w w')) (R1 : Hid (∀ w : World, Calls Try.prog 18 #[(.agg #[.int .u64 b, .int .i64 (m : Int), .int .u64 ((pw m : Int) + 1 + (r : Int))])] w fun e w' => e = .returned (.agg #[.int .u64 b, .int .i64 (m : Int), .int .u64 0]) ∧ Below w.heap.size w w')) (C4 : Hid (∀ w : World, Calls Try.prog 16 #[(.agg #[.int .u64 b, .int .i64 (m : Int), .int .u64 0])] w fun e w' => e = .returned (.int .i64 0) ∧ Below w.heap.size w w')) (hm : m ≤ 20) (hr : bits .and .u64 (v : Int) 65535 = (r : Int)) (hr6 : r ≤ 65535) (W : World) :
    Calls Try.prog 9 #[(.agg #[.int .u64 b, .int .i64 (m : Int), .int .u64 u]), (.agg #[.int .i64 k, .int .i64 n, .int .i64 c]), .int .u64 (v : Int)] W fun e w' => e = .returned (.bool true) ∧ Below W.heap.size W w' := by
  have hS := wrap_2 m (by omega)
  have hp : pw m ≤ 1048576 := Nat.pow_le_pow_right (by decide) hm
  go_enter Try.func9, Try.ntmps9
  go_wp2_with fail
  refine (P1.out _).mono ?_
  rintro e w1 ⟨v1, rfl, _, hb⟩
  have XX' : Ub w1 (W.heap.size) ⟨b, (m : Int), u⟩ := Ub.keep hb (by repeat (first | fail | exact Ub.new _ ⟨b, (m : Int), u⟩ | exact Ub.new_at (x := ⟨b, (m : Int), u⟩) (by simp) | apply Ub.alloc | refine Ub.drew ?_ _))
  have XX := Lib.hid XX'
  clear XX'
  have HB1 : Hid (Below W.heap.size W w1) := Lib.hid (below_then (by repeat (first | exact (Below.refl _ _) | apply below_new | refine below_draws ?_ _)) hb)
  clear hb
  obtain ⟨zXX, c0XX, c1XX, c2XX, f0XX, f1XX, f2XX⟩ := XX.out
  have nXX : ¬ W.heap.size = w1.heap.size := by omega
  go_wp2_with fail
  clear zXX nXX c0XX c1XX c2XX f0XX f1XX f2XX
  refine (C1.out _).mono ?_
  rintro e w2 ⟨rfl, hb⟩
  have XX' : Ub w2 (W.heap.size) ⟨b, (m : Int), u⟩ := Ub.keep hb (by repeat (first | exact XX.out | exact Ub.new _ ⟨b, (m : Int), u⟩ | exact Ub.new_at (x := ⟨b, (m : Int), u⟩) (by simp) | apply Ub.alloc | refine Ub.drew ?_ _))
  clear XX
  have XX := Lib.hid XX'
  clear XX'
  have HB2 : Hid (Below W.heap.size W w2) := Lib.hid (below_then (by repeat (first | exact HB1.out | apply below_new | refine below_draws ?_ _)) hb)
  clear hb HB1
  obtain ⟨zXX, c0XX, c1XX, c2XX, f0XX, f1XX, f2XX⟩ := XX.out
  have nXX : ¬ W.heap.size = w2.heap.size := by omega
  go_wp2_with fail
  clear zXX nXX c0XX c1XX c2XX f0XX f1XX f2XX
  refine (C3.out _).mono ?_
  rintro e w3 ⟨rfl, hb⟩
  clear XX
  have TT' : Tb w3 (w2.heap.size) (Value.int .u64 b, Value.int .i64 (m : Int), Value.int .u64 ((pw m : Int) + 1 + (r : Int))) := Tb.keep hb (by repeat (first | fail | exact Tb.new _ (Value.int .u64 b, Value.int .i64 (m : Int), Value.int .u64 ((pw m : Int) + 1 + (r : Int))) | exact Tb.new_at (None := (Value.int .u64 b, Value.int .i64 (m : Int), Value.int .u64 ((pw m : Int) + 1 + (r : Int)))) (by simp) | apply Tb.alloc | refine Tb.drew ?_ _))
  have TT := Lib.hid TT'
  clear TT'
  have HB3 : Hid (Below W.heap.size W w3) := Lib.hid (below_then (by repeat (first | exact HB2.out | apply below_new | refine below_draws ?_ _)) hb)
  clear hb HB2
  obtain ⟨zTT, c0TT, c1TT, c2TT⟩ := TT.out
  have nTT : ¬ w2.heap.size = w3.heap.size := by omega
  go_wp2_with fail
  clear zTT nTT c0TT c1TT c2TT
  refine (R1.out _).mono ?_
  rintro e w4 ⟨rfl, hb⟩
  clear TT
  have HB4 : Hid (Below W.heap.size W w4) := Lib.hid (below_then (by repeat (first | exact HB3.out | apply below_new | refine below_draws ?_ _)) hb)
  clear hb HB3
  go_wp2_with fail
  refine (C4.out _).mono ?_
  rintro e w5 ⟨rfl, hb⟩
  have HB5 : Hid (Below W.heap.size W w5) := Lib.hid (below_then (by repeat (first | exact HB4.out | apply below_new | refine below_draws ?_ _)) hb)
  clear hb HB4
  go_wp2_with fail
  refine (fixed_true _).mono ?_
  rintro e w6 ⟨rfl, hb⟩
  have HB6 : Hid (Below W.heap.size W w6) := Lib.hid (below_then (by repeat (first | exact HB5.out | apply below_new | refine below_draws ?_ _)) hb)
  clear hb HB5
  go_wp2_with fail
  go_ret
  exact ⟨rfl, (by repeat (first | exact HB6.out | apply below_new | refine below_draws ?_ _))⟩

theorem untypedChecks_walk (x : Ut) (hb : Word x.b) (hu : Word x.u) (k n c : Int) (v : Nat) (hv : Word v) (W : World) :
    Calls Try.prog 9 #[(.agg #[.int .u64 x.b, .int .i64 x.n, .int .u64 x.u]), (.agg #[.int .i64 k, .int .i64 n, .int .i64 c]), .int .u64 (v : Int)] W fun e w' => e = .returned (.bool true) ∧ Below W.heap.size W w' := by
  obtain ⟨⟨l, y, i⟩, hp⟩ : ∃ q, placeU x k n c = q := ⟨_, rfl⟩
  by_cases ok : x.Ok
  · obtain ⟨b, N, u⟩ := x
    obtain ⟨m, rfl⟩ : ∃ m : Nat, N = (m : Int) := ⟨N.toNat, by have := ok.1; simp at this; omega⟩
    have C1 : Hid (∀ w : World, Calls Try.prog 16 #[(.agg #[.int .u64 b, .int .i64 (m : Int), .int .u64 u])] w fun e w' => e = .returned (.int .i64 0) ∧ Below w.heap.size w w') := Lib.hid (fun w => by
      have h := check_any ⟨b, m, u⟩ hb hu w
      rw [show chkU ⟨b, m, u⟩ = 0 by simp [chkU, ok]] at h
      exact h)
    have ok' := ok
    obtain ⟨k0, k1, k2, k3, k4⟩ := ok'
    simp only [Int.toNat_natCast] at k0 k1 k2 k3 k4
    have hm : m ≤ 20 := by omega
    have pm : pw m ≤ 1048576 := Nat.pow_le_pow_right (by decide) hm
    have e64 : (2 : Nat) ^ 64 = 18446744073709551616 := by decide
    obtain ⟨r, hr⟩ : ∃ r : Nat, bits .and .u64 (v : Int) 65535 = (r : Int) ∧ r ≤ 65535 := by
      refine ⟨lowN v 16, ?_, ?_⟩
      · have h := low_and v 16 hv (by decide)
        rw [show ((msk 16 : Nat) : Int) = 65535 by decide] at h
        exact h
      · have := lowN_lt v 16
        have e : (2 : Nat) ^ 16 = 65536 := by decide
        omega
    have C3 : Hid (∀ w : World, Calls Try.prog 16 #[(.agg #[.int .u64 b, .int .i64 (m : Int), .int .u64 ((pw m : Int) + 1 + (r : Int))])] w fun e w' => e = .returned (.int .i64 1) ∧ Below w.heap.size w w') := Lib.hid (fun w => by
      have h := check_any ⟨b, m, pw m + 1 + r⟩ hb ⟨by show pw m + 1 + r < 2 ^ 64; omega⟩ w
      rw [chk_no (x := ⟨b, m, pw m + 1 + r⟩) (by
        intro o
        have o4 : pw m + 1 + r ≤ pw ((m : Int)).toNat := o.2.2.2.2
        rw [Int.toNat_natCast] at o4
        omega)] at h
      exact h)
    have R1 : Hid (∀ w : World, Calls Try.prog 18 #[(.agg #[.int .u64 b, .int .i64 (m : Int), .int .u64 ((pw m : Int) + 1 + (r : Int))])] w fun e w' => e = .returned (.agg #[.int .u64 b, .int .i64 (m : Int), .int .u64 0]) ∧ Below w.heap.size w w') := Lib.hid (fun w => reset_any ⟨b, m, pw m + 1 + r⟩ w)
    have C4 : Hid (∀ w : World, Calls Try.prog 16 #[(.agg #[.int .u64 b, .int .i64 (m : Int), .int .u64 0])] w fun e w' => e = .returned (.int .i64 0) ∧ Below w.heap.size w w') := Lib.hid (fun w => by
      have h := check_any ⟨b, m, 0⟩ hb ⟨show (0 : Nat) < 2 ^ 64 by decide⟩ w
      rw [chk_yes (x := ⟨b, m, 0⟩) m rfl hm (by show b ≤ 1099511627776; omega) k3 (Nat.zero_le _)] at h
      exact h)
    by_cases hi : i = 0
    · subst hi
      obtain ⟨g1, g2, g3, g4⟩ := left_ok hp
      have C2 : Hid (∀ w : World, Calls Try.prog 16 #[(.agg #[.int .u64 y.b, .int .i64 y.n, .int .u64 y.u])] w fun e w' => e = .returned (.int .i64 0) ∧ Below w.heap.size w w') := Lib.hid (fun w => by
        have h := check_any y g4 g3 w
        rw [show chkU y = 0 by simp [chkU, g1]] at h
        exact h)
      exact untypedChecks_in b m u v r k n c y l (Lib.hid (place_as ⟨b, m, u⟩ hb hu k n c l y 0 hp)) C1 C2 g2 C3 R1 C4 hm hr.1 hr.2 W
    · obtain ⟨rfl, rfl, _⟩ := place_err hp hi
      exact untypedChecks_out b m u v r k n c i [] (Lib.hid (place_as ⟨b, m, u⟩ hb hu k n c [] Ud.none i hp)) C1 (by simpa using hi) C3 R1 C4 hm hr.1 hr.2 W
  · have hi : i ≠ 0 := by
      intro h
      subst h
      obtain ⟨_, _, _, _, _, _, h3, _⟩ := place_ok hp
      exact ok h3
    obtain ⟨rfl, rfl, h1⟩ := place_err hp hi
    obtain rfl := h1 ok
    exact untypedChecks_no x v k n c [] (Lib.hid (place_as x hb hu k n c [] Ud.none 1 hp)) (Lib.hid (fun w => by
      have h := check_any x hb hu w
      rw [chk_no ok] at h
      exact h)) W


set_option maxRecDepth 100000 in
theorem untypedChecks_lifted (os : Os) (started : os.Started) (H : Type) (enc : TypeId × Value → H) :
    ReturnsInHanded {} Try.checked os 9 .any (Rows.untypedChecksSpec.pre6 enc Try.prog Try.f9 Rows.untypedChecksRow.domain false) (Rows.untypedChecksSpec.post enc Try.prog Try.f9 false true false false) := by
  refine returnsInHanded_of_change (C := Try.checked) own_knob started (by kernel_rfl) Try.func9
    (ChangeSpec.witness6 (enc := enc) (C := Try.checked) false ⟨#[], #[.agg #[.int .u64 0, .int .i64 0, .int .u64 0], .agg #[.int .i64 0, .int .i64 0, .int .i64 0], .int .u64 0], []⟩ 8 (by kernel_rfl) (by kernel_rfl) (by kernel_rfl) (by kernel_rfl)) ?_
  intro W base args ds gs before hval0 hW hcnd _
  have hval : ∀ (j : Nat) t v, Try.f9.params[j]? = some t → args[j]? = some v → Value.okWide Try.prog W .any base t v := hval0
  have hW' := hW
  obtain ⟨p, q, hA0, hV, rfl, hfz, hnd⟩ := hW
  have hA : DataW.TrodAll enc Try.prog W 0 (fun _ => true) true Try.f9.params.toList args.toList ds p := hA0
  rw [Try.params9] at hA hval
  obtain ⟨v0, v1, v2, d0, d1, d2, p0, p1, p2, rfl, rfl, rfl, h0, h1, h2⟩ := trodAll_three hA
  obtain ⟨rfl, rfl⟩ := trodVars_none hV
  clear hA0 hval0
  simp only [List.append_nil] at hW'
  have hlt : ∀ x ∈ p0 ++ p1 ++ p2, x.block < W.heap.size := fun x hx => by simpa using hW'.lt x hx
  have g0 : ∀ W' : World, Below W.heap.size W W' → DataW.Trod enc Try.prog W' 0 (fun b => decide (b < W.heap.size)) true 24 v0 d0 p0 :=
    fun W' hn => Below.trod laid_out (by kernel_rfl) (of_decide_eq_true (by kernel_rfl)) h0 hn (fun x hx => hlt x (by simp [hx]))
  have g1 : ∀ W' : World, Below W.heap.size W W' → DataW.Trod enc Try.prog W' 0 (fun b => decide (b < W.heap.size)) true 26 v1 d1 p1 :=
    fun W' hn => Below.trod laid_out (by kernel_rfl) (of_decide_eq_true (by kernel_rfl)) h1 hn (fun x hx => hlt x (by simp [hx]))
  have g2 : ∀ W' : World, Below W.heap.size W W' → DataW.Trod enc Try.prog W' 0 (fun b => decide (b < W.heap.size)) true 22 v2 d2 p2 :=
    fun W' hn => Below.trod laid_out (by kernel_rfl) (of_decide_eq_true (by kernel_rfl)) h2 hn (fun x hx => hlt x (by simp [hx]))
  obtain ⟨x, rfl, l0b, l0u⟩ := open_unt (hval 0 24 v0 rfl rfl) h0
  obtain ⟨k, n, c, rfl, l1k, l1n, l1c⟩ := open_what (hval 1 26 v1 rfl rfl) h1
  obtain ⟨i2, rfl, _, _, w2⟩ := open_int Try.underlying22 (hval 2 22 v2 rfl rfl) h2
  obtain ⟨v, rfl, l2⟩ := word_of_wf w2
  refine (untypedChecks_walk x l0b l0u k n c v ⟨l2⟩ W).mono fun e W' ⟨he, hn⟩ => ?_
  subst he
  exact ⟨_, rfl, _, _, _, [], p0 ++ p1 ++ p2, [], hW', trodAll_mk1 (shut_bool Try.underlying4 true), (by rw [List.append_assoc p0 p1 p2]; exact trodAll_mk3 (g0 W' hn) (g1 W' hn) (g2 W' hn)), rfl, hn.frame _, fun h => by cases h⟩

theorem untypedChecks_holds : Rows.UntypedChecksSaid :=
  OpenClaim.holds_of_wide 9 Try.f9 rfl rfl rfl rfl rfl rfl rfl ⟨rfl, rfl, rfl, rfl, rfl⟩ rfl rfl rfl rfl rfl (by kernel_rfl) Try.func9 (by kernel_rfl)
    (of_decide_eq_true (by kernel_rfl)) (by unfold Func.isWrapper; first | (rw [if_pos (by decide +kernel)]; kernel_rfl) | (rw [if_neg (by decide +kernel)]; exact ⟨rfl, rfl⟩))
    (fun os started H enc _ => untypedChecks_lifted os started H enc)
#print axioms untypedChecks_holds
end Go.Proofs.Ytbgcgbelejmjiaa
