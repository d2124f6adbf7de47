/- Boxes of untyped memory and of what is asked; equality of two; Place by name. -/
import Derived.Test.YtbgcgbelejmjiaaUsame
set_option linter.unusedVariables false
set_option linter.unusedSimpArgs false
namespace Go.Proofs.Ytbgcgbelejmjiaa
open Go.RowKit Wd Ud

/-- '==' of two. -/
theorem eq_ut (x y : Ut) (w : World) : (Op.equalIn 10000 24 (.agg #[.int .u64 x.b, .int .i64 x.n, .int .u64 x.u]) (.agg #[.int .u64 y.b, .int .i64 y.n, .int .u64 y.u])).run Try.prog w = .ok (eqU x y) w := by
  rw [show (10000 : Nat) = 9998 + 1 + 1 from rfl]
  go_simp
  unfold eqU
  simp only [Int.ofNat_inj]
  by_cases h1 : x.b = y.b
  · by_cases h2 : x.n = y.n
    · by_cases h3 : x.u = y.u <;> simp [h1, h2, h3]
    · simp [h1, h2]
  · simp [h1]
theorem eq_ut_self (x : Ut) (w : World) : (Op.equalIn 10000 24 (.agg #[.int .u64 x.b, .int .i64 x.n, .int .u64 x.u]) (.agg #[.int .u64 x.b, .int .i64 x.n, .int .u64 x.u])).run Try.prog w = .ok true w := by
  have h := eq_ut x x w
  rw [show eqU x x = true from decide_eq_true ⟨rfl, rfl, rfl⟩] at h
  exact h
def Ub (w : World) (b : Nat) (x : Ut) : Prop := b < w.heap.size ∧ w.cell? ⟨b, 0, Option.none⟩ = some (.int .u64 x.b) ∧ w.cell? ⟨b, 1, Option.none⟩ = some (.int .i64 x.n) ∧ w.cell? ⟨b, 2, Option.none⟩ = some (.int .u64 x.u) ∧ w.frozen? ⟨b, 0, Option.none⟩ = false ∧ w.frozen? ⟨b, 1, Option.none⟩ = false ∧ w.frozen? ⟨b, 2, Option.none⟩ = false
def Wb (w : World) (b : Nat) (q : Int × Int × Int) : Prop := b < w.heap.size ∧ w.cell? ⟨b, 0, Option.none⟩ = some (.int .i64 q.1) ∧ w.cell? ⟨b, 1, Option.none⟩ = some (.int .i64 q.2.1) ∧ w.cell? ⟨b, 2, Option.none⟩ = some (.int .i64 q.2.2)
theorem frozen_new {w : World} {a : Addr} {o : Obj} (hb : a.block < w.heap.size) (h : w.frozen? a = false) : (w.alloc o).frozen? a = false :=
  (((Below.refl w.heap.size w).alloc (Nat.le_refl _) o).frozen hb).trans h
theorem Ub.new (w : World) (x : Ut) : Ub (w.alloc (.cells #[.int .u64 x.b, .int .i64 x.n, .int .u64 x.u] 24)) w.heap.size x :=
  ⟨by simp, by simp [go_sem], by simp [go_sem], by simp [go_sem], by simp [go_sem], by simp [go_sem], by simp [go_sem]⟩
theorem Ub.new_at {w : World} {b : Nat} {x : Ut} (h : b = w.heap.size) : Ub (w.alloc (.cells #[.int .u64 x.b, .int .i64 x.n, .int .u64 x.u] 24)) b x := by
  subst h
  exact Ub.new w x
theorem Ub.alloc {w : World} {b : Nat} {x : Ut} {o : Obj} (h : Ub w b x) : Ub (w.alloc o) b x :=
  ⟨by have := h.1; simp; omega, cell_new h.2.1, cell_new h.2.2.1, cell_new h.2.2.2.1, frozen_new h.1 h.2.2.2.2.1, frozen_new h.1 h.2.2.2.2.2.1, frozen_new h.1 h.2.2.2.2.2.2⟩
theorem Ub.keep {w w' : World} {b : Nat} {x : Ut} (k : Below w.heap.size w w') (h : Ub w b x) : Ub w' b x :=
  ⟨Nat.lt_of_lt_of_le h.1 k.size, (k.cell (p := ⟨b, 0, Option.none⟩) h.1).trans h.2.1, (k.cell (p := ⟨b, 1, Option.none⟩) h.1).trans h.2.2.1, (k.cell (p := ⟨b, 2, Option.none⟩) h.1).trans h.2.2.2.1, (k.frozen (p := ⟨b, 0, Option.none⟩) h.1).trans h.2.2.2.2.1, (k.frozen (p := ⟨b, 1, Option.none⟩) h.1).trans h.2.2.2.2.2.1, (k.frozen (p := ⟨b, 2, Option.none⟩) h.1).trans h.2.2.2.2.2.2⟩
theorem Ub.drew {w : World} {b : Nat} {x : Ut} (h : Ub w b x) (k : Nat) : Ub (w.drewN k) b x := h
theorem Wb.new (w : World) (q : Int × Int × Int) : Wb (w.alloc (.cells #[.int .i64 q.1, .int .i64 q.2.1, .int .i64 q.2.2] 26)) w.heap.size q :=
  ⟨by simp, by simp [go_sem], by simp [go_sem], by simp [go_sem]⟩
theorem Wb.new_at {w : World} {b : Nat} {q : Int × Int × Int} (h : b = w.heap.size) : Wb (w.alloc (.cells #[.int .i64 q.1, .int .i64 q.2.1, .int .i64 q.2.2] 26)) b q := by
  subst h
  exact Wb.new w q
theorem Wb.alloc {w : World} {b : Nat} {q : Int × Int × Int} {o : Obj} (h : Wb w b q) : Wb (w.alloc o) b q :=
  ⟨by have := h.1; simp; omega, cell_new h.2.1, cell_new h.2.2.1, cell_new h.2.2.2⟩
theorem Wb.keep {w w' : World} {b : Nat} {q : Int × Int × Int} (k : Below w.heap.size w w') (h : Wb w b q) : Wb w' b q :=
  ⟨Nat.lt_of_lt_of_le h.1 k.size, (k.cell (p := ⟨b, 0, Option.none⟩) h.1).trans h.2.1, (k.cell (p := ⟨b, 1, Option.none⟩) h.1).trans h.2.2.1, (k.cell (p := ⟨b, 2, Option.none⟩) h.1).trans h.2.2.2⟩
theorem Wb.drew {w : World} {b : Nat} {q : Int × Int × Int} (h : Wb w b q) (k : Nat) : Wb (w.drewN k) b q := h
theorem SlIs.alloc {w : World} {v : Value} {l : List Nat} {o : Obj} (h : SlIs w v l) : SlIs (w.alloc o) v l := by
  rcases h with h | ⟨g, cap, h1, h2, h3⟩
  · exact .inl h
  · exact .inr ⟨g, cap, h1, by simp; omega, fun j hj => cell_new (h3 j hj)⟩
theorem SlIs.drew {w : World} {v : Value} {l : List Nat} (h : SlIs w v l) (k : Nat) : SlIs (w.drewN k) v l := h
theorem SlIs.of1 (w : World) (a : Nat) : SlIs (w.alloc (.cells #[.int .u64 (a : Int)] 22)) (.slice (some ⟨w.heap.size, 0, Option.none⟩) 1 1) [a] :=
  .inr ⟨w.heap.size, 1, rfl, by simp, fun j hj => by
    have h0 : j = 0 := by simp at hj; omega
    subst h0
    simp [go_sem]⟩
theorem SlIs.of2 (w : World) (a b : Nat) : SlIs (w.alloc (.cells #[.int .u64 (a : Int), .int .u64 (b : Int)] 22)) (.slice (some ⟨w.heap.size, 0, Option.none⟩) 2 2) [a, b] :=
  .inr ⟨w.heap.size, 2, rfl, by simp, fun j hj => by
    have h0 : j = 0 ∨ j = 1 := by simp at hj; omega
    rcases h0 with rfl | rfl <;> simp [go_sem]⟩
theorem below_then {w w1 w2 : World} (h : Below w.heap.size w w1) (k : Below w1.heap.size w1 w2) : Below w.heap.size w w2 := below_from h k
/-- What Place has left behind it, with the list's cells. -/
theorem place_as (x : Ut) (hb : Word x.b) (hu : Word x.u) (k n c : Int) (l : List Nat) (y : Ut) (i : Int) (h : placeU x k n c = (l, y, i)) (w : World) :
    Calls Try.prog 10 #[(.agg #[.int .u64 x.b, .int .i64 x.n, .int .u64 x.u]), .int .i64 k, .int .i64 n, .int .i64 c] w fun e w' => ∃ v, e = .returned (.tuple #[v, (.agg #[.int .u64 y.b, .int .i64 y.n, .int .u64 y.u]), .int .i64 i]) ∧ SlIs w' v l ∧ Below w.heap.size w w' := by
  refine (place_any x hb hu k n c w).mono ?_
  rw [h]
  rintro e w' ⟨v, h1, h2, h3⟩
  exact ⟨v, h1, slIs_own h2, h3⟩
theorem rplace_as (x : Ut) (hb : Word x.b) (hu : Word x.u) (k n c : Int) (l : List Nat) (y : Ut) (i : Int) (h : placeU x k n c = (l, y, i)) (w : World) :
    Calls Try.prog 11 #[(.agg #[.int .u64 x.b, .int .i64 x.n, .int .u64 x.u]), .int .i64 k, .int .i64 n, .int .i64 c] w fun e w' => ∃ v, e = .returned (.tuple #[v, (.agg #[.int .u64 y.b, .int .i64 y.n, .int .u64 y.u]), .int .i64 i]) ∧ SlIs w' v l ∧ Below w.heap.size w w' := by
  refine (rplace_any x hb hu k n c w).mono ?_
  rw [h]
  rintro e w' ⟨v, h1, h2, h3⟩
  exact ⟨v, h1, slIs_own h2, h3⟩
end Go.Proofs.Ytbgcgbelejmjiaa
