/- Small facts that the caps walks want: equality of one with itself; boxes at a place that is given. -/
import Derived.Test.YthgiofgedeijoaaCframe
import Derived.Test.YthgiofgedeijoaaCfixed
set_option linter.unusedVariables false
set_option linter.unusedSimpArgs false
namespace Go.Proofs.Ythgiofgedeijoaa
open Go.RowKit Wd Cd

theorem eq_self (c : Cp) (w : World) : (Op.equalIn 10000 24 (.agg #[.int .i64 c.k, .int .i64 c.o, .int .i64 c.r, .int .u64 c.b, .int .u64 c.g, .int .i64 c.n]) (.agg #[.int .i64 c.k, .int .i64 c.o, .int .i64 c.r, .int .u64 c.b, .int .u64 c.g, .int .i64 c.n])).run Try.prog w = .ok true w := by
  have h := eq_caps c c w
  rw [show eqB c c = true from decide_eq_true ⟨rfl, rfl, rfl, rfl, rfl, rfl⟩] at h
  exact h

theorem Box.new_at {w : World} {b : Nat} {c : Cp} (h : b = w.heap.size) : Box (w.alloc (.cells #[.int .i64 c.k, .int .i64 c.o, .int .i64 c.r, .int .u64 c.b, .int .u64 c.g, .int .i64 c.n] 24)) b c := by
  subst h
  exact Box.new w c
theorem Duo.new_at {w : World} {b : Nat} {c : Nat × Nat} (h : b = w.heap.size) : Duo (w.alloc (.cells #[.int .u64 c.1, .int .u64 c.2] 35)) b c := by
  subst h
  exact Duo.new w c
end Go.Proofs.Ythgiofgedeijoaa
