/- A capability is to the same object as itself, but for none; of two, the one as the other; of three on: for every input, no condition. -/
import Derived.Test.YthgiofgedeijoaaCmore
import Derived.Deep.RegionHeld3
import Derived.Deep.RegionWith
import Derived.Test.YthgiofgedeijoaaCfacts
set_option linter.unusedVariables false
set_option linter.unusedSimpArgs false
namespace Go.Proofs.Ythgiofgedeijoaa
open Go.ChangeShapes Go.WideShapes Go.ChangeAt Go.RowKit Go.Joins Wd Cd

theorem keep3_start (W : World) (a b c : Cp) : Below W.heap.size W (((W.alloc (.cells #[.int .i64 a.k, .int .i64 a.o, .int .i64 a.r, .int .u64 a.b, .int .u64 a.g, .int .i64 a.n] 24)).alloc (.cells #[.int .i64 b.k, .int .i64 b.o, .int .i64 b.r, .int .u64 b.b, .int .u64 b.g, .int .i64 b.n] 24)).alloc (.cells #[.int .i64 c.k, .int .i64 c.o, .int .i64 c.r, .int .u64 c.b, .int .u64 c.g, .int .i64 c.n] 24)) ∧ W.heap.size + 2 < (((W.alloc (.cells #[.int .i64 a.k, .int .i64 a.o, .int .i64 a.r, .int .u64 a.b, .int .u64 a.g, .int .i64 a.n] 24)).alloc (.cells #[.int .i64 b.k, .int .i64 b.o, .int .i64 b.r, .int .u64 b.b, .int .u64 b.g, .int .i64 b.n] 24)).alloc (.cells #[.int .i64 c.k, .int .i64 c.o, .int .i64 c.r, .int .u64 c.b, .int .u64 c.g, .int .i64 c.n] 24)).heap.size ∧ (((W.alloc (.cells #[.int .i64 a.k, .int .i64 a.o, .int .i64 a.r, .int .u64 a.b, .int .u64 a.g, .int .i64 a.n] 24)).alloc (.cells #[.int .i64 b.k, .int .i64 b.o, .int .i64 b.r, .int .u64 b.b, .int .u64 b.g, .int .i64 b.n] 24)).alloc (.cells #[.int .i64 c.k, .int .i64 c.o, .int .i64 c.r, .int .u64 c.b, .int .u64 c.g, .int .i64 c.n] 24)).cell? ⟨W.heap.size, 0, none⟩ = some (.int .i64 a.k) ∧ (((W.alloc (.cells #[.int .i64 a.k, .int .i64 a.o, .int .i64 a.r, .int .u64 a.b, .int .u64 a.g, .int .i64 a.n] 24)).alloc (.cells #[.int .i64 b.k, .int .i64 b.o, .int .i64 b.r, .int .u64 b.b, .int .u64 b.g, .int .i64 b.n] 24)).alloc (.cells #[.int .i64 c.k, .int .i64 c.o, .int .i64 c.r, .int .u64 c.b, .int .u64 c.g, .int .i64 c.n] 24)).cell? ⟨W.heap.size, 1, none⟩ = some (.int .i64 a.o) ∧ (((W.alloc (.cells #[.int .i64 a.k, .int .i64 a.o, .int .i64 a.r, .int .u64 a.b, .int .u64 a.g, .int .i64 a.n] 24)).alloc (.cells #[.int .i64 b.k, .int .i64 b.o, .int .i64 b.r, .int .u64 b.b, .int .u64 b.g, .int .i64 b.n] 24)).alloc (.cells #[.int .i64 c.k, .int .i64 c.o, .int .i64 c.r, .int .u64 c.b, .int .u64 c.g, .int .i64 c.n] 24)).cell? ⟨W.heap.size, 2, none⟩ = some (.int .i64 a.r) ∧ (((W.alloc (.cells #[.int .i64 a.k, .int .i64 a.o, .int .i64 a.r, .int .u64 a.b, .int .u64 a.g, .int .i64 a.n] 24)).alloc (.cells #[.int .i64 b.k, .int .i64 b.o, .int .i64 b.r, .int .u64 b.b, .int .u64 b.g, .int .i64 b.n] 24)).alloc (.cells #[.int .i64 c.k, .int .i64 c.o, .int .i64 c.r, .int .u64 c.b, .int .u64 c.g, .int .i64 c.n] 24)).cell? ⟨W.heap.size, 3, none⟩ = some (.int .u64 a.b) ∧ (((W.alloc (.cells #[.int .i64 a.k, .int .i64 a.o, .int .i64 a.r, .int .u64 a.b, .int .u64 a.g, .int .i64 a.n] 24)).alloc (.cells #[.int .i64 b.k, .int .i64 b.o, .int .i64 b.r, .int .u64 b.b, .int .u64 b.g, .int .i64 b.n] 24)).alloc (.cells #[.int .i64 c.k, .int .i64 c.o, .int .i64 c.r, .int .u64 c.b, .int .u64 c.g, .int .i64 c.n] 24)).cell? ⟨W.heap.size, 4, none⟩ = some (.int .u64 a.g) ∧ (((W.alloc (.cells #[.int .i64 a.k, .int .i64 a.o, .int .i64 a.r, .int .u64 a.b, .int .u64 a.g, .int .i64 a.n] 24)).alloc (.cells #[.int .i64 b.k, .int .i64 b.o, .int .i64 b.r, .int .u64 b.b, .int .u64 b.g, .int .i64 b.n] 24)).alloc (.cells #[.int .i64 c.k, .int .i64 c.o, .int .i64 c.r, .int .u64 c.b, .int .u64 c.g, .int .i64 c.n] 24)).cell? ⟨W.heap.size, 5, none⟩ = some (.int .i64 a.n) ∧ (((W.alloc (.cells #[.int .i64 a.k, .int .i64 a.o, .int .i64 a.r, .int .u64 a.b, .int .u64 a.g, .int .i64 a.n] 24)).alloc (.cells #[.int .i64 b.k, .int .i64 b.o, .int .i64 b.r, .int .u64 b.b, .int .u64 b.g, .int .i64 b.n] 24)).alloc (.cells #[.int .i64 c.k, .int .i64 c.o, .int .i64 c.r, .int .u64 c.b, .int .u64 c.g, .int .i64 c.n] 24)).cell? ⟨W.heap.size + 1, 0, none⟩ = some (.int .i64 b.k) ∧ (((W.alloc (.cells #[.int .i64 a.k, .int .i64 a.o, .int .i64 a.r, .int .u64 a.b, .int .u64 a.g, .int .i64 a.n] 24)).alloc (.cells #[.int .i64 b.k, .int .i64 b.o, .int .i64 b.r, .int .u64 b.b, .int .u64 b.g, .int .i64 b.n] 24)).alloc (.cells #[.int .i64 c.k, .int .i64 c.o, .int .i64 c.r, .int .u64 c.b, .int .u64 c.g, .int .i64 c.n] 24)).cell? ⟨W.heap.size + 1, 1, none⟩ = some (.int .i64 b.o) ∧ (((W.alloc (.cells #[.int .i64 a.k, .int .i64 a.o, .int .i64 a.r, .int .u64 a.b, .int .u64 a.g, .int .i64 a.n] 24)).alloc (.cells #[.int .i64 b.k, .int .i64 b.o, .int .i64 b.r, .int .u64 b.b, .int .u64 b.g, .int .i64 b.n] 24)).alloc (.cells #[.int .i64 c.k, .int .i64 c.o, .int .i64 c.r, .int .u64 c.b, .int .u64 c.g, .int .i64 c.n] 24)).cell? ⟨W.heap.size + 1, 2, none⟩ = some (.int .i64 b.r) ∧ (((W.alloc (.cells #[.int .i64 a.k, .int .i64 a.o, .int .i64 a.r, .int .u64 a.b, .int .u64 a.g, .int .i64 a.n] 24)).alloc (.cells #[.int .i64 b.k, .int .i64 b.o, .int .i64 b.r, .int .u64 b.b, .int .u64 b.g, .int .i64 b.n] 24)).alloc (.cells #[.int .i64 c.k, .int .i64 c.o, .int .i64 c.r, .int .u64 c.b, .int .u64 c.g, .int .i64 c.n] 24)).cell? ⟨W.heap.size + 1, 3, none⟩ = some (.int .u64 b.b) ∧ (((W.alloc (.cells #[.int .i64 a.k, .int .i64 a.o, .int .i64 a.r, .int .u64 a.b, .int .u64 a.g, .int .i64 a.n] 24)).alloc (.cells #[.int .i64 b.k, .int .i64 b.o, .int .i64 b.r, .int .u64 b.b, .int .u64 b.g, .int .i64 b.n] 24)).alloc (.cells #[.int .i64 c.k, .int .i64 c.o, .int .i64 c.r, .int .u64 c.b, .int .u64 c.g, .int .i64 c.n] 24)).cell? ⟨W.heap.size + 1, 4, none⟩ = some (.int .u64 b.g) ∧ (((W.alloc (.cells #[.int .i64 a.k, .int .i64 a.o, .int .i64 a.r, .int .u64 a.b, .int .u64 a.g, .int .i64 a.n] 24)).alloc (.cells #[.int .i64 b.k, .int .i64 b.o, .int .i64 b.r, .int .u64 b.b, .int .u64 b.g, .int .i64 b.n] 24)).alloc (.cells #[.int .i64 c.k, .int .i64 c.o, .int .i64 c.r, .int .u64 c.b, .int .u64 c.g, .int .i64 c.n] 24)).cell? ⟨W.heap.size + 1, 5, none⟩ = some (.int .i64 b.n) ∧ (((W.alloc (.cells #[.int .i64 a.k, .int .i64 a.o, .int .i64 a.r, .int .u64 a.b, .int .u64 a.g, .int .i64 a.n] 24)).alloc (.cells #[.int .i64 b.k, .int .i64 b.o, .int .i64 b.r, .int .u64 b.b, .int .u64 b.g, .int .i64 b.n] 24)).alloc (.cells #[.int .i64 c.k, .int .i64 c.o, .int .i64 c.r, .int .u64 c.b, .int .u64 c.g, .int .i64 c.n] 24)).cell? ⟨W.heap.size + 2, 0, none⟩ = some (.int .i64 c.k) ∧ (((W.alloc (.cells #[.int .i64 a.k, .int .i64 a.o, .int .i64 a.r, .int .u64 a.b, .int .u64 a.g, .int .i64 a.n] 24)).alloc (.cells #[.int .i64 b.k, .int .i64 b.o, .int .i64 b.r, .int .u64 b.b, .int .u64 b.g, .int .i64 b.n] 24)).alloc (.cells #[.int .i64 c.k, .int .i64 c.o, .int .i64 c.r, .int .u64 c.b, .int .u64 c.g, .int .i64 c.n] 24)).cell? ⟨W.heap.size + 2, 1, none⟩ = some (.int .i64 c.o) ∧ (((W.alloc (.cells #[.int .i64 a.k, .int .i64 a.o, .int .i64 a.r, .int .u64 a.b, .int .u64 a.g, .int .i64 a.n] 24)).alloc (.cells #[.int .i64 b.k, .int .i64 b.o, .int .i64 b.r, .int .u64 b.b, .int .u64 b.g, .int .i64 b.n] 24)).alloc (.cells #[.int .i64 c.k, .int .i64 c.o, .int .i64 c.r, .int .u64 c.b, .int .u64 c.g, .int .i64 c.n] 24)).cell? ⟨W.heap.size + 2, 2, none⟩ = some (.int .i64 c.r) ∧ (((W.alloc (.cells #[.int .i64 a.k, .int .i64 a.o, .int .i64 a.r, .int .u64 a.b, .int .u64 a.g, .int .i64 a.n] 24)).alloc (.cells #[.int .i64 b.k, .int .i64 b.o, .int .i64 b.r, .int .u64 b.b, .int .u64 b.g, .int .i64 b.n] 24)).alloc (.cells #[.int .i64 c.k, .int .i64 c.o, .int .i64 c.r, .int .u64 c.b, .int .u64 c.g, .int .i64 c.n] 24)).cell? ⟨W.heap.size + 2, 3, none⟩ = some (.int .u64 c.b) ∧ (((W.alloc (.cells #[.int .i64 a.k, .int .i64 a.o, .int .i64 a.r, .int .u64 a.b, .int .u64 a.g, .int .i64 a.n] 24)).alloc (.cells #[.int .i64 b.k, .int .i64 b.o, .int .i64 b.r, .int .u64 b.b, .int .u64 b.g, .int .i64 b.n] 24)).alloc (.cells #[.int .i64 c.k, .int .i64 c.o, .int .i64 c.r, .int .u64 c.b, .int .u64 c.g, .int .i64 c.n] 24)).cell? ⟨W.heap.size + 2, 4, none⟩ = some (.int .u64 c.g) ∧ (((W.alloc (.cells #[.int .i64 a.k, .int .i64 a.o, .int .i64 a.r, .int .u64 a.b, .int .u64 a.g, .int .i64 a.n] 24)).alloc (.cells #[.int .i64 b.k, .int .i64 b.o, .int .i64 b.r, .int .u64 b.b, .int .u64 b.g, .int .i64 b.n] 24)).alloc (.cells #[.int .i64 c.k, .int .i64 c.o, .int .i64 c.r, .int .u64 c.b, .int .u64 c.g, .int .i64 c.n] 24)).cell? ⟨W.heap.size + 2, 5, none⟩ = some (.int .i64 c.n) := by
  refine ⟨below_new (below_new (below_new (Below.refl _ _) _) _) _, by simp, ?_, ?_, ?_, ?_, ?_, ?_, ?_, ?_, ?_, ?_, ?_, ?_, ?_, ?_, ?_, ?_, ?_, ?_⟩ <;> simp [go_sem]
theorem keep3_drew {W w' : World} {a b c : Cp} (h : Below W.heap.size W w' ∧ W.heap.size + 2 < w'.heap.size ∧ w'.cell? ⟨W.heap.size, 0, none⟩ = some (.int .i64 a.k) ∧ w'.cell? ⟨W.heap.size, 1, none⟩ = some (.int .i64 a.o) ∧ w'.cell? ⟨W.heap.size, 2, none⟩ = some (.int .i64 a.r) ∧ w'.cell? ⟨W.heap.size, 3, none⟩ = some (.int .u64 a.b) ∧ w'.cell? ⟨W.heap.size, 4, none⟩ = some (.int .u64 a.g) ∧ w'.cell? ⟨W.heap.size, 5, none⟩ = some (.int .i64 a.n) ∧ w'.cell? ⟨W.heap.size + 1, 0, none⟩ = some (.int .i64 b.k) ∧ w'.cell? ⟨W.heap.size + 1, 1, none⟩ = some (.int .i64 b.o) ∧ w'.cell? ⟨W.heap.size + 1, 2, none⟩ = some (.int .i64 b.r) ∧ w'.cell? ⟨W.heap.size + 1, 3, none⟩ = some (.int .u64 b.b) ∧ w'.cell? ⟨W.heap.size + 1, 4, none⟩ = some (.int .u64 b.g) ∧ w'.cell? ⟨W.heap.size + 1, 5, none⟩ = some (.int .i64 b.n) ∧ w'.cell? ⟨W.heap.size + 2, 0, none⟩ = some (.int .i64 c.k) ∧ w'.cell? ⟨W.heap.size + 2, 1, none⟩ = some (.int .i64 c.o) ∧ w'.cell? ⟨W.heap.size + 2, 2, none⟩ = some (.int .i64 c.r) ∧ w'.cell? ⟨W.heap.size + 2, 3, none⟩ = some (.int .u64 c.b) ∧ w'.cell? ⟨W.heap.size + 2, 4, none⟩ = some (.int .u64 c.g) ∧ w'.cell? ⟨W.heap.size + 2, 5, none⟩ = some (.int .i64 c.n)) : Below W.heap.size W w'.drew ∧ W.heap.size + 2 < w'.drew.heap.size ∧ w'.drew.cell? ⟨W.heap.size, 0, none⟩ = some (.int .i64 a.k) ∧ w'.drew.cell? ⟨W.heap.size, 1, none⟩ = some (.int .i64 a.o) ∧ w'.drew.cell? ⟨W.heap.size, 2, none⟩ = some (.int .i64 a.r) ∧ w'.drew.cell? ⟨W.heap.size, 3, none⟩ = some (.int .u64 a.b) ∧ w'.drew.cell? ⟨W.heap.size, 4, none⟩ = some (.int .u64 a.g) ∧ w'.drew.cell? ⟨W.heap.size, 5, none⟩ = some (.int .i64 a.n) ∧ w'.drew.cell? ⟨W.heap.size + 1, 0, none⟩ = some (.int .i64 b.k) ∧ w'.drew.cell? ⟨W.heap.size + 1, 1, none⟩ = some (.int .i64 b.o) ∧ w'.drew.cell? ⟨W.heap.size + 1, 2, none⟩ = some (.int .i64 b.r) ∧ w'.drew.cell? ⟨W.heap.size + 1, 3, none⟩ = some (.int .u64 b.b) ∧ w'.drew.cell? ⟨W.heap.size + 1, 4, none⟩ = some (.int .u64 b.g) ∧ w'.drew.cell? ⟨W.heap.size + 1, 5, none⟩ = some (.int .i64 b.n) ∧ w'.drew.cell? ⟨W.heap.size + 2, 0, none⟩ = some (.int .i64 c.k) ∧ w'.drew.cell? ⟨W.heap.size + 2, 1, none⟩ = some (.int .i64 c.o) ∧ w'.drew.cell? ⟨W.heap.size + 2, 2, none⟩ = some (.int .i64 c.r) ∧ w'.drew.cell? ⟨W.heap.size + 2, 3, none⟩ = some (.int .u64 c.b) ∧ w'.drew.cell? ⟨W.heap.size + 2, 4, none⟩ = some (.int .u64 c.g) ∧ w'.drew.cell? ⟨W.heap.size + 2, 5, none⟩ = some (.int .i64 c.n) := by
  obtain ⟨h0, h1, q0, q1, q2, q3, q4, q5, q6, q7, q8, q9, q10, q11, q12, q13, q14, q15, q16, q17⟩ := h
  exact ⟨h0.drew, h1, q0, q1, q2, q3, q4, q5, q6, q7, q8, q9, q10, q11, q12, q13, q14, q15, q16, q17⟩
theorem keep3_on {W w' w'' : World} {a b c : Cp} (h : Below W.heap.size W w' ∧ W.heap.size + 2 < w'.heap.size ∧ w'.cell? ⟨W.heap.size, 0, none⟩ = some (.int .i64 a.k) ∧ w'.cell? ⟨W.heap.size, 1, none⟩ = some (.int .i64 a.o) ∧ w'.cell? ⟨W.heap.size, 2, none⟩ = some (.int .i64 a.r) ∧ w'.cell? ⟨W.heap.size, 3, none⟩ = some (.int .u64 a.b) ∧ w'.cell? ⟨W.heap.size, 4, none⟩ = some (.int .u64 a.g) ∧ w'.cell? ⟨W.heap.size, 5, none⟩ = some (.int .i64 a.n) ∧ w'.cell? ⟨W.heap.size + 1, 0, none⟩ = some (.int .i64 b.k) ∧ w'.cell? ⟨W.heap.size + 1, 1, none⟩ = some (.int .i64 b.o) ∧ w'.cell? ⟨W.heap.size + 1, 2, none⟩ = some (.int .i64 b.r) ∧ w'.cell? ⟨W.heap.size + 1, 3, none⟩ = some (.int .u64 b.b) ∧ w'.cell? ⟨W.heap.size + 1, 4, none⟩ = some (.int .u64 b.g) ∧ w'.cell? ⟨W.heap.size + 1, 5, none⟩ = some (.int .i64 b.n) ∧ w'.cell? ⟨W.heap.size + 2, 0, none⟩ = some (.int .i64 c.k) ∧ w'.cell? ⟨W.heap.size + 2, 1, none⟩ = some (.int .i64 c.o) ∧ w'.cell? ⟨W.heap.size + 2, 2, none⟩ = some (.int .i64 c.r) ∧ w'.cell? ⟨W.heap.size + 2, 3, none⟩ = some (.int .u64 c.b) ∧ w'.cell? ⟨W.heap.size + 2, 4, none⟩ = some (.int .u64 c.g) ∧ w'.cell? ⟨W.heap.size + 2, 5, none⟩ = some (.int .i64 c.n)) (hb : Below w'.heap.size w' w'') : Below W.heap.size W w'' ∧ W.heap.size + 2 < w''.heap.size ∧ w''.cell? ⟨W.heap.size, 0, none⟩ = some (.int .i64 a.k) ∧ w''.cell? ⟨W.heap.size, 1, none⟩ = some (.int .i64 a.o) ∧ w''.cell? ⟨W.heap.size, 2, none⟩ = some (.int .i64 a.r) ∧ w''.cell? ⟨W.heap.size, 3, none⟩ = some (.int .u64 a.b) ∧ w''.cell? ⟨W.heap.size, 4, none⟩ = some (.int .u64 a.g) ∧ w''.cell? ⟨W.heap.size, 5, none⟩ = some (.int .i64 a.n) ∧ w''.cell? ⟨W.heap.size + 1, 0, none⟩ = some (.int .i64 b.k) ∧ w''.cell? ⟨W.heap.size + 1, 1, none⟩ = some (.int .i64 b.o) ∧ w''.cell? ⟨W.heap.size + 1, 2, none⟩ = some (.int .i64 b.r) ∧ w''.cell? ⟨W.heap.size + 1, 3, none⟩ = some (.int .u64 b.b) ∧ w''.cell? ⟨W.heap.size + 1, 4, none⟩ = some (.int .u64 b.g) ∧ w''.cell? ⟨W.heap.size + 1, 5, none⟩ = some (.int .i64 b.n) ∧ w''.cell? ⟨W.heap.size + 2, 0, none⟩ = some (.int .i64 c.k) ∧ w''.cell? ⟨W.heap.size + 2, 1, none⟩ = some (.int .i64 c.o) ∧ w''.cell? ⟨W.heap.size + 2, 2, none⟩ = some (.int .i64 c.r) ∧ w''.cell? ⟨W.heap.size + 2, 3, none⟩ = some (.int .u64 c.b) ∧ w''.cell? ⟨W.heap.size + 2, 4, none⟩ = some (.int .u64 c.g) ∧ w''.cell? ⟨W.heap.size + 2, 5, none⟩ = some (.int .i64 c.n) := by
  obtain ⟨h0, h1, q0, q1, q2, q3, q4, q5, q6, q7, q8, q9, q10, q11, q12, q13, q14, q15, q16, q17⟩ := h
  have key : ∀ {p : Addr} {v : Value}, w'.cell? p = some v → w''.cell? p = some v := fun h => (hb.cell (World.block_lt_of_cell? w' _ h)).trans h
  exact ⟨below_then h0 hb, Nat.lt_of_lt_of_le h1 hb.size, key q0, key q1, key q2, key q3, key q4, key q5, key q6, key q7, key q8, key q9, key q10, key q11, key q12, key q13, key q14, key q15, key q16, key q17⟩
theorem same_is (a b : Cp) (t : Bool) (h : sameB a b = t) (w : World) : Calls Try.prog 15 #[(.agg #[.int .i64 a.k, .int .i64 a.o, .int .i64 a.r, .int .u64 a.b, .int .u64 a.g, .int .i64 a.n]), (.agg #[.int .i64 b.k, .int .i64 b.o, .int .i64 b.r, .int .u64 b.b, .int .u64 b.g, .int .i64 b.n])] w fun e w' => e = .returned (.bool t) ∧ Below w.heap.size w w' := by
  have k := same_below a b w
  rw [h] at k
  exact k

set_option maxRecDepth 100000 in
set_option maxHeartbeats 6400000 in
theorem capsSame_none (a b c : Cp) (taa : sameB a a = false) (tab : sameB a b = false) (tba : sameB b a = false) (k1 : (a.k != 0) = false) (W : World) :
    Calls Try.prog 9 #[(.agg #[.int .i64 a.k, .int .i64 a.o, .int .i64 a.r, .int .u64 a.b, .int .u64 a.g, .int .i64 a.n]), (.agg #[.int .i64 b.k, .int .i64 b.o, .int .i64 b.r, .int .u64 b.b, .int .u64 b.g, .int .i64 b.n]), (.agg #[.int .i64 c.k, .int .i64 c.o, .int .i64 c.r, .int .u64 c.b, .int .u64 c.g, .int .i64 c.n])] W fun e w' => e = .returned (.bool true) ∧ Below W.heap.size W w' := by
  have Taa := Lib.hid taa
  clear taa
  have Tab := Lib.hid tab
  clear tab
  have Tba := Lib.hid tba
  clear tba
  go_enter Try.func9, Try.ntmps9
  go_wp2_with fail
  go_region_held3 (fun w' => Below W.heap.size W w' ∧ W.heap.size + 2 < w'.heap.size ∧ w'.cell? ⟨W.heap.size, 0, none⟩ = some (.int .i64 a.k) ∧ w'.cell? ⟨W.heap.size, 1, none⟩ = some (.int .i64 a.o) ∧ w'.cell? ⟨W.heap.size, 2, none⟩ = some (.int .i64 a.r) ∧ w'.cell? ⟨W.heap.size, 3, none⟩ = some (.int .u64 a.b) ∧ w'.cell? ⟨W.heap.size, 4, none⟩ = some (.int .u64 a.g) ∧ w'.cell? ⟨W.heap.size, 5, none⟩ = some (.int .i64 a.n) ∧ w'.cell? ⟨W.heap.size + 1, 0, none⟩ = some (.int .i64 b.k) ∧ w'.cell? ⟨W.heap.size + 1, 1, none⟩ = some (.int .i64 b.o) ∧ w'.cell? ⟨W.heap.size + 1, 2, none⟩ = some (.int .i64 b.r) ∧ w'.cell? ⟨W.heap.size + 1, 3, none⟩ = some (.int .u64 b.b) ∧ w'.cell? ⟨W.heap.size + 1, 4, none⟩ = some (.int .u64 b.g) ∧ w'.cell? ⟨W.heap.size + 1, 5, none⟩ = some (.int .i64 b.n) ∧ w'.cell? ⟨W.heap.size + 2, 0, none⟩ = some (.int .i64 c.k) ∧ w'.cell? ⟨W.heap.size + 2, 1, none⟩ = some (.int .i64 c.o) ∧ w'.cell? ⟨W.heap.size + 2, 2, none⟩ = some (.int .i64 c.r) ∧ w'.cell? ⟨W.heap.size + 2, 3, none⟩ = some (.int .u64 c.b) ∧ w'.cell? ⟨W.heap.size + 2, 4, none⟩ = some (.int .u64 c.g) ∧ w'.cell? ⟨W.heap.size + 2, 5, none⟩ = some (.int .i64 c.n))
    (first | exact keep3_drew (keep3_start W a b c) | (refine keep3_on ?_ hb; assumption))
    (first
      | (go_at_call_of 15 (#[(Value.agg #[.int .i64 a.k, .int .i64 a.o, .int .i64 a.r, .int .u64 a.b, .int .u64 a.g, .int .i64 a.n]), (Value.agg #[.int .i64 a.k, .int .i64 a.o, .int .i64 a.r, .int .u64 a.b, .int .u64 a.g, .int .i64 a.n])] : Array Value); refine (same_is a a false Taa.out _).mono ?_; rintro e w' ⟨rfl, hb⟩)
      | (go_at_call_of 15 (#[(Value.agg #[.int .i64 a.k, .int .i64 a.o, .int .i64 a.r, .int .u64 a.b, .int .u64 a.g, .int .i64 a.n]), (Value.agg #[.int .i64 b.k, .int .i64 b.o, .int .i64 b.r, .int .u64 b.b, .int .u64 b.g, .int .i64 b.n])] : Array Value); refine (same_is a b false Tab.out _).mono ?_; rintro e w' ⟨rfl, hb⟩)
      | (go_at_call_of 15 (#[(Value.agg #[.int .i64 b.k, .int .i64 b.o, .int .i64 b.r, .int .u64 b.b, .int .u64 b.g, .int .i64 b.n]), (Value.agg #[.int .i64 a.k, .int .i64 a.o, .int .i64 a.r, .int .u64 a.b, .int .u64 a.g, .int .i64 a.n])] : Array Value); refine (same_is b a false Tba.out _).mono ?_; rintro e w' ⟨rfl, hb⟩))
  rename_i hH
  obtain ⟨h0, h1, q0, q1, q2, q3, q4, q5, q6, q7, q8, q9, q10, q11, q12, q13, q14, q15, q16, q17⟩  := hH
  clear hb
  have CA : Hid (Box w' (W.heap.size) a) := Lib.hid ⟨by omega, q0, q1, q2, q3, q4, q5⟩
  have CB : Hid (Box w' (W.heap.size + 1) b) := Lib.hid ⟨by omega, q6, q7, q8, q9, q10, q11⟩
  have CC : Hid (Box w' (W.heap.size + 2) c) := Lib.hid ⟨by omega, q12, q13, q14, q15, q16, q17⟩
  have HB1 := Lib.hid h0
  clear h0 h1 q0 q1 q2 q3 q4 q5 q6 q7 q8 q9 q10 q11 q12 q13 q14 q15 q16 q17
  obtain ⟨zCA, cCA0, cCA1, cCA2, cCA3, cCA4, cCA5⟩ := CA.out
  have nCA : ¬ W.heap.size = w'.heap.size := by omega
  obtain ⟨zCB, cCB0, cCB1, cCB2, cCB3, cCB4, cCB5⟩ := CB.out
  have nCB : ¬ (W.heap.size + 1) = w'.heap.size := by omega
  go_wp2_with fail
  clear zCA nCA cCA0 cCA1 cCA2 cCA3 cCA4 cCA5
  clear zCB nCB cCB0 cCB1 cCB2 cCB3 cCB4 cCB5
  refine ((same_is a b false Tab.out) _).mono ?_
  rintro e w2 ⟨rfl, hb⟩
  have CA' : Box w2 (W.heap.size) a := Box.keep hb (by repeat (first | exact CA.out | exact Box.new _ a | exact Box.new_at (c := a) (by simp) | apply Box.alloc))
  clear CA
  have CA := Lib.hid CA'
  clear CA'
  have CB' : Box w2 ((W.heap.size + 1)) b := Box.keep hb (by repeat (first | exact CB.out | exact Box.new _ b | exact Box.new_at (c := b) (by simp) | apply Box.alloc))
  clear CB
  have CB := Lib.hid CB'
  clear CB'
  have CC' : Box w2 ((W.heap.size + 2)) c := Box.keep hb (by repeat (first | exact CC.out | exact Box.new _ c | exact Box.new_at (c := c) (by simp) | apply Box.alloc))
  clear CC
  have CC := Lib.hid CC'
  clear CC'
  have HB2 : Hid (Below W.heap.size W w2) := Lib.hid (below_then (by repeat (first | exact HB1.out | apply below_new | apply below_draws)) hb)
  clear hb HB1
  go_wp2_with fail
  refine (fixed_true _).mono ?_
  rintro e w3 ⟨rfl, hb⟩
  clear CA
  clear CB
  clear CC
  have HB3 : Hid (Below W.heap.size W w3) := Lib.hid (below_then (by repeat (first | exact HB2.out | apply below_new | apply below_draws)) hb)
  clear hb HB2
  go_wp2_with fail
  go_ret
  exact ⟨rfl, (by repeat (first | exact HB3.out | apply below_new | apply below_draws))⟩

set_option maxRecDepth 100000 in
set_option maxHeartbeats 6400000 in
theorem capsSame_ne (a b c : Cp) (taa : sameB a a = true) (tab : sameB a b = false) (tba : sameB b a = false) (k1 : (a.k != 0) = true) (W : World) :
    Calls Try.prog 9 #[(.agg #[.int .i64 a.k, .int .i64 a.o, .int .i64 a.r, .int .u64 a.b, .int .u64 a.g, .int .i64 a.n]), (.agg #[.int .i64 b.k, .int .i64 b.o, .int .i64 b.r, .int .u64 b.b, .int .u64 b.g, .int .i64 b.n]), (.agg #[.int .i64 c.k, .int .i64 c.o, .int .i64 c.r, .int .u64 c.b, .int .u64 c.g, .int .i64 c.n])] W fun e w' => e = .returned (.bool true) ∧ Below W.heap.size W w' := by
  have Taa := Lib.hid taa
  clear taa
  have Tab := Lib.hid tab
  clear tab
  have Tba := Lib.hid tba
  clear tba
  go_enter Try.func9, Try.ntmps9
  go_wp2_with fail
  go_region_held3 (fun w' => Below W.heap.size W w' ∧ W.heap.size + 2 < w'.heap.size ∧ w'.cell? ⟨W.heap.size, 0, none⟩ = some (.int .i64 a.k) ∧ w'.cell? ⟨W.heap.size, 1, none⟩ = some (.int .i64 a.o) ∧ w'.cell? ⟨W.heap.size, 2, none⟩ = some (.int .i64 a.r) ∧ w'.cell? ⟨W.heap.size, 3, none⟩ = some (.int .u64 a.b) ∧ w'.cell? ⟨W.heap.size, 4, none⟩ = some (.int .u64 a.g) ∧ w'.cell? ⟨W.heap.size, 5, none⟩ = some (.int .i64 a.n) ∧ w'.cell? ⟨W.heap.size + 1, 0, none⟩ = some (.int .i64 b.k) ∧ w'.cell? ⟨W.heap.size + 1, 1, none⟩ = some (.int .i64 b.o) ∧ w'.cell? ⟨W.heap.size + 1, 2, none⟩ = some (.int .i64 b.r) ∧ w'.cell? ⟨W.heap.size + 1, 3, none⟩ = some (.int .u64 b.b) ∧ w'.cell? ⟨W.heap.size + 1, 4, none⟩ = some (.int .u64 b.g) ∧ w'.cell? ⟨W.heap.size + 1, 5, none⟩ = some (.int .i64 b.n) ∧ w'.cell? ⟨W.heap.size + 2, 0, none⟩ = some (.int .i64 c.k) ∧ w'.cell? ⟨W.heap.size + 2, 1, none⟩ = some (.int .i64 c.o) ∧ w'.cell? ⟨W.heap.size + 2, 2, none⟩ = some (.int .i64 c.r) ∧ w'.cell? ⟨W.heap.size + 2, 3, none⟩ = some (.int .u64 c.b) ∧ w'.cell? ⟨W.heap.size + 2, 4, none⟩ = some (.int .u64 c.g) ∧ w'.cell? ⟨W.heap.size + 2, 5, none⟩ = some (.int .i64 c.n))
    (first | exact keep3_drew (keep3_start W a b c) | (refine keep3_on ?_ hb; assumption))
    (first
      | (go_at_call_of 15 (#[(Value.agg #[.int .i64 a.k, .int .i64 a.o, .int .i64 a.r, .int .u64 a.b, .int .u64 a.g, .int .i64 a.n]), (Value.agg #[.int .i64 a.k, .int .i64 a.o, .int .i64 a.r, .int .u64 a.b, .int .u64 a.g, .int .i64 a.n])] : Array Value); refine (same_is a a true Taa.out _).mono ?_; rintro e w' ⟨rfl, hb⟩)
      | (go_at_call_of 15 (#[(Value.agg #[.int .i64 a.k, .int .i64 a.o, .int .i64 a.r, .int .u64 a.b, .int .u64 a.g, .int .i64 a.n]), (Value.agg #[.int .i64 b.k, .int .i64 b.o, .int .i64 b.r, .int .u64 b.b, .int .u64 b.g, .int .i64 b.n])] : Array Value); refine (same_is a b false Tab.out _).mono ?_; rintro e w' ⟨rfl, hb⟩)
      | (go_at_call_of 15 (#[(Value.agg #[.int .i64 b.k, .int .i64 b.o, .int .i64 b.r, .int .u64 b.b, .int .u64 b.g, .int .i64 b.n]), (Value.agg #[.int .i64 a.k, .int .i64 a.o, .int .i64 a.r, .int .u64 a.b, .int .u64 a.g, .int .i64 a.n])] : Array Value); refine (same_is b a false Tba.out _).mono ?_; rintro e w' ⟨rfl, hb⟩))
  rename_i hH
  obtain ⟨h0, h1, q0, q1, q2, q3, q4, q5, q6, q7, q8, q9, q10, q11, q12, q13, q14, q15, q16, q17⟩  := hH
  clear hb
  have CA : Hid (Box w' (W.heap.size) a) := Lib.hid ⟨by omega, q0, q1, q2, q3, q4, q5⟩
  have CB : Hid (Box w' (W.heap.size + 1) b) := Lib.hid ⟨by omega, q6, q7, q8, q9, q10, q11⟩
  have CC : Hid (Box w' (W.heap.size + 2) c) := Lib.hid ⟨by omega, q12, q13, q14, q15, q16, q17⟩
  have HB1 := Lib.hid h0
  clear h0 h1 q0 q1 q2 q3 q4 q5 q6 q7 q8 q9 q10 q11 q12 q13 q14 q15 q16 q17
  obtain ⟨zCA, cCA0, cCA1, cCA2, cCA3, cCA4, cCA5⟩ := CA.out
  have nCA : ¬ W.heap.size = w'.heap.size := by omega
  obtain ⟨zCB, cCB0, cCB1, cCB2, cCB3, cCB4, cCB5⟩ := CB.out
  have nCB : ¬ (W.heap.size + 1) = w'.heap.size := by omega
  go_wp2_with fail
  clear zCA nCA cCA0 cCA1 cCA2 cCA3 cCA4 cCA5
  clear zCB nCB cCB0 cCB1 cCB2 cCB3 cCB4 cCB5
  refine ((same_is a b false Tab.out) _).mono ?_
  rintro e w2 ⟨rfl, hb⟩
  have CA' : Box w2 (W.heap.size) a := Box.keep hb (by repeat (first | exact CA.out | exact Box.new _ a | exact Box.new_at (c := a) (by simp) | apply Box.alloc))
  clear CA
  have CA := Lib.hid CA'
  clear CA'
  have CB' : Box w2 ((W.heap.size + 1)) b := Box.keep hb (by repeat (first | exact CB.out | exact Box.new _ b | exact Box.new_at (c := b) (by simp) | apply Box.alloc))
  clear CB
  have CB := Lib.hid CB'
  clear CB'
  have CC' : Box w2 ((W.heap.size + 2)) c := Box.keep hb (by repeat (first | exact CC.out | exact Box.new _ c | exact Box.new_at (c := c) (by simp) | apply Box.alloc))
  clear CC
  have CC := Lib.hid CC'
  clear CC'
  have HB2 : Hid (Below W.heap.size W w2) := Lib.hid (below_then (by repeat (first | exact HB1.out | apply below_new | apply below_draws)) hb)
  clear hb HB1
  go_wp2_with fail
  refine (fixed_true _).mono ?_
  rintro e w3 ⟨rfl, hb⟩
  clear CA
  clear CB
  clear CC
  have HB3 : Hid (Below W.heap.size W w3) := Lib.hid (below_then (by repeat (first | exact HB2.out | apply below_new | apply below_draws)) hb)
  clear hb HB2
  go_wp2_with fail
  go_ret
  exact ⟨rfl, (by repeat (first | exact HB3.out | apply below_new | apply below_draws))⟩

set_option maxRecDepth 100000 in
set_option maxHeartbeats 6400000 in
theorem capsSame_bn (a b c : Cp) (taa : sameB a a = true) (tab : sameB a b = true) (tba : sameB b a = true) (tbc : sameB b c = false) (k1 : (a.k != 0) = true) (W : World) :
    Calls Try.prog 9 #[(.agg #[.int .i64 a.k, .int .i64 a.o, .int .i64 a.r, .int .u64 a.b, .int .u64 a.g, .int .i64 a.n]), (.agg #[.int .i64 b.k, .int .i64 b.o, .int .i64 b.r, .int .u64 b.b, .int .u64 b.g, .int .i64 b.n]), (.agg #[.int .i64 c.k, .int .i64 c.o, .int .i64 c.r, .int .u64 c.b, .int .u64 c.g, .int .i64 c.n])] W fun e w' => e = .returned (.bool true) ∧ Below W.heap.size W w' := by
  have Taa := Lib.hid taa
  clear taa
  have Tab := Lib.hid tab
  clear tab
  have Tba := Lib.hid tba
  clear tba
  have Tbc := Lib.hid tbc
  clear tbc
  go_enter Try.func9, Try.ntmps9
  go_wp2_with fail
  go_region_held3 (fun w' => Below W.heap.size W w' ∧ W.heap.size + 2 < w'.heap.size ∧ w'.cell? ⟨W.heap.size, 0, none⟩ = some (.int .i64 a.k) ∧ w'.cell? ⟨W.heap.size, 1, none⟩ = some (.int .i64 a.o) ∧ w'.cell? ⟨W.heap.size, 2, none⟩ = some (.int .i64 a.r) ∧ w'.cell? ⟨W.heap.size, 3, none⟩ = some (.int .u64 a.b) ∧ w'.cell? ⟨W.heap.size, 4, none⟩ = some (.int .u64 a.g) ∧ w'.cell? ⟨W.heap.size, 5, none⟩ = some (.int .i64 a.n) ∧ w'.cell? ⟨W.heap.size + 1, 0, none⟩ = some (.int .i64 b.k) ∧ w'.cell? ⟨W.heap.size + 1, 1, none⟩ = some (.int .i64 b.o) ∧ w'.cell? ⟨W.heap.size + 1, 2, none⟩ = some (.int .i64 b.r) ∧ w'.cell? ⟨W.heap.size + 1, 3, none⟩ = some (.int .u64 b.b) ∧ w'.cell? ⟨W.heap.size + 1, 4, none⟩ = some (.int .u64 b.g) ∧ w'.cell? ⟨W.heap.size + 1, 5, none⟩ = some (.int .i64 b.n) ∧ w'.cell? ⟨W.heap.size + 2, 0, none⟩ = some (.int .i64 c.k) ∧ w'.cell? ⟨W.heap.size + 2, 1, none⟩ = some (.int .i64 c.o) ∧ w'.cell? ⟨W.heap.size + 2, 2, none⟩ = some (.int .i64 c.r) ∧ w'.cell? ⟨W.heap.size + 2, 3, none⟩ = some (.int .u64 c.b) ∧ w'.cell? ⟨W.heap.size + 2, 4, none⟩ = some (.int .u64 c.g) ∧ w'.cell? ⟨W.heap.size + 2, 5, none⟩ = some (.int .i64 c.n))
    (first | exact keep3_drew (keep3_start W a b c) | (refine keep3_on ?_ hb; assumption))
    (first
      | (go_at_call_of 15 (#[(Value.agg #[.int .i64 a.k, .int .i64 a.o, .int .i64 a.r, .int .u64 a.b, .int .u64 a.g, .int .i64 a.n]), (Value.agg #[.int .i64 a.k, .int .i64 a.o, .int .i64 a.r, .int .u64 a.b, .int .u64 a.g, .int .i64 a.n])] : Array Value); refine (same_is a a true Taa.out _).mono ?_; rintro e w' ⟨rfl, hb⟩)
      | (go_at_call_of 15 (#[(Value.agg #[.int .i64 a.k, .int .i64 a.o, .int .i64 a.r, .int .u64 a.b, .int .u64 a.g, .int .i64 a.n]), (Value.agg #[.int .i64 b.k, .int .i64 b.o, .int .i64 b.r, .int .u64 b.b, .int .u64 b.g, .int .i64 b.n])] : Array Value); refine (same_is a b true Tab.out _).mono ?_; rintro e w' ⟨rfl, hb⟩)
      | (go_at_call_of 15 (#[(Value.agg #[.int .i64 b.k, .int .i64 b.o, .int .i64 b.r, .int .u64 b.b, .int .u64 b.g, .int .i64 b.n]), (Value.agg #[.int .i64 a.k, .int .i64 a.o, .int .i64 a.r, .int .u64 a.b, .int .u64 a.g, .int .i64 a.n])] : Array Value); refine (same_is b a true Tba.out _).mono ?_; rintro e w' ⟨rfl, hb⟩)
      | (go_at_call_of 15 (#[(Value.agg #[.int .i64 b.k, .int .i64 b.o, .int .i64 b.r, .int .u64 b.b, .int .u64 b.g, .int .i64 b.n]), (Value.agg #[.int .i64 c.k, .int .i64 c.o, .int .i64 c.r, .int .u64 c.b, .int .u64 c.g, .int .i64 c.n])] : Array Value); refine (same_is b c false Tbc.out _).mono ?_; rintro e w' ⟨rfl, hb⟩))
  rename_i hH
  obtain ⟨h0, h1, q0, q1, q2, q3, q4, q5, q6, q7, q8, q9, q10, q11, q12, q13, q14, q15, q16, q17⟩  := hH
  clear hb
  have CA : Hid (Box w' (W.heap.size) a) := Lib.hid ⟨by omega, q0, q1, q2, q3, q4, q5⟩
  have CB : Hid (Box w' (W.heap.size + 1) b) := Lib.hid ⟨by omega, q6, q7, q8, q9, q10, q11⟩
  have CC : Hid (Box w' (W.heap.size + 2) c) := Lib.hid ⟨by omega, q12, q13, q14, q15, q16, q17⟩
  have HB1 := Lib.hid h0
  clear h0 h1 q0 q1 q2 q3 q4 q5 q6 q7 q8 q9 q10 q11 q12 q13 q14 q15 q16 q17
  obtain ⟨zCA, cCA0, cCA1, cCA2, cCA3, cCA4, cCA5⟩ := CA.out
  have nCA : ¬ W.heap.size = w'.heap.size := by omega
  obtain ⟨zCB, cCB0, cCB1, cCB2, cCB3, cCB4, cCB5⟩ := CB.out
  have nCB : ¬ (W.heap.size + 1) = w'.heap.size := by omega
  go_wp2_with fail
  clear zCA nCA cCA0 cCA1 cCA2 cCA3 cCA4 cCA5
  clear zCB nCB cCB0 cCB1 cCB2 cCB3 cCB4 cCB5
  refine ((same_is a b true Tab.out) _).mono ?_
  rintro e w2 ⟨rfl, hb⟩
  have CA' : Box w2 (W.heap.size) a := Box.keep hb (by repeat (first | exact CA.out | exact Box.new _ a | exact Box.new_at (c := a) (by simp) | apply Box.alloc))
  clear CA
  have CA := Lib.hid CA'
  clear CA'
  have CB' : Box w2 ((W.heap.size + 1)) b := Box.keep hb (by repeat (first | exact CB.out | exact Box.new _ b | exact Box.new_at (c := b) (by simp) | apply Box.alloc))
  clear CB
  have CB := Lib.hid CB'
  clear CB'
  have CC' : Box w2 ((W.heap.size + 2)) c := Box.keep hb (by repeat (first | exact CC.out | exact Box.new _ c | exact Box.new_at (c := c) (by simp) | apply Box.alloc))
  clear CC
  have CC := Lib.hid CC'
  clear CC'
  have HB2 : Hid (Below W.heap.size W w2) := Lib.hid (below_then (by repeat (first | exact HB1.out | apply below_new | apply below_draws)) hb)
  clear hb HB1
  obtain ⟨zCB, cCB0, cCB1, cCB2, cCB3, cCB4, cCB5⟩ := CB.out
  have nCB : ¬ (W.heap.size + 1) = w2.heap.size := by omega
  obtain ⟨zCC, cCC0, cCC1, cCC2, cCC3, cCC4, cCC5⟩ := CC.out
  have nCC : ¬ (W.heap.size + 2) = w2.heap.size := by omega
  go_wp2_with fail
  clear zCB nCB cCB0 cCB1 cCB2 cCB3 cCB4 cCB5
  clear zCC nCC cCC0 cCC1 cCC2 cCC3 cCC4 cCC5
  refine ((same_is b c false Tbc.out) _).mono ?_
  rintro e w3 ⟨rfl, hb⟩
  have CA' : Box w3 (W.heap.size) a := Box.keep hb (by repeat (first | exact CA.out | exact Box.new _ a | exact Box.new_at (c := a) (by simp) | apply Box.alloc))
  clear CA
  have CA := Lib.hid CA'
  clear CA'
  have CB' : Box w3 ((W.heap.size + 1)) b := Box.keep hb (by repeat (first | exact CB.out | exact Box.new _ b | exact Box.new_at (c := b) (by simp) | apply Box.alloc))
  clear CB
  have CB := Lib.hid CB'
  clear CB'
  have CC' : Box w3 ((W.heap.size + 2)) c := Box.keep hb (by repeat (first | exact CC.out | exact Box.new _ c | exact Box.new_at (c := c) (by simp) | apply Box.alloc))
  clear CC
  have CC := Lib.hid CC'
  clear CC'
  have HB3 : Hid (Below W.heap.size W w3) := Lib.hid (below_then (by repeat (first | exact HB2.out | apply below_new | apply below_draws)) hb)
  clear hb HB2
  go_wp2_with fail
  refine (fixed_true _).mono ?_
  rintro e w4 ⟨rfl, hb⟩
  clear CA
  clear CB
  clear CC
  have HB4 : Hid (Below W.heap.size W w4) := Lib.hid (below_then (by repeat (first | exact HB3.out | apply below_new | apply below_draws)) hb)
  clear hb HB3
  go_wp2_with fail
  go_ret
  exact ⟨rfl, (by repeat (first | exact HB4.out | apply below_new | apply below_draws))⟩

set_option maxRecDepth 100000 in
set_option maxHeartbeats 6400000 in
theorem capsSame_all (a b c : Cp) (taa : sameB a a = true) (tab : sameB a b = true) (tba : sameB b a = true) (tbc : sameB b c = true) (tac : sameB a c = true) (k1 : (a.k != 0) = true) (W : World) :
    Calls Try.prog 9 #[(.agg #[.int .i64 a.k, .int .i64 a.o, .int .i64 a.r, .int .u64 a.b, .int .u64 a.g, .int .i64 a.n]), (.agg #[.int .i64 b.k, .int .i64 b.o, .int .i64 b.r, .int .u64 b.b, .int .u64 b.g, .int .i64 b.n]), (.agg #[.int .i64 c.k, .int .i64 c.o, .int .i64 c.r, .int .u64 c.b, .int .u64 c.g, .int .i64 c.n])] W fun e w' => e = .returned (.bool true) ∧ Below W.heap.size W w' := by
  have Taa := Lib.hid taa
  clear taa
  have Tab := Lib.hid tab
  clear tab
  have Tba := Lib.hid tba
  clear tba
  have Tbc := Lib.hid tbc
  clear tbc
  have Tac := Lib.hid tac
  clear tac
  go_enter Try.func9, Try.ntmps9
  go_wp2_with fail
  go_region_held3 (fun w' => Below W.heap.size W w' ∧ W.heap.size + 2 < w'.heap.size ∧ w'.cell? ⟨W.heap.size, 0, none⟩ = some (.int .i64 a.k) ∧ w'.cell? ⟨W.heap.size, 1, none⟩ = some (.int .i64 a.o) ∧ w'.cell? ⟨W.heap.size, 2, none⟩ = some (.int .i64 a.r) ∧ w'.cell? ⟨W.heap.size, 3, none⟩ = some (.int .u64 a.b) ∧ w'.cell? ⟨W.heap.size, 4, none⟩ = some (.int .u64 a.g) ∧ w'.cell? ⟨W.heap.size, 5, none⟩ = some (.int .i64 a.n) ∧ w'.cell? ⟨W.heap.size + 1, 0, none⟩ = some (.int .i64 b.k) ∧ w'.cell? ⟨W.heap.size + 1, 1, none⟩ = some (.int .i64 b.o) ∧ w'.cell? ⟨W.heap.size + 1, 2, none⟩ = some (.int .i64 b.r) ∧ w'.cell? ⟨W.heap.size + 1, 3, none⟩ = some (.int .u64 b.b) ∧ w'.cell? ⟨W.heap.size + 1, 4, none⟩ = some (.int .u64 b.g) ∧ w'.cell? ⟨W.heap.size + 1, 5, none⟩ = some (.int .i64 b.n) ∧ w'.cell? ⟨W.heap.size + 2, 0, none⟩ = some (.int .i64 c.k) ∧ w'.cell? ⟨W.heap.size + 2, 1, none⟩ = some (.int .i64 c.o) ∧ w'.cell? ⟨W.heap.size + 2, 2, none⟩ = some (.int .i64 c.r) ∧ w'.cell? ⟨W.heap.size + 2, 3, none⟩ = some (.int .u64 c.b) ∧ w'.cell? ⟨W.heap.size + 2, 4, none⟩ = some (.int .u64 c.g) ∧ w'.cell? ⟨W.heap.size + 2, 5, none⟩ = some (.int .i64 c.n))
    (first | exact keep3_drew (keep3_start W a b c) | (refine keep3_on ?_ hb; assumption))
    (first
      | (go_at_call_of 15 (#[(Value.agg #[.int .i64 a.k, .int .i64 a.o, .int .i64 a.r, .int .u64 a.b, .int .u64 a.g, .int .i64 a.n]), (Value.agg #[.int .i64 a.k, .int .i64 a.o, .int .i64 a.r, .int .u64 a.b, .int .u64 a.g, .int .i64 a.n])] : Array Value); refine (same_is a a true Taa.out _).mono ?_; rintro e w' ⟨rfl, hb⟩)
      | (go_at_call_of 15 (#[(Value.agg #[.int .i64 a.k, .int .i64 a.o, .int .i64 a.r, .int .u64 a.b, .int .u64 a.g, .int .i64 a.n]), (Value.agg #[.int .i64 b.k, .int .i64 b.o, .int .i64 b.r, .int .u64 b.b, .int .u64 b.g, .int .i64 b.n])] : Array Value); refine (same_is a b true Tab.out _).mono ?_; rintro e w' ⟨rfl, hb⟩)
      | (go_at_call_of 15 (#[(Value.agg #[.int .i64 b.k, .int .i64 b.o, .int .i64 b.r, .int .u64 b.b, .int .u64 b.g, .int .i64 b.n]), (Value.agg #[.int .i64 a.k, .int .i64 a.o, .int .i64 a.r, .int .u64 a.b, .int .u64 a.g, .int .i64 a.n])] : Array Value); refine (same_is b a true Tba.out _).mono ?_; rintro e w' ⟨rfl, hb⟩)
      | (go_at_call_of 15 (#[(Value.agg #[.int .i64 b.k, .int .i64 b.o, .int .i64 b.r, .int .u64 b.b, .int .u64 b.g, .int .i64 b.n]), (Value.agg #[.int .i64 c.k, .int .i64 c.o, .int .i64 c.r, .int .u64 c.b, .int .u64 c.g, .int .i64 c.n])] : Array Value); refine (same_is b c true Tbc.out _).mono ?_; rintro e w' ⟨rfl, hb⟩)
      | (go_at_call_of 15 (#[(Value.agg #[.int .i64 a.k, .int .i64 a.o, .int .i64 a.r, .int .u64 a.b, .int .u64 a.g, .int .i64 a.n]), (Value.agg #[.int .i64 c.k, .int .i64 c.o, .int .i64 c.r, .int .u64 c.b, .int .u64 c.g, .int .i64 c.n])] : Array Value); refine (same_is a c true Tac.out _).mono ?_; rintro e w' ⟨rfl, hb⟩))
  rename_i hH
  obtain ⟨h0, h1, q0, q1, q2, q3, q4, q5, q6, q7, q8, q9, q10, q11, q12, q13, q14, q15, q16, q17⟩  := hH
  clear hb
  have CA : Hid (Box w' (W.heap.size) a) := Lib.hid ⟨by omega, q0, q1, q2, q3, q4, q5⟩
  have CB : Hid (Box w' (W.heap.size + 1) b) := Lib.hid ⟨by omega, q6, q7, q8, q9, q10, q11⟩
  have CC : Hid (Box w' (W.heap.size + 2) c) := Lib.hid ⟨by omega, q12, q13, q14, q15, q16, q17⟩
  have HB1 := Lib.hid h0
  clear h0 h1 q0 q1 q2 q3 q4 q5 q6 q7 q8 q9 q10 q11 q12 q13 q14 q15 q16 q17
  obtain ⟨zCA, cCA0, cCA1, cCA2, cCA3, cCA4, cCA5⟩ := CA.out
  have nCA : ¬ W.heap.size = w'.heap.size := by omega
  obtain ⟨zCB, cCB0, cCB1, cCB2, cCB3, cCB4, cCB5⟩ := CB.out
  have nCB : ¬ (W.heap.size + 1) = w'.heap.size := by omega
  go_wp2_with fail
  clear zCA nCA cCA0 cCA1 cCA2 cCA3 cCA4 cCA5
  clear zCB nCB cCB0 cCB1 cCB2 cCB3 cCB4 cCB5
  refine ((same_is a b true Tab.out) _).mono ?_
  rintro e w2 ⟨rfl, hb⟩
  have CA' : Box w2 (W.heap.size) a := Box.keep hb (by repeat (first | exact CA.out | exact Box.new _ a | exact Box.new_at (c := a) (by simp) | apply Box.alloc))
  clear CA
  have CA := Lib.hid CA'
  clear CA'
  have CB' : Box w2 ((W.heap.size + 1)) b := Box.keep hb (by repeat (first | exact CB.out | exact Box.new _ b | exact Box.new_at (c := b) (by simp) | apply Box.alloc))
  clear CB
  have CB := Lib.hid CB'
  clear CB'
  have CC' : Box w2 ((W.heap.size + 2)) c := Box.keep hb (by repeat (first | exact CC.out | exact Box.new _ c | exact Box.new_at (c := c) (by simp) | apply Box.alloc))
  clear CC
  have CC := Lib.hid CC'
  clear CC'
  have HB2 : Hid (Below W.heap.size W w2) := Lib.hid (below_then (by repeat (first | exact HB1.out | apply below_new | apply below_draws)) hb)
  clear hb HB1
  obtain ⟨zCB, cCB0, cCB1, cCB2, cCB3, cCB4, cCB5⟩ := CB.out
  have nCB : ¬ (W.heap.size + 1) = w2.heap.size := by omega
  obtain ⟨zCC, cCC0, cCC1, cCC2, cCC3, cCC4, cCC5⟩ := CC.out
  have nCC : ¬ (W.heap.size + 2) = w2.heap.size := by omega
  go_wp2_with fail
  clear zCB nCB cCB0 cCB1 cCB2 cCB3 cCB4 cCB5
  clear zCC nCC cCC0 cCC1 cCC2 cCC3 cCC4 cCC5
  refine ((same_is b c true Tbc.out) _).mono ?_
  rintro e w3 ⟨rfl, hb⟩
  have CA' : Box w3 (W.heap.size) a := Box.keep hb (by repeat (first | exact CA.out | exact Box.new _ a | exact Box.new_at (c := a) (by simp) | apply Box.alloc))
  clear CA
  have CA := Lib.hid CA'
  clear CA'
  have CB' : Box w3 ((W.heap.size + 1)) b := Box.keep hb (by repeat (first | exact CB.out | exact Box.new _ b | exact Box.new_at (c := b) (by simp) | apply Box.alloc))
  clear CB
  have CB := Lib.hid CB'
  clear CB'
  have CC' : Box w3 ((W.heap.size + 2)) c := Box.keep hb (by repeat (first | exact CC.out | exact Box.new _ c | exact Box.new_at (c := c) (by simp) | apply Box.alloc))
  clear CC
  have CC := Lib.hid CC'
  clear CC'
  have HB3 : Hid (Below W.heap.size W w3) := Lib.hid (below_then (by repeat (first | exact HB2.out | apply below_new | apply below_draws)) hb)
  clear hb HB2
  obtain ⟨zCA, cCA0, cCA1, cCA2, cCA3, cCA4, cCA5⟩ := CA.out
  have nCA : ¬ W.heap.size = w3.heap.size := by omega
  obtain ⟨zCC, cCC0, cCC1, cCC2, cCC3, cCC4, cCC5⟩ := CC.out
  have nCC : ¬ (W.heap.size + 2) = w3.heap.size := by omega
  go_wp2_with fail
  clear zCA nCA cCA0 cCA1 cCA2 cCA3 cCA4 cCA5
  clear zCC nCC cCC0 cCC1 cCC2 cCC3 cCC4 cCC5
  refine ((same_is a c true Tac.out) _).mono ?_
  rintro e w4 ⟨rfl, hb⟩
  have CA' : Box w4 (W.heap.size) a := Box.keep hb (by repeat (first | exact CA.out | exact Box.new _ a | exact Box.new_at (c := a) (by simp) | apply Box.alloc))
  clear CA
  have CA := Lib.hid CA'
  clear CA'
  have CB' : Box w4 ((W.heap.size + 1)) b := Box.keep hb (by repeat (first | exact CB.out | exact Box.new _ b | exact Box.new_at (c := b) (by simp) | apply Box.alloc))
  clear CB
  have CB := Lib.hid CB'
  clear CB'
  have CC' : Box w4 ((W.heap.size + 2)) c := Box.keep hb (by repeat (first | exact CC.out | exact Box.new _ c | exact Box.new_at (c := c) (by simp) | apply Box.alloc))
  clear CC
  have CC := Lib.hid CC'
  clear CC'
  have HB4 : Hid (Below W.heap.size W w4) := Lib.hid (below_then (by repeat (first | exact HB3.out | apply below_new | apply below_draws)) hb)
  clear hb HB3
  go_wp2_with fail
  refine (fixed_true _).mono ?_
  rintro e w5 ⟨rfl, hb⟩
  clear CA
  clear CB
  clear CC
  have HB5 : Hid (Below W.heap.size W w5) := Lib.hid (below_then (by repeat (first | exact HB4.out | apply below_new | apply below_draws)) hb)
  clear hb HB4
  go_wp2_with fail
  go_ret
  exact ⟨rfl, (by repeat (first | exact HB5.out | apply below_new | apply below_draws))⟩

theorem capsSame_walk (a b c : Cp) (W : World) :
    Calls Try.prog 9 #[(.agg #[.int .i64 a.k, .int .i64 a.o, .int .i64 a.r, .int .u64 a.b, .int .u64 a.g, .int .i64 a.n]), (.agg #[.int .i64 b.k, .int .i64 b.o, .int .i64 b.r, .int .u64 b.b, .int .u64 b.g, .int .i64 b.n]), (.agg #[.int .i64 c.k, .int .i64 c.o, .int .i64 c.r, .int .u64 c.b, .int .u64 c.g, .int .i64 c.n])] W fun e w' => e = .returned (.bool true) ∧ Below W.heap.size W w' := by
  by_cases k0 : a.k = 0
  · exact capsSame_none a b c (by simp [sameB, k0]) (by simp [sameB, k0]) (by simp [sameB]; intro h1 h2; exact absurd (h2.trans k0) h1) (by simp [k0]) W
  · have k1 : (a.k != 0) = true := by simpa using k0
    have taa : sameB a a = true := by simp [sameB, k0]
    by_cases h : a.k = b.k ∧ a.o = b.o
    · obtain ⟨h1, h2⟩ := h
      have kb : b.k ≠ 0 := fun e => k0 (h1.trans e)
      have tab : sameB a b = true := by simp [sameB, h1, h2, kb]
      have tba : sameB b a = true := by simp [sameB, h1, h2, kb]
      by_cases g : b.k = c.k ∧ b.o = c.o
      · obtain ⟨g1, g2⟩ := g
        have kc : c.k ≠ 0 := fun e => kb (g1.trans e)
        exact capsSame_all a b c taa tab tba (by simp [sameB, g1, g2, kc]) (by simp [sameB, h1, h2, g1, g2, kc]) k1 W
      · exact capsSame_bn a b c taa tab tba (by simp [sameB]; intro _ e; exact fun e2 => g ⟨e, e2⟩) k1 W
    · exact capsSame_ne a b c taa (by simp [sameB]; intro _ e; exact fun e2 => h ⟨e, e2⟩) (by simp [sameB]; intro _ e; exact fun e2 => h ⟨e.symm, e2.symm⟩) k1 W


set_option maxRecDepth 100000 in
theorem capsSame_lifted (os : Os) (started : os.Started) (H : Type) (enc : TypeId × Value → H) :
    ReturnsInHanded {} Try.checked os 9 .any (Rows.capsSameSpec.pre6 enc Try.prog Try.f9 Rows.capsSameRow.domain false) (Rows.capsSameSpec.post enc Try.prog Try.f9 false true false false) := by
  refine returnsInHanded_of_change (C := Try.checked) own_knob started (by kernel_rfl) Try.func9
    (ChangeSpec.witness6 (enc := enc) (C := Try.checked) false ⟨#[], #[.agg #[.int .i64 0, .int .i64 0, .int .i64 0, .int .u64 0, .int .u64 0, .int .i64 0], .agg #[.int .i64 0, .int .i64 0, .int .i64 0, .int .u64 0, .int .u64 0, .int .i64 0], .agg #[.int .i64 0, .int .i64 0, .int .i64 0, .int .u64 0, .int .u64 0, .int .i64 0]], []⟩ 8 (by kernel_rfl) (by kernel_rfl) (by kernel_rfl) (by kernel_rfl)) ?_
  intro W base args ds gs before hval0 hW hcnd _
  have hval : ∀ (j : Nat) t v, Try.f9.params[j]? = some t → args[j]? = some v → Value.okWide Try.prog W .any base t v := hval0
  have hW' := hW
  obtain ⟨p, q, hA0, hV, rfl, hfz, hnd⟩ := hW
  have hA : DataW.TrodAll enc Try.prog W 0 (fun _ => true) true Try.f9.params.toList args.toList ds p := hA0
  rw [Try.params9] at hA hval
  obtain ⟨v0, v1, v2, d0, d1, d2, p0, p1, p2, rfl, rfl, rfl, h0, h1, h2⟩ := trodAll_three hA
  obtain ⟨rfl, rfl⟩ := trodVars_none hV
  clear hA0 hval0
  simp only [List.append_nil] at hW'
  have hlt : ∀ x ∈ p0 ++ p1 ++ p2, x.block < W.heap.size := fun x hx => by simpa using hW'.lt x hx
  have g0 : ∀ W' : World, Below W.heap.size W W' → DataW.Trod enc Try.prog W' 0 (fun b => decide (b < W.heap.size)) true 24 v0 d0 p0 :=
    fun W' hn => Below.trod laid_out (by kernel_rfl) (of_decide_eq_true (by kernel_rfl)) h0 hn (fun x hx => hlt x (by simp [hx]))
  have g1 : ∀ W' : World, Below W.heap.size W W' → DataW.Trod enc Try.prog W' 0 (fun b => decide (b < W.heap.size)) true 24 v1 d1 p1 :=
    fun W' hn => Below.trod laid_out (by kernel_rfl) (of_decide_eq_true (by kernel_rfl)) h1 hn (fun x hx => hlt x (by simp [hx]))
  have g2 : ∀ W' : World, Below W.heap.size W W' → DataW.Trod enc Try.prog W' 0 (fun b => decide (b < W.heap.size)) true 24 v2 d2 p2 :=
    fun W' hn => Below.trod laid_out (by kernel_rfl) (of_decide_eq_true (by kernel_rfl)) h2 hn (fun x hx => hlt x (by simp [hx]))
  obtain ⟨a, rfl, l0b, l0g⟩ := open_cap (hval 0 24 v0 rfl rfl) h0
  obtain ⟨b, rfl, l1b, l1g⟩ := open_cap (hval 1 24 v1 rfl rfl) h1
  obtain ⟨c, rfl, l2b, l2g⟩ := open_cap (hval 2 24 v2 rfl rfl) h2
  refine (capsSame_walk a b c W).mono fun e W' ⟨he, hn⟩ => ?_
  subst he
  exact ⟨_, rfl, _, _, _, [], p0 ++ p1 ++ p2, [], hW', trodAll_mk1 (shut_bool Try.underlying4 true), (by rw [List.append_assoc p0 p1 p2]; exact trodAll_mk3 (g0 W' hn) (g1 W' hn) (g2 W' hn)), rfl, hn.frame _, fun h => by cases h⟩

theorem capsSame_holds : Rows.CapsSameSaid :=
  OpenClaim.holds_of_wide 9 Try.f9 rfl rfl rfl rfl rfl rfl rfl ⟨rfl, rfl, rfl, rfl, rfl⟩ rfl rfl rfl rfl rfl (by kernel_rfl) Try.func9 (by kernel_rfl)
    (of_decide_eq_true (by kernel_rfl)) (by unfold Func.isWrapper; first | (rw [if_pos (by decide +kernel)]; kernel_rfl) | (rw [if_neg (by decide +kernel)]; exact ⟨rfl, rfl⟩))
    (fun os started H enc _ => capsSame_lifted os started H enc)
#print axioms capsSame_holds
end Go.Proofs.Ythgiofgedeijoaa
