/- Contracts of the untyped package's small functions, over the translation. -/
import Derived.Test.YtbgcgbelejmjiaaWords
import Derived.Test.YtbgcgbelejmjiaaTwo
import Derived.Test.YtbgcgbelejmjiaaUmath
import Derived.KernelRfl
set_option linter.unusedVariables false
set_option linter.unusedSimpArgs false
namespace Go.Proofs.Ytbgcgbelejmjiaa
open Go.RowKit Wd Ud

theorem below_new {w W : World} (h : Below w.heap.size w W) (o : Obj) : Below w.heap.size w (W.alloc o) := h.alloc h.size o
theorem ret_ii {a b c : Int} (h : a = b) : Ending.returned (.tuple #[.int .i64 a, .int .i64 c]) = .returned (.tuple #[.int .i64 b, .int .i64 c]) := by rw [h]
set_option maxRecDepth 100000 in
set_option maxHeartbeats 800000 in
theorem between_lo (n a b d : Int) (h : n < a) (w : World) :
    Calls Try.prog 21 #[.int .i64 n, .int .i64 a, .int .i64 b, .int .i64 d] w fun e w' => e = .returned (.tuple #[.int .i64 0, .int .i64 1]) ∧ w' = w := by
  go_enter Try.func21, Try.ntmps21
  go_wp2
  go_ret2
  exact ⟨rfl, rfl⟩

set_option maxRecDepth 100000 in
set_option maxHeartbeats 800000 in
theorem between_hi (n a b d : Int) (h : b < n) (w : World) :
    Calls Try.prog 21 #[.int .i64 n, .int .i64 a, .int .i64 b, .int .i64 d] w fun e w' => e = .returned (.tuple #[.int .i64 0, .int .i64 1]) ∧ w' = w := by
  by_cases h1 : n < a
  · exact between_lo n a b d h1 w
  go_enter Try.func21, Try.ntmps21
  go_wp2
  go_ret2
  exact ⟨rfl, rfl⟩

set_option maxRecDepth 100000 in
set_option maxHeartbeats 800000 in
theorem between_in (n a b d s : Int) (h1 : a ≤ n) (h2 : n ≤ b) (hs : IntKind.i64.wrap (n + d) = s) (w : World) :
    Calls Try.prog 21 #[.int .i64 n, .int .i64 a, .int .i64 b, .int .i64 d] w fun e w' => e = .returned (.tuple #[.int .i64 s, .int .i64 0]) ∧ w' = w := by
  go_enter Try.func21, Try.ntmps21
  go_wp2
  go_ret2
  exact ⟨rfl, rfl⟩

set_option maxRecDepth 100000 in
set_option maxHeartbeats 800000 in
theorem sizes_any  (w : World) :
    Calls Try.prog 22 #[] w fun e w' => e = .returned (.agg #[.int .i64 0, .int .i64 0, .int .i64 0, .int .i64 5, .int .i64 2, .int .i64 2, .int .i64 6, .int .i64 6, .int .i64 6, .int .i64 0]) ∧ w' = w.alloc (.cells #[.int .i64 0, .int .i64 0, .int .i64 0, .int .i64 5, .int .i64 2, .int .i64 2, .int .i64 6, .int .i64 6, .int .i64 6, .int .i64 0] 46) := by
  go_enter Try.func22, Try.ntmps22
  go_wp2
  refine bodyPost_ret (v := (.agg #[.int .i64 0, .int .i64 0, .int .i64 0, .int .i64 5, .int .i64 2, .int .i64 2, .int .i64 6, .int .i64 6, .int .i64 6, .int .i64 0])) ?_ rfl ⟨rfl, rfl⟩
  simp [results, Try.results22, go_sem]

set_option maxRecDepth 100000 in
set_option maxHeartbeats 800000 in
theorem size1_lo (n : Int) (h : n < 4) (w : World) :
    Calls Try.prog 12 #[.int .i64 1, .int .i64 n] w fun e w' => e = .returned (.tuple #[.int .i64 0, .int .i64 1]) ∧ Below w.heap.size w w' := by
  go_enter Try.func12, Try.ntmps12
  go_wp2_with fail
  refine (between_lo n 4 20 0 h _).mono ?_
  rintro e w' ⟨rfl, rfl⟩
  go_wp2
  go_ret2
  exact ⟨rfl, Below.refl _ _⟩

set_option maxRecDepth 100000 in
set_option maxHeartbeats 800000 in
theorem size1_hi (n : Int) (h : 20 < n) (w : World) :
    Calls Try.prog 12 #[.int .i64 1, .int .i64 n] w fun e w' => e = .returned (.tuple #[.int .i64 0, .int .i64 1]) ∧ Below w.heap.size w w' := by
  go_enter Try.func12, Try.ntmps12
  go_wp2_with fail
  refine (between_hi n 4 20 0 h _).mono ?_
  rintro e w' ⟨rfl, rfl⟩
  go_wp2
  go_ret2
  exact ⟨rfl, Below.refl _ _⟩

set_option maxRecDepth 100000 in
set_option maxHeartbeats 800000 in
theorem size1_in (n s : Int) (h1 : 4 ≤ n) (h2 : n ≤ 20) (hs : IntKind.i64.wrap (n + 0) = s) (w : World) :
    Calls Try.prog 12 #[.int .i64 1, .int .i64 n] w fun e w' => e = .returned (.tuple #[.int .i64 s, .int .i64 0]) ∧ Below w.heap.size w w' := by
  go_enter Try.func12, Try.ntmps12
  have HS := Lib.hid hs
  clear hs
  go_wp2_with fail
  refine (between_in n 4 20 0 s h1 h2 HS.out _).mono ?_
  rintro e w' ⟨rfl, rfl⟩
  go_wp2
  go_ret2
  exact ⟨rfl, Below.refl _ _⟩

set_option maxRecDepth 100000 in
set_option maxHeartbeats 800000 in
theorem size2_lo (n : Int) (h : n < 1) (w : World) :
    Calls Try.prog 12 #[.int .i64 2, .int .i64 n] w fun e w' => e = .returned (.tuple #[.int .i64 0, .int .i64 1]) ∧ Below w.heap.size w w' := by
  go_enter Try.func12, Try.ntmps12
  go_wp2_with fail
  refine (between_lo n 1 8 2 h _).mono ?_
  rintro e w' ⟨rfl, rfl⟩
  go_wp2
  go_ret2
  exact ⟨rfl, Below.refl _ _⟩

set_option maxRecDepth 100000 in
set_option maxHeartbeats 800000 in
theorem size2_hi (n : Int) (h : 8 < n) (w : World) :
    Calls Try.prog 12 #[.int .i64 2, .int .i64 n] w fun e w' => e = .returned (.tuple #[.int .i64 0, .int .i64 1]) ∧ Below w.heap.size w w' := by
  go_enter Try.func12, Try.ntmps12
  go_wp2_with fail
  refine (between_hi n 1 8 2 h _).mono ?_
  rintro e w' ⟨rfl, rfl⟩
  go_wp2
  go_ret2
  exact ⟨rfl, Below.refl _ _⟩

set_option maxRecDepth 100000 in
set_option maxHeartbeats 800000 in
theorem size2_in (n s : Int) (h1 : 1 ≤ n) (h2 : n ≤ 8) (hs : IntKind.i64.wrap (n + 2) = s) (w : World) :
    Calls Try.prog 12 #[.int .i64 2, .int .i64 n] w fun e w' => e = .returned (.tuple #[.int .i64 s, .int .i64 0]) ∧ Below w.heap.size w w' := by
  go_enter Try.func12, Try.ntmps12
  have HS := Lib.hid hs
  clear hs
  go_wp2_with fail
  refine (between_in n 1 8 2 s h1 h2 HS.out _).mono ?_
  rintro e w' ⟨rfl, rfl⟩
  go_wp2
  go_ret2
  exact ⟨rfl, Below.refl _ _⟩

set_option maxRecDepth 100000 in
set_option maxHeartbeats 800000 in
theorem size_k0 (n : Int) (w : World) :
    Calls Try.prog 12 #[.int .i64 0, .int .i64 n] w fun e w' => e = .returned (.tuple #[.int .i64 0, .int .i64 80]) ∧ Below w.heap.size w w' := by
  go_enter Try.func12, Try.ntmps12
  have ix : ∀ w : World, (Instr.index 46 (.agg #[.int .i64 0, .int .i64 0, .int .i64 0, .int .i64 5, .int .i64 2, .int .i64 2, .int .i64 6, .int .i64 6, .int .i64 6, .int .i64 0]) (.int .i64 0)).run Try.prog w = .ok (.int .i64 0) w := fun _ => by kernel_rfl
  go_wp2_with fail
  refine (sizes_any _).mono ?_
  rintro e w' ⟨rfl, rfl⟩
  go_wp2
  go_ret2
  exact ⟨rfl, (by repeat (first | exact Below.refl _ _ | apply below_new))⟩

set_option maxRecDepth 100000 in
set_option maxHeartbeats 800000 in
theorem size_k3 (n : Int) (w : World) :
    Calls Try.prog 12 #[.int .i64 3, .int .i64 n] w fun e w' => e = .returned (.tuple #[.int .i64 5, .int .i64 0]) ∧ Below w.heap.size w w' := by
  go_enter Try.func12, Try.ntmps12
  have ix : ∀ w : World, (Instr.index 46 (.agg #[.int .i64 0, .int .i64 0, .int .i64 0, .int .i64 5, .int .i64 2, .int .i64 2, .int .i64 6, .int .i64 6, .int .i64 6, .int .i64 0]) (.int .i64 3)).run Try.prog w = .ok (.int .i64 5) w := fun _ => by kernel_rfl
  go_wp2_with fail
  refine (sizes_any _).mono ?_
  rintro e w' ⟨rfl, rfl⟩
  go_wp2_with fail
  refine (sizes_any _).mono ?_
  rintro e w' ⟨rfl, rfl⟩
  go_wp2
  go_ret2
  exact ⟨rfl, (by repeat (first | exact Below.refl _ _ | apply below_new))⟩

set_option maxRecDepth 100000 in
set_option maxHeartbeats 800000 in
theorem size_k4 (n : Int) (w : World) :
    Calls Try.prog 12 #[.int .i64 4, .int .i64 n] w fun e w' => e = .returned (.tuple #[.int .i64 2, .int .i64 0]) ∧ Below w.heap.size w w' := by
  go_enter Try.func12, Try.ntmps12
  have ix : ∀ w : World, (Instr.index 46 (.agg #[.int .i64 0, .int .i64 0, .int .i64 0, .int .i64 5, .int .i64 2, .int .i64 2, .int .i64 6, .int .i64 6, .int .i64 6, .int .i64 0]) (.int .i64 4)).run Try.prog w = .ok (.int .i64 2) w := fun _ => by kernel_rfl
  go_wp2_with fail
  refine (sizes_any _).mono ?_
  rintro e w' ⟨rfl, rfl⟩
  go_wp2_with fail
  refine (sizes_any _).mono ?_
  rintro e w' ⟨rfl, rfl⟩
  go_wp2
  go_ret2
  exact ⟨rfl, (by repeat (first | exact Below.refl _ _ | apply below_new))⟩

set_option maxRecDepth 100000 in
set_option maxHeartbeats 800000 in
theorem size_k5 (n : Int) (w : World) :
    Calls Try.prog 12 #[.int .i64 5, .int .i64 n] w fun e w' => e = .returned (.tuple #[.int .i64 2, .int .i64 0]) ∧ Below w.heap.size w w' := by
  go_enter Try.func12, Try.ntmps12
  have ix : ∀ w : World, (Instr.index 46 (.agg #[.int .i64 0, .int .i64 0, .int .i64 0, .int .i64 5, .int .i64 2, .int .i64 2, .int .i64 6, .int .i64 6, .int .i64 6, .int .i64 0]) (.int .i64 5)).run Try.prog w = .ok (.int .i64 2) w := fun _ => by kernel_rfl
  go_wp2_with fail
  refine (sizes_any _).mono ?_
  rintro e w' ⟨rfl, rfl⟩
  go_wp2_with fail
  refine (sizes_any _).mono ?_
  rintro e w' ⟨rfl, rfl⟩
  go_wp2
  go_ret2
  exact ⟨rfl, (by repeat (first | exact Below.refl _ _ | apply below_new))⟩

set_option maxRecDepth 100000 in
set_option maxHeartbeats 800000 in
theorem size_k6 (n : Int) (w : World) :
    Calls Try.prog 12 #[.int .i64 6, .int .i64 n] w fun e w' => e = .returned (.tuple #[.int .i64 6, .int .i64 0]) ∧ Below w.heap.size w w' := by
  go_enter Try.func12, Try.ntmps12
  have ix : ∀ w : World, (Instr.index 46 (.agg #[.int .i64 0, .int .i64 0, .int .i64 0, .int .i64 5, .int .i64 2, .int .i64 2, .int .i64 6, .int .i64 6, .int .i64 6, .int .i64 0]) (.int .i64 6)).run Try.prog w = .ok (.int .i64 6) w := fun _ => by kernel_rfl
  go_wp2_with fail
  refine (sizes_any _).mono ?_
  rintro e w' ⟨rfl, rfl⟩
  go_wp2_with fail
  refine (sizes_any _).mono ?_
  rintro e w' ⟨rfl, rfl⟩
  go_wp2
  go_ret2
  exact ⟨rfl, (by repeat (first | exact Below.refl _ _ | apply below_new))⟩

set_option maxRecDepth 100000 in
set_option maxHeartbeats 800000 in
theorem size_k7 (n : Int) (w : World) :
    Calls Try.prog 12 #[.int .i64 7, .int .i64 n] w fun e w' => e = .returned (.tuple #[.int .i64 6, .int .i64 0]) ∧ Below w.heap.size w w' := by
  go_enter Try.func12, Try.ntmps12
  have ix : ∀ w : World, (Instr.index 46 (.agg #[.int .i64 0, .int .i64 0, .int .i64 0, .int .i64 5, .int .i64 2, .int .i64 2, .int .i64 6, .int .i64 6, .int .i64 6, .int .i64 0]) (.int .i64 7)).run Try.prog w = .ok (.int .i64 6) w := fun _ => by kernel_rfl
  go_wp2_with fail
  refine (sizes_any _).mono ?_
  rintro e w' ⟨rfl, rfl⟩
  go_wp2_with fail
  refine (sizes_any _).mono ?_
  rintro e w' ⟨rfl, rfl⟩
  go_wp2
  go_ret2
  exact ⟨rfl, (by repeat (first | exact Below.refl _ _ | apply below_new))⟩

set_option maxRecDepth 100000 in
set_option maxHeartbeats 800000 in
theorem size_k8 (n : Int) (w : World) :
    Calls Try.prog 12 #[.int .i64 8, .int .i64 n] w fun e w' => e = .returned (.tuple #[.int .i64 6, .int .i64 0]) ∧ Below w.heap.size w w' := by
  go_enter Try.func12, Try.ntmps12
  have ix : ∀ w : World, (Instr.index 46 (.agg #[.int .i64 0, .int .i64 0, .int .i64 0, .int .i64 5, .int .i64 2, .int .i64 2, .int .i64 6, .int .i64 6, .int .i64 6, .int .i64 0]) (.int .i64 8)).run Try.prog w = .ok (.int .i64 6) w := fun _ => by kernel_rfl
  go_wp2_with fail
  refine (sizes_any _).mono ?_
  rintro e w' ⟨rfl, rfl⟩
  go_wp2_with fail
  refine (sizes_any _).mono ?_
  rintro e w' ⟨rfl, rfl⟩
  go_wp2
  go_ret2
  exact ⟨rfl, (by repeat (first | exact Below.refl _ _ | apply below_new))⟩

set_option maxRecDepth 100000 in
set_option maxHeartbeats 800000 in
theorem size_k9 (n : Int) (w : World) :
    Calls Try.prog 12 #[.int .i64 9, .int .i64 n] w fun e w' => e = .returned (.tuple #[.int .i64 0, .int .i64 80]) ∧ Below w.heap.size w w' := by
  go_enter Try.func12, Try.ntmps12
  have ix : ∀ w : World, (Instr.index 46 (.agg #[.int .i64 0, .int .i64 0, .int .i64 0, .int .i64 5, .int .i64 2, .int .i64 2, .int .i64 6, .int .i64 6, .int .i64 6, .int .i64 0]) (.int .i64 9)).run Try.prog w = .ok (.int .i64 0) w := fun _ => by kernel_rfl
  go_wp2_with fail
  refine (sizes_any _).mono ?_
  rintro e w' ⟨rfl, rfl⟩
  go_wp2
  go_ret2
  exact ⟨rfl, (by repeat (first | exact Below.refl _ _ | apply below_new))⟩

set_option maxRecDepth 100000 in
set_option maxHeartbeats 800000 in
theorem size_lo (k n : Int) (h : k < 0) (w : World) :
    Calls Try.prog 12 #[.int .i64 k, .int .i64 n] w fun e w' => e = .returned (.tuple #[.int .i64 0, .int .i64 80]) ∧ Below w.heap.size w w' := by
  go_enter Try.func12, Try.ntmps12
  go_wp2
  go_ret2
  exact ⟨rfl, Below.refl _ _⟩

set_option maxRecDepth 100000 in
set_option maxHeartbeats 800000 in
theorem size_hi (k n : Int) (h : 10 ≤ k) (w : World) :
    Calls Try.prog 12 #[.int .i64 k, .int .i64 n] w fun e w' => e = .returned (.tuple #[.int .i64 0, .int .i64 80]) ∧ Below w.heap.size w w' := by
  go_enter Try.func12, Try.ntmps12
  go_wp2
  go_ret2
  exact ⟨rfl, Below.refl _ _⟩

end Go.Proofs.Ytbgcgbelejmjiaa
