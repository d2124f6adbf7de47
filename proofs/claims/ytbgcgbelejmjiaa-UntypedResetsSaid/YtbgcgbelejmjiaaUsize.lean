/- Size as one contract, the program's and the reference's, over the translation. -/
import Derived.Test.YtbgcgbelejmjiaaUsmall
set_option linter.unusedVariables false
set_option linter.unusedSimpArgs false
namespace Go.Proofs.Ytbgcgbelejmjiaa
open Go.RowKit Wd Ud

theorem wrap_small (n d : Int) (h1 : 0 ≤ n) (h2 : n ≤ 30) (h3 : 0 ≤ d) (h4 : d ≤ 2) : IntKind.i64.wrap (n + d) = n + d := by
  rw [IntKind.wrap_i64]
  omega
set_option maxRecDepth 100000 in
set_option maxHeartbeats 800000 in
theorem rsize1_lo (n : Int) (h : n < 4) (w : World) :
    Calls Try.prog 13 #[.int .i64 1, .int .i64 n] w fun e w' => e = .returned (.tuple #[.int .i64 0, .int .i64 1]) ∧ w' = w := by
  go_enter Try.func13, Try.ntmps13
  go_wp2
  go_ret2
  exact ⟨rfl, rfl⟩

set_option maxRecDepth 100000 in
set_option maxHeartbeats 800000 in
theorem rsize1_hi (n : Int) (h0 : 4 ≤ n) (h : 20 < n) (w : World) :
    Calls Try.prog 13 #[.int .i64 1, .int .i64 n] w fun e w' => e = .returned (.tuple #[.int .i64 0, .int .i64 1]) ∧ w' = w := by
  go_enter Try.func13, Try.ntmps13
  go_wp2
  go_ret2
  exact ⟨rfl, rfl⟩

set_option maxRecDepth 100000 in
set_option maxHeartbeats 800000 in
theorem rsize1_in (n : Int) (h1 : 4 ≤ n) (h2 : n ≤ 20) (w : World) :
    Calls Try.prog 13 #[.int .i64 1, .int .i64 n] w fun e w' => e = .returned (.tuple #[.int .i64 n, .int .i64 0]) ∧ w' = w := by
  go_enter Try.func13, Try.ntmps13
  go_wp2
  go_ret2
  exact ⟨rfl, rfl⟩

set_option maxRecDepth 100000 in
set_option maxHeartbeats 800000 in
theorem rsize2_lo (n : Int) (h : n < 1) (w : World) :
    Calls Try.prog 13 #[.int .i64 2, .int .i64 n] w fun e w' => e = .returned (.tuple #[.int .i64 0, .int .i64 1]) ∧ w' = w := by
  go_enter Try.func13, Try.ntmps13
  go_wp2
  go_ret2
  exact ⟨rfl, rfl⟩

set_option maxRecDepth 100000 in
set_option maxHeartbeats 800000 in
theorem rsize2_hi (n : Int) (h0 : 1 ≤ n) (h : 8 < n) (w : World) :
    Calls Try.prog 13 #[.int .i64 2, .int .i64 n] w fun e w' => e = .returned (.tuple #[.int .i64 0, .int .i64 1]) ∧ w' = w := by
  go_enter Try.func13, Try.ntmps13
  go_wp2
  go_ret2
  exact ⟨rfl, rfl⟩

set_option maxRecDepth 100000 in
set_option maxHeartbeats 800000 in
theorem rsize2_in (n : Int) (h1 : 1 ≤ n) (h2 : n ≤ 8) (w : World) :
    Calls Try.prog 13 #[.int .i64 2, .int .i64 n] w fun e w' => e = .returned (.tuple #[.int .i64 (n + 2), .int .i64 0]) ∧ w' = w := by
  go_enter Try.func13, Try.ntmps13
  go_wp2
  go_ret2
  exact ⟨rfl, rfl⟩

set_option maxRecDepth 100000 in
set_option maxHeartbeats 800000 in
theorem rsize_k3 (n : Int) (w : World) :
    Calls Try.prog 13 #[.int .i64 3, .int .i64 n] w fun e w' => e = .returned (.tuple #[.int .i64 5, .int .i64 0]) ∧ w' = w := by
  go_enter Try.func13, Try.ntmps13
  go_wp2
  go_ret2
  exact ⟨rfl, rfl⟩

set_option maxRecDepth 100000 in
set_option maxHeartbeats 800000 in
theorem rsize_k4 (n : Int) (w : World) :
    Calls Try.prog 13 #[.int .i64 4, .int .i64 n] w fun e w' => e = .returned (.tuple #[.int .i64 2, .int .i64 0]) ∧ w' = w := by
  go_enter Try.func13, Try.ntmps13
  go_wp2
  go_ret2
  exact ⟨rfl, rfl⟩

set_option maxRecDepth 100000 in
set_option maxHeartbeats 800000 in
theorem rsize_k5 (n : Int) (w : World) :
    Calls Try.prog 13 #[.int .i64 5, .int .i64 n] w fun e w' => e = .returned (.tuple #[.int .i64 2, .int .i64 0]) ∧ w' = w := by
  go_enter Try.func13, Try.ntmps13
  go_wp2
  go_ret2
  exact ⟨rfl, rfl⟩

set_option maxRecDepth 100000 in
set_option maxHeartbeats 800000 in
theorem rsize_k6 (n : Int) (w : World) :
    Calls Try.prog 13 #[.int .i64 6, .int .i64 n] w fun e w' => e = .returned (.tuple #[.int .i64 6, .int .i64 0]) ∧ w' = w := by
  go_enter Try.func13, Try.ntmps13
  go_wp2
  go_ret2
  exact ⟨rfl, rfl⟩

set_option maxRecDepth 100000 in
set_option maxHeartbeats 800000 in
theorem rsize_k7 (n : Int) (w : World) :
    Calls Try.prog 13 #[.int .i64 7, .int .i64 n] w fun e w' => e = .returned (.tuple #[.int .i64 6, .int .i64 0]) ∧ w' = w := by
  go_enter Try.func13, Try.ntmps13
  go_wp2
  go_ret2
  exact ⟨rfl, rfl⟩

set_option maxRecDepth 100000 in
set_option maxHeartbeats 800000 in
theorem rsize_k8 (n : Int) (w : World) :
    Calls Try.prog 13 #[.int .i64 8, .int .i64 n] w fun e w' => e = .returned (.tuple #[.int .i64 6, .int .i64 0]) ∧ w' = w := by
  go_enter Try.func13, Try.ntmps13
  go_wp2
  go_ret2
  exact ⟨rfl, rfl⟩

set_option maxRecDepth 100000 in
set_option maxHeartbeats 800000 in
theorem rsize_no (k n : Int) (h1 : (k == 1) = false) (h2 : (k == 2) = false) (h3 : (k == 3) = false) (h4 : (k == 4) = false) (h5 : (k == 5) = false) (h6 : (k == 6) = false) (h7 : (k == 7) = false) (h8 : (k == 8) = false) (w : World) :
    Calls Try.prog 13 #[.int .i64 k, .int .i64 n] w fun e w' => e = .returned (.tuple #[.int .i64 0, .int .i64 80]) ∧ w' = w := by
  go_enter Try.func13, Try.ntmps13
  go_wp2
  go_ret2
  exact ⟨rfl, rfl⟩

theorem size_any (k n : Int) (w : World) :
    Calls Try.prog 12 #[.int .i64 k, .int .i64 n] w fun e w' => e = .returned (.tuple #[.int .i64 (sizeU k n).1, .int .i64 (sizeU k n).2]) ∧ Below w.heap.size w w' := by
  by_cases k1 : k = 1
  · subst k1
    by_cases h : 4 ≤ n ∧ n ≤ 20
    · have e : sizeU 1 n = (n, 0) := by simp [sizeU, h]
      rw [e]
      exact size1_in n (n) h.1 h.2 (by have := wrap_small n 0 (by omega) (by omega) (by omega) (by omega); simpa using this) w
    · have e : sizeU 1 n = (0, 1) := by simp [sizeU, h]
      rw [e]
      by_cases h1 : n < 4
      · exact size1_lo n h1 w
      · exact size1_hi n (by omega) w
  by_cases k2 : k = 2
  · subst k2
    by_cases h : 1 ≤ n ∧ n ≤ 8
    · have e : sizeU 2 n = (n + 2, 0) := by simp [sizeU, h]
      rw [e]
      exact size2_in n (n + 2) h.1 h.2 (by have := wrap_small n 2 (by omega) (by omega) (by omega) (by omega); simpa using this) w
    · have e : sizeU 2 n = (0, 1) := by simp [sizeU, h]
      rw [e]
      by_cases h1 : n < 1
      · exact size2_lo n h1 w
      · exact size2_hi n (by omega) w
  by_cases k3 : k = 3
  · subst k3
    exact size_k3 n w
  by_cases k4 : k = 4
  · subst k4
    exact size_k4 n w
  by_cases k5 : k = 5
  · subst k5
    exact size_k5 n w
  by_cases k6 : k = 6
  · subst k6
    exact size_k6 n w
  by_cases k7 : k = 7
  · subst k7
    exact size_k7 n w
  by_cases k8 : k = 8
  · subst k8
    exact size_k8 n w
  have e : sizeU k n = (0, 80) := by simp [sizeU, k1, k2, k3, k4, k5, k6, k7, k8]
  rw [e]
  by_cases h0 : k < 0
  · exact size_lo k n h0 w
  by_cases h1 : 10 ≤ k
  · exact size_hi k n h1 w
  by_cases h2 : k = 0
  · subst h2
    exact size_k0 n w
  have h3 : k = 9 := by omega
  subst h3
  exact size_k9 n w
theorem rsize_any (k n : Int) (w : World) :
    Calls Try.prog 13 #[.int .i64 k, .int .i64 n] w fun e w' => e = .returned (.tuple #[.int .i64 (sizeU k n).1, .int .i64 (sizeU k n).2]) ∧ Below w.heap.size w w' := by
  by_cases k1 : k = 1
  · subst k1
    by_cases h : 4 ≤ n ∧ n ≤ 20
    · have e : sizeU 1 n = (n, 0) := by simp [sizeU, h]
      rw [e]
      exact ((rsize1_in n h.1 h.2 w).mono fun e w' h => ⟨h.1, by rw [h.2]; exact Below.refl _ _⟩)
    · have e : sizeU 1 n = (0, 1) := by simp [sizeU, h]
      rw [e]
      by_cases h1 : n < 4
      · exact ((rsize1_lo n h1 w).mono fun e w' h => ⟨h.1, by rw [h.2]; exact Below.refl _ _⟩)
      · exact ((rsize1_hi n (by omega) (by omega) w).mono fun e w' h => ⟨h.1, by rw [h.2]; exact Below.refl _ _⟩)
  by_cases k2 : k = 2
  · subst k2
    by_cases h : 1 ≤ n ∧ n ≤ 8
    · have e : sizeU 2 n = (n + 2, 0) := by simp [sizeU, h]
      rw [e]
      exact ((rsize2_in n h.1 h.2 w).mono fun e w' h => ⟨h.1, by rw [h.2]; exact Below.refl _ _⟩)
    · have e : sizeU 2 n = (0, 1) := by simp [sizeU, h]
      rw [e]
      by_cases h1 : n < 1
      · exact ((rsize2_lo n h1 w).mono fun e w' h => ⟨h.1, by rw [h.2]; exact Below.refl _ _⟩)
      · exact ((rsize2_hi n (by omega) (by omega) w).mono fun e w' h => ⟨h.1, by rw [h.2]; exact Below.refl _ _⟩)
  by_cases k3 : k = 3
  · subst k3
    exact ((rsize_k3 n w).mono fun e w' h => ⟨h.1, by rw [h.2]; exact Below.refl _ _⟩)
  by_cases k4 : k = 4
  · subst k4
    exact ((rsize_k4 n w).mono fun e w' h => ⟨h.1, by rw [h.2]; exact Below.refl _ _⟩)
  by_cases k5 : k = 5
  · subst k5
    exact ((rsize_k5 n w).mono fun e w' h => ⟨h.1, by rw [h.2]; exact Below.refl _ _⟩)
  by_cases k6 : k = 6
  · subst k6
    exact ((rsize_k6 n w).mono fun e w' h => ⟨h.1, by rw [h.2]; exact Below.refl _ _⟩)
  by_cases k7 : k = 7
  · subst k7
    exact ((rsize_k7 n w).mono fun e w' h => ⟨h.1, by rw [h.2]; exact Below.refl _ _⟩)
  by_cases k8 : k = 8
  · subst k8
    exact ((rsize_k8 n w).mono fun e w' h => ⟨h.1, by rw [h.2]; exact Below.refl _ _⟩)
  have e : sizeU k n = (0, 80) := by simp [sizeU, k1, k2, k3, k4, k5, k6, k7, k8]
  rw [e]
  exact ((rsize_no k n (by simpa using k1) (by simpa using k2) (by simpa using k3) (by simpa using k4) (by simpa using k5) (by simpa using k6) (by simpa using k7) (by simpa using k8) w).mono fun e w' h => ⟨h.1, by rw [h.2]; exact Below.refl _ _⟩)
end Go.Proofs.Ytbgcgbelejmjiaa
