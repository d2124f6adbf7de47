/- Contracts of the caps package's small functions, and of Check, over the translation. -/
import Derived.Test.YthgiofgedeijoaaWords
import Derived.Test.YthgiofgedeijoaaCmath
namespace Go.Proofs.Ythgiofgedeijoaa
open Go.RowKit Wd Cd

set_option maxRecDepth 100000 in
set_option maxHeartbeats 400000 in
theorem rights_any (r : Int) (w : World) :
    Calls Try.prog 24 #[.int .i64 r] w fun e w' => e = .returned (.bool (rigB r)) ∧ w' = w := by
  by_cases h1 : 0 ≤ r
  · by_cases h2 : r ≤ 7
    · have hr : rigB r = true := decide_eq_true ⟨h1, h2⟩
      rw [hr]
      go_enter Try.func24, Try.ntmps24
      go_wp2
      go_ret
      exact ⟨rfl, rfl⟩
    · have hr : rigB r = false := decide_eq_false (fun h => h2 h.2)
      rw [hr]
      go_enter Try.func24, Try.ntmps24
      go_wp2
      go_ret
      exact ⟨ret_bool (by simp), rfl⟩
  · have hr : rigB r = false := decide_eq_false (fun h => h1 h.1)
    rw [hr]
    go_enter Try.func24, Try.ntmps24
    go_wp2
    go_ret
    exact ⟨rfl, rfl⟩

set_option maxRecDepth 100000 in
set_option maxHeartbeats 400000 in
theorem badged_any (k : Int) (w : World) :
    Calls Try.prog 25 #[.int .i64 k] w fun e w' => e = .returned (.bool (badB k)) ∧ w' = w := by
  by_cases h1 : k = 4
  · subst h1
    go_enter Try.func25, Try.ntmps25
    go_wp2
    go_ret
    exact ⟨rfl, rfl⟩
  · have hr : badB k = (k == 5) := by
      unfold badB
      simp [h1]
      by_cases h2 : k = 5 <;> simp [h2]
    have hk : (k == 4) = false := by simpa using h1
    clear h1
    rw [hr]
    clear hr
    go_enter Try.func25, Try.ntmps25
    go_wp2
    go_ret
    exact ⟨rfl, rfl⟩

set_option maxRecDepth 100000 in
set_option maxHeartbeats 400000 in
theorem rbadged_any (k : Int) (w : World) :
    Calls Try.prog 28 #[.int .i64 k] w fun e w' => e = .returned (.bool (badB k)) ∧ w' = w := by
  by_cases h1 : k = 4
  · subst h1
    go_enter Try.func28, Try.ntmps28
    go_wp2
    go_ret
    exact ⟨rfl, rfl⟩
  · have hr : badB k = (k == 5) := by
      unfold badB
      simp [h1]
      by_cases h2 : k = 5 <;> simp [h2]
    have hk : (k == 4) = false := by simpa using h1
    clear h1
    rw [hr]
    clear hr
    go_enter Try.func28, Try.ntmps28
    go_wp2
    go_ret
    exact ⟨rfl, rfl⟩

set_option maxRecDepth 100000 in
set_option maxHeartbeats 400000 in
theorem limited_any (k : Int) (w : World) :
    Calls Try.prog 26 #[.int .i64 k] w fun e w' => e = .returned (.bool (limB k)) ∧ w' = w := by
  by_cases h1 : k = 4
  · subst h1
    go_enter Try.func26, Try.ntmps26
    go_wp2
    go_ret
    exact ⟨rfl, rfl⟩
  · by_cases h2 : k = 5
    · subst h2
      go_enter Try.func26, Try.ntmps26
      go_wp2
      go_ret
      exact ⟨rfl, rfl⟩
    · have hr : limB k = (k == 6) := by
        unfold limB
        simp [h1, h2]
        by_cases h3 : k = 6 <;> simp [h3]
      have hk : (k == 4) = false := by simpa using h1
      have hk2 : (k == 5) = false := by simpa using h2
      clear h1 h2
      rw [hr]
      clear hr
      go_enter Try.func26, Try.ntmps26
      go_wp2
      go_ret
      exact ⟨rfl, rfl⟩

set_option maxRecDepth 100000 in
set_option maxHeartbeats 400000 in
theorem rlimited_any (k : Int) (w : World) :
    Calls Try.prog 29 #[.int .i64 k] w fun e w' => e = .returned (.bool (limB k)) ∧ w' = w := by
  by_cases h1 : k = 4
  · subst h1
    go_enter Try.func29, Try.ntmps29
    go_wp2
    go_ret
    exact ⟨rfl, rfl⟩
  · by_cases h2 : k = 5
    · subst h2
      go_enter Try.func29, Try.ntmps29
      go_wp2
      go_ret
      exact ⟨rfl, rfl⟩
    · have hr : limB k = (k == 6) := by
        unfold limB
        simp [h1, h2]
        by_cases h3 : k = 6 <;> simp [h3]
      have hk : (k == 4) = false := by simpa using h1
      have hk2 : (k == 5) = false := by simpa using h2
      clear h1 h2
      rw [hr]
      clear hr
      go_enter Try.func29, Try.ntmps29
      go_wp2
      go_ret
      exact ⟨rfl, rfl⟩

set_option maxRecDepth 100000 in
set_option maxHeartbeats 400000 in
theorem guard_any (g : Nat) (n : Int) (hg : Word g) (w : World) :
    Calls Try.prog 27 #[.int .u64 g, .int .i64 n] w fun e w' => e = .returned (.bool (guaB g n)) ∧ w' = w := by
  by_cases h : n < 0 ∨ 64 < n
  · rw [guaB_bad g n h]
    have H := Lib.hid h
    clear h
    go_enter Try.func27, Try.ntmps27
    go_wp2_with (go_at_call 34; refine (mask_bad n H.out _).mono ?_; rintro e w' ⟨rfl, rfl⟩)
    go_ret
    exact ⟨rfl, rfl⟩
  · obtain ⟨m, rfl⟩ := Int.eq_ofNat_of_zero_le (show 0 ≤ n by omega)
    have hm : m ≤ 64 := by omega
    have HG := Lib.hid (guaB_msk g m hg hm)
    clear h
    go_enter Try.func27, Try.ntmps27
    go_wp2_with (go_at_call 34; refine (mask_any m hm _).mono ?_; rintro e w' ⟨rfl, rfl⟩)
    go_ret
    exact ⟨ret_bool HG.out, rfl⟩

/-- '==' of two capabilities. -/
theorem eq_caps (x y : Cp) (w : World) : (Op.equalIn 10000 24 (.agg #[.int .i64 x.k, .int .i64 x.o, .int .i64 x.r, .int .u64 x.b, .int .u64 x.g, .int .i64 x.n]) (.agg #[.int .i64 y.k, .int .i64 y.o, .int .i64 y.r, .int .u64 y.b, .int .u64 y.g, .int .i64 y.n])).run Try.prog w = .ok (eqB x y) w := by
  rw [show (10000 : Nat) = 9998 + 1 + 1 from rfl]
  go_simp
  unfold eqB
  simp only [Int.ofNat_inj]
  by_cases h1 : x.k = y.k
  · by_cases h2 : x.o = y.o
    · by_cases h3 : x.r = y.r
      · by_cases h4 : x.b = y.b
        · by_cases h5 : x.g = y.g
          · by_cases h6 : x.n = y.n <;> simp [h1, h2, h3, h4, h5, h6]
          · simp [h1, h2, h3, h4, h5]
        · simp [h1, h2, h3, h4]
      · simp [h1, h2, h3]
    · simp [h1, h2]
  · simp [h1]

end Go.Proofs.Ythgiofgedeijoaa
