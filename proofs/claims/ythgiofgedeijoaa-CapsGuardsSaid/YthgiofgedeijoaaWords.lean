/- Contracts of the words package's functions on single words, over the translation. -/
import Derived.Test.YthgiofgedeijoaaRows
import Derived.Test.YthgiofgedeijoaaMath
import Derived.WalkKit
import Derived.WalkSpells
import Derived.WalkLawsBesides
import Derived.Deep.QuietTactic
import Derived.BigQuiet
import Derived.Lib.Hide
namespace Go.Proofs.Ythgiofgedeijoaa
open Go.RowKit Wd

theorem ret_u64 {a b : Int} (h : a = b) : Ending.returned (.int .u64 a) = .returned (.int .u64 b) := by rw [h]
theorem ret_i64 {a b : Int} (h : a = b) : Ending.returned (.int .i64 a) = .returned (.int .i64 b) := by rw [h]
theorem ret_bool {a b : Bool} (h : a = b) : Ending.returned (.bool a) = .returned (.bool b) := by rw [h]
theorem ret_ue {a b c : Int} (h : a = b) : Ending.returned (.tuple #[.int .u64 a, .int .i64 c]) = .returned (.tuple #[.int .u64 b, .int .i64 c]) := by rw [h]

set_option maxHeartbeats 400000 in
theorem low_any (n : Nat) (hn : n ≤ 64) (w : World) :
    Calls Try.prog 38 #[.int .i64 n] w fun e w' => e = .returned (.int .u64 (msk n)) ∧ w' = w := by
  go_enter Try.func38, Try.ntmps38
  go_wp2
  go_ret
  exact ⟨ret_u64 (low_spelt n hn), rfl⟩

set_option maxHeartbeats 400000 in
theorem mask_any (n : Nat) (hn : n ≤ 64) (w : World) :
    Calls Try.prog 34 #[.int .i64 n] w fun e w' => e = .returned (.tuple #[.int .u64 (msk n), .int .i64 0]) ∧ w' = w := by
  go_enter Try.func34, Try.ntmps34
  go_wp2_with (go_at_call 38; refine (low_any n hn _).mono ?_; rintro e w' ⟨rfl, rfl⟩)
  go_ret2
  exact ⟨rfl, rfl⟩

set_option maxHeartbeats 400000 in
theorem mask_bad (n : Int) (hn : n < 0 ∨ 64 < n) (w : World) :
    Calls Try.prog 34 #[.int .i64 n] w fun e w' => e = .returned (.tuple #[.int .u64 0, .int .i64 1]) ∧ w' = w := by
  rcases hn with hn | hn
  · go_enter Try.func34, Try.ntmps34
    go_wp2
    go_ret2
    exact ⟨rfl, rfl⟩
  · have h0 : ¬ n < 0 := by omega
    go_enter Try.func34, Try.ntmps34
    go_wp2
    go_ret2
    exact ⟨rfl, rfl⟩

set_option maxHeartbeats 400000 in
theorem there_yes (a n : Nat) (h : a + n ≤ 64) (w : World) :
    Calls Try.prog 37 #[.int .i64 a, .int .i64 n] w fun e w' => e = .returned (.bool true) ∧ w' = w := by
  have h1 : a ≤ 64 := by omega
  have h3 : (n : Int) ≤ 64 - a := by omega
  go_enter Try.func37, Try.ntmps37
  go_wp2
  go_ret
  exact ⟨rfl, rfl⟩

set_option maxHeartbeats 400000 in
theorem there_no (a n : Int) (h : a < 0 ∨ n < 0 ∨ 64 < a + n) (w : World) :
    Calls Try.prog 37 #[.int .i64 a, .int .i64 n] w fun e w' => e = .returned (.bool false) ∧ w' = w := by
  by_cases h1 : a < 0
  · clear h
    go_enter Try.func37, Try.ntmps37
    go_wp2
    go_ret
    exact ⟨rfl, rfl⟩
  have h1' : 0 ≤ a := by omega
  by_cases h2 : n < 0
  · clear h
    go_enter Try.func37, Try.ntmps37
    go_wp2
    go_ret
    exact ⟨rfl, rfl⟩
  have h2' : 0 ≤ n := by omega
  by_cases h3 : 64 < a
  · clear h
    go_enter Try.func37, Try.ntmps37
    go_wp2
    go_ret
    exact ⟨rfl, rfl⟩
  have h3' : a ≤ 64 := by omega
  have h4 : 64 - a < n := by omega
  clear h
  go_enter Try.func37, Try.ntmps37
  go_wp2
  go_ret
  exact ⟨by simp; omega, rfl⟩

set_option maxHeartbeats 400000 in
theorem field_any (v a n : Nat) (hv : Word v) (h : a + n ≤ 64) (w : World) :
    Calls Try.prog 33 #[.int .u64 v, .int .i64 a, .int .i64 n] w fun e w' => e = .returned (.tuple #[.int .u64 (fld v a n), .int .i64 0]) ∧ ∃ k, w' = w.drewN k := by
  have h2 : n ≤ 64 := by omega
  go_enter Try.func33, Try.ntmps33
  go_wp2_with (go_at_call 37; refine (there_yes a n h _).mono ?_; rintro e w' ⟨rfl, rfl⟩)
  go_quiet ((go_at_call 38; exact Calls.quiet_of_same (low_any n h2 _)))
  go_wp2
  go_ret2
  exact ⟨ret_ue (fld_spelt v a n hv h2), _, rfl⟩

set_option maxHeartbeats 400000 in
theorem field_bad (v a n : Int) (h : a < 0 ∨ n < 0 ∨ 64 < a + n) (w : World) :
    Calls Try.prog 33 #[.int .u64 v, .int .i64 a, .int .i64 n] w fun e w' => e = .returned (.tuple #[.int .u64 0, .int .i64 1]) ∧ w' = w := by
  go_enter Try.func33, Try.ntmps33
  go_wp2_with (go_at_call 37; refine (there_no a n h _).mono ?_; rintro e w' ⟨rfl, rfl⟩)
  go_ret2
  exact ⟨rfl, rfl⟩

set_option maxHeartbeats 400000 in
theorem with_bad (v a n x : Int) (h : a < 0 ∨ n < 0 ∨ 64 < a + n) (w : World) :
    Calls Try.prog 36 #[.int .u64 v, .int .i64 a, .int .i64 n, .int .u64 x] w fun e w' => e = .returned (.tuple #[.int .u64 0, .int .i64 1]) ∧ w' = w := by
  go_enter Try.func36, Try.ntmps36
  go_wp2_with (go_at_call 37; refine (there_no a n h _).mono ?_; rintro e w' ⟨rfl, rfl⟩)
  go_ret2
  exact ⟨rfl, rfl⟩

set_option maxHeartbeats 400000 in
theorem with_big (v a n x : Nat) (hx : Word x) (h : a + n ≤ 64) (hb : 2 ^ n ≤ x) (w : World) :
    Calls Try.prog 36 #[.int .u64 v, .int .i64 a, .int .i64 n, .int .u64 x] w fun e w' => e = .returned (.tuple #[.int .u64 0, .int .i64 2]) ∧ w' = w := by
  have h2 : n ≤ 64 := by omega
  have hne := big_spelt x n hx h2 hb
  clear hb
  go_enter Try.func36, Try.ntmps36
  go_wp2_with (first | (go_at_call 37; refine (there_yes a n h _).mono ?_; rintro e w' ⟨rfl, rfl⟩) | (go_at_call 38; refine (low_any n h2 _).mono ?_; rintro e w' ⟨rfl, rfl⟩))
  go_ret2
  exact ⟨rfl, rfl⟩

set_option maxHeartbeats 400000 in
theorem with_any (v a n x : Nat) (hv : Word v) (hx : Word x) (h : a + n ≤ 64) (hb : x < 2 ^ n) (w : World) :
    Calls Try.prog 36 #[.int .u64 v, .int .i64 a, .int .i64 n, .int .u64 x] w fun e w' => e = .returned (.tuple #[.int .u64 (wth v a n x), .int .i64 0]) ∧ ∃ k, w' = w.drewN k := by
  have h2 : n ≤ 64 := by omega
  have h4 : a ≤ 64 := by omega
  have hne := small_spelt x n hx h2 hb
  have HB := Lib.hid (with_spelt v a n x hv h hb)
  clear hb
  go_enter Try.func36, Try.ntmps36
  go_wp2_with (first | (go_at_call 37; refine (there_yes a n h _).mono ?_; rintro e w' ⟨rfl, rfl⟩) | (go_at_call 38; refine (low_any n h2 _).mono ?_; rintro e w' ⟨rfl, rfl⟩))
  go_quiet ((go_at_call 38; exact Calls.quiet_of_same (low_any n h2 _)))
  go_wp2
  go_ret2
  exact ⟨ret_ue HB.out, _, rfl⟩





end Go.Proofs.Ythgiofgedeijoaa
