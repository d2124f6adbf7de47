/- Contracts of the words package's functions on single words, over the translation. -/
import Derived.Test.YtbgcgbelejmjiaaRows
import Derived.Test.YtbgcgbelejmjiaaMath
import Derived.WalkKit
import Derived.WalkSpells
import Derived.WalkLawsBesides
import Derived.Deep.QuietTactic
import Derived.BigQuiet
import Derived.Lib.Hide
namespace Go.Proofs.Ytbgcgbelejmjiaa
open Go.RowKit Wd

theorem ret_u64 {a b : Int} (h : a = b) : Ending.returned (.int .u64 a) = .returned (.int .u64 b) := by rw [h]
theorem ret_i64 {a b : Int} (h : a = b) : Ending.returned (.int .i64 a) = .returned (.int .i64 b) := by rw [h]
theorem ret_bool {a b : Bool} (h : a = b) : Ending.returned (.bool a) = .returned (.bool b) := by rw [h]
theorem ret_ue {a b c : Int} (h : a = b) : Ending.returned (.tuple #[.int .u64 a, .int .i64 c]) = .returned (.tuple #[.int .u64 b, .int .i64 c]) := by rw [h]

set_option maxHeartbeats 400000 in
theorem low_any (n : Nat) (hn : n ≤ 64) (w : World) :
    Calls Try.prog 23 #[.int .i64 n] w fun e w' => e = .returned (.int .u64 (msk n)) ∧ w' = w := by
  go_enter Try.func23, Try.ntmps23
  go_wp2
  go_ret
  exact ⟨ret_u64 (low_spelt n hn), rfl⟩










theorem add64_any (x y : Nat) (w : World) :
    (callFunc 24 #[.int .u64 x, .int .u64 y, .int .u64 0]).run Try.prog w =
      .ok (.value (.tuple #[.int .u64 (sumLo x y), .int .u64 (sumHi x y)])) w := by
  rw [run_callFunc_extern Try.func24 (by kernel_rfl) (by kernel_rfl) (by kernel_rfl) (e := add64Entry) (by kernel_rfl), run_add64 x y 0 (by omega) (by omega) (by omega) (by omega)]
  simp only [Result.andThen]
  unfold sumLo sumHi
  congr 5 <;> omega

set_option maxHeartbeats 400000 in
theorem up_bad (v n : Int) (h : n < 0 ∨ 63 < n) (w : World) :
    Calls Try.prog 20 #[.int .u64 v, .int .i64 n] w fun e w' => e = .returned (.tuple #[.int .u64 0, .int .i64 1]) ∧ w' = w := by
  rcases h with hn | hn
  · go_enter Try.func20, Try.ntmps20
    go_wp2
    go_ret2
    exact ⟨rfl, rfl⟩
  · have h0 : ¬ n < 0 := by omega
    go_enter Try.func20, Try.ntmps20
    go_wp2
    go_ret2
    exact ⟨rfl, rfl⟩

set_option maxHeartbeats 400000 in
theorem up_big (v n : Nat) (hv : Word v) (hn : n ≤ 63) (hb : 2 ^ 64 < v + 2 ^ n) (w : World) :
    Calls Try.prog 20 #[.int .u64 v, .int .i64 n] w fun e w' => e = .returned (.tuple #[.int .u64 0, .int .i64 2]) ∧ w' = w := by
  have h2 : n ≤ 64 := by omega
  have hne := sumHi_big v n hv hb
  clear hb
  go_enter Try.func20, Try.ntmps20
  go_wp2_with (first | (go_at_call 23; refine (low_any n h2 _).mono ?_; rintro e w' ⟨rfl, rfl⟩) | simp only [add64_any v (msk n)])
  go_ret2
  exact ⟨rfl, rfl⟩

set_option maxHeartbeats 400000 in
theorem up_any (v n : Nat) (hv : Word v) (hn : n ≤ 63) (hb : v + 2 ^ n ≤ 2 ^ 64) (w : World) :
    Calls Try.prog 20 #[.int .u64 v, .int .i64 n] w fun e w' => e = .returned (.tuple #[.int .u64 (upTo v n), .int .i64 0]) ∧ w' = w := by
  have h2 : n ≤ 64 := by omega
  have hne := sumHi_small v n hv hb
  have HB := Lib.hid (up_spelt v n hv h2 hb)
  clear hb
  go_enter Try.func20, Try.ntmps20
  go_wp2_with (first | (go_at_call 23; refine (low_any n h2 _).mono ?_; rintro e w' ⟨rfl, rfl⟩) | simp only [add64_any v (msk n)])
  go_ret2
  exact ⟨ret_ue HB.out, rfl⟩

end Go.Proofs.Ytbgcgbelejmjiaa
