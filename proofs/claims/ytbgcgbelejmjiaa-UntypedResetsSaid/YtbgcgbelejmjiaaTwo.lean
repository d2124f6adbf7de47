/- The contract of the reference's power of two, over the translation. -/
import Derived.Test.YtbgcgbelejmjiaaWords
namespace Go.Proofs.Ytbgcgbelejmjiaa
open Go.RowKit Wd

set_option maxHeartbeats 400000 in
theorem two_any (n : Nat) (hn : n ≤ 63) (w : World) :
    Calls Try.prog 19 #[.int .i64 n] w fun e w' => e = .returned (.int .u64 (pw n)) ∧ w' = w := by
  go_enter Try.func19, Try.ntmps19
  go_wp2
  go_loop [3, 4] (fun p i => ∃ k : Nat, k ≤ n ∧ i = .int .i64 k ∧ p = .int .u64 (pw k)) (fun _ i => n - (intOf i).toNat)
  case atStart => exact ⟨0, by omega, rfl, rfl⟩
  case round =>
    obtain ⟨k, hk, rfl, rfl⟩ := hrel
    by_cases hlt : k < n
    · have HS := Lib.hid (pw_step k (by omega))
      go_wp2
      go_round
      case rel => exact ⟨k + 1, by omega, by go_num, by rw [HS.out]⟩
      case measure => simp [intOf]; omega
    · go_wp2
      go_ret
      exact ⟨ret_u64 (by rw [show k = n by omega]), rfl⟩

end Go.Proofs.Ytbgcgbelejmjiaa
