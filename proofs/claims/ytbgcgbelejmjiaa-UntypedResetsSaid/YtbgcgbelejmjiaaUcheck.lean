/- Check as one contract, the program's and the reference's, over the translation. -/
import Derived.Test.YtbgcgbelejmjiaaUsize
set_option linter.unusedVariables false
set_option linter.unusedSimpArgs false
namespace Go.Proofs.Ytbgcgbelejmjiaa
open Go.RowKit Wd Ud

theorem below_draws {w w1 : World} (h : Below w.heap.size w w1) (k : Nat) : Below w.heap.size w (w1.drewN k) := ⟨h.os, h.tape, h.output, h.size, h.block⟩
namespace Ud
theorem pw40 : pw 40 = 1099511627776 := by decide
theorem wrap_2 (m : Nat) (h : m < 64) : IntKind.u64.wrap (2 ^ m) = (pw m : Int) := wrap_pw m h
theorem up_is (b m : Nat) (hb : Word b) (hm : m ≤ 20) (hb40 : b ≤ 1099511627776) : upTo b m = b ↔ b % pw m = 0 := by
  unfold upTo
  show (b + (pw m - 1)) / pw m * pw m = b ↔ b % pw m = 0
  have hp : 0 < pw m := Nat.two_pow_pos m
  have hd := Nat.div_add_mod b (pw m)
  constructor
  · intro h
    rw [← h, Nat.mul_mod_left]
  · intro h
    clear hd hb hb40
    have h2 : ∃ k, b = pw m * k := Nat.dvd_of_mod_eq_zero h
    obtain ⟨k, rfl⟩ := h2
    rw [Nat.mul_add_div hp, Nat.div_eq_of_lt (by omega), Nat.add_zero, Nat.mul_comm]
end Ud

set_option maxRecDepth 100000 in
set_option maxHeartbeats 1600000 in
theorem check_n (x : Ut) (hb : Word x.b) (hu : Word x.u) (h : x.n < 0) (w : World) :
    Calls Try.prog 16 #[(.agg #[.int .u64 x.b, .int .i64 x.n, .int .u64 x.u])] w fun e w' => e = .returned (.int .i64 1) ∧ Below w.heap.size w w' := by
  go_enter Try.func16, Try.ntmps16
  go_wp2
  go_ret
  exact ⟨rfl, (by repeat (first | exact Below.refl _ _ | apply below_new | apply below_draws))⟩

set_option maxRecDepth 100000 in
set_option maxHeartbeats 1600000 in
theorem check_m (x : Ut) (hb : Word x.b) (hu : Word x.u) (h0 : 0 ≤ x.n) (h : 20 < x.n) (w : World) :
    Calls Try.prog 16 #[(.agg #[.int .u64 x.b, .int .i64 x.n, .int .u64 x.u])] w fun e w' => e = .returned (.int .i64 1) ∧ Below w.heap.size w w' := by
  go_enter Try.func16, Try.ntmps16
  go_wp2
  go_ret
  exact ⟨rfl, (by repeat (first | exact Below.refl _ _ | apply below_new | apply below_draws))⟩

set_option maxRecDepth 100000 in
set_option maxHeartbeats 1600000 in
theorem check_b (x : Ut) (hb : Word x.b) (hu : Word x.u) (h0 : 0 ≤ x.n) (h1 : x.n ≤ 20) (h : 1099511627776 < x.b) (w : World) :
    Calls Try.prog 16 #[(.agg #[.int .u64 x.b, .int .i64 x.n, .int .u64 x.u])] w fun e w' => e = .returned (.int .i64 1) ∧ Below w.heap.size w w' := by
  go_enter Try.func16, Try.ntmps16
  go_wp2
  go_ret
  exact ⟨rfl, (by repeat (first | exact Below.refl _ _ | apply below_new | apply below_draws))⟩

set_option maxRecDepth 100000 in
set_option maxHeartbeats 1600000 in
theorem check_u (x : Ut) (hb : Word x.b) (hu : Word x.u) (m : Nat) (hn : x.n = (m : Int)) (hm : m ≤ 20) (h40 : x.b ≤ 1099511627776) (hne : ((upTo x.b m : Int) != (x.b : Int)) = true) (w : World) :
    Calls Try.prog 16 #[(.agg #[.int .u64 x.b, .int .i64 x.n, .int .u64 x.u])] w fun e w' => e = .returned (.int .i64 1) ∧ Below w.heap.size w w' := by
  have hS := wrap_2 m (by omega)
  have hp : pw m ≤ 1048576 := Nat.pow_le_pow_right (by decide) hm
  have HU : Hid (x.b + 2 ^ m ≤ 2 ^ 64) := Lib.hid (by
    have e : pw m = 2 ^ m := rfl
    have e64 : (2 : Nat) ^ 64 = 18446744073709551616 := by decide
    omega)
  go_enter Try.func16, Try.ntmps16
  go_wp2_with fail
  refine (up_any x.b m hb (by omega) HU.out _).mono ?_
  rintro e w' ⟨rfl, rfl⟩
  go_wp2_with fail
  go_quiet (fail)
  go_wp2_with fail
  go_ret
  exact ⟨rfl, (by repeat (first | exact Below.refl _ _ | apply below_new | apply below_draws))⟩

set_option maxRecDepth 100000 in
set_option maxHeartbeats 1600000 in
theorem check_o (x : Ut) (hb : Word x.b) (hu : Word x.u) (m : Nat) (hn : x.n = (m : Int)) (hm : m ≤ 20) (h40 : x.b ≤ 1099511627776) (hne : ((upTo x.b m : Int) != (x.b : Int)) = false) (ho : pw m < x.u) (w : World) :
    Calls Try.prog 16 #[(.agg #[.int .u64 x.b, .int .i64 x.n, .int .u64 x.u])] w fun e w' => e = .returned (.int .i64 1) ∧ Below w.heap.size w w' := by
  have hS := wrap_2 m (by omega)
  have hp : pw m ≤ 1048576 := Nat.pow_le_pow_right (by decide) hm
  have HU : Hid (x.b + 2 ^ m ≤ 2 ^ 64) := Lib.hid (by
    have e : pw m = 2 ^ m := rfl
    have e64 : (2 : Nat) ^ 64 = 18446744073709551616 := by decide
    omega)
  go_enter Try.func16, Try.ntmps16
  go_wp2_with fail
  refine (up_any x.b m hb (by omega) HU.out _).mono ?_
  rintro e w' ⟨rfl, rfl⟩
  go_wp2_with fail
  go_quiet (fail)
  go_wp2_with fail
  go_ret
  exact ⟨rfl, (by repeat (first | exact Below.refl _ _ | apply below_new | apply below_draws))⟩

set_option maxRecDepth 100000 in
set_option maxHeartbeats 1600000 in
theorem check_y (x : Ut) (hb : Word x.b) (hu : Word x.u) (m : Nat) (hn : x.n = (m : Int)) (hm : m ≤ 20) (h40 : x.b ≤ 1099511627776) (hne : ((upTo x.b m : Int) != (x.b : Int)) = false) (ho : x.u ≤ pw m) (w : World) :
    Calls Try.prog 16 #[(.agg #[.int .u64 x.b, .int .i64 x.n, .int .u64 x.u])] w fun e w' => e = .returned (.int .i64 0) ∧ Below w.heap.size w w' := by
  have hS := wrap_2 m (by omega)
  have hp : pw m ≤ 1048576 := Nat.pow_le_pow_right (by decide) hm
  have HU : Hid (x.b + 2 ^ m ≤ 2 ^ 64) := Lib.hid (by
    have e : pw m = 2 ^ m := rfl
    have e64 : (2 : Nat) ^ 64 = 18446744073709551616 := by decide
    omega)
  go_enter Try.func16, Try.ntmps16
  go_wp2_with fail
  refine (up_any x.b m hb (by omega) HU.out _).mono ?_
  rintro e w' ⟨rfl, rfl⟩
  go_wp2_with fail
  go_quiet (fail)
  go_wp2_with fail
  go_ret
  exact ⟨rfl, (by repeat (first | exact Below.refl _ _ | apply below_new | apply below_draws))⟩

end Go.Proofs.Ytbgcgbelejmjiaa
