/- Check as one contract, the program's and the reference's, over the translation. -/
import Derived.Test.YtbgcgbelejmjiaaUcheck
set_option linter.unusedVariables false
set_option linter.unusedSimpArgs false
namespace Go.Proofs.Ytbgcgbelejmjiaa
open Go.RowKit Wd Ud

theorem below_put {w W : World} (h : Below w.heap.size w W) (p : Addr) (v : Value) (hp : w.heap.size ≤ p.block) : Below w.heap.size w (W.setCell p v) := h.setCell hp v
theorem two_40 (w : World) : Calls Try.prog 19 #[.int .i64 40] w fun e w' => e = .returned (.int .u64 1099511627776) ∧ w' = w := by
  have h := two_any 40 (by decide) w
  have e : ((pw 40 : Nat) : Int) = 1099511627776 := by decide
  rw [e] at h
  exact h
set_option maxRecDepth 100000 in
set_option maxHeartbeats 1600000 in
theorem rcheck_n (x : Ut) (hb : Word x.b) (hu : Word x.u) (h : x.n < 0) (w : World) :
    Calls Try.prog 17 #[(.agg #[.int .u64 x.b, .int .i64 x.n, .int .u64 x.u])] w fun e w' => e = .returned (.int .i64 1) ∧ Below w.heap.size w w' := by
  go_enter Try.func17, Try.ntmps17
  go_wp2_with fail
  go_quiet ((go_at_call 19; exact Calls.quiet_of_same (two_40 _)))
  go_wp2_with fail
  go_ret
  exact ⟨rfl, (by repeat (first | exact Below.refl _ _ | apply below_new | apply below_draws))⟩

set_option maxRecDepth 100000 in
set_option maxHeartbeats 1600000 in
theorem rcheck_m (x : Ut) (hb : Word x.b) (hu : Word x.u) (h0 : 0 ≤ x.n) (h : 20 < x.n) (w : World) :
    Calls Try.prog 17 #[(.agg #[.int .u64 x.b, .int .i64 x.n, .int .u64 x.u])] w fun e w' => e = .returned (.int .i64 1) ∧ Below w.heap.size w w' := by
  go_enter Try.func17, Try.ntmps17
  go_wp2_with fail
  go_quiet ((go_at_call 19; exact Calls.quiet_of_same (two_40 _)))
  go_wp2_with fail
  go_ret
  exact ⟨rfl, (by repeat (first | exact Below.refl _ _ | apply below_new | apply below_draws))⟩

set_option maxRecDepth 100000 in
set_option maxHeartbeats 1600000 in
theorem rcheck_b (x : Ut) (hb : Word x.b) (hu : Word x.u) (h0 : 0 ≤ x.n) (h1 : x.n ≤ 20) (h : 1099511627776 < x.b) (w : World) :
    Calls Try.prog 17 #[(.agg #[.int .u64 x.b, .int .i64 x.n, .int .u64 x.u])] w fun e w' => e = .returned (.int .i64 1) ∧ Below w.heap.size w w' := by
  go_enter Try.func17, Try.ntmps17
  go_wp2_with fail
  go_quiet ((go_at_call 19; exact Calls.quiet_of_same (two_40 _)))
  go_wp2_with fail
  go_ret
  exact ⟨rfl, (by repeat (first | exact Below.refl _ _ | apply below_new | apply below_draws))⟩

set_option maxRecDepth 100000 in
set_option maxHeartbeats 1600000 in
theorem rcheck_r (x : Ut) (hb : Word x.b) (hu : Word x.u) (m : Nat) (hn : x.n = (m : Int)) (hm : m ≤ 20) (h40 : x.b ≤ 1099511627776) (hne : ((x.b : Int) % (pw m : Int) != 0) = true) (w : World) :
    Calls Try.prog 17 #[(.agg #[.int .u64 x.b, .int .i64 x.n, .int .u64 x.u])] w fun e w' => e = .returned (.int .i64 1) ∧ Below w.heap.size w w' := by
  have hp := pw_pos m
  have hn0 : (0 : Int) ≤ (m : Int) := by omega
  have hn1 : (m : Int) ≤ 20 := by omega
  have hb4 : (x.b : Int) ≤ 1099511627776 := by omega
  have h63 : m ≤ 63 := by omega
  go_enter Try.func17, Try.ntmps17
  go_wp2_with fail
  go_quiet ((go_at_call 19; exact Calls.quiet_of_same (two_40 _)))
  go_wp2_with fail
  go_quiet ((go_at_call 19; refine (two_any m h63 _).mono ?_; rintro e w' ⟨rfl, rfl⟩; exact ⟨rfl, _, rfl⟩))
  go_wp2_with fail
  go_ret
  exact ⟨rfl, (by repeat (first | exact Below.refl _ _ | apply below_new | apply below_draws))⟩

set_option maxRecDepth 100000 in
set_option maxHeartbeats 1600000 in
theorem rcheck_o (x : Ut) (hb : Word x.b) (hu : Word x.u) (m : Nat) (hn : x.n = (m : Int)) (hm : m ≤ 20) (h40 : x.b ≤ 1099511627776) (hne : ((x.b : Int) % (pw m : Int) != 0) = false) (ho : pw m < x.u) (w : World) :
    Calls Try.prog 17 #[(.agg #[.int .u64 x.b, .int .i64 x.n, .int .u64 x.u])] w fun e w' => e = .returned (.int .i64 1) ∧ Below w.heap.size w w' := by
  have hp := pw_pos m
  have hn0 : (0 : Int) ≤ (m : Int) := by omega
  have hn1 : (m : Int) ≤ 20 := by omega
  have hb4 : (x.b : Int) ≤ 1099511627776 := by omega
  have h63 : m ≤ 63 := by omega
  go_enter Try.func17, Try.ntmps17
  go_wp2_with fail
  go_quiet ((go_at_call 19; exact Calls.quiet_of_same (two_40 _)))
  go_wp2_with fail
  go_quiet ((go_at_call 19; refine (two_any m h63 _).mono ?_; rintro e w' ⟨rfl, rfl⟩; exact ⟨rfl, _, rfl⟩))
  go_wp2_with fail
  go_ret
  exact ⟨rfl, (by repeat (first | exact Below.refl _ _ | apply below_new | apply below_draws))⟩

set_option maxRecDepth 100000 in
set_option maxHeartbeats 1600000 in
theorem rcheck_y (x : Ut) (hb : Word x.b) (hu : Word x.u) (m : Nat) (hn : x.n = (m : Int)) (hm : m ≤ 20) (h40 : x.b ≤ 1099511627776) (hne : ((x.b : Int) % (pw m : Int) != 0) = false) (ho : x.u ≤ pw m) (w : World) :
    Calls Try.prog 17 #[(.agg #[.int .u64 x.b, .int .i64 x.n, .int .u64 x.u])] w fun e w' => e = .returned (.int .i64 0) ∧ Below w.heap.size w w' := by
  have hp := pw_pos m
  have hn0 : (0 : Int) ≤ (m : Int) := by omega
  have hn1 : (m : Int) ≤ 20 := by omega
  have hb4 : (x.b : Int) ≤ 1099511627776 := by omega
  have h63 : m ≤ 63 := by omega
  go_enter Try.func17, Try.ntmps17
  go_wp2_with fail
  go_quiet ((go_at_call 19; exact Calls.quiet_of_same (two_40 _)))
  go_wp2_with fail
  go_quiet ((go_at_call 19; refine (two_any m h63 _).mono ?_; rintro e w' ⟨rfl, rfl⟩; exact ⟨rfl, _, rfl⟩))
  go_wp2_with fail
  go_ret
  exact ⟨rfl, (by repeat (first | exact Below.refl _ _ | apply below_new | apply below_draws))⟩


namespace Ud
theorem chk_yes {x : Ut} (m : Nat) (hn : x.n = (m : Int)) (hm : m ≤ 20) (h40 : x.b ≤ 1099511627776) (h : x.b % pw m = 0) (ho : x.u ≤ pw m) : chkU x = 0 := by
  have e : x.n.toNat = m := by omega
  have ok : x.Ok := by
    unfold Ut.Ok
    rw [e]
    exact ⟨by omega, by omega, by omega, h, ho⟩
  simp [chkU, ok]
theorem chk_no {x : Ut} (h : ¬ x.Ok) : chkU x = 1 := by simp [chkU, h]
end Ud
theorem check_any (x : Ut) (hb : Word x.b) (hu : Word x.u) (w : World) :
    Calls Try.prog 16 #[(.agg #[.int .u64 x.b, .int .i64 x.n, .int .u64 x.u])] w fun e w' => e = .returned (.int .i64 (chkU x)) ∧ Below w.heap.size w w' := by
  by_cases h0 : x.n < 0
  · rw [chk_no (x := x) (fun h => by unfold Ut.Ok at h; omega)]
    exact check_n x hb hu h0 w
  by_cases h1 : 20 < x.n
  · rw [chk_no (x := x) (fun h => by unfold Ut.Ok at h; omega)]
    exact check_m x hb hu (by omega) h1 w
  by_cases h2 : 1099511627776 < x.b
  · rw [chk_no (x := x) (fun h => by unfold Ut.Ok at h; omega)]
    exact check_b x hb hu (by omega) (by omega) h2 w
  obtain ⟨m, hn⟩ : ∃ m : Nat, x.n = (m : Int) := ⟨x.n.toNat, by omega⟩
  have hm : m ≤ 20 := by omega
  have hB : x.b ≤ 1099511627776 := by omega
  have eN : x.n.toNat = m := by omega
  by_cases hr : x.b % pw m = 0
  · by_cases ho : pw m < x.u
    · rw [chk_no (x := x) (fun h => by unfold Ut.Ok at h; rw [eN] at h; omega)]
      exact check_o x hb hu m hn hm hB (by have := (up_is x.b m hb hm hB).2 hr; simp [this]) ho w
    · rw [chk_yes m hn hm hB hr (by omega)]
      exact check_y x hb hu m hn hm hB (by have := (up_is x.b m hb hm hB).2 hr; simp [this]) (by omega) w
  · rw [chk_no (x := x) (fun h => by unfold Ut.Ok at h; rw [eN] at h; exact hr h.2.2.2.1)]
    exact check_u x hb hu m hn hm hB (by have : upTo x.b m ≠ x.b := fun h => hr ((up_is x.b m hb hm hB).1 h); simpa using fun h => this (by omega)) w
theorem rcheck_any (x : Ut) (hb : Word x.b) (hu : Word x.u) (w : World) :
    Calls Try.prog 17 #[(.agg #[.int .u64 x.b, .int .i64 x.n, .int .u64 x.u])] w fun e w' => e = .returned (.int .i64 (chkU x)) ∧ Below w.heap.size w w' := by
  by_cases h0 : x.n < 0
  · rw [chk_no (x := x) (fun h => by unfold Ut.Ok at h; omega)]
    exact rcheck_n x hb hu h0 w
  by_cases h1 : 20 < x.n
  · rw [chk_no (x := x) (fun h => by unfold Ut.Ok at h; omega)]
    exact rcheck_m x hb hu (by omega) h1 w
  by_cases h2 : 1099511627776 < x.b
  · rw [chk_no (x := x) (fun h => by unfold Ut.Ok at h; omega)]
    exact rcheck_b x hb hu (by omega) (by omega) h2 w
  obtain ⟨m, hn⟩ : ∃ m : Nat, x.n = (m : Int) := ⟨x.n.toNat, by omega⟩
  have hm : m ≤ 20 := by omega
  have hB : x.b ≤ 1099511627776 := by omega
  have eN : x.n.toNat = m := by omega
  by_cases hr : x.b % pw m = 0
  · by_cases ho : pw m < x.u
    · rw [chk_no (x := x) (fun h => by unfold Ut.Ok at h; rw [eN] at h; omega)]
      exact rcheck_o x hb hu m hn hm hB (by have : (x.b : Int) % (pw m : Int) = ((x.b % pw m : Nat) : Int) := rfl; rw [this, hr]; rfl) ho w
    · rw [chk_yes m hn hm hB hr (by omega)]
      exact rcheck_y x hb hu m hn hm hB (by have : (x.b : Int) % (pw m : Int) = ((x.b % pw m : Nat) : Int) := rfl; rw [this, hr]; rfl) (by omega) w
  · rw [chk_no (x := x) (fun h => by unfold Ut.Ok at h; rw [eN] at h; exact hr h.2.2.2.1)]
    exact rcheck_r x hb hu m hn hm hB (by have : (x.b : Int) % (pw m : Int) = ((x.b % pw m : Nat) : Int) := rfl; rw [this]; simpa using fun h => hr (by omega)) w

namespace Ud
def rst (x : Ut) : Ut := ⟨x.b, x.n, 0⟩
end Ud
set_option maxRecDepth 100000 in
set_option maxHeartbeats 800000 in
theorem reset_any (x : Ut) (w : World) :
    Calls Try.prog 18 #[(.agg #[.int .u64 x.b, .int .i64 x.n, .int .u64 x.u])] w fun e w' => e = .returned (.agg #[.int .u64 (rst x).b, .int .i64 (rst x).n, .int .u64 (rst x).u]) ∧ Below w.heap.size w w' := by
  go_enter Try.func18, Try.ntmps18
  go_wp2
  refine bodyPost_ret (v := (.agg #[.int .u64 (rst x).b, .int .i64 (rst x).n, .int .u64 (rst x).u])) ?_ rfl ⟨rfl, ?_⟩
  · simp [results, Try.results18, go_sem, rst]
  · repeat (first | exact Below.refl _ _ | apply below_new | apply below_draws | refine below_put ?_ _ _ (by simp))
end Go.Proofs.Ytbgcgbelejmjiaa
