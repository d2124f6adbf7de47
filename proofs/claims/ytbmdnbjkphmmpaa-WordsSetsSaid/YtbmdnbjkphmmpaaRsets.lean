/- Contracts of the reference's Set on sets of 256 bits, over the translation. -/
import Derived.Test.YtbmdnbjkphmmpaaSets
import Derived.Deep.RegionWith
namespace Go.Proofs.Ytbmdnbjkphmmpaa
open Go.RowKit Wd

set_option maxRecDepth 100000 in
set_option maxHeartbeats 1600000 in
theorem rset_bad_lo (b0 b1 b2 b3 : Nat) (n : Int) (on : Bool) (h : n < 0) (w : World) :
    Calls Try.prog 22 #[.agg #[.int .u64 b0, .int .u64 b1, .int .u64 b2, .int .u64 b3], .int .i64 n, .bool on] w fun e w' => e = .returned (.tuple #[.agg #[.int .u64 0, .int .u64 0, .int .u64 0, .int .u64 0], .int .i64 1]) ∧ Below w.heap.size w w' := by
  go_enter Try.func22, Try.ntmps22
  go_wp2
  refine bodyPost_ret (v := .tuple #[.agg #[.int .u64 0, .int .u64 0, .int .u64 0, .int .u64 0], .int .i64 1]) ?_ rfl ⟨rfl, ?_⟩
  · simp [results, Try.results22, go_sem]
  · (repeat (first | exact Below.refl _ _ | apply Below.drew | apply below_new))

set_option maxRecDepth 100000 in
set_option maxHeartbeats 1600000 in
theorem rset_bad_hi (b0 b1 b2 b3 : Nat) (n : Int) (on : Bool) (h : 255 < n) (w : World) :
    Calls Try.prog 22 #[.agg #[.int .u64 b0, .int .u64 b1, .int .u64 b2, .int .u64 b3], .int .i64 n, .bool on] w fun e w' => e = .returned (.tuple #[.agg #[.int .u64 0, .int .u64 0, .int .u64 0, .int .u64 0], .int .i64 1]) ∧ Below w.heap.size w w' := by
  have h0 : ¬ n < 0 := by omega
  go_enter Try.func22, Try.ntmps22
  go_wp2
  refine bodyPost_ret (v := .tuple #[.agg #[.int .u64 0, .int .u64 0, .int .u64 0, .int .u64 0], .int .i64 1]) ?_ rfl ⟨rfl, ?_⟩
  · simp [results, Try.results22, go_sem]
  · (repeat (first | exact Below.refl _ _ | apply Below.drew | apply below_new))

set_option maxRecDepth 100000 in
set_option maxHeartbeats 1600000 in
theorem rset_same_true (b0 b1 b2 b3 n : Nat) (hB : B4.Ok ⟨b0, b1, b2, b3⟩) (h : n < 256) (hE : B4.has ⟨b0, b1, b2, b3⟩ n = true) (w : World) :
    Calls Try.prog 22 #[.agg #[.int .u64 b0, .int .u64 b1, .int .u64 b2, .int .u64 b3], .int .i64 n, .bool true] w (SetPost ⟨b0, b1, b2, b3⟩ n true w) := by
  have HP := Lib.hid (Put.self hB hE)
  have h1 : (n : Int) ≤ 255 := by omega
  go_enter Try.func22, Try.ntmps22
  go_wp2_with (go_at_call 24; refine (rhas_any b0 b1 b2 b3 n hB h _).mono ?_; rintro e w' ⟨rfl, rfl⟩)
  refine bodyPost_ret (v := .tuple #[.agg #[.int .u64 b0, .int .u64 b1, .int .u64 b2, .int .u64 b3], .int .i64 0]) ?_ rfl ⟨_, _, _, _, rfl, HP.out, ?_⟩
  · simp [results, Try.results22, go_sem]
  · (repeat (first | exact Below.refl _ _ | apply Below.drew | apply below_new))

set_option maxRecDepth 100000 in
set_option maxHeartbeats 1600000 in
theorem rset_same_false (b0 b1 b2 b3 n : Nat) (hB : B4.Ok ⟨b0, b1, b2, b3⟩) (h : n < 256) (hE : B4.has ⟨b0, b1, b2, b3⟩ n = false) (w : World) :
    Calls Try.prog 22 #[.agg #[.int .u64 b0, .int .u64 b1, .int .u64 b2, .int .u64 b3], .int .i64 n, .bool false] w (SetPost ⟨b0, b1, b2, b3⟩ n false w) := by
  have HP := Lib.hid (Put.self hB hE)
  have h1 : (n : Int) ≤ 255 := by omega
  go_enter Try.func22, Try.ntmps22
  go_wp2_with (go_at_call 24; refine (rhas_any b0 b1 b2 b3 n hB h _).mono ?_; rintro e w' ⟨rfl, rfl⟩)
  refine bodyPost_ret (v := .tuple #[.agg #[.int .u64 b0, .int .u64 b1, .int .u64 b2, .int .u64 b3], .int .i64 0]) ?_ rfl ⟨_, _, _, _, rfl, HP.out, ?_⟩
  · simp [results, Try.results22, go_sem]
  · (repeat (first | exact Below.refl _ _ | apply Below.drew | apply below_new))

set_option maxRecDepth 100000 in
set_option maxHeartbeats 3200000 in
theorem rset_0_true (b0 b1 b2 b3 n : Nat) (hB : B4.Ok ⟨b0, b1, b2, b3⟩) (h : n < 256) (hE : B4.has ⟨b0, b1, b2, b3⟩ n = false) (hq : n / 64 = 0) (w : World) :
    Calls Try.prog 22 #[.agg #[.int .u64 b0, .int .u64 b1, .int .u64 b2, .int .u64 b3], .int .i64 n, .bool true] w (SetPost ⟨b0, b1, b2, b3⟩ n true w) := by
  have hq' : (n : Int) / 64 = 0 := by omega
  have HP := Lib.hid (put_0 (on := true) hB hq)
  have hr : n % 64 < 64 := Nat.mod_lt _ (by decide)
  have hbit : b0.testBit (n % 64) = false := by
    have := hE
    unfold B4.has B4.wd at this
    rw [hq] at this
    exact this
  have HS := Lib.hid (radd_spelt b0 (n % 64) hB.a hr hbit)
  clear hq hbit
  have h1 : (n : Int) ≤ 255 := by omega
  go_enter Try.func22, Try.ntmps22
  go_wp2_with (go_at_call 24; refine (rhas_any b0 b1 b2 b3 n hB h _).mono ?_; rintro e w' ⟨rfl, rfl⟩)
  go_region_with (go_at_call 30; refine (two_any (n % 64) (by omega) _).mono ?_; rintro e w' ⟨rfl, rfl⟩)
  all_goals go_wp2_with (go_at_call 24; refine (rhas_any b0 b1 b2 b3 n hB h _).mono ?_; rintro e w' ⟨rfl, rfl⟩)
  all_goals
    refine bodyPost_ret (v := .tuple #[.agg #[.int .u64 (putb b0 (n % 64) true), .int .u64 b1, .int .u64 b2, .int .u64 b3], .int .i64 0]) ?_ rfl ⟨_, _, _, _, rfl, HP.out, ?_⟩
    · simp [results, Try.results22, go_sem, HS.out]
    · (repeat (first | exact Below.refl _ _ | apply Below.drew | apply below_new))

set_option maxRecDepth 100000 in
set_option maxHeartbeats 3200000 in
theorem rset_0_false (b0 b1 b2 b3 n : Nat) (hB : B4.Ok ⟨b0, b1, b2, b3⟩) (h : n < 256) (hE : B4.has ⟨b0, b1, b2, b3⟩ n = true) (hq : n / 64 = 0) (w : World) :
    Calls Try.prog 22 #[.agg #[.int .u64 b0, .int .u64 b1, .int .u64 b2, .int .u64 b3], .int .i64 n, .bool false] w (SetPost ⟨b0, b1, b2, b3⟩ n false w) := by
  have hq' : (n : Int) / 64 = 0 := by omega
  have HP := Lib.hid (put_0 (on := false) hB hq)
  have hr : n % 64 < 64 := Nat.mod_lt _ (by decide)
  have hbit : b0.testBit (n % 64) = true := by
    have := hE
    unfold B4.has B4.wd at this
    rw [hq] at this
    exact this
  have HS := Lib.hid (rsub_spelt b0 (n % 64) hB.a hr hbit)
  clear hq hbit
  have h1 : (n : Int) ≤ 255 := by omega
  go_enter Try.func22, Try.ntmps22
  go_wp2_with (go_at_call 24; refine (rhas_any b0 b1 b2 b3 n hB h _).mono ?_; rintro e w' ⟨rfl, rfl⟩)
  go_region_with (go_at_call 30; refine (two_any (n % 64) (by omega) _).mono ?_; rintro e w' ⟨rfl, rfl⟩)
  all_goals go_wp2_with (go_at_call 24; refine (rhas_any b0 b1 b2 b3 n hB h _).mono ?_; rintro e w' ⟨rfl, rfl⟩)
  all_goals
    refine bodyPost_ret (v := .tuple #[.agg #[.int .u64 (putb b0 (n % 64) false), .int .u64 b1, .int .u64 b2, .int .u64 b3], .int .i64 0]) ?_ rfl ⟨_, _, _, _, rfl, HP.out, ?_⟩
    · simp [results, Try.results22, go_sem, HS.out]
    · (repeat (first | exact Below.refl _ _ | apply Below.drew | apply below_new))

set_option maxRecDepth 100000 in
set_option maxHeartbeats 3200000 in
theorem rset_1_true (b0 b1 b2 b3 n : Nat) (hB : B4.Ok ⟨b0, b1, b2, b3⟩) (h : n < 256) (hE : B4.has ⟨b0, b1, b2, b3⟩ n = false) (hq : n / 64 = 1) (w : World) :
    Calls Try.prog 22 #[.agg #[.int .u64 b0, .int .u64 b1, .int .u64 b2, .int .u64 b3], .int .i64 n, .bool true] w (SetPost ⟨b0, b1, b2, b3⟩ n true w) := by
  have hq' : (n : Int) / 64 = 1 := by omega
  have HP := Lib.hid (put_1 (on := true) hB hq)
  have hr : n % 64 < 64 := Nat.mod_lt _ (by decide)
  have hbit : b1.testBit (n % 64) = false := by
    have := hE
    unfold B4.has B4.wd at this
    rw [hq] at this
    exact this
  have HS := Lib.hid (radd_spelt b1 (n % 64) hB.b hr hbit)
  clear hq hbit
  have h1 : (n : Int) ≤ 255 := by omega
  go_enter Try.func22, Try.ntmps22
  go_wp2_with (go_at_call 24; refine (rhas_any b0 b1 b2 b3 n hB h _).mono ?_; rintro e w' ⟨rfl, rfl⟩)
  go_region_with (go_at_call 30; refine (two_any (n % 64) (by omega) _).mono ?_; rintro e w' ⟨rfl, rfl⟩)
  all_goals go_wp2_with (go_at_call 24; refine (rhas_any b0 b1 b2 b3 n hB h _).mono ?_; rintro e w' ⟨rfl, rfl⟩)
  all_goals
    refine bodyPost_ret (v := .tuple #[.agg #[.int .u64 b0, .int .u64 (putb b1 (n % 64) true), .int .u64 b2, .int .u64 b3], .int .i64 0]) ?_ rfl ⟨_, _, _, _, rfl, HP.out, ?_⟩
    · simp [results, Try.results22, go_sem, HS.out]
    · (repeat (first | exact Below.refl _ _ | apply Below.drew | apply below_new))

set_option maxRecDepth 100000 in
set_option maxHeartbeats 3200000 in
theorem rset_1_false (b0 b1 b2 b3 n : Nat) (hB : B4.Ok ⟨b0, b1, b2, b3⟩) (h : n < 256) (hE : B4.has ⟨b0, b1, b2, b3⟩ n = true) (hq : n / 64 = 1) (w : World) :
    Calls Try.prog 22 #[.agg #[.int .u64 b0, .int .u64 b1, .int .u64 b2, .int .u64 b3], .int .i64 n, .bool false] w (SetPost ⟨b0, b1, b2, b3⟩ n false w) := by
  have hq' : (n : Int) / 64 = 1 := by omega
  have HP := Lib.hid (put_1 (on := false) hB hq)
  have hr : n % 64 < 64 := Nat.mod_lt _ (by decide)
  have hbit : b1.testBit (n % 64) = true := by
    have := hE
    unfold B4.has B4.wd at this
    rw [hq] at this
    exact this
  have HS := Lib.hid (rsub_spelt b1 (n % 64) hB.b hr hbit)
  clear hq hbit
  have h1 : (n : Int) ≤ 255 := by omega
  go_enter Try.func22, Try.ntmps22
  go_wp2_with (go_at_call 24; refine (rhas_any b0 b1 b2 b3 n hB h _).mono ?_; rintro e w' ⟨rfl, rfl⟩)
  go_region_with (go_at_call 30; refine (two_any (n % 64) (by omega) _).mono ?_; rintro e w' ⟨rfl, rfl⟩)
  all_goals go_wp2_with (go_at_call 24; refine (rhas_any b0 b1 b2 b3 n hB h _).mono ?_; rintro e w' ⟨rfl, rfl⟩)
  all_goals
    refine bodyPost_ret (v := .tuple #[.agg #[.int .u64 b0, .int .u64 (putb b1 (n % 64) false), .int .u64 b2, .int .u64 b3], .int .i64 0]) ?_ rfl ⟨_, _, _, _, rfl, HP.out, ?_⟩
    · simp [results, Try.results22, go_sem, HS.out]
    · (repeat (first | exact Below.refl _ _ | apply Below.drew | apply below_new))

set_option maxRecDepth 100000 in
set_option maxHeartbeats 3200000 in
theorem rset_2_true (b0 b1 b2 b3 n : Nat) (hB : B4.Ok ⟨b0, b1, b2, b3⟩) (h : n < 256) (hE : B4.has ⟨b0, b1, b2, b3⟩ n = false) (hq : n / 64 = 2) (w : World) :
    Calls Try.prog 22 #[.agg #[.int .u64 b0, .int .u64 b1, .int .u64 b2, .int .u64 b3], .int .i64 n, .bool true] w (SetPost ⟨b0, b1, b2, b3⟩ n true w) := by
  have hq' : (n : Int) / 64 = 2 := by omega
  have HP := Lib.hid (put_2 (on := true) hB hq)
  have hr : n % 64 < 64 := Nat.mod_lt _ (by decide)
  have hbit : b2.testBit (n % 64) = false := by
    have := hE
    unfold B4.has B4.wd at this
    rw [hq] at this
    exact this
  have HS := Lib.hid (radd_spelt b2 (n % 64) hB.c hr hbit)
  clear hq hbit
  have h1 : (n : Int) ≤ 255 := by omega
  go_enter Try.func22, Try.ntmps22
  go_wp2_with (go_at_call 24; refine (rhas_any b0 b1 b2 b3 n hB h _).mono ?_; rintro e w' ⟨rfl, rfl⟩)
  go_region_with (go_at_call 30; refine (two_any (n % 64) (by omega) _).mono ?_; rintro e w' ⟨rfl, rfl⟩)
  all_goals go_wp2_with (go_at_call 24; refine (rhas_any b0 b1 b2 b3 n hB h _).mono ?_; rintro e w' ⟨rfl, rfl⟩)
  all_goals
    refine bodyPost_ret (v := .tuple #[.agg #[.int .u64 b0, .int .u64 b1, .int .u64 (putb b2 (n % 64) true), .int .u64 b3], .int .i64 0]) ?_ rfl ⟨_, _, _, _, rfl, HP.out, ?_⟩
    · simp [results, Try.results22, go_sem, HS.out]
    · (repeat (first | exact Below.refl _ _ | apply Below.drew | apply below_new))

set_option maxRecDepth 100000 in
set_option maxHeartbeats 3200000 in
theorem rset_2_false (b0 b1 b2 b3 n : Nat) (hB : B4.Ok ⟨b0, b1, b2, b3⟩) (h : n < 256) (hE : B4.has ⟨b0, b1, b2, b3⟩ n = true) (hq : n / 64 = 2) (w : World) :
    Calls Try.prog 22 #[.agg #[.int .u64 b0, .int .u64 b1, .int .u64 b2, .int .u64 b3], .int .i64 n, .bool false] w (SetPost ⟨b0, b1, b2, b3⟩ n false w) := by
  have hq' : (n : Int) / 64 = 2 := by omega
  have HP := Lib.hid (put_2 (on := false) hB hq)
  have hr : n % 64 < 64 := Nat.mod_lt _ (by decide)
  have hbit : b2.testBit (n % 64) = true := by
    have := hE
    unfold B4.has B4.wd at this
    rw [hq] at this
    exact this
  have HS := Lib.hid (rsub_spelt b2 (n % 64) hB.c hr hbit)
  clear hq hbit
  have h1 : (n : Int) ≤ 255 := by omega
  go_enter Try.func22, Try.ntmps22
  go_wp2_with (go_at_call 24; refine (rhas_any b0 b1 b2 b3 n hB h _).mono ?_; rintro e w' ⟨rfl, rfl⟩)
  go_region_with (go_at_call 30; refine (two_any (n % 64) (by omega) _).mono ?_; rintro e w' ⟨rfl, rfl⟩)
  all_goals go_wp2_with (go_at_call 24; refine (rhas_any b0 b1 b2 b3 n hB h _).mono ?_; rintro e w' ⟨rfl, rfl⟩)
  all_goals
    refine bodyPost_ret (v := .tuple #[.agg #[.int .u64 b0, .int .u64 b1, .int .u64 (putb b2 (n % 64) false), .int .u64 b3], .int .i64 0]) ?_ rfl ⟨_, _, _, _, rfl, HP.out, ?_⟩
    · simp [results, Try.results22, go_sem, HS.out]
    · (repeat (first | exact Below.refl _ _ | apply Below.drew | apply below_new))

set_option maxRecDepth 100000 in
set_option maxHeartbeats 3200000 in
theorem rset_3_true (b0 b1 b2 b3 n : Nat) (hB : B4.Ok ⟨b0, b1, b2, b3⟩) (h : n < 256) (hE : B4.has ⟨b0, b1, b2, b3⟩ n = false) (hq : n / 64 = 3) (w : World) :
    Calls Try.prog 22 #[.agg #[.int .u64 b0, .int .u64 b1, .int .u64 b2, .int .u64 b3], .int .i64 n, .bool true] w (SetPost ⟨b0, b1, b2, b3⟩ n true w) := by
  have hq' : (n : Int) / 64 = 3 := by omega
  have HP := Lib.hid (put_3 (on := true) hB hq)
  have hr : n % 64 < 64 := Nat.mod_lt _ (by decide)
  have hbit : b3.testBit (n % 64) = false := by
    have := hE
    unfold B4.has B4.wd at this
    rw [hq] at this
    exact this
  have HS := Lib.hid (radd_spelt b3 (n % 64) hB.d hr hbit)
  clear hq hbit
  have h1 : (n : Int) ≤ 255 := by omega
  go_enter Try.func22, Try.ntmps22
  go_wp2_with (go_at_call 24; refine (rhas_any b0 b1 b2 b3 n hB h _).mono ?_; rintro e w' ⟨rfl, rfl⟩)
  go_region_with (go_at_call 30; refine (two_any (n % 64) (by omega) _).mono ?_; rintro e w' ⟨rfl, rfl⟩)
  all_goals go_wp2_with (go_at_call 24; refine (rhas_any b0 b1 b2 b3 n hB h _).mono ?_; rintro e w' ⟨rfl, rfl⟩)
  all_goals
    refine bodyPost_ret (v := .tuple #[.agg #[.int .u64 b0, .int .u64 b1, .int .u64 b2, .int .u64 (putb b3 (n % 64) true)], .int .i64 0]) ?_ rfl ⟨_, _, _, _, rfl, HP.out, ?_⟩
    · simp [results, Try.results22, go_sem, HS.out]
    · (repeat (first | exact Below.refl _ _ | apply Below.drew | apply below_new))

set_option maxRecDepth 100000 in
set_option maxHeartbeats 3200000 in
theorem rset_3_false (b0 b1 b2 b3 n : Nat) (hB : B4.Ok ⟨b0, b1, b2, b3⟩) (h : n < 256) (hE : B4.has ⟨b0, b1, b2, b3⟩ n = true) (hq : n / 64 = 3) (w : World) :
    Calls Try.prog 22 #[.agg #[.int .u64 b0, .int .u64 b1, .int .u64 b2, .int .u64 b3], .int .i64 n, .bool false] w (SetPost ⟨b0, b1, b2, b3⟩ n false w) := by
  have hq' : (n : Int) / 64 = 3 := by omega
  have HP := Lib.hid (put_3 (on := false) hB hq)
  have hr : n % 64 < 64 := Nat.mod_lt _ (by decide)
  have hbit : b3.testBit (n % 64) = true := by
    have := hE
    unfold B4.has B4.wd at this
    rw [hq] at this
    exact this
  have HS := Lib.hid (rsub_spelt b3 (n % 64) hB.d hr hbit)
  clear hq hbit
  have h1 : (n : Int) ≤ 255 := by omega
  go_enter Try.func22, Try.ntmps22
  go_wp2_with (go_at_call 24; refine (rhas_any b0 b1 b2 b3 n hB h _).mono ?_; rintro e w' ⟨rfl, rfl⟩)
  go_region_with (go_at_call 30; refine (two_any (n % 64) (by omega) _).mono ?_; rintro e w' ⟨rfl, rfl⟩)
  all_goals go_wp2_with (go_at_call 24; refine (rhas_any b0 b1 b2 b3 n hB h _).mono ?_; rintro e w' ⟨rfl, rfl⟩)
  all_goals
    refine bodyPost_ret (v := .tuple #[.agg #[.int .u64 b0, .int .u64 b1, .int .u64 b2, .int .u64 (putb b3 (n % 64) false)], .int .i64 0]) ?_ rfl ⟨_, _, _, _, rfl, HP.out, ?_⟩
    · simp [results, Try.results22, go_sem, HS.out]
    · (repeat (first | exact Below.refl _ _ | apply Below.drew | apply below_new))

end Go.Proofs.Ytbmdnbjkphmmpaa
