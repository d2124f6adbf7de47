/- Contracts of the words package's functions on sets of 256 bits, over the translation. -/
import Derived.Test.YtbmdnbjkphmmpaaRefs
import Derived.RegionTactic
namespace Go.Proofs.Ytbmdnbjkphmmpaa
open Go.RowKit Wd

set_option maxHeartbeats 400000 in
theorem is_yes (n : Nat) (h : n < 256) (w : World) :
    Calls Try.prog 32 #[.int .i64 n] w fun e w' => e = .returned (.bool true) ∧ w' = w := by
  go_enter Try.func32, Try.ntmps32
  go_wp2
  go_ret
  exact ⟨ret_bool (by simp; omega), rfl⟩

set_option maxHeartbeats 400000 in
theorem is_no (n : Int) (h : n < 0 ∨ 255 < n) (w : World) :
    Calls Try.prog 32 #[.int .i64 n] w fun e w' => e = .returned (.bool false) ∧ w' = w := by
  rcases h with h | h
  · go_enter Try.func32, Try.ntmps32
    go_wp2
    go_ret
    exact ⟨rfl, rfl⟩
  · have h0 : 0 ≤ n := by omega
    go_enter Try.func32, Try.ntmps32
    go_wp2
    go_ret
    exact ⟨ret_bool (by simp; omega), rfl⟩

theorem below_new {w W : World} (h : Below w.heap.size w W) (o : Obj) : Below w.heap.size w (W.alloc o) := h.alloc h.size o

set_option maxHeartbeats 1600000 in
theorem has_any (b0 b1 b2 b3 n : Nat) (hB : B4.Ok ⟨b0, b1, b2, b3⟩) (h : n < 256) (w : World) :
    Calls Try.prog 23 #[.agg #[.int .u64 b0, .int .u64 b1, .int .u64 b2, .int .u64 b3], .int .i64 n] w fun e w' => e = .returned (.bool (B4.has ⟨b0, b1, b2, b3⟩ n)) ∧ w' = w.alloc (.cells #[.int .u64 b0, .int .u64 b1, .int .u64 b2, .int .u64 b3] 35) := by
  have hq : n / 64 = 0 ∨ n / 64 = 1 ∨ n / 64 = 2 ∨ n / 64 = 3 := by omega
  rcases hq with hq | hq | hq | hq
  · have hq' : (n : Int) / 64 = 0 := by omega
    have HE : Hid (B4.has ⟨b0, b1, b2, b3⟩ n = b0.testBit (n % 64)) := Lib.hid (by unfold B4.has B4.wd; rw [hq]; rfl)
    clear hq
    go_enter Try.func23, Try.ntmps23
    go_wp2_with (go_at_call 32; refine (is_yes n h _).mono ?_; rintro e w' ⟨rfl, rfl⟩)
    go_ret
    exact ⟨ret_bool ((has_spelt b0 _ hB.a).trans HE.out.symm), rfl⟩
  · have hq' : (n : Int) / 64 = 1 := by omega
    have HE : Hid (B4.has ⟨b0, b1, b2, b3⟩ n = b1.testBit (n % 64)) := Lib.hid (by unfold B4.has B4.wd; rw [hq]; rfl)
    clear hq
    go_enter Try.func23, Try.ntmps23
    go_wp2_with (go_at_call 32; refine (is_yes n h _).mono ?_; rintro e w' ⟨rfl, rfl⟩)
    go_ret
    exact ⟨ret_bool ((has_spelt b1 _ hB.b).trans HE.out.symm), rfl⟩
  · have hq' : (n : Int) / 64 = 2 := by omega
    have HE : Hid (B4.has ⟨b0, b1, b2, b3⟩ n = b2.testBit (n % 64)) := Lib.hid (by unfold B4.has B4.wd; rw [hq]; rfl)
    clear hq
    go_enter Try.func23, Try.ntmps23
    go_wp2_with (go_at_call 32; refine (is_yes n h _).mono ?_; rintro e w' ⟨rfl, rfl⟩)
    go_ret
    exact ⟨ret_bool ((has_spelt b2 _ hB.c).trans HE.out.symm), rfl⟩
  · have hq' : (n : Int) / 64 = 3 := by omega
    have HE : Hid (B4.has ⟨b0, b1, b2, b3⟩ n = b3.testBit (n % 64)) := Lib.hid (by unfold B4.has B4.wd; rw [hq]; rfl)
    clear hq
    go_enter Try.func23, Try.ntmps23
    go_wp2_with (go_at_call 32; refine (is_yes n h _).mono ?_; rintro e w' ⟨rfl, rfl⟩)
    go_ret
    exact ⟨ret_bool ((has_spelt b3 _ hB.d).trans HE.out.symm), rfl⟩

set_option maxHeartbeats 400000 in
theorem has_no (b0 b1 b2 b3 : Nat) (n : Int) (h : n < 0 ∨ 255 < n) (w : World) :
    Calls Try.prog 23 #[.agg #[.int .u64 b0, .int .u64 b1, .int .u64 b2, .int .u64 b3], .int .i64 n] w fun e w' => e = .returned (.bool false) ∧ w' = w.alloc (.cells #[.int .u64 b0, .int .u64 b1, .int .u64 b2, .int .u64 b3] 35) := by
  go_enter Try.func23, Try.ntmps23
  go_wp2_with (go_at_call 32; refine (is_no n h _).mono ?_; rintro e w' ⟨rfl, rfl⟩)
  go_ret
  exact ⟨rfl, rfl⟩

set_option maxRecDepth 100000 in
set_option maxHeartbeats 1600000 in
theorem rhas_any (b0 b1 b2 b3 n : Nat) (hB : B4.Ok ⟨b0, b1, b2, b3⟩) (h : n < 256) (w : World) :
    Calls Try.prog 24 #[.agg #[.int .u64 b0, .int .u64 b1, .int .u64 b2, .int .u64 b3], .int .i64 n] w fun e w' => e = .returned (.bool (B4.has ⟨b0, b1, b2, b3⟩ n)) ∧ w' = w.alloc (.cells #[.int .u64 b0, .int .u64 b1, .int .u64 b2, .int .u64 b3] 35) := by
  have hq : n / 64 = 0 ∨ n / 64 = 1 ∨ n / 64 = 2 ∨ n / 64 = 3 := by omega
  rcases hq with hq | hq | hq | hq
  · have hq' : (n : Int) / 64 = 0 := by omega
    have HE : Hid (B4.has ⟨b0, b1, b2, b3⟩ n = b0.testBit (n % 64)) := Lib.hid (by unfold B4.has B4.wd; rw [hq]; rfl)
    clear hq
    go_enter Try.func24, Try.ntmps24
    go_wp2_with (go_at_call 29; refine (rbit_int b0 _ hB.a (by omega) (by omega) _).mono ?_; rintro e w' ⟨rfl, rfl⟩)
    go_ret
    exact ⟨ret_bool (Eq.trans (by congr 1) HE.out.symm), rfl⟩
  · have hq' : (n : Int) / 64 = 1 := by omega
    have HE : Hid (B4.has ⟨b0, b1, b2, b3⟩ n = b1.testBit (n % 64)) := Lib.hid (by unfold B4.has B4.wd; rw [hq]; rfl)
    clear hq
    go_enter Try.func24, Try.ntmps24
    go_wp2_with (go_at_call 29; refine (rbit_int b1 _ hB.b (by omega) (by omega) _).mono ?_; rintro e w' ⟨rfl, rfl⟩)
    go_ret
    exact ⟨ret_bool (Eq.trans (by congr 1) HE.out.symm), rfl⟩
  · have hq' : (n : Int) / 64 = 2 := by omega
    have HE : Hid (B4.has ⟨b0, b1, b2, b3⟩ n = b2.testBit (n % 64)) := Lib.hid (by unfold B4.has B4.wd; rw [hq]; rfl)
    clear hq
    go_enter Try.func24, Try.ntmps24
    go_wp2_with (go_at_call 29; refine (rbit_int b2 _ hB.c (by omega) (by omega) _).mono ?_; rintro e w' ⟨rfl, rfl⟩)
    go_ret
    exact ⟨ret_bool (Eq.trans (by congr 1) HE.out.symm), rfl⟩
  · have hq' : (n : Int) / 64 = 3 := by omega
    have HE : Hid (B4.has ⟨b0, b1, b2, b3⟩ n = b3.testBit (n % 64)) := Lib.hid (by unfold B4.has B4.wd; rw [hq]; rfl)
    clear hq
    go_enter Try.func24, Try.ntmps24
    go_wp2_with (go_at_call 29; refine (rbit_int b3 _ hB.d (by omega) (by omega) _).mono ?_; rintro e w' ⟨rfl, rfl⟩)
    go_ret
    exact ⟨ret_bool (Eq.trans (by congr 1) HE.out.symm), rfl⟩

set_option maxHeartbeats 400000 in
theorem rhas_no (b0 b1 b2 b3 : Nat) (n : Int) (h : n < 0 ∨ 255 < n) (w : World) :
    Calls Try.prog 24 #[.agg #[.int .u64 b0, .int .u64 b1, .int .u64 b2, .int .u64 b3], .int .i64 n] w fun e w' => e = .returned (.bool false) ∧ w' = w.alloc (.cells #[.int .u64 b0, .int .u64 b1, .int .u64 b2, .int .u64 b3] 35) := by
  rcases h with h | h
  · go_enter Try.func24, Try.ntmps24
    go_wp2
    go_ret
    exact ⟨rfl, rfl⟩
  · have h0 : 0 ≤ n := by omega
    have h1 : ¬ n < 256 := by omega
    go_enter Try.func24, Try.ntmps24
    go_wp2
    go_ret
    exact ⟨rfl, rfl⟩

def SetPost (x : B4) (n : Nat) (on : Bool) (w : World) (e : Ending) (w' : World) : Prop :=
  ∃ y0 y1 y2 y3 : Nat, e = .returned (.tuple #[.agg #[.int .u64 y0, .int .u64 y1, .int .u64 y2, .int .u64 y3], .int .i64 0]) ∧ Put x n on ⟨y0, y1, y2, y3⟩ ∧ Below w.heap.size w w'

set_option maxRecDepth 100000 in
set_option maxHeartbeats 1600000 in
theorem set_0_true (b0 b1 b2 b3 n : Nat) (hB : B4.Ok ⟨b0, b1, b2, b3⟩) (h : n < 256) (hq : n / 64 = 0) (w : World) :
    Calls Try.prog 21 #[.agg #[.int .u64 b0, .int .u64 b1, .int .u64 b2, .int .u64 b3], .int .i64 n, .bool true] w (SetPost ⟨b0, b1, b2, b3⟩ n true w) := by
  have hq' : (n : Int) / 64 = 0 := by omega
  have HP := Lib.hid (put_0 (on := true) hB hq)
  have HS := Lib.hid (set_on_spelt b0 (n % 64) hB.a (Nat.mod_lt _ (by decide)))
  clear hq
  go_enter Try.func21, Try.ntmps21
  go_wp2_with (go_at_call 32; refine (is_yes n h _).mono ?_; rintro e w' ⟨rfl, rfl⟩)
  go_region
  all_goals go_wp2
  all_goals go_region
  all_goals go_wp2
  all_goals
    refine bodyPost_ret (v := .tuple #[.agg #[.int .u64 (putb b0 (n % 64) true), .int .u64 b1, .int .u64 b2, .int .u64 b3], .int .i64 0]) ?_ rfl ⟨_, _, _, _, rfl, HP.out, ?_⟩
    · simp [results, Try.results21, go_sem, HS.out]
    · (repeat (first | exact Below.refl _ _ | apply Below.drew | apply below_new))

set_option maxRecDepth 100000 in
set_option maxHeartbeats 1600000 in
theorem set_0_false (b0 b1 b2 b3 n : Nat) (hB : B4.Ok ⟨b0, b1, b2, b3⟩) (h : n < 256) (hq : n / 64 = 0) (w : World) :
    Calls Try.prog 21 #[.agg #[.int .u64 b0, .int .u64 b1, .int .u64 b2, .int .u64 b3], .int .i64 n, .bool false] w (SetPost ⟨b0, b1, b2, b3⟩ n false w) := by
  have hq' : (n : Int) / 64 = 0 := by omega
  have HP := Lib.hid (put_0 (on := false) hB hq)
  have HS := Lib.hid (set_off_spelt b0 (n % 64) hB.a (Nat.mod_lt _ (by decide)))
  clear hq
  go_enter Try.func21, Try.ntmps21
  go_wp2_with (go_at_call 32; refine (is_yes n h _).mono ?_; rintro e w' ⟨rfl, rfl⟩)
  go_region
  all_goals go_wp2
  all_goals
    refine bodyPost_ret (v := .tuple #[.agg #[.int .u64 (putb b0 (n % 64) false), .int .u64 b1, .int .u64 b2, .int .u64 b3], .int .i64 0]) ?_ rfl ⟨_, _, _, _, rfl, HP.out, ?_⟩
    · simp [results, Try.results21, go_sem, HS.out]
    · (repeat (first | exact Below.refl _ _ | apply Below.drew | apply below_new))

set_option maxRecDepth 100000 in
set_option maxHeartbeats 1600000 in
theorem set_1_true (b0 b1 b2 b3 n : Nat) (hB : B4.Ok ⟨b0, b1, b2, b3⟩) (h : n < 256) (hq : n / 64 = 1) (w : World) :
    Calls Try.prog 21 #[.agg #[.int .u64 b0, .int .u64 b1, .int .u64 b2, .int .u64 b3], .int .i64 n, .bool true] w (SetPost ⟨b0, b1, b2, b3⟩ n true w) := by
  have hq' : (n : Int) / 64 = 1 := by omega
  have HP := Lib.hid (put_1 (on := true) hB hq)
  have HS := Lib.hid (set_on_spelt b1 (n % 64) hB.b (Nat.mod_lt _ (by decide)))
  clear hq
  go_enter Try.func21, Try.ntmps21
  go_wp2_with (go_at_call 32; refine (is_yes n h _).mono ?_; rintro e w' ⟨rfl, rfl⟩)
  go_region
  all_goals go_wp2
  all_goals go_region
  all_goals go_wp2
  all_goals
    refine bodyPost_ret (v := .tuple #[.agg #[.int .u64 b0, .int .u64 (putb b1 (n % 64) true), .int .u64 b2, .int .u64 b3], .int .i64 0]) ?_ rfl ⟨_, _, _, _, rfl, HP.out, ?_⟩
    · simp [results, Try.results21, go_sem, HS.out]
    · (repeat (first | exact Below.refl _ _ | apply Below.drew | apply below_new))

set_option maxRecDepth 100000 in
set_option maxHeartbeats 1600000 in
theorem set_1_false (b0 b1 b2 b3 n : Nat) (hB : B4.Ok ⟨b0, b1, b2, b3⟩) (h : n < 256) (hq : n / 64 = 1) (w : World) :
    Calls Try.prog 21 #[.agg #[.int .u64 b0, .int .u64 b1, .int .u64 b2, .int .u64 b3], .int .i64 n, .bool false] w (SetPost ⟨b0, b1, b2, b3⟩ n false w) := by
  have hq' : (n : Int) / 64 = 1 := by omega
  have HP := Lib.hid (put_1 (on := false) hB hq)
  have HS := Lib.hid (set_off_spelt b1 (n % 64) hB.b (Nat.mod_lt _ (by decide)))
  clear hq
  go_enter Try.func21, Try.ntmps21
  go_wp2_with (go_at_call 32; refine (is_yes n h _).mono ?_; rintro e w' ⟨rfl, rfl⟩)
  go_region
  all_goals go_wp2
  all_goals
    refine bodyPost_ret (v := .tuple #[.agg #[.int .u64 b0, .int .u64 (putb b1 (n % 64) false), .int .u64 b2, .int .u64 b3], .int .i64 0]) ?_ rfl ⟨_, _, _, _, rfl, HP.out, ?_⟩
    · simp [results, Try.results21, go_sem, HS.out]
    · (repeat (first | exact Below.refl _ _ | apply Below.drew | apply below_new))

set_option maxRecDepth 100000 in
set_option maxHeartbeats 1600000 in
theorem set_2_true (b0 b1 b2 b3 n : Nat) (hB : B4.Ok ⟨b0, b1, b2, b3⟩) (h : n < 256) (hq : n / 64 = 2) (w : World) :
    Calls Try.prog 21 #[.agg #[.int .u64 b0, .int .u64 b1, .int .u64 b2, .int .u64 b3], .int .i64 n, .bool true] w (SetPost ⟨b0, b1, b2, b3⟩ n true w) := by
  have hq' : (n : Int) / 64 = 2 := by omega
  have HP := Lib.hid (put_2 (on := true) hB hq)
  have HS := Lib.hid (set_on_spelt b2 (n % 64) hB.c (Nat.mod_lt _ (by decide)))
  clear hq
  go_enter Try.func21, Try.ntmps21
  go_wp2_with (go_at_call 32; refine (is_yes n h _).mono ?_; rintro e w' ⟨rfl, rfl⟩)
  go_region
  all_goals go_wp2
  all_goals go_region
  all_goals go_wp2
  all_goals
    refine bodyPost_ret (v := .tuple #[.agg #[.int .u64 b0, .int .u64 b1, .int .u64 (putb b2 (n % 64) true), .int .u64 b3], .int .i64 0]) ?_ rfl ⟨_, _, _, _, rfl, HP.out, ?_⟩
    · simp [results, Try.results21, go_sem, HS.out]
    · (repeat (first | exact Below.refl _ _ | apply Below.drew | apply below_new))

set_option maxRecDepth 100000 in
set_option maxHeartbeats 1600000 in
theorem set_2_false (b0 b1 b2 b3 n : Nat) (hB : B4.Ok ⟨b0, b1, b2, b3⟩) (h : n < 256) (hq : n / 64 = 2) (w : World) :
    Calls Try.prog 21 #[.agg #[.int .u64 b0, .int .u64 b1, .int .u64 b2, .int .u64 b3], .int .i64 n, .bool false] w (SetPost ⟨b0, b1, b2, b3⟩ n false w) := by
  have hq' : (n : Int) / 64 = 2 := by omega
  have HP := Lib.hid (put_2 (on := false) hB hq)
  have HS := Lib.hid (set_off_spelt b2 (n % 64) hB.c (Nat.mod_lt _ (by decide)))
  clear hq
  go_enter Try.func21, Try.ntmps21
  go_wp2_with (go_at_call 32; refine (is_yes n h _).mono ?_; rintro e w' ⟨rfl, rfl⟩)
  go_region
  all_goals go_wp2
  all_goals
    refine bodyPost_ret (v := .tuple #[.agg #[.int .u64 b0, .int .u64 b1, .int .u64 (putb b2 (n % 64) false), .int .u64 b3], .int .i64 0]) ?_ rfl ⟨_, _, _, _, rfl, HP.out, ?_⟩
    · simp [results, Try.results21, go_sem, HS.out]
    · (repeat (first | exact Below.refl _ _ | apply Below.drew | apply below_new))

set_option maxRecDepth 100000 in
set_option maxHeartbeats 1600000 in
theorem set_3_true (b0 b1 b2 b3 n : Nat) (hB : B4.Ok ⟨b0, b1, b2, b3⟩) (h : n < 256) (hq : n / 64 = 3) (w : World) :
    Calls Try.prog 21 #[.agg #[.int .u64 b0, .int .u64 b1, .int .u64 b2, .int .u64 b3], .int .i64 n, .bool true] w (SetPost ⟨b0, b1, b2, b3⟩ n true w) := by
  have hq' : (n : Int) / 64 = 3 := by omega
  have HP := Lib.hid (put_3 (on := true) hB hq)
  have HS := Lib.hid (set_on_spelt b3 (n % 64) hB.d (Nat.mod_lt _ (by decide)))
  clear hq
  go_enter Try.func21, Try.ntmps21
  go_wp2_with (go_at_call 32; refine (is_yes n h _).mono ?_; rintro e w' ⟨rfl, rfl⟩)
  go_region
  all_goals go_wp2
  all_goals go_region
  all_goals go_wp2
  all_goals
    refine bodyPost_ret (v := .tuple #[.agg #[.int .u64 b0, .int .u64 b1, .int .u64 b2, .int .u64 (putb b3 (n % 64) true)], .int .i64 0]) ?_ rfl ⟨_, _, _, _, rfl, HP.out, ?_⟩
    · simp [results, Try.results21, go_sem, HS.out]
    · (repeat (first | exact Below.refl _ _ | apply Below.drew | apply below_new))

set_option maxRecDepth 100000 in
set_option maxHeartbeats 1600000 in
theorem set_3_false (b0 b1 b2 b3 n : Nat) (hB : B4.Ok ⟨b0, b1, b2, b3⟩) (h : n < 256) (hq : n / 64 = 3) (w : World) :
    Calls Try.prog 21 #[.agg #[.int .u64 b0, .int .u64 b1, .int .u64 b2, .int .u64 b3], .int .i64 n, .bool false] w (SetPost ⟨b0, b1, b2, b3⟩ n false w) := by
  have hq' : (n : Int) / 64 = 3 := by omega
  have HP := Lib.hid (put_3 (on := false) hB hq)
  have HS := Lib.hid (set_off_spelt b3 (n % 64) hB.d (Nat.mod_lt _ (by decide)))
  clear hq
  go_enter Try.func21, Try.ntmps21
  go_wp2_with (go_at_call 32; refine (is_yes n h _).mono ?_; rintro e w' ⟨rfl, rfl⟩)
  go_region
  all_goals go_wp2
  all_goals
    refine bodyPost_ret (v := .tuple #[.agg #[.int .u64 b0, .int .u64 b1, .int .u64 b2, .int .u64 (putb b3 (n % 64) false)], .int .i64 0]) ?_ rfl ⟨_, _, _, _, rfl, HP.out, ?_⟩
    · simp [results, Try.results21, go_sem, HS.out]
    · (repeat (first | exact Below.refl _ _ | apply Below.drew | apply below_new))

set_option maxRecDepth 100000 in
set_option maxHeartbeats 1600000 in
theorem set_bad (b0 b1 b2 b3 : Nat) (n : Int) (on : Bool) (h : n < 0 ∨ 255 < n) (w : World) :
    Calls Try.prog 21 #[.agg #[.int .u64 b0, .int .u64 b1, .int .u64 b2, .int .u64 b3], .int .i64 n, .bool on] w fun e w' => e = .returned (.tuple #[.agg #[.int .u64 0, .int .u64 0, .int .u64 0, .int .u64 0], .int .i64 1]) ∧ Below w.heap.size w w' := by
  go_enter Try.func21, Try.ntmps21
  go_wp2_with (go_at_call 32; refine (is_no n h _).mono ?_; rintro e w' ⟨rfl, rfl⟩)
  refine bodyPost_ret (v := .tuple #[.agg #[.int .u64 0, .int .u64 0, .int .u64 0, .int .u64 0], .int .i64 1]) ?_ rfl ⟨rfl, ?_⟩
  · simp [results, Try.results21, go_sem]
  · (repeat (first | exact Below.refl _ _ | apply Below.drew | apply below_new))

end Go.Proofs.Ytbmdnbjkphmmpaa
