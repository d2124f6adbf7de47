/- Contracts of Mint and Guarded over the translation, the reference's. -/
import Derived.Test.YthgiofgedeijoaaCrcheck
import Derived.Test.YthgiofgedeijoaaCmint
set_option linter.unusedVariables false
set_option linter.unusedSimpArgs false
namespace Go.Proofs.Ythgiofgedeijoaa
open Go.RowKit Wd Cd

set_option maxRecDepth 100000 in
set_option maxHeartbeats 1600000 in
theorem rmint_form (c : Cp) (s : Int) (v : Nat) (hg : Word c.g) (hok : ¬ c.Ok) (w : World) :
    Calls Try.prog 16 #[(.agg #[.int .i64 c.k, .int .i64 c.o, .int .i64 c.r, .int .u64 c.b, .int .u64 c.g, .int .i64 c.n]), .int .i64 s, .int .u64 v] w fun e w' => e = .returned (.tuple #[(.agg #[.int .i64 0, .int .i64 0, .int .i64 0, .int .u64 0, .int .u64 0, .int .i64 0]), .int .i64 40]) ∧ Below w.heap.size w w' := by
  have HB := Lib.hid hok
  clear hok
  go_enter Try.func16, Try.ntmps16
  go_wp2_with (first | (go_at_call 23; refine (rcheck_bad c hg HB.out _).mono ?_; rintro e w' ⟨rfl, rfl⟩) | (go_at_call 28; refine (rbadged_any c.k _).mono ?_; rintro e w' ⟨rfl, rfl⟩) | (go_at_call 29; refine (rlimited_any c.k _).mono ?_; rintro e w' ⟨rfl, rfl⟩))
  refine bodyPost_ret (v := .tuple #[(.agg #[.int .i64 0, .int .i64 0, .int .i64 0, .int .u64 0, .int .u64 0, .int .i64 0]), .int .i64 40]) ?_ rfl ⟨rfl, ?_⟩
  · simp [results, Try.results16, go_sem]
  · (repeat (first | exact Below.refl _ _ | apply Below.drew | apply below_new | refine below_put ?_ _ _ (by simp)))

set_option maxRecDepth 100000 in
set_option maxHeartbeats 1600000 in
theorem rmint_arg0 (c : Cp) (s : Int) (v : Nat) (hg : Word c.g) (hok : c.Ok) (hs : s < 0) (w : World) :
    Calls Try.prog 16 #[(.agg #[.int .i64 c.k, .int .i64 c.o, .int .i64 c.r, .int .u64 c.b, .int .u64 c.g, .int .i64 c.n]), .int .i64 s, .int .u64 v] w fun e w' => e = .returned (.tuple #[(.agg #[.int .i64 0, .int .i64 0, .int .i64 0, .int .u64 0, .int .u64 0, .int .i64 0]), .int .i64 1]) ∧ Below w.heap.size w w' := by
  have HB := Lib.hid hok
  clear hok
  go_enter Try.func16, Try.ntmps16
  go_wp2_with (first | (go_at_call 23; refine (rcheck_ok c hg HB.out _).mono ?_; rintro e w' ⟨rfl, rfl⟩) | (go_at_call 28; refine (rbadged_any c.k _).mono ?_; rintro e w' ⟨rfl, rfl⟩) | (go_at_call 29; refine (rlimited_any c.k _).mono ?_; rintro e w' ⟨rfl, rfl⟩))
  refine bodyPost_ret (v := .tuple #[(.agg #[.int .i64 0, .int .i64 0, .int .i64 0, .int .u64 0, .int .u64 0, .int .i64 0]), .int .i64 1]) ?_ rfl ⟨rfl, ?_⟩
  · simp [results, Try.results16, go_sem]
  · (repeat (first | exact Below.refl _ _ | apply Below.drew | apply below_new | refine below_put ?_ _ _ (by simp)))

set_option maxRecDepth 100000 in
set_option maxHeartbeats 1600000 in
theorem rmint_arg7 (c : Cp) (s : Int) (v : Nat) (hg : Word c.g) (hok : c.Ok) (hs0 : 0 ≤ s) (hs : 7 < s) (w : World) :
    Calls Try.prog 16 #[(.agg #[.int .i64 c.k, .int .i64 c.o, .int .i64 c.r, .int .u64 c.b, .int .u64 c.g, .int .i64 c.n]), .int .i64 s, .int .u64 v] w fun e w' => e = .returned (.tuple #[(.agg #[.int .i64 0, .int .i64 0, .int .i64 0, .int .u64 0, .int .u64 0, .int .i64 0]), .int .i64 1]) ∧ Below w.heap.size w w' := by
  have HB := Lib.hid hok
  clear hok
  go_enter Try.func16, Try.ntmps16
  go_wp2_with (first | (go_at_call 23; refine (rcheck_ok c hg HB.out _).mono ?_; rintro e w' ⟨rfl, rfl⟩) | (go_at_call 28; refine (rbadged_any c.k _).mono ?_; rintro e w' ⟨rfl, rfl⟩) | (go_at_call 29; refine (rlimited_any c.k _).mono ?_; rintro e w' ⟨rfl, rfl⟩))
  refine bodyPost_ret (v := .tuple #[(.agg #[.int .i64 0, .int .i64 0, .int .i64 0, .int .u64 0, .int .u64 0, .int .i64 0]), .int .i64 1]) ?_ rfl ⟨rfl, ?_⟩
  · simp [results, Try.results16, go_sem]
  · (repeat (first | exact Below.refl _ _ | apply Below.drew | apply below_new | refine below_put ?_ _ _ (by simp)))

set_option maxRecDepth 100000 in
set_option maxHeartbeats 1600000 in
theorem rmint_none (c : Cp) (s : Int) (v : Nat) (hg : Word c.g) (hok : c.Ok) (hs0 : 0 ≤ s) (hs7 : s ≤ 7) (hk : (c.k == 0) = true) (w : World) :
    Calls Try.prog 16 #[(.agg #[.int .i64 c.k, .int .i64 c.o, .int .i64 c.r, .int .u64 c.b, .int .u64 c.g, .int .i64 c.n]), .int .i64 s, .int .u64 v] w fun e w' => e = .returned (.tuple #[(.agg #[.int .i64 0, .int .i64 0, .int .i64 0, .int .u64 0, .int .u64 0, .int .i64 0]), .int .i64 41]) ∧ Below w.heap.size w w' := by
  have HB := Lib.hid hok
  clear hok
  go_enter Try.func16, Try.ntmps16
  go_wp2_with (first | (go_at_call 23; refine (rcheck_ok c hg HB.out _).mono ?_; rintro e w' ⟨rfl, rfl⟩) | (go_at_call 28; refine (rbadged_any c.k _).mono ?_; rintro e w' ⟨rfl, rfl⟩) | (go_at_call 29; refine (rlimited_any c.k _).mono ?_; rintro e w' ⟨rfl, rfl⟩))
  refine bodyPost_ret (v := .tuple #[(.agg #[.int .i64 0, .int .i64 0, .int .i64 0, .int .u64 0, .int .u64 0, .int .i64 0]), .int .i64 41]) ?_ rfl ⟨rfl, ?_⟩
  · simp [results, Try.results16, go_sem]
  · (repeat (first | exact Below.refl _ _ | apply Below.drew | apply below_new | refine below_put ?_ _ _ (by simp)))

set_option maxRecDepth 100000 in
set_option maxHeartbeats 1600000 in
theorem rmint_unbadged (c : Cp) (s : Int) (v : Nat) (hg : Word c.g) (hok : c.Ok) (hs0 : 0 ≤ s) (hs7 : s ≤ 7) (hk : (c.k == 0) = false) (hv1 : decide (0 < (v : Int)) = true) (hv2 : decide (0 < v) = true) (hb : badB c.k = false) (w : World) :
    Calls Try.prog 16 #[(.agg #[.int .i64 c.k, .int .i64 c.o, .int .i64 c.r, .int .u64 c.b, .int .u64 c.g, .int .i64 c.n]), .int .i64 s, .int .u64 v] w fun e w' => e = .returned (.tuple #[(.agg #[.int .i64 0, .int .i64 0, .int .i64 0, .int .u64 0, .int .u64 0, .int .i64 0]), .int .i64 41]) ∧ Below w.heap.size w w' := by
  have HB := Lib.hid hok
  clear hok
  go_enter Try.func16, Try.ntmps16
  go_wp2_with (first | (go_at_call 23; refine (rcheck_ok c hg HB.out _).mono ?_; rintro e w' ⟨rfl, rfl⟩) | (go_at_call 28; refine (rbadged_any c.k _).mono ?_; rintro e w' ⟨rfl, rfl⟩) | (go_at_call 29; refine (rlimited_any c.k _).mono ?_; rintro e w' ⟨rfl, rfl⟩))
  refine bodyPost_ret (v := .tuple #[(.agg #[.int .i64 0, .int .i64 0, .int .i64 0, .int .u64 0, .int .u64 0, .int .i64 0]), .int .i64 41]) ?_ rfl ⟨rfl, ?_⟩
  · simp [results, Try.results16, go_sem]
  · (repeat (first | exact Below.refl _ _ | apply Below.drew | apply below_new | refine below_put ?_ _ _ (by simp)))

set_option maxRecDepth 100000 in
set_option maxHeartbeats 1600000 in
theorem rmint_again (c : Cp) (s : Int) (v : Nat) (hg : Word c.g) (hok : c.Ok) (hs0 : 0 ≤ s) (hs7 : s ≤ 7) (hk : (c.k == 0) = false) (hv1 : decide (0 < (v : Int)) = true) (hv2 : decide (0 < v) = true) (hb : badB c.k = true) (hc1 : decide (0 < (c.b : Int)) = true) (hc2 : decide (0 < c.b) = true) (w : World) :
    Calls Try.prog 16 #[(.agg #[.int .i64 c.k, .int .i64 c.o, .int .i64 c.r, .int .u64 c.b, .int .u64 c.g, .int .i64 c.n]), .int .i64 s, .int .u64 v] w fun e w' => e = .returned (.tuple #[(.agg #[.int .i64 0, .int .i64 0, .int .i64 0, .int .u64 0, .int .u64 0, .int .i64 0]), .int .i64 41]) ∧ Below w.heap.size w w' := by
  have HB := Lib.hid hok
  clear hok
  go_enter Try.func16, Try.ntmps16
  go_wp2_with (first | (go_at_call 23; refine (rcheck_ok c hg HB.out _).mono ?_; rintro e w' ⟨rfl, rfl⟩) | (go_at_call 28; refine (rbadged_any c.k _).mono ?_; rintro e w' ⟨rfl, rfl⟩) | (go_at_call 29; refine (rlimited_any c.k _).mono ?_; rintro e w' ⟨rfl, rfl⟩))
  refine bodyPost_ret (v := .tuple #[(.agg #[.int .i64 0, .int .i64 0, .int .i64 0, .int .u64 0, .int .u64 0, .int .i64 0]), .int .i64 41]) ?_ rfl ⟨rfl, ?_⟩
  · simp [results, Try.results16, go_sem]
  · (repeat (first | exact Below.refl _ _ | apply Below.drew | apply below_new | refine below_put ?_ _ _ (by simp)))

set_option maxRecDepth 100000 in
set_option maxHeartbeats 1600000 in
theorem rmint_plain_true (c : Cp) (s : Int) (v : Nat) (hg : Word c.g) (hok : c.Ok) (hs0 : 0 ≤ s) (hs7 : s ≤ 7) (hk : (c.k == 0) = false) (hv1 : decide (0 < (v : Int)) = false) (hv2 : decide (0 < v) = false) (hl : limB c.k = true) (w : World) :
    Calls Try.prog 16 #[(.agg #[.int .i64 c.k, .int .i64 c.o, .int .i64 c.r, .int .u64 c.b, .int .u64 c.g, .int .i64 c.n]), .int .i64 s, .int .u64 v] w fun e w' => e = .returned (.tuple #[(.agg #[.int .i64 c.k, .int .i64 c.o, .int .i64 (bits .and .i64 c.r s), .int .u64 c.b, .int .u64 c.g, .int .i64 c.n]), .int .i64 0]) ∧ Below w.heap.size w w' := by
  have HB := Lib.hid hok
  clear hok
  go_enter Try.func16, Try.ntmps16
  go_wp2_with (first | (go_at_call 23; refine (rcheck_ok c hg HB.out _).mono ?_; rintro e w' ⟨rfl, rfl⟩) | (go_at_call 28; refine (rbadged_any c.k _).mono ?_; rintro e w' ⟨rfl, rfl⟩) | (go_at_call 29; refine (rlimited_any c.k _).mono ?_; rintro e w' ⟨rfl, rfl⟩))
  refine bodyPost_ret (v := .tuple #[(.agg #[.int .i64 c.k, .int .i64 c.o, .int .i64 (bits .and .i64 c.r s), .int .u64 c.b, .int .u64 c.g, .int .i64 c.n]), .int .i64 0]) ?_ rfl ⟨rfl, ?_⟩
  · simp [results, Try.results16, go_sem]
  · (repeat (first | exact Below.refl _ _ | apply Below.drew | apply below_new | refine below_put ?_ _ _ (by simp)))

set_option maxRecDepth 100000 in
set_option maxHeartbeats 1600000 in
theorem rmint_badge_true (c : Cp) (s : Int) (v : Nat) (hg : Word c.g) (hok : c.Ok) (hs0 : 0 ≤ s) (hs7 : s ≤ 7) (hk : (c.k == 0) = false) (hv1 : decide (0 < (v : Int)) = true) (hv2 : decide (0 < v) = true) (hb : badB c.k = true) (hc1 : decide (0 < (c.b : Int)) = false) (hc2 : decide (0 < c.b) = false) (hl : limB c.k = true) (w : World) :
    Calls Try.prog 16 #[(.agg #[.int .i64 c.k, .int .i64 c.o, .int .i64 c.r, .int .u64 c.b, .int .u64 c.g, .int .i64 c.n]), .int .i64 s, .int .u64 v] w fun e w' => e = .returned (.tuple #[(.agg #[.int .i64 c.k, .int .i64 c.o, .int .i64 (bits .and .i64 c.r s), .int .u64 v, .int .u64 c.g, .int .i64 c.n]), .int .i64 0]) ∧ Below w.heap.size w w' := by
  have HB := Lib.hid hok
  clear hok
  go_enter Try.func16, Try.ntmps16
  go_wp2_with (first | (go_at_call 23; refine (rcheck_ok c hg HB.out _).mono ?_; rintro e w' ⟨rfl, rfl⟩) | (go_at_call 28; refine (rbadged_any c.k _).mono ?_; rintro e w' ⟨rfl, rfl⟩) | (go_at_call 29; refine (rlimited_any c.k _).mono ?_; rintro e w' ⟨rfl, rfl⟩))
  refine bodyPost_ret (v := .tuple #[(.agg #[.int .i64 c.k, .int .i64 c.o, .int .i64 (bits .and .i64 c.r s), .int .u64 v, .int .u64 c.g, .int .i64 c.n]), .int .i64 0]) ?_ rfl ⟨rfl, ?_⟩
  · simp [results, Try.results16, go_sem]
  · (repeat (first | exact Below.refl _ _ | apply Below.drew | apply below_new | refine below_put ?_ _ _ (by simp)))

set_option maxRecDepth 100000 in
set_option maxHeartbeats 1600000 in
theorem rmint_plain_false (c : Cp) (s : Int) (v : Nat) (hg : Word c.g) (hok : c.Ok) (hs0 : 0 ≤ s) (hs7 : s ≤ 7) (hk : (c.k == 0) = false) (hv1 : decide (0 < (v : Int)) = false) (hv2 : decide (0 < v) = false) (hl : limB c.k = false) (w : World) :
    Calls Try.prog 16 #[(.agg #[.int .i64 c.k, .int .i64 c.o, .int .i64 c.r, .int .u64 c.b, .int .u64 c.g, .int .i64 c.n]), .int .i64 s, .int .u64 v] w fun e w' => e = .returned (.tuple #[(.agg #[.int .i64 c.k, .int .i64 c.o, .int .i64 c.r, .int .u64 c.b, .int .u64 c.g, .int .i64 c.n]), .int .i64 0]) ∧ Below w.heap.size w w' := by
  have HB := Lib.hid hok
  clear hok
  go_enter Try.func16, Try.ntmps16
  go_wp2_with (first | (go_at_call 23; refine (rcheck_ok c hg HB.out _).mono ?_; rintro e w' ⟨rfl, rfl⟩) | (go_at_call 28; refine (rbadged_any c.k _).mono ?_; rintro e w' ⟨rfl, rfl⟩) | (go_at_call 29; refine (rlimited_any c.k _).mono ?_; rintro e w' ⟨rfl, rfl⟩))
  refine bodyPost_ret (v := .tuple #[(.agg #[.int .i64 c.k, .int .i64 c.o, .int .i64 c.r, .int .u64 c.b, .int .u64 c.g, .int .i64 c.n]), .int .i64 0]) ?_ rfl ⟨rfl, ?_⟩
  · simp [results, Try.results16, go_sem]
  · (repeat (first | exact Below.refl _ _ | apply Below.drew | apply below_new | refine below_put ?_ _ _ (by simp)))

set_option maxRecDepth 100000 in
set_option maxHeartbeats 1600000 in
theorem rmint_badge_false (c : Cp) (s : Int) (v : Nat) (hg : Word c.g) (hok : c.Ok) (hs0 : 0 ≤ s) (hs7 : s ≤ 7) (hk : (c.k == 0) = false) (hv1 : decide (0 < (v : Int)) = true) (hv2 : decide (0 < v) = true) (hb : badB c.k = true) (hc1 : decide (0 < (c.b : Int)) = false) (hc2 : decide (0 < c.b) = false) (hl : limB c.k = false) (w : World) :
    Calls Try.prog 16 #[(.agg #[.int .i64 c.k, .int .i64 c.o, .int .i64 c.r, .int .u64 c.b, .int .u64 c.g, .int .i64 c.n]), .int .i64 s, .int .u64 v] w fun e w' => e = .returned (.tuple #[(.agg #[.int .i64 c.k, .int .i64 c.o, .int .i64 c.r, .int .u64 v, .int .u64 c.g, .int .i64 c.n]), .int .i64 0]) ∧ Below w.heap.size w w' := by
  have HB := Lib.hid hok
  clear hok
  go_enter Try.func16, Try.ntmps16
  go_wp2_with (first | (go_at_call 23; refine (rcheck_ok c hg HB.out _).mono ?_; rintro e w' ⟨rfl, rfl⟩) | (go_at_call 28; refine (rbadged_any c.k _).mono ?_; rintro e w' ⟨rfl, rfl⟩) | (go_at_call 29; refine (rlimited_any c.k _).mono ?_; rintro e w' ⟨rfl, rfl⟩))
  refine bodyPost_ret (v := .tuple #[(.agg #[.int .i64 c.k, .int .i64 c.o, .int .i64 c.r, .int .u64 v, .int .u64 c.g, .int .i64 c.n]), .int .i64 0]) ?_ rfl ⟨rfl, ?_⟩
  · simp [results, Try.results16, go_sem]
  · (repeat (first | exact Below.refl _ _ | apply Below.drew | apply below_new | refine below_put ?_ _ _ (by simp)))

set_option maxRecDepth 100000 in
set_option maxHeartbeats 1600000 in
theorem rguarded_form (c : Cp) (v : Nat) (n : Int) (hg : Word c.g) (_hv : Word v) (hok : ¬ c.Ok) (w : World) :
    Calls Try.prog 17 #[(.agg #[.int .i64 c.k, .int .i64 c.o, .int .i64 c.r, .int .u64 c.b, .int .u64 c.g, .int .i64 c.n]), .int .u64 v, .int .i64 n] w fun e w' => e = .returned (.tuple #[(.agg #[.int .i64 0, .int .i64 0, .int .i64 0, .int .u64 0, .int .u64 0, .int .i64 0]), .int .i64 40]) ∧ Below w.heap.size w w' := by
  have HB := Lib.hid hok
  clear hok
  go_enter Try.func17, Try.ntmps17
  go_wp2_with (first | (go_at_call 23; refine (rcheck_bad c hg HB.out _).mono ?_; rintro e w' ⟨rfl, rfl⟩))
  refine bodyPost_ret (v := .tuple #[(.agg #[.int .i64 0, .int .i64 0, .int .i64 0, .int .u64 0, .int .u64 0, .int .i64 0]), .int .i64 40]) ?_ rfl ⟨rfl, ?_⟩
  · simp [results, Try.results17, go_sem]
  · (repeat (first | exact Below.refl _ _ | apply Below.drew | apply below_new | refine below_put ?_ _ _ (by simp)))

set_option maxRecDepth 100000 in
set_option maxHeartbeats 1600000 in
theorem rguarded_kind (c : Cp) (v : Nat) (n : Int) (hg : Word c.g) (_hv : Word v) (hok : c.Ok) (hk : (c.k != 2) = true) (w : World) :
    Calls Try.prog 17 #[(.agg #[.int .i64 c.k, .int .i64 c.o, .int .i64 c.r, .int .u64 c.b, .int .u64 c.g, .int .i64 c.n]), .int .u64 v, .int .i64 n] w fun e w' => e = .returned (.tuple #[(.agg #[.int .i64 0, .int .i64 0, .int .i64 0, .int .u64 0, .int .u64 0, .int .i64 0]), .int .i64 41]) ∧ Below w.heap.size w w' := by
  have HB := Lib.hid hok
  clear hok
  go_enter Try.func17, Try.ntmps17
  go_wp2_with (first | (go_at_call 23; refine (rcheck_ok c hg HB.out _).mono ?_; rintro e w' ⟨rfl, rfl⟩))
  refine bodyPost_ret (v := .tuple #[(.agg #[.int .i64 0, .int .i64 0, .int .i64 0, .int .u64 0, .int .u64 0, .int .i64 0]), .int .i64 41]) ?_ rfl ⟨rfl, ?_⟩
  · simp [results, Try.results17, go_sem]
  · (repeat (first | exact Below.refl _ _ | apply Below.drew | apply below_new | refine below_put ?_ _ _ (by simp)))

set_option maxRecDepth 100000 in
set_option maxHeartbeats 1600000 in
theorem rguarded_arg (c : Cp) (v : Nat) (n : Int) (hg : Word c.g) (hv : Word v) (hok : c.Ok) (hk : (c.k != 2) = false) (hb : guaB v n = false) (w : World) :
    Calls Try.prog 17 #[(.agg #[.int .i64 c.k, .int .i64 c.o, .int .i64 c.r, .int .u64 c.b, .int .u64 c.g, .int .i64 c.n]), .int .u64 v, .int .i64 n] w fun e w' => e = .returned (.tuple #[(.agg #[.int .i64 0, .int .i64 0, .int .i64 0, .int .u64 0, .int .u64 0, .int .i64 0]), .int .i64 1]) ∧ Below w.heap.size w w' := by
  have HB := Lib.hid hok
  clear hok
  go_enter Try.func17, Try.ntmps17
  go_wp2_with (first | (go_at_call 23; refine (rcheck_ok c hg HB.out _).mono ?_; rintro e w' ⟨rfl, rfl⟩) | (go_at_call 30; refine (rguard_any v n hv _).mono ?_; rintro e w' ⟨rfl, rfl⟩))
  refine bodyPost_ret (v := .tuple #[(.agg #[.int .i64 0, .int .i64 0, .int .i64 0, .int .u64 0, .int .u64 0, .int .i64 0]), .int .i64 1]) ?_ rfl ⟨rfl, ?_⟩
  · simp [results, Try.results17, go_sem]
  · (repeat (first | exact Below.refl _ _ | apply Below.drew | apply below_new | refine below_put ?_ _ _ (by simp)))

set_option maxRecDepth 100000 in
set_option maxHeartbeats 1600000 in
theorem rguarded_good (c : Cp) (v : Nat) (n : Int) (hg : Word c.g) (hv : Word v) (hok : c.Ok) (hk : (c.k != 2) = false) (hb : guaB v n = true) (w : World) :
    Calls Try.prog 17 #[(.agg #[.int .i64 c.k, .int .i64 c.o, .int .i64 c.r, .int .u64 c.b, .int .u64 c.g, .int .i64 c.n]), .int .u64 v, .int .i64 n] w fun e w' => e = .returned (.tuple #[(.agg #[.int .i64 c.k, .int .i64 c.o, .int .i64 c.r, .int .u64 c.b, .int .u64 v, .int .i64 n]), .int .i64 0]) ∧ Below w.heap.size w w' := by
  have HB := Lib.hid hok
  clear hok
  go_enter Try.func17, Try.ntmps17
  go_wp2_with (first | (go_at_call 23; refine (rcheck_ok c hg HB.out _).mono ?_; rintro e w' ⟨rfl, rfl⟩) | (go_at_call 30; refine (rguard_any v n hv _).mono ?_; rintro e w' ⟨rfl, rfl⟩))
  refine bodyPost_ret (v := .tuple #[(.agg #[.int .i64 c.k, .int .i64 c.o, .int .i64 c.r, .int .u64 c.b, .int .u64 v, .int .i64 n]), .int .i64 0]) ?_ rfl ⟨rfl, ?_⟩
  · simp [results, Try.results17, go_sem]
  · (repeat (first | exact Below.refl _ _ | apply Below.drew | apply below_new | refine below_put ?_ _ _ (by simp)))

end Go.Proofs.Ythgiofgedeijoaa
