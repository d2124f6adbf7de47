/- Contracts of Right over the translation: the program's and the reference's. -/
import Derived.Test.YtldhpecpmgjihaaScmath
import Derived.KernelRfl
set_option linter.unusedVariables false
set_option linter.unusedSimpArgs false
namespace Go.Proofs.Ytldhpecpmgjihaa
open Go.RowKit Sc

set_option maxRecDepth 100000 in
set_option maxHeartbeats 800000 in
theorem byt_lo (n : Int) (h : n < 0) (w : World) :
    Calls Try.prog 19 #[.int .i64 n] w fun e w' => e = .returned (.bool false) ∧ w' = w := by
  go_enter Try.func19, Try.ntmps19
  go_wp2
  go_ret
  exact ⟨congrArg (fun b => Ending.returned (.bool b)) (by first | rfl | (simp; done) | (simp; omega)), rfl⟩

set_option maxRecDepth 100000 in
set_option maxHeartbeats 800000 in
theorem byt_hi (n : Int) (h0 : 0 ≤ n) (h : 255 < n) (w : World) :
    Calls Try.prog 19 #[.int .i64 n] w fun e w' => e = .returned (.bool false) ∧ w' = w := by
  go_enter Try.func19, Try.ntmps19
  go_wp2
  go_ret
  exact ⟨congrArg (fun b => Ending.returned (.bool b)) (by first | rfl | (simp; done) | (simp; omega)), rfl⟩

set_option maxRecDepth 100000 in
set_option maxHeartbeats 800000 in
theorem byt_in (n : Int) (h0 : 0 ≤ n) (h : n ≤ 255) (w : World) :
    Calls Try.prog 19 #[.int .i64 n] w fun e w' => e = .returned (.bool true) ∧ w' = w := by
  go_enter Try.func19, Try.ntmps19
  go_wp2
  go_ret
  exact ⟨rfl, rfl⟩

theorem byt_any (n : Int) (t : Bool) (h : decide (0 ≤ n ∧ n ≤ 255) = t) (w : World) :
    Calls Try.prog 19 #[.int .i64 n] w fun e w' => e = .returned (.bool t) ∧ w' = w := by
  subst h
  by_cases h0 : n < 0
  · rw [decide_eq_false (by omega)]
    exact byt_lo n h0 w
  by_cases h1 : 255 < n
  · rw [decide_eq_false (by omega)]
    exact byt_hi n (by omega) h1 w
  rw [decide_eq_true ⟨by omega, by omega⟩]
  exact byt_in n (by omega) (by omega) w
set_option maxRecDepth 100000 in
set_option maxHeartbeats 800000 in
theorem right_k_lo (x : It) (n : Int) (h0 : x.k < 0) (w : World) :
    Calls Try.prog 14 #[(.agg #[.int .i64 x.k, .int .i64 x.c, .int .i64 x.a, .int .i64 x.b]), .int .i64 n] w fun e w' => e = .returned (.bool false) ∧ Below w.heap.size w w' := by
  go_enter Try.func14, Try.ntmps14
  go_wp2_with fail
  go_ret
  exact ⟨rfl, (by repeat (first | exact Below.refl _ _ | apply below_new | refine below_draws ?_ _))⟩

set_option maxRecDepth 100000 in
set_option maxHeartbeats 800000 in
theorem rright_k_lo (x : It) (n : Int) (h0 : x.k < 0) (w : World) :
    Calls Try.prog 15 #[(.agg #[.int .i64 x.k, .int .i64 x.c, .int .i64 x.a, .int .i64 x.b]), .int .i64 n] w fun e w' => e = .returned (.bool false) ∧ Below w.heap.size w w' := by
  go_enter Try.func15, Try.ntmps15
  go_wp2_with fail
  go_ret
  exact ⟨congrArg (fun b => Ending.returned (.bool b)) (by first | rfl | (simp; done) | (simp; omega)), (by repeat (first | exact Below.refl _ _ | apply below_new | refine below_draws ?_ _))⟩

set_option maxRecDepth 100000 in
set_option maxHeartbeats 800000 in
theorem right_k_hi (x : It) (n : Int) (h0 : 0 ≤ x.k) (h1 : 4 ≤ x.k) (w : World) :
    Calls Try.prog 14 #[(.agg #[.int .i64 x.k, .int .i64 x.c, .int .i64 x.a, .int .i64 x.b]), .int .i64 n] w fun e w' => e = .returned (.bool false) ∧ Below w.heap.size w w' := by
  go_enter Try.func14, Try.ntmps14
  go_wp2_with fail
  go_ret
  exact ⟨rfl, (by repeat (first | exact Below.refl _ _ | apply below_new | refine below_draws ?_ _))⟩

set_option maxRecDepth 100000 in
set_option maxHeartbeats 800000 in
theorem rright_k_hi (x : It) (n : Int) (h0 : 0 ≤ x.k) (h1 : 4 ≤ x.k) (w : World) :
    Calls Try.prog 15 #[(.agg #[.int .i64 x.k, .int .i64 x.c, .int .i64 x.a, .int .i64 x.b]), .int .i64 n] w fun e w' => e = .returned (.bool false) ∧ Below w.heap.size w w' := by
  go_enter Try.func15, Try.ntmps15
  go_wp2_with fail
  go_ret
  exact ⟨congrArg (fun b => Ending.returned (.bool b)) (by first | rfl | (simp; done) | (simp; omega)), (by repeat (first | exact Below.refl _ _ | apply below_new | refine below_draws ?_ _))⟩

set_option maxRecDepth 100000 in
set_option maxHeartbeats 800000 in
theorem right_c_lo (x : It) (n : Int) (h0 : 0 ≤ x.k) (h1 : x.k < 4) (h2 : x.c < 0) (w : World) :
    Calls Try.prog 14 #[(.agg #[.int .i64 x.k, .int .i64 x.c, .int .i64 x.a, .int .i64 x.b]), .int .i64 n] w fun e w' => e = .returned (.bool false) ∧ Below w.heap.size w w' := by
  go_enter Try.func14, Try.ntmps14
  go_wp2_with fail
  go_ret
  exact ⟨rfl, (by repeat (first | exact Below.refl _ _ | apply below_new | refine below_draws ?_ _))⟩

set_option maxRecDepth 100000 in
set_option maxHeartbeats 800000 in
theorem rright_c_lo (x : It) (n : Int) (h0 : 0 ≤ x.k) (h1 : x.k < 4) (h2 : x.c < 0) (w : World) :
    Calls Try.prog 15 #[(.agg #[.int .i64 x.k, .int .i64 x.c, .int .i64 x.a, .int .i64 x.b]), .int .i64 n] w fun e w' => e = .returned (.bool false) ∧ Below w.heap.size w w' := by
  go_enter Try.func15, Try.ntmps15
  go_wp2_with fail
  go_ret
  exact ⟨congrArg (fun b => Ending.returned (.bool b)) (by first | rfl | (simp; done) | (simp; omega)), (by repeat (first | exact Below.refl _ _ | apply below_new | refine below_draws ?_ _))⟩

set_option maxRecDepth 100000 in
set_option maxHeartbeats 800000 in
theorem right_c_n (x : It) (n : Int) (h0 : 0 ≤ x.k) (h1 : x.k < 4) (h2 : 0 ≤ x.c) (h3 : n ≤ x.c) (w : World) :
    Calls Try.prog 14 #[(.agg #[.int .i64 x.k, .int .i64 x.c, .int .i64 x.a, .int .i64 x.b]), .int .i64 n] w fun e w' => e = .returned (.bool false) ∧ Below w.heap.size w w' := by
  by_cases hn : n ≤ 8
  · go_enter Try.func14, Try.ntmps14
    go_wp2_with fail
    go_ret
    exact ⟨rfl, (by repeat (first | exact Below.refl _ _ | apply below_new | refine below_draws ?_ _))⟩
  · have h88 : 8 ≤ x.c := by omega
    go_enter Try.func14, Try.ntmps14
    go_wp2_with fail
    go_ret
    exact ⟨rfl, (by repeat (first | exact Below.refl _ _ | apply below_new | refine below_draws ?_ _))⟩

set_option maxRecDepth 100000 in
set_option maxHeartbeats 800000 in
theorem rright_c_n (x : It) (n : Int) (h0 : 0 ≤ x.k) (h1 : x.k < 4) (h2 : 0 ≤ x.c) (h3 : n ≤ x.c) (w : World) :
    Calls Try.prog 15 #[(.agg #[.int .i64 x.k, .int .i64 x.c, .int .i64 x.a, .int .i64 x.b]), .int .i64 n] w fun e w' => e = .returned (.bool false) ∧ Below w.heap.size w w' := by
  go_enter Try.func15, Try.ntmps15
  go_wp2_with fail
  go_ret
  exact ⟨congrArg (fun b => Ending.returned (.bool b)) (by first | rfl | (simp; done) | (simp; omega)), (by repeat (first | exact Below.refl _ _ | apply below_new | refine below_draws ?_ _))⟩

set_option maxRecDepth 100000 in
set_option maxHeartbeats 800000 in
theorem right_c_8 (x : It) (n : Int) (h0 : 0 ≤ x.k) (h1 : x.k < 4) (h2 : 0 ≤ x.c) (h3 : x.c < n) (h4 : 8 ≤ x.c) (w : World) :
    Calls Try.prog 14 #[(.agg #[.int .i64 x.k, .int .i64 x.c, .int .i64 x.a, .int .i64 x.b]), .int .i64 n] w fun e w' => e = .returned (.bool false) ∧ Below w.heap.size w w' := by
  by_cases hn : n ≤ 8
  · exact absurd hn (by omega)
  · go_enter Try.func14, Try.ntmps14
    go_wp2_with fail
    go_ret
    exact ⟨rfl, (by repeat (first | exact Below.refl _ _ | apply below_new | refine below_draws ?_ _))⟩

set_option maxRecDepth 100000 in
set_option maxHeartbeats 800000 in
theorem rright_c_8 (x : It) (n : Int) (h0 : 0 ≤ x.k) (h1 : x.k < 4) (h2 : 0 ≤ x.c) (h3 : x.c < n) (h4 : 8 ≤ x.c) (w : World) :
    Calls Try.prog 15 #[(.agg #[.int .i64 x.k, .int .i64 x.c, .int .i64 x.a, .int .i64 x.b]), .int .i64 n] w fun e w' => e = .returned (.bool false) ∧ Below w.heap.size w w' := by
  go_enter Try.func15, Try.ntmps15
  go_wp2_with fail
  go_ret
  exact ⟨congrArg (fun b => Ending.returned (.bool b)) (by first | rfl | (simp; done) | (simp; omega)), (by repeat (first | exact Below.refl _ _ | apply below_new | refine below_draws ?_ _))⟩

set_option maxRecDepth 100000 in
set_option maxHeartbeats 800000 in
theorem right_a_no (x : It) (n : Int) (h0 : 0 ≤ x.k) (h1 : x.k < 4) (h2 : 0 ≤ x.c) (h3 : x.c < n) (h4 : x.c < 8) (ha : decide (0 ≤ x.a ∧ x.a ≤ 255) = false) (w : World) :
    Calls Try.prog 14 #[(.agg #[.int .i64 x.k, .int .i64 x.c, .int .i64 x.a, .int .i64 x.b]), .int .i64 n] w fun e w' => e = .returned (.bool false) ∧ Below w.heap.size w w' := by
  have Kha := Lib.hid ha
  clear ha
  by_cases hn : n ≤ 8
  · go_enter Try.func14, Try.ntmps14
    go_wp2_with fail
    refine (byt_any x.a false Kha.out _).mono ?_
    rintro e w' ⟨rfl, rfl⟩
    go_wp2_with fail
    go_ret
    exact ⟨rfl, (by repeat (first | exact Below.refl _ _ | apply below_new | refine below_draws ?_ _))⟩
  · go_enter Try.func14, Try.ntmps14
    go_wp2_with fail
    refine (byt_any x.a false Kha.out _).mono ?_
    rintro e w' ⟨rfl, rfl⟩
    go_wp2_with fail
    go_ret
    exact ⟨rfl, (by repeat (first | exact Below.refl _ _ | apply below_new | refine below_draws ?_ _))⟩

set_option maxRecDepth 100000 in
set_option maxHeartbeats 800000 in
theorem right_b_no (x : It) (n : Int) (h0 : 0 ≤ x.k) (h1 : x.k < 4) (h2 : 0 ≤ x.c) (h3 : x.c < n) (h4 : x.c < 8) (ha : decide (0 ≤ x.a ∧ x.a ≤ 255) = true) (hb : decide (0 ≤ x.b ∧ x.b ≤ 255) = false) (w : World) :
    Calls Try.prog 14 #[(.agg #[.int .i64 x.k, .int .i64 x.c, .int .i64 x.a, .int .i64 x.b]), .int .i64 n] w fun e w' => e = .returned (.bool false) ∧ Below w.heap.size w w' := by
  have Kha := Lib.hid ha
  clear ha
  have Khb := Lib.hid hb
  clear hb
  by_cases hn : n ≤ 8
  · go_enter Try.func14, Try.ntmps14
    go_wp2_with fail
    refine (byt_any x.a true Kha.out _).mono ?_
    rintro e w' ⟨rfl, rfl⟩
    go_wp2_with fail
    refine (byt_any x.b false Khb.out _).mono ?_
    rintro e w' ⟨rfl, rfl⟩
    go_wp2_with fail
    go_ret
    exact ⟨rfl, (by repeat (first | exact Below.refl _ _ | apply below_new | refine below_draws ?_ _))⟩
  · go_enter Try.func14, Try.ntmps14
    go_wp2_with fail
    refine (byt_any x.a true Kha.out _).mono ?_
    rintro e w' ⟨rfl, rfl⟩
    go_wp2_with fail
    refine (byt_any x.b false Khb.out _).mono ?_
    rintro e w' ⟨rfl, rfl⟩
    go_wp2_with fail
    go_ret
    exact ⟨rfl, (by repeat (first | exact Below.refl _ _ | apply below_new | refine below_draws ?_ _))⟩

set_option maxRecDepth 100000 in
set_option maxHeartbeats 800000 in
theorem right_yes (x : It) (n : Int) (h0 : 0 ≤ x.k) (h1 : x.k < 4) (h2 : 0 ≤ x.c) (h3 : x.c < n) (h4 : x.c < 8) (ha : decide (0 ≤ x.a ∧ x.a ≤ 255) = true) (hb : decide (0 ≤ x.b ∧ x.b ≤ 255) = true) (w : World) :
    Calls Try.prog 14 #[(.agg #[.int .i64 x.k, .int .i64 x.c, .int .i64 x.a, .int .i64 x.b]), .int .i64 n] w fun e w' => e = .returned (.bool true) ∧ Below w.heap.size w w' := by
  have Kha := Lib.hid ha
  clear ha
  have Khb := Lib.hid hb
  clear hb
  by_cases hn : n ≤ 8
  · go_enter Try.func14, Try.ntmps14
    go_wp2_with fail
    refine (byt_any x.a true Kha.out _).mono ?_
    rintro e w' ⟨rfl, rfl⟩
    go_wp2_with fail
    refine (byt_any x.b true Khb.out _).mono ?_
    rintro e w' ⟨rfl, rfl⟩
    go_wp2_with fail
    go_ret
    exact ⟨rfl, (by repeat (first | exact Below.refl _ _ | apply below_new | refine below_draws ?_ _))⟩
  · go_enter Try.func14, Try.ntmps14
    go_wp2_with fail
    refine (byt_any x.a true Kha.out _).mono ?_
    rintro e w' ⟨rfl, rfl⟩
    go_wp2_with fail
    refine (byt_any x.b true Khb.out _).mono ?_
    rintro e w' ⟨rfl, rfl⟩
    go_wp2_with fail
    go_ret
    exact ⟨rfl, (by repeat (first | exact Below.refl _ _ | apply below_new | refine below_draws ?_ _))⟩

set_option maxRecDepth 100000 in
set_option maxHeartbeats 800000 in
theorem rright_a_lo (x : It) (n : Int) (h0 : 0 ≤ x.k) (h1 : x.k < 4) (h2 : 0 ≤ x.c) (h3 : x.c < n) (h4 : x.c < 8) (h5 : x.a < 0) (w : World) :
    Calls Try.prog 15 #[(.agg #[.int .i64 x.k, .int .i64 x.c, .int .i64 x.a, .int .i64 x.b]), .int .i64 n] w fun e w' => e = .returned (.bool false) ∧ Below w.heap.size w w' := by
  go_enter Try.func15, Try.ntmps15
  go_wp2_with fail
  go_ret
  exact ⟨congrArg (fun b => Ending.returned (.bool b)) (by first | rfl | (simp; done) | (simp; omega)), (by repeat (first | exact Below.refl _ _ | apply below_new | refine below_draws ?_ _))⟩

set_option maxRecDepth 100000 in
set_option maxHeartbeats 800000 in
theorem rright_a_hi (x : It) (n : Int) (h0 : 0 ≤ x.k) (h1 : x.k < 4) (h2 : 0 ≤ x.c) (h3 : x.c < n) (h4 : x.c < 8) (h5 : 0 ≤ x.a) (h6 : 256 ≤ x.a) (w : World) :
    Calls Try.prog 15 #[(.agg #[.int .i64 x.k, .int .i64 x.c, .int .i64 x.a, .int .i64 x.b]), .int .i64 n] w fun e w' => e = .returned (.bool false) ∧ Below w.heap.size w w' := by
  go_enter Try.func15, Try.ntmps15
  go_wp2_with fail
  go_ret
  exact ⟨congrArg (fun b => Ending.returned (.bool b)) (by first | rfl | (simp; done) | (simp; omega)), (by repeat (first | exact Below.refl _ _ | apply below_new | refine below_draws ?_ _))⟩

set_option maxRecDepth 100000 in
set_option maxHeartbeats 800000 in
theorem rright_b_lo (x : It) (n : Int) (h0 : 0 ≤ x.k) (h1 : x.k < 4) (h2 : 0 ≤ x.c) (h3 : x.c < n) (h4 : x.c < 8) (h5 : 0 ≤ x.a) (h6 : x.a < 256) (h7 : x.b < 0) (w : World) :
    Calls Try.prog 15 #[(.agg #[.int .i64 x.k, .int .i64 x.c, .int .i64 x.a, .int .i64 x.b]), .int .i64 n] w fun e w' => e = .returned (.bool false) ∧ Below w.heap.size w w' := by
  go_enter Try.func15, Try.ntmps15
  go_wp2_with fail
  go_ret
  exact ⟨congrArg (fun b => Ending.returned (.bool b)) (by first | rfl | (simp; done) | (simp; omega)), (by repeat (first | exact Below.refl _ _ | apply below_new | refine below_draws ?_ _))⟩

set_option maxRecDepth 100000 in
set_option maxHeartbeats 800000 in
theorem rright_b_hi (x : It) (n : Int) (h0 : 0 ≤ x.k) (h1 : x.k < 4) (h2 : 0 ≤ x.c) (h3 : x.c < n) (h4 : x.c < 8) (h5 : 0 ≤ x.a) (h6 : x.a < 256) (h7 : 0 ≤ x.b) (h8 : 256 ≤ x.b) (w : World) :
    Calls Try.prog 15 #[(.agg #[.int .i64 x.k, .int .i64 x.c, .int .i64 x.a, .int .i64 x.b]), .int .i64 n] w fun e w' => e = .returned (.bool false) ∧ Below w.heap.size w w' := by
  go_enter Try.func15, Try.ntmps15
  go_wp2_with fail
  go_ret
  exact ⟨congrArg (fun b => Ending.returned (.bool b)) (by first | rfl | (simp; done) | (simp; omega)), (by repeat (first | exact Below.refl _ _ | apply below_new | refine below_draws ?_ _))⟩

set_option maxRecDepth 100000 in
set_option maxHeartbeats 800000 in
theorem rright_yes (x : It) (n : Int) (h0 : 0 ≤ x.k) (h1 : x.k < 4) (h2 : 0 ≤ x.c) (h3 : x.c < n) (h4 : x.c < 8) (h5 : 0 ≤ x.a) (h6 : x.a < 256) (h7 : 0 ≤ x.b) (h8 : x.b < 256) (w : World) :
    Calls Try.prog 15 #[(.agg #[.int .i64 x.k, .int .i64 x.c, .int .i64 x.a, .int .i64 x.b]), .int .i64 n] w fun e w' => e = .returned (.bool true) ∧ Below w.heap.size w w' := by
  go_enter Try.func15, Try.ntmps15
  go_wp2_with fail
  go_ret
  exact ⟨congrArg (fun b => Ending.returned (.bool b)) (by first | rfl | (simp; done) | (simp; omega)), (by repeat (first | exact Below.refl _ _ | apply below_new | refine below_draws ?_ _))⟩

theorem right_any (x : It) (n : Int) (w : World) :
    Calls Try.prog 14 #[(.agg #[.int .i64 x.k, .int .i64 x.c, .int .i64 x.a, .int .i64 x.b]), .int .i64 n] w fun e w' => e = .returned (.bool (rightU x n)) ∧ Below w.heap.size w w' := by
  have no : ¬ x.Right n → rightU x n = false := fun h => decide_eq_false h
  by_cases k0 : x.k < 0
  · rw [no (fun h => by unfold It.Right at h; omega)]
    exact right_k_lo x n k0 w
  by_cases k1 : 4 ≤ x.k
  · rw [no (fun h => by unfold It.Right at h; omega)]
    exact right_k_hi x n (by omega) k1 w
  by_cases c0 : x.c < 0
  · rw [no (fun h => by unfold It.Right at h; omega)]
    exact right_c_lo x n (by omega) (by omega) c0 w
  by_cases c1 : n ≤ x.c
  · rw [no (fun h => by unfold It.Right at h; omega)]
    exact right_c_n x n (by omega) (by omega) (by omega) c1 w
  by_cases c2 : 8 ≤ x.c
  · rw [no (fun h => by unfold It.Right at h; omega)]
    exact right_c_8 x n (by omega) (by omega) (by omega) (by omega) c2 w
  by_cases a0 : 0 ≤ x.a ∧ x.a ≤ 255
  · by_cases b0 : 0 ≤ x.b ∧ x.b ≤ 255
    · rw [show rightU x n = true from decide_eq_true (by unfold It.Right; omega)]
      exact right_yes x n (by omega) (by omega) (by omega) (by omega) (by omega) (decide_eq_true a0) (decide_eq_true b0) w
    · rw [no (fun h => by unfold It.Right at h; omega)]
      exact right_b_no x n (by omega) (by omega) (by omega) (by omega) (by omega) (decide_eq_true a0) (decide_eq_false b0) w
  · rw [no (fun h => by unfold It.Right at h; omega)]
    exact right_a_no x n (by omega) (by omega) (by omega) (by omega) (by omega) (decide_eq_false a0) w
theorem rright_any (x : It) (n : Int) (w : World) :
    Calls Try.prog 15 #[(.agg #[.int .i64 x.k, .int .i64 x.c, .int .i64 x.a, .int .i64 x.b]), .int .i64 n] w fun e w' => e = .returned (.bool (rightU x n)) ∧ Below w.heap.size w w' := by
  have no : ¬ x.Right n → rightU x n = false := fun h => decide_eq_false h
  by_cases k0 : x.k < 0
  · rw [no (fun h => by unfold It.Right at h; omega)]
    exact rright_k_lo x n k0 w
  by_cases k1 : 4 ≤ x.k
  · rw [no (fun h => by unfold It.Right at h; omega)]
    exact rright_k_hi x n (by omega) k1 w
  by_cases c0 : x.c < 0
  · rw [no (fun h => by unfold It.Right at h; omega)]
    exact rright_c_lo x n (by omega) (by omega) c0 w
  by_cases c1 : n ≤ x.c
  · rw [no (fun h => by unfold It.Right at h; omega)]
    exact rright_c_n x n (by omega) (by omega) (by omega) c1 w
  by_cases c2 : 8 ≤ x.c
  · rw [no (fun h => by unfold It.Right at h; omega)]
    exact rright_c_8 x n (by omega) (by omega) (by omega) (by omega) c2 w
  by_cases a1 : x.a < 0
  · rw [no (fun h => by unfold It.Right at h; omega)]
    exact rright_a_lo x n (by omega) (by omega) (by omega) (by omega) (by omega) a1 w
  by_cases a2 : 256 ≤ x.a
  · rw [no (fun h => by unfold It.Right at h; omega)]
    exact rright_a_hi x n (by omega) (by omega) (by omega) (by omega) (by omega) (by omega) a2 w
  by_cases a3 : x.b < 0
  · rw [no (fun h => by unfold It.Right at h; omega)]
    exact rright_b_lo x n (by omega) (by omega) (by omega) (by omega) (by omega) (by omega) (by omega) a3 w
  by_cases a4 : 256 ≤ x.b
  · rw [no (fun h => by unfold It.Right at h; omega)]
    exact rright_b_hi x n (by omega) (by omega) (by omega) (by omega) (by omega) (by omega) (by omega) (by omega) a4 w
  rw [show rightU x n = true from decide_eq_true (by unfold It.Right; omega)]
  exact rright_yes x n (by omega) (by omega) (by omega) (by omega) (by omega) (by omega) (by omega) (by omega) (by omega) w
end Go.Proofs.Ytldhpecpmgjihaa
