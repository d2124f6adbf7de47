/- Contracts of Guarded over the translation, the program's. -/
import Derived.Test.YthgiofgedeijoaaCmint
set_option linter.unusedVariables false
set_option linter.unusedSimpArgs false
namespace Go.Proofs.Ythgiofgedeijoaa
open Go.RowKit Wd Cd

set_option maxRecDepth 100000 in
set_option maxHeartbeats 1600000 in
theorem guarded_form (c : Cp) (v : Nat) (n : Int) (hg : Word c.g) (_hv : Word v) (hok : ¬ c.Ok) (w : World) :
    Calls Try.prog 13 #[(.agg #[.int .i64 c.k, .int .i64 c.o, .int .i64 c.r, .int .u64 c.b, .int .u64 c.g, .int .i64 c.n]), .int .u64 v, .int .i64 n] w fun e w' => e = .returned (.tuple #[(.agg #[.int .i64 0, .int .i64 0, .int .i64 0, .int .u64 0, .int .u64 0, .int .i64 0]), .int .i64 40]) ∧ Below w.heap.size w w' := by
  have HB := Lib.hid hok
  clear hok
  go_enter Try.func13, Try.ntmps13
  go_wp2_with (first | (go_at_call 14; refine (check_bad c hg HB.out _).mono ?_; rintro e w' ⟨rfl, rfl⟩))
  refine bodyPost_ret (v := .tuple #[(.agg #[.int .i64 0, .int .i64 0, .int .i64 0, .int .u64 0, .int .u64 0, .int .i64 0]), .int .i64 40]) ?_ rfl ⟨rfl, ?_⟩
  · simp [results, Try.results13, go_sem]
  · (repeat (first | exact Below.refl _ _ | apply Below.drew | apply below_new | refine below_put ?_ _ _ (by simp)))

set_option maxRecDepth 100000 in
set_option maxHeartbeats 1600000 in
theorem guarded_kind (c : Cp) (v : Nat) (n : Int) (hg : Word c.g) (_hv : Word v) (hok : c.Ok) (hk : (c.k != 2) = true) (w : World) :
    Calls Try.prog 13 #[(.agg #[.int .i64 c.k, .int .i64 c.o, .int .i64 c.r, .int .u64 c.b, .int .u64 c.g, .int .i64 c.n]), .int .u64 v, .int .i64 n] w fun e w' => e = .returned (.tuple #[(.agg #[.int .i64 0, .int .i64 0, .int .i64 0, .int .u64 0, .int .u64 0, .int .i64 0]), .int .i64 41]) ∧ Below w.heap.size w w' := by
  have HB := Lib.hid hok
  clear hok
  go_enter Try.func13, Try.ntmps13
  go_wp2_with (first | (go_at_call 14; refine (check_ok c hg HB.out _).mono ?_; rintro e w' ⟨rfl, rfl⟩))
  refine bodyPost_ret (v := .tuple #[(.agg #[.int .i64 0, .int .i64 0, .int .i64 0, .int .u64 0, .int .u64 0, .int .i64 0]), .int .i64 41]) ?_ rfl ⟨rfl, ?_⟩
  · simp [results, Try.results13, go_sem]
  · (repeat (first | exact Below.refl _ _ | apply Below.drew | apply below_new | refine below_put ?_ _ _ (by simp)))

set_option maxRecDepth 100000 in
set_option maxHeartbeats 1600000 in
theorem guarded_arg (c : Cp) (v : Nat) (n : Int) (hg : Word c.g) (hv : Word v) (hok : c.Ok) (hk : (c.k != 2) = false) (hb : guaB v n = false) (w : World) :
    Calls Try.prog 13 #[(.agg #[.int .i64 c.k, .int .i64 c.o, .int .i64 c.r, .int .u64 c.b, .int .u64 c.g, .int .i64 c.n]), .int .u64 v, .int .i64 n] w fun e w' => e = .returned (.tuple #[(.agg #[.int .i64 0, .int .i64 0, .int .i64 0, .int .u64 0, .int .u64 0, .int .i64 0]), .int .i64 1]) ∧ Below w.heap.size w w' := by
  have HB := Lib.hid hok
  clear hok
  go_enter Try.func13, Try.ntmps13
  go_wp2_with (first | (go_at_call 14; refine (check_ok c hg HB.out _).mono ?_; rintro e w' ⟨rfl, rfl⟩) | (go_at_call 27; refine (guard_any v n hv _).mono ?_; rintro e w' ⟨rfl, rfl⟩))
  refine bodyPost_ret (v := .tuple #[(.agg #[.int .i64 0, .int .i64 0, .int .i64 0, .int .u64 0, .int .u64 0, .int .i64 0]), .int .i64 1]) ?_ rfl ⟨rfl, ?_⟩
  · simp [results, Try.results13, go_sem]
  · (repeat (first | exact Below.refl _ _ | apply Below.drew | apply below_new | refine below_put ?_ _ _ (by simp)))

set_option maxRecDepth 100000 in
set_option maxHeartbeats 1600000 in
theorem guarded_good (c : Cp) (v : Nat) (n : Int) (hg : Word c.g) (hv : Word v) (hok : c.Ok) (hk : (c.k != 2) = false) (hb : guaB v n = true) (w : World) :
    Calls Try.prog 13 #[(.agg #[.int .i64 c.k, .int .i64 c.o, .int .i64 c.r, .int .u64 c.b, .int .u64 c.g, .int .i64 c.n]), .int .u64 v, .int .i64 n] w fun e w' => e = .returned (.tuple #[(.agg #[.int .i64 c.k, .int .i64 c.o, .int .i64 c.r, .int .u64 c.b, .int .u64 v, .int .i64 n]), .int .i64 0]) ∧ Below w.heap.size w w' := by
  have HB := Lib.hid hok
  clear hok
  go_enter Try.func13, Try.ntmps13
  go_wp2_with (first | (go_at_call 14; refine (check_ok c hg HB.out _).mono ?_; rintro e w' ⟨rfl, rfl⟩) | (go_at_call 27; refine (guard_any v n hv _).mono ?_; rintro e w' ⟨rfl, rfl⟩))
  refine bodyPost_ret (v := .tuple #[(.agg #[.int .i64 c.k, .int .i64 c.o, .int .i64 c.r, .int .u64 c.b, .int .u64 v, .int .i64 n]), .int .i64 0]) ?_ rfl ⟨rfl, ?_⟩
  · simp [results, Try.results13, go_sem]
  · (repeat (first | exact Below.refl _ _ | apply Below.drew | apply below_new | refine below_put ?_ _ _ (by simp)))

end Go.Proofs.Ythgiofgedeijoaa
