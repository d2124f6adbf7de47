/- Contracts of Same, Derives, Mint and Guarded over the translation, the program's. -/
import Derived.Test.YthgiofgedeijoaaCcheck
namespace Go.Proofs.Ythgiofgedeijoaa
open Go.RowKit Wd Cd

theorem below_new {w W : World} (h : Below w.heap.size w W) (o : Obj) : Below w.heap.size w (W.alloc o) := h.alloc h.size o
theorem below_put {w W : World} (h : Below w.heap.size w W) (p : Addr) (v : Value) (hp : w.heap.size ≤ p.block) : Below w.heap.size w (W.setCell p v) := h.setCell hp v
theorem below_drawn {w w1 : World} {k : Nat} (h : Below (w.drewN k).heap.size (w.drewN k) w1) : Below w.heap.size w w1 := ⟨h.os, h.tape, h.output, h.size, h.block⟩
theorem below_draws {w w1 : World} (h : Below w.heap.size w w1) (k : Nat) : Below w.heap.size w (w1.drewN k) := ⟨h.os, h.tape, h.output, h.size, h.block⟩
theorem below_then {w w1 w2 : World} (h : Below w.heap.size w w1) (k : Below w1.heap.size w1 w2) : Below w.heap.size w w2 :=
  h.trans ⟨k.os, k.tape, k.output, k.size, fun i hi => k.block i (Nat.lt_of_lt_of_le hi h.size)⟩
theorem cell_new {w : World} {a : Addr} {v : Value} {o : Obj} (h : w.cell? a = some v) : (w.alloc o).cell? a = some v :=
  ((Below.refl w.heap.size w).alloc (Nat.le_refl _) o).cell (World.block_lt_of_cell? w a h) |>.trans h

def sameB (a b : Cp) : Bool := decide (a.k ≠ 0) && (decide (a.k = b.k) && decide (a.o = b.o))
def derB (p c : Cp) : Bool := sameB p c && ((bits .andNot .i64 c.r p.r == 0) && (decide (p.b = 0) || decide (p.b = c.b)))
def mintC (c : Cp) (s : Int) (v : Nat) : Cp := ⟨c.k, c.o, if limB c.k = true then bits .and .i64 c.r s else c.r, if v = 0 then c.b else v, c.g, c.n⟩

set_option maxRecDepth 100000 in
set_option maxHeartbeats 1600000 in
theorem same_any (a b : Cp) (w : World) :
    Calls Try.prog 15 #[(.agg #[.int .i64 a.k, .int .i64 a.o, .int .i64 a.r, .int .u64 a.b, .int .u64 a.g, .int .i64 a.n]), (.agg #[.int .i64 b.k, .int .i64 b.o, .int .i64 b.r, .int .u64 b.b, .int .u64 b.g, .int .i64 b.n])] w fun e w' => e = .returned (.bool (sameB a b)) ∧ w' = (w.alloc (.cells #[.int .i64 a.k, .int .i64 a.o, .int .i64 a.r, .int .u64 a.b, .int .u64 a.g, .int .i64 a.n] 24)).alloc (.cells #[.int .i64 b.k, .int .i64 b.o, .int .i64 b.r, .int .u64 b.b, .int .u64 b.g, .int .i64 b.n] 24) := by
  by_cases h1 : a.k = 0
  · have hv : sameB a b = false := by simp [sameB, h1]
    have t1 : (a.k != 0) = false := by simp [h1]
    rw [hv]
    clear hv h1
    go_enter Try.func15, Try.ntmps15
    go_wp2
    go_ret
    exact ⟨rfl, rfl⟩
  have t1 : (a.k != 0) = true := by simp [h1]
  by_cases h2 : a.k = b.k
  · have t2 : (a.k == b.k) = true := by simp [h2]
    have hv : sameB a b = (a.o == b.o) := by
      have h1' : ¬ b.k = 0 := by rw [← h2]; exact h1
      simp only [sameB, h2, h1', decide_true, ne_eq, not_false_eq_true, Bool.true_and]
      by_cases h3 : a.o = b.o <;> simp [h3]
    rw [hv]
    clear hv h1 h2
    go_enter Try.func15, Try.ntmps15
    go_wp2
    go_ret
    exact ⟨rfl, rfl⟩
  · have t2 : (a.k == b.k) = false := by simp [h2]
    have hv : sameB a b = false := by simp [sameB, h2]
    rw [hv]
    clear hv h1 h2
    go_enter Try.func15, Try.ntmps15
    go_wp2
    go_ret
    exact ⟨rfl, rfl⟩

set_option maxRecDepth 100000 in
set_option maxHeartbeats 1600000 in
theorem derives_any (p c : Cp) (w : World) :
    Calls Try.prog 22 #[(.agg #[.int .i64 p.k, .int .i64 p.o, .int .i64 p.r, .int .u64 p.b, .int .u64 p.g, .int .i64 p.n]), (.agg #[.int .i64 c.k, .int .i64 c.o, .int .i64 c.r, .int .u64 c.b, .int .u64 c.g, .int .i64 c.n])] w fun e w' => e = .returned (.bool (derB p c)) ∧ Below w.heap.size w w' := by
  cases h1 : sameB p c
  · have hv : derB p c = false := by simp [derB, h1]
    rw [hv]
    clear hv
    go_enter Try.func22, Try.ntmps22
    go_wp2_with (go_at_call 15; refine (same_any p c _).mono ?_; rintro e w' ⟨rfl, rfl⟩)
    go_ret
    exact ⟨rfl, by (repeat (first | exact Below.refl _ _ | apply Below.drew | apply below_new))⟩
  cases h2 : (bits .andNot .i64 c.r p.r == 0)
  · have hv : derB p c = false := by simp only [derB, h2, Bool.false_and, Bool.and_false]
    rw [hv]
    clear hv
    go_enter Try.func22, Try.ntmps22
    go_wp2_with (go_at_call 15; refine (same_any p c _).mono ?_; rintro e w' ⟨rfl, rfl⟩)
    go_ret
    exact ⟨rfl, by (repeat (first | exact Below.refl _ _ | apply Below.drew | apply below_new))⟩
  by_cases h3 : p.b = 0
  · have hv : derB p c = true := by simp only [derB, h1, h2, h3, decide_true, Bool.true_or, Bool.and_self]
    have t3 : ((p.b : Int) == 0) = true := by simp [h3]
    rw [hv]
    clear hv h3
    go_enter Try.func22, Try.ntmps22
    go_wp2_with (go_at_call 15; refine (same_any p c _).mono ?_; rintro e w' ⟨rfl, rfl⟩)
    go_ret
    exact ⟨rfl, by (repeat (first | exact Below.refl _ _ | apply Below.drew | apply below_new))⟩
  · have t3 : ((p.b : Int) == 0) = false := by simp [h3]
    have hv : derB p c = ((p.b : Int) == (c.b : Int)) := by
      simp only [derB, h1, h2, h3, decide_false, Bool.false_or, Bool.true_and]
      by_cases h4 : p.b = c.b
      · simp [h4]
      · have h5 : ¬ (p.b : Int) = (c.b : Int) := by omega
        simp [h4, h5]
    rw [hv]
    clear hv h3
    go_enter Try.func22, Try.ntmps22
    go_wp2_with (go_at_call 15; refine (same_any p c _).mono ?_; rintro e w' ⟨rfl, rfl⟩)
    go_ret
    exact ⟨rfl, by (repeat (first | exact Below.refl _ _ | apply Below.drew | apply below_new))⟩

set_option maxRecDepth 100000 in
set_option maxHeartbeats 1600000 in
theorem mint_form (c : Cp) (s : Int) (v : Nat) (hg : Word c.g) (hok : ¬ c.Ok) (w : World) :
    Calls Try.prog 11 #[(.agg #[.int .i64 c.k, .int .i64 c.o, .int .i64 c.r, .int .u64 c.b, .int .u64 c.g, .int .i64 c.n]), .int .i64 s, .int .u64 v] w fun e w' => e = .returned (.tuple #[(.agg #[.int .i64 0, .int .i64 0, .int .i64 0, .int .u64 0, .int .u64 0, .int .i64 0]), .int .i64 40]) ∧ Below w.heap.size w w' := by
  have HB := Lib.hid hok
  clear hok
  go_enter Try.func11, Try.ntmps11
  go_wp2_with (first | (go_at_call 14; refine (check_bad c hg HB.out _).mono ?_; rintro e w' ⟨rfl, rfl⟩) | (go_at_call 24; refine (rights_any s _).mono ?_; rintro e w' ⟨rfl, rfl⟩) | (go_at_call 25; refine (badged_any c.k _).mono ?_; rintro e w' ⟨rfl, rfl⟩) | (go_at_call 26; refine (limited_any c.k _).mono ?_; rintro e w' ⟨rfl, rfl⟩))
  refine bodyPost_ret (v := .tuple #[(.agg #[.int .i64 0, .int .i64 0, .int .i64 0, .int .u64 0, .int .u64 0, .int .i64 0]), .int .i64 40]) ?_ rfl ⟨rfl, ?_⟩
  · simp [results, Try.results11, go_sem]
  · (repeat (first | exact Below.refl _ _ | apply Below.drew | apply below_new | refine below_put ?_ _ _ (by simp)))

set_option maxRecDepth 100000 in
set_option maxHeartbeats 1600000 in
theorem mint_arg (c : Cp) (s : Int) (v : Nat) (hg : Word c.g) (hok : c.Ok) (hs : rigB s = false) (w : World) :
    Calls Try.prog 11 #[(.agg #[.int .i64 c.k, .int .i64 c.o, .int .i64 c.r, .int .u64 c.b, .int .u64 c.g, .int .i64 c.n]), .int .i64 s, .int .u64 v] w fun e w' => e = .returned (.tuple #[(.agg #[.int .i64 0, .int .i64 0, .int .i64 0, .int .u64 0, .int .u64 0, .int .i64 0]), .int .i64 1]) ∧ Below w.heap.size w w' := by
  have HB := Lib.hid hok
  clear hok
  go_enter Try.func11, Try.ntmps11
  go_wp2_with (first | (go_at_call 14; refine (check_ok c hg HB.out _).mono ?_; rintro e w' ⟨rfl, rfl⟩) | (go_at_call 24; refine (rights_any s _).mono ?_; rintro e w' ⟨rfl, rfl⟩) | (go_at_call 25; refine (badged_any c.k _).mono ?_; rintro e w' ⟨rfl, rfl⟩) | (go_at_call 26; refine (limited_any c.k _).mono ?_; rintro e w' ⟨rfl, rfl⟩))
  refine bodyPost_ret (v := .tuple #[(.agg #[.int .i64 0, .int .i64 0, .int .i64 0, .int .u64 0, .int .u64 0, .int .i64 0]), .int .i64 1]) ?_ rfl ⟨rfl, ?_⟩
  · simp [results, Try.results11, go_sem]
  · (repeat (first | exact Below.refl _ _ | apply Below.drew | apply below_new | refine below_put ?_ _ _ (by simp)))

set_option maxRecDepth 100000 in
set_option maxHeartbeats 1600000 in
theorem mint_none (c : Cp) (s : Int) (v : Nat) (hg : Word c.g) (hok : c.Ok) (hs : rigB s = true) (hk : (c.k == 0) = true) (w : World) :
    Calls Try.prog 11 #[(.agg #[.int .i64 c.k, .int .i64 c.o, .int .i64 c.r, .int .u64 c.b, .int .u64 c.g, .int .i64 c.n]), .int .i64 s, .int .u64 v] w fun e w' => e = .returned (.tuple #[(.agg #[.int .i64 0, .int .i64 0, .int .i64 0, .int .u64 0, .int .u64 0, .int .i64 0]), .int .i64 41]) ∧ Below w.heap.size w w' := by
  have HB := Lib.hid hok
  clear hok
  go_enter Try.func11, Try.ntmps11
  go_wp2_with (first | (go_at_call 14; refine (check_ok c hg HB.out _).mono ?_; rintro e w' ⟨rfl, rfl⟩) | (go_at_call 24; refine (rights_any s _).mono ?_; rintro e w' ⟨rfl, rfl⟩) | (go_at_call 25; refine (badged_any c.k _).mono ?_; rintro e w' ⟨rfl, rfl⟩) | (go_at_call 26; refine (limited_any c.k _).mono ?_; rintro e w' ⟨rfl, rfl⟩))
  refine bodyPost_ret (v := .tuple #[(.agg #[.int .i64 0, .int .i64 0, .int .i64 0, .int .u64 0, .int .u64 0, .int .i64 0]), .int .i64 41]) ?_ rfl ⟨rfl, ?_⟩
  · simp [results, Try.results11, go_sem]
  · (repeat (first | exact Below.refl _ _ | apply Below.drew | apply below_new | refine below_put ?_ _ _ (by simp)))

set_option maxRecDepth 100000 in
set_option maxHeartbeats 1600000 in
theorem mint_unbadged (c : Cp) (s : Int) (v : Nat) (hg : Word c.g) (hok : c.Ok) (hs : rigB s = true) (hk : (c.k == 0) = false) (hv : ((v : Int) != 0) = true) (hb : badB c.k = false) (w : World) :
    Calls Try.prog 11 #[(.agg #[.int .i64 c.k, .int .i64 c.o, .int .i64 c.r, .int .u64 c.b, .int .u64 c.g, .int .i64 c.n]), .int .i64 s, .int .u64 v] w fun e w' => e = .returned (.tuple #[(.agg #[.int .i64 0, .int .i64 0, .int .i64 0, .int .u64 0, .int .u64 0, .int .i64 0]), .int .i64 41]) ∧ Below w.heap.size w w' := by
  have HB := Lib.hid hok
  clear hok
  go_enter Try.func11, Try.ntmps11
  go_wp2_with (first | (go_at_call 14; refine (check_ok c hg HB.out _).mono ?_; rintro e w' ⟨rfl, rfl⟩) | (go_at_call 24; refine (rights_any s _).mono ?_; rintro e w' ⟨rfl, rfl⟩) | (go_at_call 25; refine (badged_any c.k _).mono ?_; rintro e w' ⟨rfl, rfl⟩) | (go_at_call 26; refine (limited_any c.k _).mono ?_; rintro e w' ⟨rfl, rfl⟩))
  refine bodyPost_ret (v := .tuple #[(.agg #[.int .i64 0, .int .i64 0, .int .i64 0, .int .u64 0, .int .u64 0, .int .i64 0]), .int .i64 41]) ?_ rfl ⟨rfl, ?_⟩
  · simp [results, Try.results11, go_sem]
  · (repeat (first | exact Below.refl _ _ | apply Below.drew | apply below_new | refine below_put ?_ _ _ (by simp)))

set_option maxRecDepth 100000 in
set_option maxHeartbeats 1600000 in
theorem mint_again (c : Cp) (s : Int) (v : Nat) (hg : Word c.g) (hok : c.Ok) (hs : rigB s = true) (hk : (c.k == 0) = false) (hv : ((v : Int) != 0) = true) (hb : badB c.k = true) (hb2 : ((c.b : Int) != 0) = true) (w : World) :
    Calls Try.prog 11 #[(.agg #[.int .i64 c.k, .int .i64 c.o, .int .i64 c.r, .int .u64 c.b, .int .u64 c.g, .int .i64 c.n]), .int .i64 s, .int .u64 v] w fun e w' => e = .returned (.tuple #[(.agg #[.int .i64 0, .int .i64 0, .int .i64 0, .int .u64 0, .int .u64 0, .int .i64 0]), .int .i64 41]) ∧ Below w.heap.size w w' := by
  have HB := Lib.hid hok
  clear hok
  go_enter Try.func11, Try.ntmps11
  go_wp2_with (first | (go_at_call 14; refine (check_ok c hg HB.out _).mono ?_; rintro e w' ⟨rfl, rfl⟩) | (go_at_call 24; refine (rights_any s _).mono ?_; rintro e w' ⟨rfl, rfl⟩) | (go_at_call 25; refine (badged_any c.k _).mono ?_; rintro e w' ⟨rfl, rfl⟩) | (go_at_call 26; refine (limited_any c.k _).mono ?_; rintro e w' ⟨rfl, rfl⟩))
  refine bodyPost_ret (v := .tuple #[(.agg #[.int .i64 0, .int .i64 0, .int .i64 0, .int .u64 0, .int .u64 0, .int .i64 0]), .int .i64 41]) ?_ rfl ⟨rfl, ?_⟩
  · simp [results, Try.results11, go_sem]
  · (repeat (first | exact Below.refl _ _ | apply Below.drew | apply below_new | refine below_put ?_ _ _ (by simp)))

set_option maxRecDepth 100000 in
set_option maxHeartbeats 1600000 in
theorem mint_plain_true (c : Cp) (s : Int) (v : Nat) (hg : Word c.g) (hok : c.Ok) (hs : rigB s = true) (hk : (c.k == 0) = false) (hv : ((v : Int) != 0) = false) (hl : limB c.k = true) (w : World) :
    Calls Try.prog 11 #[(.agg #[.int .i64 c.k, .int .i64 c.o, .int .i64 c.r, .int .u64 c.b, .int .u64 c.g, .int .i64 c.n]), .int .i64 s, .int .u64 v] w fun e w' => e = .returned (.tuple #[(.agg #[.int .i64 c.k, .int .i64 c.o, .int .i64 (bits .and .i64 c.r s), .int .u64 c.b, .int .u64 c.g, .int .i64 c.n]), .int .i64 0]) ∧ Below w.heap.size w w' := by
  have HB := Lib.hid hok
  clear hok
  go_enter Try.func11, Try.ntmps11
  go_wp2_with (first | (go_at_call 14; refine (check_ok c hg HB.out _).mono ?_; rintro e w' ⟨rfl, rfl⟩) | (go_at_call 24; refine (rights_any s _).mono ?_; rintro e w' ⟨rfl, rfl⟩) | (go_at_call 25; refine (badged_any c.k _).mono ?_; rintro e w' ⟨rfl, rfl⟩) | (go_at_call 26; refine (limited_any c.k _).mono ?_; rintro e w' ⟨rfl, rfl⟩))
  refine bodyPost_ret (v := .tuple #[(.agg #[.int .i64 c.k, .int .i64 c.o, .int .i64 (bits .and .i64 c.r s), .int .u64 c.b, .int .u64 c.g, .int .i64 c.n]), .int .i64 0]) ?_ rfl ⟨rfl, ?_⟩
  · simp [results, Try.results11, go_sem]
  · (repeat (first | exact Below.refl _ _ | apply Below.drew | apply below_new | refine below_put ?_ _ _ (by simp)))

set_option maxRecDepth 100000 in
set_option maxHeartbeats 1600000 in
theorem mint_badge_true (c : Cp) (s : Int) (v : Nat) (hg : Word c.g) (hok : c.Ok) (hs : rigB s = true) (hk : (c.k == 0) = false) (hv : ((v : Int) != 0) = true) (hb : badB c.k = true) (hb2 : ((c.b : Int) != 0) = false) (hl : limB c.k = true) (w : World) :
    Calls Try.prog 11 #[(.agg #[.int .i64 c.k, .int .i64 c.o, .int .i64 c.r, .int .u64 c.b, .int .u64 c.g, .int .i64 c.n]), .int .i64 s, .int .u64 v] w fun e w' => e = .returned (.tuple #[(.agg #[.int .i64 c.k, .int .i64 c.o, .int .i64 (bits .and .i64 c.r s), .int .u64 v, .int .u64 c.g, .int .i64 c.n]), .int .i64 0]) ∧ Below w.heap.size w w' := by
  have HB := Lib.hid hok
  clear hok
  go_enter Try.func11, Try.ntmps11
  go_wp2_with (first | (go_at_call 14; refine (check_ok c hg HB.out _).mono ?_; rintro e w' ⟨rfl, rfl⟩) | (go_at_call 24; refine (rights_any s _).mono ?_; rintro e w' ⟨rfl, rfl⟩) | (go_at_call 25; refine (badged_any c.k _).mono ?_; rintro e w' ⟨rfl, rfl⟩) | (go_at_call 26; refine (limited_any c.k _).mono ?_; rintro e w' ⟨rfl, rfl⟩))
  refine bodyPost_ret (v := .tuple #[(.agg #[.int .i64 c.k, .int .i64 c.o, .int .i64 (bits .and .i64 c.r s), .int .u64 v, .int .u64 c.g, .int .i64 c.n]), .int .i64 0]) ?_ rfl ⟨rfl, ?_⟩
  · simp [results, Try.results11, go_sem]
  · (repeat (first | exact Below.refl _ _ | apply Below.drew | apply below_new | refine below_put ?_ _ _ (by simp)))

set_option maxRecDepth 100000 in
set_option maxHeartbeats 1600000 in
theorem mint_plain_false (c : Cp) (s : Int) (v : Nat) (hg : Word c.g) (hok : c.Ok) (hs : rigB s = true) (hk : (c.k == 0) = false) (hv : ((v : Int) != 0) = false) (hl : limB c.k = false) (w : World) :
    Calls Try.prog 11 #[(.agg #[.int .i64 c.k, .int .i64 c.o, .int .i64 c.r, .int .u64 c.b, .int .u64 c.g, .int .i64 c.n]), .int .i64 s, .int .u64 v] w fun e w' => e = .returned (.tuple #[(.agg #[.int .i64 c.k, .int .i64 c.o, .int .i64 c.r, .int .u64 c.b, .int .u64 c.g, .int .i64 c.n]), .int .i64 0]) ∧ Below w.heap.size w w' := by
  have HB := Lib.hid hok
  clear hok
  go_enter Try.func11, Try.ntmps11
  go_wp2_with (first | (go_at_call 14; refine (check_ok c hg HB.out _).mono ?_; rintro e w' ⟨rfl, rfl⟩) | (go_at_call 24; refine (rights_any s _).mono ?_; rintro e w' ⟨rfl, rfl⟩) | (go_at_call 25; refine (badged_any c.k _).mono ?_; rintro e w' ⟨rfl, rfl⟩) | (go_at_call 26; refine (limited_any c.k _).mono ?_; rintro e w' ⟨rfl, rfl⟩))
  refine bodyPost_ret (v := .tuple #[(.agg #[.int .i64 c.k, .int .i64 c.o, .int .i64 c.r, .int .u64 c.b, .int .u64 c.g, .int .i64 c.n]), .int .i64 0]) ?_ rfl ⟨rfl, ?_⟩
  · simp [results, Try.results11, go_sem]
  · (repeat (first | exact Below.refl _ _ | apply Below.drew | apply below_new | refine below_put ?_ _ _ (by simp)))

set_option maxRecDepth 100000 in
set_option maxHeartbeats 1600000 in
theorem mint_badge_false (c : Cp) (s : Int) (v : Nat) (hg : Word c.g) (hok : c.Ok) (hs : rigB s = true) (hk : (c.k == 0) = false) (hv : ((v : Int) != 0) = true) (hb : badB c.k = true) (hb2 : ((c.b : Int) != 0) = false) (hl : limB c.k = false) (w : World) :
    Calls Try.prog 11 #[(.agg #[.int .i64 c.k, .int .i64 c.o, .int .i64 c.r, .int .u64 c.b, .int .u64 c.g, .int .i64 c.n]), .int .i64 s, .int .u64 v] w fun e w' => e = .returned (.tuple #[(.agg #[.int .i64 c.k, .int .i64 c.o, .int .i64 c.r, .int .u64 v, .int .u64 c.g, .int .i64 c.n]), .int .i64 0]) ∧ Below w.heap.size w w' := by
  have HB := Lib.hid hok
  clear hok
  go_enter Try.func11, Try.ntmps11
  go_wp2_with (first | (go_at_call 14; refine (check_ok c hg HB.out _).mono ?_; rintro e w' ⟨rfl, rfl⟩) | (go_at_call 24; refine (rights_any s _).mono ?_; rintro e w' ⟨rfl, rfl⟩) | (go_at_call 25; refine (badged_any c.k _).mono ?_; rintro e w' ⟨rfl, rfl⟩) | (go_at_call 26; refine (limited_any c.k _).mono ?_; rintro e w' ⟨rfl, rfl⟩))
  refine bodyPost_ret (v := .tuple #[(.agg #[.int .i64 c.k, .int .i64 c.o, .int .i64 c.r, .int .u64 v, .int .u64 c.g, .int .i64 c.n]), .int .i64 0]) ?_ rfl ⟨rfl, ?_⟩
  · simp [results, Try.results11, go_sem]
  · (repeat (first | exact Below.refl _ _ | apply Below.drew | apply below_new | refine below_put ?_ _ _ (by simp)))

end Go.Proofs.Ythgiofgedeijoaa
