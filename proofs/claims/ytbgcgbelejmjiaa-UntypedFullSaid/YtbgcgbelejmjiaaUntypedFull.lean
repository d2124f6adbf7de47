/- As many objects of a size go into memory of which nothing is used as its size has room for, and no more: for every input, no condition. -/
import Derived.Test.YtbgcgbelejmjiaaUfixed
import Derived.Test.YtbgcgbelejmjiaaUframe
import Derived.Test.YtbgcgbelejmjiaaUlaw
set_option linter.unusedVariables false
set_option linter.unusedSimpArgs false
namespace Go.Proofs.Ytbgcgbelejmjiaa
open Go.ChangeShapes Go.WideShapes Go.ChangeAt Go.RowKit Go.Joins Wd Ud

theorem Ub.stored {w : World} {g : Nat} {v0 v1 v2 : Value} {x : Ut} (hz : g < w.heap.size) (c0 : w.cell? ⟨g, 0, Option.none⟩ = some v0) (c1 : w.cell? ⟨g, 1, Option.none⟩ = some v1) (c2 : w.cell? ⟨g, 2, Option.none⟩ = some v2)
    (f0 : w.frozen? ⟨g, 0, Option.none⟩ = false) (f1 : w.frozen? ⟨g, 1, Option.none⟩ = false) (f2 : w.frozen? ⟨g, 2, Option.none⟩ = false) :
    Ub (((w.setCell ⟨g, 0, Option.none⟩ (.int .u64 x.b)).setCell ⟨g, 1, Option.none⟩ (.int .i64 x.n)).setCell ⟨g, 2, Option.none⟩ (.int .u64 x.u)) g x :=
  ⟨by simpa using hz, by simp [go_sem, c0], by simp [go_sem, c1], by simp [go_sem, c2], by simp [go_sem, f0], by simp [go_sem, f1], by simp [go_sem, f2]⟩

set_option maxRecDepth 100000 in
set_option maxHeartbeats 6400000 in
theorem untypedFull_0yes (b kd : Int) (r m d : Nat) (hr : bits .and .i64 b 65535 = (r : Int)) (hr7 : 4 + (r : Int) % 7 = (m : Int)) (hr0 : r ≤ 65535) (hkd : bits .and .i64 kd 3 = 0) (hm : m ≤ 10) (hd : (m : Int) - 2 = (d : Int)) (hd8 : d ≤ 8) (S1 : Hid (∀ w : World, Calls Try.prog 12 #[.int .i64 4, .int .i64 0] w fun e w' => e = .returned (.tuple #[.int .i64 2, .int .i64 0]) ∧ Below w.heap.size w w')) (PY : Hid (∀ j : Nat, j < pw d → ∀ w : World, Calls Try.prog 10 #[(.agg #[.int .u64 0, .int .i64 (m : Int), .int .u64 ((j * pw 2 : Nat) : Int)]), .int .i64 4, .int .i64 0, .int .i64 1] w fun e w' => ∃ v, e = .returned (.tuple #[v, (.agg #[.int .u64 0, .int .i64 (m : Int), .int .u64 (((j + 1) * pw 2 : Nat) : Int)]), .int .i64 0]) ∧ SlIs w' v [j * pw 2] ∧ Below w.heap.size w w')) (PN : Hid (∀ w : World, Calls Try.prog 10 #[(.agg #[.int .u64 0, .int .i64 (m : Int), .int .u64 ((pw d * pw 2 : Nat) : Int)]), .int .i64 4, .int .i64 0, .int .i64 1] w fun e w' => ∃ v, e = .returned (.tuple #[v, (.agg #[.int .u64 0, .int .i64 0, .int .u64 0]), .int .i64 81]) ∧ SlIs w' v [] ∧ Below w.heap.size w w')) (W : World) :
    Calls Try.prog 8 #[.int .i64 b, .int .i64 kd] W fun e w' => e = .returned (.bool true) ∧ Below W.heap.size W w' := by
  have hpd : pw d ≤ 256 := Nat.pow_le_pow_right (by decide) hd8
  have hs7 : (2 : Int) ≤ (m : Int) := by omega
  go_enter Try.func8, Try.ntmps8
  go_wp2_with fail
  refine (S1.out _).mono ?_
  rintro e w1 ⟨rfl, hb⟩
  have HB1 : Hid (Below W.heap.size W w1) := Lib.hid (below_then (by repeat (first | exact Below.refl _ _ | apply below_new | refine below_draws ?_ _)) hb)
  clear hb
  have HPD := Lib.hid (show pw d ≤ 256 by omega)
  go_wp2_with fail
  go_loopw [10, 11] (fun c i wr => ∃ j q : Nat, j ≤ pw d ∧ Hid (q = j * pw 2) ∧ c = .int .i64 j ∧ i = .int .i64 j ∧ Hid (Ub wr w1.heap.size ⟨0, (m : Int), q⟩) ∧ Hid (Below W.heap.size W wr)) (fun _ i _ => 300 - (intOf i).toNat)
  case atStart => exact ⟨0, 0, Nat.zero_le _, Lib.hid (by simp), rfl, rfl, Lib.hid (Ub.new w1 ⟨0, (m : Int), 0⟩), Lib.hid (below_new HB1.out _)⟩
  case round =>
    obtain ⟨j, q, hj, hq, rfl, rfl, hU, hBW⟩ := hrel
    have hj3 : j < 300 := by have := HPD.out; omega
    have hj3' : (j : Int) < 300 := by omega
    obtain ⟨zU, c0, c1, c2, f0, f1, f2⟩ := hU.out
    by_cases hlt : j < pw d
    · obtain ⟨q', hq'⟩ : ∃ q' : Nat, Hid (q' = (j + 1) * pw 2) := ⟨_, Lib.hid rfl⟩
      have PJ : Hid (∀ w : World, Calls Try.prog 10 #[(.agg #[.int .u64 0, .int .i64 (m : Int), .int .u64 (q : Int)]), .int .i64 4, .int .i64 0, .int .i64 1] w fun e w' => ∃ v, e = .returned (.tuple #[v, (.agg #[.int .u64 0, .int .i64 (m : Int), .int .u64 (q' : Int)]), .int .i64 0]) ∧ SlIs w' v [q] ∧ Below w.heap.size w w') := Lib.hid (by
        have h := PY.out j hlt
        rw [← hq.out, ← hq'.out] at h
        exact h)
      go_wp2_with fail
      refine (PJ.out _).mono ?_
      rintro e w2 ⟨v, rfl, _, hb⟩
      have HB2 : Hid (Below W.heap.size W w2) := Lib.hid (below_then (by repeat (first | exact hBW.out | apply below_new | refine below_draws ?_ _)) hb)
      have HU2 : Hid (Ub w2 w1.heap.size ⟨0, (m : Int), q⟩) := Lib.hid (hU.out.keep hb)
      clear hb c0 c1 c2 f0 f1 f2 zU
      obtain ⟨zU, c0, c1, c2, f0, f1, f2⟩ := HU2.out
      have hne : ¬ w1.heap.size = w2.heap.size := by omega
      have hgW : Hid (W.heap.size ≤ w1.heap.size) := Lib.hid HB1.out.size
      go_wp2_with fail
      go_roundw
      case rel => exact ⟨j + 1, q', by omega, hq', by go_num, by go_num, Lib.hid (Ub.alloc (Ub.stored (x := ⟨0, (m : Int), q'⟩) zU c0 c1 c2 f0 f1 f2)), Lib.hid (below_new (below_put (below_put (below_put HB2.out _ _ hgW.out) _ _ hgW.out) _ _ hgW.out) _)⟩
      case measure => simp [intOf]; omega
    · have hje : j = pw d := by omega
      subst hje
      have PN' : Hid (∀ w : World, Calls Try.prog 10 #[(.agg #[.int .u64 0, .int .i64 (m : Int), .int .u64 (q : Int)]), .int .i64 4, .int .i64 0, .int .i64 1] w fun e w' => ∃ v, e = .returned (.tuple #[v, (.agg #[.int .u64 0, .int .i64 0, .int .u64 0]), .int .i64 81]) ∧ SlIs w' v [] ∧ Below w.heap.size w w') := Lib.hid (by
        have h := PN.out
        rw [← hq.out] at h
        exact h)
      go_wp2_with fail
      refine (PN'.out _).mono ?_
      rintro e w2 ⟨v, rfl, _, hb⟩
      have HB2 : Hid (Below W.heap.size W w2) := Lib.hid (below_then (by repeat (first | exact hBW.out | apply below_new | refine below_draws ?_ _)) hb)
      clear hb c0 c1 c2 f0 f1 f2
      go_wp2_with fail
      refine (two_any d (by omega) _).mono ?_
      rintro e w2 ⟨rfl, rfl⟩
      go_wp2_with fail
      refine (fixed_true _).mono ?_
      rintro e w4 ⟨rfl, hb⟩
      have HB4 : Hid (Below W.heap.size W w4) := Lib.hid (below_then (by repeat (first | exact HB2.out | apply below_new | refine below_draws ?_ _)) hb)
      clear hb
      go_wp2_with fail
      go_ret
      exact ⟨rfl, HB4.out⟩

set_option maxRecDepth 100000 in
set_option maxHeartbeats 6400000 in
theorem untypedFull_1yes (b kd : Int) (r m d : Nat) (hr : bits .and .i64 b 65535 = (r : Int)) (hr7 : 4 + (r : Int) % 7 = (m : Int)) (hr0 : r ≤ 65535) (hkd : bits .and .i64 kd 3 = 1) (hm : m ≤ 10) (hd : (m : Int) - 2 = (d : Int)) (hd8 : d ≤ 8) (S1 : Hid (∀ w : World, Calls Try.prog 12 #[.int .i64 5, .int .i64 0] w fun e w' => e = .returned (.tuple #[.int .i64 2, .int .i64 0]) ∧ Below w.heap.size w w')) (PY : Hid (∀ j : Nat, j < pw d → ∀ w : World, Calls Try.prog 10 #[(.agg #[.int .u64 0, .int .i64 (m : Int), .int .u64 ((j * pw 2 : Nat) : Int)]), .int .i64 5, .int .i64 0, .int .i64 1] w fun e w' => ∃ v, e = .returned (.tuple #[v, (.agg #[.int .u64 0, .int .i64 (m : Int), .int .u64 (((j + 1) * pw 2 : Nat) : Int)]), .int .i64 0]) ∧ SlIs w' v [j * pw 2] ∧ Below w.heap.size w w')) (PN : Hid (∀ w : World, Calls Try.prog 10 #[(.agg #[.int .u64 0, .int .i64 (m : Int), .int .u64 ((pw d * pw 2 : Nat) : Int)]), .int .i64 5, .int .i64 0, .int .i64 1] w fun e w' => ∃ v, e = .returned (.tuple #[v, (.agg #[.int .u64 0, .int .i64 0, .int .u64 0]), .int .i64 81]) ∧ SlIs w' v [] ∧ Below w.heap.size w w')) (W : World) :
    Calls Try.prog 8 #[.int .i64 b, .int .i64 kd] W fun e w' => e = .returned (.bool true) ∧ Below W.heap.size W w' := by
  have hpd : pw d ≤ 256 := Nat.pow_le_pow_right (by decide) hd8
  have hs7 : (2 : Int) ≤ (m : Int) := by omega
  go_enter Try.func8, Try.ntmps8
  go_wp2_with fail
  refine (S1.out _).mono ?_
  rintro e w1 ⟨rfl, hb⟩
  have HB1 : Hid (Below W.heap.size W w1) := Lib.hid (below_then (by repeat (first | exact Below.refl _ _ | apply below_new | refine below_draws ?_ _)) hb)
  clear hb
  have HPD := Lib.hid (show pw d ≤ 256 by omega)
  go_wp2_with fail
  go_loopw [10, 11] (fun c i wr => ∃ j q : Nat, j ≤ pw d ∧ Hid (q = j * pw 2) ∧ c = .int .i64 j ∧ i = .int .i64 j ∧ Hid (Ub wr w1.heap.size ⟨0, (m : Int), q⟩) ∧ Hid (Below W.heap.size W wr)) (fun _ i _ => 300 - (intOf i).toNat)
  case atStart => exact ⟨0, 0, Nat.zero_le _, Lib.hid (by simp), rfl, rfl, Lib.hid (Ub.new w1 ⟨0, (m : Int), 0⟩), Lib.hid (below_new HB1.out _)⟩
  case round =>
    obtain ⟨j, q, hj, hq, rfl, rfl, hU, hBW⟩ := hrel
    have hj3 : j < 300 := by have := HPD.out; omega
    have hj3' : (j : Int) < 300 := by omega
    obtain ⟨zU, c0, c1, c2, f0, f1, f2⟩ := hU.out
    by_cases hlt : j < pw d
    · obtain ⟨q', hq'⟩ : ∃ q' : Nat, Hid (q' = (j + 1) * pw 2) := ⟨_, Lib.hid rfl⟩
      have PJ : Hid (∀ w : World, Calls Try.prog 10 #[(.agg #[.int .u64 0, .int .i64 (m : Int), .int .u64 (q : Int)]), .int .i64 5, .int .i64 0, .int .i64 1] w fun e w' => ∃ v, e = .returned (.tuple #[v, (.agg #[.int .u64 0, .int .i64 (m : Int), .int .u64 (q' : Int)]), .int .i64 0]) ∧ SlIs w' v [q] ∧ Below w.heap.size w w') := Lib.hid (by
        have h := PY.out j hlt
        rw [← hq.out, ← hq'.out] at h
        exact h)
      go_wp2_with fail
      refine (PJ.out _).mono ?_
      rintro e w2 ⟨v, rfl, _, hb⟩
      have HB2 : Hid (Below W.heap.size W w2) := Lib.hid (below_then (by repeat (first | exact hBW.out | apply below_new | refine below_draws ?_ _)) hb)
      have HU2 : Hid (Ub w2 w1.heap.size ⟨0, (m : Int), q⟩) := Lib.hid (hU.out.keep hb)
      clear hb c0 c1 c2 f0 f1 f2 zU
      obtain ⟨zU, c0, c1, c2, f0, f1, f2⟩ := HU2.out
      have hne : ¬ w1.heap.size = w2.heap.size := by omega
      have hgW : Hid (W.heap.size ≤ w1.heap.size) := Lib.hid HB1.out.size
      go_wp2_with fail
      go_roundw
      case rel => exact ⟨j + 1, q', by omega, hq', by go_num, by go_num, Lib.hid (Ub.alloc (Ub.stored (x := ⟨0, (m : Int), q'⟩) zU c0 c1 c2 f0 f1 f2)), Lib.hid (below_new (below_put (below_put (below_put HB2.out _ _ hgW.out) _ _ hgW.out) _ _ hgW.out) _)⟩
      case measure => simp [intOf]; omega
    · have hje : j = pw d := by omega
      subst hje
      have PN' : Hid (∀ w : World, Calls Try.prog 10 #[(.agg #[.int .u64 0, .int .i64 (m : Int), .int .u64 (q : Int)]), .int .i64 5, .int .i64 0, .int .i64 1] w fun e w' => ∃ v, e = .returned (.tuple #[v, (.agg #[.int .u64 0, .int .i64 0, .int .u64 0]), .int .i64 81]) ∧ SlIs w' v [] ∧ Below w.heap.size w w') := Lib.hid (by
        have h := PN.out
        rw [← hq.out] at h
        exact h)
      go_wp2_with fail
      refine (PN'.out _).mono ?_
      rintro e w2 ⟨v, rfl, _, hb⟩
      have HB2 : Hid (Below W.heap.size W w2) := Lib.hid (below_then (by repeat (first | exact hBW.out | apply below_new | refine below_draws ?_ _)) hb)
      clear hb c0 c1 c2 f0 f1 f2
      go_wp2_with fail
      refine (two_any d (by omega) _).mono ?_
      rintro e w2 ⟨rfl, rfl⟩
      go_wp2_with fail
      refine (fixed_true _).mono ?_
      rintro e w4 ⟨rfl, hb⟩
      have HB4 : Hid (Below W.heap.size W w4) := Lib.hid (below_then (by repeat (first | exact HB2.out | apply below_new | refine below_draws ?_ _)) hb)
      clear hb
      go_wp2_with fail
      go_ret
      exact ⟨rfl, HB4.out⟩

set_option maxRecDepth 100000 in
set_option maxHeartbeats 6400000 in
theorem untypedFull_2yes (b kd : Int) (r m d : Nat) (hr : bits .and .i64 b 65535 = (r : Int)) (hr7 : 4 + (r : Int) % 7 = (m : Int)) (hr0 : r ≤ 65535) (hkd : bits .and .i64 kd 3 = 2) (hm : m ≤ 10) (hd : (m : Int) - 5 = (d : Int)) (hd8 : d ≤ 8) (S1 : Hid (∀ w : World, Calls Try.prog 12 #[.int .i64 3, .int .i64 0] w fun e w' => e = .returned (.tuple #[.int .i64 5, .int .i64 0]) ∧ Below w.heap.size w w')) (PY : Hid (∀ j : Nat, j < pw d → ∀ w : World, Calls Try.prog 10 #[(.agg #[.int .u64 0, .int .i64 (m : Int), .int .u64 ((j * pw 5 : Nat) : Int)]), .int .i64 3, .int .i64 0, .int .i64 1] w fun e w' => ∃ v, e = .returned (.tuple #[v, (.agg #[.int .u64 0, .int .i64 (m : Int), .int .u64 (((j + 1) * pw 5 : Nat) : Int)]), .int .i64 0]) ∧ SlIs w' v [j * pw 5] ∧ Below w.heap.size w w')) (PN : Hid (∀ w : World, Calls Try.prog 10 #[(.agg #[.int .u64 0, .int .i64 (m : Int), .int .u64 ((pw d * pw 5 : Nat) : Int)]), .int .i64 3, .int .i64 0, .int .i64 1] w fun e w' => ∃ v, e = .returned (.tuple #[v, (.agg #[.int .u64 0, .int .i64 0, .int .u64 0]), .int .i64 81]) ∧ SlIs w' v [] ∧ Below w.heap.size w w')) (W : World) :
    Calls Try.prog 8 #[.int .i64 b, .int .i64 kd] W fun e w' => e = .returned (.bool true) ∧ Below W.heap.size W w' := by
  have hpd : pw d ≤ 256 := Nat.pow_le_pow_right (by decide) hd8
  have hs7 : (5 : Int) ≤ (m : Int) := by omega
  go_enter Try.func8, Try.ntmps8
  go_wp2_with fail
  refine (S1.out _).mono ?_
  rintro e w1 ⟨rfl, hb⟩
  have HB1 : Hid (Below W.heap.size W w1) := Lib.hid (below_then (by repeat (first | exact Below.refl _ _ | apply below_new | refine below_draws ?_ _)) hb)
  clear hb
  have HPD := Lib.hid (show pw d ≤ 256 by omega)
  go_wp2_with fail
  go_loopw [10, 11] (fun c i wr => ∃ j q : Nat, j ≤ pw d ∧ Hid (q = j * pw 5) ∧ c = .int .i64 j ∧ i = .int .i64 j ∧ Hid (Ub wr w1.heap.size ⟨0, (m : Int), q⟩) ∧ Hid (Below W.heap.size W wr)) (fun _ i _ => 300 - (intOf i).toNat)
  case atStart => exact ⟨0, 0, Nat.zero_le _, Lib.hid (by simp), rfl, rfl, Lib.hid (Ub.new w1 ⟨0, (m : Int), 0⟩), Lib.hid (below_new HB1.out _)⟩
  case round =>
    obtain ⟨j, q, hj, hq, rfl, rfl, hU, hBW⟩ := hrel
    have hj3 : j < 300 := by have := HPD.out; omega
    have hj3' : (j : Int) < 300 := by omega
    obtain ⟨zU, c0, c1, c2, f0, f1, f2⟩ := hU.out
    by_cases hlt : j < pw d
    · obtain ⟨q', hq'⟩ : ∃ q' : Nat, Hid (q' = (j + 1) * pw 5) := ⟨_, Lib.hid rfl⟩
      have PJ : Hid (∀ w : World, Calls Try.prog 10 #[(.agg #[.int .u64 0, .int .i64 (m : Int), .int .u64 (q : Int)]), .int .i64 3, .int .i64 0, .int .i64 1] w fun e w' => ∃ v, e = .returned (.tuple #[v, (.agg #[.int .u64 0, .int .i64 (m : Int), .int .u64 (q' : Int)]), .int .i64 0]) ∧ SlIs w' v [q] ∧ Below w.heap.size w w') := Lib.hid (by
        have h := PY.out j hlt
        rw [← hq.out, ← hq'.out] at h
        exact h)
      go_wp2_with fail
      refine (PJ.out _).mono ?_
      rintro e w2 ⟨v, rfl, _, hb⟩
      have HB2 : Hid (Below W.heap.size W w2) := Lib.hid (below_then (by repeat (first | exact hBW.out | apply below_new | refine below_draws ?_ _)) hb)
      have HU2 : Hid (Ub w2 w1.heap.size ⟨0, (m : Int), q⟩) := Lib.hid (hU.out.keep hb)
      clear hb c0 c1 c2 f0 f1 f2 zU
      obtain ⟨zU, c0, c1, c2, f0, f1, f2⟩ := HU2.out
      have hne : ¬ w1.heap.size = w2.heap.size := by omega
      have hgW : Hid (W.heap.size ≤ w1.heap.size) := Lib.hid HB1.out.size
      go_wp2_with fail
      go_roundw
      case rel => exact ⟨j + 1, q', by omega, hq', by go_num, by go_num, Lib.hid (Ub.alloc (Ub.stored (x := ⟨0, (m : Int), q'⟩) zU c0 c1 c2 f0 f1 f2)), Lib.hid (below_new (below_put (below_put (below_put HB2.out _ _ hgW.out) _ _ hgW.out) _ _ hgW.out) _)⟩
      case measure => simp [intOf]; omega
    · have hje : j = pw d := by omega
      subst hje
      have PN' : Hid (∀ w : World, Calls Try.prog 10 #[(.agg #[.int .u64 0, .int .i64 (m : Int), .int .u64 (q : Int)]), .int .i64 3, .int .i64 0, .int .i64 1] w fun e w' => ∃ v, e = .returned (.tuple #[v, (.agg #[.int .u64 0, .int .i64 0, .int .u64 0]), .int .i64 81]) ∧ SlIs w' v [] ∧ Below w.heap.size w w') := Lib.hid (by
        have h := PN.out
        rw [← hq.out] at h
        exact h)
      go_wp2_with fail
      refine (PN'.out _).mono ?_
      rintro e w2 ⟨v, rfl, _, hb⟩
      have HB2 : Hid (Below W.heap.size W w2) := Lib.hid (below_then (by repeat (first | exact hBW.out | apply below_new | refine below_draws ?_ _)) hb)
      clear hb c0 c1 c2 f0 f1 f2
      go_wp2_with fail
      refine (two_any d (by omega) _).mono ?_
      rintro e w2 ⟨rfl, rfl⟩
      go_wp2_with fail
      refine (fixed_true _).mono ?_
      rintro e w4 ⟨rfl, hb⟩
      have HB4 : Hid (Below W.heap.size W w4) := Lib.hid (below_then (by repeat (first | exact HB2.out | apply below_new | refine below_draws ?_ _)) hb)
      clear hb
      go_wp2_with fail
      go_ret
      exact ⟨rfl, HB4.out⟩

set_option maxRecDepth 100000 in
set_option maxHeartbeats 6400000 in
theorem untypedFull_2no (b kd : Int) (r m : Nat) (hr : bits .and .i64 b 65535 = (r : Int)) (hr7 : 4 + (r : Int) % 7 = (m : Int)) (hr0 : r ≤ 65535) (hkd : bits .and .i64 kd 3 = 2) (hm : m ≤ 10) (hms : m < 5) (S1 : Hid (∀ w : World, Calls Try.prog 12 #[.int .i64 3, .int .i64 0] w fun e w' => e = .returned (.tuple #[.int .i64 5, .int .i64 0]) ∧ Below w.heap.size w w')) (PN : Hid (∀ w : World, Calls Try.prog 10 #[(.agg #[.int .u64 0, .int .i64 (m : Int), .int .u64 0]), .int .i64 3, .int .i64 0, .int .i64 1] w fun e w' => ∃ v, e = .returned (.tuple #[v, (.agg #[.int .u64 0, .int .i64 0, .int .u64 0]), .int .i64 81]) ∧ SlIs w' v [] ∧ Below w.heap.size w w')) (W : World) :
    Calls Try.prog 8 #[.int .i64 b, .int .i64 kd] W fun e w' => e = .returned (.bool true) ∧ Below W.heap.size W w' := by
  have hs7 : (m : Int) < 5 := by omega
  go_enter Try.func8, Try.ntmps8
  go_wp2_with fail
  refine (S1.out _).mono ?_
  rintro e w1 ⟨rfl, hb⟩
  have HB1 : Hid (Below W.heap.size W w1) := Lib.hid (below_then (by repeat (first | exact Below.refl _ _ | apply below_new | refine below_draws ?_ _)) hb)
  clear hb
  have HPD := Lib.hid (show 0 ≤ 256 by decide)
  go_wp2_with fail
  go_loopw [10, 11] (fun c i wr => ∃ j q : Nat, j ≤ 0 ∧ Hid (q = j * pw 5) ∧ c = .int .i64 j ∧ i = .int .i64 j ∧ Hid (Ub wr w1.heap.size ⟨0, (m : Int), q⟩) ∧ Hid (Below W.heap.size W wr)) (fun _ i _ => 300 - (intOf i).toNat)
  case atStart => exact ⟨0, 0, Nat.zero_le _, Lib.hid (by simp), rfl, rfl, Lib.hid (Ub.new w1 ⟨0, (m : Int), 0⟩), Lib.hid (below_new HB1.out _)⟩
  case round =>
    obtain ⟨j, q, hj, hq, rfl, rfl, hU, hBW⟩ := hrel
    have hj3 : j < 300 := by have := HPD.out; omega
    have hj3' : (j : Int) < 300 := by omega
    obtain ⟨zU, c0, c1, c2, f0, f1, f2⟩ := hU.out
    by_cases hlt : j < 0
    · omega
    · have hje : j = 0 := by omega
      subst hje
      have PN' : Hid (∀ w : World, Calls Try.prog 10 #[(.agg #[.int .u64 0, .int .i64 (m : Int), .int .u64 (q : Int)]), .int .i64 3, .int .i64 0, .int .i64 1] w fun e w' => ∃ v, e = .returned (.tuple #[v, (.agg #[.int .u64 0, .int .i64 0, .int .u64 0]), .int .i64 81]) ∧ SlIs w' v [] ∧ Below w.heap.size w w') := Lib.hid (by
        have h := PN.out
        rw [show q = 0 by have := hq.out; omega]
        exact h)
      go_wp2_with fail
      refine (PN'.out _).mono ?_
      rintro e w2 ⟨v, rfl, _, hb⟩
      have HB2 : Hid (Below W.heap.size W w2) := Lib.hid (below_then (by repeat (first | exact hBW.out | apply below_new | refine below_draws ?_ _)) hb)
      clear hb c0 c1 c2 f0 f1 f2
      go_wp2_with fail
      refine (fixed_true _).mono ?_
      rintro e w4 ⟨rfl, hb⟩
      have HB4 : Hid (Below W.heap.size W w4) := Lib.hid (below_then (by repeat (first | exact HB2.out | apply below_new | refine below_draws ?_ _)) hb)
      clear hb
      go_wp2_with fail
      go_ret
      exact ⟨rfl, HB4.out⟩

set_option maxRecDepth 100000 in
set_option maxHeartbeats 6400000 in
theorem untypedFull_3yes (b kd : Int) (r m d : Nat) (hr : bits .and .i64 b 65535 = (r : Int)) (hr7 : 4 + (r : Int) % 7 = (m : Int)) (hr0 : r ≤ 65535) (hkd : bits .and .i64 kd 3 = 3) (hm : m ≤ 10) (hd : (m : Int) - 6 = (d : Int)) (hd8 : d ≤ 8) (S1 : Hid (∀ w : World, Calls Try.prog 12 #[.int .i64 6, .int .i64 0] w fun e w' => e = .returned (.tuple #[.int .i64 6, .int .i64 0]) ∧ Below w.heap.size w w')) (PY : Hid (∀ j : Nat, j < pw d → ∀ w : World, Calls Try.prog 10 #[(.agg #[.int .u64 0, .int .i64 (m : Int), .int .u64 ((j * pw 6 : Nat) : Int)]), .int .i64 6, .int .i64 0, .int .i64 1] w fun e w' => ∃ v, e = .returned (.tuple #[v, (.agg #[.int .u64 0, .int .i64 (m : Int), .int .u64 (((j + 1) * pw 6 : Nat) : Int)]), .int .i64 0]) ∧ SlIs w' v [j * pw 6] ∧ Below w.heap.size w w')) (PN : Hid (∀ w : World, Calls Try.prog 10 #[(.agg #[.int .u64 0, .int .i64 (m : Int), .int .u64 ((pw d * pw 6 : Nat) : Int)]), .int .i64 6, .int .i64 0, .int .i64 1] w fun e w' => ∃ v, e = .returned (.tuple #[v, (.agg #[.int .u64 0, .int .i64 0, .int .u64 0]), .int .i64 81]) ∧ SlIs w' v [] ∧ Below w.heap.size w w')) (W : World) :
    Calls Try.prog 8 #[.int .i64 b, .int .i64 kd] W fun e w' => e = .returned (.bool true) ∧ Below W.heap.size W w' := by
  have hpd : pw d ≤ 256 := Nat.pow_le_pow_right (by decide) hd8
  have hs7 : (6 : Int) ≤ (m : Int) := by omega
  go_enter Try.func8, Try.ntmps8
  go_wp2_with fail
  refine (S1.out _).mono ?_
  rintro e w1 ⟨rfl, hb⟩
  have HB1 : Hid (Below W.heap.size W w1) := Lib.hid (below_then (by repeat (first | exact Below.refl _ _ | apply below_new | refine below_draws ?_ _)) hb)
  clear hb
  have HPD := Lib.hid (show pw d ≤ 256 by omega)
  go_wp2_with fail
  go_loopw [10, 11] (fun c i wr => ∃ j q : Nat, j ≤ pw d ∧ Hid (q = j * pw 6) ∧ c = .int .i64 j ∧ i = .int .i64 j ∧ Hid (Ub wr w1.heap.size ⟨0, (m : Int), q⟩) ∧ Hid (Below W.heap.size W wr)) (fun _ i _ => 300 - (intOf i).toNat)
  case atStart => exact ⟨0, 0, Nat.zero_le _, Lib.hid (by simp), rfl, rfl, Lib.hid (Ub.new w1 ⟨0, (m : Int), 0⟩), Lib.hid (below_new HB1.out _)⟩
  case round =>
    obtain ⟨j, q, hj, hq, rfl, rfl, hU, hBW⟩ := hrel
    have hj3 : j < 300 := by have := HPD.out; omega
    have hj3' : (j : Int) < 300 := by omega
    obtain ⟨zU, c0, c1, c2, f0, f1, f2⟩ := hU.out
    by_cases hlt : j < pw d
    · obtain ⟨q', hq'⟩ : ∃ q' : Nat, Hid (q' = (j + 1) * pw 6) := ⟨_, Lib.hid rfl⟩
      have PJ : Hid (∀ w : World, Calls Try.prog 10 #[(.agg #[.int .u64 0, .int .i64 (m : Int), .int .u64 (q : Int)]), .int .i64 6, .int .i64 0, .int .i64 1] w fun e w' => ∃ v, e = .returned (.tuple #[v, (.agg #[.int .u64 0, .int .i64 (m : Int), .int .u64 (q' : Int)]), .int .i64 0]) ∧ SlIs w' v [q] ∧ Below w.heap.size w w') := Lib.hid (by
        have h := PY.out j hlt
        rw [← hq.out, ← hq'.out] at h
        exact h)
      go_wp2_with fail
      refine (PJ.out _).mono ?_
      rintro e w2 ⟨v, rfl, _, hb⟩
      have HB2 : Hid (Below W.heap.size W w2) := Lib.hid (below_then (by repeat (first | exact hBW.out | apply below_new | refine below_draws ?_ _)) hb)
      have HU2 : Hid (Ub w2 w1.heap.size ⟨0, (m : Int), q⟩) := Lib.hid (hU.out.keep hb)
      clear hb c0 c1 c2 f0 f1 f2 zU
      obtain ⟨zU, c0, c1, c2, f0, f1, f2⟩ := HU2.out
      have hne : ¬ w1.heap.size = w2.heap.size := by omega
      have hgW : Hid (W.heap.size ≤ w1.heap.size) := Lib.hid HB1.out.size
      go_wp2_with fail
      go_roundw
      case rel => exact ⟨j + 1, q', by omega, hq', by go_num, by go_num, Lib.hid (Ub.alloc (Ub.stored (x := ⟨0, (m : Int), q'⟩) zU c0 c1 c2 f0 f1 f2)), Lib.hid (below_new (below_put (below_put (below_put HB2.out _ _ hgW.out) _ _ hgW.out) _ _ hgW.out) _)⟩
      case measure => simp [intOf]; omega
    · have hje : j = pw d := by omega
      subst hje
      have PN' : Hid (∀ w : World, Calls Try.prog 10 #[(.agg #[.int .u64 0, .int .i64 (m : Int), .int .u64 (q : Int)]), .int .i64 6, .int .i64 0, .int .i64 1] w fun e w' => ∃ v, e = .returned (.tuple #[v, (.agg #[.int .u64 0, .int .i64 0, .int .u64 0]), .int .i64 81]) ∧ SlIs w' v [] ∧ Below w.heap.size w w') := Lib.hid (by
        have h := PN.out
        rw [← hq.out] at h
        exact h)
      go_wp2_with fail
      refine (PN'.out _).mono ?_
      rintro e w2 ⟨v, rfl, _, hb⟩
      have HB2 : Hid (Below W.heap.size W w2) := Lib.hid (below_then (by repeat (first | exact hBW.out | apply below_new | refine below_draws ?_ _)) hb)
      clear hb c0 c1 c2 f0 f1 f2
      go_wp2_with fail
      refine (two_any d (by omega) _).mono ?_
      rintro e w2 ⟨rfl, rfl⟩
      go_wp2_with fail
      refine (fixed_true _).mono ?_
      rintro e w4 ⟨rfl, hb⟩
      have HB4 : Hid (Below W.heap.size W w4) := Lib.hid (below_then (by repeat (first | exact HB2.out | apply below_new | refine below_draws ?_ _)) hb)
      clear hb
      go_wp2_with fail
      go_ret
      exact ⟨rfl, HB4.out⟩

set_option maxRecDepth 100000 in
set_option maxHeartbeats 6400000 in
theorem untypedFull_3no (b kd : Int) (r m : Nat) (hr : bits .and .i64 b 65535 = (r : Int)) (hr7 : 4 + (r : Int) % 7 = (m : Int)) (hr0 : r ≤ 65535) (hkd : bits .and .i64 kd 3 = 3) (hm : m ≤ 10) (hms : m < 6) (S1 : Hid (∀ w : World, Calls Try.prog 12 #[.int .i64 6, .int .i64 0] w fun e w' => e = .returned (.tuple #[.int .i64 6, .int .i64 0]) ∧ Below w.heap.size w w')) (PN : Hid (∀ w : World, Calls Try.prog 10 #[(.agg #[.int .u64 0, .int .i64 (m : Int), .int .u64 0]), .int .i64 6, .int .i64 0, .int .i64 1] w fun e w' => ∃ v, e = .returned (.tuple #[v, (.agg #[.int .u64 0, .int .i64 0, .int .u64 0]), .int .i64 81]) ∧ SlIs w' v [] ∧ Below w.heap.size w w')) (W : World) :
    Calls Try.prog 8 #[.int .i64 b, .int .i64 kd] W fun e w' => e = .returned (.bool true) ∧ Below W.heap.size W w' := by
  have hs7 : (m : Int) < 6 := by omega
  go_enter Try.func8, Try.ntmps8
  go_wp2_with fail
  refine (S1.out _).mono ?_
  rintro e w1 ⟨rfl, hb⟩
  have HB1 : Hid (Below W.heap.size W w1) := Lib.hid (below_then (by repeat (first | exact Below.refl _ _ | apply below_new | refine below_draws ?_ _)) hb)
  clear hb
  have HPD := Lib.hid (show 0 ≤ 256 by decide)
  go_wp2_with fail
  go_loopw [10, 11] (fun c i wr => ∃ j q : Nat, j ≤ 0 ∧ Hid (q = j * pw 6) ∧ c = .int .i64 j ∧ i = .int .i64 j ∧ Hid (Ub wr w1.heap.size ⟨0, (m : Int), q⟩) ∧ Hid (Below W.heap.size W wr)) (fun _ i _ => 300 - (intOf i).toNat)
  case atStart => exact ⟨0, 0, Nat.zero_le _, Lib.hid (by simp), rfl, rfl, Lib.hid (Ub.new w1 ⟨0, (m : Int), 0⟩), Lib.hid (below_new HB1.out _)⟩
  case round =>
    obtain ⟨j, q, hj, hq, rfl, rfl, hU, hBW⟩ := hrel
    have hj3 : j < 300 := by have := HPD.out; omega
    have hj3' : (j : Int) < 300 := by omega
    obtain ⟨zU, c0, c1, c2, f0, f1, f2⟩ := hU.out
    by_cases hlt : j < 0
    · omega
    · have hje : j = 0 := by omega
      subst hje
      have PN' : Hid (∀ w : World, Calls Try.prog 10 #[(.agg #[.int .u64 0, .int .i64 (m : Int), .int .u64 (q : Int)]), .int .i64 6, .int .i64 0, .int .i64 1] w fun e w' => ∃ v, e = .returned (.tuple #[v, (.agg #[.int .u64 0, .int .i64 0, .int .u64 0]), .int .i64 81]) ∧ SlIs w' v [] ∧ Below w.heap.size w w') := Lib.hid (by
        have h := PN.out
        rw [show q = 0 by have := hq.out; omega]
        exact h)
      go_wp2_with fail
      refine (PN'.out _).mono ?_
      rintro e w2 ⟨v, rfl, _, hb⟩
      have HB2 : Hid (Below W.heap.size W w2) := Lib.hid (below_then (by repeat (first | exact hBW.out | apply below_new | refine below_draws ?_ _)) hb)
      clear hb c0 c1 c2 f0 f1 f2
      go_wp2_with fail
      refine (fixed_true _).mono ?_
      rintro e w4 ⟨rfl, hb⟩
      have HB4 : Hid (Below W.heap.size W w4) := Lib.hid (below_then (by repeat (first | exact HB2.out | apply below_new | refine below_draws ?_ _)) hb)
      clear hb
      go_wp2_with fail
      go_ret
      exact ⟨rfl, HB4.out⟩

theorem and3 (c : Int) : ∃ m : Nat, m ≤ 3 ∧ bits .and .i64 c 3 = (m : Int) :=
  ⟨_, by have := Nat.mod_lt (BitVec.ofInt 64 c).toNat (Nat.two_pow_pos 2); omega, bits_i64_mask c 2 (by decide)⟩
theorem full_place (m j s : Nat) (k : Int) (hm : m ≤ 10) (hs1 : sizeU k 0 = ((s : Int), 0)) (hs : s ≤ 20) (hj : j * pw s ≤ pw m) :
    placeU ⟨0, (m : Int), j * pw s⟩ k 0 1 = if pw m < (j + 1) * pw s then ([], Ud.none, 81) else ([j * pw s], ⟨0, (m : Int), (j + 1) * pw s⟩, 0) := by
  have ok : Ut.Ok ⟨0, (m : Int), j * pw s⟩ := ⟨by show (0 : Int) ≤ (m : Int); omega, by show (m : Int) ≤ 20; omega, by show (0 : Nat) ≤ 2 ^ 40; decide, Nat.zero_mod _, by show j * pw s ≤ pw ((m : Int)).toNat; rw [Int.toNat_natCast]; exact hj⟩
  have e : atU ⟨0, (m : Int), j * pw s⟩ s = j * pw s := by
    unfold atU
    rw [upTo_yes (by rw [Nat.zero_add]; exact Nat.mul_mod_left _ _), Nat.zero_add]
  have e2 : (j + 1) * pw s = j * pw s + pw s := by rw [Nat.add_mul, Nat.one_mul]
  unfold placeU
  rw [if_neg (by simpa using ok), hs1]
  simp only [Int.toNat_natCast, e, ne_eq, not_true_eq_false, if_false]
  rw [if_neg (by omega), e2]
  simp [lst]
theorem untypedFull_walk (b kd : Int) (W : World) :
    Calls Try.prog 8 #[.int .i64 b, .int .i64 kd] W fun e w' => e = .returned (.bool true) ∧ Below W.heap.size W w' := by
  obtain ⟨r, hr0, hr⟩ := and65535 b
  obtain ⟨q, hq3, hq⟩ := and3 kd
  obtain ⟨m, hm7⟩ : ∃ m : Nat, 4 + (r : Int) % 7 = (m : Int) := ⟨4 + r % 7, by simp⟩
  have hm : m ≤ 10 := by omega
  have hm4 : 4 ≤ m := by omega
  have key : ∀ (k : Int) (s : Nat), sizeU k 0 = ((s : Int), 0) → 2 ≤ s → s ≤ 6 →
      Hid (∀ w : World, Calls Try.prog 12 #[.int .i64 k, .int .i64 0] w fun e w' => e = .returned (.tuple #[.int .i64 (s : Int), .int .i64 0]) ∧ Below w.heap.size w w') ∧
      (∀ d : Nat, m = d + s → Hid (∀ j : Nat, j < pw d → ∀ w : World, Calls Try.prog 10 #[(.agg #[.int .u64 0, .int .i64 (m : Int), .int .u64 ((j * pw s : Nat) : Int)]), .int .i64 k, .int .i64 0, .int .i64 1] w fun e w' => ∃ v, e = .returned (.tuple #[v, (.agg #[.int .u64 0, .int .i64 (m : Int), .int .u64 (((j + 1) * pw s : Nat) : Int)]), .int .i64 0]) ∧ SlIs w' v [j * pw s] ∧ Below w.heap.size w w') ∧ Hid (∀ w : World, Calls Try.prog 10 #[(.agg #[.int .u64 0, .int .i64 (m : Int), .int .u64 ((pw d * pw s : Nat) : Int)]), .int .i64 k, .int .i64 0, .int .i64 1] w fun e w' => ∃ v, e = .returned (.tuple #[v, (.agg #[.int .u64 0, .int .i64 0, .int .u64 0]), .int .i64 81]) ∧ SlIs w' v [] ∧ Below w.heap.size w w')) ∧
      (m < s → Hid (∀ w : World, Calls Try.prog 10 #[(.agg #[.int .u64 0, .int .i64 (m : Int), .int .u64 0]), .int .i64 k, .int .i64 0, .int .i64 1] w fun e w' => ∃ v, e = .returned (.tuple #[v, (.agg #[.int .u64 0, .int .i64 0, .int .u64 0]), .int .i64 81]) ∧ SlIs w' v [] ∧ Below w.heap.size w w')) := by
    intro k s hs1 hs2 hs6
    have pm : pw m ≤ 1024 := Nat.pow_le_pow_right (by decide) hm
    have ps : 0 < pw s := Nat.two_pow_pos s
    have e64 : (2 : Nat) ^ 64 = 18446744073709551616 := by decide
    refine ⟨Lib.hid fun w => ?_, fun d hd => ⟨Lib.hid fun j hj w => ?_, Lib.hid fun w => ?_⟩, fun hms => Lib.hid fun w => ?_⟩
    · have h := size_any k 0 w
      rw [hs1] at h
      exact h
    · have e : pw m = pw d * pw s := by rw [hd]; exact Nat.pow_add 2 d s
      have h1 : (j + 1) * pw s ≤ pw m := by rw [e]; exact Nat.mul_le_mul_right _ hj
      have e2 : (j + 1) * pw s = j * pw s + pw s := by rw [Nat.add_mul, Nat.one_mul]
      have h := full_place m j s k hm hs1 (by omega) (by omega)
      rw [if_neg (by omega)] at h
      exact place_as ⟨0, m, j * pw s⟩ ⟨by show (0 : Nat) < 2 ^ 64; decide⟩ ⟨by show j * pw s < 2 ^ 64; omega⟩ k 0 1 _ _ _ h w
    · have e : pw m = pw d * pw s := by rw [hd]; exact Nat.pow_add 2 d s
      have e2 : (pw d + 1) * pw s = pw d * pw s + pw s := by rw [Nat.add_mul, Nat.one_mul]
      have h := full_place m (pw d) s k hm hs1 (by omega) (by omega)
      rw [if_pos (by omega)] at h
      exact place_as ⟨0, m, pw d * pw s⟩ ⟨by show (0 : Nat) < 2 ^ 64; decide⟩ ⟨by show pw d * pw s < 2 ^ 64; omega⟩ k 0 1 _ _ _ h w
    · have h := full_place m 0 s k hm hs1 (by omega) (by omega)
      have hlt : pw m < pw s := Nat.pow_lt_pow_right (by decide) hms
      rw [if_pos (by omega), Nat.zero_mul] at h
      exact place_as ⟨0, m, 0⟩ ⟨by show (0 : Nat) < 2 ^ 64; decide⟩ ⟨by show (0 : Nat) < 2 ^ 64; decide⟩ k 0 1 _ _ _ h w
  have hq' : q = 0 ∨ q = 1 ∨ q = 2 ∨ q = 3 := by omega
  rcases hq' with rfl | rfl | rfl | rfl
  · obtain ⟨K1, K2, K3⟩ := key 4 2 rfl (by decide) (by decide)
    obtain ⟨KY, KN⟩ := K2 (m - 2) (by omega)
    exact untypedFull_0yes b kd r m (m - 2) hr hm7 hr0 hq hm (by omega) (by omega) K1 KY KN W
  · obtain ⟨K1, K2, K3⟩ := key 5 2 rfl (by decide) (by decide)
    obtain ⟨KY, KN⟩ := K2 (m - 2) (by omega)
    exact untypedFull_1yes b kd r m (m - 2) hr hm7 hr0 hq hm (by omega) (by omega) K1 KY KN W
  · obtain ⟨K1, K2, K3⟩ := key 3 5 rfl (by decide) (by decide)
    by_cases hms : m < 5
    · exact untypedFull_2no b kd r m hr hm7 hr0 hq hm hms K1 (K3 hms) W
    · obtain ⟨KY, KN⟩ := K2 (m - 5) (by omega)
      exact untypedFull_2yes b kd r m (m - 5) hr hm7 hr0 hq hm (by omega) (by omega) K1 KY KN W
  · obtain ⟨K1, K2, K3⟩ := key 6 6 rfl (by decide) (by decide)
    by_cases hms : m < 6
    · exact untypedFull_3no b kd r m hr hm7 hr0 hq hm hms K1 (K3 hms) W
    · obtain ⟨KY, KN⟩ := K2 (m - 6) (by omega)
      exact untypedFull_3yes b kd r m (m - 6) hr hm7 hr0 hq hm (by omega) (by omega) K1 KY KN W


set_option maxRecDepth 100000 in
theorem untypedFull_lifted (os : Os) (started : os.Started) (H : Type) (enc : TypeId × Value → H) :
    ReturnsInHanded {} Try.checked os 8 .any (Rows.untypedFullSpec.pre6 enc Try.prog Try.f8 Rows.untypedFullRow.domain false) (Rows.untypedFullSpec.post enc Try.prog Try.f8 false true false false) := by
  refine returnsInHanded_of_change (C := Try.checked) own_knob started (by kernel_rfl) Try.func8
    (ChangeSpec.witness6 (enc := enc) (C := Try.checked) false ⟨#[], #[.int .i64 0, .int .i64 0], []⟩ 8 (by kernel_rfl) (by kernel_rfl) (by kernel_rfl) (by kernel_rfl)) ?_
  intro W base args ds gs before hval0 hW hcnd _
  have hval : ∀ (j : Nat) t v, Try.f8.params[j]? = some t → args[j]? = some v → Value.okWide Try.prog W .any base t v := hval0
  have hW' := hW
  obtain ⟨p, q, hA0, hV, rfl, hfz, hnd⟩ := hW
  have hA : DataW.TrodAll enc Try.prog W 0 (fun _ => true) true Try.f8.params.toList args.toList ds p := hA0
  rw [Try.params8] at hA hval
  obtain ⟨v0, v1, d0, d1, p0, p1, rfl, rfl, rfl, h0, h1⟩ := trodAll_two hA
  obtain ⟨rfl, rfl⟩ := trodVars_none hV
  clear hA0 hval0
  simp only [List.append_nil] at hW'
  have hlt : ∀ x ∈ p0 ++ p1, x.block < W.heap.size := fun x hx => by simpa using hW'.lt x hx
  have g0 : ∀ W' : World, Below W.heap.size W W' → DataW.Trod enc Try.prog W' 0 (fun b => decide (b < W.heap.size)) true 3 v0 d0 p0 :=
    fun W' hn => Below.trod laid_out (by kernel_rfl) (of_decide_eq_true (by kernel_rfl)) h0 hn (fun x hx => hlt x (by simp [hx]))
  have g1 : ∀ W' : World, Below W.heap.size W W' → DataW.Trod enc Try.prog W' 0 (fun b => decide (b < W.heap.size)) true 3 v1 d1 p1 :=
    fun W' hn => Below.trod laid_out (by kernel_rfl) (of_decide_eq_true (by kernel_rfl)) h1 hn (fun x hx => hlt x (by simp [hx]))
  obtain ⟨b, rfl, _, _, w0⟩ := open_int Try.underlying3 (hval 0 3 v0 rfl rfl) h0
  have l0 := int_of_wf w0
  obtain ⟨kd, rfl, _, _, w1⟩ := open_int Try.underlying3 (hval 1 3 v1 rfl rfl) h1
  have l1 := int_of_wf w1
  refine (untypedFull_walk b kd W).mono fun e W' ⟨he, hn⟩ => ?_
  subst he
  exact ⟨_, rfl, _, _, _, [], p0 ++ p1, [], hW', trodAll_mk1 (shut_bool Try.underlying4 true), (trodAll_mk2 (g0 W' hn) (g1 W' hn)), rfl, hn.frame _, fun h => by cases h⟩

theorem untypedFull_holds : Rows.UntypedFullSaid :=
  OpenClaim.holds_of_wide 8 Try.f8 rfl rfl rfl rfl rfl rfl rfl ⟨rfl, rfl, rfl, rfl, rfl⟩ rfl rfl rfl rfl rfl (by kernel_rfl) Try.func8 (by kernel_rfl)
    (of_decide_eq_true (by kernel_rfl)) (by unfold Func.isWrapper; first | (rw [if_pos (by decide +kernel)]; kernel_rfl) | (rw [if_neg (by decide +kernel)]; exact ⟨rfl, rfl⟩))
    (fun os started H enc _ => untypedFull_lifted os started H enc)
#print axioms untypedFull_holds
end Go.Proofs.Ytbgcgbelejmjiaa
