/- What is placed stands behind all that was used, one behind the other, each at a multiple of its size, all within; what is left is right, and used up to the end of the last one: for every input, no condition. -/
import Derived.Test.YtbgcgbelejmjiaaUfixed
import Derived.Test.YtbgcgbelejmjiaaUframe
import Derived.Test.YtbgcgbelejmjiaaUlaw
import Derived.Deep.RegionHeld3
set_option linter.unusedVariables false
set_option linter.unusedSimpArgs false
namespace Go.Proofs.Ytbgcgbelejmjiaa
open Go.ChangeShapes Go.WideShapes Go.ChangeAt Go.RowKit Go.Joins Wd Ud

theorem lst_get {p s k j : Nat} (h : j < k) : (lst p s k).getD j 0 = p + j * pw s := by
  induction k with
  | zero => omega
  | succ k ih =>
    by_cases hj : j < k
    · have := ih hj
      simp only [lst, List.getD_eq_getElem?_getD] at this ⊢
      rw [List.getElem?_append_left (by rw [lst_len]; exact hj)]
      exact this
    · have e : j = k := by omega
      subst e
      simp [lst, List.getD_eq_getElem?_getD, lst_len]

set_option maxRecDepth 100000 in
set_option maxHeartbeats 3200000 in
theorem untypedApart_err (x : Ut) (k n c i : Int) (hi : (i != 0) = true) (PA : Hid (∀ w : World, Calls Try.prog 10 #[(.agg #[.int .u64 x.b, .int .i64 x.n, .int .u64 x.u]), .int .i64 k, .int .i64 n, .int .i64 c] w fun e w' => ∃ v, e = .returned (.tuple #[v, (.agg #[.int .u64 0, .int .i64 0, .int .u64 0]), .int .i64 i]) ∧ SlIs w' v [] ∧ Below w.heap.size w w')) (W : World) :
    Calls Try.prog 4 #[(.agg #[.int .u64 x.b, .int .i64 x.n, .int .u64 x.u]), (.agg #[.int .i64 k, .int .i64 n, .int .i64 c])] W fun e w' => e = .returned (.bool true) ∧ Below W.heap.size W w' := by
  have q1 : ∀ w : World, (Op.equalIn 10000 24 (.agg #[.int .u64 0, .int .i64 0, .int .u64 0]) (.agg #[.int .u64 0, .int .i64 0, .int .u64 0])).run Try.prog w = .ok true w := fun w => eq_ut_self Ud.none w
  go_enter Try.func4, Try.ntmps4
  go_wp2_with fail
  refine (PA.out _).mono ?_
  rintro e w1 ⟨va, rfl, hs, hb⟩
  have HB1 : Hid (Below W.heap.size W w1) := Lib.hid (below_then (by repeat (first | exact (Below.refl _ _) | apply below_new | refine below_draws ?_ _)) hb)
  clear hb
  obtain ⟨ao, cap, rfl⟩ : ∃ ao cap, va = .slice ao 0 cap := by
    rcases hs with ⟨h, _⟩ | ⟨g, cap, h, _⟩
    · exact ⟨_, _, h⟩
    · exact ⟨_, _, h⟩
  clear hs
  go_wp2_with fail
  refine (fixed_true _).mono ?_
  rintro e w2 ⟨rfl, hb⟩
  have HB2 : Hid (Below W.heap.size W w2) := Lib.hid (below_then (by repeat (first | exact HB1.out | apply below_new | refine below_draws ?_ _)) hb)
  clear hb HB1
  go_wp2_with fail
  go_ret
  exact ⟨rfl, (by repeat (first | exact HB2.out | apply below_new | refine below_draws ?_ _))⟩

theorem keepA_drew {W w' : World} {g1 ga b m u t p : Nat} (h : Below W.heap.size W w' ∧ w'.cell? ⟨W.heap.size, 0, Option.none⟩ = some (.int .u64 b) ∧ w'.cell? ⟨W.heap.size, 1, Option.none⟩ = some (.int .i64 m) ∧ w'.cell? ⟨W.heap.size, 2, Option.none⟩ = some (.int .u64 u) ∧ w'.cell? ⟨g1, 0, Option.none⟩ = some (.int .u64 b) ∧ w'.cell? ⟨g1, 1, Option.none⟩ = some (.int .i64 m) ∧ w'.cell? ⟨g1, 2, Option.none⟩ = some (.int .u64 t) ∧ w'.cell? ⟨ga, 0, Option.none⟩ = some (.int .u64 p)) : Below W.heap.size W w'.drew ∧ w'.drew.cell? ⟨W.heap.size, 0, Option.none⟩ = some (.int .u64 b) ∧ w'.drew.cell? ⟨W.heap.size, 1, Option.none⟩ = some (.int .i64 m) ∧ w'.drew.cell? ⟨W.heap.size, 2, Option.none⟩ = some (.int .u64 u) ∧ w'.drew.cell? ⟨g1, 0, Option.none⟩ = some (.int .u64 b) ∧ w'.drew.cell? ⟨g1, 1, Option.none⟩ = some (.int .i64 m) ∧ w'.drew.cell? ⟨g1, 2, Option.none⟩ = some (.int .u64 t) ∧ w'.drew.cell? ⟨ga, 0, Option.none⟩ = some (.int .u64 p) := by
  obtain ⟨h0, q0, q1, q2, q3, q4, q5, q6⟩ := h
  exact ⟨h0.drew, q0, q1, q2, q3, q4, q5, q6⟩
theorem keepA_draws {W w' : World} {g1 ga b m u t p : Nat} (h : Below W.heap.size W w' ∧ w'.cell? ⟨W.heap.size, 0, Option.none⟩ = some (.int .u64 b) ∧ w'.cell? ⟨W.heap.size, 1, Option.none⟩ = some (.int .i64 m) ∧ w'.cell? ⟨W.heap.size, 2, Option.none⟩ = some (.int .u64 u) ∧ w'.cell? ⟨g1, 0, Option.none⟩ = some (.int .u64 b) ∧ w'.cell? ⟨g1, 1, Option.none⟩ = some (.int .i64 m) ∧ w'.cell? ⟨g1, 2, Option.none⟩ = some (.int .u64 t) ∧ w'.cell? ⟨ga, 0, Option.none⟩ = some (.int .u64 p)) (j : Nat) : Below W.heap.size W (w'.drewN j) ∧ (w'.drewN j).cell? ⟨W.heap.size, 0, Option.none⟩ = some (.int .u64 b) ∧ (w'.drewN j).cell? ⟨W.heap.size, 1, Option.none⟩ = some (.int .i64 m) ∧ (w'.drewN j).cell? ⟨W.heap.size, 2, Option.none⟩ = some (.int .u64 u) ∧ (w'.drewN j).cell? ⟨g1, 0, Option.none⟩ = some (.int .u64 b) ∧ (w'.drewN j).cell? ⟨g1, 1, Option.none⟩ = some (.int .i64 m) ∧ (w'.drewN j).cell? ⟨g1, 2, Option.none⟩ = some (.int .u64 t) ∧ (w'.drewN j).cell? ⟨ga, 0, Option.none⟩ = some (.int .u64 p) := by
  obtain ⟨h0, q0, q1, q2, q3, q4, q5, q6⟩ := h
  exact ⟨below_draws h0 j, q0, q1, q2, q3, q4, q5, q6⟩
theorem keepA_on {W w' w'' : World} {g1 ga b m u t p : Nat} (h : Below W.heap.size W w' ∧ w'.cell? ⟨W.heap.size, 0, Option.none⟩ = some (.int .u64 b) ∧ w'.cell? ⟨W.heap.size, 1, Option.none⟩ = some (.int .i64 m) ∧ w'.cell? ⟨W.heap.size, 2, Option.none⟩ = some (.int .u64 u) ∧ w'.cell? ⟨g1, 0, Option.none⟩ = some (.int .u64 b) ∧ w'.cell? ⟨g1, 1, Option.none⟩ = some (.int .i64 m) ∧ w'.cell? ⟨g1, 2, Option.none⟩ = some (.int .u64 t) ∧ w'.cell? ⟨ga, 0, Option.none⟩ = some (.int .u64 p)) (hb : Below w'.heap.size w' w'') : Below W.heap.size W w'' ∧ w''.cell? ⟨W.heap.size, 0, Option.none⟩ = some (.int .u64 b) ∧ w''.cell? ⟨W.heap.size, 1, Option.none⟩ = some (.int .i64 m) ∧ w''.cell? ⟨W.heap.size, 2, Option.none⟩ = some (.int .u64 u) ∧ w''.cell? ⟨g1, 0, Option.none⟩ = some (.int .u64 b) ∧ w''.cell? ⟨g1, 1, Option.none⟩ = some (.int .i64 m) ∧ w''.cell? ⟨g1, 2, Option.none⟩ = some (.int .u64 t) ∧ w''.cell? ⟨ga, 0, Option.none⟩ = some (.int .u64 p) := by
  obtain ⟨h0, q0, q1, q2, q3, q4, q5, q6⟩ := h
  have key : ∀ {p : Addr} {v : Value}, w'.cell? p = some v → w''.cell? p = some v := fun h => (hb.cell (World.block_lt_of_cell? w' _ h)).trans h
  exact ⟨below_then h0 hb, key q0, key q1, key q2, key q3, key q4, key q5, key q6⟩

set_option maxRecDepth 100000 in
set_option maxHeartbeats 6400000 in
theorem untypedApart_ok (b m u s p i t L1 : Nat) (k n : Int) (PA : Hid (∀ w : World, Calls Try.prog 10 #[(.agg #[.int .u64 b, .int .i64 (m : Int), .int .u64 u]), .int .i64 k, .int .i64 n, .int .i64 (i : Int)] w fun e w' => ∃ v, e = .returned (.tuple #[v, (.agg #[.int .u64 b, .int .i64 (m : Int), .int .u64 t]), .int .i64 0]) ∧ SlIs w' v (lst p s i) ∧ Below w.heap.size w w')) (S1 : Hid (∀ w : World, Calls Try.prog 12 #[.int .i64 k, .int .i64 n] w fun e w' => e = .returned (.tuple #[.int .i64 (s : Int), .int .i64 0]) ∧ Below w.heap.size w w')) (C2 : Hid (∀ w : World, Calls Try.prog 16 #[(.agg #[.int .u64 b, .int .i64 (m : Int), .int .u64 t])] w fun e w' => e = .returned (.int .i64 0) ∧ Below w.heap.size w w')) (hm : m ≤ 20) (hs : s ≤ 20) (h1 : 1 ≤ i) (h64 : i ≤ 64) (hB : b ≤ 1099511627776) (hU : u ≤ 1048576) (hpu : b + u ≤ p) (hpl : p < b + u + pw s) (hp : p ≤ 1099513724928) (hpm : Hid (p % pw s = 0)) (hL : Hid (L1 = p + i * pw s)) (hLm : L1 ≤ b + pw m) (hbL : b ≤ L1) (ht : (L1 : Int) - (b : Int) = (t : Int)) (W : World) :
    Calls Try.prog 4 #[(.agg #[.int .u64 b, .int .i64 (m : Int), .int .u64 u]), (.agg #[.int .i64 k, .int .i64 n, .int .i64 (i : Int)])] W fun e w' => e = .returned (.bool true) ∧ Below W.heap.size W w' := by
  have HM := Lib.hid hm
  have e3 : pw m ≤ 1048576 := Nat.pow_le_pow_right (by decide) hm
  have e4 : pw s ≤ 1048576 := Nat.pow_le_pow_right (by decide) hs
  have e5 := pw_pos s
  have HT := Lib.hid ht
  have a2 : (s : Int) ≤ 20 := by omega
  have a4 : (m : Int) ≤ 20 := by omega
  have a5 : ((i : Int) == 0) = false := by simpa using show i ≠ 0 by omega
  clear ht
  go_enter Try.func4, Try.ntmps4
  go_wp2_with fail
  refine (PA.out _).mono ?_
  rintro e w1 ⟨va, rfl, hs', hb⟩
  have XX' : Ub w1 (W.heap.size) ⟨b, (m : Int), u⟩ := Ub.keep hb (by repeat (first | fail | exact Ub.new _ ⟨b, (m : Int), u⟩ | exact Ub.new_at (x := ⟨b, (m : Int), u⟩) (by simp) | apply Ub.alloc | refine Ub.drew ?_ _))
  have XX := Lib.hid XX'
  clear XX'
  have WB' : Wb w1 ((W.heap.size + 1)) (k, n, (i : Int)) := Wb.keep hb (by repeat (first | fail | exact Wb.new _ (k, n, (i : Int)) | exact Wb.new_at (q := (k, n, (i : Int))) (by simp) | apply Wb.alloc | refine Wb.drew ?_ _))
  have WB := Lib.hid WB'
  clear WB'
  have SA := Lib.hid hs'
  clear hs'
  have HB1 : Hid (Below W.heap.size W w1) := Lib.hid (below_then (by repeat (first | exact (Below.refl _ _) | apply below_new | refine below_draws ?_ _)) hb)
  clear hb
  obtain ⟨zWB, c0WB, c1WB, c2WB⟩ := WB.out
  have nWB : ¬ (W.heap.size + 1) = w1.heap.size := by omega
  go_wp2_with fail
  clear zWB nWB c0WB c1WB c2WB
  refine (S1.out _).mono ?_
  rintro e w2 ⟨rfl, hb⟩
  have XX' : Ub w2 (W.heap.size) ⟨b, (m : Int), u⟩ := Ub.keep hb (by repeat (first | exact XX.out | exact Ub.new _ ⟨b, (m : Int), u⟩ | exact Ub.new_at (x := ⟨b, (m : Int), u⟩) (by simp) | apply Ub.alloc | refine Ub.drew ?_ _))
  clear XX
  have XX := Lib.hid XX'
  clear XX'
  have WB' : Wb w2 ((W.heap.size + 1)) (k, n, (i : Int)) := Wb.keep hb (by repeat (first | exact WB.out | exact Wb.new _ (k, n, (i : Int)) | exact Wb.new_at (q := (k, n, (i : Int))) (by simp) | apply Wb.alloc | refine Wb.drew ?_ _))
  clear WB
  have WB := Lib.hid WB'
  clear WB'
  have SA' : SlIs w2 (va) (lst p s i) := SlIs.keep (by repeat (first | exact SA.out | apply SlIs.alloc | refine SlIs.drew ?_ _)) hb
  clear SA
  have SA := Lib.hid SA'
  clear SA'
  have YY' : Ub w2 (w1.heap.size) ⟨b, (m : Int), t⟩ := Ub.keep hb (by repeat (first | fail | exact Ub.new _ ⟨b, (m : Int), t⟩ | exact Ub.new_at (x := ⟨b, (m : Int), t⟩) (by simp) | apply Ub.alloc | refine Ub.drew ?_ _))
  have YY := Lib.hid YY'
  clear YY'
  have HB2 : Hid (Below W.heap.size W w2) := Lib.hid (below_then (by repeat (first | exact HB1.out | apply below_new | refine below_draws ?_ _)) hb)
  clear hb HB1
  obtain ⟨ga, cap, rfl, hga, hac⟩ : ∃ g cap, va = .slice (some ⟨g, 0, Option.none⟩) i cap ∧ g < w2.heap.size ∧ ∀ j, j < i → w2.cell? ⟨g, j, Option.none⟩ = some (.int .u64 ((p + j * pw s : Nat) : Int)) := by
    rcases SA.out with ⟨_, h⟩ | ⟨g, cap, h1', h2, h3⟩
    · have := lst_len p s i
      rw [h] at this
      simp at this
      omega
    · rw [lst_len] at h1' h3
      refine ⟨g, cap, h1', h2, fun j hj => ?_⟩
      rw [h3 j hj, lst_get hj]
  have HAC := Lib.hid hac
  clear hac SA
  obtain ⟨zXX, c0XX, c1XX, c2XX, f0XX, f1XX, f2XX⟩ := XX.out
  have nXX : ¬ W.heap.size = w2.heap.size := by omega
  obtain ⟨zWB, c0WB, c1WB, c2WB⟩ := WB.out
  have nWB : ¬ (W.heap.size + 1) = w2.heap.size := by omega
  go_wp2_with fail
  go_quiet ((go_at_call 19; exact Calls.quiet_of_same (two_any s (by omega) _)))
  go_wp2_with fail
  clear zXX nXX c0XX c1XX c2XX zWB nWB c0WB c1WB c2WB f0XX f1XX f2XX
  go_loop [11, 12] (fun lv iv => ∃ j L : Nat, j ≤ i ∧ iv = .int .i64 j ∧ lv = .int .u64 L ∧ Hid ((j = 0 ∧ L = b + u) ∨ (0 < j ∧ L = p + j * pw s))) (fun _ iv => i - (intOf iv).toNat)
  case atStart => exact ⟨0, b + u, Nat.zero_le _, rfl, by go_num, Lib.hid (.inl ⟨rfl, rfl⟩)⟩
  case round =>
    obtain ⟨j, L, hj, rfl, rfl, hcase⟩ := hrel
    by_cases hlt : j < i
    · have hlt' : (j : Int) < (i : Int) := by omega
      have hj0' : (0 : Int) ≤ (j : Int) := by omega
      obtain ⟨q, hq⟩ : ∃ q : Nat, Hid (q = p + j * pw s) := ⟨_, Lib.hid rfl⟩
      have hcq : Hid (∀ kk, (w2.drewN kk).cell? ⟨ga, j, Option.none⟩ = some (.int .u64 (q : Int))) := Lib.hid (fun kk => by
        have h := HAC.out j hlt
        rw [← hq.out] at h
        exact h)
      have hqm : ((q : Int) % (pw s : Int) != 0) = false := by
        have h : q % pw s = 0 := by rw [hq.out, Nat.add_mod, hpm.out, Nat.mul_mod_left]; simp
        have : (q : Int) % (pw s : Int) = ((q % pw s : Nat) : Int) := rfl
        rw [this, h]
        rfl
      have hqn : q + pw s ≤ 1099512676352 := by
        have h9 : (j + 1) * pw s ≤ i * pw s := Nat.mul_le_mul_right _ hlt
        have h8 := q_next hq.out
        have h7 := hL.out
        omega
      have hcq' := hcq.out nq
      rcases hcase.out with ⟨h0, hLe⟩ | ⟨h0, hLe⟩
      · have hLq : L ≤ q := by
          have h8 := hq.out
          rw [h0, Nat.zero_mul] at h8
          omega
        have hj0 : ¬ (0 : Int) < (j : Int) := by omega
        clear hLe h0 hcase
        go_wp2_with fail
        go_round
        case rel => exact ⟨j + 1, q + pw s, by omega, by go_num, by go_num, Lib.hid (.inr ⟨by omega, q_next hq.out⟩)⟩
        case measure => simp [intOf]; omega
      · have hLq : L = q := by rw [hq.out]; exact hLe
        subst hLq
        have hj0 : (0 : Int) < (j : Int) := by omega
        clear hLe h0 hcase
        go_wp2_with fail
        go_round
        case rel => exact ⟨j + 1, L + pw s, by omega, by go_num, by go_num, Lib.hid (.inr ⟨by omega, q_next hq.out⟩)⟩
        case measure => simp [intOf]; omega
    · have hje : j = i := by omega
      subst hje
      have hnl : ¬ (j : Int) < (j : Int) := by omega
      have hLL : L = L1 := by
        rcases hcase.out with ⟨h0, _⟩ | ⟨_, h0⟩
        · omega
        · rw [h0, hL.out]
      subst hLL
      clear hcase hL
      have hj0 : (0 : Int) < (j : Int) := by omega
      have K0 : Hid (∀ kk, Below W.heap.size W (w2.drewN kk) ∧ (w2.drewN kk).cell? ⟨W.heap.size, 0, Option.none⟩ = some (.int .u64 b) ∧ (w2.drewN kk).cell? ⟨W.heap.size, 1, Option.none⟩ = some (.int .i64 m) ∧ (w2.drewN kk).cell? ⟨W.heap.size, 2, Option.none⟩ = some (.int .u64 u) ∧ (w2.drewN kk).cell? ⟨w1.heap.size, 0, Option.none⟩ = some (.int .u64 b) ∧ (w2.drewN kk).cell? ⟨w1.heap.size, 1, Option.none⟩ = some (.int .i64 m) ∧ (w2.drewN kk).cell? ⟨w1.heap.size, 2, Option.none⟩ = some (.int .u64 t) ∧ (w2.drewN kk).cell? ⟨ga, 0, Option.none⟩ = some (.int .u64 p)) := Lib.hid (fun kk => by
        have hx := XX.out
        have hy := YY.out
        have ha := HAC.out 0 (by omega)
        rw [Nat.zero_mul, Nat.add_zero] at ha
        exact ⟨below_draws HB2.out kk, hx.2.1, hx.2.2.1, hx.2.2.2.1, hy.2.1, hy.2.2.1, hy.2.2.2.1, ha⟩)
      have hjn : 0 < j := by omega
      obtain ⟨bu, hbu⟩ : ∃ bu : Nat, bu = b + u := ⟨_, rfl⟩
      obtain ⟨dd, hdd⟩ : ∃ dd : Nat, dd = p - (b + u) := ⟨_, rfl⟩
      obtain ⟨en, hen⟩ : ∃ en : Nat, en = b + pw m := ⟨_, rfl⟩
      have ht := HT.out
      have w1' : IntKind.u64.wrap ((b : Int) + (u : Int)) = (bu : Int) := by rw [IntKind.wrap_u64]; omega
      have w2' : IntKind.u64.wrap ((p : Int) - (bu : Int)) = (dd : Int) := by rw [IntKind.wrap_u64]; omega
      have w3' : IntKind.u64.wrap ((b : Int) + (pw m : Int)) = (en : Int) := by rw [IntKind.wrap_u64]; omega
      have w4' : IntKind.u64.wrap ((L : Int) - (b : Int)) = (t : Int) := by rw [IntKind.wrap_u64]; omega
      have hd1 : (dd : Int) < (pw s : Int) := by omega
      have hd2 : (L : Int) ≤ (en : Int) := by omega
      clear ht hbu hdd hen
      go_wp2_with fail
      go_region_held3 (fun w' => Below W.heap.size W w' ∧ w'.cell? ⟨W.heap.size, 0, Option.none⟩ = some (.int .u64 b) ∧ w'.cell? ⟨W.heap.size, 1, Option.none⟩ = some (.int .i64 m) ∧ w'.cell? ⟨W.heap.size, 2, Option.none⟩ = some (.int .u64 u) ∧ w'.cell? ⟨w1.heap.size, 0, Option.none⟩ = some (.int .u64 b) ∧ w'.cell? ⟨w1.heap.size, 1, Option.none⟩ = some (.int .i64 m) ∧ w'.cell? ⟨w1.heap.size, 2, Option.none⟩ = some (.int .u64 t) ∧ w'.cell? ⟨ga, 0, Option.none⟩ = some (.int .u64 p)) (first | exact keepA_drew (K0.out _) | (refine keepA_on ?_ hb; assumption)) (first | (go_at_call 19; refine (two_any m (by omega) _).mono ?_; rintro e w' ⟨rfl, rfl⟩) | (go_at_call 16; refine (C2.out _).mono ?_; rintro e w' ⟨rfl, hb⟩) | (go_at_call 14; refine (fixed_true _).mono ?_; rintro e w' ⟨rfl, hb⟩))
      go_wp2_with fail
      go_ret
      rename_i hH
      exact ⟨rfl, hH.1⟩

theorem untypedApart_walk (x : Ut) (hb : Word x.b) (hu : Word x.u) (k n c : Int) (W : World) :
    Calls Try.prog 4 #[(.agg #[.int .u64 x.b, .int .i64 x.n, .int .u64 x.u]), (.agg #[.int .i64 k, .int .i64 n, .int .i64 c])] W fun e w' => e = .returned (.bool true) ∧ Below W.heap.size W w' := by
  obtain ⟨⟨l, y, i⟩, hp⟩ : ∃ q, placeU x k n c = q := ⟨_, rfl⟩
  by_cases hi : i = 0
  · subst hi
    obtain ⟨g1, g2, g3, g4⟩ := left_ok hp
    obtain ⟨m, s, i, p, h1, h2, h3, h4, h5, h6, h7, h8, h9, h10, h11, h12, h13⟩ := place_ok hp
    obtain ⟨b, N, u⟩ := x
    have h1' : N = (m : Int) := h1
    subst h1'
    subst h7
    obtain ⟨q1, q2, q3⟩ := upTo_facts (b + u) s
    have h10' : p = upTo (b + u) s := h10
    rw [← h10'] at q1 q2 q3
    obtain ⟨k0, k1, k2, k3, k4⟩ := h3
    simp only [Int.toNat_natCast] at k0 k1 k2 k3 k4
    have p40 : (2 : Nat) ^ 40 = 1099511627776 := by decide
    have pm : pw m ≤ 1048576 := Nat.pow_le_pow_right (by decide) h2
    have ps : pw s ≤ 1048576 := Nat.pow_le_pow_right (by decide) h6
    have h11' : p + i * pw s ≤ b + pw m := h11
    have h13' : y = ⟨b, m, p + i * pw s - b⟩ := h13
    subst h13'
    have SZ : Hid (∀ w : World, Calls Try.prog 12 #[.int .i64 k, .int .i64 n] w fun e w' => e = .returned (.tuple #[.int .i64 (s : Int), .int .i64 0]) ∧ Below w.heap.size w w') := Lib.hid (fun w => by
      have h := size_any k n w
      rw [h4] at h
      exact h)
    have C2 : Hid (∀ w : World, Calls Try.prog 16 #[(.agg #[.int .u64 b, .int .i64 (m : Int), .int .u64 ((p + i * pw s - b : Nat) : Int)])] w fun e w' => e = .returned (.int .i64 0) ∧ Below w.heap.size w w') := Lib.hid (fun w => by
      have h := check_any ⟨b, m, p + i * pw s - b⟩ g4 g3 w
      rw [show chkU ⟨b, m, p + i * pw s - b⟩ = 0 by simp [chkU, g1]] at h
      exact h)
    exact untypedApart_ok b m u s p i (p + i * pw s - b) (p + i * pw s) k n (Lib.hid (place_as ⟨b, m, u⟩ hb hu k n i _ ⟨b, m, p + i * pw s - b⟩ 0 (by rw [hp, h12]))) SZ C2 h2 h6 h8 h9 (by omega) (by omega) q1 q2 (by omega) (Lib.hid q3) (Lib.hid rfl) h11' (by omega) (by omega) W
  · obtain ⟨rfl, rfl, _⟩ := place_err hp hi
    exact untypedApart_err x k n c i (by simpa using hi) (Lib.hid (place_as x hb hu k n c [] Ud.none i hp)) W


set_option maxRecDepth 100000 in
theorem untypedApart_lifted (os : Os) (started : os.Started) (H : Type) (enc : TypeId × Value → H) :
    ReturnsInHanded {} Try.checked os 4 .any (Rows.untypedApartSpec.pre6 enc Try.prog Try.f4 Rows.untypedApartRow.domain false) (Rows.untypedApartSpec.post enc Try.prog Try.f4 false true false false) := by
  refine returnsInHanded_of_change (C := Try.checked) own_knob started (by kernel_rfl) Try.func4
    (ChangeSpec.witness6 (enc := enc) (C := Try.checked) false ⟨#[], #[.agg #[.int .u64 0, .int .i64 0, .int .u64 0], .agg #[.int .i64 0, .int .i64 0, .int .i64 0]], []⟩ 8 (by kernel_rfl) (by kernel_rfl) (by kernel_rfl) (by kernel_rfl)) ?_
  intro W base args ds gs before hval0 hW hcnd _
  have hval : ∀ (j : Nat) t v, Try.f4.params[j]? = some t → args[j]? = some v → Value.okWide Try.prog W .any base t v := hval0
  have hW' := hW
  obtain ⟨p, q, hA0, hV, rfl, hfz, hnd⟩ := hW
  have hA : DataW.TrodAll enc Try.prog W 0 (fun _ => true) true Try.f4.params.toList args.toList ds p := hA0
  rw [Try.params4] at hA hval
  obtain ⟨v0, v1, d0, d1, p0, p1, rfl, rfl, rfl, h0, h1⟩ := trodAll_two hA
  obtain ⟨rfl, rfl⟩ := trodVars_none hV
  clear hA0 hval0
  simp only [List.append_nil] at hW'
  have hlt : ∀ x ∈ p0 ++ p1, x.block < W.heap.size := fun x hx => by simpa using hW'.lt x hx
  have g0 : ∀ W' : World, Below W.heap.size W W' → DataW.Trod enc Try.prog W' 0 (fun b => decide (b < W.heap.size)) true 24 v0 d0 p0 :=
    fun W' hn => Below.trod laid_out (by kernel_rfl) (of_decide_eq_true (by kernel_rfl)) h0 hn (fun x hx => hlt x (by simp [hx]))
  have g1 : ∀ W' : World, Below W.heap.size W W' → DataW.Trod enc Try.prog W' 0 (fun b => decide (b < W.heap.size)) true 26 v1 d1 p1 :=
    fun W' hn => Below.trod laid_out (by kernel_rfl) (of_decide_eq_true (by kernel_rfl)) h1 hn (fun x hx => hlt x (by simp [hx]))
  obtain ⟨x, rfl, l0b, l0u⟩ := open_unt (hval 0 24 v0 rfl rfl) h0
  obtain ⟨k, n, c, rfl, l1k, l1n, l1c⟩ := open_what (hval 1 26 v1 rfl rfl) h1
  refine (untypedApart_walk x l0b l0u k n c W).mono fun e W' ⟨he, hn⟩ => ?_
  subst he
  exact ⟨_, rfl, _, _, _, [], p0 ++ p1, [], hW', trodAll_mk1 (shut_bool Try.underlying4 true), (trodAll_mk2 (g0 W' hn) (g1 W' hn)), rfl, hn.frame _, fun h => by cases h⟩

theorem untypedApart_holds : Rows.UntypedApartSaid :=
  OpenClaim.holds_of_wide 4 Try.f4 rfl rfl rfl rfl rfl rfl rfl ⟨rfl, rfl, rfl, rfl, rfl⟩ rfl rfl rfl rfl rfl (by kernel_rfl) Try.func4 (by kernel_rfl)
    (of_decide_eq_true (by kernel_rfl)) (by unfold Func.isWrapper; first | (rw [if_pos (by decide +kernel)]; kernel_rfl) | (rw [if_neg (by decide +kernel)]; exact ⟨rfl, rfl⟩))
    (fun os started H enc _ => untypedApart_lifted os started H enc)
#print axioms untypedApart_holds
end Go.Proofs.Ytbgcgbelejmjiaa
