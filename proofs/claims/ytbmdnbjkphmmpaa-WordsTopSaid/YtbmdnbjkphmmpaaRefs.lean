/- Contracts of the reference's functions on single words, over the translation. -/
import Derived.Test.YtbmdnbjkphmmpaaWords
namespace Go.Proofs.Ytbmdnbjkphmmpaa
open Go.RowKit Wd

set_option maxHeartbeats 400000 in
theorem two_any (n : Nat) (hn : n ≤ 63) (w : World) :
    Calls Try.prog 30 #[.int .i64 n] w fun e w' => e = .returned (.int .u64 (pw n)) ∧ w' = w := by
  go_enter Try.func30, Try.ntmps30
  go_wp2
  go_loop [3, 4] (fun p i => ∃ k : Nat, k ≤ n ∧ i = .int .i64 k ∧ p = .int .u64 (pw k)) (fun _ i => n - (intOf i).toNat)
  case atStart => exact ⟨0, by omega, rfl, rfl⟩
  case round =>
    obtain ⟨k, hk, rfl, rfl⟩ := hrel
    by_cases hlt : k < n
    · have HS := Lib.hid (pw_step k (by omega))
      go_wp2
      go_round
      case rel => exact ⟨k + 1, by omega, by go_num, by rw [HS.out]⟩
      case measure => simp [intOf]; omega
    · go_wp2
      go_ret
      exact ⟨ret_u64 (by rw [show k = n by omega]), rfl⟩

set_option maxHeartbeats 400000 in
theorem rmask_any (n : Nat) (hn : n ≤ 64) (w : World) :
    Calls Try.prog 18 #[.int .i64 n] w fun e w' => e = .returned (.tuple #[.int .u64 (msk n), .int .i64 0]) ∧ w' = w := by
  go_enter Try.func18, Try.ntmps18
  go_wp2
  go_loop [4, 5] (fun p i => ∃ k : Nat, k ≤ n ∧ i = .int .i64 k ∧ p = .int .u64 (msk k)) (fun _ i => n - (intOf i).toNat)
  case atStart => exact ⟨0, by omega, rfl, rfl⟩
  case round =>
    obtain ⟨k, hk, rfl, rfl⟩ := hrel
    by_cases hlt : k < n
    · have HS := Lib.hid (msk_step k (by omega))
      go_wp2
      go_round
      case rel => exact ⟨k + 1, by omega, by go_num, by rw [HS.out]⟩
      case measure => simp [intOf]; omega
    · go_wp2
      go_ret2
      exact ⟨ret_ue (by rw [show k = n by omega]), rfl⟩

set_option maxHeartbeats 400000 in
theorem rmask_bad (n : Int) (hn : n < 0 ∨ 64 < n) (w : World) :
    Calls Try.prog 18 #[.int .i64 n] w fun e w' => e = .returned (.tuple #[.int .u64 0, .int .i64 1]) ∧ w' = w := by
  rcases hn with hn | hn
  · go_enter Try.func18, Try.ntmps18
    go_wp2
    go_ret2
    exact ⟨rfl, rfl⟩
  · have h0 : ¬ n < 0 := by omega
    go_enter Try.func18, Try.ntmps18
    go_wp2
    go_ret2
    exact ⟨rfl, rfl⟩

set_option maxHeartbeats 400000 in
theorem rbit_any (v n : Nat) (hv : Word v) (hn : n ≤ 63) (w : World) :
    Calls Try.prog 29 #[.int .u64 v, .int .i64 n] w fun e w' => e = .returned (.bool (v.testBit n)) ∧ w' = w := by
  have h1 := pw_pos n
  have HB := Lib.hid (bit_spelt2 v n hv)
  go_enter Try.func29, Try.ntmps29
  go_wp2_with (go_at_call 30; refine (two_any n hn _).mono ?_; rintro e w' ⟨rfl, rfl⟩)
  go_ret
  exact ⟨ret_bool HB.out, rfl⟩

set_option maxHeartbeats 800000 in
theorem rfield_any (v a n : Nat) (hv : Word v) (h : a + n ≤ 64) (w : World) :
    Calls Try.prog 13 #[.int .u64 v, .int .i64 a, .int .i64 n] w fun e w' => e = .returned (.tuple #[.int .u64 (fld v a n), .int .i64 0]) ∧ w' = w := by
  rw [fld_eq_sum]
  have h1 : a ≤ 64 := by omega
  have h2 : n ≤ 64 := by omega
  go_enter Try.func13, Try.ntmps13
  go_wp2
  go_loop [8, 9] (fun x i => ∃ k : Nat, k ≤ n ∧ i = .int .i64 k ∧ x = .int .u64 (sumB (fun i => v.testBit (a + i)) k)) (fun _ i => n - (intOf i).toNat)
  case atStart => exact ⟨0, by omega, rfl, rfl⟩
  case round =>
    obtain ⟨k, hk, rfl, rfl⟩ := hrel
    by_cases hlt : k < n
    · by_cases hb : v.testBit (a + k) = true
      · have HS := Lib.hid (sum_step (fun i => v.testBit (a + i)) k (by omega) hb)
        go_wp2_with (first | (go_at_call 29; refine (rbit_any v (a + k) hv (by omega) _).mono ?_; rintro e w' ⟨rfl, rfl⟩) | (go_at_call 30; refine (two_any k (by omega) _).mono ?_; rintro e w' ⟨rfl, rfl⟩))
        go_round
        case rel => exact ⟨k + 1, by omega, by go_num, by rw [HS.out]⟩
        case measure => simp [intOf]; omega
      · have hb' : v.testBit (a + k) = false := by simpa using hb
        have HS := Lib.hid (sum_stay (fun i => v.testBit (a + i)) k hb')
        go_wp2_with (first | (go_at_call 29; refine (rbit_any v (a + k) hv (by omega) _).mono ?_; rintro e w' ⟨rfl, rfl⟩) | (go_at_call 30; refine (two_any k (by omega) _).mono ?_; rintro e w' ⟨rfl, rfl⟩))
        go_round
        case rel => exact ⟨k + 1, by omega, by go_num, by rw [HS.out]⟩
        case measure => simp [intOf]; omega
    · go_wp2
      go_ret2
      exact ⟨ret_ue (by rw [show k = n by omega]), rfl⟩

set_option maxHeartbeats 800000 in
theorem rfield_bad (v a n : Int) (h : a < 0 ∨ n < 0 ∨ 64 < a + n) (w : World) (ha : a ≤ 9223372036854775807) (hn : n ≤ 9223372036854775807) :
    Calls Try.prog 13 #[.int .u64 v, .int .i64 a, .int .i64 n] w fun e w' => e = .returned (.tuple #[.int .u64 0, .int .i64 1]) ∧ w' = w := by
  by_cases h1 : a < 0
  · clear h
    go_enter Try.func13, Try.ntmps13
    go_wp2
    go_ret2
    exact ⟨rfl, rfl⟩
  by_cases h2 : n < 0
  · clear h
    go_enter Try.func13, Try.ntmps13
    go_wp2
    go_ret2
    exact ⟨rfl, rfl⟩
  by_cases h3 : 64 < a
  · clear h
    go_enter Try.func13, Try.ntmps13
    go_wp2
    go_ret2
    exact ⟨rfl, rfl⟩
  by_cases h4 : 64 < n
  · clear h
    go_enter Try.func13, Try.ntmps13
    go_wp2
    go_ret2
    exact ⟨rfl, rfl⟩
  have h5 : 64 < a + n := by omega
  clear h
  go_enter Try.func13, Try.ntmps13
  go_wp2
  go_ret2
  exact ⟨rfl, rfl⟩

set_option maxHeartbeats 800000 in
theorem rwith_bad (v a n x : Int) (h : a < 0 ∨ n < 0 ∨ 64 < a + n) (w : World) (ha : a ≤ 9223372036854775807) (hn : n ≤ 9223372036854775807) :
    Calls Try.prog 15 #[.int .u64 v, .int .i64 a, .int .i64 n, .int .u64 x] w fun e w' => e = .returned (.tuple #[.int .u64 0, .int .i64 1]) ∧ w' = w := by
  go_enter Try.func15, Try.ntmps15
  go_wp2_with (go_at_call 13; refine (rfield_bad v a n h _ ha hn).mono ?_; rintro e w' ⟨rfl, rfl⟩)
  go_ret2
  exact ⟨rfl, rfl⟩

theorem rbit_int (v : Nat) (i : Int) (hv : Word v) (h0 : 0 ≤ i) (hn : i ≤ 63) (w : World) :
    Calls Try.prog 29 #[.int .u64 v, .int .i64 i] w fun e w' => e = .returned (.bool (v.testBit i.toNat)) ∧ w' = w := by
  obtain ⟨n, rfl⟩ := Int.eq_ofNat_of_zero_le h0
  exact rbit_any v n hv (by omega) w

set_option maxHeartbeats 3200000 in
theorem rwith_any (v a n x : Nat) (hv : Word v) (hx : Word x) (h : a + n ≤ 64) (hb : x < 2 ^ n) (w : World) :
    Calls Try.prog 15 #[.int .u64 v, .int .i64 a, .int .i64 n, .int .u64 x] w fun e w' => e = .returned (.tuple #[.int .u64 (wth v a n x), .int .i64 0]) ∧ w' = w := by
  have HB := Lib.hid hb
  clear hb
  go_enter Try.func15, Try.ntmps15
  go_wp2_with (go_at_call 13; refine (rfield_any v a n hv h _).mono ?_; rintro e w' ⟨rfl, rfl⟩)
  go_loop [12, 13] (fun y i => ∃ k : Nat, k ≤ 64 ∧ i = .int .i64 k ∧ y = .int .u64 (sumB (sel v a n x) k)) (fun _ i => 64 - (intOf i).toNat)
  case atStart => exact ⟨0, by omega, rfl, rfl⟩
  case round =>
    obtain ⟨k, hk, rfl, rfl⟩ := hrel
    by_cases hlt : k < 64
    · by_cases hi1 : a ≤ k
      · by_cases hi2 : k < a + n
        · have E := sel_in (v := v) (x := x) hi1 hi2
          by_cases hb : x.testBit (k - a) = true
          · have HS := Lib.hid (sum_step (sel v a n x) k (by omega) (by rw [E, hb]))
            clear E
            by_cases hn : n ≤ k
            · have hz := small_bit HB.out hn
              go_wp2_with (first | (go_at_call 29; refine (rbit_int _ _ (by assumption) (by omega) (by omega) _).mono ?_; rintro e w' ⟨rfl, rfl⟩) | (go_at_call 30; refine (two_any k (by omega) _).mono ?_; rintro e w' ⟨rfl, rfl⟩))
              go_round
              case rel => exact ⟨k + 1, by omega, by go_num, by rw [HS.out]⟩
              case measure => simp [intOf]; omega
            · go_wp2_with (first | (go_at_call 29; refine (rbit_int _ _ (by assumption) (by omega) (by omega) _).mono ?_; rintro e w' ⟨rfl, rfl⟩) | (go_at_call 30; refine (two_any k (by omega) _).mono ?_; rintro e w' ⟨rfl, rfl⟩))
              go_round
              case rel => exact ⟨k + 1, by omega, by go_num, by rw [HS.out]⟩
              case measure => simp [intOf]; omega
          · have hb' : x.testBit (k - a) = false := by simpa using hb
            have HS := Lib.hid (sum_stay (sel v a n x) k (by rw [E, hb']))
            clear E hb
            by_cases hn : n ≤ k
            · have hz := small_bit HB.out hn
              go_wp2_with (first | (go_at_call 29; refine (rbit_int _ _ (by assumption) (by omega) (by omega) _).mono ?_; rintro e w' ⟨rfl, rfl⟩) | (go_at_call 30; refine (two_any k (by omega) _).mono ?_; rintro e w' ⟨rfl, rfl⟩))
              go_round
              case rel => exact ⟨k + 1, by omega, by go_num, by rw [HS.out]⟩
              case measure => simp [intOf]; omega
            · go_wp2_with (first | (go_at_call 29; refine (rbit_int _ _ (by assumption) (by omega) (by omega) _).mono ?_; rintro e w' ⟨rfl, rfl⟩) | (go_at_call 30; refine (two_any k (by omega) _).mono ?_; rintro e w' ⟨rfl, rfl⟩))
              go_round
              case rel => exact ⟨k + 1, by omega, by go_num, by rw [HS.out]⟩
              case measure => simp [intOf]; omega
        · have E := sel_out (v := v) (x := x) (a := a) (n := n) (k := k) (fun h => hi2 h.2)
          by_cases hb : v.testBit k = true
          · have HS := Lib.hid (sum_step (sel v a n x) k (by omega) (by rw [E, hb]))
            clear E
            by_cases hn : n ≤ k
            · have hz := small_bit HB.out hn
              go_wp2_with (first | (go_at_call 29; refine (rbit_int _ _ (by assumption) (by omega) (by omega) _).mono ?_; rintro e w' ⟨rfl, rfl⟩) | (go_at_call 30; refine (two_any k (by omega) _).mono ?_; rintro e w' ⟨rfl, rfl⟩))
              go_round
              case rel => exact ⟨k + 1, by omega, by go_num, by rw [HS.out]⟩
              case measure => simp [intOf]; omega
            · exact absurd (show n ≤ k by omega) hn
          · have hb' : v.testBit k = false := by simpa using hb
            have HS := Lib.hid (sum_stay (sel v a n x) k (by rw [E, hb']))
            clear E hb
            by_cases hn : n ≤ k
            · have hz := small_bit HB.out hn
              go_wp2_with (first | (go_at_call 29; refine (rbit_int _ _ (by assumption) (by omega) (by omega) _).mono ?_; rintro e w' ⟨rfl, rfl⟩) | (go_at_call 30; refine (two_any k (by omega) _).mono ?_; rintro e w' ⟨rfl, rfl⟩))
              go_round
              case rel => exact ⟨k + 1, by omega, by go_num, by rw [HS.out]⟩
              case measure => simp [intOf]; omega
            · exact absurd (show n ≤ k by omega) hn
      · have E := sel_out (v := v) (x := x) (a := a) (n := n) (k := k) (fun h => hi1 h.1)
        by_cases hb : v.testBit k = true
        · have HS := Lib.hid (sum_step (sel v a n x) k (by omega) (by rw [E, hb]))
          clear E
          by_cases hn : n ≤ k
          · have hz := small_bit HB.out hn
            go_wp2_with (first | (go_at_call 29; refine (rbit_int _ _ (by assumption) (by omega) (by omega) _).mono ?_; rintro e w' ⟨rfl, rfl⟩) | (go_at_call 30; refine (two_any k (by omega) _).mono ?_; rintro e w' ⟨rfl, rfl⟩))
            go_round
            case rel => exact ⟨k + 1, by omega, by go_num, by rw [HS.out]⟩
            case measure => simp [intOf]; omega
          · go_wp2_with (first | (go_at_call 29; refine (rbit_int _ _ (by assumption) (by omega) (by omega) _).mono ?_; rintro e w' ⟨rfl, rfl⟩) | (go_at_call 30; refine (two_any k (by omega) _).mono ?_; rintro e w' ⟨rfl, rfl⟩))
            go_round
            case rel => exact ⟨k + 1, by omega, by go_num, by rw [HS.out]⟩
            case measure => simp [intOf]; omega
        · have hb' : v.testBit k = false := by simpa using hb
          have HS := Lib.hid (sum_stay (sel v a n x) k (by rw [E, hb']))
          clear E hb
          by_cases hn : n ≤ k
          · have hz := small_bit HB.out hn
            go_wp2_with (first | (go_at_call 29; refine (rbit_int _ _ (by assumption) (by omega) (by omega) _).mono ?_; rintro e w' ⟨rfl, rfl⟩) | (go_at_call 30; refine (two_any k (by omega) _).mono ?_; rintro e w' ⟨rfl, rfl⟩))
            go_round
            case rel => exact ⟨k + 1, by omega, by go_num, by rw [HS.out]⟩
            case measure => simp [intOf]; omega
          · go_wp2_with (first | (go_at_call 29; refine (rbit_int _ _ (by assumption) (by omega) (by omega) _).mono ?_; rintro e w' ⟨rfl, rfl⟩) | (go_at_call 30; refine (two_any k (by omega) _).mono ?_; rintro e w' ⟨rfl, rfl⟩))
            go_round
            case rel => exact ⟨k + 1, by omega, by go_num, by rw [HS.out]⟩
            case measure => simp [intOf]; omega
    · go_wp2
      go_ret2
      exact ⟨ret_ue (by rw [show k = 64 by omega]; rfl), rfl⟩

set_option maxHeartbeats 3200000 in
theorem rwith_big (v a n x : Nat) (hv : Word v) (hx : Word x) (h : a + n ≤ 64) (hb : 2 ^ n ≤ x) (w : World) :
    Calls Try.prog 15 #[.int .u64 v, .int .i64 a, .int .i64 n, .int .u64 x] w fun e w' => e = .returned (.tuple #[.int .u64 0, .int .i64 2]) ∧ w' = w := by
  have HB := Lib.hid hb
  clear hb
  go_enter Try.func15, Try.ntmps15
  go_wp2_with (go_at_call 13; refine (rfield_any v a n hv h _).mono ?_; rintro e w' ⟨rfl, rfl⟩)
  go_loop [12, 13] (fun y i => ∃ k : Nat, k ≤ 64 ∧ i = .int .i64 k ∧ y = .int .u64 (sumB (sel v a n x) k) ∧ Hid (Zero x n k)) (fun _ i => 64 - (intOf i).toNat)
  case atStart => exact ⟨0, by omega, rfl, rfl, Zero.start⟩
  case round =>
    obtain ⟨k, hk, rfl, rfl, HZ⟩ := hrel
    by_cases hlt : k < 64
    · by_cases hi1 : a ≤ k
      · by_cases hi2 : k < a + n
        · have E := sel_in (v := v) (x := x) hi1 hi2
          by_cases hb : x.testBit (k - a) = true
          · have HS := Lib.hid (sum_step (sel v a n x) k (by omega) (by rw [E, hb]))
            clear E
            by_cases hn : n ≤ k
            · by_cases hz : x.testBit k = true
              · clear HS
                go_wp2_with (first | (go_at_call 29; refine (rbit_int _ _ (by assumption) (by omega) (by omega) _).mono ?_; rintro e w' ⟨rfl, rfl⟩) | (go_at_call 30; refine (two_any k (by omega) _).mono ?_; rintro e w' ⟨rfl, rfl⟩))
                go_ret2
                exact ⟨rfl, rfl⟩
              · have hz' : x.testBit k = false := by simpa using hz
                have HY := Lib.hid (zero_step HZ.out (fun _ => hz'))
                go_wp2_with (first | (go_at_call 29; refine (rbit_int _ _ (by assumption) (by omega) (by omega) _).mono ?_; rintro e w' ⟨rfl, rfl⟩) | (go_at_call 30; refine (two_any k (by omega) _).mono ?_; rintro e w' ⟨rfl, rfl⟩))
                go_round
                case rel => exact ⟨k + 1, by omega, by go_num, by rw [HS.out], HY⟩
                case measure => simp [intOf]; omega
            · have HY := Lib.hid (zero_step HZ.out (fun h => absurd h hn))
              go_wp2_with (first | (go_at_call 29; refine (rbit_int _ _ (by assumption) (by omega) (by omega) _).mono ?_; rintro e w' ⟨rfl, rfl⟩) | (go_at_call 30; refine (two_any k (by omega) _).mono ?_; rintro e w' ⟨rfl, rfl⟩))
              go_round
              case rel => exact ⟨k + 1, by omega, by go_num, by rw [HS.out], HY⟩
              case measure => simp [intOf]; omega
          · have hb' : x.testBit (k - a) = false := by simpa using hb
            have HS := Lib.hid (sum_stay (sel v a n x) k (by rw [E, hb']))
            clear E hb
            by_cases hn : n ≤ k
            · by_cases hz : x.testBit k = true
              · clear HS
                go_wp2_with (first | (go_at_call 29; refine (rbit_int _ _ (by assumption) (by omega) (by omega) _).mono ?_; rintro e w' ⟨rfl, rfl⟩) | (go_at_call 30; refine (two_any k (by omega) _).mono ?_; rintro e w' ⟨rfl, rfl⟩))
                go_ret2
                exact ⟨rfl, rfl⟩
              · have hz' : x.testBit k = false := by simpa using hz
                have HY := Lib.hid (zero_step HZ.out (fun _ => hz'))
                go_wp2_with (first | (go_at_call 29; refine (rbit_int _ _ (by assumption) (by omega) (by omega) _).mono ?_; rintro e w' ⟨rfl, rfl⟩) | (go_at_call 30; refine (two_any k (by omega) _).mono ?_; rintro e w' ⟨rfl, rfl⟩))
                go_round
                case rel => exact ⟨k + 1, by omega, by go_num, by rw [HS.out], HY⟩
                case measure => simp [intOf]; omega
            · have HY := Lib.hid (zero_step HZ.out (fun h => absurd h hn))
              go_wp2_with (first | (go_at_call 29; refine (rbit_int _ _ (by assumption) (by omega) (by omega) _).mono ?_; rintro e w' ⟨rfl, rfl⟩) | (go_at_call 30; refine (two_any k (by omega) _).mono ?_; rintro e w' ⟨rfl, rfl⟩))
              go_round
              case rel => exact ⟨k + 1, by omega, by go_num, by rw [HS.out], HY⟩
              case measure => simp [intOf]; omega
        · have E := sel_out (v := v) (x := x) (a := a) (n := n) (k := k) (fun h => hi2 h.2)
          by_cases hb : v.testBit k = true
          · have HS := Lib.hid (sum_step (sel v a n x) k (by omega) (by rw [E, hb]))
            clear E
            by_cases hn : n ≤ k
            · by_cases hz : x.testBit k = true
              · clear HS
                go_wp2_with (first | (go_at_call 29; refine (rbit_int _ _ (by assumption) (by omega) (by omega) _).mono ?_; rintro e w' ⟨rfl, rfl⟩) | (go_at_call 30; refine (two_any k (by omega) _).mono ?_; rintro e w' ⟨rfl, rfl⟩))
                go_ret2
                exact ⟨rfl, rfl⟩
              · have hz' : x.testBit k = false := by simpa using hz
                have HY := Lib.hid (zero_step HZ.out (fun _ => hz'))
                go_wp2_with (first | (go_at_call 29; refine (rbit_int _ _ (by assumption) (by omega) (by omega) _).mono ?_; rintro e w' ⟨rfl, rfl⟩) | (go_at_call 30; refine (two_any k (by omega) _).mono ?_; rintro e w' ⟨rfl, rfl⟩))
                go_round
                case rel => exact ⟨k + 1, by omega, by go_num, by rw [HS.out], HY⟩
                case measure => simp [intOf]; omega
            · exact absurd (show n ≤ k by omega) hn
          · have hb' : v.testBit k = false := by simpa using hb
            have HS := Lib.hid (sum_stay (sel v a n x) k (by rw [E, hb']))
            clear E hb
            by_cases hn : n ≤ k
            · by_cases hz : x.testBit k = true
              · clear HS
                go_wp2_with (first | (go_at_call 29; refine (rbit_int _ _ (by assumption) (by omega) (by omega) _).mono ?_; rintro e w' ⟨rfl, rfl⟩) | (go_at_call 30; refine (two_any k (by omega) _).mono ?_; rintro e w' ⟨rfl, rfl⟩))
                go_ret2
                exact ⟨rfl, rfl⟩
              · have hz' : x.testBit k = false := by simpa using hz
                have HY := Lib.hid (zero_step HZ.out (fun _ => hz'))
                go_wp2_with (first | (go_at_call 29; refine (rbit_int _ _ (by assumption) (by omega) (by omega) _).mono ?_; rintro e w' ⟨rfl, rfl⟩) | (go_at_call 30; refine (two_any k (by omega) _).mono ?_; rintro e w' ⟨rfl, rfl⟩))
                go_round
                case rel => exact ⟨k + 1, by omega, by go_num, by rw [HS.out], HY⟩
                case measure => simp [intOf]; omega
            · exact absurd (show n ≤ k by omega) hn
      · have E := sel_out (v := v) (x := x) (a := a) (n := n) (k := k) (fun h => hi1 h.1)
        by_cases hb : v.testBit k = true
        · have HS := Lib.hid (sum_step (sel v a n x) k (by omega) (by rw [E, hb]))
          clear E
          by_cases hn : n ≤ k
          · by_cases hz : x.testBit k = true
            · clear HS
              go_wp2_with (first | (go_at_call 29; refine (rbit_int _ _ (by assumption) (by omega) (by omega) _).mono ?_; rintro e w' ⟨rfl, rfl⟩) | (go_at_call 30; refine (two_any k (by omega) _).mono ?_; rintro e w' ⟨rfl, rfl⟩))
              go_ret2
              exact ⟨rfl, rfl⟩
            · have hz' : x.testBit k = false := by simpa using hz
              have HY := Lib.hid (zero_step HZ.out (fun _ => hz'))
              go_wp2_with (first | (go_at_call 29; refine (rbit_int _ _ (by assumption) (by omega) (by omega) _).mono ?_; rintro e w' ⟨rfl, rfl⟩) | (go_at_call 30; refine (two_any k (by omega) _).mono ?_; rintro e w' ⟨rfl, rfl⟩))
              go_round
              case rel => exact ⟨k + 1, by omega, by go_num, by rw [HS.out], HY⟩
              case measure => simp [intOf]; omega
          · have HY := Lib.hid (zero_step HZ.out (fun h => absurd h hn))
            go_wp2_with (first | (go_at_call 29; refine (rbit_int _ _ (by assumption) (by omega) (by omega) _).mono ?_; rintro e w' ⟨rfl, rfl⟩) | (go_at_call 30; refine (two_any k (by omega) _).mono ?_; rintro e w' ⟨rfl, rfl⟩))
            go_round
            case rel => exact ⟨k + 1, by omega, by go_num, by rw [HS.out], HY⟩
            case measure => simp [intOf]; omega
        · have hb' : v.testBit k = false := by simpa using hb
          have HS := Lib.hid (sum_stay (sel v a n x) k (by rw [E, hb']))
          clear E hb
          by_cases hn : n ≤ k
          · by_cases hz : x.testBit k = true
            · clear HS
              go_wp2_with (first | (go_at_call 29; refine (rbit_int _ _ (by assumption) (by omega) (by omega) _).mono ?_; rintro e w' ⟨rfl, rfl⟩) | (go_at_call 30; refine (two_any k (by omega) _).mono ?_; rintro e w' ⟨rfl, rfl⟩))
              go_ret2
              exact ⟨rfl, rfl⟩
            · have hz' : x.testBit k = false := by simpa using hz
              have HY := Lib.hid (zero_step HZ.out (fun _ => hz'))
              go_wp2_with (first | (go_at_call 29; refine (rbit_int _ _ (by assumption) (by omega) (by omega) _).mono ?_; rintro e w' ⟨rfl, rfl⟩) | (go_at_call 30; refine (two_any k (by omega) _).mono ?_; rintro e w' ⟨rfl, rfl⟩))
              go_round
              case rel => exact ⟨k + 1, by omega, by go_num, by rw [HS.out], HY⟩
              case measure => simp [intOf]; omega
          · have HY := Lib.hid (zero_step HZ.out (fun h => absurd h hn))
            go_wp2_with (first | (go_at_call 29; refine (rbit_int _ _ (by assumption) (by omega) (by omega) _).mono ?_; rintro e w' ⟨rfl, rfl⟩) | (go_at_call 30; refine (two_any k (by omega) _).mono ?_; rintro e w' ⟨rfl, rfl⟩))
            go_round
            case rel => exact ⟨k + 1, by omega, by go_num, by rw [HS.out], HY⟩
            case measure => simp [intOf]; omega
    · exfalso
      refine big_bit hx HB.out fun j h1 h2 => HZ.out.out j (by omega) h2

set_option maxHeartbeats 400000 in
theorem rup_bad (v n : Int) (h : n < 0 ∨ 63 < n) (w : World) :
    Calls Try.prog 20 #[.int .u64 v, .int .i64 n] w fun e w' => e = .returned (.tuple #[.int .u64 0, .int .i64 1]) ∧ w' = w := by
  rcases h with hn | hn
  · go_enter Try.func20, Try.ntmps20
    go_wp2
    go_ret2
    exact ⟨rfl, rfl⟩
  · have h0 : ¬ n < 0 := by omega
    go_enter Try.func20, Try.ntmps20
    go_wp2
    go_ret2
    exact ⟨rfl, rfl⟩

set_option maxHeartbeats 800000 in
theorem rup_any (v n : Nat) (hv : Word v) (hn : n ≤ 63) (hb : v + 2 ^ n ≤ 2 ^ 64) (w : World) :
    Calls Try.prog 20 #[.int .u64 v, .int .i64 n] w fun e w' => e = .returned (.tuple #[.int .u64 (upTo v n), .int .i64 0]) ∧ w' = w := by
  have h1 := pw_pos n
  have HB := Lib.hid hb
  clear hb
  go_enter Try.func20, Try.ntmps20
  go_wp2_with (go_at_call 30; refine (two_any n hn _).mono ?_; rintro e w' ⟨rfl, rfl⟩)
  · have g := upw_1 v n hv hn (by assumption)
    have hb := HB.out
    go_ret2
    exact ⟨ret_ue (by rw [g.1]), rfl⟩
  · have g := upw_2 v n hv hn (by assumption) (by assumption)
    have hb := HB.out
    omega
  · have g := upw_3 v n hv hn (by assumption) (by assumption)
    have hb := HB.out
    go_ret2
    exact ⟨ret_ue g.1, rfl⟩

set_option maxHeartbeats 800000 in
theorem rup_big (v n : Nat) (hv : Word v) (hn : n ≤ 63) (hb : 2 ^ 64 < v + 2 ^ n) (w : World) :
    Calls Try.prog 20 #[.int .u64 v, .int .i64 n] w fun e w' => e = .returned (.tuple #[.int .u64 0, .int .i64 2]) ∧ w' = w := by
  have h1 := pw_pos n
  have HB := Lib.hid hb
  clear hb
  go_enter Try.func20, Try.ntmps20
  go_wp2_with (go_at_call 30; refine (two_any n hn _).mono ?_; rintro e w' ⟨rfl, rfl⟩)
  · have g := upw_1 v n hv hn (by assumption)
    have hb := HB.out
    omega
  · have g := upw_2 v n hv hn (by assumption) (by assumption)
    have hb := HB.out
    go_ret2
    exact ⟨rfl, rfl⟩
  · have g := upw_3 v n hv hn (by assumption) (by assumption)
    have hb := HB.out
    omega

end Go.Proofs.Ytbmdnbjkphmmpaa
