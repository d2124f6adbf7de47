/- Contracts of the reference's guard and Check over the translation. -/
import Derived.Test.YthgiofgedeijoaaCcheck
namespace Go.Proofs.Ythgiofgedeijoaa
open Go.RowKit Wd Cd

set_option maxRecDepth 100000 in
set_option maxHeartbeats 1600000 in
theorem rguard_any (g : Nat) (n : Int) (hg : Word g) (w : World) :
    Calls Try.prog 30 #[.int .u64 g, .int .i64 n] w fun e w' => e = .returned (.bool (guaB g n)) ∧ w' = w := by
  by_cases h : n < 0
  · rw [guaB_bad g n (.inl h)]
    go_enter Try.func30, Try.ntmps30
    go_wp2
    go_ret
    exact ⟨rfl, rfl⟩
  by_cases h2 : 64 < n
  · rw [guaB_bad g n (.inr h2)]
    go_enter Try.func30, Try.ntmps30
    go_wp2
    go_ret
    exact ⟨rfl, rfl⟩
  by_cases h3 : n = 64
  · subst h3
    have hv : guaB g 64 = true := decide_eq_true ⟨by decide, by decide, hg.lt⟩
    rw [hv]
    clear hv
    go_enter Try.func30, Try.ntmps30
    go_wp2
    go_ret
    exact ⟨rfl, rfl⟩
  · obtain ⟨m, rfl⟩ := Int.eq_ofNat_of_zero_le (show 0 ≤ n by omega)
    have hm : m ≤ 63 := by omega
    have h64 : ((m : Int) == 64) = false := beq_eq_false_iff_ne.2 (by omega)
    have hv : guaB g (m : Int) = decide (g < pw m) := by
      unfold guaB
      have e : (0 ≤ (m : Int) ∧ (m : Int) ≤ 64 ∧ g < 2 ^ (m : Int).toNat) ↔ g < pw m := by
        have e1 : (m : Int).toNat = m := by simp
        rw [e1]
        unfold pw
        constructor
        · exact fun h => h.2.2
        · exact fun h => ⟨by omega, by omega, h⟩
      exact decide_eq_decide.2 e
    rw [hv]
    clear h h2 h3 hv
    go_enter Try.func30, Try.ntmps30
    go_wp2_with (go_at_call 35; refine (two_any m hm _).mono ?_; rintro e w' ⟨rfl, rfl⟩)
    all_goals (go_ret; exact ⟨ret_bool (by simp), rfl⟩)

set_option maxRecDepth 100000 in
set_option maxHeartbeats 12800000 in
theorem rcheck_bad (c : Cp) (hg : Word c.g) (hno : ¬ c.Ok) (w : World) :
    Calls Try.prog 23 #[(.agg #[.int .i64 c.k, .int .i64 c.o, .int .i64 c.r, .int .u64 c.b, .int .u64 c.g, .int .i64 c.n])] w fun e w' => e = .returned (.int .i64 40) ∧ w' = w.alloc (.cells #[.int .i64 c.k, .int .i64 c.o, .int .i64 c.r, .int .u64 c.b, .int .u64 c.g, .int .i64 c.n] 24) := by
  have hz : eqB c zero = false := by
    cases h0 : eqB c zero
    · rfl
    · exact absurd (Or.inl h0) hno
  have heq := eq_zero c false hz
  have HN := Lib.hid (fun hf => hno (Or.inr hf))
  clear hno hz
  by_cases a0 : c.k = 0
  · have hk0 : (c.k == 0) = true := by simp [a0]
    have hk1 : c.k < 1 := by omega
    clear a0 HN
    go_enter Try.func23, Try.ntmps23
    go_wp2_with (first | (go_at_call 30; refine (rguard_any c.g c.n hg _).mono ?_; rintro e w' ⟨rfl, rfl⟩) | (go_at_call 29; refine (rlimited_any c.k _).mono ?_; rintro e w' ⟨rfl, rfl⟩) | (go_at_call 28; refine (rbadged_any c.k _).mono ?_; rintro e w' ⟨rfl, rfl⟩))
    all_goals (go_ret; exact ⟨rfl, rfl⟩)
  have hk0 : (c.k == 0) = false := by simpa using a0
  clear a0
  by_cases a1 : c.k < 1
  · clear HN
    go_enter Try.func23, Try.ntmps23
    go_wp2_with (first | (go_at_call 30; refine (rguard_any c.g c.n hg _).mono ?_; rintro e w' ⟨rfl, rfl⟩) | (go_at_call 29; refine (rlimited_any c.k _).mono ?_; rintro e w' ⟨rfl, rfl⟩) | (go_at_call 28; refine (rbadged_any c.k _).mono ?_; rintro e w' ⟨rfl, rfl⟩))
    all_goals (go_ret; exact ⟨rfl, rfl⟩)
  by_cases a2 : 9 < c.k
  · clear HN
    go_enter Try.func23, Try.ntmps23
    go_wp2_with (first | (go_at_call 30; refine (rguard_any c.g c.n hg _).mono ?_; rintro e w' ⟨rfl, rfl⟩) | (go_at_call 29; refine (rlimited_any c.k _).mono ?_; rintro e w' ⟨rfl, rfl⟩) | (go_at_call 28; refine (rbadged_any c.k _).mono ?_; rintro e w' ⟨rfl, rfl⟩))
    all_goals (go_ret; exact ⟨rfl, rfl⟩)
  by_cases a3 : c.o < 0
  · clear HN
    go_enter Try.func23, Try.ntmps23
    go_wp2_with (first | (go_at_call 30; refine (rguard_any c.g c.n hg _).mono ?_; rintro e w' ⟨rfl, rfl⟩) | (go_at_call 29; refine (rlimited_any c.k _).mono ?_; rintro e w' ⟨rfl, rfl⟩) | (go_at_call 28; refine (rbadged_any c.k _).mono ?_; rintro e w' ⟨rfl, rfl⟩))
    all_goals (go_ret; exact ⟨rfl, rfl⟩)
  by_cases a4 : 2147483647 < c.o
  · clear HN
    go_enter Try.func23, Try.ntmps23
    go_wp2_with (first | (go_at_call 30; refine (rguard_any c.g c.n hg _).mono ?_; rintro e w' ⟨rfl, rfl⟩) | (go_at_call 29; refine (rlimited_any c.k _).mono ?_; rintro e w' ⟨rfl, rfl⟩) | (go_at_call 28; refine (rbadged_any c.k _).mono ?_; rintro e w' ⟨rfl, rfl⟩))
    all_goals (go_ret; exact ⟨rfl, rfl⟩)
  by_cases a5 : c.r < 0
  · clear HN
    go_enter Try.func23, Try.ntmps23
    go_wp2_with (first | (go_at_call 30; refine (rguard_any c.g c.n hg _).mono ?_; rintro e w' ⟨rfl, rfl⟩) | (go_at_call 29; refine (rlimited_any c.k _).mono ?_; rintro e w' ⟨rfl, rfl⟩) | (go_at_call 28; refine (rbadged_any c.k _).mono ?_; rintro e w' ⟨rfl, rfl⟩))
    all_goals (go_ret; exact ⟨rfl, rfl⟩)
  by_cases a6 : 7 < c.r
  · clear HN
    go_enter Try.func23, Try.ntmps23
    go_wp2_with (first | (go_at_call 30; refine (rguard_any c.g c.n hg _).mono ?_; rintro e w' ⟨rfl, rfl⟩) | (go_at_call 29; refine (rlimited_any c.k _).mono ?_; rintro e w' ⟨rfl, rfl⟩) | (go_at_call 28; refine (rbadged_any c.k _).mono ?_; rintro e w' ⟨rfl, rfl⟩))
    all_goals (go_ret; exact ⟨rfl, rfl⟩)
  have hr : rigB c.r = true := decide_eq_true ⟨by omega, by omega⟩
  by_cases a7 : limB c.k = false ∧ c.r ≠ 7
  · obtain ⟨a71, a72⟩ := a7
    have a73 : (c.r != 7) = true := by simp [a72]
    clear HN a72
    go_enter Try.func23, Try.ntmps23
    go_wp2_with (first | (go_at_call 30; refine (rguard_any c.g c.n hg _).mono ?_; rintro e w' ⟨rfl, rfl⟩) | (go_at_call 29; refine (rlimited_any c.k _).mono ?_; rintro e w' ⟨rfl, rfl⟩) | (go_at_call 28; refine (rbadged_any c.k _).mono ?_; rintro e w' ⟨rfl, rfl⟩))
    all_goals (go_ret; exact ⟨rfl, rfl⟩)
  by_cases a9 : 0 < c.b ∧ badB c.k = false
  · obtain ⟨a91, a92⟩ := a9
    have hb1' : decide (0 < (c.b : Int)) = true := decide_eq_true (by omega)
    have hb2' : decide (0 < c.b) = true := decide_eq_true (by omega)
    clear HN a91
    cases hl : limB c.k
    · have a8 : (c.r != 7) = false := by
        by_cases h7 : c.r = 7
        · simp [h7]
        · exact absurd ⟨hl, h7⟩ a7
      clear a7
      go_enter Try.func23, Try.ntmps23
      go_wp2_with (first | (go_at_call 30; refine (rguard_any c.g c.n hg _).mono ?_; rintro e w' ⟨rfl, rfl⟩) | (go_at_call 29; refine (rlimited_any c.k _).mono ?_; rintro e w' ⟨rfl, rfl⟩) | (go_at_call 28; refine (rbadged_any c.k _).mono ?_; rintro e w' ⟨rfl, rfl⟩))
      all_goals (go_ret; exact ⟨rfl, rfl⟩)
    · clear a7
      go_enter Try.func23, Try.ntmps23
      go_wp2_with (first | (go_at_call 30; refine (rguard_any c.g c.n hg _).mono ?_; rintro e w' ⟨rfl, rfl⟩) | (go_at_call 29; refine (rlimited_any c.k _).mono ?_; rintro e w' ⟨rfl, rfl⟩) | (go_at_call 28; refine (rbadged_any c.k _).mono ?_; rintro e w' ⟨rfl, rfl⟩))
      all_goals (go_ret; exact ⟨rfl, rfl⟩)
  by_cases b1 : c.k ≠ 2 ∧ 0 < c.g
  · obtain ⟨b11, b12⟩ := b1
    have b13 : (c.k != 2) = true := by simp [b11]
    have hg1' : decide (0 < (c.g : Int)) = true := decide_eq_true (by omega)
    have hg2' : decide (0 < c.g) = true := decide_eq_true (by omega)
    clear HN b11 b12
    cases hl : limB c.k
    · have a8 : (c.r != 7) = false := by
        by_cases h7 : c.r = 7
        · simp [h7]
        · exact absurd ⟨hl, h7⟩ a7
      clear a7
      by_cases hb : c.b = 0
      · have hb1' : decide (0 < (c.b : Int)) = false := decide_eq_false (by omega)
        have hb2' : decide (0 < c.b) = false := decide_eq_false (by omega)
        clear hb a9
        go_enter Try.func23, Try.ntmps23
        go_wp2_with (first | (go_at_call 30; refine (rguard_any c.g c.n hg _).mono ?_; rintro e w' ⟨rfl, rfl⟩) | (go_at_call 29; refine (rlimited_any c.k _).mono ?_; rintro e w' ⟨rfl, rfl⟩) | (go_at_call 28; refine (rbadged_any c.k _).mono ?_; rintro e w' ⟨rfl, rfl⟩))
        all_goals (go_ret; exact ⟨rfl, rfl⟩)
      · have hb1' : decide (0 < (c.b : Int)) = true := decide_eq_true (by omega)
        have hb2' : decide (0 < c.b) = true := decide_eq_true (by omega)
        have hb3 : badB c.k = true := by
          cases h0 : badB c.k
          · exact absurd ⟨by omega, h0⟩ a9
          · rfl
        clear hb a9
        go_enter Try.func23, Try.ntmps23
        go_wp2_with (first | (go_at_call 30; refine (rguard_any c.g c.n hg _).mono ?_; rintro e w' ⟨rfl, rfl⟩) | (go_at_call 29; refine (rlimited_any c.k _).mono ?_; rintro e w' ⟨rfl, rfl⟩) | (go_at_call 28; refine (rbadged_any c.k _).mono ?_; rintro e w' ⟨rfl, rfl⟩))
        all_goals (go_ret; exact ⟨rfl, rfl⟩)
    · clear a7
      by_cases hb : c.b = 0
      · have hb1' : decide (0 < (c.b : Int)) = false := decide_eq_false (by omega)
        have hb2' : decide (0 < c.b) = false := decide_eq_false (by omega)
        clear hb a9
        go_enter Try.func23, Try.ntmps23
        go_wp2_with (first | (go_at_call 30; refine (rguard_any c.g c.n hg _).mono ?_; rintro e w' ⟨rfl, rfl⟩) | (go_at_call 29; refine (rlimited_any c.k _).mono ?_; rintro e w' ⟨rfl, rfl⟩) | (go_at_call 28; refine (rbadged_any c.k _).mono ?_; rintro e w' ⟨rfl, rfl⟩))
        all_goals (go_ret; exact ⟨rfl, rfl⟩)
      · have hb1' : decide (0 < (c.b : Int)) = true := decide_eq_true (by omega)
        have hb2' : decide (0 < c.b) = true := decide_eq_true (by omega)
        have hb3 : badB c.k = true := by
          cases h0 : badB c.k
          · exact absurd ⟨by omega, h0⟩ a9
          · rfl
        clear hb a9
        go_enter Try.func23, Try.ntmps23
        go_wp2_with (first | (go_at_call 30; refine (rguard_any c.g c.n hg _).mono ?_; rintro e w' ⟨rfl, rfl⟩) | (go_at_call 29; refine (rlimited_any c.k _).mono ?_; rintro e w' ⟨rfl, rfl⟩) | (go_at_call 28; refine (rbadged_any c.k _).mono ?_; rintro e w' ⟨rfl, rfl⟩))
        all_goals (go_ret; exact ⟨rfl, rfl⟩)
  by_cases b2 : c.k ≠ 2 ∧ c.n ≠ 0
  · obtain ⟨b21, b22⟩ := b2
    have b23 : (c.k != 2) = true := by simp [b21]
    have b24 : (c.n != 0) = true := by simp [b22]
    have b25 : ¬ 0 < c.g := fun h => b1 ⟨b21, h⟩
    have hg1' : decide (0 < (c.g : Int)) = false := decide_eq_false (by omega)
    have hg2' : decide (0 < c.g) = false := decide_eq_false (by omega)
    clear HN b1 b21 b22 b25
    cases hl : limB c.k
    · have a8 : (c.r != 7) = false := by
        by_cases h7 : c.r = 7
        · simp [h7]
        · exact absurd ⟨hl, h7⟩ a7
      clear a7
      by_cases hb : c.b = 0
      · have hb1' : decide (0 < (c.b : Int)) = false := decide_eq_false (by omega)
        have hb2' : decide (0 < c.b) = false := decide_eq_false (by omega)
        clear hb a9
        go_enter Try.func23, Try.ntmps23
        go_wp2_with (first | (go_at_call 30; refine (rguard_any c.g c.n hg _).mono ?_; rintro e w' ⟨rfl, rfl⟩) | (go_at_call 29; refine (rlimited_any c.k _).mono ?_; rintro e w' ⟨rfl, rfl⟩) | (go_at_call 28; refine (rbadged_any c.k _).mono ?_; rintro e w' ⟨rfl, rfl⟩))
        all_goals (go_ret; exact ⟨rfl, rfl⟩)
      · have hb1' : decide (0 < (c.b : Int)) = true := decide_eq_true (by omega)
        have hb2' : decide (0 < c.b) = true := decide_eq_true (by omega)
        have hb3 : badB c.k = true := by
          cases h0 : badB c.k
          · exact absurd ⟨by omega, h0⟩ a9
          · rfl
        clear hb a9
        go_enter Try.func23, Try.ntmps23
        go_wp2_with (first | (go_at_call 30; refine (rguard_any c.g c.n hg _).mono ?_; rintro e w' ⟨rfl, rfl⟩) | (go_at_call 29; refine (rlimited_any c.k _).mono ?_; rintro e w' ⟨rfl, rfl⟩) | (go_at_call 28; refine (rbadged_any c.k _).mono ?_; rintro e w' ⟨rfl, rfl⟩))
        all_goals (go_ret; exact ⟨rfl, rfl⟩)
    · clear a7
      by_cases hb : c.b = 0
      · have hb1' : decide (0 < (c.b : Int)) = false := decide_eq_false (by omega)
        have hb2' : decide (0 < c.b) = false := decide_eq_false (by omega)
        clear hb a9
        go_enter Try.func23, Try.ntmps23
        go_wp2_with (first | (go_at_call 30; refine (rguard_any c.g c.n hg _).mono ?_; rintro e w' ⟨rfl, rfl⟩) | (go_at_call 29; refine (rlimited_any c.k _).mono ?_; rintro e w' ⟨rfl, rfl⟩) | (go_at_call 28; refine (rbadged_any c.k _).mono ?_; rintro e w' ⟨rfl, rfl⟩))
        all_goals (go_ret; exact ⟨rfl, rfl⟩)
      · have hb1' : decide (0 < (c.b : Int)) = true := decide_eq_true (by omega)
        have hb2' : decide (0 < c.b) = true := decide_eq_true (by omega)
        have hb3 : badB c.k = true := by
          cases h0 : badB c.k
          · exact absurd ⟨by omega, h0⟩ a9
          · rfl
        clear hb a9
        go_enter Try.func23, Try.ntmps23
        go_wp2_with (first | (go_at_call 30; refine (rguard_any c.g c.n hg _).mono ?_; rintro e w' ⟨rfl, rfl⟩) | (go_at_call 29; refine (rlimited_any c.k _).mono ?_; rintro e w' ⟨rfl, rfl⟩) | (go_at_call 28; refine (rbadged_any c.k _).mono ?_; rintro e w' ⟨rfl, rfl⟩))
        all_goals (go_ret; exact ⟨rfl, rfl⟩)
  cases hgd : guaB c.g c.n
  · by_cases b3 : c.k = 2
    · have b31 : (c.k != 2) = false := by simp [b3]
      clear HN b1 b2 b3
      cases hl : limB c.k
      · have a8 : (c.r != 7) = false := by
          by_cases h7 : c.r = 7
          · simp [h7]
          · exact absurd ⟨hl, h7⟩ a7
        clear a7
        by_cases hb : c.b = 0
        · have hb1' : decide (0 < (c.b : Int)) = false := decide_eq_false (by omega)
          have hb2' : decide (0 < c.b) = false := decide_eq_false (by omega)
          clear hb a9
          go_enter Try.func23, Try.ntmps23
          go_wp2_with (first | (go_at_call 30; refine (rguard_any c.g c.n hg _).mono ?_; rintro e w' ⟨rfl, rfl⟩) | (go_at_call 29; refine (rlimited_any c.k _).mono ?_; rintro e w' ⟨rfl, rfl⟩) | (go_at_call 28; refine (rbadged_any c.k _).mono ?_; rintro e w' ⟨rfl, rfl⟩))
          all_goals (go_ret; exact ⟨rfl, rfl⟩)
        · have hb1' : decide (0 < (c.b : Int)) = true := decide_eq_true (by omega)
          have hb2' : decide (0 < c.b) = true := decide_eq_true (by omega)
          have hb3 : badB c.k = true := by
            cases h0 : badB c.k
            · exact absurd ⟨by omega, h0⟩ a9
            · rfl
          clear hb a9
          go_enter Try.func23, Try.ntmps23
          go_wp2_with (first | (go_at_call 30; refine (rguard_any c.g c.n hg _).mono ?_; rintro e w' ⟨rfl, rfl⟩) | (go_at_call 29; refine (rlimited_any c.k _).mono ?_; rintro e w' ⟨rfl, rfl⟩) | (go_at_call 28; refine (rbadged_any c.k _).mono ?_; rintro e w' ⟨rfl, rfl⟩))
          all_goals (go_ret; exact ⟨rfl, rfl⟩)
      · clear a7
        by_cases hb : c.b = 0
        · have hb1' : decide (0 < (c.b : Int)) = false := decide_eq_false (by omega)
          have hb2' : decide (0 < c.b) = false := decide_eq_false (by omega)
          clear hb a9
          go_enter Try.func23, Try.ntmps23
          go_wp2_with (first | (go_at_call 30; refine (rguard_any c.g c.n hg _).mono ?_; rintro e w' ⟨rfl, rfl⟩) | (go_at_call 29; refine (rlimited_any c.k _).mono ?_; rintro e w' ⟨rfl, rfl⟩) | (go_at_call 28; refine (rbadged_any c.k _).mono ?_; rintro e w' ⟨rfl, rfl⟩))
          all_goals (go_ret; exact ⟨rfl, rfl⟩)
        · have hb1' : decide (0 < (c.b : Int)) = true := decide_eq_true (by omega)
          have hb2' : decide (0 < c.b) = true := decide_eq_true (by omega)
          have hb3 : badB c.k = true := by
            cases h0 : badB c.k
            · exact absurd ⟨by omega, h0⟩ a9
            · rfl
          clear hb a9
          go_enter Try.func23, Try.ntmps23
          go_wp2_with (first | (go_at_call 30; refine (rguard_any c.g c.n hg _).mono ?_; rintro e w' ⟨rfl, rfl⟩) | (go_at_call 29; refine (rlimited_any c.k _).mono ?_; rintro e w' ⟨rfl, rfl⟩) | (go_at_call 28; refine (rbadged_any c.k _).mono ?_; rintro e w' ⟨rfl, rfl⟩))
          all_goals (go_ret; exact ⟨rfl, rfl⟩)
    · have h1 : ¬ 0 < c.g := fun h => b1 ⟨b3, h⟩
      have h2 : c.n = 0 := by
        by_cases h : c.n = 0
        · exact h
        · exact absurd ⟨b3, h⟩ b2
      have h3 : guaB c.g c.n = true := by
        rw [h2, show c.g = 0 by omega]
        rfl
      rw [h3] at hgd
      cases hgd
  refine (HN.out ⟨by omega, by omega, by omega, by omega, hr, hgd, ?_, ?_, ?_⟩).elim
  · cases hl : limB c.k
    · by_cases h7 : c.r = 7
      · exact .inr h7
      · exact absurd ⟨hl, h7⟩ a7
    · exact .inl rfl
  · cases hb0 : badB c.k
    · left
      have : ¬ 0 < c.b := fun h => a9 ⟨h, hb0⟩
      omega
    · exact .inr rfl
  · by_cases h : c.n = 0
    · exact .inl h
    · by_cases h2 : c.k = 2
      · exact .inr h2
      · exact absurd ⟨h2, h⟩ b2

set_option maxRecDepth 100000 in
set_option maxHeartbeats 12800000 in
theorem rcheck_ok (c : Cp) (hg : Word c.g) (hok : c.Ok) (w : World) :
    Calls Try.prog 23 #[(.agg #[.int .i64 c.k, .int .i64 c.o, .int .i64 c.r, .int .u64 c.b, .int .u64 c.g, .int .i64 c.n])] w fun e w' => e = .returned (.int .i64 0) ∧ w' = w.alloc (.cells #[.int .i64 c.k, .int .i64 c.o, .int .i64 c.r, .int .u64 c.b, .int .u64 c.g, .int .i64 c.n] 24) := by
  rcases hok with hz | hf
  · have heq := eq_zero c true hz
    have hz' := of_decide_eq_true hz
    obtain ⟨k, o, r, b, g, n⟩ := c
    obtain ⟨rfl, rfl, rfl, rfl, rfl, rfl⟩ := hz'
    clear hz hg
    go_enter Try.func23, Try.ntmps23
    go_wp2_with (first | (go_at_call 30; refine (rguard_any 0 0 ⟨by decide⟩ _).mono ?_; rintro e w' ⟨rfl, rfl⟩) | (go_at_call 29; refine (rlimited_any 0 _).mono ?_; rintro e w' ⟨rfl, rfl⟩) | (go_at_call 28; refine (rbadged_any 0 _).mono ?_; rintro e w' ⟨rfl, rfl⟩))
    all_goals (go_ret; exact ⟨rfl, rfl⟩)
  · have hz : eqB c zero = false := decide_eq_false (fun h => by have h1 := hf.k1; have h2 : c.k = 0 := h.1; omega)
    have heq := eq_zero c false hz
    obtain ⟨k1, k2, o1, o2, hr, hgd, hl, hb, hn⟩ := hf
    have hk0 : (c.k == 0) = false := beq_eq_false_iff_ne.2 (by omega)
    have hr' := of_decide_eq_true hr
    have hgd' := of_decide_eq_true hgd
    have hg0 : c.n = 0 → c.g = 0 := fun h => by
      have := hgd'.2.2
      rw [h] at this
      simpa using this
    clear hz hgd'
    cases hl1 : limB c.k
    · have hl2 : (c.r != 7) = false := by
        rcases hl with hl | hl
        · rw [hl1] at hl; cases hl
        · simp [hl]
      clear hl
      by_cases hb1 : c.b = 0
      · have hb1' : decide (0 < (c.b : Int)) = false := decide_eq_false (by omega)
        have hb2' : decide (0 < c.b) = false := decide_eq_false (by omega)
        clear hb hb1
        rcases hn with hn | hn
        · have hn1 : (c.n != 0) = false := by simp [hn]
          have hg3 := hg0 hn
          have hg1' : decide (0 < (c.g : Int)) = false := decide_eq_false (by omega)
          have hg2' : decide (0 < c.g) = false := decide_eq_false (by omega)
          clear hn hg0 hg3
          by_cases h2 : c.k = 2
          · have h3 : (c.k != 2) = false := by simp [h2]
            clear h2
            go_enter Try.func23, Try.ntmps23
            go_wp2_with (first | (go_at_call 30; refine (rguard_any c.g c.n hg _).mono ?_; rintro e w' ⟨rfl, rfl⟩) | (go_at_call 29; refine (rlimited_any c.k _).mono ?_; rintro e w' ⟨rfl, rfl⟩) | (go_at_call 28; refine (rbadged_any c.k _).mono ?_; rintro e w' ⟨rfl, rfl⟩))
            all_goals (go_ret; exact ⟨rfl, rfl⟩)
          · have h3 : (c.k != 2) = true := by simp [h2]
            clear h2
            go_enter Try.func23, Try.ntmps23
            go_wp2_with (first | (go_at_call 30; refine (rguard_any c.g c.n hg _).mono ?_; rintro e w' ⟨rfl, rfl⟩) | (go_at_call 29; refine (rlimited_any c.k _).mono ?_; rintro e w' ⟨rfl, rfl⟩) | (go_at_call 28; refine (rbadged_any c.k _).mono ?_; rintro e w' ⟨rfl, rfl⟩))
            all_goals (go_ret; exact ⟨rfl, rfl⟩)
        · have hn1 : (c.k != 2) = false := by simp [hn]
          clear hn hg0
          go_enter Try.func23, Try.ntmps23
          go_wp2_with (first | (go_at_call 30; refine (rguard_any c.g c.n hg _).mono ?_; rintro e w' ⟨rfl, rfl⟩) | (go_at_call 29; refine (rlimited_any c.k _).mono ?_; rintro e w' ⟨rfl, rfl⟩) | (go_at_call 28; refine (rbadged_any c.k _).mono ?_; rintro e w' ⟨rfl, rfl⟩))
          all_goals (go_ret; exact ⟨rfl, rfl⟩)
      · have hb1' : decide (0 < (c.b : Int)) = true := decide_eq_true (by omega)
        have hb2' : decide (0 < c.b) = true := decide_eq_true (by omega)
        have hb3 : badB c.k = true := by
          rcases hb with hb | hb
          · exact absurd hb hb1
          · exact hb
        clear hb hb1
        rcases hn with hn | hn
        · have hn1 : (c.n != 0) = false := by simp [hn]
          have hg3 := hg0 hn
          have hg1' : decide (0 < (c.g : Int)) = false := decide_eq_false (by omega)
          have hg2' : decide (0 < c.g) = false := decide_eq_false (by omega)
          clear hn hg0 hg3
          by_cases h2 : c.k = 2
          · have h3 : (c.k != 2) = false := by simp [h2]
            clear h2
            go_enter Try.func23, Try.ntmps23
            go_wp2_with (first | (go_at_call 30; refine (rguard_any c.g c.n hg _).mono ?_; rintro e w' ⟨rfl, rfl⟩) | (go_at_call 29; refine (rlimited_any c.k _).mono ?_; rintro e w' ⟨rfl, rfl⟩) | (go_at_call 28; refine (rbadged_any c.k _).mono ?_; rintro e w' ⟨rfl, rfl⟩))
            all_goals (go_ret; exact ⟨rfl, rfl⟩)
          · have h3 : (c.k != 2) = true := by simp [h2]
            clear h2
            go_enter Try.func23, Try.ntmps23
            go_wp2_with (first | (go_at_call 30; refine (rguard_any c.g c.n hg _).mono ?_; rintro e w' ⟨rfl, rfl⟩) | (go_at_call 29; refine (rlimited_any c.k _).mono ?_; rintro e w' ⟨rfl, rfl⟩) | (go_at_call 28; refine (rbadged_any c.k _).mono ?_; rintro e w' ⟨rfl, rfl⟩))
            all_goals (go_ret; exact ⟨rfl, rfl⟩)
        · have hn1 : (c.k != 2) = false := by simp [hn]
          clear hn hg0
          go_enter Try.func23, Try.ntmps23
          go_wp2_with (first | (go_at_call 30; refine (rguard_any c.g c.n hg _).mono ?_; rintro e w' ⟨rfl, rfl⟩) | (go_at_call 29; refine (rlimited_any c.k _).mono ?_; rintro e w' ⟨rfl, rfl⟩) | (go_at_call 28; refine (rbadged_any c.k _).mono ?_; rintro e w' ⟨rfl, rfl⟩))
          all_goals (go_ret; exact ⟨rfl, rfl⟩)
    · clear hl
      by_cases hb1 : c.b = 0
      · have hb1' : decide (0 < (c.b : Int)) = false := decide_eq_false (by omega)
        have hb2' : decide (0 < c.b) = false := decide_eq_false (by omega)
        clear hb hb1
        rcases hn with hn | hn
        · have hn1 : (c.n != 0) = false := by simp [hn]
          have hg3 := hg0 hn
          have hg1' : decide (0 < (c.g : Int)) = false := decide_eq_false (by omega)
          have hg2' : decide (0 < c.g) = false := decide_eq_false (by omega)
          clear hn hg0 hg3
          by_cases h2 : c.k = 2
          · have h3 : (c.k != 2) = false := by simp [h2]
            clear h2
            go_enter Try.func23, Try.ntmps23
            go_wp2_with (first | (go_at_call 30; refine (rguard_any c.g c.n hg _).mono ?_; rintro e w' ⟨rfl, rfl⟩) | (go_at_call 29; refine (rlimited_any c.k _).mono ?_; rintro e w' ⟨rfl, rfl⟩) | (go_at_call 28; refine (rbadged_any c.k _).mono ?_; rintro e w' ⟨rfl, rfl⟩))
            all_goals (go_ret; exact ⟨rfl, rfl⟩)
          · have h3 : (c.k != 2) = true := by simp [h2]
            clear h2
            go_enter Try.func23, Try.ntmps23
            go_wp2_with (first | (go_at_call 30; refine (rguard_any c.g c.n hg _).mono ?_; rintro e w' ⟨rfl, rfl⟩) | (go_at_call 29; refine (rlimited_any c.k _).mono ?_; rintro e w' ⟨rfl, rfl⟩) | (go_at_call 28; refine (rbadged_any c.k _).mono ?_; rintro e w' ⟨rfl, rfl⟩))
            all_goals (go_ret; exact ⟨rfl, rfl⟩)
        · have hn1 : (c.k != 2) = false := by simp [hn]
          clear hn hg0
          go_enter Try.func23, Try.ntmps23
          go_wp2_with (first | (go_at_call 30; refine (rguard_any c.g c.n hg _).mono ?_; rintro e w' ⟨rfl, rfl⟩) | (go_at_call 29; refine (rlimited_any c.k _).mono ?_; rintro e w' ⟨rfl, rfl⟩) | (go_at_call 28; refine (rbadged_any c.k _).mono ?_; rintro e w' ⟨rfl, rfl⟩))
          all_goals (go_ret; exact ⟨rfl, rfl⟩)
      · have hb1' : decide (0 < (c.b : Int)) = true := decide_eq_true (by omega)
        have hb2' : decide (0 < c.b) = true := decide_eq_true (by omega)
        have hb3 : badB c.k = true := by
          rcases hb with hb | hb
          · exact absurd hb hb1
          · exact hb
        clear hb hb1
        rcases hn with hn | hn
        · have hn1 : (c.n != 0) = false := by simp [hn]
          have hg3 := hg0 hn
          have hg1' : decide (0 < (c.g : Int)) = false := decide_eq_false (by omega)
          have hg2' : decide (0 < c.g) = false := decide_eq_false (by omega)
          clear hn hg0 hg3
          by_cases h2 : c.k = 2
          · have h3 : (c.k != 2) = false := by simp [h2]
            clear h2
            go_enter Try.func23, Try.ntmps23
            go_wp2_with (first | (go_at_call 30; refine (rguard_any c.g c.n hg _).mono ?_; rintro e w' ⟨rfl, rfl⟩) | (go_at_call 29; refine (rlimited_any c.k _).mono ?_; rintro e w' ⟨rfl, rfl⟩) | (go_at_call 28; refine (rbadged_any c.k _).mono ?_; rintro e w' ⟨rfl, rfl⟩))
            all_goals (go_ret; exact ⟨rfl, rfl⟩)
          · have h3 : (c.k != 2) = true := by simp [h2]
            clear h2
            go_enter Try.func23, Try.ntmps23
            go_wp2_with (first | (go_at_call 30; refine (rguard_any c.g c.n hg _).mono ?_; rintro e w' ⟨rfl, rfl⟩) | (go_at_call 29; refine (rlimited_any c.k _).mono ?_; rintro e w' ⟨rfl, rfl⟩) | (go_at_call 28; refine (rbadged_any c.k _).mono ?_; rintro e w' ⟨rfl, rfl⟩))
            all_goals (go_ret; exact ⟨rfl, rfl⟩)
        · have hn1 : (c.k != 2) = false := by simp [hn]
          clear hn hg0
          go_enter Try.func23, Try.ntmps23
          go_wp2_with (first | (go_at_call 30; refine (rguard_any c.g c.n hg _).mono ?_; rintro e w' ⟨rfl, rfl⟩) | (go_at_call 29; refine (rlimited_any c.k _).mono ?_; rintro e w' ⟨rfl, rfl⟩) | (go_at_call 28; refine (rbadged_any c.k _).mono ?_; rintro e w' ⟨rfl, rfl⟩))
          all_goals (go_ret; exact ⟨rfl, rfl⟩)

end Go.Proofs.Ythgiofgedeijoaa
