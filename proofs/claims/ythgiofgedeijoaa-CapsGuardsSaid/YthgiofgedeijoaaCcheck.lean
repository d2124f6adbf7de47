/- Contracts of Check over the translation: the program's and the reference's. -/
import Derived.Test.YthgiofgedeijoaaCsmall
import Derived.Test.YthgiofgedeijoaaTwo
namespace Go.Proofs.Ythgiofgedeijoaa
open Go.RowKit Wd Cd

theorem eq_zero (c : Cp) (b : Bool) (h : eqB c zero = b) (w : World) : (Op.equalIn 10000 24 (.agg #[.int .i64 c.k, .int .i64 c.o, .int .i64 c.r, .int .u64 c.b, .int .u64 c.g, .int .i64 c.n]) (.agg #[.int .i64 0, .int .i64 0, .int .i64 0, .int .u64 0, .int .u64 0, .int .i64 0])).run Try.prog w = .ok b w := by
  rw [← h]
  exact eq_caps c zero w

set_option maxRecDepth 100000 in
set_option maxHeartbeats 6400000 in
theorem check_bad (c : Cp) (hg : Word c.g) (hno : ¬ c.Ok) (w : World) :
    Calls Try.prog 14 #[(.agg #[.int .i64 c.k, .int .i64 c.o, .int .i64 c.r, .int .u64 c.b, .int .u64 c.g, .int .i64 c.n])] w fun e w' => e = .returned (.int .i64 40) ∧ w' = w.alloc (.cells #[.int .i64 c.k, .int .i64 c.o, .int .i64 c.r, .int .u64 c.b, .int .u64 c.g, .int .i64 c.n] 24) := by
  have hz : eqB c zero = false := by
    cases h0 : eqB c zero
    · rfl
    · exact absurd (Or.inl h0) hno
  have heq := eq_zero c false hz
  have HN := Lib.hid (fun hf => hno (Or.inr hf))
  clear hno hz
  by_cases a1 : c.k < 1
  · clear HN
    go_enter Try.func14, Try.ntmps14
    go_wp2_with (first | (go_at_call 24; refine (rights_any c.r _).mono ?_; rintro e w' ⟨rfl, rfl⟩) | (go_at_call 27; refine (guard_any c.g c.n hg _).mono ?_; rintro e w' ⟨rfl, rfl⟩) | (go_at_call 26; refine (limited_any c.k _).mono ?_; rintro e w' ⟨rfl, rfl⟩) | (go_at_call 25; refine (badged_any c.k _).mono ?_; rintro e w' ⟨rfl, rfl⟩))
    go_ret
    exact ⟨rfl, rfl⟩
  by_cases a2 : 9 < c.k
  · clear HN
    go_enter Try.func14, Try.ntmps14
    go_wp2_with (first | (go_at_call 24; refine (rights_any c.r _).mono ?_; rintro e w' ⟨rfl, rfl⟩) | (go_at_call 27; refine (guard_any c.g c.n hg _).mono ?_; rintro e w' ⟨rfl, rfl⟩) | (go_at_call 26; refine (limited_any c.k _).mono ?_; rintro e w' ⟨rfl, rfl⟩) | (go_at_call 25; refine (badged_any c.k _).mono ?_; rintro e w' ⟨rfl, rfl⟩))
    go_ret
    exact ⟨rfl, rfl⟩
  by_cases a3 : c.o < 0
  · clear HN
    go_enter Try.func14, Try.ntmps14
    go_wp2_with (first | (go_at_call 24; refine (rights_any c.r _).mono ?_; rintro e w' ⟨rfl, rfl⟩) | (go_at_call 27; refine (guard_any c.g c.n hg _).mono ?_; rintro e w' ⟨rfl, rfl⟩) | (go_at_call 26; refine (limited_any c.k _).mono ?_; rintro e w' ⟨rfl, rfl⟩) | (go_at_call 25; refine (badged_any c.k _).mono ?_; rintro e w' ⟨rfl, rfl⟩))
    go_ret
    exact ⟨rfl, rfl⟩
  by_cases a4 : 2147483647 < c.o
  · clear HN
    go_enter Try.func14, Try.ntmps14
    go_wp2_with (first | (go_at_call 24; refine (rights_any c.r _).mono ?_; rintro e w' ⟨rfl, rfl⟩) | (go_at_call 27; refine (guard_any c.g c.n hg _).mono ?_; rintro e w' ⟨rfl, rfl⟩) | (go_at_call 26; refine (limited_any c.k _).mono ?_; rintro e w' ⟨rfl, rfl⟩) | (go_at_call 25; refine (badged_any c.k _).mono ?_; rintro e w' ⟨rfl, rfl⟩))
    go_ret
    exact ⟨rfl, rfl⟩
  cases hr : rigB c.r
  · clear HN
    go_enter Try.func14, Try.ntmps14
    go_wp2_with (first | (go_at_call 24; refine (rights_any c.r _).mono ?_; rintro e w' ⟨rfl, rfl⟩) | (go_at_call 27; refine (guard_any c.g c.n hg _).mono ?_; rintro e w' ⟨rfl, rfl⟩) | (go_at_call 26; refine (limited_any c.k _).mono ?_; rintro e w' ⟨rfl, rfl⟩) | (go_at_call 25; refine (badged_any c.k _).mono ?_; rintro e w' ⟨rfl, rfl⟩))
    go_ret
    exact ⟨rfl, rfl⟩
  have hr' := of_decide_eq_true hr
  cases hgd : guaB c.g c.n
  · clear HN
    go_enter Try.func14, Try.ntmps14
    go_wp2_with (first | (go_at_call 24; refine (rights_any c.r _).mono ?_; rintro e w' ⟨rfl, rfl⟩) | (go_at_call 27; refine (guard_any c.g c.n hg _).mono ?_; rintro e w' ⟨rfl, rfl⟩) | (go_at_call 26; refine (limited_any c.k _).mono ?_; rintro e w' ⟨rfl, rfl⟩) | (go_at_call 25; refine (badged_any c.k _).mono ?_; rintro e w' ⟨rfl, rfl⟩))
    go_ret
    exact ⟨rfl, rfl⟩
  have hn' := (of_decide_eq_true hgd).1
  by_cases a5 : limB c.k = false ∧ c.r ≤ 6
  · obtain ⟨a51, a52⟩ := a5
    clear HN
    go_enter Try.func14, Try.ntmps14
    go_wp2_with (first | (go_at_call 24; refine (rights_any c.r _).mono ?_; rintro e w' ⟨rfl, rfl⟩) | (go_at_call 27; refine (guard_any c.g c.n hg _).mono ?_; rintro e w' ⟨rfl, rfl⟩) | (go_at_call 26; refine (limited_any c.k _).mono ?_; rintro e w' ⟨rfl, rfl⟩) | (go_at_call 25; refine (badged_any c.k _).mono ?_; rintro e w' ⟨rfl, rfl⟩))
    go_ret
    exact ⟨rfl, rfl⟩
  by_cases a6 : 1 ≤ c.b ∧ badB c.k = false
  · obtain ⟨a61, a62⟩ := a6
    clear HN
    cases hl : limB c.k
    · have a7 : 7 ≤ c.r := by
        have : ¬ c.r ≤ 6 := fun h => a5 ⟨hl, h⟩
        omega
      clear a5
      go_enter Try.func14, Try.ntmps14
      go_wp2_with (first | (go_at_call 24; refine (rights_any c.r _).mono ?_; rintro e w' ⟨rfl, rfl⟩) | (go_at_call 27; refine (guard_any c.g c.n hg _).mono ?_; rintro e w' ⟨rfl, rfl⟩) | (go_at_call 26; refine (limited_any c.k _).mono ?_; rintro e w' ⟨rfl, rfl⟩) | (go_at_call 25; refine (badged_any c.k _).mono ?_; rintro e w' ⟨rfl, rfl⟩))
      go_ret
      exact ⟨rfl, rfl⟩
    · clear a5
      go_enter Try.func14, Try.ntmps14
      go_wp2_with (first | (go_at_call 24; refine (rights_any c.r _).mono ?_; rintro e w' ⟨rfl, rfl⟩) | (go_at_call 27; refine (guard_any c.g c.n hg _).mono ?_; rintro e w' ⟨rfl, rfl⟩) | (go_at_call 26; refine (limited_any c.k _).mono ?_; rintro e w' ⟨rfl, rfl⟩) | (go_at_call 25; refine (badged_any c.k _).mono ?_; rintro e w' ⟨rfl, rfl⟩))
      go_ret
      exact ⟨rfl, rfl⟩
  by_cases a7 : 1 ≤ c.n ∧ (c.k < 2 ∨ 2 < c.k)
  · obtain ⟨a71, a72⟩ := a7
    have a73 : (c.k != 2) = true := by simp; omega
    have a74 : (c.n != 0) = true := by simp; omega
    clear HN a72
    cases hl : limB c.k
    · have a8 : 7 ≤ c.r := by
        have : ¬ c.r ≤ 6 := fun h => a5 ⟨hl, h⟩
        omega
      clear a5
      by_cases a9 : 1 ≤ c.b
      · have hb : badB c.k = true := by
          cases hb0 : badB c.k
          · exact absurd ⟨a9, hb0⟩ a6
          · rfl
        clear a6
        go_enter Try.func14, Try.ntmps14
        go_wp2_with (first | (go_at_call 24; refine (rights_any c.r _).mono ?_; rintro e w' ⟨rfl, rfl⟩) | (go_at_call 27; refine (guard_any c.g c.n hg _).mono ?_; rintro e w' ⟨rfl, rfl⟩) | (go_at_call 26; refine (limited_any c.k _).mono ?_; rintro e w' ⟨rfl, rfl⟩) | (go_at_call 25; refine (badged_any c.k _).mono ?_; rintro e w' ⟨rfl, rfl⟩))
        go_ret
        exact ⟨rfl, rfl⟩
      · have hb0' : ((c.b : Int) != 0) = false := by simp; omega
        clear a6 a9
        go_enter Try.func14, Try.ntmps14
        go_wp2_with (first | (go_at_call 24; refine (rights_any c.r _).mono ?_; rintro e w' ⟨rfl, rfl⟩) | (go_at_call 27; refine (guard_any c.g c.n hg _).mono ?_; rintro e w' ⟨rfl, rfl⟩) | (go_at_call 26; refine (limited_any c.k _).mono ?_; rintro e w' ⟨rfl, rfl⟩) | (go_at_call 25; refine (badged_any c.k _).mono ?_; rintro e w' ⟨rfl, rfl⟩))
        go_ret
        exact ⟨rfl, rfl⟩
    · clear a5
      by_cases a9 : 1 ≤ c.b
      · have hb : badB c.k = true := by
          cases hb0 : badB c.k
          · exact absurd ⟨a9, hb0⟩ a6
          · rfl
        clear a6
        go_enter Try.func14, Try.ntmps14
        go_wp2_with (first | (go_at_call 24; refine (rights_any c.r _).mono ?_; rintro e w' ⟨rfl, rfl⟩) | (go_at_call 27; refine (guard_any c.g c.n hg _).mono ?_; rintro e w' ⟨rfl, rfl⟩) | (go_at_call 26; refine (limited_any c.k _).mono ?_; rintro e w' ⟨rfl, rfl⟩) | (go_at_call 25; refine (badged_any c.k _).mono ?_; rintro e w' ⟨rfl, rfl⟩))
        go_ret
        exact ⟨rfl, rfl⟩
      · have hb0' : ((c.b : Int) != 0) = false := by simp; omega
        clear a6 a9
        go_enter Try.func14, Try.ntmps14
        go_wp2_with (first | (go_at_call 24; refine (rights_any c.r _).mono ?_; rintro e w' ⟨rfl, rfl⟩) | (go_at_call 27; refine (guard_any c.g c.n hg _).mono ?_; rintro e w' ⟨rfl, rfl⟩) | (go_at_call 26; refine (limited_any c.k _).mono ?_; rintro e w' ⟨rfl, rfl⟩) | (go_at_call 25; refine (badged_any c.k _).mono ?_; rintro e w' ⟨rfl, rfl⟩))
        go_ret
        exact ⟨rfl, rfl⟩
  refine (HN.out ⟨by omega, by omega, by omega, by omega, hr, hgd, ?_, ?_, by omega⟩).elim
  · cases hl : limB c.k
    · right
      have : ¬ c.r ≤ 6 := fun h => a5 ⟨hl, h⟩
      omega
    · exact .inl rfl
  · cases hb0 : badB c.k
    · left
      have : ¬ 1 ≤ c.b := fun h => a6 ⟨h, hb0⟩
      omega
    · exact .inr rfl

set_option maxRecDepth 100000 in
set_option maxHeartbeats 6400000 in
theorem check_ok (c : Cp) (hg : Word c.g) (hok : c.Ok) (w : World) :
    Calls Try.prog 14 #[(.agg #[.int .i64 c.k, .int .i64 c.o, .int .i64 c.r, .int .u64 c.b, .int .u64 c.g, .int .i64 c.n])] w fun e w' => e = .returned (.int .i64 0) ∧ w' = w.alloc (.cells #[.int .i64 c.k, .int .i64 c.o, .int .i64 c.r, .int .u64 c.b, .int .u64 c.g, .int .i64 c.n] 24) := by
  rcases hok with hz | hf
  · have heq := eq_zero c true hz
    have hz' := of_decide_eq_true hz
    obtain ⟨k, o, r, b, g, n⟩ := c
    obtain ⟨rfl, rfl, rfl, rfl, rfl, rfl⟩ := hz'
    clear hz hg
    go_enter Try.func14, Try.ntmps14
    go_wp2_with (first | (go_at_call 24; refine (rights_any 0 _).mono ?_; rintro e w' ⟨rfl, rfl⟩) | (go_at_call 27; refine (guard_any 0 0 ⟨by decide⟩ _).mono ?_; rintro e w' ⟨rfl, rfl⟩) | (go_at_call 26; refine (limited_any 0 _).mono ?_; rintro e w' ⟨rfl, rfl⟩) | (go_at_call 25; refine (badged_any 0 _).mono ?_; rintro e w' ⟨rfl, rfl⟩))
    go_ret
    exact ⟨rfl, rfl⟩
  · have hz : eqB c zero = false := decide_eq_false (fun h => by have h1 := hf.k1; have h2 : c.k = 0 := h.1; omega)
    have heq := eq_zero c false hz
    obtain ⟨k1, k2, o1, o2, hr, hgd, hl, hb, hn⟩ := hf
    have hr' := of_decide_eq_true hr
    have hn' := (of_decide_eq_true hgd).1
    clear hz
    cases hl1 : limB c.k
    · have hl2 : 7 ≤ c.r := by
        rcases hl with hl | hl
        · rw [hl1] at hl; cases hl
        · omega
      clear hl
      by_cases hb1 : c.b = 0
      · have hb0 : ((c.b : Int) != 0) = false := by simp [hb1]
        clear hb hb1
        rcases hn with hn | hn
        · have hn1 : (c.n != 0) = false := by simp [hn]
          clear hn
          go_enter Try.func14, Try.ntmps14
          go_wp2_with (first | (go_at_call 24; refine (rights_any c.r _).mono ?_; rintro e w' ⟨rfl, rfl⟩) | (go_at_call 27; refine (guard_any c.g c.n hg _).mono ?_; rintro e w' ⟨rfl, rfl⟩) | (go_at_call 26; refine (limited_any c.k _).mono ?_; rintro e w' ⟨rfl, rfl⟩) | (go_at_call 25; refine (badged_any c.k _).mono ?_; rintro e w' ⟨rfl, rfl⟩))
          go_ret
          exact ⟨rfl, rfl⟩
        · have hn1 : (c.k != 2) = false := by simp [hn]
          clear hn
          by_cases hn3 : c.n = 0
          · have hn4 : (c.n != 0) = false := by simp [hn3]
            clear hn3
            go_enter Try.func14, Try.ntmps14
            go_wp2_with (first | (go_at_call 24; refine (rights_any c.r _).mono ?_; rintro e w' ⟨rfl, rfl⟩) | (go_at_call 27; refine (guard_any c.g c.n hg _).mono ?_; rintro e w' ⟨rfl, rfl⟩) | (go_at_call 26; refine (limited_any c.k _).mono ?_; rintro e w' ⟨rfl, rfl⟩) | (go_at_call 25; refine (badged_any c.k _).mono ?_; rintro e w' ⟨rfl, rfl⟩))
            go_ret
            exact ⟨rfl, rfl⟩
          · have hn4 : (c.n != 0) = true := by simp [hn3]
            clear hn3
            go_enter Try.func14, Try.ntmps14
            go_wp2_with (first | (go_at_call 24; refine (rights_any c.r _).mono ?_; rintro e w' ⟨rfl, rfl⟩) | (go_at_call 27; refine (guard_any c.g c.n hg _).mono ?_; rintro e w' ⟨rfl, rfl⟩) | (go_at_call 26; refine (limited_any c.k _).mono ?_; rintro e w' ⟨rfl, rfl⟩) | (go_at_call 25; refine (badged_any c.k _).mono ?_; rintro e w' ⟨rfl, rfl⟩))
            go_ret
            exact ⟨rfl, rfl⟩
      · have hb0 : ((c.b : Int) != 0) = true := by simp [hb1]
        have hb2 : badB c.k = true := by
          rcases hb with hb | hb
          · exact absurd hb hb1
          · exact hb
        clear hb hb1
        rcases hn with hn | hn
        · have hn1 : (c.n != 0) = false := by simp [hn]
          clear hn
          go_enter Try.func14, Try.ntmps14
          go_wp2_with (first | (go_at_call 24; refine (rights_any c.r _).mono ?_; rintro e w' ⟨rfl, rfl⟩) | (go_at_call 27; refine (guard_any c.g c.n hg _).mono ?_; rintro e w' ⟨rfl, rfl⟩) | (go_at_call 26; refine (limited_any c.k _).mono ?_; rintro e w' ⟨rfl, rfl⟩) | (go_at_call 25; refine (badged_any c.k _).mono ?_; rintro e w' ⟨rfl, rfl⟩))
          go_ret
          exact ⟨rfl, rfl⟩
        · have hn1 : (c.k != 2) = false := by simp [hn]
          clear hn
          by_cases hn3 : c.n = 0
          · have hn4 : (c.n != 0) = false := by simp [hn3]
            clear hn3
            go_enter Try.func14, Try.ntmps14
            go_wp2_with (first | (go_at_call 24; refine (rights_any c.r _).mono ?_; rintro e w' ⟨rfl, rfl⟩) | (go_at_call 27; refine (guard_any c.g c.n hg _).mono ?_; rintro e w' ⟨rfl, rfl⟩) | (go_at_call 26; refine (limited_any c.k _).mono ?_; rintro e w' ⟨rfl, rfl⟩) | (go_at_call 25; refine (badged_any c.k _).mono ?_; rintro e w' ⟨rfl, rfl⟩))
            go_ret
            exact ⟨rfl, rfl⟩
          · have hn4 : (c.n != 0) = true := by simp [hn3]
            clear hn3
            go_enter Try.func14, Try.ntmps14
            go_wp2_with (first | (go_at_call 24; refine (rights_any c.r _).mono ?_; rintro e w' ⟨rfl, rfl⟩) | (go_at_call 27; refine (guard_any c.g c.n hg _).mono ?_; rintro e w' ⟨rfl, rfl⟩) | (go_at_call 26; refine (limited_any c.k _).mono ?_; rintro e w' ⟨rfl, rfl⟩) | (go_at_call 25; refine (badged_any c.k _).mono ?_; rintro e w' ⟨rfl, rfl⟩))
            go_ret
            exact ⟨rfl, rfl⟩
    · clear hl
      by_cases hb1 : c.b = 0
      · have hb0 : ((c.b : Int) != 0) = false := by simp [hb1]
        clear hb hb1
        rcases hn with hn | hn
        · have hn1 : (c.n != 0) = false := by simp [hn]
          clear hn
          go_enter Try.func14, Try.ntmps14
          go_wp2_with (first | (go_at_call 24; refine (rights_any c.r _).mono ?_; rintro e w' ⟨rfl, rfl⟩) | (go_at_call 27; refine (guard_any c.g c.n hg _).mono ?_; rintro e w' ⟨rfl, rfl⟩) | (go_at_call 26; refine (limited_any c.k _).mono ?_; rintro e w' ⟨rfl, rfl⟩) | (go_at_call 25; refine (badged_any c.k _).mono ?_; rintro e w' ⟨rfl, rfl⟩))
          go_ret
          exact ⟨rfl, rfl⟩
        · have hn1 : (c.k != 2) = false := by simp [hn]
          clear hn
          by_cases hn3 : c.n = 0
          · have hn4 : (c.n != 0) = false := by simp [hn3]
            clear hn3
            go_enter Try.func14, Try.ntmps14
            go_wp2_with (first | (go_at_call 24; refine (rights_any c.r _).mono ?_; rintro e w' ⟨rfl, rfl⟩) | (go_at_call 27; refine (guard_any c.g c.n hg _).mono ?_; rintro e w' ⟨rfl, rfl⟩) | (go_at_call 26; refine (limited_any c.k _).mono ?_; rintro e w' ⟨rfl, rfl⟩) | (go_at_call 25; refine (badged_any c.k _).mono ?_; rintro e w' ⟨rfl, rfl⟩))
            go_ret
            exact ⟨rfl, rfl⟩
          · have hn4 : (c.n != 0) = true := by simp [hn3]
            clear hn3
            go_enter Try.func14, Try.ntmps14
            go_wp2_with (first | (go_at_call 24; refine (rights_any c.r _).mono ?_; rintro e w' ⟨rfl, rfl⟩) | (go_at_call 27; refine (guard_any c.g c.n hg _).mono ?_; rintro e w' ⟨rfl, rfl⟩) | (go_at_call 26; refine (limited_any c.k _).mono ?_; rintro e w' ⟨rfl, rfl⟩) | (go_at_call 25; refine (badged_any c.k _).mono ?_; rintro e w' ⟨rfl, rfl⟩))
            go_ret
            exact ⟨rfl, rfl⟩
      · have hb0 : ((c.b : Int) != 0) = true := by simp [hb1]
        have hb2 : badB c.k = true := by
          rcases hb with hb | hb
          · exact absurd hb hb1
          · exact hb
        clear hb hb1
        rcases hn with hn | hn
        · have hn1 : (c.n != 0) = false := by simp [hn]
          clear hn
          go_enter Try.func14, Try.ntmps14
          go_wp2_with (first | (go_at_call 24; refine (rights_any c.r _).mono ?_; rintro e w' ⟨rfl, rfl⟩) | (go_at_call 27; refine (guard_any c.g c.n hg _).mono ?_; rintro e w' ⟨rfl, rfl⟩) | (go_at_call 26; refine (limited_any c.k _).mono ?_; rintro e w' ⟨rfl, rfl⟩) | (go_at_call 25; refine (badged_any c.k _).mono ?_; rintro e w' ⟨rfl, rfl⟩))
          go_ret
          exact ⟨rfl, rfl⟩
        · have hn1 : (c.k != 2) = false := by simp [hn]
          clear hn
          by_cases hn3 : c.n = 0
          · have hn4 : (c.n != 0) = false := by simp [hn3]
            clear hn3
            go_enter Try.func14, Try.ntmps14
            go_wp2_with (first | (go_at_call 24; refine (rights_any c.r _).mono ?_; rintro e w' ⟨rfl, rfl⟩) | (go_at_call 27; refine (guard_any c.g c.n hg _).mono ?_; rintro e w' ⟨rfl, rfl⟩) | (go_at_call 26; refine (limited_any c.k _).mono ?_; rintro e w' ⟨rfl, rfl⟩) | (go_at_call 25; refine (badged_any c.k _).mono ?_; rintro e w' ⟨rfl, rfl⟩))
            go_ret
            exact ⟨rfl, rfl⟩
          · have hn4 : (c.n != 0) = true := by simp [hn3]
            clear hn3
            go_enter Try.func14, Try.ntmps14
            go_wp2_with (first | (go_at_call 24; refine (rights_any c.r _).mono ?_; rintro e w' ⟨rfl, rfl⟩) | (go_at_call 27; refine (guard_any c.g c.n hg _).mono ?_; rintro e w' ⟨rfl, rfl⟩) | (go_at_call 26; refine (limited_any c.k _).mono ?_; rintro e w' ⟨rfl, rfl⟩) | (go_at_call 25; refine (badged_any c.k _).mono ?_; rintro e w' ⟨rfl, rfl⟩))
            go_ret
            exact ⟨rfl, rfl⟩

end Go.Proofs.Ythgiofgedeijoaa
