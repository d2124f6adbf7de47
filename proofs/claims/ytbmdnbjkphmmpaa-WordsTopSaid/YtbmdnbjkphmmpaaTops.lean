/- Contracts of Top: the greatest bit of a set of 256 bits, in the program and in the reference. -/
import Derived.Test.YtbmdnbjkphmmpaaSets
import Derived.Test.YtbmdnbjkphmmpaaLen
namespace Go.Proofs.Ytbmdnbjkphmmpaa
open Go.RowKit Wd

/-- The greatest bit below k that is set, or -1. -/
def topTo (x : B4) : Nat → Int
  | 0 => -1
  | k + 1 => if x.has k = true then (k : Int) else topTo x k
/-- t is the greatest bit that is set, or -1. -/
structure TopIs (x : B4) (t : Int) : Prop where
  out : (t = -1 ∧ ∀ n, n < 256 → x.has n = false) ∨ (∃ m : Nat, t = m ∧ m < 256 ∧ x.has m = true ∧ ∀ n, m < n → n < 256 → x.has n = false)
theorem topTo_is (x : B4) (k : Nat) : (topTo x k = -1 ∧ ∀ n, n < k → x.has n = false) ∨ (∃ m : Nat, topTo x k = m ∧ m < k ∧ x.has m = true ∧ ∀ n, m < n → n < k → x.has n = false) := by
  induction k with
  | zero => exact .inl ⟨rfl, fun n h => by omega⟩
  | succ k ih =>
    simp only [topTo]
    by_cases h : x.has k = true
    · rw [if_pos h]
      exact .inr ⟨k, rfl, by omega, h, fun n h1 h2 => by omega⟩
    · rw [if_neg h]
      have h' : x.has k = false := by simpa using h
      rcases ih with ⟨h1, h2⟩ | ⟨m, h1, h2, h3, h4⟩
      · refine .inl ⟨h1, fun n hn => ?_⟩
        by_cases e : n = k
        · rw [e, h']
        · exact h2 n (by omega)
      · refine .inr ⟨m, h1, by omega, h3, fun n h5 h6 => ?_⟩
        by_cases e : n = k
        · rw [e, h']
        · exact h4 n h5 (by omega)
theorem TopIs.of_top (x : B4) : TopIs x (topTo x 256) := ⟨topTo_is x 256⟩
theorem TopIs.uniq {x : B4} {s t : Int} (h1 : TopIs x s) (h2 : TopIs x t) : s = t := by
  rcases h1.out with ⟨a1, a2⟩ | ⟨m, a1, a2, a3, a4⟩ <;> rcases h2.out with ⟨b1, b2⟩ | ⟨k, b1, b2, b3, b4⟩
  · omega
  · rw [a2 k b2] at b3; cases b3
  · rw [b2 m a2] at a3; cases a3
  · by_cases e : m = k
    · subst e; omega
    · rcases Nat.lt_or_gt_of_ne e with e | e
      · rw [a4 k e b2] at b3; cases b3
      · rw [b4 m e a2] at a3; cases a3
theorem topTo_le (x : B4) (k : Nat) : -1 ≤ topTo x k ∧ topTo x k < k := by
  rcases topTo_is x k with ⟨h1, _⟩ | ⟨m, h1, h2, _⟩ <;> omega

/-- The greatest bit stands in word q. -/
theorem top_at {x : B4} {q : Nat} (hq : q < 4) (hw : Word (x.wd q)) (h0 : x.wd q ≠ 0) (hz : ∀ i, q < i → i < 4 → x.wd i = 0) :
    TopIs x ((64 * q + (blen (x.wd q) - 1) : Nat) : Int) := by
  obtain ⟨h1, h2, h3, h4⟩ := blen_bounds _ hw.lt h0
  refine ⟨.inr ⟨_, rfl, by omega, ?_, ?_⟩⟩
  · unfold B4.has
    rw [show (64 * q + (blen (x.wd q) - 1)) / 64 = q by omega, show (64 * q + (blen (x.wd q) - 1)) % 64 = blen (x.wd q) - 1 by omega]
    rw [Nat.testBit_eq_decide_div_mod_eq]
    have h5 : 2 ^ blen (x.wd q) = 2 ^ (blen (x.wd q) - 1) * 2 := by rw [← Nat.pow_succ]; congr 1; omega
    have h6 : x.wd q / 2 ^ (blen (x.wd q) - 1) = 1 := by
      rw [Nat.div_eq_iff (Nat.two_pow_pos _)]
      omega
    rw [h6]
    rfl
  · intro n hn hn'
    unfold B4.has
    by_cases e : n / 64 = q
    · rw [e]
      refine Nat.testBit_lt_two_pow (Nat.lt_of_lt_of_le h4 (Nat.pow_le_pow_right (by decide) (by omega)))
    · rw [hz (n / 64) (by omega) (by omega)]
      simp
theorem top_none {x : B4} (hz : ∀ i, i < 4 → x.wd i = 0) : TopIs x (-1) :=
  ⟨.inl ⟨rfl, fun n hn => by unfold B4.has; rw [hz (n / 64) (by omega)]; simp⟩⟩

theorem cell_new {w : World} {a : Addr} {v : Value} {o : Obj} (h : w.cell? a = some v) : (w.alloc o).cell? a = some v :=
  ((Below.refl w.heap.size w).alloc (Nat.le_refl _) o).cell (World.block_lt_of_cell? w a h) |>.trans h
/-- The words above 3 - k are 0. -/
structure High (x : B4) (k : Nat) : Prop where
  out : ∀ i, 4 ≤ i + k → i < 4 → x.wd i = 0
theorem High.start {x : B4} : High x 0 := ⟨fun i h1 h2 => by omega⟩
theorem High.step {x : B4} {k : Nat} (h : High x k) {q : Nat} (h0 : x.wd q = 0) (hk : q + k = 3 := by decide) : High x (k + 1) :=
  ⟨fun i h1 h2 => by
    by_cases e : i = q
    · rw [e, h0]
    · exact h.out i (by omega) h2⟩
theorem top_num0 {L : Nat} {t : Int} (hL : 1 ≤ L) (h : ((64 * 0 + (L - 1) : Nat) : Int) = t) : (L : Int) - 1 = t := by omega
theorem top_num {L : Nat} {t : Int} (q : Nat) (hL : 1 ≤ L) (h : ((64 * q + (L - 1) : Nat) : Int) = t) : (64 * q : Int) + L - 1 = t := by omega

set_option maxRecDepth 100000 in
set_option maxHeartbeats 1600000 in
theorem rtop_any (b0 b1 b2 b3 : Nat) (hB : B4.Ok ⟨b0, b1, b2, b3⟩) (w : World) :
    Calls Try.prog 26 #[.agg #[.int .u64 b0, .int .u64 b1, .int .u64 b2, .int .u64 b3]] w fun e w' => e = .returned (.int .i64 (topTo ⟨b0, b1, b2, b3⟩ 256)) ∧ Below w.heap.size w w' := by
  go_enter Try.func26, Try.ntmps26
  go_wp2
  go_loopw [3, 4] (fun t i wr => ∃ k : Nat, k ≤ 256 ∧ i = .int .i64 k ∧ t = .int .i64 (topTo ⟨b0, b1, b2, b3⟩ k) ∧ Below w.heap.size w wr ∧ w.heap.size < wr.heap.size ∧
      wr.cell? ⟨w.heap.size, 0, none⟩ = some (.int .u64 b0) ∧ wr.cell? ⟨w.heap.size, 1, none⟩ = some (.int .u64 b1) ∧ wr.cell? ⟨w.heap.size, 2, none⟩ = some (.int .u64 b2) ∧ wr.cell? ⟨w.heap.size, 3, none⟩ = some (.int .u64 b3)) (fun _ i _ => 256 - (intOf i).toNat)
  case atStart => exact ⟨0, by omega, rfl, rfl, (Below.refl _ _).alloc (Nat.le_refl _) _, by simp, by simp [go_sem], by simp [go_sem], by simp [go_sem], by simp [go_sem]⟩
  case round =>
    obtain ⟨k, hk, rfl, rfl, hb, hz, c0, c1, c2, c3⟩ := hrel
    by_cases hlt : k < 256
    · by_cases hh : B4.has ⟨b0, b1, b2, b3⟩ k = true
      · have HS := Lib.hid (show topTo ⟨b0, b1, b2, b3⟩ (k + 1) = (k : Int) by simp only [topTo]; rw [if_pos hh])
        go_wp2_with (go_at_call 24; refine (rhas_any b0 b1 b2 b3 k hB hlt _).mono ?_; rintro e w' ⟨rfl, rfl⟩)
        go_roundw
        case rel => exact ⟨k + 1, by omega, by go_num, by rw [HS.out], below_new hb _, by simp; omega, cell_new c0, cell_new c1, cell_new c2, cell_new c3⟩
        case measure => simp [intOf]; omega
      · have hh' : B4.has ⟨b0, b1, b2, b3⟩ k = false := by simpa using hh
        have HS := Lib.hid (show topTo ⟨b0, b1, b2, b3⟩ (k + 1) = topTo ⟨b0, b1, b2, b3⟩ k by simp only [topTo]; rw [if_neg hh])
        clear hh
        go_wp2_with (go_at_call 24; refine (rhas_any b0 b1 b2 b3 k hB hlt _).mono ?_; rintro e w' ⟨rfl, rfl⟩)
        go_roundw
        case rel => exact ⟨k + 1, by omega, by go_num, by rw [HS.out], below_new hb _, by simp; omega, cell_new c0, cell_new c1, cell_new c2, cell_new c3⟩
        case measure => simp [intOf]; omega
    · go_wp2
      go_ret
      exact ⟨ret_i64 (by rw [show k = 256 by omega]), hb⟩

set_option maxRecDepth 100000 in
set_option maxHeartbeats 1600000 in
theorem top_any (b0 b1 b2 b3 : Nat) (hB : B4.Ok ⟨b0, b1, b2, b3⟩) (w : World) :
    Calls Try.prog 25 #[.agg #[.int .u64 b0, .int .u64 b1, .int .u64 b2, .int .u64 b3]] w fun e w' => e = .returned (.int .i64 (topTo ⟨b0, b1, b2, b3⟩ 256)) ∧ Below w.heap.size w w' := by
  go_enter Try.func25, Try.ntmps25
  go_wp2
  go_loop [3, 4, 5] (fun _ _ i => ∃ k : Nat, k ≤ 4 ∧ i = .int .i64 k ∧ High ⟨b0, b1, b2, b3⟩ k) (fun _ _ i => 4 - (intOf i).toNat)
  case atStart => exact ⟨0, by omega, rfl, High.start⟩
  case round =>
    obtain ⟨k, hk, rfl, HZ⟩ := hrel
    by_cases hlt : k < 4
    · have hq : k = 0 ∨ k = 1 ∨ k = 2 ∨ k = 3 := by omega
      rcases hq with rfl | rfl | rfl | rfl
      · by_cases h0 : b3 = 0
        · have HY := HZ.step (show B4.wd ⟨b0, b1, b2, b3⟩ 3 = 0 from h0)
          have h1 : ((b3 : Int) != 0) = false := by rw [h0]; rfl
          clear HZ h0
          go_wp2
          go_round
          case rel => exact ⟨0 + 1, by omega, by go_num, HY⟩
          case measure => simp [intOf]
        · have HT := Lib.hid (TopIs.uniq (top_at (x := ⟨b0, b1, b2, b3⟩) (q := 3) (by decide) hB.d h0 fun i h1 h2 => HZ.out i (by omega) h2) (TopIs.of_top _))
          obtain ⟨g1, g2, _⟩ := blen_bounds b3 hB.d.lt h0
          have h1 : ((b3 : Int) != 0) = true := by simp [h0]
          clear HZ h0
          have hw := hB.d
          go_wp2_with (go_at_call 33; refine (len_any b3 hw.lt _).mono ?_; rintro e w' ⟨rfl, rfl⟩)
          go_ret
          exact ⟨ret_i64 (top_num 3 (by omega) HT.out), (Below.refl _ _).alloc (Nat.le_refl _) _⟩
      · by_cases h0 : b2 = 0
        · have HY := HZ.step (show B4.wd ⟨b0, b1, b2, b3⟩ 2 = 0 from h0)
          have h1 : ((b2 : Int) != 0) = false := by rw [h0]; rfl
          clear HZ h0
          go_wp2
          go_round
          case rel => exact ⟨1 + 1, by omega, by go_num, HY⟩
          case measure => simp [intOf]
        · have HT := Lib.hid (TopIs.uniq (top_at (x := ⟨b0, b1, b2, b3⟩) (q := 2) (by decide) hB.c h0 fun i h1 h2 => HZ.out i (by omega) h2) (TopIs.of_top _))
          obtain ⟨g1, g2, _⟩ := blen_bounds b2 hB.c.lt h0
          have h1 : ((b2 : Int) != 0) = true := by simp [h0]
          clear HZ h0
          have hw := hB.c
          go_wp2_with (go_at_call 33; refine (len_any b2 hw.lt _).mono ?_; rintro e w' ⟨rfl, rfl⟩)
          go_ret
          exact ⟨ret_i64 (top_num 2 (by omega) HT.out), (Below.refl _ _).alloc (Nat.le_refl _) _⟩
      · by_cases h0 : b1 = 0
        · have HY := HZ.step (show B4.wd ⟨b0, b1, b2, b3⟩ 1 = 0 from h0)
          have h1 : ((b1 : Int) != 0) = false := by rw [h0]; rfl
          clear HZ h0
          go_wp2
          go_round
          case rel => exact ⟨2 + 1, by omega, by go_num, HY⟩
          case measure => simp [intOf]
        · have HT := Lib.hid (TopIs.uniq (top_at (x := ⟨b0, b1, b2, b3⟩) (q := 1) (by decide) hB.b h0 fun i h1 h2 => HZ.out i (by omega) h2) (TopIs.of_top _))
          obtain ⟨g1, g2, _⟩ := blen_bounds b1 hB.b.lt h0
          have h1 : ((b1 : Int) != 0) = true := by simp [h0]
          clear HZ h0
          have hw := hB.b
          go_wp2_with (go_at_call 33; refine (len_any b1 hw.lt _).mono ?_; rintro e w' ⟨rfl, rfl⟩)
          go_ret
          exact ⟨ret_i64 (top_num 1 (by omega) HT.out), (Below.refl _ _).alloc (Nat.le_refl _) _⟩
      · by_cases h0 : b0 = 0
        · have HY := HZ.step (show B4.wd ⟨b0, b1, b2, b3⟩ 0 = 0 from h0)
          have h1 : ((b0 : Int) != 0) = false := by rw [h0]; rfl
          clear HZ h0
          go_wp2
          go_round
          case rel => exact ⟨3 + 1, by omega, by go_num, HY⟩
          case measure => simp [intOf]
        · have HT := Lib.hid (TopIs.uniq (top_at (x := ⟨b0, b1, b2, b3⟩) (q := 0) (by decide) hB.a h0 fun i h1 h2 => HZ.out i (by omega) h2) (TopIs.of_top _))
          obtain ⟨g1, g2, _⟩ := blen_bounds b0 hB.a.lt h0
          have h1 : ((b0 : Int) != 0) = true := by simp [h0]
          clear HZ h0
          have hw := hB.a
          go_wp2_with (go_at_call 33; refine (len_any b0 hw.lt _).mono ?_; rintro e w' ⟨rfl, rfl⟩)
          go_ret
          exact ⟨ret_i64 (top_num0 (by omega) HT.out), (Below.refl _ _).alloc (Nat.le_refl _) _⟩
    · have HT := Lib.hid (TopIs.uniq (top_none (x := ⟨b0, b1, b2, b3⟩) fun i hi => HZ.out i (by omega) hi) (TopIs.of_top _))
      clear HZ
      go_wp2
      go_ret
      exact ⟨ret_i64 HT.out, (Below.refl _ _).alloc (Nat.le_refl _) _⟩

end Go.Proofs.Ytbmdnbjkphmmpaa
