/- Plain facts on words of 64 bits, held as natural numbers: sums of bits, fields, words with other bits, rounding up. No program in sight. -/
import Derived.Laws.BitsLemmas
namespace Go.Proofs.Ytldhpecpmgjihaa
namespace Wd

/-- The number whose bit j is f j, for j below i. -/
def sumB (f : Nat → Bool) : Nat → Nat
  | 0 => 0
  | i + 1 => sumB f i + (if f i = true then 2 ^ i else 0)

theorem sumB_lt (f : Nat → Bool) (i : Nat) : sumB f i < 2 ^ i := by
  induction i with
  | zero => simp [sumB]
  | succ i ih =>
    have e : 2 ^ (i + 1) = 2 ^ i + 2 ^ i := by rw [Nat.pow_succ]; omega
    simp only [sumB]
    split <;> omega

theorem testBit_sumB (f : Nat → Bool) (i j : Nat) : (sumB f i).testBit j = (decide (j < i) && f j) := by
  induction i with
  | zero => simp [sumB]
  | succ i ih =>
    have e : sumB f (i + 1) = 2 ^ i * (if f i = true then 1 else 0) + sumB f i := by
      simp only [sumB]
      split <;> simp [Nat.add_comm]
    rw [e, Nat.testBit_two_pow_mul_add _ (sumB_lt f i)]
    by_cases h : j < i
    · rw [if_pos h, ih]
      have h2 : j < i + 1 := by omega
      simp [h, h2]
    · rw [if_neg h]
      by_cases h3 : j = i
      · subst h3
        by_cases hf : f j = true <;> simp [hf]
      · have h2 : ¬ j < i + 1 := by omega
        have h4 : j - i ≠ 0 := by omega
        have h5 := Nat.one_lt_two_pow h4
        rw [Nat.testBit_lt_two_pow (by split <;> omega)]
        simp [h2]

/-- A word, kept where the walk's simp doesn't look into it. -/
structure Word (v : Nat) : Prop where
  lt : v < 2 ^ 64

def msk (n : Nat) : Nat := 2 ^ n - 1
theorem testBit_msk (n i : Nat) : (msk n).testBit i = decide (i < n) := Nat.testBit_two_pow_sub_one n i
theorem msk_lt {n : Nat} (h : n ≤ 64) : msk n < 2 ^ 64 := by
  have := Nat.pow_le_pow_right (n := 2) (by decide) h
  have := Nat.two_pow_pos n
  unfold msk; omega

def fld (v a n : Nat) : Nat := v / 2 ^ a % 2 ^ n
theorem testBit_fld (v a n i : Nat) : (fld v a n).testBit i = (decide (i < n) && v.testBit (a + i)) := by
  unfold fld
  rw [Nat.testBit_mod_two_pow, Nat.testBit_div_two_pow, Nat.add_comm]
theorem fld_eq_sum (v a n : Nat) : fld v a n = sumB (fun i => v.testBit (a + i)) n := by
  apply Nat.eq_of_testBit_eq
  intro i
  rw [testBit_fld, testBit_sumB]
theorem fld_lt (v a n : Nat) : fld v a n < 2 ^ n := Nat.mod_lt _ (Nat.two_pow_pos n)

/-- Which bit stands at i in v with x put in at a .. a + n. -/
def sel (v a n x i : Nat) : Bool := if a ≤ i ∧ i < a + n then x.testBit (i - a) else v.testBit i
def wth (v a n x : Nat) : Nat := sumB (sel v a n x) 64
theorem wth_lt (v a n x : Nat) : wth v a n x < 2 ^ 64 := sumB_lt _ _
theorem testBit_wth (v a n x i : Nat) : (wth v a n x).testBit i = (decide (i < 64) && sel v a n x i) := testBit_sumB _ _ _

theorem testBit_out {v : Nat} (h : v < 2 ^ 64) {i : Nat} (hi : 64 ≤ i) : v.testBit i = false :=
  Nat.testBit_lt_two_pow (Nat.lt_of_lt_of_le h (Nat.pow_le_pow_right (by decide) hi))
theorem testBit_in {v : Nat} (h : v < 2 ^ 64) (i : Nat) : v.testBit i = (decide (i < 64) && v.testBit i) := by
  by_cases hi : i < 64
  · simp [hi]
  · rw [testBit_out h (by omega)]; simp

/-- '&^' on words. -/
def andNot (a b : Nat) : Nat := sumB (fun i => a.testBit i && !b.testBit i) 64
theorem testBit_andNot (a b i : Nat) : (andNot a b).testBit i = (decide (i < 64) && (a.testBit i && !b.testBit i)) := testBit_sumB _ _ _
theorem andNot_lt (a b : Nat) : andNot a b < 2 ^ 64 := sumB_lt _ _

theorem lt_of_bits {x n : Nat} (h : ∀ i, n ≤ i → x.testBit i = false) : x < 2 ^ n := Nat.lt_pow_two_of_testBit x h

/-! ### The model's operations on words, over natural numbers -/
theorem cast_lt {a : Nat} (h : a < 2 ^ 64) : (a : Int) < 18446744073709551616 := by
  have : (2 : Nat) ^ 64 = 18446744073709551616 := by decide
  omega
theorem wrap_nat (a : Nat) (h : a < 2 ^ 64) : IntKind.u64.wrap (a : Int) = (a : Int) := by
  have := cast_lt h
  simp [IntKind.wrap, IntKind.bits, IntKind.signed]
  omega
theorem ofInt_nat (a : Nat) (h : a < 2 ^ 64) : (BitVec.ofInt 64 (a : Int)).toNat = a := by
  rw [BitVec.ofInt_natCast, BitVec.toNat_ofNat]
  exact Nat.mod_eq_of_lt h
theorem bits_and (a b : Nat) (ha : a < 2 ^ 64) (hb : b < 2 ^ 64) : bits .and .u64 (a : Int) (b : Int) = ((a &&& b : Nat) : Int) := by
  show IntKind.u64.wrap ((BitVec.ofInt 64 (a : Int) &&& BitVec.ofInt 64 (b : Int)).toNat : Int) = _
  rw [BitVec.toNat_and, ofInt_nat a ha, ofInt_nat b hb, wrap_nat]
  exact Nat.and_lt_two_pow _ hb
theorem bits_or (a b : Nat) (ha : a < 2 ^ 64) (hb : b < 2 ^ 64) : bits .or .u64 (a : Int) (b : Int) = ((a ||| b : Nat) : Int) := by
  show IntKind.u64.wrap ((BitVec.ofInt 64 (a : Int) ||| BitVec.ofInt 64 (b : Int)).toNat : Int) = _
  rw [BitVec.toNat_or, ofInt_nat a ha, ofInt_nat b hb, wrap_nat]
  exact Nat.or_lt_two_pow ha hb
theorem bits_xor (a b : Nat) (ha : a < 2 ^ 64) (hb : b < 2 ^ 64) : bits .xor .u64 (a : Int) (b : Int) = ((a ^^^ b : Nat) : Int) := by
  show IntKind.u64.wrap ((BitVec.ofInt 64 (a : Int) ^^^ BitVec.ofInt 64 (b : Int)).toNat : Int) = _
  rw [BitVec.toNat_xor, ofInt_nat a ha, ofInt_nat b hb, wrap_nat]
  exact Nat.xor_lt_two_pow ha hb
theorem bits_andNot (a b : Nat) (ha : a < 2 ^ 64) (hb : b < 2 ^ 64) : bits .andNot .u64 (a : Int) (b : Int) = (andNot a b : Int) := by
  show IntKind.u64.wrap ((BitVec.ofInt 64 (a : Int) &&& ~~~ BitVec.ofInt 64 (b : Int)).toNat : Int) = _
  have e : (BitVec.ofInt 64 (a : Int) &&& ~~~ BitVec.ofInt 64 (b : Int)).toNat = andNot a b := by
    apply Nat.eq_of_testBit_eq
    intro i
    rw [testBit_andNot, BitVec.testBit_toNat, BitVec.getLsbD_and, BitVec.getLsbD_not, ← BitVec.testBit_toNat, ← BitVec.testBit_toNat, ofInt_nat a ha, ofInt_nat b hb]
    by_cases hi : i < 64 <;> simp [hi]
  rw [e, wrap_nat _ (andNot_lt a b)]

theorem pow_split (n : Nat) : (2 : Int) ^ n = ((2 ^ n : Nat) : Int) := by simp
theorem wrap_u64_eq (x : Int) : IntKind.u64.wrap x = x % 18446744073709551616 := by simp [IntKind.wrap, IntKind.bits, IntKind.signed]
theorem low_spelt (n : Nat) (hn : n ≤ 64) : IntKind.u64.wrap (IntKind.u64.wrap (2 ^ n) - 1) = (msk n : Int) := by
  have hp := Nat.two_pow_pos n
  have hm := cast_lt (msk_lt hn)
  have h := Nat.pow_le_pow_right (n := 2) (by decide) hn
  have e : (2 : Nat) ^ 64 = 18446744073709551616 := by decide
  rw [pow_split, wrap_u64_eq, wrap_u64_eq]
  unfold msk at hm ⊢
  omega

theorem div_cast (v a : Nat) : (v : Int) / 2 ^ a = ((v / 2 ^ a : Nat) : Int) := by rw [pow_split]; rfl
theorem fld_spelt (v a n : Nat) (hv : Word v) (hn : n ≤ 64) : bits .and .u64 ((v : Int) / 2 ^ a) (msk n) = (fld v a n : Int) := by
  rw [div_cast, bits_and _ _ (Nat.lt_of_le_of_lt (Nat.div_le_self _ _) hv.lt) (msk_lt hn)]
  unfold msk fld
  rw [Nat.and_two_pow_sub_one_eq_mod]

theorem andNot_msk (x n : Nat) (hx : x < 2 ^ 64) : andNot x (msk n) = 0 ↔ x < 2 ^ n := by
  constructor
  · intro h
    refine lt_of_bits fun i hi => ?_
    have h1 : (andNot x (msk n)).testBit i = false := by rw [h]; simp
    rw [testBit_andNot, testBit_msk] at h1
    by_cases h6 : i < 64
    · simpa [h6, show ¬ i < n by omega] using h1
    · exact testBit_out hx (by omega)
  · intro h
    apply Nat.eq_of_testBit_eq
    intro i
    rw [testBit_andNot, testBit_msk]
    by_cases hi : i < n
    · simp [hi]
    · rw [Nat.testBit_lt_two_pow (Nat.lt_of_lt_of_le h (Nat.pow_le_pow_right (by decide) (by omega)))]
      simp
theorem big_spelt (x n : Nat) (hx : Word x) (hn : n ≤ 64) (h : 2 ^ n ≤ x) : (bits .andNot .u64 (x : Int) (msk n) != 0) = true := by
  rw [bits_andNot _ _ hx.lt (msk_lt hn)]
  have h1 : andNot x (msk n) ≠ 0 := fun h0 => by
    have := (andNot_msk x n hx.lt).1 h0
    omega
  simp [h1]
theorem small_spelt (x n : Nat) (hx : Word x) (hn : n ≤ 64) (h : x < 2 ^ n) : (bits .andNot .u64 (x : Int) (msk n) != 0) = false := by
  rw [bits_andNot _ _ hx.lt (msk_lt hn), (andNot_msk x n hx.lt).2 h]
  rfl

theorem wrap_lt (a : Nat) (h : a < 2 ^ 64) (x : Int) (e : x = (a : Int)) : IntKind.u64.wrap x = (a : Int) := by rw [e, wrap_nat a h]
theorem msk_shift_lt {a n : Nat} (h : a + n ≤ 64) : msk n * 2 ^ a < 2 ^ 64 := by
  have h1 := Nat.pow_le_pow_right (n := 2) (by decide) h
  rw [Nat.pow_add] at h1
  have h2 := Nat.two_pow_pos a
  have h3 : msk n * 2 ^ a + 2 ^ a = 2 ^ a * 2 ^ n := by
    have h4 := Nat.two_pow_pos n
    unfold msk
    rw [Nat.sub_mul, Nat.one_mul, Nat.mul_comm (2 ^ a)]
    have h5 : 1 * 2 ^ a ≤ 2 ^ n * 2 ^ a := Nat.mul_le_mul_right _ h4
    omega
  omega
theorem put_lt {a n x : Nat} (h : a + n ≤ 64) (hx : x < 2 ^ n) : x * 2 ^ a < 2 ^ 64 := by
  have h1 := Nat.pow_le_pow_right (n := 2) (by decide) h
  rw [Nat.pow_add] at h1
  have h2 : x * 2 ^ a < 2 ^ n * 2 ^ a := Nat.mul_lt_mul_of_pos_right hx (Nat.two_pow_pos a)
  rw [Nat.mul_comm (2 ^ n)] at h2
  omega
theorem mul_cast (x a : Nat) : (x : Int) * 2 ^ a = ((x * 2 ^ a : Nat) : Int) := by rw [pow_split, Int.natCast_mul]
theorem shl_spelt (x a : Nat) (h : x * 2 ^ a < 2 ^ 64) : IntKind.u64.wrap ((x : Int) * 2 ^ a) = ((x * 2 ^ a : Nat) : Int) := wrap_lt _ h _ (mul_cast x a)
theorem with_eq (v a n x : Nat) (h : a + n ≤ 64) (hx : x < 2 ^ n) : andNot v (msk n * 2 ^ a) ||| x * 2 ^ a = wth v a n x := by
  apply Nat.eq_of_testBit_eq
  intro i
  rw [Nat.testBit_or, testBit_andNot, Nat.testBit_mul_two_pow, Nat.testBit_mul_two_pow, testBit_msk, testBit_wth]
  unfold sel
  by_cases h1 : i < 64
  · by_cases h2 : a ≤ i
    · by_cases h3 : i < a + n
      · simp [h1, h2, h3, show i - a < n by omega]
      · have h4 : x.testBit (i - a) = false := Nat.testBit_lt_two_pow (Nat.lt_of_lt_of_le hx (Nat.pow_le_pow_right (by decide) (by omega)))
        simp [h1, h3, show ¬ i - a < n by omega, h4]
    · simp [h1, h2]
  · have h4 : x.testBit (i - a) = false := Nat.testBit_lt_two_pow (Nat.lt_of_lt_of_le hx (Nat.pow_le_pow_right (by decide) (by omega)))
    simp [h1, h4]
theorem with_spelt (v a n x : Nat) (hv : Word v) (h : a + n ≤ 64) (hx : x < 2 ^ n) :
    bits .or .u64 (bits .andNot .u64 (v : Int) (IntKind.u64.wrap ((msk n : Int) * 2 ^ a))) (IntKind.u64.wrap ((x : Int) * 2 ^ a)) = (wth v a n x : Int) := by
  rw [shl_spelt _ _ (msk_shift_lt h), shl_spelt _ _ (put_lt h hx), bits_andNot _ _ hv.lt (msk_shift_lt h), bits_or _ _ (andNot_lt _ _) (put_lt h hx), with_eq v a n x h hx]

/-! ### Rounding up -/
def sumLo (x y : Nat) : Nat := (x + y) % 18446744073709551616
def sumHi (x y : Nat) : Nat := (x + y) / 18446744073709551616
def upTo (v n : Nat) : Nat := (v + (2 ^ n - 1)) / 2 ^ n * 2 ^ n
theorem p64 : (2 : Nat) ^ 64 = 18446744073709551616 := by decide
theorem sumHi_big (v n : Nat) (hv : Word v) (hb : 2 ^ 64 < v + 2 ^ n) : ((sumHi v (msk n) : Int) != 0) = true := by
  have h1 := hv.lt
  have h2 := Nat.two_pow_pos n
  have e := p64
  have h3 : sumHi v (msk n) ≠ 0 := by
    unfold sumHi msk
    omega
  simp [h3]
theorem sumHi_small (v n : Nat) (hv : Word v) (hb : v + 2 ^ n ≤ 2 ^ 64) : ((sumHi v (msk n) : Int) != 0) = false := by
  have h1 := hv.lt
  have h2 := Nat.two_pow_pos n
  have e := p64
  have h3 : sumHi v (msk n) = 0 := by
    unfold sumHi msk
    omega
  simp [h3]
theorem andNot_msk_eq (s n : Nat) (hs : s < 2 ^ 64) : andNot s (msk n) = s / 2 ^ n * 2 ^ n := by
  apply Nat.eq_of_testBit_eq
  intro i
  rw [testBit_andNot, testBit_msk, Nat.testBit_mul_two_pow, Nat.testBit_div_two_pow]
  by_cases h1 : n ≤ i
  · by_cases h2 : i < 64
    · simp [h1, h2, show ¬ i < n by omega, show i - n + n = i by omega]
    · simp [h2, show i - n + n = i by omega, testBit_out hs (i := i) (by omega)]
  · simp [h1, show i < n by omega]
theorem up_spelt (v n : Nat) (hv : Word v) (hn : n ≤ 64) (hb : v + 2 ^ n ≤ 2 ^ 64) : bits .andNot .u64 (sumLo v (msk n) : Int) (msk n) = (upTo v n : Int) := by
  have h1 := hv.lt
  have h2 := Nat.two_pow_pos n
  have e := p64
  have h3 : sumLo v (msk n) = v + (2 ^ n - 1) := by
    unfold sumLo msk
    omega
  have h4 : sumLo v (msk n) < 2 ^ 64 := by omega
  rw [bits_andNot _ _ h4 (msk_lt hn), andNot_msk_eq _ _ h4, h3]
  rfl

/-! ### The reference's loops -/
def pw (n : Nat) : Nat := 2 ^ n
theorem pw_pos (n : Nat) : 1 ≤ (pw n : Int) := by
  have := Nat.two_pow_pos n
  unfold pw; omega
theorem pw_lt {n : Nat} (h : n ≤ 63) : pw n < 2 ^ 64 := Nat.pow_lt_pow_right (by decide) (by omega)
theorem pw_step (k : Nat) (h : k < 63) : IntKind.u64.wrap (2 * (pw k : Int)) = (pw (k + 1) : Int) := by
  have h1 := pw_lt (n := k + 1) (by omega)
  refine wrap_lt _ h1 _ ?_
  unfold pw
  rw [Nat.pow_succ]
  omega
theorem msk_step (k : Nat) (h : k < 64) : IntKind.u64.wrap (IntKind.u64.wrap (2 * (msk k : Int)) + 1) = (msk (k + 1) : Int) := by
  have h1 := msk_lt (n := k + 1) (by omega)
  have h2 := Nat.two_pow_pos k
  have e := p64
  rw [wrap_u64_eq, wrap_u64_eq]
  unfold msk at h1 ⊢
  rw [Nat.pow_succ] at h1 ⊢
  omega
theorem bit_spelt (v n : Nat) : ((v : Int) / (pw n : Int) % 2 == 1) = v.testBit n := by
  have e : ((v : Int) / (pw n : Int) % 2) = ((v / 2 ^ n % 2 : Nat) : Int) := by unfold pw; omega
  rw [e, Nat.testBit_eq_decide_div_mod_eq]
  by_cases h : v / 2 ^ n % 2 = 1
  · rw [h]; rfl
  · have h1 : ((v / 2 ^ n % 2 : Nat) : Int) ≠ 1 := by omega
    rw [decide_eq_false h]
    exact beq_eq_false_iff_ne.2 h1
theorem bit_spelt2 (v n : Nat) (hv : Word v) : ((IntKind.u64.wrap ((v : Int) / (pw n : Int))).tmod 2 == 1) = v.testBit n := by
  have e : ((v : Int) / (pw n : Int)) = ((v / 2 ^ n : Nat) : Int) := by unfold pw; omega
  have h1 : v / 2 ^ n < 2 ^ 64 := Nat.lt_of_le_of_lt (Nat.div_le_self _ _) hv.lt
  rw [← bit_spelt v n, e, wrap_nat _ h1, Int.tmod_eq_emod_of_nonneg (Int.natCast_nonneg _)]
theorem sum_step (f : Nat → Bool) (i : Nat) (h : i < 64) (hf : f i = true) : IntKind.u64.wrap ((sumB f i : Int) + (pw i : Int)) = (sumB f (i + 1) : Int) := by
  have h1 := sumB_lt f (i + 1)
  have h2 := Nat.pow_le_pow_right (n := 2) (by decide) (show i + 1 ≤ 64 by omega)
  refine wrap_lt _ (by omega) _ ?_
  unfold pw
  simp only [sumB, hf, if_true]
  omega
theorem sum_stay (f : Nat → Bool) (i : Nat) (hf : f i = false) : sumB f (i + 1) = sumB f i := by
  simp [sumB, hf]
theorem sum_word (f : Nat → Bool) (i : Nat) (h : i ≤ 64) : Word (sumB f i) := by
  have h1 := sumB_lt f i
  have h2 := Nat.pow_le_pow_right (n := 2) (by decide) h
  exact ⟨by omega⟩

theorem sel_in {v a n x k : Nat} (h : a ≤ k) (h1 : k < a + n) : sel v a n x k = x.testBit (k - a) := by
  unfold sel; rw [if_pos ⟨h, h1⟩]
theorem sel_out {v a n x k : Nat} (h : ¬ (a ≤ k ∧ k < a + n)) : sel v a n x k = v.testBit k := by
  unfold sel; rw [if_neg h]
theorem small_bit {x n : Nat} (h : x < 2 ^ n) {k : Nat} (hk : n ≤ k) : x.testBit k = false :=
  Nat.testBit_lt_two_pow (Nat.lt_of_lt_of_le h (Nat.pow_le_pow_right (by decide) hk))
theorem big_bit {x n : Nat} (hx : Word x) (h : 2 ^ n ≤ x) (hk : ∀ j, j < 64 → n ≤ j → x.testBit j = false) : False := by
  have : x < 2 ^ n := lt_of_bits fun i hi => by
    by_cases h1 : i < 64
    · exact hk i h1 hi
    · exact testBit_out hx.lt (by omega)
  omega

/-- No bit of x from n on, below k. -/
structure Zero (x n k : Nat) : Prop where
  out : ∀ j, j < k → n ≤ j → x.testBit j = false
theorem Zero.start {x n : Nat} : Zero x n 0 := ⟨fun j h => absurd h (by omega)⟩
theorem zero_step {x n k : Nat} (h : Zero x n k) (hk : n ≤ k → x.testBit k = false) : Zero x n (k + 1) :=
  ⟨fun j h1 h2 => by
    by_cases e : j = k
    · subst e; exact hk h2
    · exact h.out j (by omega) h2⟩

theorem up_facts (v n : Nat) (hv : v < 2 ^ 64) (hn : n ≤ 63) :
    ∃ T, v = T + v % pw n ∧ (T + pw n = 18446744073709551616 ∨ T + pw n + pw n ≤ 18446744073709551616) ∧ v % pw n < pw n ∧ upTo v n = (if v % pw n = 0 then T else T + pw n) := by
  have hP : 0 < pw n := Nat.two_pow_pos n
  have hM : 18446744073709551616 = pw n * 2 ^ (64 - n) := by
    unfold pw
    rw [← Nat.pow_add, show n + (64 - n) = 64 by omega]
  have hd := Nat.div_add_mod v (pw n)
  have hr := Nat.mod_lt v hP
  have e := p64
  refine ⟨pw n * (v / pw n), by omega, ?_, hr, ?_⟩
  · have h1 : pw n * (v / pw n) < pw n * 2 ^ (64 - n) := by omega
    have h2 : v / pw n < 2 ^ (64 - n) := Nat.lt_of_mul_lt_mul_left h1
    rcases Nat.lt_or_ge (v / pw n + 1) (2 ^ (64 - n)) with h4 | h4
    · have h3 : pw n * (v / pw n + 1 + 1) ≤ pw n * 2 ^ (64 - n) := Nat.mul_le_mul_left _ h4
      rw [Nat.mul_add, Nat.mul_add, Nat.mul_one] at h3
      omega
    · have h3 : v / pw n + 1 = 2 ^ (64 - n) := by omega
      rw [← h3, Nat.mul_add, Nat.mul_one] at hM
      omega
  · have h0 : upTo v n = (v + (pw n - 1)) / pw n * pw n := rfl
    have h1 : v + (pw n - 1) = pw n * (v / pw n) + (v % pw n + (pw n - 1)) := by omega
    rw [h0, h1, Nat.mul_add_div hP]
    by_cases h2 : v % pw n = 0
    · have h3 : (v % pw n + (pw n - 1)) / pw n = 0 := by
        rw [h2]
        exact Nat.div_eq_of_lt (by omega)
      rw [if_pos h2, h3, Nat.add_zero, Nat.mul_comm]
    · rw [if_neg h2]
      have h3 : (v % pw n + (pw n - 1)) / pw n = 1 := by
        rw [Nat.div_eq_iff hP]
        omega
      rw [h3, Nat.add_mul, Nat.one_mul, Nat.mul_comm]
theorem upw_1 (v n : Nat) (hv : Word v) (hn : n ≤ 63) (h : ((v : Int) % (pw n : Int) == 0) = true) : upTo v n = v ∧ v + 2 ^ n ≤ 2 ^ 64 := by
  obtain ⟨T, h1, h2, h3, h4⟩ := up_facts v n hv.lt hn
  have h5 : (v : Int) % (pw n : Int) = 0 := by simpa using h
  have h6 : v % pw n = 0 := by omega
  have e := p64
  have e2 : pw n = 2 ^ n := rfl
  rw [if_pos h6] at h4
  omega
theorem upw_2 (v n : Nat) (hv : Word v) (hn : n ≤ 63) (h : ((v : Int) % (pw n : Int) == 0) = false)
    (h' : IntKind.u64.wrap (IntKind.u64.wrap ((v : Int) - (v : Int) % (pw n : Int)) + (pw n : Int)) < (v : Int)) : 2 ^ 64 < v + 2 ^ n := by
  obtain ⟨T, h1, h2, h3, h4⟩ := up_facts v n hv.lt hn
  have h5 : ¬ (v : Int) % (pw n : Int) = 0 := by simpa using h
  have h6 : (v : Int) % (pw n : Int) = ((v % pw n : Nat) : Int) := rfl
  have e := p64
  have e2 : pw n = 2 ^ n := rfl
  have h7 := hv.lt
  rw [h6, wrap_u64_eq, wrap_u64_eq] at h'
  omega
theorem upw_3 (v n : Nat) (hv : Word v) (hn : n ≤ 63) (h : ((v : Int) % (pw n : Int) == 0) = false)
    (h' : (v : Int) ≤ IntKind.u64.wrap (IntKind.u64.wrap ((v : Int) - (v : Int) % (pw n : Int)) + (pw n : Int))) :
    IntKind.u64.wrap (IntKind.u64.wrap ((v : Int) - (v : Int) % (pw n : Int)) + (pw n : Int)) = (upTo v n : Int) ∧ v + 2 ^ n ≤ 2 ^ 64 := by
  obtain ⟨T, h1, h2, h3, h4⟩ := up_facts v n hv.lt hn
  have h5 : ¬ (v : Int) % (pw n : Int) = 0 := by simpa using h
  have h6 : (v : Int) % (pw n : Int) = ((v % pw n : Nat) : Int) := rfl
  have h8 : ¬ v % pw n = 0 := by omega
  have e := p64
  have e2 : pw n = 2 ^ n := rfl
  have h7 := hv.lt
  rw [if_neg h8] at h4
  rw [h6, wrap_u64_eq, wrap_u64_eq] at h' ⊢
  omega

/-! ### Sets of 256 bits: four words -/
structure B4 where
  a : Nat
  b : Nat
  c : Nat
  d : Nat
def B4.wd (x : B4) (q : Nat) : Nat := if q = 0 then x.a else if q = 1 then x.b else if q = 2 then x.c else x.d
def B4.has (x : B4) (n : Nat) : Bool := (x.wd (n / 64)).testBit (n % 64)
structure B4.Ok (x : B4) : Prop where
  a : Word x.a
  b : Word x.b
  c : Word x.c
  d : Word x.d
theorem has_spelt (b r : Nat) (hb : Word b) : (bits .and .u64 ((b : Int) / 2 ^ r) 1 == 1) = b.testBit r := by
  have h1 : b / 2 ^ r < 2 ^ 64 := Nat.lt_of_le_of_lt (Nat.div_le_self _ _) hb.lt
  have h2 := bits_and (b / 2 ^ r) 1 h1 (by decide)
  rw [Int.natCast_one] at h2
  rw [div_cast, h2, Nat.and_one_is_mod, ← bit_spelt b r]
  unfold pw
  congr 1
/-- y is x with bit n as told. -/
structure Put (x : B4) (n : Nat) (on : Bool) (y : B4) : Prop where
  ok : y.Ok
  at_ : y.has n = on
  other : ∀ i, i < 256 → i ≠ n → y.has i = x.has i

theorem Put.self {x : B4} {n : Nat} {on : Bool} (ok : x.Ok) (h : x.has n = on) : Put x n on x := ⟨ok, h, fun _ _ _ => rfl⟩

/-- b with bit r as told. -/
def upd (f : Nat → Bool) (r : Nat) (on : Bool) (i : Nat) : Bool := if i = r then on else f i
def putb (b r : Nat) (on : Bool) : Nat := sumB (upd (fun i => b.testBit i) r on) 64
theorem putb_word (b r : Nat) (on : Bool) : Word (putb b r on) := sum_word _ _ (Nat.le_refl _)
theorem testBit_putb (b r : Nat) (on : Bool) (i : Nat) (hi : i < 64) : (putb b r on).testBit i = if i = r then on else b.testBit i := by
  unfold putb
  rw [testBit_sumB]
  simp [hi, upd]
theorem sum_self (b : Nat) (hb : Word b) : sumB (fun i => b.testBit i) 64 = b := by
  apply Nat.eq_of_testBit_eq
  intro i
  rw [testBit_sumB, ← testBit_in hb.lt i]
theorem putb_same (b r : Nat) (on : Bool) (hb : Word b) (h : b.testBit r = on) : putb b r on = b := by
  have e : upd (fun i => b.testBit i) r on = fun i => b.testBit i := by
    funext i
    unfold upd
    by_cases hi : i = r
    · subst hi; simp [h]
    · simp [hi]
  unfold putb
  rw [e, sum_self b hb]
theorem upd_sum (f : Nat → Bool) (r i : Nat) : sumB (upd f r true) i = sumB (upd f r false) i + (if r < i then 2 ^ r else 0) := by
  induction i with
  | zero => simp [sumB]
  | succ i ih =>
    simp only [sumB, ih]
    by_cases hi : i = r
    · subst hi
      simp [upd]
    · have e : upd f r true i = upd f r false i := by simp [upd, hi]
      rw [e]
      by_cases hr : r < i
      · rw [if_pos hr, if_pos (show r < i + 1 by omega)]
        omega
      · rw [if_neg hr, if_neg (show ¬ r < i + 1 by omega)]
        omega
theorem putb_add (b r : Nat) (hr : r < 64) : putb b r true = putb b r false + 2 ^ r := by
  unfold putb
  rw [upd_sum, if_pos hr]
theorem wrap_pw (r : Nat) (hr : r < 64) : IntKind.u64.wrap (2 ^ r) = ((2 ^ r : Nat) : Int) := wrap_lt _ (Nat.pow_lt_pow_right (by decide) hr) _ (pow_split r)
theorem set_off_spelt (b r : Nat) (hb : Word b) (hr : r < 64) : bits .andNot .u64 (b : Int) (IntKind.u64.wrap (2 ^ r)) = (putb b r false : Int) := by
  rw [wrap_pw r hr, bits_andNot _ _ hb.lt (Nat.pow_lt_pow_right (by decide) hr)]
  congr 1
  apply Nat.eq_of_testBit_eq
  intro i
  rw [testBit_andNot, Nat.testBit_two_pow]
  by_cases hi : i < 64
  · rw [testBit_putb _ _ _ _ hi]
    by_cases e : i = r
    · simp [e]
    · simp [hi, e, show ¬ r = i from fun h => e h.symm]
  · rw [testBit_out (putb_word _ _ _).lt (by omega)]
    simp [hi]
theorem set_on_spelt (b r : Nat) (hb : Word b) (hr : r < 64) :
    bits .or .u64 (bits .andNot .u64 (b : Int) (IntKind.u64.wrap (2 ^ r))) (IntKind.u64.wrap (2 ^ r)) = (putb b r true : Int) := by
  rw [set_off_spelt b r hb hr, wrap_pw r hr, bits_or _ _ (putb_word _ _ _).lt (Nat.pow_lt_pow_right (by decide) hr)]
  congr 1
  apply Nat.eq_of_testBit_eq
  intro i
  rw [Nat.testBit_or, Nat.testBit_two_pow]
  by_cases hi : i < 64
  · rw [testBit_putb _ _ _ _ hi, testBit_putb _ _ _ _ hi]
    by_cases e : i = r
    · simp [e]
    · simp [e, show ¬ r = i from fun h => e h.symm]
  · rw [testBit_out (putb_word _ _ _).lt (by omega), testBit_out (putb_word _ _ _).lt (by omega)]
    simp
    omega
theorem radd_spelt (b r : Nat) (hb : Word b) (hr : r < 64) (h : b.testBit r = false) : IntKind.u64.wrap ((b : Int) + (pw r : Int)) = (putb b r true : Int) := by
  have h1 := putb_add b r hr
  rw [putb_same b r false hb h] at h1
  refine wrap_lt _ (putb_word _ _ _).lt _ ?_
  rw [h1]
  rfl
theorem rsub_spelt (b r : Nat) (hb : Word b) (hr : r < 64) (h : b.testBit r = true) : IntKind.u64.wrap ((b : Int) - (pw r : Int)) = (putb b r false : Int) := by
  have h1 := putb_add b r hr
  rw [putb_same b r true hb h] at h1
  refine wrap_lt _ (putb_word _ _ _).lt _ ?_
  have e : pw r = 2 ^ r := rfl
  omega
theorem put_at (x : B4) (n q : Nat) (on : Bool) (y : B4) (hq : n / 64 = q) (ok : y.Ok) (h1 : y.wd q = putb (x.wd q) (n % 64) on)
    (h2 : ∀ i, i ≠ q → y.wd i = x.wd i) : Put x n on y := by
  refine ⟨ok, ?_, ?_⟩
  · unfold B4.has
    rw [hq, h1, testBit_putb _ _ _ _ (Nat.mod_lt _ (by decide)), if_pos rfl]
  · intro i _ hne
    unfold B4.has
    by_cases e : i / 64 = q
    · rw [e, h1, testBit_putb _ _ _ _ (Nat.mod_lt _ (by decide)), if_neg (by omega)]
    · rw [h2 _ e]
theorem put_0 {b0 b1 b2 b3 n : Nat} {on : Bool} (ok : B4.Ok ⟨b0, b1, b2, b3⟩) (h : n / 64 = 0) : Put ⟨b0, b1, b2, b3⟩ n on ⟨putb b0 (n % 64) on, b1, b2, b3⟩ :=
  put_at _ n 0 on _ h ⟨putb_word _ _ _, ok.b, ok.c, ok.d⟩ rfl fun i hi => by unfold B4.wd; rw [if_neg hi, if_neg hi]
theorem put_1 {b0 b1 b2 b3 n : Nat} {on : Bool} (ok : B4.Ok ⟨b0, b1, b2, b3⟩) (h : n / 64 = 1) : Put ⟨b0, b1, b2, b3⟩ n on ⟨b0, putb b1 (n % 64) on, b2, b3⟩ :=
  put_at _ n 1 on _ h ⟨ok.a, putb_word _ _ _, ok.c, ok.d⟩ rfl fun i hi => by unfold B4.wd; rw [if_neg hi, if_neg hi]
theorem put_2 {b0 b1 b2 b3 n : Nat} {on : Bool} (ok : B4.Ok ⟨b0, b1, b2, b3⟩) (h : n / 64 = 2) : Put ⟨b0, b1, b2, b3⟩ n on ⟨b0, b1, putb b2 (n % 64) on, b3⟩ :=
  put_at _ n 2 on _ h ⟨ok.a, ok.b, putb_word _ _ _, ok.d⟩ rfl fun i hi => by unfold B4.wd; rw [if_neg hi, if_neg hi]
theorem put_3 {b0 b1 b2 b3 n : Nat} {on : Bool} (ok : B4.Ok ⟨b0, b1, b2, b3⟩) (h : n / 64 = 3) : Put ⟨b0, b1, b2, b3⟩ n on ⟨b0, b1, b2, putb b3 (n % 64) on⟩ := by
  refine ⟨⟨ok.a, ok.b, ok.c, putb_word _ _ _⟩, ?_, ?_⟩
  · unfold B4.has B4.wd
    rw [h]
    simp [testBit_putb _ _ _ _ (Nat.mod_lt n (show 64 > 0 by decide))]
  · intro i hi hne
    unfold B4.has B4.wd
    have h4 : i / 64 = 0 ∨ i / 64 = 1 ∨ i / 64 = 2 ∨ i / 64 = 3 := by omega
    rcases h4 with e | e | e | e <;> rw [e] <;> simp
    rw [testBit_putb _ _ _ _ (Nat.mod_lt _ (by decide)), if_neg (by omega)]
theorem word_ext {a b : Nat} (ha : Word a) (hb : Word b) (h : ∀ i, i < 64 → a.testBit i = b.testBit i) : a = b := by
  apply Nat.eq_of_testBit_eq
  intro i
  by_cases hi : i < 64
  · exact h i hi
  · rw [testBit_out ha.lt (by omega), testBit_out hb.lt (by omega)]
theorem B4.ext' {x y : B4} (hx : x.Ok) (hy : y.Ok) (h : ∀ i, i < 256 → x.has i = y.has i) : x = y := by
  have key : ∀ q r, q < 4 → r < 64 → (x.wd q).testBit r = (y.wd q).testBit r := fun q r hq hr => by
    have := h (64 * q + r) (by omega)
    unfold B4.has at this
    rwa [show (64 * q + r) / 64 = q by omega, show (64 * q + r) % 64 = r by omega] at this
  have h0 : x.a = y.a := word_ext hx.a hy.a fun r hr => key 0 r (by decide) hr
  have h1 : x.b = y.b := word_ext hx.b hy.b fun r hr => key 1 r (by decide) hr
  have h2 : x.c = y.c := word_ext hx.c hy.c fun r hr => key 2 r (by decide) hr
  have h3 : x.d = y.d := word_ext hx.d hy.d fun r hr => key 3 r (by decide) hr
  cases x; cases y
  simp_all
theorem Put.uniq {x y z : B4} {n : Nat} {on : Bool} (h1 : Put x n on y) (h2 : Put x n on z) : y = z :=
  B4.ext' h1.ok h2.ok fun i hi => by
    by_cases e : i = n
    · subst e; rw [h1.at_, h2.at_]
    · rw [h1.other i hi e, h2.other i hi e]

/-! ### What the laws want besides -/
theorem bits_i64_mask (c : Int) (j : Nat) (hj : j ≤ 62) : bits .and .i64 c (2 ^ j - 1) = (((BitVec.ofInt 64 c).toNat % 2 ^ j : Nat) : Int) := by
  have hp : 2 ^ j < 2 ^ 63 := Nat.pow_lt_pow_right (by decide) (by omega)
  have h0 := Nat.two_pow_pos j
  have hm : ((2 : Int) ^ j - 1) = ((2 ^ j - 1 : Nat) : Int) := by rw [pow_split]; omega
  have e : (2 : Nat) ^ 63 = 9223372036854775808 := by decide
  rw [hm]
  show IntKind.i64.wrap ((BitVec.ofInt 64 c &&& BitVec.ofInt 64 ((2 ^ j - 1 : Nat) : Int)).toNat : Int) = _
  rw [BitVec.toNat_and, ofInt_nat (2 ^ j - 1) (by omega), Nat.and_two_pow_sub_one_eq_mod]
  have h1 := Nat.mod_lt (BitVec.ofInt 64 c).toNat h0
  rw [IntKind.wrap_i64]
  omega
theorem and63 (c : Int) : ∃ m : Nat, m ≤ 63 ∧ bits .and .i64 c 63 = (m : Int) :=
  ⟨_, by have := Nat.mod_lt (BitVec.ofInt 64 c).toNat (Nat.two_pow_pos 6); omega, bits_i64_mask c 6 (by decide)⟩
theorem and65535 (c : Int) : ∃ m : Nat, m ≤ 65535 ∧ bits .and .i64 c 65535 = (m : Int) :=
  ⟨_, by have := Nat.mod_lt (BitVec.ofInt 64 c).toNat (Nat.two_pow_pos 16); omega, bits_i64_mask c 16 (by decide)⟩
theorem rem_in (r m : Nat) (hm : m ≤ 64) : ∃ k : Nat, m + k ≤ 64 ∧ (r : Int) % (65 - (m : Int)) = (k : Int) := by
  refine ⟨r % (65 - m), ?_, ?_⟩
  · have := Nat.mod_lt r (show 65 - m > 0 by omega)
    omega
  · rw [show (65 : Int) - (m : Int) = ((65 - m : Nat) : Int) by omega]
    rfl
def lowN (x k : Nat) : Nat := x % 2 ^ k
theorem lowN_lt (x k : Nat) : lowN x k < 2 ^ k := Nat.mod_lt _ (Nat.two_pow_pos k)
theorem lowN_word (x k : Nat) (hk : k ≤ 64) : Word (lowN x k) := ⟨Nat.lt_of_lt_of_le (lowN_lt x k) (Nat.pow_le_pow_right (by decide) hk)⟩
theorem testBit_lowN (x k i : Nat) : (lowN x k).testBit i = (decide (i < k) && x.testBit i) := Nat.testBit_mod_two_pow _ _ _
theorem low_and (x k : Nat) (hx : Word x) (hk : k ≤ 64) : bits .and .u64 (x : Int) (msk k) = (lowN x k : Int) := by
  rw [bits_and _ _ hx.lt (msk_lt hk)]
  unfold msk lowN
  rw [Nat.and_two_pow_sub_one_eq_mod]
theorem fld_word (v m k : Nat) (h : k ≤ 64) : fld v m k < 2 ^ 64 := Nat.lt_of_lt_of_le (fld_lt v m k) (Nat.pow_le_pow_right (by decide) h)
theorem fld_wth (v m k y : Nat) (h : m + k ≤ 64) (hy : y < 2 ^ k) : fld (wth v m k y) m k = y := by
  apply Nat.eq_of_testBit_eq
  intro i
  rw [testBit_fld, testBit_wth]
  by_cases hi : i < k
  · rw [sel_in (by omega) (by omega)]
    simp [hi, show m + i < 64 by omega]
  · rw [small_bit hy (by omega)]
    simp [hi]
theorem wth_wth (v m k y : Nat) (hv : Word v) : wth (wth v m k y) m k (fld v m k) = v := by
  apply Nat.eq_of_testBit_eq
  intro i
  rw [testBit_wth]
  by_cases h1 : i < 64
  · by_cases h2 : m ≤ i ∧ i < m + k
    · rw [sel_in h2.1 h2.2, testBit_fld]
      simp [h1, show i - m < k by omega, show m + (i - m) = i by omega]
    · rw [sel_out h2, testBit_wth, sel_out h2]
      simp [h1]
  · rw [testBit_out hv.lt (by omega)]
    simp [h1]
theorem others_stay (v m k y : Nat) (hv : Word v) (h : m + k ≤ 64) :
    (bits .andNot .u64 (bits .xor .u64 (wth v m k y : Int) (v : Int)) (IntKind.u64.wrap ((msk k : Int) * 2 ^ m)) == 0) = true := by
  rw [bits_xor _ _ (wth_lt _ _ _ _) hv.lt, shl_spelt _ _ (msk_shift_lt h), bits_andNot _ _ (Nat.xor_lt_two_pow (wth_lt _ _ _ _) hv.lt) (msk_shift_lt h)]
  have e : andNot (wth v m k y ^^^ v) (msk k * 2 ^ m) = 0 := by
    apply Nat.eq_of_testBit_eq
    intro i
    rw [testBit_andNot, Nat.testBit_xor, testBit_wth, Nat.testBit_mul_two_pow, testBit_msk]
    by_cases h1 : i < 64
    · by_cases h2 : m ≤ i ∧ i < m + k
      · simp [h2.1, show i - m < k by omega]
      · rw [sel_out h2]
        simp [h1]
    · simp [h1]
  rw [e]
  rfl
theorem parts_join (v m k : Nat) (hv : Word v) (h : m + k = 64) : (bits .or .u64 (IntKind.u64.wrap ((fld v m k : Int) * 2 ^ m)) (fld v 0 m : Int) == (v : Int)) = true := by
  have h1 := put_lt (show m + k ≤ 64 by omega) (fld_lt v m k)
  rw [shl_spelt _ _ h1, bits_or _ _ h1 (fld_word v 0 m (by omega))]
  have e : fld v m k * 2 ^ m ||| fld v 0 m = v := by
    apply Nat.eq_of_testBit_eq
    intro i
    rw [Nat.testBit_or, Nat.testBit_mul_two_pow, testBit_fld, testBit_fld, Nat.zero_add]
    by_cases h2 : m ≤ i
    · by_cases h3 : i < 64
      · simp [h2, show i - m < k by omega, show m + (i - m) = i by omega, show ¬ i < m by omega]
      · simp [show ¬ i - m < k by omega, show ¬ i < m by omega, testBit_out hv.lt (i := i) (by omega)]
    · simp [h2, show i < m by omega]
  rw [e]
  exact beq_self_eq_true _
theorem parts_low (v m : Nat) (hv : Word v) (h : m ≤ 64) : ((fld v 0 m : Int) == bits .and .u64 (v : Int) (msk m)) = true := by
  rw [low_and v m hv h]
  have e : fld v 0 m = lowN v m := by
    unfold fld lowN
    rw [Nat.pow_zero, Nat.div_one]
  rw [e]
  exact beq_self_eq_true _

theorem wth_swap (v a n x b m y : Nat) (h : a + n ≤ b) : wth (wth v b m y) a n x = wth (wth v a n x) b m y := by
  apply Nat.eq_of_testBit_eq
  intro i
  rw [testBit_wth, testBit_wth]
  by_cases h1 : i < 64
  · by_cases h2 : a ≤ i ∧ i < a + n
    · rw [sel_in h2.1 h2.2, sel_out (a := b) (by omega), testBit_wth, sel_in h2.1 h2.2]
      simp [h1]
    · rw [sel_out h2, testBit_wth]
      by_cases h3 : b ≤ i ∧ i < b + m
      · rw [sel_in h3.1 h3.2, sel_in h3.1 h3.2]
        simp [h1]
      · rw [sel_out h3, sel_out h3, testBit_wth, sel_out h2]
  · simp [h1]
theorem big_more (v m : Nat) (hm : m ≤ 63) (hb : 2 ^ 64 < v + 2 ^ m) : IntKind.u64.wrap (2 ^ m) < (v : Int) := by
  rw [wrap_pw m (by omega)]
  have h1 := Nat.pow_le_pow_right (n := 2) (by decide) hm
  have e := p64
  have e3 : (2 : Nat) ^ 63 = 9223372036854775808 := by decide
  omega
theorem up_all (v n : Nat) (hv : Word v) (hn : n ≤ 63) (hb : v + 2 ^ n ≤ 2 ^ 64) :
    v ≤ upTo v n ∧ upTo v n < v + pw n ∧ upTo v n + pw n ≤ 18446744073709551616 ∧ ∃ q, upTo v n = q * pw n := by
  obtain ⟨T, h1, h2, h3, h4⟩ := up_facts v n hv.lt hn
  have e := p64
  have e2 : pw n = 2 ^ n := rfl
  refine ⟨?_, ?_, ?_, ⟨_, rfl⟩⟩ <;> (rw [h4]; split <;> omega)
theorem up_there (v n : Nat) (hv : Word v) (hn : n ≤ 63) (hb : v + 2 ^ n ≤ 2 ^ 64) :
    Word (upTo v n) ∧ upTo v n + 2 ^ n ≤ 2 ^ 64 ∧ upTo (upTo v n) n = upTo v n := by
  obtain ⟨h1, h2, h3, q, h4⟩ := up_all v n hv hn hb
  have e := p64
  have e2 : pw n = 2 ^ n := rfl
  have hP : 0 < pw n := Nat.two_pow_pos n
  refine ⟨⟨by omega⟩, by omega, ?_⟩
  have h0 : upTo (upTo v n) n = (upTo v n + (pw n - 1)) / pw n * pw n := rfl
  rw [h0, h4, Nat.mul_comm q, Nat.mul_add_div hP, Nat.div_eq_of_lt (show pw n - 1 < pw n by omega), Nat.add_zero, Nat.mul_comm]
theorem up_multiple (v n : Nat) (hv : Word v) (hn : n ≤ 63) (hb : v + 2 ^ n ≤ 2 ^ 64) : (bits .and .u64 (upTo v n : Int) (msk n) == 0) = true := by
  obtain ⟨h1, h2, h3, q, h4⟩ := up_all v n hv hn hb
  have hP : 0 < pw n := Nat.two_pow_pos n
  have e := p64
  rw [low_and (upTo v n) n ⟨by omega⟩ (by omega)]
  have e1 : lowN (upTo v n) n = 0 := by
    rw [h4]
    exact Nat.mul_mod_left q (pw n)
  rw [e1]
  rfl
theorem up_no_less (v n : Nat) (hv : Word v) (hn : n ≤ 63) (hb : v + 2 ^ n ≤ 2 ^ 64) : (v : Int) ≤ (upTo v n : Int) := by
  have := (up_all v n hv hn hb).1
  omega
theorem up_near (v n : Nat) (hv : Word v) (hn : n ≤ 63) (hb : v + 2 ^ n ≤ 2 ^ 64) : IntKind.u64.wrap ((upTo v n : Int) - (v : Int)) ≤ (msk n : Int) := by
  obtain ⟨h1, h2, h3, _⟩ := up_all v n hv hn hb
  have e := p64
  have e2 : pw n = 2 ^ n := rfl
  have hP : 0 < pw n := Nat.two_pow_pos n
  rw [wrap_u64_eq]
  unfold msk
  omega

end Wd
end Go.Proofs.Ytldhpecpmgjihaa
