/- Plain facts on how a capability is put into words. -/
import Derived.Test.YthgiofgedeijoaaCmath
namespace Go.Proofs.Ythgiofgedeijoaa
namespace Cd
open Wd

/-- The word behind j of the four fields. -/
def pk (k r n o : Nat) : Nat → Nat
  | 0 => 0
  | 1 => wth 0 0 4 k
  | 2 => wth (wth 0 0 4 k) 4 3 r
  | 3 => wth (wth (wth 0 0 4 k) 4 3 r) 7 7 n
  | _ => wth (wth (wth (wth 0 0 4 k) 4 3 r) 7 7 n) 16 31 o
theorem pk_word (k r n o j : Nat) : Word (pk k r n o j) := by
  match j with
  | 0 => exact ⟨by show (0 : Nat) < 2 ^ 64; decide⟩
  | 1 => exact ⟨wth_lt _ _ _ _⟩
  | 2 => exact ⟨wth_lt _ _ _ _⟩
  | 3 => exact ⟨wth_lt _ _ _ _⟩
  | _ + 4 => exact ⟨wth_lt _ _ _ _⟩
theorem wth_add (v a n x : Nat) (hv : v < 2 ^ a) (hx : x < 2 ^ n) (h : a + n ≤ 64) : wth v a n x = v + x * 2 ^ a := by
  apply Nat.eq_of_testBit_eq
  intro i
  rw [testBit_wth, Nat.add_comm, Nat.mul_comm, Nat.testBit_two_pow_mul_add _ hv]
  by_cases h1 : i < a
  · rw [if_pos h1, sel_out (by omega)]
    simp [show i < 64 by omega]
  · rw [if_neg h1]
    by_cases h2 : i < a + n
    · rw [sel_in (by omega) h2]
      simp [show i < 64 by omega]
    · rw [sel_out (by omega), Nat.testBit_lt_two_pow (Nat.lt_of_lt_of_le hv (Nat.pow_le_pow_right (by decide) (by omega))), small_bit hx (show n ≤ i - a by omega)]
      simp
/-- The four fields add up. -/
theorem pk_sum (k r n o : Nat) (kh : k < 2 ^ 4) (rh : r < 2 ^ 3) (nh : n < 2 ^ 7) (oh : o < 2 ^ 31) : pk k r n o 4 = k + r * 16 + n * 128 + o * 65536 := by
  have e1 : wth 0 0 4 k = k := by
    rw [wth_add 0 0 4 k (by decide) kh (by decide)]
    omega
  have e2 : wth k 4 3 r = k + r * 2 ^ 4 := wth_add k 4 3 r kh rh (by decide)
  have l2 : k + r * 2 ^ 4 < 2 ^ 7 := by omega
  have e3 : wth (k + r * 2 ^ 4) 7 7 n = k + r * 2 ^ 4 + n * 2 ^ 7 := wth_add _ 7 7 n l2 nh (by decide)
  have l3 : k + r * 2 ^ 4 + n * 2 ^ 7 < 2 ^ 16 := by omega
  have e4 : wth (k + r * 2 ^ 4 + n * 2 ^ 7) 16 31 o = k + r * 2 ^ 4 + n * 2 ^ 7 + o * 2 ^ 16 := wth_add _ 16 31 o l3 oh (by decide)
  show wth (wth (wth (wth 0 0 4 k) 4 3 r) 7 7 n) 16 31 o = _
  rw [e1, e2, e3, e4]
theorem fld_i64 (x a n : Nat) (hn : n ≤ 31) : IntKind.i64.wrap (fld x a n : Int) = (fld x a n : Int) := by
  have h1 := fld_lt x a n
  have h2 := Nat.pow_le_pow_right (n := 2) (by decide) hn
  have e : (2 : Nat) ^ 31 = 2147483648 := by decide
  rw [IntKind.wrap_i64]
  omega
end Cd
end Go.Proofs.Ythgiofgedeijoaa
