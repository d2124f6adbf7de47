/- What is so of the places: when some go in, what is left, and what if not. -/
import Derived.Test.YtbgcgbelejmjiaaUpany
set_option linter.unusedVariables false
set_option linter.unusedSimpArgs false
namespace Go.Proofs.Ytbgcgbelejmjiaa
open Wd Ud
namespace Ud
theorem place_ok {x y : Ut} {k n c : Int} {l : List Nat} (h : placeU x k n c = (l, y, 0)) : ∃ (m s i p : Nat), x.n = (m : Int) ∧ m ≤ 20 ∧ x.Ok ∧ sizeU k n = ((s : Int), 0) ∧ 2 ≤ s ∧ s ≤ 20 ∧ c = (i : Int) ∧ 1 ≤ i ∧ i ≤ 64 ∧ p = upTo (x.b + x.u) s ∧ p + i * pw s ≤ x.b + pw m ∧ l = lst p s i ∧ y = ⟨x.b, x.n, p + i * pw s - x.b⟩ := by
  unfold placeU at h
  split at h
  · injection h with _ h
    injection h with _ h
    cases h
  · rename_i ok
    have ok : x.Ok := Decidable.not_not.1 ok
    split at h
    · rename_i hs
      injection h with _ h
      injection h with _ h
      exact absurd h hs
    · rename_i hs
      have hs : (sizeU k n).2 = 0 := Decidable.not_not.1 hs
      split at h
      · injection h with _ h
        injection h with _ h
        cases h
      · rename_i hc
        split at h
        · injection h with _ h
          injection h with _ h
          cases h
        · rename_i hf
          obtain ⟨g1, g2⟩ := size_in hs
          injection h with h1 h
          injection h with h2 _
          have o1 := ok.1
          have o2 := ok.2.1
          refine ⟨x.n.toNat, (sizeU k n).1.toNat, c.toNat, _, by omega, by omega, ok, ?_, by omega, by omega, by omega, by omega, by omega, rfl, ?_, h1.symm, h2.symm⟩
          · rw [Int.toNat_of_nonneg (by omega), ← hs]
          · unfold atU at hf
            omega
theorem place_err {x y : Ut} {k n c i : Int} {l : List Nat} (h : placeU x k n c = (l, y, i)) (hi : i ≠ 0) : l = [] ∧ y = Ud.none ∧ (¬ x.Ok → i = 1) := by
  unfold placeU at h
  split at h
  · cases h
    exact ⟨rfl, rfl, fun _ => rfl⟩
  · rename_i ok
    have ok : x.Ok := Decidable.not_not.1 ok
    split at h
    · cases h
      exact ⟨rfl, rfl, fun h => absurd ok h⟩
    · split at h
      · cases h
        exact ⟨rfl, rfl, fun h => absurd ok h⟩
      · split at h
        · cases h
          exact ⟨rfl, rfl, fun h => absurd ok h⟩
        · cases h
          exact absurd rfl hi
theorem pw_lt_of {a b : Nat} (h : pw b ≤ pw a) : b ≤ a := by
  apply Nat.le_of_not_lt
  intro hl
  have h1 : pw (a + 1) ≤ pw b := Nat.pow_le_pow_right (by decide) hl
  have h2 : pw (a + 1) = 2 * pw a := by show 2 ^ (a + 1) = 2 * 2 ^ a; rw [Nat.pow_succ, Nat.mul_comm]
  have h3 : 0 < pw a := Nat.two_pow_pos a
  omega
theorem left_ok {x y : Ut} {k n c : Int} {l : List Nat} (h : placeU x k n c = (l, y, 0)) : y.Ok ∧ x.u < y.u ∧ Word y.u ∧ Word y.b := by
  obtain ⟨m, s, i, p, h1, h2, h3, h4, h5, h6, h7, h8, h9, h10, h11, h12, rfl⟩ := place_ok h
  obtain ⟨q1, q2, q3⟩ := upTo_facts (x.b + x.u) s
  obtain ⟨k0, k1, k2, k3, k4⟩ := h3
  have e : x.n.toNat = m := by omega
  have hp : 0 < pw s := Nat.two_pow_pos s
  have hi : pw s ≤ i * pw s := Nat.le_mul_of_pos_left _ h8
  have pm : pw m ≤ 1048576 := Nat.pow_le_pow_right (by decide) h2
  have e64 : (2 : Nat) ^ 64 = 18446744073709551616 := by decide
  have p40 : (2 : Nat) ^ 40 = 1099511627776 := by decide
  rw [e] at k3 k4
  refine ⟨⟨k0, k1, k2, by show x.b % pw x.n.toNat = 0; rw [e]; exact k3, by show p + i * pw s - x.b ≤ pw x.n.toNat; rw [e]; omega⟩, ?_, ⟨?_⟩, ⟨?_⟩⟩
  · show x.u < p + i * pw s - x.b
    omega
  · show p + i * pw s - x.b < 2 ^ 64
    omega
  · show x.b < 2 ^ 64
    omega
end Ud

end Go.Proofs.Ytbgcgbelejmjiaa
