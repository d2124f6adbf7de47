/- What is so of a string's first bytes, and of the items of one. -/
import Derived.Test.YtldhpecpmgjihaaScsl
set_option linter.unusedVariables false
set_option linter.unusedSimpArgs false
namespace Go.Proofs.Ytldhpecpmgjihaa
open Go.RowKit Sc
namespace Sc
/-- The first bytes of a string. -/
def cutS (s : ByteArray) (k : Nat) : ByteArray := s.extract 0 k
theorem cut_size (s : ByteArray) (k : Nat) : (cutS s k).size = min k s.size := by simp [cutS, ByteArray.size_extract]
theorem cut_get (s : ByteArray) (k i : Nat) (h : i < min k s.size) : byt (cutS s k) i = byt s i := by
  have h1 : i < (cutS s k).size := by rw [cut_size]; exact h
  have h2 : i < s.size := by omega
  have e : (cutS s k)[i]'h1 = s[i]'h2 := by
    have e1 : (cutS s k)[i]'h1 = s[0 + i]'(by omega) := ByteArray.getElem_extract h1
    rw [e1]
    simp only [Nat.zero_add]
  have g : ∀ (u : ByteArray) (hi : i < u.size), byt u i = ((u[i]'hi).toNat : Int) := fun u hi => by
    unfold byt
    have h3 : i < u.data.toList.length := by simpa using hi
    rw [List.getD_eq_getElem?_getD, List.getElem?_eq_getElem h3]
    rfl
  rw [g _ h1, g _ h2, e]
theorem parse_cut (s : ByteArray) (c : Int) (k j : Nat) (h : 4 * j ≤ min k s.size) : parseU (cutS s k) c j = parseU s c j := by
  induction j with
  | zero => rfl
  | succ j ih =>
    have e : itAt (cutS s k) j = itAt s j := by
      unfold itAt
      rw [cut_get s k _ (by omega), cut_get s k _ (by omega), cut_get s k _ (by omega), cut_get s k _ (by omega)]
    unfold parseU
    rw [ih (by omega), e]
theorem parse_right (s : ByteArray) (c : Int) (j : Nat) : ∀ x ∈ parseU s c j, rightU x c = true := by
  induction j with
  | zero => intro x hx; simp [parseU] at hx
  | succ j ih =>
    intro x hx
    unfold parseU at hx
    split at hx
    · rename_i h
      rcases List.mem_append.1 hx with hx | hx
      · exact ih x hx
      · have : x = itAt s j := by simpa using hx
        rw [this]
        exact h
    · exact ih x hx
theorem print_all (f : Nat → It) (c : Int) (k : Nat) (h : ∀ j, j < k → rightU (f j) c = true) : (printU f c k).length = 4 * k := by
  induction k with
  | zero => rfl
  | succ k ih =>
    unfold printU
    rw [if_pos (h k (by omega)), List.length_append, ih (fun j hj => h j (by omega))]
    simp [bytesU]
    omega
end Sc
end Go.Proofs.Ytldhpecpmgjihaa
