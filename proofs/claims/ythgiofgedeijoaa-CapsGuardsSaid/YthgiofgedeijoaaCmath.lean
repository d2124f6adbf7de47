/- Plain facts on capabilities: when one may be, as one test. -/
import Derived.Test.YthgiofgedeijoaaMath
namespace Go.Proofs.Ythgiofgedeijoaa
namespace Cd
open Wd

/-- A capability's numbers. -/
structure Cp where
  k : Int
  o : Int
  r : Int
  b : Nat
  g : Nat
  n : Int
def limB (k : Int) : Bool := decide (k = 4 ∨ k = 5 ∨ k = 6)
def badB (k : Int) : Bool := decide (k = 4 ∨ k = 5)
def rigB (r : Int) : Bool := decide (0 ≤ r ∧ r ≤ 7)
def guaB (g : Nat) (n : Int) : Bool := decide (0 ≤ n ∧ n ≤ 64 ∧ g < 2 ^ n.toNat)
def eqB (x y : Cp) : Bool := decide (x.k = y.k ∧ x.o = y.o ∧ x.r = y.r ∧ x.b = y.b ∧ x.g = y.g ∧ x.n = y.n)
def zero : Cp := ⟨0, 0, 0, 0, 0, 0⟩
structure Cp.Form (c : Cp) : Prop where
  k1 : 1 ≤ c.k
  k2 : c.k ≤ 9
  o1 : 0 ≤ c.o
  o2 : c.o ≤ 2147483647
  r : rigB c.r = true
  g : guaB c.g c.n = true
  lim : limB c.k = true ∨ c.r = 7
  bad : c.b = 0 ∨ badB c.k = true
  nod : c.n = 0 ∨ c.k = 2
def Cp.Ok (c : Cp) : Prop := eqB c zero = true ∨ c.Form
theorem guaB_msk (g m : Nat) (hg : Word g) (hm : m ≤ 64) : (bits .andNot .u64 (g : Int) (msk m) == 0) = guaB g (m : Int) := by
  unfold guaB
  by_cases h : g < 2 ^ m
  · rw [decide_eq_true (⟨by omega, by omega, by simpa using h⟩ : 0 ≤ (m : Int) ∧ (m : Int) ≤ 64 ∧ g < 2 ^ (m : Int).toNat)]
    have := small_spelt g m hg hm h
    simpa using this
  · rw [decide_eq_false (by rintro ⟨_, _, h3⟩; exact h (by simpa using h3))]
    have := big_spelt g m hg hm (by omega)
    simpa using this
theorem guaB_bad (g : Nat) (n : Int) (h : n < 0 ∨ 64 < n) : guaB g n = false := decide_eq_false (by omega)
end Cd
end Go.Proofs.Ythgiofgedeijoaa
