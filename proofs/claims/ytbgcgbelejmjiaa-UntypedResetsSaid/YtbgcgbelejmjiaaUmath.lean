/- Plain facts on untyped memory: when some may be, how large an object is. -/
import Derived.Test.YtbgcgbelejmjiaaMath
namespace Go.Proofs.Ytbgcgbelejmjiaa
namespace Ud
open Wd

/-- Untyped memory's numbers. -/
structure Ut where
  b : Nat
  n : Int
  u : Nat
def Ut.Ok (x : Ut) : Prop := 0 ≤ x.n ∧ x.n ≤ 20 ∧ x.b ≤ 2 ^ 40 ∧ x.b % pw x.n.toNat = 0 ∧ x.u ≤ pw x.n.toNat
instance (x : Ut) : Decidable x.Ok := by unfold Ut.Ok; infer_instance
def none : Ut := ⟨0, 0, 0⟩
def eqU (x y : Ut) : Bool := decide (x.b = y.b ∧ x.n = y.n ∧ x.u = y.u)
def chkU (x : Ut) : Int := if x.Ok then 0 else 1
def sizeU (k n : Int) : Int × Int :=
  if k = 1 then (if 4 ≤ n ∧ n ≤ 20 then (n, 0) else (0, 1))
  else if k = 2 then (if 1 ≤ n ∧ n ≤ 8 then (n + 2, 0) else (0, 1))
  else if k = 3 then (5, 0)
  else if k = 4 ∨ k = 5 then (2, 0)
  else if k = 6 ∨ k = 7 ∨ k = 8 then (6, 0)
  else (0, 80)
end Ud
end Go.Proofs.Ytbgcgbelejmjiaa
