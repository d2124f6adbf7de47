/- Plain facts on scripts: items, when one may be, what bytes hold. -/
import Derived.Test.YtldhpecpmgjihaaProg
import Derived.WalkKit
import Derived.WalkSmall
import Derived.Lib.Hide
namespace Go.Proofs.Ytldhpecpmgjihaa
open Go.RowKit
namespace Sc
structure It where
  k : Int
  c : Int
  a : Int
  b : Int
deriving DecidableEq
def It.Right (x : It) (n : Int) : Prop := (0 ≤ x.k ∧ x.k < 4) ∧ (0 ≤ x.c ∧ x.c < n ∧ x.c < 8) ∧ (0 ≤ x.a ∧ x.a ≤ 255) ∧ (0 ≤ x.b ∧ x.b ≤ 255)
instance (x : It) (n : Int) : Decidable (x.Right n) := by unfold It.Right; infer_instance
def rightU (x : It) (n : Int) : Bool := decide (x.Right n)
end Sc
theorem below_new {w W : World} (h : Below w.heap.size w W) (o : Obj) : Below w.heap.size w (W.alloc o) := h.alloc h.size o
theorem below_draws {w w1 : World} (h : Below w.heap.size w w1) (k : Nat) : Below w.heap.size w (w1.drewN k) := ⟨h.os, h.tape, h.output, h.size, h.block⟩
theorem below_from {w W0 w1 : World} (h0 : Below w.heap.size w W0) (h1 : Below W0.heap.size W0 w1) : Below w.heap.size w w1 :=
  h0.trans ⟨h1.os, h1.tape, h1.output, h1.size, fun i hi => h1.block i (Nat.lt_of_lt_of_le hi h0.size)⟩
end Go.Proofs.Ytldhpecpmgjihaa
