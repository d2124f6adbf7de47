/- Small facts that each script row's frame wants: an item by value. -/
import Derived.Test.YtldhpecpmgjihaaFrame
import Derived.Test.YtldhpecpmgjihaaScmath
import Derived.ChangeMaps5
namespace Go.Proofs.Ytldhpecpmgjihaa
open Go.ChangeShapes Go.WideShapes Go.ChangeAt Go.RowKit Go.Joins Sc
section
variable {H : Type} {enc : TypeId × Value → H} {w : World} {base : Nat} {spare : Nat → Bool} {held : Bool}
theorem cells_item : Try.prog.cellsOf 29 = 4 := by kernel_rfl
/-- An item by value. -/
theorem open_it {r : Reach} {b0 : Nat} {v : Value} {d : DataW H} {p : List MemPlace} (hv : Value.okWide Try.prog w r b0 29 v)
    (h : DataW.Trod enc Try.prog w base spare held 29 v d p) : ∃ x : It, v = (.agg #[.int .i64 x.k, .int .i64 x.c, .int .i64 x.a, .int .i64 x.b]) := by
  obtain ⟨c0, c1, c2, c3, y0, y1, y2, y3, m, rfl, _, _, hy0, hy1, hy2, hy3⟩ := open_agg4 Try.underlying29 (by kernel_rfl) cells_item hv h
  obtain ⟨a0, e0, _, w0⟩ := DataW.trod_int Try.underlying3 hy0
  obtain ⟨a1, e1, _, w1⟩ := DataW.trod_int Try.underlying3 hy1
  obtain ⟨a2, e2, _, w2⟩ := DataW.trod_int Try.underlying3 hy2
  obtain ⟨a3, e3, _, w3⟩ := DataW.trod_int Try.underlying3 hy3
  simp at e0 e1 e2 e3
  subst e0 e1 e2 e3
  exact ⟨⟨a0, a1, a2, a3⟩, rfl⟩
end
end Go.Proofs.Ytldhpecpmgjihaa
