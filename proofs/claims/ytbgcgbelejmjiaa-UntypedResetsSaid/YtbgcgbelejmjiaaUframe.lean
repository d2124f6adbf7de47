/- Small facts that each untyped row's frame wants: untyped memory, and what is asked, by value. -/
import Derived.Test.YtbgcgbelejmjiaaFrame
import Derived.Test.YtbgcgbelejmjiaaUmath
namespace Go.Proofs.Ytbgcgbelejmjiaa
open Go.ChangeShapes Go.WideShapes Go.ChangeAt Go.RowKit Go.Joins Wd Ud
section
variable {H : Type} {enc : TypeId × Value → H} {w : World} {base : Nat} {spare : Nat → Bool} {held : Bool}
theorem cells_unt : Try.prog.cellsOf 24 = 3 := by kernel_rfl
theorem cells_what : Try.prog.cellsOf 26 = 3 := by kernel_rfl
/-- Untyped memory by value. -/
theorem open_unt {r : Reach} {b0 : Nat} {v : Value} {d : DataW H} {p : List MemPlace} (hv : Value.okWide Try.prog w r b0 24 v)
    (h : DataW.Trod enc Try.prog w base spare held 24 v d p) : ∃ x : Ut, v = (.agg #[.int .u64 x.b, .int .i64 x.n, .int .u64 x.u]) ∧ Word x.b ∧ Word x.u := by
  obtain ⟨c0, c1, c2, y0, y1, y2, m, rfl, _, _, hy0, hy1, hy2⟩ := open_agg3 Try.underlying24 (by kernel_rfl) cells_unt hv h
  obtain ⟨a0, e0, _, w0⟩ := DataW.trod_int Try.underlying22 hy0
  obtain ⟨a1, e1, _, w1⟩ := DataW.trod_int Try.underlying3 hy1
  obtain ⟨a2, e2, _, w2⟩ := DataW.trod_int Try.underlying22 hy2
  simp at e0 e1 e2
  subst e0 e1 e2
  obtain ⟨x0, rfl, k0⟩ := word_of_wf w0
  obtain ⟨x2, rfl, k2⟩ := word_of_wf w2
  exact ⟨⟨x0, a1, x2⟩, rfl, ⟨k0⟩, ⟨k2⟩⟩
/-- A kind, bits, how many, by value. -/
theorem open_what {r : Reach} {b0 : Nat} {v : Value} {d : DataW H} {p : List MemPlace} (hv : Value.okWide Try.prog w r b0 26 v)
    (h : DataW.Trod enc Try.prog w base spare held 26 v d p) : ∃ k n c : Int, v = (.agg #[.int .i64 k, .int .i64 n, .int .i64 c]) ∧ (-9223372036854775808 ≤ k ∧ k ≤ 9223372036854775807) ∧ (-9223372036854775808 ≤ n ∧ n ≤ 9223372036854775807) ∧ (-9223372036854775808 ≤ c ∧ c ≤ 9223372036854775807) := by
  obtain ⟨c0, c1, c2, y0, y1, y2, m, rfl, _, _, hy0, hy1, hy2⟩ := open_agg3 Try.underlying26 (by kernel_rfl) cells_what hv h
  obtain ⟨a0, e0, _, w0⟩ := DataW.trod_int Try.underlying3 hy0
  obtain ⟨a1, e1, _, w1⟩ := DataW.trod_int Try.underlying3 hy1
  obtain ⟨a2, e2, _, w2⟩ := DataW.trod_int Try.underlying3 hy2
  simp at e0 e1 e2
  subst e0 e1 e2
  exact ⟨a0, a1, a2, rfl, int_of_wf w0, int_of_wf w1, int_of_wf w2⟩
end
end Go.Proofs.Ytbgcgbelejmjiaa
