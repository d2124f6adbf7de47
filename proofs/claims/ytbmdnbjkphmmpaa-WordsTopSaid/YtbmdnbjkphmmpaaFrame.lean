/- Small facts that each row's frame wants: words out of readings, a struct of two numbers and an array of four words by value. -/
import Derived.Test.YtbmdnbjkphmmpaaRows
import Derived.ProofKit
import Derived.Lib.SmallJoins
import Derived.OpenShut
namespace Go.Proofs.Ytbmdnbjkphmmpaa
open Go.ChangeShapes Go.WideShapes Go.ChangeAt Go.RowKit Go.Joins

theorem own_knob : ownKnob Try.prog.godebug = none := by kernel_rfl
theorem laid_out : laidOutB Try.prog = true := by kernel_rfl
theorem word_of_wf {x : Int} (h : (Lit.int .u64 x).wf = true) : ∃ v : Nat, x = (v : Int) ∧ v < 2 ^ 64 := by
  simp [Lit.wf, IntKind.min, IntKind.max, IntKind.signed, IntKind.bits] at h
  obtain ⟨v, rfl⟩ := Int.eq_ofNat_of_zero_le (show 0 ≤ x by omega)
  have e : (2 : Nat) ^ 64 = 18446744073709551616 := by decide
  exact ⟨v, rfl, by omega⟩
theorem int_of_wf {x : Int} (h : (Lit.int .i64 x).wf = true) : -9223372036854775808 ≤ x ∧ x ≤ 9223372036854775807 := by
  simp [Lit.wf, IntKind.min, IntKind.max, IntKind.signed, IntKind.bits] at h
  omega

theorem okWide_array {w : World} {r : Reach} {base n : Nat} {t e : TypeId} {v : Value} (ht : Try.prog.underlying t = some (.array n e)) (h : Value.okWide Try.prog w r base t v) : ∃ cs, v = .agg cs ∧ cs.size = Try.prog.cellsOf t := by
  simp only [Value.okWide, ht] at h
  obtain ⟨cs, h1, h2, _⟩ := h
  exact ⟨cs, h1, h2⟩

section
variable {H : Type} {enc : TypeId × Value → H} {w : World} {base : Nat} {spare : Nat → Bool} {held : Bool}
theorem cells_bits : Try.prog.cellsOf 35 = 4 := by kernel_rfl
theorem cells_u64 : Try.prog.cellsOf 22 = 1 := by kernel_rfl
/-- An array of four words by value. -/
theorem open_bits {r : Reach} {b0 : Nat} {v : Value} {d : DataW H} {p : List MemPlace} (hv : Value.okWide Try.prog w r b0 35 v)
    (h : DataW.Trod enc Try.prog w base spare held 35 v d p) :
    ∃ x0 x1 x2 x3 : Nat, v = .agg #[.int .u64 x0, .int .u64 x1, .int .u64 x2, .int .u64 x3] ∧ x0 < 2 ^ 64 ∧ x1 < 2 ^ 64 ∧ x2 < 2 ^ 64 ∧ x3 < 2 ^ 64 := by
  obtain ⟨cs, rfl, hsz⟩ := okWide_array Try.underlying35 hv
  obtain ⟨c0, c1, c2, c3, rfl⟩ := array4 (hsz.trans cells_bits)
  obtain ⟨fuel, hf⟩ := h
  obtain ⟨y0, y1, y2, y3, n, hx, h0, h1, h2, h3⟩ := trod_array4 Try.underlying35 cells_u64 (by simpa [Value.cells] using hf)
  obtain ⟨a0, e0, _, w0⟩ := DataW.trod_int Try.underlying22 h0
  obtain ⟨a1, e1, _, w1⟩ := DataW.trod_int Try.underlying22 h1
  obtain ⟨a2, e2, _, w2⟩ := DataW.trod_int Try.underlying22 h2
  obtain ⟨a3, e3, _, w3⟩ := DataW.trod_int Try.underlying22 h3
  simp at e0 e1 e2 e3
  subst e0 e1 e2 e3
  obtain ⟨x0, rfl, k0⟩ := word_of_wf w0
  obtain ⟨x1, rfl, k1⟩ := word_of_wf w1
  obtain ⟨x2, rfl, k2⟩ := word_of_wf w2
  obtain ⟨x3, rfl, k3⟩ := word_of_wf w3
  exact ⟨x0, x1, x2, x3, rfl, k0, k1, k2, k3⟩
theorem cells_part : Try.prog.cellsOf 24 = 2 := by kernel_rfl
/-- Two numbers by value. -/
theorem open_part {r : Reach} {b0 : Nat} {v : Value} {d : DataW H} {p : List MemPlace} (hv : Value.okWide Try.prog w r b0 24 v)
    (h : DataW.Trod enc Try.prog w base spare held 24 v d p) :
    ∃ a n : Int, v = .agg #[.int .i64 a, .int .i64 n] ∧ (-9223372036854775808 ≤ a ∧ a ≤ 9223372036854775807) ∧ (-9223372036854775808 ≤ n ∧ n ≤ 9223372036854775807) := by
  obtain ⟨c0, c1, y0, y1, m, rfl, _, _, hy0, hy1⟩ := open_agg2 Try.underlying24 (by kernel_rfl) cells_part hv h
  obtain ⟨a, e0, _, wa⟩ := DataW.trod_int Try.underlying3 hy0
  obtain ⟨b, e1, _, wb⟩ := DataW.trod_int Try.underlying3 hy1
  simp at e0 e1
  subst e0 e1
  exact ⟨a, b, rfl, int_of_wf wa, int_of_wf wb⟩
end
end Go.Proofs.Ytbmdnbjkphmmpaa
