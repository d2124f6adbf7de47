/- Small facts that each caps row's frame wants: a capability and two words, by value. -/
import Derived.Test.YthgiofgedeijoaaFrame
import Derived.Test.YthgiofgedeijoaaCmath
namespace Go.Proofs.Ythgiofgedeijoaa
open Go.ChangeShapes Go.WideShapes Go.ChangeAt Go.RowKit Go.Joins Wd Cd

theorem array6 {α : Type} {cs : Array α} (h : cs.size = 6) : ∃ c0 c1 c2 c3 c4 c5, cs = #[c0, c1, c2, c3, c4, c5] := by
  obtain ⟨l⟩ := cs
  match l, h with
  | [c0, c1, c2, c3, c4, c5], _ => exact ⟨c0, c1, c2, c3, c4, c5, rfl⟩
section
variable {H : Type} {enc : TypeId × Value → H} {w : World} {base : Nat} {spare : Nat → Bool} {held : Bool}
theorem cells_cap : Try.prog.cellsOf 24 = 6 := by kernel_rfl
theorem cells_num : Try.prog.cellsOf 3 = 1 := by kernel_rfl
theorem cells_wrd : Try.prog.cellsOf 22 = 1 := by kernel_rfl
theorem trod_cap {c0 c1 c2 c3 c4 c5 : Value} {fuel : Nat} {x : DataW H × List MemPlace} (h : DataW.trod enc Try.prog w base spare held fuel 24 [c0, c1, c2, c3, c4, c5] = some x) :
    ∃ (y0 y1 y2 y3 y4 y5 : DataW H × List MemPlace) (n : Nat), DataW.trod enc Try.prog w base spare held n 3 [c0] = some y0 ∧ DataW.trod enc Try.prog w base spare held n 3 [c1] = some y1 ∧ DataW.trod enc Try.prog w base spare held n 3 [c2] = some y2 ∧ DataW.trod enc Try.prog w base spare held n 22 [c3] = some y3 ∧ DataW.trod enc Try.prog w base spare held n 22 [c4] = some y4 ∧ DataW.trod enc Try.prog w base spare held n 3 [c5] = some y5 := by
  obtain ⟨xs, n, _, rfl, hl, hlen, hf⟩ := DataW.trod_struct Try.underlying24 h
  match xs, hlen with
  | [y0, y1, y2, y3, y4, y5], _ =>
    exact ⟨y0, y1, y2, y3, y4, y5, n, by simpa [cells_num, cells_wrd] using hf 0 _ rfl, by simpa [cells_num, cells_wrd] using hf 1 _ rfl, by simpa [cells_num, cells_wrd] using hf 2 _ rfl, by simpa [cells_num, cells_wrd] using hf 3 _ rfl, by simpa [cells_num, cells_wrd] using hf 4 _ rfl, by simpa [cells_num, cells_wrd] using hf 5 _ rfl⟩
/-- A capability by value. -/
theorem open_cap {r : Reach} {b0 : Nat} {v : Value} {d : DataW H} {p : List MemPlace} (hv : Value.okWide Try.prog w r b0 24 v)
    (h : DataW.Trod enc Try.prog w base spare held 24 v d p) : ∃ c : Cp, v = (.agg #[.int .i64 c.k, .int .i64 c.o, .int .i64 c.r, .int .u64 c.b, .int .u64 c.g, .int .i64 c.n]) ∧ Word c.b ∧ Word c.g := by
  obtain ⟨cs, rfl, hsz⟩ := okWide_struct Try.underlying24 hv
  obtain ⟨c0, c1, c2, c3, c4, c5, rfl⟩ := array6 (hsz.trans cells_cap)
  obtain ⟨fuel, hf⟩ := h
  obtain ⟨y0, y1, y2, y3, y4, y5, n, h0, h1, h2, h3, h4, h5⟩ := trod_cap (by simpa [Value.cells] using hf)
  obtain ⟨a0, e0, _, w0⟩ := DataW.trod_int Try.underlying3 h0
  obtain ⟨a1, e1, _, w1⟩ := DataW.trod_int Try.underlying3 h1
  obtain ⟨a2, e2, _, w2⟩ := DataW.trod_int Try.underlying3 h2
  obtain ⟨a3, e3, _, w3⟩ := DataW.trod_int Try.underlying22 h3
  obtain ⟨a4, e4, _, w4⟩ := DataW.trod_int Try.underlying22 h4
  obtain ⟨a5, e5, _, w5⟩ := DataW.trod_int Try.underlying3 h5
  simp at e0 e1 e2 e3 e4 e5
  subst e0 e1 e2 e3 e4 e5
  obtain ⟨x3, rfl, k3⟩ := word_of_wf w3
  obtain ⟨x4, rfl, k4⟩ := word_of_wf w4
  exact ⟨⟨a0, a1, a2, x3, x4, a5⟩, rfl, ⟨k3⟩, ⟨k4⟩⟩
theorem cells_pair : Try.prog.cellsOf 35 = 2 := by kernel_rfl
theorem trod_pair {c0 c1 : Value} {fuel : Nat} {x : DataW H × List MemPlace} (h : DataW.trod enc Try.prog w base spare held fuel 35 [c0, c1] = some x) :
    ∃ (y0 y1 : DataW H × List MemPlace) (n : Nat), DataW.trod enc Try.prog w base spare held n 22 [c0] = some y0 ∧ DataW.trod enc Try.prog w base spare held n 22 [c1] = some y1 := by
  cases fuel with
  | zero => simp [DataW.trod] at h
  | succ n =>
    unfold DataW.trod at h
    rw [Try.underlying35] at h
    have r2 : List.range 2 = [0, 1] := rfl
    simp [r2, cells_wrd] at h
    obtain ⟨_, h⟩ := h
    cases h0 : DataW.trod enc Try.prog w base spare held n 22 [c0] with
    | none => simp [h0] at h
    | some y0 =>
      cases h1 : DataW.trod enc Try.prog w base spare held n 22 [c1] with
      | none => simp [h0, h1] at h
      | some y1 => exact ⟨y0, y1, n, h0, h1⟩
theorem open_pair {r : Reach} {b0 : Nat} {v : Value} {d : DataW H} {p : List MemPlace} (hv : Value.okWide Try.prog w r b0 35 v)
    (h : DataW.Trod enc Try.prog w base spare held 35 v d p) : ∃ x y : Nat, v = (.agg #[.int .u64 x, .int .u64 y]) ∧ Word x ∧ Word y := by
  obtain ⟨cs, rfl, hsz⟩ := okWide_array Try.underlying35 hv
  obtain ⟨c0, c1, rfl⟩ := array2 (hsz.trans cells_pair)
  obtain ⟨fuel, hf⟩ := h
  obtain ⟨y0, y1, n, h0, h1⟩ := trod_pair (by simpa [Value.cells] using hf)
  obtain ⟨a0, e0, _, w0⟩ := DataW.trod_int Try.underlying22 h0
  obtain ⟨a1, e1, _, w1⟩ := DataW.trod_int Try.underlying22 h1
  simp at e0 e1
  subst e0 e1
  obtain ⟨x0, rfl, k0⟩ := word_of_wf w0
  obtain ⟨x1, rfl, k1⟩ := word_of_wf w1
  exact ⟨x0, x1, rfl, ⟨k0⟩, ⟨k1⟩⟩
end
end Go.Proofs.Ythgiofgedeijoaa
