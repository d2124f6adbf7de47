/- Slices of items: Same, Print, Parse over them. -/
import Derived.Test.YtldhpecpmgjihaaScparse
import Derived.Test.YtldhpecpmgjihaaScprint
set_option linter.unusedVariables false
set_option linter.unusedSimpArgs false
namespace Go.Proofs.Ytldhpecpmgjihaa
open Go.RowKit Sc

namespace Sc
def zero : It := ⟨0, 0, 0, 0⟩
def parseL (s : ByteArray) (c : Int) : List It := parseU s c (s.size / 4)
def printL (l : List It) (c : Int) : List UInt8 := printU (fun j => l.getD j zero) c l.length
end Sc
/-- A slice of items. -/
def SlIt (w : World) (v : Value) (l : List It) : Prop :=
  ∃ ao cap, v = .slice ao l.length cap ∧ (l ≠ [] → ∃ g o, ao = some ⟨g, o, none⟩ ∧ g < w.heap.size ∧ ∀ j, j < l.length → w.cell? ⟨g, o + j * 4, none⟩ = some (.int .i64 (l.getD j Sc.zero).k) ∧ w.cell? ⟨g, o + j * 4 + 1, none⟩ = some (.int .i64 (l.getD j Sc.zero).c) ∧ w.cell? ⟨g, o + j * 4 + 2, none⟩ = some (.int .i64 (l.getD j Sc.zero).a) ∧ w.cell? ⟨g, o + j * 4 + 3, none⟩ = some (.int .i64 (l.getD j Sc.zero).b))
theorem SlIt.keep {w w1 : World} {v : Value} {l : List It} (h : SlIt w v l) (hb : Below w.heap.size w w1) : SlIt w1 v l := by
  obtain ⟨ao, cap, h1, h2⟩ := h
  refine ⟨ao, cap, h1, fun hl => ?_⟩
  obtain ⟨g, o, h3, h4, h5⟩ := h2 hl
  refine ⟨g, o, h3, Nat.lt_of_lt_of_le h4 hb.size, fun j hj => ?_⟩
  obtain ⟨a0, a1, a2, a3⟩ := h5 j hj
  exact ⟨(hb.cell (p := ⟨g, _, none⟩) h4).trans a0, (hb.cell (p := ⟨g, _, none⟩) h4).trans a1, (hb.cell (p := ⟨g, _, none⟩) h4).trans a2, (hb.cell (p := ⟨g, _, none⟩) h4).trans a3⟩
theorem SlIt.alloc {w : World} {v : Value} {l : List It} {o : Obj} (h : SlIt w v l) : SlIt (w.alloc o) v l := h.keep (below_new (Below.refl _ _) _)
theorem SlIt.draws {w : World} {v : Value} {l : List It} (h : SlIt w v l) (k : Nat) : SlIt (w.drewN k) v l := h
theorem SlIt.nil (w : World) (ao : Option Addr) (cap : Nat) : SlIt w (.slice ao 0 cap) [] := ⟨ao, cap, rfl, fun h => absurd rfl h⟩
theorem its_get {l : List It} {j : Nat} (h : j < l.length) : (its l)[j * 4]? = some (.int .i64 (l.getD j Sc.zero).k) ∧ (its l)[j * 4 + 1]? = some (.int .i64 (l.getD j Sc.zero).c) ∧ (its l)[j * 4 + 2]? = some (.int .i64 (l.getD j Sc.zero).a) ∧ (its l)[j * 4 + 3]? = some (.int .i64 (l.getD j Sc.zero).b) := by
  induction l generalizing j with
  | nil => simp at h
  | cons x l ih =>
    have e : its (x :: l) = Value.int .i64 x.k :: Value.int .i64 x.c :: Value.int .i64 x.a :: Value.int .i64 x.b :: its l := rfl
    rw [e]
    cases j with
    | zero => simp
    | succ j =>
      have h' : j < l.length := by simpa using h
      obtain ⟨i0, i1, i2, i3⟩ := ih h'
      have e2 : (j + 1) * 4 = j * 4 + 4 := by omega
      rw [e2]
      refine ⟨?_, ?_, ?_, ?_⟩
      · simpa using i0
      · simpa using i1
      · simpa using i2
      · simpa using i3
theorem slIt_own {w : World} {B : Nat} {v : Value} {l : List It} (h : w.ownsRow B 29 4 v l.length (its l)) : SlIt w v l := by
  obtain ⟨h0, ⟨h1, h2⟩ | ⟨g, cap, cur, hv, hg, hh, hc, hm, hs, ht⟩⟩ := h
  · rw [h1]
    have : l = [] := List.eq_nil_of_length_eq_zero h2
    subst this
    exact SlIt.nil w _ _
  · refine ⟨_, cap, hv, fun _ => ⟨g, 0, rfl, (Array.getElem?_eq_some_iff.1 hh).1, fun j hj => ?_⟩⟩
    obtain ⟨i0, i1, i2, i3⟩ := its_get hj
    have key : ∀ k u, (its l)[k]? = some u → k < l.length * 4 → w.cell? ⟨g, k, none⟩ = some u := by
      intro k u hk hlt
      have e1 : cur.toList[k]? = some u := by
        rw [← hk, ← ht, List.getElem?_take, if_pos hlt]
      have e2 : cur[k]? = some u := by simpa using e1
      simp [World.cell?, hh, e2]
    simp only [Nat.zero_add]
    exact ⟨key _ _ i0 (by omega), key _ _ i1 (by omega), key _ _ i2 (by omega), key _ _ i3 (by omega)⟩
theorem same_any (va vb : Value) (la lb : List It) (hn : la.length ≤ 1000000) (w : World) (ha : SlIt w va la) (hb : SlIt w vb lb) :
    Calls Try.prog 11 #[va, vb] w fun e w' => e = .returned (.bool (decide (la = lb))) ∧ Below w.heap.size w w' := by
  obtain ⟨ao, c1, rfl, ha'⟩ := ha
  obtain ⟨bo, c2, rfl, hb'⟩ := hb
  by_cases hl : la.length = lb.length
  · by_cases h0 : la = []
    · subst h0
      have h1 : lb = [] := List.eq_nil_of_length_eq_zero hl.symm
      subst h1
      exact same_nil ao bo c1 c2 w
    · have h1 : lb ≠ [] := fun h => h0 (List.eq_nil_of_length_eq_zero (by rw [hl, h]; rfl))
      obtain ⟨g1, o1, rfl, hg1, hc1⟩ := ha' h0
      obtain ⟨g2, o2, rfl, hg2, hc2⟩ := hb' h1
      rw [← hl] at hc2 ⊢
      have e : decide (la = lb) = decide (∀ j, j < la.length → la.getD j Sc.zero = lb.getD j Sc.zero) := by
        apply decide_eq_decide.2
        constructor
        · intro h j _
          rw [h]
        · intro h
          apply List.ext_getElem hl
          intro j h1 h2
          have := h j h1
          simpa [List.getD, h1, h2] using this
      rw [e]
      exact same_cells g1 g2 o1 o2 la.length c1 c2 (fun j => la.getD j Sc.zero) (fun j => lb.getD j Sc.zero) hn w hg1 hg2 hc1 hc2
  · have e : decide (la = lb) = false := decide_eq_false fun h => hl (by rw [h])
    rw [e]
    exact same_len ao bo _ _ c1 c2 (by simpa using fun h => hl (by omega)) w
theorem print_any (v : Value) (l : List It) (c : Int) (hn : l.length ≤ 1000000) (w : World) (h : SlIt w v l) :
    Calls Try.prog 16 #[v, .int .i64 c] w fun e w' => e = .returned (.string ⟨(printL l c).toArray⟩) ∧ Below w.heap.size w w' := by
  obtain ⟨ao, cap, rfl, h'⟩ := h
  by_cases h0 : l = []
  · subst h0
    exact print_nil ao cap c w
  · obtain ⟨g, o, rfl, hg, hc⟩ := h' h0
    exact print_cells g o l.length cap (fun j => l.getD j Sc.zero) c hn w hg hc
theorem parse_any (s : ByteArray) (c : Int) (hs : s.size ≤ 1000000) (w : World) : Calls Try.prog 12 #[.string s, .int .i64 c] w fun e w' => ∃ v, e = .returned v ∧ SlIt w' v (parseL s c) ∧ Below w.heap.size w w' := by
  refine (parse_own s c hs w).mono ?_
  rintro e w' ⟨v, h1, h2, h3⟩
  exact ⟨v, h1, slIt_own h2, h3⟩
theorem parseL_len (s : ByteArray) (c : Int) : (parseL s c).length ≤ s.size / 4 := parse_len s c _
end Go.Proofs.Ytldhpecpmgjihaa
