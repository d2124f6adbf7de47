/- Parse over the translation: the loop over the iterator, and the whole function. -/
import Derived.Test.YtldhpecpmgjihaaSciter
import Derived.Shelf.Abstract
import Derived.KernelRfl
set_option linter.unusedVariables false
set_option linter.unusedSimpArgs false
namespace Go.Proofs.Ytldhpecpmgjihaa
open Go.RowKit Go.Shelf Sc
attribute [local go_sem] Oper.semAt_some

namespace Sc
/-- The right ones of so many items. -/
def parseU (s : ByteArray) (c : Int) : Nat → List It
  | 0 => []
  | j + 1 => if rightU (itAt s j) c then parseU s c j ++ [itAt s j] else parseU s c j
def its (l : List It) : List Value := l.flatMap (fun x => [Value.int .i64 x.k, Value.int .i64 x.c, Value.int .i64 x.a, Value.int .i64 x.b])
theorem its_len (l : List It) : (its l).length = l.length * 4 := by
  induction l with
  | nil => rfl
  | cons x l ih =>
    have e : its (x :: l) = [Value.int .i64 x.k, Value.int .i64 x.c, Value.int .i64 x.a, Value.int .i64 x.b] ++ its l := rfl
    rw [e]
    simp [ih]
    omega
theorem its_snoc (l : List It) (x : It) : its (l ++ [x]) = its l ++ [Value.int .i64 x.k, Value.int .i64 x.c, Value.int .i64 x.a, Value.int .i64 x.b] := by simp [its]
theorem parse_len (s : ByteArray) (c : Int) (j : Nat) : (parseU s c j).length ≤ j := by
  induction j with
  | zero => exact Nat.le_refl _
  | succ j ih =>
    unfold parseU
    split
    · simp; omega
    · omega
end Sc
/-- What is so while items are gone over: of the bytes j items are behind, m items have been looked at. -/
structure PX (s : ByteArray) (c : Int) (w : World) (R : Loop) (j m : Nat) (W : World) : Prop where
  L : W.heap[w.heap.size + 4]? = some (.loop R)
  K : W.heap[w.heap.size + 3]? = some (.deferred (some []))
  S : Boxed W (w.heap.size + 2) 9 (.string (suf s j))
  C : Boxed W w.heap.size 3 (.int .i64 c)
  O : ∃ v, Boxed W (w.heap.size + 1) 24 v ∧ W.ownsRow (w.heap.size + 5) 29 4 v (parseU s c m).length (its (parseU s c m))
  B : Below w.heap.size w W
theorem PX.draws {s : ByteArray} {c : Int} {w W : World} {R : Loop} {j m : Nat} (h : PX s c w R j m W) (k : Nat) : PX s c w R j m (W.drewN k) := ⟨h.L, h.K, h.S, h.C, h.O, below_draws h.B k⟩
theorem boxed_other {W : World} {b b' : Nat} {t : TypeId} {v u : Value} (h : Boxed W b t v) (hn : b ≠ b') : Boxed (W.setCell ⟨b', 0, none⟩ u) b t v := (Below.heap_setCell _ _ _ _ hn).trans h
theorem PX.next {s : ByteArray} {c : Int} {w W : World} {R : Loop} {j m : Nat} (h : PX s c w R j m W) : PX s c w R (j + 1) m (W.setCell ⟨w.heap.size + 2, 0, none⟩ (.string (suf s (j + 1)))) := by
  obtain ⟨v, hv, hr⟩ := h.O
  exact ⟨(Below.heap_setCell _ _ _ _ (by simp)).trans h.L, (Below.heap_setCell _ _ _ _ (by simp)).trans h.K, h.S.set _, boxed_other h.C (by omega), ⟨v, boxed_other hv (by omega), ownsRow_setCell_below hr (by simp) _⟩, h.B.setCell (by simp) _⟩
set_option maxHeartbeats 800000 in
theorem parse_range (n : Nat) (hn1 : 1 ≤ n - 1) (assign body : Code) (Q : Exit → Act → World → Prop) (a : Act) (w W0 : World) (s : ByteArray) (c : Int)
    (hg : a.eval (.tmp 8) = .func (.func 22) #[] #[.pointer (some ⟨w.heap.size + 2, 0, none⟩)]) (h9 : 9 < a.tmps.size)
    (hz : W0.heap.size = w.heap.size + 3) (hB : Below w.heap.size w W0) (hC : Boxed W0 w.heap.size 3 (.int .i64 c)) (hO : Boxed W0 (w.heap.size + 1) 24 (.slice none 0 0)) (hS : Boxed W0 (w.heap.size + 2) 9 (.string s))
    (hround : ∀ (fn : FuncId) (R : Loop) (j : Nat) (W : World), 4 * (j + 1) ≤ s.size → R = { state := .ready, pending := none, fn, tmps := a.tmps, params := #[9], assign, body, defers := w.heap.size + 3 } → PX s c w R j j W →
      RoundIn Fence.wide (n - 1 - 1) Try.prog (w.heap.size + 4) fn (a.tmps.setIfInBounds 9 (.agg #[.int .i64 (itAt s j).k, .int .i64 (itAt s j).c, .int .i64 (itAt s j).a, .int .i64 (itAt s j).b])) assign body W fun e W' => e = .returned (.bool true) ∧ PX s c w R j (j + 1) W')
    (hdone : ∀ (R : Loop) (W : World), PX s c w R (s.size / 4) (s.size / 4) W → Q .normal { a with defers := { target := .collected (w.heap.size + 3), args := #[] } :: a.defers } (W.putObj (w.heap.size + 4) (.loop { R with state := .exhausted }))) :
    (Code.rangeFunc (.tmp 8) #[9] assign body).wpIn Fence.wide n Try.prog Q a W0 := by
  refine wpIn_rangeFunc ?_
  intro fn hfn
  show ∃ (l : Nat) (mark : List Deferred) (w₁ : World) (d : Deferred) (w₁' : World) (f : FuncId) (args : Array Value) (w₂ : World), (Instr.enterLoop fn a.tmps #[9] assign body none).run Try.prog W0 = .ok (l, mark) w₁ ∧ _
  obtain ⟨R, hR⟩ : ∃ R : Loop, R = { state := .ready, pending := none, fn, tmps := a.tmps, params := #[9], assign, body, defers := w.heap.size + 3 } := ⟨_, rfl⟩
  obtain ⟨W1, hW1⟩ : ∃ W1, (W0.alloc (.deferred (some []))).alloc (.loop R) = W1 := ⟨_, rfl⟩
  have hold : ∀ k, k < W0.heap.size → W1.heap[k]? = W0.heap[k]? := fun k hk => by
    rw [← hW1]; exact (Below.heap_alloc _ _ k (by simp; omega)).trans (Below.heap_alloc _ _ k hk)
  have hL1 : W1.heap[w.heap.size + 4]? = some (.loop R) := by
    rw [← hW1]; have := World.alloc_heap_new (W0.alloc (.deferred (some []))) (.loop R); rwa [World.size_alloc, hz] at this
  have hK1 : W1.heap[w.heap.size + 3]? = some (.deferred (some [])) := by
    rw [← hW1, ← hz]; exact (Below.heap_alloc _ _ _ (by simp)).trans (World.alloc_heap_new W0 _)
  have hsuf : suf s 0 = s := by
    have : suf s 0 = s.extract 0 s.size := rfl
    rw [this]
    exact ByteArray.extract_zero_size
  have h0 : PX s c w R 0 0 W1 := ⟨hL1, hK1, (hold _ (by omega)).trans (by rw [hsuf]; exact hS), (hold _ (by omega)).trans hC, ⟨_, (hold _ (by omega)).trans hO, World.ownsRow_nil _ _ _ _⟩, by rw [← hW1]; exact below_new (below_new hB _) _⟩
  refine ⟨w.heap.size + 4, [{ target := .collected (w.heap.size + 3), args := #[] }], W1, { target := .fn (.func 22) #[.pointer (some ⟨w.heap.size + 2, 0, none⟩)], args := #[.func (.yield (w.heap.size + 4)) #[] #[]] }, W1, 22,
    #[.func (.yield (w.heap.size + 4)) #[] #[], .pointer (some ⟨w.heap.size + 2, 0, none⟩)], W1, ?_, ?_, ?_, ?_, fun h => (by cases h), ?_⟩
  · have := run_enterLoop_outer (P := Try.prog) (w := W0) fn a.tmps #[9] assign body
    rw [hz] at this
    rw [this, ← hW1, hR]
  · simp only [resolve, hg]
    simp [go_sem]
  · intro f' hf'
    exact trivial
  · have eg : ∀ args w, (callFunc 22 args).run Try.prog w = .ok (.enter 22 args) w := enters_of Try.func22 (by kernel_rfl) rfl
    simp [invoke, go_sem, eg]
  · have hRp : R.params.size = 1 := by rw [hR]; rfl
    refine (items_any (n - 1) hn1 (w.heap.size + 4) (w.heap.size + 2) R hRp s (fun j W => PX s c w R j j W) (fun j W h => ⟨h.L, h.S⟩) (fun j W k h => h.draws k) ?_ W1 h0).mono ?_
    · intro j W hj h
      have hr := hround fn R j W hj hR h
      have e1 : (R.params.zip #[(.agg #[.int .i64 (itAt s j).k, .int .i64 (itAt s j).c, .int .i64 (itAt s j).a, .int .i64 (itAt s j).b])]).foldl (fun tmps (t, a) => tmps.setIfInBounds t a) R.tmps = a.tmps.setIfInBounds 9 (.agg #[.int .i64 (itAt s j).k, .int .i64 (itAt s j).c, .int .i64 (itAt s j).a, .int .i64 (itAt s j).b]) := by rw [hR]; simp
      rw [e1, show R.fn = fn by rw [hR], show R.assign = assign by rw [hR], show R.body = body by rw [hR]]
      refine hr.mono ?_
      rintro e W' ⟨rfl, h'⟩
      exact ⟨rfl, h'.S, h'.next⟩
    · rintro e W' ⟨⟨v, rfl⟩, h'⟩
      have hend := run_endLoop (P := Try.prog) h'.L (by rw [hR]; exact fun h => by cases h)
      refine ⟨none, _, ?_, hdone R W' h'⟩
      rw [hend, hR]
end Go.Proofs.Ytldhpecpmgjihaa
