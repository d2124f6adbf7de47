/- Plain facts on places: the list, a slice's cells, what a function hands back. -/
import Derived.Test.YtbgcgbelejmjiaaUchk
import Derived.WalkSmall
set_option linter.unusedVariables false
set_option linter.unusedSimpArgs false
namespace Go.Proofs.Ytbgcgbelejmjiaa
open Go.RowKit Wd Ud

namespace Ud
/-- The places from 'at' on, so many. -/
def lst (p s : Nat) : Nat → List Nat
  | 0 => []
  | k + 1 => lst p s k ++ [p + k * pw s]
def us (l : List Nat) : List Value := l.map (fun (x : Nat) => Value.int .u64 (x : Int))
theorem lst_len (p s k : Nat) : (lst p s k).length = k := by
  induction k with
  | zero => rfl
  | succ k ih => simp [lst, ih]
theorem us_snoc (l : List Nat) (x : Nat) : us (l ++ [x]) = us l ++ [Value.int .u64 (x : Int)] := by simp [us]
theorem us_len (l : List Nat) : (us l).length = l.length := by simp [us]
/-- Where the next one of this size may stand. -/
def atU (x : Ut) (s : Nat) : Nat := upTo (x.b + x.u) s
/-- Place: the places, what is left, what is wrong. -/
def placeU (x : Ut) (k n c : Int) : List Nat × Ut × Int :=
  if ¬ x.Ok then ([], none, 1)
  else if (sizeU k n).2 ≠ 0 then ([], none, (sizeU k n).2)
  else if c < 1 ∨ 64 < c then ([], none, 1)
  else if x.b + pw x.n.toNat < atU x (sizeU k n).1.toNat + c.toNat * pw (sizeU k n).1.toNat then ([], none, 81)
  else (lst (atU x (sizeU k n).1.toNat) (sizeU k n).1.toNat c.toNat, ⟨x.b, x.n, atU x (sizeU k n).1.toNat + c.toNat * pw (sizeU k n).1.toNat - x.b⟩, 0)
end Ud

theorem ul_slice : Try.prog.underlying 27 = some (.slice 22) := by kernel_rfl
theorem info_u64 : (Try.prog.info? 22).map (fun i => (i.zero, i.size, i.bytes)) = some (some (.int .u64 0), 1, 8) := by kernel_rfl
theorem below_into {w W0 w1 w2 : World} (h0 : Below w.heap.size w W0) (h1 : Below W0.heap.size W0 w1) (h2 : Below w1.heap.size w1 w2) : Below W0.heap.size W0 w2 :=
  h1.trans ⟨h2.os, h2.tape, h2.output, h2.size, fun i hi => h2.block i (Nat.lt_of_lt_of_le hi h1.size)⟩
theorem below_from {w W0 w1 : World} (h0 : Below w.heap.size w W0) (h1 : Below W0.heap.size W0 w1) : Below w.heap.size w w1 :=
  h0.trans ⟨h1.os, h1.tape, h1.output, h1.size, fun i hi => h1.block i (Nat.lt_of_lt_of_le hi h0.size)⟩
theorem cell_new {w : World} {a : Addr} {v : Value} {o : Obj} (h : w.cell? a = some v) : (w.alloc o).cell? a = some v :=
  ((Below.refl w.heap.size w).alloc (Nat.le_refl _) o).cell (World.block_lt_of_cell? w a h) |>.trans h
theorem results_tct {fn : Func} {s p u : Tmp} {ty : TypeId} (h : fn.results = #[.tmp s, .cell p ty, .tmp u]) (tmps : Array Value) (P : Program) (w : World) :
    (results fn tmps).run P w = ((asAddr (tmps.getD p undef)).run P w).andThen fun a w₁ => ((loadVar ty a).run P w₁).andThen fun v w₂ => .ok (.tuple #[tmps.getD s undef, v, tmps.getD u undef]) w₂ := by
  simp only [results, h]
  simp [Sem.run_bind, Result.andThen]
theorem place_results {fn : Func} {s p u : Tmp} (h : fn.results = #[.tmp s, .cell p 24, .tmp u]) (tmps : Array Value) (W : World) (hb : Nat) {v0 v1 v2 : Value} (hp : tmps.getD p undef = .pointer (some ⟨hb, 0, Option.none⟩))
    (h0 : W.cell? ⟨hb, 0, Option.none⟩ = some v0) (h1 : W.cell? ⟨hb, 1, Option.none⟩ = some v1) (h2 : W.cell? ⟨hb, 2, Option.none⟩ = some v2) :
    (results fn tmps).run Try.prog W = .ok (.tuple #[tmps.getD s undef, .agg #[v0, v1, v2], tmps.getD u undef]) W := by
  rw [results_tct h, hp]
  simp [go_sem, asAddr, h0, h1, h2]
theorem own_below {w : World} {B e z n : Nat} {v : Value} {xs : List Value} (h : w.ownsRow B e z v n xs) : ∀ k, v.ownBlock = some k → B ≤ k := by
  obtain ⟨_, h | ⟨g, cap, cur, hv, hg, _⟩⟩ := h
  · intro k hk
    rw [h.1] at hk
    cases hk
  · intro k hk
    rw [hv] at hk
    injection hk with hk
    rw [← hk]
    exact hg
theorem rel_app {w2 wr w1 : World} {B p s k q : Nat} {v v' : Value} {o : Obj} (hB : B ≤ w2.heap.size) (hown : wr.ownsRow B 22 1 v k (us (lst p s k))) (hnx : Below B w2 wr)
    (hq : q = p + k * pw s) (h' : w1.ownsRow B 22 1 v' (k + 1) (us (lst p s k) ++ [Value.int .u64 (q : Int)])) (hg : (wr.alloc o).grownBy w1 v.ownBlock) :
    w1.ownsRow B 22 1 v' (k + 1) (us (lst p s (k + 1))) ∧ Below B w2 w1 := by
  have hz := hnx.size
  refine ⟨?_, (hnx.alloc (by omega) o).grown hg (by simp; omega) (own_below hown)⟩
  rw [hq] at h'
  show w1.ownsRow B 22 1 v' (k + 1) (us (lst p s k ++ [p + k * pw s]))
  rw [us_snoc]
  exact h'
theorem own_low {w : World} {B C e z n : Nat} {v : Value} {xs : List Value} (hC : C ≤ B) (h : w.ownsRow B e z v n xs) : w.ownsRow C e z v n xs := by
  obtain ⟨h0, h | ⟨g, cap, cur, hv, hg, r⟩⟩ := h
  · exact ⟨h0, .inl h⟩
  · exact ⟨h0, .inr ⟨g, cap, cur, hv, Nat.le_trans hC hg, r⟩⟩
theorem own_empty {w : World} {B : Nat} (h : B ≤ w.heap.size) : (w.alloc (.cells #[] 22)).ownsRow B 22 1 (.slice (some ⟨w.heap.size, 0, Option.none⟩) 0 0) 0 [] :=
  ⟨rfl, .inr ⟨w.heap.size, 0, #[], rfl, h, by show (w.heap.push _)[_]? = _; simp, Nat.le_refl _, Nat.zero_le _, rfl, rfl⟩⟩
theorem own_drew {w : World} {B e z n : Nat} {v : Value} {xs : List Value} (h : w.ownsRow B e z v n xs) : w.drew.ownsRow B e z v n xs := h
theorem own_draws {w : World} {B e z n : Nat} {v : Value} {xs : List Value} (h : w.ownsRow B e z v n xs) (k : Nat) : (w.drewN k).ownsRow B e z v n xs := h
theorem q_next {p k s q : Nat} (h : q = p + k * pw s) : q + pw s = p + (k + 1) * pw s := by
  rw [h, Nat.add_mul]
  omega
theorem below_drawsB {B : Nat} {w w1 : World} (h : Below B w w1) (k : Nat) : Below B w (w1.drewN k) := ⟨h.os, h.tape, h.output, h.size, h.block⟩
end Go.Proofs.Ytbgcgbelejmjiaa
