/- Slices of items: one that came in as an argument, its parts, one appended to another. -/
import Derived.Test.YtldhpecpmgjihaaScfixed
import Derived.Test.YtldhpecpmgjihaaScframe
import Derived.Deep.Slices
import Derived.Deep.Fields
import Derived.ChangeSame
set_option linter.unusedVariables false
set_option linter.unusedSimpArgs false
namespace Go.Proofs.Ytldhpecpmgjihaa
open Go.ChangeShapes Go.WideShapes Go.ChangeAt Go.RowKit Go.Joins Go.Deep Sc
/-- The item that lies at a place. -/
def ItemAt (w : World) (g o : Nat) (x : It) : Prop := w.cell? ⟨g, o, none⟩ = some (.int .i64 x.k) ∧ w.cell? ⟨g, o + 1, none⟩ = some (.int .i64 x.c) ∧ w.cell? ⟨g, o + 2, none⟩ = some (.int .i64 x.a) ∧ w.cell? ⟨g, o + 3, none⟩ = some (.int .i64 x.b)
theorem items_all {w : World} {g o : Nat} : ∀ n : Nat, (∀ i, i < n → ∃ x, ItemAt w g (o + i * 4) x) → ∃ L : List It, L.length = n ∧ ∀ i, i < n → ItemAt w g (o + i * 4) (L.getD i Sc.zero)
  | 0, _ => ⟨[], rfl, fun i hi => absurd hi (by omega)⟩
  | n + 1, h => by
    obtain ⟨L, hl, hi⟩ := items_all n (fun i hi => h i (by omega))
    obtain ⟨x, hx⟩ := h n (by omega)
    refine ⟨L ++ [x], by simp [hl], fun i him => ?_⟩
    by_cases e : i = n
    · subst e
      have : (L ++ [x]).getD i Sc.zero = x := by rw [← hl]; simp [List.getD_eq_getElem?_getD]
      rw [this]
      exact hx
    · have : (L ++ [x]).getD i Sc.zero = L.getD i Sc.zero := by
        simp only [List.getD_eq_getElem?_getD]
        rw [List.getElem?_append_left (by omega)]
      rw [this]
      exact hi i (by omega)
section
variable {H : Type} {enc : TypeId × Value → H} {w : World} {base : Nat} {spare : Nat → Bool} {held : Bool}
theorem cells_int : Try.prog.cellsOf 3 = 1 := by kernel_rfl
theorem open_items {r : Reach} {b0 : Nat} {v : Value} {d : DataW H} {p : List MemPlace} (hv : Value.okWide Try.prog w r b0 24 v)
    (h : DataW.Trod enc Try.prog w base spare held 24 v d p) : ∃ (ao : Option Addr) (n cap : Nat) (L : List It), v = .slice ao n cap ∧ n ≤ cap ∧ cap ≤ maxLen ∧ L.length = n ∧ SlIt w v L := by
  obtain ⟨ao, n, cap, rfl⟩ := okWide_slice ul_items hv
  obtain ⟨fuel, hf⟩ := h
  have hs := Try.underlying29
  rcases open_slice ul_items hf with ⟨hcs, _⟩ | ⟨a, len, cp, m, q, D, Pl, hcs, hb, hl, hm, hmm, hx, hi⟩
  · simp [Value.cells] at hcs
    obtain ⟨rfl, rfl, rfl⟩ := hcs
    exact ⟨none, 0, 0, [], rfl, Nat.le_refl _, by decide, rfl, SlIt.nil w _ _⟩
  · simp [Value.cells] at hcs
    obtain ⟨rfl, rfl, rfl⟩ := hcs
    rw [cells_item] at hi
    have hnm : n ≤ m := by rw [hmm]; split <;> omega
    have key : ∀ i, i < n → ∃ x : It, w.cell? (a.add (i * 4)) = some (.int .i64 x.k) ∧ w.cell? ((a.add (i * 4)).add 1) = some (.int .i64 x.c) ∧ w.cell? ((a.add (i * 4)).add 2) = some (.int .i64 x.a) ∧ w.cell? ((a.add (i * 4)).add 3) = some (.int .i64 x.b) := by
      intro i hin
      obtain ⟨cs', hc, ht'⟩ := hi i (by omega)
      obtain ⟨_, hcl, hat⟩ := World.cells?_some hc
      have hat0 := hat 0 (by omega)
      have hat1 := hat 1 (by omega)
      have hat2 := hat 2 (by omega)
      have hat3 := hat 3 (by omega)
      match cs', hcl with
      | [c0, c1, c2, c3], _ =>
        obtain ⟨xs, q', _, hx', _, hlen, hg⟩ := DataW.trod_struct hs ht'
        match xs, hlen with
        | [y0, y1, y2, y3], _ =>
          obtain ⟨a0, e0, _, _⟩ := DataW.trod_int Try.underlying3 (show _ = some y0 from hg 0 _ rfl)
          obtain ⟨a1, e1, _, _⟩ := DataW.trod_int Try.underlying3 (show _ = some y1 from hg 1 _ rfl)
          obtain ⟨a2, e2, _, _⟩ := DataW.trod_int Try.underlying3 (show _ = some y2 from hg 2 _ rfl)
          obtain ⟨a3, e3, _, _⟩ := DataW.trod_int Try.underlying3 (show _ = some y3 from hg 3 _ rfl)
          simp [cells_int] at e0 e1 e2 e3
          subst e0 e1 e2 e3
          exact ⟨⟨a0, a1, a2, a3⟩, by simpa [Addr.add] using hat0, by simpa using hat1, by simpa using hat2, by simpa using hat3⟩
    by_cases h0 : n = 0
    · subst h0
      exact ⟨_, 0, cap, [], rfl, Nat.zero_le _, hm, rfl, SlIt.nil w _ _⟩
    · obtain ⟨g, o, sp⟩ := a
      have hsp : sp = none := by
        obtain ⟨x, hx0, _⟩ := key 0 (by omega)
        simp only [Nat.zero_mul, Addr.add, if_true] at hx0
        unfold World.cell? at hx0
        split at hx0
        · cases sp with
          | none => rfl
          | some _ => simp at hx0
        · cases hx0
      subst hsp
      have hadd : ∀ k, (⟨g, o, none⟩ : Addr).add k = ⟨g, o + k, none⟩ := fun k => by
        unfold Addr.add
        split
        · rename_i h
          rw [h]
          rfl
        · rfl
      have hadd2 : ∀ b k, (⟨g, b, none⟩ : Addr).add k = ⟨g, b + k, none⟩ := fun b k => by
        unfold Addr.add
        split
        · rename_i h
          rw [h]
          rfl
        · rfl
      obtain ⟨L, hL, hLi⟩ := items_all (w := w) (g := g) (o := o) n (fun i hin => by
        obtain ⟨x, x0, x1, x2, x3⟩ := key i hin
        rw [hadd] at x0 x1 x2 x3
        rw [hadd2] at x1 x2 x3
        exact ⟨x, x0, x1, x2, x3⟩)
      refine ⟨_, n, cap, L, rfl, hl, hm, hL, ⟨_, cap, by rw [hL], fun _ => ⟨g, o, rfl, ?_, fun j hj => hLi j (by omega)⟩⟩⟩
      obtain ⟨x0, _⟩ := hLi 0 (by omega)
      exact World.block_lt_of_cell? w _ x0
end
theorem SlIt.take {w : World} {ao : Option Addr} {n cap m : Nat} {l : List It} (h : SlIt w (.slice ao n cap) l) (hm : m ≤ n) : SlIt w (.slice ao m cap) (l.take m) := by
  obtain ⟨ao', cap', h1, h2⟩ := h
  injection h1 with e1 e2 e3
  subst e1 e2 e3
  have hl : (l.take m).length = m := by rw [List.length_take]; omega
  refine ⟨ao, cap, by rw [hl], fun hne => ?_⟩
  obtain ⟨g, o, h3, h4, h5⟩ := h2 (fun e => hne (by rw [e]; simp))
  refine ⟨g, o, h3, h4, fun j hj => ?_⟩
  rw [hl] at hj
  have e : (l.take m).getD j Sc.zero = l.getD j Sc.zero := by
    simp only [List.getD_eq_getElem?_getD, List.getElem?_take]
    rw [if_pos hj]
  rw [e]
  exact h5 j (by omega)
theorem SlIt.drop {w : World} {ao : Option Addr} {n cap k : Nat} {l : List It} (h : SlIt w (.slice ao n cap) l) (hk : k ≤ n) (c' : Nat) : SlIt w (.slice (ao.map fun a => a.add (k * 4)) (n - k) c') (l.drop k) := by
  obtain ⟨ao', cap', h1, h2⟩ := h
  injection h1 with e1 e2 e3
  subst e1 e2 e3
  have hl : (l.drop k).length = l.length - k := List.length_drop
  refine ⟨_, c', by rw [hl], fun hne => ?_⟩
  obtain ⟨g, o, h3, h4, h5⟩ := h2 (fun e => hne (by rw [e]; simp))
  refine ⟨g, o + k * 4, ?_, h4, fun j hj => ?_⟩
  · rw [h3]
    simp only [Option.map_some, Option.some.injEq]
    unfold Addr.add
    split
    · rename_i h
      rw [h]
      rfl
    · rfl
  · rw [hl] at hj
    have e : (l.drop k).getD j Sc.zero = l.getD (k + j) Sc.zero := by
      simp only [List.getD_eq_getElem?_getD, List.getElem?_drop]
    rw [e, show o + k * 4 + j * 4 = o + (k + j) * 4 by omega]
    exact h5 (k + j) (by omega)
theorem its_append (l m : List It) : its (l ++ m) = its l ++ its m := by simp [its]
theorem its_one {u : Value} {l : List It} (h : u ∈ its l) : u.oneCell' = true := by
  simp only [its, List.mem_flatMap] at h
  obtain ⟨x, _, h⟩ := h
  simp at h
  rcases h with rfl | rfl | rfl | rfl <;> rfl
theorem slIt_cells {w : World} {a : Addr} {n cap : Nat} {l : List It} (h : SlIt w (.slice (some a) n cap) l) : ∀ j u, (its l)[j]? = some u → w.cell? (a.add j) = some u := by
  intro j u hu
  obtain ⟨ao', cap', h1, h2⟩ := h
  injection h1 with e1 e2 e3
  subst e1 e2 e3
  have hj : j < l.length * 4 := by
    have := (List.getElem?_eq_some_iff.1 hu).1
    rw [its_len] at this
    exact this
  obtain ⟨g, o, h3, h4, h5⟩ := h2 (fun e => by rw [e] at hj; simp at hj)
  injection h3 with h3
  subst h3
  obtain ⟨i0, i1, i2, i3⟩ := its_get (l := l) (j := j / 4) (by omega)
  obtain ⟨c0, c1, c2, c3⟩ := h5 (j / 4) (by omega)
  have hadd : (⟨g, o, none⟩ : Addr).add j = ⟨g, o + j, none⟩ := by
    unfold Addr.add
    split
    · rename_i h
      rw [h]
      rfl
    · rfl
  rw [hadd]
  have hd := Nat.div_add_mod j 4
  have hr : j % 4 = 0 ∨ j % 4 = 1 ∨ j % 4 = 2 ∨ j % 4 = 3 := by omega
  rcases hr with r | r | r | r
  · rw [show j = j / 4 * 4 by omega, i0] at hu
    rw [← hu, show o + j = o + j / 4 * 4 by omega]
    exact c0
  · rw [show j = j / 4 * 4 + 1 by omega, i1] at hu
    rw [← hu, show o + j = o + j / 4 * 4 + 1 by omega]
    exact c1
  · rw [show j = j / 4 * 4 + 2 by omega, i2] at hu
    rw [← hu, show o + j = o + j / 4 * 4 + 2 by omega]
    exact c2
  · rw [show j = j / 4 * 4 + 3 by omega, i3] at hu
    rw [← hu, show o + j = o + j / 4 * 4 + 3 by omega]
    exact c3
/-- A row of items of the call's own, all of whose items are told. -/
def Row (w : World) (B : Nat) (v : Value) (l : List It) : Prop := w.ownsRow B 29 4 v l.length (its l) ∧ B ≤ w.heap.size
theorem Row.is {w : World} {B : Nat} {v : Value} {l : List It} (h : Row w B v l) : SlIt w v l := slIt_own h.1
theorem Row.alloc {w : World} {B : Nat} {v : Value} {l : List It} {o : Obj} (h : Row w B v l) : Row (w.alloc o) B v l := ⟨h.1.alloc o, by have := h.2; simp; omega⟩
theorem Row.keep {w w' : World} {B : Nat} {v : Value} {l : List It} (h : Row w B v l) (hb : Below w.heap.size w w') : Row w' B v l := ⟨own_keep h.1 hb, Nat.le_trans h.2 hb.size⟩
theorem Row.empty (w : World) {B : Nat} (h : B ≤ w.heap.size) : Row (w.alloc (.cells #[] 29)) B (.slice (some ⟨w.heap.size, 0, none⟩) 0 0) [] :=
  ⟨⟨rfl, .inr ⟨w.heap.size, 0, #[], rfl, h, by show (w.heap.push _)[_]? = _; simp, Nat.le_refl _, Nat.zero_le _, rfl, rfl⟩⟩, by simp; omega⟩
theorem run_append_items (w : World) (B : Nat) (ty : TypeId) (v vx : Value) (xs l : List It) (hr : Row w B v xs) (hx : SlIt w vx l) (hn : xs.length + l.length ≤ 1000000) :
    ∃ v' w', (Builtin.append_ #[24, 24] ty #[v, vx]).run Try.prog w = .ok v' w' ∧ Row w' B v' (xs ++ l) ∧ Below B w w' := by
  obtain ⟨i0, hi, hy0, hy1, hy2⟩ := info_parts info_item
  have hx' := hx
  obtain ⟨ao, cap, rfl, h2⟩ := hx
  rcases ao with _ | a
  · have hl : l = [] := by
      by_cases h : l = []
      · exact h
      · obtain ⟨g, o, h3, _⟩ := h2 h
        cases h3
    subst hl
    refine ⟨v, w, ?_, by rw [List.append_nil]; exact hr, Below.refl _ _⟩
    rcases hr.1.2 with ⟨rfl, h0⟩ | ⟨g, cap, cur, rfl, _, _, hnc, _⟩
    · simp [Builtin.append_, run_underlying ul_items, sizeOf, typeInfo, hi, Builtin.lenOf, Builtin.firstCells]
    · simp [Builtin.append_, run_underlying ul_items, sizeOf, typeInfo, hi, Builtin.lenOf, Builtin.firstCells, hnc, storeCells]
  · obtain ⟨v', w', hrun, hown, hg, _⟩ := run_append_own (P := Try.prog) w B 24 ty 29 i0 (.agg #[.int .i64 0, .int .i64 0, .int .i64 0, .int .i64 0]) 4 32 ul_items hi hy0 hy1 hy2 rfl (by decide) v xs.length (its xs) hr.1 a l.length cap (its l) (its_len l) (slIt_cells hx') (fun u hu => its_one hu) (by unfold maxLen; omega) (by omega) hr.2
    refine ⟨v', w', hrun, ⟨by rw [its_append, List.length_append]; exact hown, Nat.le_trans hr.2 hg.size⟩, ?_⟩
    exact ⟨hg.os, hg.tape, hg.output, hg.size, fun k hk => hg.block k (Nat.lt_of_lt_of_le hk hr.2) (fun e => by have := own_below hr.1 k e.symm; omega)⟩
theorem wp_append_items {o : Oper} {a : Act} {w : World} {K : Act → World → Prop} {Q : Exit → Act → World → Prop} (s x : Operand)
    (ho : o.op = .call { callee := .builtin .append, args := #[s, x], argTypes := #[24, 24] })
    (B : Nat) (v vx : Value) (xs l : List It) (hs : a.eval s = v) (hr : Row w B v xs) (hx : a.eval x = vx) (hsl : SlIt w vx l) (hn : xs.length + l.length ≤ 1000000)
    (h : ∀ v' w', Row w' B v' (xs ++ l) → Below B w w' → K (a.put o.dst v') w') : o.wp Try.prog a w K Q := by
  obtain ⟨v', w', hrun, h2, h3⟩ := run_append_items w B o.type v vx xs l hr hsl hn
  unfold Oper.wp execOp
  simp only [ho, resolve, invoke, builtin, Sem.run_bind, Sem.run_pure, Result.andThen_ok, List.map_toArray, List.map_cons, List.map_nil, hs, hx, hrun]
  exact h v' w' h2 h3
theorem wpList_append_items {ops : Array Oper} {rest : List Oper} {o : Oper} {a : Act} {w : World} {Q : Exit → Act → World → Prop} (hgd : o.guard = none) (s x : Operand)
    (ho : o.op = .call { callee := .builtin .append, args := #[s, x], argTypes := #[24, 24] })
    (B : Nat) (v vx : Value) (xs l : List It) (hs : a.eval s = v) (hr : Row w B v xs) (hx : a.eval x = vx) (hsl : SlIt w vx l) (hn : xs.length + l.length ≤ 1000000)
    (h : ∀ v' w', Row w' B v' (xs ++ l) → Below B w w' → wpList Try.prog ops Q rest (a.put o.dst v') w') : wpList Try.prog ops Q (o :: rest) a w :=
  wpList_plain hgd fun _ hK => wp_append_items s x ho B v vx xs l hs hr hx hsl hn fun v' w' h2 h3 => hK _ _ (h v' w' h2 h3)
end Go.Proofs.Ytldhpecpmgjihaa
