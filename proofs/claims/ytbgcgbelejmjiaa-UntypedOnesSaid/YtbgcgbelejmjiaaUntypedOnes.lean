/- Many objects go where they go one by one; if one more does not go in, it does not go in with them: for every input, no condition. -/
import Derived.Test.YtbgcgbelejmjiaaUfixed
import Derived.Test.YtbgcgbelejmjiaaUframe
import Derived.Test.YtbgcgbelejmjiaaUlaw
set_option linter.unusedVariables false
set_option linter.unusedSimpArgs false
namespace Go.Proofs.Ytbgcgbelejmjiaa
open Go.ChangeShapes Go.WideShapes Go.ChangeAt Go.RowKit Go.Joins Wd Ud

theorem Ub.grown {w w' : World} {b : Nat} {x : Ut} {row : Option Nat} (h : Ub w b x) (hg : w.grownBy w' row) (hne : some b ≠ row) : Ub w' b x := by
  have hk : w'.heap[b]? = w.heap[b]? := hg.block b h.1 hne
  exact ⟨Nat.lt_of_lt_of_le h.1 hg.size, (World.cell?_of_block (a := ⟨b, 0, Option.none⟩) hk).trans h.2.1, (World.cell?_of_block (a := ⟨b, 1, Option.none⟩) hk).trans h.2.2.1, (World.cell?_of_block (a := ⟨b, 2, Option.none⟩) hk).trans h.2.2.2.1, (World.frozen?_of_block (a := ⟨b, 0, Option.none⟩) hk).trans h.2.2.2.2.1, (World.frozen?_of_block (a := ⟨b, 1, Option.none⟩) hk).trans h.2.2.2.2.2.1, (World.frozen?_of_block (a := ⟨b, 2, Option.none⟩) hk).trans h.2.2.2.2.2.2⟩
theorem Ub.other {w : World} {b : Nat} {x : Ut} {p : Addr} {v : Value} (h : Ub w b x) (hp : b ≠ p.block) : Ub (w.setCell p v) b x := by
  have hk : (w.setCell p v).heap[b]? = w.heap[b]? := Below.heap_setCell _ _ _ _ hp
  exact ⟨by simpa using h.1, (World.cell?_of_block (a := ⟨b, 0, Option.none⟩) hk).trans h.2.1, (World.cell?_of_block (a := ⟨b, 1, Option.none⟩) hk).trans h.2.2.1, (World.cell?_of_block (a := ⟨b, 2, Option.none⟩) hk).trans h.2.2.2.1, (World.frozen?_of_block (a := ⟨b, 0, Option.none⟩) hk).trans h.2.2.2.2.1, (World.frozen?_of_block (a := ⟨b, 1, Option.none⟩) hk).trans h.2.2.2.2.2.1, (World.frozen?_of_block (a := ⟨b, 2, Option.none⟩) hk).trans h.2.2.2.2.2.2⟩
theorem Ub.stored {w : World} {g : Nat} {v0 v1 v2 : Value} {x : Ut} (hz : g < w.heap.size) (c0 : w.cell? ⟨g, 0, Option.none⟩ = some v0) (c1 : w.cell? ⟨g, 1, Option.none⟩ = some v1) (c2 : w.cell? ⟨g, 2, Option.none⟩ = some v2)
    (f0 : w.frozen? ⟨g, 0, Option.none⟩ = false) (f1 : w.frozen? ⟨g, 1, Option.none⟩ = false) (f2 : w.frozen? ⟨g, 2, Option.none⟩ = false) :
    Ub (((w.setCell ⟨g, 0, Option.none⟩ (.int .u64 x.b)).setCell ⟨g, 1, Option.none⟩ (.int .i64 x.n)).setCell ⟨g, 2, Option.none⟩ (.int .u64 x.u)) g x :=
  ⟨by simpa using hz, by simp [go_sem, c0], by simp [go_sem, c1], by simp [go_sem, c2], by simp [go_sem, f0], by simp [go_sem, f1], by simp [go_sem, f2]⟩
theorem own_lt {w : World} {B e z n : Nat} {v : Value} {xs : List Value} (h : w.ownsRow B e z v n xs) : ∀ k, v.ownBlock = some k → k < w.heap.size := by
  obtain ⟨_, h | ⟨g, cap, cur, hv, hg, hh, _⟩⟩ := h
  · intro k hk
    rw [h.1] at hk
    cases hk
  · intro k hk
    rw [hv] at hk
    injection hk with hk
    rw [← hk]
    exact (Array.getElem?_eq_some_iff.1 hh).1
theorem own_keep {w w' : World} {B e z n : Nat} {v : Value} {xs : List Value} (h : w.ownsRow B e z v n xs) (hb : Below w.heap.size w w') : w'.ownsRow B e z v n xs := by
  obtain ⟨h0, h | ⟨g, cap, cur, hv, hg, hh, r⟩⟩ := h
  · exact ⟨h0, .inl h⟩
  · exact ⟨h0, .inr ⟨g, cap, cur, hv, hg, (hb.block g (Array.getElem?_eq_some_iff.1 hh).1).trans hh, r⟩⟩
theorem below_low {B : Nat} {w wr w2 : World} (h : Below B w wr) (hz : B ≤ wr.heap.size) (hb : Below wr.heap.size wr w2) : Below B w w2 := h.trans (hb.mono hz)
/-- What is so behind a round's append. -/
theorem ones_after {w1 wr w2 w3 : World} {y x x' : Ut} {v : Value} {j : Nat} {xs : List Value} (hb1 : Below w1.heap.size w1 wr) (hy : Ub wr w1.heap.size y) (hx : Ub wr (w1.heap.size + 1) x) (hown : wr.ownsRow (w1.heap.size + 2) 22 1 v j xs)
    (hb : Below wr.heap.size wr w2) (hg : (w2.alloc (.cells #[.int .u64 x'.b, .int .i64 x'.n, .int .u64 x'.u] 24)).grownBy w3 v.ownBlock) :
    Below w1.heap.size w1 w3 ∧ Ub w3 w1.heap.size y ∧ Ub w3 (w1.heap.size + 1) x ∧ Ub w3 w2.heap.size x' := by
  have l1 := own_below hown
  have l2 := own_lt hown
  have s1 := hb1.size
  have s2 := hb.size
  have ne : ∀ k, k < w1.heap.size + 2 → some k ≠ v.ownBlock := fun k hk e => by have := l1 k e.symm; omega
  exact ⟨(below_low hb1 s1 hb).alloc (by omega) _ |>.grown hg (by simp; omega) (fun k e => by have := l1 k e; omega), ((hy.keep hb).alloc).grown hg (ne _ (by omega)), ((hx.keep hb).alloc).grown hg (ne _ (by omega)), (Ub.new w2 x').grown hg (fun e => by have := l2 _ e.symm; omega)⟩
theorem ones_stored {w1 w3 : World} {y x x' : Ut} {v : Value} {n : Nat} {xs : List Value} (h : Below w1.heap.size w1 w3) (hy : Ub w3 w1.heap.size y) (hx : Ub w3 (w1.heap.size + 1) x) (ho : w3.ownsRow (w1.heap.size + 2) 22 1 v n xs) :
    let w4 := ((w3.setCell ⟨w1.heap.size + 1, 0, Option.none⟩ (.int .u64 x'.b)).setCell ⟨w1.heap.size + 1, 1, Option.none⟩ (.int .i64 x'.n)).setCell ⟨w1.heap.size + 1, 2, Option.none⟩ (.int .u64 x'.u)
    Below w1.heap.size w1 w4 ∧ Ub w4 w1.heap.size y ∧ Ub w4 (w1.heap.size + 1) x' ∧ w4.ownsRow (w1.heap.size + 2) 22 1 v n xs := by
  obtain ⟨z, c0, c1, c2, f0, f1, f2⟩ := hx
  exact ⟨((h.setCell (by simp) _).setCell (by simp) _).setCell (by simp) _, ((hy.other (by simp)).other (by simp)).other (by simp), Ub.stored z c0 c1 c2 f0 f1 f2, ownsRow_setCell_below (ownsRow_setCell_below (ownsRow_setCell_below ho (by simp) _) (by simp) _) (by simp) _⟩
theorem ones_new {w1 : World} (y x : Ut) : let w2 := ((w1.alloc (.cells #[.int .u64 y.b, .int .i64 y.n, .int .u64 y.u] 24)).alloc (.cells #[.int .u64 x.b, .int .i64 x.n, .int .u64 x.u] 24)).alloc (.cells #[] 22)
    Below w1.heap.size w1 w2 ∧ Ub w2 w1.heap.size y ∧ Ub w2 (w1.heap.size + 1) x ∧ w2.ownsRow (w1.heap.size + 2) 22 1 (.slice (some ⟨w1.heap.size + 2, 0, Option.none⟩) 0 0) 0 (us []) := by
  refine ⟨below_new (below_new (below_new (Below.refl _ _) _) _) _, (Ub.new w1 y).alloc.alloc, (Ub.new_at (by simp)).alloc, ?_⟩
  have h := own_empty (w := (w1.alloc (.cells #[.int .u64 y.b, .int .i64 y.n, .int .u64 y.u] 24)).alloc (.cells #[.int .u64 x.b, .int .i64 x.n, .int .u64 x.u] 24)) (B := w1.heap.size + 2) (by simp)
  have e : ((w1.alloc (.cells #[.int .u64 y.b, .int .i64 y.n, .int .u64 y.u] 24)).alloc (.cells #[.int .u64 x.b, .int .i64 x.n, .int .u64 x.u] 24)).heap.size = w1.heap.size + 2 := by simp
  rw [e] at h
  exact h

theorem slIs_lst {w : World} {B p s k : Nat} {v : Value} (h : w.ownsRow B 22 1 v k (us (lst p s k))) : SlIs w v (lst p s k) := slIs_own (by rw [lst_len]; exact h)
theorem same_self (v1 v2 : Value) (l : List Nat) (hl : l.length ≤ 1000000) (w : World) (h1 : SlIs w v1 l) (h2 : SlIs w v2 l) : Calls Try.prog 15 #[v1, v2] w fun e w' => e = .returned (.bool true) ∧ Below w.heap.size w w' := by
  have h := same_any v1 v2 l l hl w h1 h2
  rw [decide_eq_true rfl] at h
  exact h

set_option maxRecDepth 100000 in
set_option maxHeartbeats 6400000 in
theorem untypedOnes_ok (x y : Ut) (k n c : Int) (r p s cnt : Nat) (Wf : Nat → Ut) (hW0 : Hid (Wf 0 = x)) (hWy : Hid (Wf cnt = y)) (hr : bits .and .i64 c 31 = (r : Int)) (hr5 : r ≤ 31) (hcnt : 1 + (r : Int) = (cnt : Int)) (PA : Hid (∀ w : World, Calls Try.prog 10 #[(.agg #[.int .u64 x.b, .int .i64 x.n, .int .u64 x.u]), .int .i64 k, .int .i64 n, .int .i64 (cnt : Int)] w fun e w' => ∃ v, e = .returned (.tuple #[v, (.agg #[.int .u64 y.b, .int .i64 y.n, .int .u64 y.u]), .int .i64 0]) ∧ SlIs w' v (lst p s cnt) ∧ Below w.heap.size w w')) (PY : Hid (∀ j : Nat, j < cnt → ∀ w : World, Calls Try.prog 10 #[(.agg #[.int .u64 (Wf j).b, .int .i64 (Wf j).n, .int .u64 (Wf j).u]), .int .i64 k, .int .i64 n, .int .i64 1] w fun e w' => ∃ v, e = .returned (.tuple #[v, (.agg #[.int .u64 (Wf (j + 1)).b, .int .i64 (Wf (j + 1)).n, .int .u64 (Wf (j + 1)).u]), .int .i64 0]) ∧ SlIs w' v [p + j * pw s] ∧ Below w.heap.size w w')) (W : World) :
    Calls Try.prog 5 #[(.agg #[.int .u64 x.b, .int .i64 x.n, .int .u64 x.u]), (.agg #[.int .i64 k, .int .i64 n, .int .i64 c])] W fun e w' => e = .returned (.bool true) ∧ Below W.heap.size W w' := by
  obtain ⟨i0, hi, hz0', hz1', hz2'⟩ := info_parts info_u64
  have hc32 : cnt ≤ 32 := by omega
  go_enter Try.func5, Try.ntmps5
  go_wp2_with fail
  refine (PA.out _).mono ?_
  rintro e w1 ⟨va, rfl, hs, hb⟩
  have XX' : Ub w1 (W.heap.size) x := Ub.keep hb (by repeat (first | fail | exact Ub.new _ x | exact Ub.new_at (x := x) (by simp) | apply Ub.alloc | refine Ub.drew ?_ _))
  have XX := Lib.hid XX'
  clear XX'
  have WB' : Wb w1 ((W.heap.size + 1)) (k, n, c) := Wb.keep hb (by repeat (first | fail | exact Wb.new _ (k, n, c) | exact Wb.new_at (q := (k, n, c)) (by simp) | apply Wb.alloc | refine Wb.drew ?_ _))
  have WB := Lib.hid WB'
  clear WB'
  have SA := Lib.hid hs
  clear hs
  have HB1 : Hid (Below W.heap.size W w1) := Lib.hid (below_then (by repeat (first | exact (Below.refl _ _) | apply below_new | refine below_draws ?_ _)) hb)
  clear hb
  obtain ⟨zXX, c0XX, c1XX, c2XX, f0XX, f1XX, f2XX⟩ := XX.out
  have nXX : ¬ W.heap.size = w1.heap.size := by omega
  go_wp2_with fail
  clear zXX nXX c0XX c1XX c2XX f0XX f1XX f2XX
  clear XX
  go_loopw [10, 11, 12] (fun bv fv iv wr => ∃ j : Nat, j ≤ cnt ∧ fv = .int .i64 0 ∧ iv = .int .i64 j ∧ Hid (wr.ownsRow (w1.heap.size + 2) 22 1 bv j (us (lst p s j))) ∧ Hid (Below w1.heap.size w1 wr) ∧ Hid (Ub wr w1.heap.size y) ∧ Hid (Ub wr (w1.heap.size + 1) (Wf j))) (fun _ _ iv _ => cnt - (intOf iv).toNat)
  case atStart =>
    obtain ⟨N1, N2, N3, N4⟩ := ones_new (w1 := w1) y x
    exact ⟨0, Nat.zero_le _, rfl, rfl, Lib.hid N4, Lib.hid N1, Lib.hid N2, Lib.hid (hW0.out ▸ N3)⟩
  case round =>
    obtain ⟨j, hj, rfl, rfl, hown, hbl, hy, hx⟩ := hrel
    by_cases hlt : j < cnt
    · have hlt' : (j : Int) < (cnt : Int) := by omega
      have PJ := PY.out j hlt
      have HB1w : Hid (Wb wr (W.heap.size + 1) (k, n, c)) := Lib.hid (WB.out.keep hbl.out)
      obtain ⟨zw, b0, b1, b2⟩ := HB1w.out
      obtain ⟨zx, c0, c1, c2, f0, f1, f2⟩ := hx.out
      go_wp2_with fail
      clear zw b0 b1 b2 zx c0 c1 c2 f0 f1 f2
      refine (PJ _).mono ?_
      rintro e w2 ⟨v2, rfl, hs, hb⟩
      obtain ⟨gc, cp, rfl, hgc, hc⟩ : ∃ g cap, v2 = .slice (some ⟨g, 0, Option.none⟩) 1 cap ∧ g < w2.heap.size ∧ w2.cell? ⟨g, 0, Option.none⟩ = some (.int .u64 (p + j * pw s : Nat)) := by
        rcases hs with ⟨_, h⟩ | ⟨g, cap, h1, h2, h3⟩
        · cases h
        · exact ⟨g, cap, h1, h2, h3 0 (by simp)⟩
      obtain ⟨q, hq⟩ : ∃ q : Nat, Hid (q = p + j * pw s) := ⟨_, Lib.hid rfl⟩
      rw [← hq.out] at hc
      have HC := Lib.hid hc
      clear hs hc hgc
      have HBB := Lib.hid hb
      have HO2 := Lib.hid (own_keep hown.out hb)
      have hz2 : w1.heap.size + 2 ≤ w2.heap.size := by have := hx.out.1; have := hb.size; omega
      clear hb
      go_wp2_with (first | (at_builtin; refine wpList_append_own _ rfl (.tmp 55) (.tmp 56) 27 rfl (w1.heap.size + 2) 22 i0 (.int .u64 0) 1 8 ul_slice hi hz0' hz1' hz2' rfl (by decide) _ _ _ rfl (HO2.out.alloc _) ⟨gc, 0, Option.none⟩ 1 cp [.int .u64 (q : Int)] rfl rfl ?c1 ?c2 ?c3 ?c4 ?c5 ?_) | fail)
      case c1 =>
        intro j u hj
        match j, hj with
        | 0, hj => simp at hj; subst hj; simp [Addr.add]; exact cell_new HC.out
      case c2 => intro u hu; simp at hu; subst hu; rfl
      case c3 => unfold maxLen; omega
      case c4 => omega
      case c5 => simp; omega
      · intro v' w3 hown' hgrow _
        obtain ⟨R1, R2, R3, R4⟩ := ones_after hbl.out hy.out hx.out hown.out HBB.out hgrow
        have HOW : Hid (w3.ownsRow (w1.heap.size + 2) 22 1 v' (j + 1) (us (lst p s (j + 1)))) := Lib.hid (by
          rw [hq.out] at hown'
          show w3.ownsRow _ _ _ _ _ (us (lst p s j ++ [p + j * pw s]))
          rw [us_snoc]
          exact hown')
        have HR1 := Lib.hid R1
        have HR2 := Lib.hid R2
        have HR3 := Lib.hid R3
        clear hown' hgrow R1 R2
        obtain ⟨zx, c0, c1, c2, f0, f1, f2⟩ := R3
        obtain ⟨zv, d0, d1, d2, _, _, _⟩ := R4
        have hn2 : ¬ w1.heap.size + 1 = w2.heap.size := by omega
        go_wp2
        go_roundw
        case rel =>
          obtain ⟨T1, T2, T3, T4⟩ := ones_stored (x' := Wf (j + 1)) HR1.out HR2.out HR3.out HOW.out
          exact ⟨j + 1, by omega, rfl, by go_num, Lib.hid T4, Lib.hid T1, Lib.hid T2, Lib.hid T3⟩
        case measure => simp [intOf]; omega

    · have hje : j = cnt := by omega
      subst hje
      have hnl : ¬ (j : Int) < (j : Int) := by omega
      have hxy : Hid (Ub wr (w1.heap.size + 1) y) := Lib.hid (hWy.out ▸ hx.out)
      have HBW : Hid (Below W.heap.size W wr) := Lib.hid (below_from HB1.out hbl.out)
      have HS1 : Hid (SlIs wr va (lst p s j)) := Lib.hid (SA.out.keep hbl.out)
      have HS2 := Lib.hid (slIs_lst hown.out)
      go_wp2_with fail
      refine (same_self _ _ (lst p s j) (by rw [lst_len]; omega) _ HS1.out HS2.out).mono ?_
      rintro e w2 ⟨rfl, hb⟩
      have q1 : ∀ w : World, (Op.equalIn 10000 24 (.agg #[.int .u64 y.b, .int .i64 y.n, .int .u64 y.u]) (.agg #[.int .u64 y.b, .int .i64 y.n, .int .u64 y.u])).run Try.prog w = .ok true w := fun w => eq_ut_self y w
      have HB2 : Hid (Below W.heap.size W w2) := Lib.hid (below_from HBW.out hb)
      obtain ⟨zy, c0, c1, c2, _, _, _⟩ := hy.out.keep hb
      obtain ⟨zx, d0, d1, d2, _, _, _⟩ := hxy.out.keep hb
      clear hb
      go_wp2_with fail
      refine (fixed_true _).mono ?_
      rintro e w3 ⟨rfl, hb⟩
      have HB3 : Hid (Below W.heap.size W w3) := Lib.hid (below_from HB2.out hb)
      clear hb zy c0 c1 c2 zx d0 d1 d2
      go_wp2_with fail
      go_ret
      exact ⟨rfl, HB3.out⟩

set_option maxRecDepth 100000 in
set_option maxHeartbeats 6400000 in
theorem untypedOnes_err (x : Ut) (k n c i : Int) (r p s cnt F : Nat) (Wf : Nat → Ut) (hW0 : Hid (Wf 0 = x)) (hr : bits .and .i64 c 31 = (r : Int)) (hr5 : r ≤ 31) (hcnt : 1 + (r : Int) = (cnt : Int)) (hF : F < cnt) (hi0 : (i == 0) = false) (hi1 : (i != 0) = true) (PA : Hid (∀ w : World, Calls Try.prog 10 #[(.agg #[.int .u64 x.b, .int .i64 x.n, .int .u64 x.u]), .int .i64 k, .int .i64 n, .int .i64 (cnt : Int)] w fun e w' => ∃ v, e = .returned (.tuple #[v, (.agg #[.int .u64 0, .int .i64 0, .int .u64 0]), .int .i64 i]) ∧ SlIs w' v [] ∧ Below w.heap.size w w')) (PY : Hid (∀ j : Nat, j < F → ∀ w : World, Calls Try.prog 10 #[(.agg #[.int .u64 (Wf j).b, .int .i64 (Wf j).n, .int .u64 (Wf j).u]), .int .i64 k, .int .i64 n, .int .i64 1] w fun e w' => ∃ v, e = .returned (.tuple #[v, (.agg #[.int .u64 (Wf (j + 1)).b, .int .i64 (Wf (j + 1)).n, .int .u64 (Wf (j + 1)).u]), .int .i64 0]) ∧ SlIs w' v [p + j * pw s] ∧ Below w.heap.size w w')) (PF : Hid (∀ w : World, Calls Try.prog 10 #[(.agg #[.int .u64 (Wf F).b, .int .i64 (Wf F).n, .int .u64 (Wf F).u]), .int .i64 k, .int .i64 n, .int .i64 1] w fun e w' => ∃ v, e = .returned (.tuple #[v, (.agg #[.int .u64 0, .int .i64 0, .int .u64 0]), .int .i64 i]) ∧ SlIs w' v [] ∧ Below w.heap.size w w')) (W : World) :
    Calls Try.prog 5 #[(.agg #[.int .u64 x.b, .int .i64 x.n, .int .u64 x.u]), (.agg #[.int .i64 k, .int .i64 n, .int .i64 c])] W fun e w' => e = .returned (.bool true) ∧ Below W.heap.size W w' := by
  obtain ⟨i0, hi, hz0', hz1', hz2'⟩ := info_parts info_u64
  have hc32 : cnt ≤ 32 := by omega
  go_enter Try.func5, Try.ntmps5
  go_wp2_with fail
  refine (PA.out _).mono ?_
  rintro e w1 ⟨va, rfl, _, hb⟩
  have XX' : Ub w1 (W.heap.size) x := Ub.keep hb (by repeat (first | fail | exact Ub.new _ x | exact Ub.new_at (x := x) (by simp) | apply Ub.alloc | refine Ub.drew ?_ _))
  have XX := Lib.hid XX'
  clear XX'
  have WB' : Wb w1 ((W.heap.size + 1)) (k, n, c) := Wb.keep hb (by repeat (first | fail | exact Wb.new _ (k, n, c) | exact Wb.new_at (q := (k, n, c)) (by simp) | apply Wb.alloc | refine Wb.drew ?_ _))
  have WB := Lib.hid WB'
  clear WB'
  have HB1 : Hid (Below W.heap.size W w1) := Lib.hid (below_then (by repeat (first | exact (Below.refl _ _) | apply below_new | refine below_draws ?_ _)) hb)
  clear hb
  obtain ⟨zXX, c0XX, c1XX, c2XX, f0XX, f1XX, f2XX⟩ := XX.out
  have nXX : ¬ W.heap.size = w1.heap.size := by omega
  go_wp2_with fail
  clear zXX nXX c0XX c1XX c2XX f0XX f1XX f2XX
  clear XX
  go_loopw [10, 11, 12] (fun bv fv iv wr => ∃ (j : Nat) (fz : Int), fv = .int .i64 fz ∧ iv = .int .i64 j ∧ Hid ((j ≤ F ∧ fz = 0) ∨ (j = F + 1 ∧ fz = i)) ∧ Hid (Below w1.heap.size w1 wr) ∧ Hid (j ≤ F → wr.ownsRow (w1.heap.size + 2) 22 1 bv j (us (lst p s j)) ∧ Ub wr w1.heap.size Ud.none ∧ Ub wr (w1.heap.size + 1) (Wf j))) (fun _ _ iv _ => (F + 2) - (intOf iv).toNat)
  case atStart =>
    obtain ⟨N1, N2, N3, N4⟩ := ones_new (w1 := w1) Ud.none x
    exact ⟨0, 0, rfl, rfl, Lib.hid (.inl ⟨Nat.zero_le _, rfl⟩), Lib.hid N1, Lib.hid (fun _ => ⟨N4, N2, hW0.out ▸ N3⟩)⟩
  case round =>
    obtain ⟨j, fz, rfl, rfl, hcase, hbl, hall⟩ := hrel
    rcases hcase.out with ⟨hjF, hfz⟩ | ⟨hj1, hfz⟩
    · subst hfz
      have hlc : j < cnt := by omega
      have hlt' : (j : Int) < (cnt : Int) := by omega
      have hown := Lib.hid (hall.out hjF).1
      have hy := Lib.hid (hall.out hjF).2.1
      have hx := Lib.hid (hall.out hjF).2.2
      clear hall hcase
      by_cases hlt : j < F
      · have PJ := PY.out j hlt
        have HB1w : Hid (Wb wr (W.heap.size + 1) (k, n, c)) := Lib.hid (WB.out.keep hbl.out)
        obtain ⟨zw, b0, b1, b2⟩ := HB1w.out
        obtain ⟨zx, c0, c1, c2, f0, f1, f2⟩ := hx.out
        go_wp2_with fail
        clear zw b0 b1 b2 zx c0 c1 c2 f0 f1 f2
        refine (PJ _).mono ?_
        rintro e w2 ⟨v2, rfl, hs, hb⟩
        obtain ⟨gc, cp, rfl, hgc, hc⟩ : ∃ g cap, v2 = .slice (some ⟨g, 0, Option.none⟩) 1 cap ∧ g < w2.heap.size ∧ w2.cell? ⟨g, 0, Option.none⟩ = some (.int .u64 (p + j * pw s : Nat)) := by
          rcases hs with ⟨_, h⟩ | ⟨g, cap, h1, h2, h3⟩
          · cases h
          · exact ⟨g, cap, h1, h2, h3 0 (by simp)⟩
        obtain ⟨q, hq⟩ : ∃ q : Nat, Hid (q = p + j * pw s) := ⟨_, Lib.hid rfl⟩
        rw [← hq.out] at hc
        have HC := Lib.hid hc
        clear hs hc hgc
        have HBB := Lib.hid hb
        have HO2 := Lib.hid (own_keep hown.out hb)
        have hz2 : w1.heap.size + 2 ≤ w2.heap.size := by have := hx.out.1; have := hb.size; omega
        clear hb
        go_wp2_with (first | (at_builtin; refine wpList_append_own _ rfl (.tmp 55) (.tmp 56) 27 rfl (w1.heap.size + 2) 22 i0 (.int .u64 0) 1 8 ul_slice hi hz0' hz1' hz2' rfl (by decide) _ _ _ rfl (HO2.out.alloc _) ⟨gc, 0, Option.none⟩ 1 cp [.int .u64 (q : Int)] rfl rfl ?c1 ?c2 ?c3 ?c4 ?c5 ?_) | fail)
        case c1 =>
          intro j u hj
          match j, hj with
          | 0, hj => simp at hj; subst hj; simp [Addr.add]; exact cell_new HC.out
        case c2 => intro u hu; simp at hu; subst hu; rfl
        case c3 => unfold maxLen; omega
        case c4 => omega
        case c5 => simp; omega
        · intro v' w3 hown' hgrow _
          obtain ⟨R1, R2, R3, R4⟩ := ones_after hbl.out hy.out hx.out hown.out HBB.out hgrow
          have HOW : Hid (w3.ownsRow (w1.heap.size + 2) 22 1 v' (j + 1) (us (lst p s (j + 1)))) := Lib.hid (by
            rw [hq.out] at hown'
            show w3.ownsRow _ _ _ _ _ (us (lst p s j ++ [p + j * pw s]))
            rw [us_snoc]
            exact hown')
          have HR1 := Lib.hid R1
          have HR2 := Lib.hid R2
          have HR3 := Lib.hid R3
          clear hown' hgrow R1 R2
          obtain ⟨zx, c0, c1, c2, f0, f1, f2⟩ := R3
          obtain ⟨zv, d0, d1, d2, _, _, _⟩ := R4
          have hn2 : ¬ w1.heap.size + 1 = w2.heap.size := by omega
          go_wp2
          go_roundw
          case rel =>
            obtain ⟨T1, T2, T3, T4⟩ := ones_stored (x' := Wf (j + 1)) HR1.out HR2.out HR3.out HOW.out
            exact ⟨j + 1, 0, rfl, by go_num, Lib.hid (.inl ⟨by omega, rfl⟩), Lib.hid T1, Lib.hid (fun _ => ⟨T4, T2, T3⟩)⟩
          case measure => simp [intOf]; omega

      · have hje : j = F := by omega
        subst hje
        have HB1w : Hid (Wb wr (W.heap.size + 1) (k, n, c)) := Lib.hid (WB.out.keep hbl.out)
        obtain ⟨zw, b0, b1, b2⟩ := HB1w.out
        obtain ⟨zx, c0, c1, c2, f0, f1, f2⟩ := hx.out
        go_wp2_with fail
        clear zw b0 b1 b2 zx c0 c1 c2 f0 f1 f2
        refine (PF.out _).mono ?_
        rintro e w2 ⟨v2, rfl, _, hb⟩
        have HB2 : Hid (Below w1.heap.size w1 w2) := Lib.hid (below_low hbl.out hbl.out.size hb)
        have hz2 : w1.heap.size ≤ w2.heap.size := by have := hbl.out.size; have := hb.size; omega
        clear hb
        go_wp2_with fail
        go_roundw
        case rel => exact ⟨j + 1, i, rfl, by go_num, Lib.hid (.inr ⟨rfl, rfl⟩), Lib.hid (HB2.out.alloc hz2 _), Lib.hid (fun h => absurd h (by omega))⟩
        case measure => simp [intOf] <;> omega
    · have HBW : Hid (Below W.heap.size W wr) := Lib.hid (below_from HB1.out hbl.out)
      subst hfz
      clear hcase hall
      by_cases hlt : j < cnt
      all_goals (
        first | have hlt' : (j : Int) < (cnt : Int) := (by omega) | have hlt' : ¬ (j : Int) < (cnt : Int) := (by omega)
        go_wp2_with fail
        refine (fixed_true _).mono ?_
        rintro e w3 ⟨rfl, hb⟩
        have HB3 : Hid (Below W.heap.size W w3) := Lib.hid (below_from HBW.out hb)
        clear hb
        go_wp2_with fail
        go_ret
        exact ⟨rfl, HB3.out⟩)

namespace Ud
/-- The memory when so many have been placed. -/
def mem (x : Ut) (p s j : Nat) : Ut := if j = 0 then x else ⟨x.b, x.n, p + j * pw s - x.b⟩
theorem mem_at {x : Ut} {p s m j : Nat} (hn : x.n = (m : Int)) (hm : m ≤ 20) (ok : x.Ok) (hp : p = upTo (x.b + x.u) s) (hj : j = 0 ∨ p + j * pw s ≤ x.b + pw m) : (mem x p s j).Ok ∧ (mem x p s j).b = x.b ∧ (mem x p s j).n = x.n ∧ atU (mem x p s j) s = p + j * pw s := by
  obtain ⟨q1, q2, q3⟩ := upTo_facts (x.b + x.u) s
  rw [← hp] at q1 q2 q3
  by_cases h0 : j = 0
  · subst h0
    refine ⟨ok, rfl, rfl, ?_⟩
    show upTo (x.b + x.u) s = _
    rw [← hp]
    omega
  · have hj := hj.resolve_left h0
    obtain ⟨k0, k1, k2, k3, k4⟩ := ok
    have e : x.n.toNat = m := by omega
    have em : mem x p s j = ⟨x.b, x.n, p + j * pw s - x.b⟩ := by simp [mem, h0]
    rw [em]
    refine ⟨⟨k0, k1, k2, k3, by show p + j * pw s - x.b ≤ pw x.n.toNat; rw [e]; omega⟩, rfl, rfl, ?_⟩
    show upTo (x.b + (p + j * pw s - x.b)) s = _
    rw [show x.b + (p + j * pw s - x.b) = p + j * pw s by omega]
    exact upTo_yes (by rw [Nat.add_mod, q3, Nat.mul_mod_left]; simp)
theorem mem_word {x : Ut} {p s m j : Nat} (hb : Word x.b) (hu : Word x.u) (h2 : m ≤ 20) (hj : j = 0 ∨ p + j * pw s ≤ x.b + pw m) : Word (mem x p s j).b ∧ Word (mem x p s j).u := by
  by_cases h0 : j = 0
  · subst h0
    exact ⟨hb, hu⟩
  · have hj := hj.resolve_left h0
    have em : mem x p s j = ⟨x.b, x.n, p + j * pw s - x.b⟩ := by simp [mem, h0]
    have pm : pw m ≤ 1048576 := Nat.pow_le_pow_right (by decide) h2
    have e64 : (2 : Nat) ^ 64 = 18446744073709551616 := by decide
    rw [em]
    exact ⟨hb, ⟨by show p + j * pw s - x.b < 2 ^ 64; omega⟩⟩
theorem place_one {x : Ut} {p s m j : Nat} {k n : Int} (hn : x.n = (m : Int)) (hm : m ≤ 20) (ok : x.Ok) (hs : sizeU k n = ((s : Int), 0)) (hp : p = upTo (x.b + x.u) s) (hj : j = 0 ∨ p + j * pw s ≤ x.b + pw m) :
    placeU (mem x p s j) k n 1 = if x.b + pw m < p + (j + 1) * pw s then ([], none, 81) else ([p + j * pw s], mem x p s (j + 1), 0) := by
  obtain ⟨g1, g2, g3, g4⟩ := mem_at hn hm ok hp hj
  have e2 : p + (j + 1) * pw s = p + j * pw s + pw s := by rw [Nat.add_mul]; omega
  have e3 : x.n.toNat = m := by omega
  unfold placeU
  rw [if_neg (by simpa using g1), hs]
  simp only [Int.toNat_natCast, g2, g3, g4, ne_eq, not_true_eq_false, if_false]
  rw [if_neg (by omega), e2, e3]
  simp [lst, mem]
  by_cases hc : x.b + pw m < p + j * pw s + pw s
  · simp [hc]
  · simp [hc]
    rw [Nat.add_mul]
    omega
end Ud
theorem and31 (c : Int) : ∃ m : Nat, m ≤ 31 ∧ bits .and .i64 c 31 = (m : Int) :=
  ⟨_, by have := Nat.mod_lt (BitVec.ofInt 64 c).toNat (Nat.two_pow_pos 5); omega, bits_i64_mask c 5 (by decide)⟩
theorem untypedOnes_walk (x : Ut) (hb : Word x.b) (hu : Word x.u) (k n c : Int) (W : World) :
    Calls Try.prog 5 #[(.agg #[.int .u64 x.b, .int .i64 x.n, .int .u64 x.u]), (.agg #[.int .i64 k, .int .i64 n, .int .i64 c])] W fun e w' => e = .returned (.bool true) ∧ Below W.heap.size W w' := by
  obtain ⟨r, hr5, hr⟩ := and31 c
  obtain ⟨cnt, hcnt⟩ : ∃ cnt : Nat, 1 + (r : Int) = (cnt : Int) := ⟨1 + r, by simp⟩
  obtain ⟨⟨l, y, i⟩, hp⟩ : ∃ q, placeU x k n (cnt : Int) = q := ⟨_, rfl⟩
  by_cases hi : i = 0
  · subst hi
    obtain ⟨m, s, i, p, h1, h2, h3, h4, h5, h6, h7, h8, h9, h10, h11, h12, h13⟩ := place_ok hp
    have hic : i = cnt := by omega
    subst hic
    have hle : ∀ j, j < i → p + (j + 1) * pw s ≤ x.b + pw m := fun j hj => by
      have := Nat.mul_le_mul_right (pw s) (show j + 1 ≤ i by omega)
      omega
    have hjj : ∀ j, j < i → j = 0 ∨ p + j * pw s ≤ x.b + pw m := fun j hj => .inr (by
      have := Nat.mul_le_mul_right (pw s) (show j ≤ j + 1 by omega)
      have := hle j hj
      omega)
    refine untypedOnes_ok x y k n c r p s i (mem x p s) (Lib.hid rfl) (Lib.hid ?_) hr hr5 hcnt (Lib.hid (place_as x hb hu k n i _ y 0 (by rw [hp, h12]))) (Lib.hid fun j hj => ?_) W
    · rw [h13]
      unfold mem
      rw [if_neg (by omega)]
    · have h := place_one (k := k) (n := n) h1 h2 h3 h4 h10 (hjj j hj)
      rw [if_neg (by have := hle j hj; omega)] at h
      exact place_as _ (mem_word hb hu h2 (hjj j hj)).1 (mem_word hb hu h2 (hjj j hj)).2 k n 1 _ _ _ h
  · obtain ⟨rfl, rfl, hno⟩ := place_err hp hi
    have PA := Lib.hid (place_as x hb hu k n cnt [] Ud.none i hp)
    have hi0 : (i == 0) = false := by simpa using hi
    have hi1 : (i != 0) = true := by simpa using hi
    by_cases h81 : x.Ok ∧ (sizeU k n).2 = 0
    · obtain ⟨ok, hs⟩ := h81
      obtain ⟨s2, s20⟩ := size_in hs
      obtain ⟨s, hs1⟩ : ∃ s : Nat, (sizeU k n).1 = (s : Int) := ⟨(sizeU k n).1.toNat, by omega⟩
      have hsz : sizeU k n = ((s : Int), 0) := by rw [← hs1, ← hs]
      obtain ⟨m, hm⟩ : ∃ m : Nat, x.n = (m : Int) := ⟨x.n.toNat, by have := ok.1; omega⟩
      have hm20 : m ≤ 20 := by have := ok.2.1; omega
      obtain ⟨p, hpp⟩ : ∃ p, p = upTo (x.b + x.u) s := ⟨_, rfl⟩
      have hps : 0 < pw s := Nat.two_pow_pos s
      have hfull : x.b + pw m < p + cnt * pw s ∧ i = 81 := by
        unfold placeU at hp
        rw [if_neg (by simpa using ok), hsz] at hp
        simp only [Int.toNat_natCast, ne_eq, not_true_eq_false, if_false] at hp
        rw [if_neg (by omega)] at hp
        unfold atU at hp
        rw [← hpp, show x.n.toNat = m by omega] at hp
        split at hp
        · rename_i h
          cases hp
          exact ⟨h, rfl⟩
        · injection hp with _ h
          injection h with _ h
          exact absurd h.symm hi
      obtain ⟨hfull, rfl⟩ := hfull
      -- the first that does not go in
      obtain ⟨F, hF1, hF2, hF3⟩ : ∃ F, F < cnt ∧ (F = 0 ∨ p + F * pw s ≤ x.b + pw m) ∧ x.b + pw m < p + (F + 1) * pw s := by
        have key : ∀ d, d ≤ cnt → (x.b + pw m < p + d * pw s) → d = 0 ∨ ∃ F, F < d ∧ (F = 0 ∨ p + F * pw s ≤ x.b + pw m) ∧ x.b + pw m < p + (F + 1) * pw s := by
          intro d
          induction d with
          | zero => exact fun _ _ => .inl rfl
          | succ d ih =>
            intro hd hlt
            by_cases hc : x.b + pw m < p + d * pw s
            · rcases ih (by omega) hc with h0 | ⟨F, f1, f2, f3⟩
              · subst h0
                exact .inr ⟨0, by omega, .inl rfl, hlt⟩
              · exact .inr ⟨F, by omega, f2, f3⟩
            · exact .inr ⟨d, by omega, .inr (by omega), hlt⟩
        rcases key cnt (Nat.le_refl _) hfull with h0 | h
        · omega
        · exact h
      have hle : ∀ j, j < F → p + (j + 1) * pw s ≤ x.b + pw m := fun j hj => by
        have := Nat.mul_le_mul_right (pw s) (show j + 1 ≤ F by omega)
        rcases hF2 with h | h
        · omega
        · omega
      have hjj : ∀ j, j < F → j = 0 ∨ p + j * pw s ≤ x.b + pw m := fun j hj => .inr (by
        have := Nat.mul_le_mul_right (pw s) (show j ≤ j + 1 by omega)
        have := hle j hj
        omega)
      refine untypedOnes_err x k n c 81 r p s cnt F (mem x p s) (Lib.hid rfl) hr hr5 hcnt hF1 hi0 hi1 PA (Lib.hid fun j hj => ?_) (Lib.hid ?_) W
      · have h := place_one (k := k) (n := n) hm hm20 ok hsz hpp (hjj j hj)
        rw [if_neg (by have := hle j hj; omega)] at h
        exact place_as _ (mem_word hb hu hm20 (hjj j hj)).1 (mem_word hb hu hm20 (hjj j hj)).2 k n 1 _ _ _ h
      · have h := place_one (k := k) (n := n) hm hm20 ok hsz hpp hF2
        rw [if_pos hF3] at h
        exact place_as _ (mem_word hb hu hm20 hF2).1 (mem_word hb hu hm20 hF2).2 k n 1 _ _ _ h
    · have h1 : placeU x k n 1 = ([], Ud.none, i) := by
        rw [← hp]
        unfold placeU
        by_cases ok : x.Ok
        · have hs : ¬ (sizeU k n).2 = 0 := fun h => h81 ⟨ok, h⟩
          simp [ok, hs]
        · simp [ok]
      exact untypedOnes_err x k n c i r 0 0 cnt 0 (fun _ => x) (Lib.hid rfl) hr hr5 hcnt (by omega) hi0 hi1 PA (Lib.hid fun j hj => absurd hj (by omega)) (Lib.hid (place_as x hb hu k n 1 [] Ud.none i h1)) W


set_option maxRecDepth 100000 in
theorem untypedOnes_lifted (os : Os) (started : os.Started) (H : Type) (enc : TypeId × Value → H) :
    ReturnsInHanded {} Try.checked os 5 .any (Rows.untypedOnesSpec.pre6 enc Try.prog Try.f5 Rows.untypedOnesRow.domain false) (Rows.untypedOnesSpec.post enc Try.prog Try.f5 false true false false) := by
  refine returnsInHanded_of_change (C := Try.checked) own_knob started (by kernel_rfl) Try.func5
    (ChangeSpec.witness6 (enc := enc) (C := Try.checked) false ⟨#[], #[.agg #[.int .u64 0, .int .i64 0, .int .u64 0], .agg #[.int .i64 0, .int .i64 0, .int .i64 0]], []⟩ 8 (by kernel_rfl) (by kernel_rfl) (by kernel_rfl) (by kernel_rfl)) ?_
  intro W base args ds gs before hval0 hW hcnd _
  have hval : ∀ (j : Nat) t v, Try.f5.params[j]? = some t → args[j]? = some v → Value.okWide Try.prog W .any base t v := hval0
  have hW' := hW
  obtain ⟨p, q, hA0, hV, rfl, hfz, hnd⟩ := hW
  have hA : DataW.TrodAll enc Try.prog W 0 (fun _ => true) true Try.f5.params.toList args.toList ds p := hA0
  rw [Try.params5] at hA hval
  obtain ⟨v0, v1, d0, d1, p0, p1, rfl, rfl, rfl, h0, h1⟩ := trodAll_two hA
  obtain ⟨rfl, rfl⟩ := trodVars_none hV
  clear hA0 hval0
  simp only [List.append_nil] at hW'
  have hlt : ∀ x ∈ p0 ++ p1, x.block < W.heap.size := fun x hx => by simpa using hW'.lt x hx
  have g0 : ∀ W' : World, Below W.heap.size W W' → DataW.Trod enc Try.prog W' 0 (fun b => decide (b < W.heap.size)) true 24 v0 d0 p0 :=
    fun W' hn => Below.trod laid_out (by kernel_rfl) (of_decide_eq_true (by kernel_rfl)) h0 hn (fun x hx => hlt x (by simp [hx]))
  have g1 : ∀ W' : World, Below W.heap.size W W' → DataW.Trod enc Try.prog W' 0 (fun b => decide (b < W.heap.size)) true 26 v1 d1 p1 :=
    fun W' hn => Below.trod laid_out (by kernel_rfl) (of_decide_eq_true (by kernel_rfl)) h1 hn (fun x hx => hlt x (by simp [hx]))
  obtain ⟨x, rfl, l0b, l0u⟩ := open_unt (hval 0 24 v0 rfl rfl) h0
  obtain ⟨k, n, c, rfl, l1k, l1n, l1c⟩ := open_what (hval 1 26 v1 rfl rfl) h1
  refine (untypedOnes_walk x l0b l0u k n c W).mono fun e W' ⟨he, hn⟩ => ?_
  subst he
  exact ⟨_, rfl, _, _, _, [], p0 ++ p1, [], hW', trodAll_mk1 (shut_bool Try.underlying4 true), (trodAll_mk2 (g0 W' hn) (g1 W' hn)), rfl, hn.frame _, fun h => by cases h⟩

theorem untypedOnes_holds : Rows.UntypedOnesSaid :=
  OpenClaim.holds_of_wide 5 Try.f5 rfl rfl rfl rfl rfl rfl rfl ⟨rfl, rfl, rfl, rfl, rfl⟩ rfl rfl rfl rfl rfl (by kernel_rfl) Try.func5 (by kernel_rfl)
    (of_decide_eq_true (by kernel_rfl)) (by unfold Func.isWrapper; first | (rw [if_pos (by decide +kernel)]; kernel_rfl) | (rw [if_neg (by decide +kernel)]; exact ⟨rfl, rfl⟩))
    (fun os started H enc _ => untypedOnes_lifted os started H enc)
#print axioms untypedOnes_holds
end Go.Proofs.Ytbgcgbelejmjiaa
