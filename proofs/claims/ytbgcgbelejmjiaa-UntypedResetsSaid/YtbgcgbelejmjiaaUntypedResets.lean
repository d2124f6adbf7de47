/- What is used no more is as it was at first: what went in then goes in again, at the same places: for every input, no condition. -/
import Derived.Test.YtbgcgbelejmjiaaUfixed
import Derived.Test.YtbgcgbelejmjiaaUframe
import Derived.Test.YtbgcgbelejmjiaaUlaw
import Derived.Deep.RegionHeld3
set_option linter.unusedVariables false
set_option linter.unusedSimpArgs false
namespace Go.Proofs.Ytbgcgbelejmjiaa
open Go.ChangeShapes Go.WideShapes Go.ChangeAt Go.RowKit Go.Joins Wd Ud

/-- A list in a block of its own, made behind B. -/
def SlOn (B : Nat) (w : World) (v : Value) (l : List Nat) : Prop :=
  (v = .slice Option.none 0 0 ∧ l = []) ∨ ∃ g cap, v = .slice (some ⟨g, 0, Option.none⟩) l.length cap ∧ B ≤ g ∧ g < w.heap.size ∧ ∀ j, j < l.length → w.cell? ⟨g, j, Option.none⟩ = some (.int .u64 ((l.getD j 0 : Nat) : Int))
theorem SlOn.is {B : Nat} {w : World} {v : Value} {l : List Nat} (h : SlOn B w v l) : SlIs w v l := by
  rcases h with h | ⟨g, cap, h1, _, h2, h3⟩
  · exact .inl h
  · exact .inr ⟨g, cap, h1, h2, h3⟩
theorem SlOn.put {B : Nat} {w : World} {v : Value} {l : List Nat} (h : SlOn B w v l) (p : Addr) (u : Value) (hp : p.block < B) : SlOn B (w.setCell p u) v l := by
  rcases h with h | ⟨g, cap, h1, h0, h2, h3⟩
  · exact .inl h
  · exact .inr ⟨g, cap, h1, h0, by simpa [World.setCell] using h2, fun j hj => (World.cell?_setCell_far w p ⟨g, j, Option.none⟩ u (by show p.block ≠ g; omega)).trans (h3 j hj)⟩
theorem slOn_own {w : World} {B : Nat} {v : Value} {l : List Nat} (h : w.ownsRow B 22 1 v l.length (us l)) : SlOn B w v l := by
  have h' := slIs_own h
  obtain ⟨h0, ⟨h1, h2⟩ | ⟨g, cap, cur, hv, hg, hh, hc, hm, hs, ht⟩⟩ := h
  · exact .inl ⟨h1, List.eq_nil_of_length_eq_zero h2⟩
  · rcases h' with h' | ⟨g', cap', e1, e2, e3⟩
    · exact .inl h'
    · rw [e1] at hv
      injection hv with hv _ _
      injection hv with hv
      injection hv with hv _ _
      subst hv
      exact .inr ⟨g', cap', e1, hg, e2, e3⟩
theorem gen_world {F : Exit → Act → World → Prop} {x : Exit} {act : Act} {w : World} (S : World → Prop) (h : S w) (H : ∀ w2, S w2 → F x act w2) : F x act w := H w h
theorem Ub.stored {w : World} {b : Nat} {x : Ut} {v0 v1 v2 : Value} (hz : b < w.heap.size) (r0 : w.cell? ⟨b, 0, Option.none⟩ = some v0) (r1 : w.cell? ⟨b, 1, Option.none⟩ = some v1) (r2 : w.cell? ⟨b, 2, Option.none⟩ = some v2) (s0 : w.frozen? ⟨b, 0, Option.none⟩ = false) (s1 : w.frozen? ⟨b, 1, Option.none⟩ = false) (s2 : w.frozen? ⟨b, 2, Option.none⟩ = false) :
    Ub (((w.setCell ⟨b, 0, Option.none⟩ (.int .u64 x.b)).setCell ⟨b, 1, Option.none⟩ (.int .i64 x.n)).setCell ⟨b, 2, Option.none⟩ (.int .u64 x.u)) b x := by
  refine ⟨by simpa [World.setCell] using hz, ?_, ?_, ?_, ?_, ?_, ?_⟩ <;> simp [go_sem, r0, r1, r2, s0, s1, s2]
theorem keepR_of {W w0 w' : World} {g1 : Nat} {k n c : Int} {y : Ut} (K : w0.cell? ⟨W.heap.size + 1, 0, Option.none⟩ = some (.int .i64 k) ∧ w0.cell? ⟨W.heap.size + 1, 1, Option.none⟩ = some (.int .i64 n) ∧ w0.cell? ⟨W.heap.size + 1, 2, Option.none⟩ = some (.int .i64 c) ∧ w0.cell? ⟨g1, 0, Option.none⟩ = some (.int .u64 y.b) ∧ w0.cell? ⟨g1, 1, Option.none⟩ = some (.int .i64 y.n) ∧ w0.cell? ⟨g1, 2, Option.none⟩ = some (.int .u64 y.u)) (hZ : W.heap.size + 1 < w0.heap.size ∧ g1 < w0.heap.size) (h : Below w0.heap.size w0 w') : Below w0.heap.size w0 w' ∧ w'.cell? ⟨W.heap.size + 1, 0, Option.none⟩ = some (.int .i64 k) ∧ w'.cell? ⟨W.heap.size + 1, 1, Option.none⟩ = some (.int .i64 n) ∧ w'.cell? ⟨W.heap.size + 1, 2, Option.none⟩ = some (.int .i64 c) ∧ w'.cell? ⟨g1, 0, Option.none⟩ = some (.int .u64 y.b) ∧ w'.cell? ⟨g1, 1, Option.none⟩ = some (.int .i64 y.n) ∧ w'.cell? ⟨g1, 2, Option.none⟩ = some (.int .u64 y.u) := by
  obtain ⟨q0, q1, q2, q3, q4, q5⟩ := K
  have key : ∀ {p : Addr} {v : Value}, p.block < w0.heap.size → w0.cell? p = some v → w'.cell? p = some v := fun hp hq => (h.cell hp).trans hq
  exact ⟨h, key hZ.1 q0, key hZ.1 q1, key hZ.1 q2, key hZ.2 q3, key hZ.2 q4, key hZ.2 q5⟩
theorem keepR_l {W w0 w' : World} {g1 : Nat} {k n c : Int} {y : Ut} (h : Below w0.heap.size w0 w' ∧ w'.cell? ⟨W.heap.size + 1, 0, Option.none⟩ = some (.int .i64 k) ∧ w'.cell? ⟨W.heap.size + 1, 1, Option.none⟩ = some (.int .i64 n) ∧ w'.cell? ⟨W.heap.size + 1, 2, Option.none⟩ = some (.int .i64 c) ∧ w'.cell? ⟨g1, 0, Option.none⟩ = some (.int .u64 y.b) ∧ w'.cell? ⟨g1, 1, Option.none⟩ = some (.int .i64 y.n) ∧ w'.cell? ⟨g1, 2, Option.none⟩ = some (.int .u64 y.u)) : Below w0.heap.size w0 w' := h.1
set_option maxRecDepth 100000 in
set_option maxHeartbeats 6400000 in
theorem untypedResets_err (x y2 : Ut) (l2 : List Nat) (k n c i i2 : Int) (hi : (i != 0) = true) (PA : Hid (∀ w : World, Calls Try.prog 10 #[(.agg #[.int .u64 x.b, .int .i64 x.n, .int .u64 0]), .int .i64 k, .int .i64 n, .int .i64 c] w fun e w' => ∃ v, e = .returned (.tuple #[v, (.agg #[.int .u64 0, .int .i64 0, .int .u64 0]), .int .i64 i]) ∧ SlIs w' v [] ∧ Below w.heap.size w w')) (RT : Hid (∀ w : World, Calls Try.prog 18 #[(.agg #[.int .u64 0, .int .i64 0, .int .u64 0])] w fun e w' => e = .returned (.agg #[.int .u64 0, .int .i64 0, .int .u64 0]) ∧ Below w.heap.size w w')) (PB : Hid (∀ w : World, Calls Try.prog 10 #[(.agg #[.int .u64 0, .int .i64 0, .int .u64 0]), .int .i64 k, .int .i64 n, .int .i64 c] w fun e w' => ∃ v, e = .returned (.tuple #[v, (.agg #[.int .u64 y2.b, .int .i64 y2.n, .int .u64 y2.u]), .int .i64 i2]) ∧ SlOn w.heap.size w' v l2 ∧ Below w.heap.size w w')) (W : World) :
    Calls Try.prog 7 #[(.agg #[.int .u64 x.b, .int .i64 x.n, .int .u64 x.u]), (.agg #[.int .i64 k, .int .i64 n, .int .i64 c])] W fun e w' => e = .returned (.bool true) ∧ Below W.heap.size W w' := by
  have q1 : ∀ w : World, (Op.equalIn 10000 24 (.agg #[.int .u64 0, .int .i64 0, .int .u64 0]) (.agg #[.int .u64 0, .int .i64 0, .int .u64 0])).run Try.prog w = .ok true w := fun w => eq_ut_self Ud.none w
  go_enter Try.func7, Try.ntmps7
  go_wp2_with fail
  refine (PA.out _).mono ?_
  rintro e w1 ⟨va, rfl, hs', hb⟩
  have XX' : Ub w1 (W.heap.size) ⟨x.b, x.n, 0⟩ := Ub.keep hb (by repeat (first | fail | exact Ub.new _ ⟨x.b, x.n, 0⟩ | exact Ub.new_at (x := ⟨x.b, x.n, 0⟩) (by simp) | apply Ub.alloc | refine Ub.drew ?_ _))
  have XX := Lib.hid XX'
  clear XX'
  have WB' : Wb w1 ((W.heap.size + 1)) (k, n, c) := Wb.keep hb (by repeat (first | fail | exact Wb.new _ (k, n, c) | exact Wb.new_at (q := (k, n, c)) (by simp) | apply Wb.alloc | refine Wb.drew ?_ _))
  have WB := Lib.hid WB'
  clear WB'
  have SA := Lib.hid hs'
  clear hs'
  have HB1 : Hid (Below W.heap.size W w1) := Lib.hid (below_then (by repeat (first | exact (Below.refl _ _) | apply below_new | refine below_draws ?_ _)) hb)
  clear hb
  obtain ⟨w0, hw0⟩ : ∃ w0, w0 = w1.alloc (.cells #[.int .u64 0, .int .i64 0, .int .u64 0] 24) := ⟨_, rfl⟩
  have KK : Hid (w0.cell? ⟨W.heap.size + 1, 0, Option.none⟩ = some (.int .i64 k) ∧ w0.cell? ⟨W.heap.size + 1, 1, Option.none⟩ = some (.int .i64 n) ∧ w0.cell? ⟨W.heap.size + 1, 2, Option.none⟩ = some (.int .i64 c) ∧ w0.cell? ⟨w1.heap.size, 0, Option.none⟩ = some (.int .u64 0) ∧ w0.cell? ⟨w1.heap.size, 1, Option.none⟩ = some (.int .i64 0) ∧ w0.cell? ⟨w1.heap.size, 2, Option.none⟩ = some (.int .u64 0)) := Lib.hid (by
    subst hw0
    have hx := WB.out
    have hy := Ub.new w1 Ud.none
    exact ⟨cell_new hx.2.1, cell_new hx.2.2.1, cell_new hx.2.2.2, hy.2.1, hy.2.2.1, hy.2.2.2.1⟩)
  have HZ0 : Hid (w0.heap.size = w1.heap.size + 1) := Lib.hid (by
    subst hw0
    simp)
  have KZ : Hid (W.heap.size + 1 < w0.heap.size ∧ w1.heap.size < w0.heap.size) := Lib.hid (by
    have h1 := WB.out.1
    have h2 := HZ0.out
    exact ⟨by omega, by omega⟩)
  have K0 : Hid (∀ kk, Below w0.heap.size w0 ((w1.alloc (.cells #[.int .u64 0, .int .i64 0, .int .u64 0] 24)).drewN kk)) := Lib.hid (fun kk => by
    subst hw0
    exact ⟨rfl, rfl, rfl, Nat.le_refl _, fun _ _ => rfl⟩)
  have K1 : Hid (Below w0.heap.size w0 (w1.alloc (.cells #[.int .u64 0, .int .i64 0, .int .u64 0] 24))) := Lib.hid (by
    subst hw0
    exact Below.refl _ _)
  have HW0 := Lib.hid hw0
  clear hw0
  go_wp2_with fail
  go_region_held3 (fun w' => Below w0.heap.size w0 w' ∧ w'.cell? ⟨W.heap.size + 1, 0, Option.none⟩ = some (.int .i64 k) ∧ w'.cell? ⟨W.heap.size + 1, 1, Option.none⟩ = some (.int .i64 n) ∧ w'.cell? ⟨W.heap.size + 1, 2, Option.none⟩ = some (.int .i64 c) ∧ w'.cell? ⟨w1.heap.size, 0, Option.none⟩ = some (.int .u64 0) ∧ w'.cell? ⟨w1.heap.size, 1, Option.none⟩ = some (.int .i64 0) ∧ w'.cell? ⟨w1.heap.size, 2, Option.none⟩ = some (.int .u64 0)) ((refine keepR_of (y := Ud.none) KK.out KZ.out ?_; repeat (first | exact K1.out | exact K0.out _ | exact keepR_l (by assumption) | apply below_new | refine Below.drew ?_ | refine below_put ?_ _ _ (by have h1 := HZ0.out; have h2 := HS2.out; simp; omega) | refine below_put ?_ _ _ (by have h1 := HZ0.out; simp; omega) | refine below_from ?_ hb3 | refine below_from ?_ hb2))) (first | (go_at_call 18; refine (RT.out _).mono ?_; rintro e w2 ⟨rfl, hb2⟩; have HS2 : Hid (w0.heap.size ≤ w2.heap.size) := Lib.hid (by have h1 := HZ0.out; have h2 := hb2.size; simp at h2; omega); first | (have hz : w1.heap.size + 1 < w2.heap.size := (by have := hb2.size; simp at this; omega); have r0 : w2.cell? ⟨w1.heap.size + 1, 0, Option.none⟩ = some (.int .u64 0) := ((hb2.cell (p := ⟨w1.heap.size + 1, 0, Option.none⟩) (by simp)).trans (by simp [go_sem])); have s0 : w2.frozen? ⟨w1.heap.size + 1, 0, Option.none⟩ = false := ((hb2.frozen (p := ⟨w1.heap.size + 1, 0, Option.none⟩) (by simp)).trans (by simp [go_sem])); have r1 : w2.cell? ⟨w1.heap.size + 1, 1, Option.none⟩ = some (.int .i64 0) := ((hb2.cell (p := ⟨w1.heap.size + 1, 1, Option.none⟩) (by simp)).trans (by simp [go_sem])); have s1 : w2.frozen? ⟨w1.heap.size + 1, 1, Option.none⟩ = false := ((hb2.frozen (p := ⟨w1.heap.size + 1, 1, Option.none⟩) (by simp)).trans (by simp [go_sem])); have r2 : w2.cell? ⟨w1.heap.size + 1, 2, Option.none⟩ = some (.int .u64 0) := ((hb2.cell (p := ⟨w1.heap.size + 1, 2, Option.none⟩) (by simp)).trans (by simp [go_sem])); have s2 : w2.frozen? ⟨w1.heap.size + 1, 2, Option.none⟩ = false := ((hb2.frozen (p := ⟨w1.heap.size + 1, 2, Option.none⟩) (by simp)).trans (by simp [go_sem])); have FX := Lib.hid (And.intro hz (And.intro r0 (And.intro r1 (And.intro r2 (And.intro s0 (And.intro s1 s2)))))); clear hz r0 r1 r2 s0 s1 s2) | skip) | (go_at_call 10; refine (PB.out _).mono ?_; rintro e w3 ⟨vb, rfl, hs2, hb3⟩; first | (have hz : w1.heap.size + 1 < w3.heap.size := Nat.lt_of_lt_of_le FX.out.1 hb3.size; have r0 := (hb3.cell (p := ⟨w1.heap.size + 1, 0, Option.none⟩) FX.out.1).trans FX.out.2.1; have s0 := (hb3.frozen (p := ⟨w1.heap.size + 1, 0, Option.none⟩) FX.out.1).trans FX.out.2.2.2.2.1; have r1 := (hb3.cell (p := ⟨w1.heap.size + 1, 1, Option.none⟩) FX.out.1).trans FX.out.2.2.1; have s1 := (hb3.frozen (p := ⟨w1.heap.size + 1, 1, Option.none⟩) FX.out.1).trans FX.out.2.2.2.2.2.1; have r2 := (hb3.cell (p := ⟨w1.heap.size + 1, 2, Option.none⟩) FX.out.1).trans FX.out.2.2.2.1; have s2 := (hb3.frozen (p := ⟨w1.heap.size + 1, 2, Option.none⟩) FX.out.1).trans FX.out.2.2.2.2.2.2) | (have hz : w2.heap.size < w3.heap.size := (by have := hb3.size; simp at this; omega); have r0 : w3.cell? ⟨w2.heap.size, 0, Option.none⟩ = some (.int .u64 0) := ((hb3.cell (p := ⟨w2.heap.size, 0, Option.none⟩) (by simp)).trans (by simp [go_sem])); have s0 : w3.frozen? ⟨w2.heap.size, 0, Option.none⟩ = false := ((hb3.frozen (p := ⟨w2.heap.size, 0, Option.none⟩) (by simp)).trans (by simp [go_sem])); have r1 : w3.cell? ⟨w2.heap.size, 1, Option.none⟩ = some (.int .i64 0) := ((hb3.cell (p := ⟨w2.heap.size, 1, Option.none⟩) (by simp)).trans (by simp [go_sem])); have s1 : w3.frozen? ⟨w2.heap.size, 1, Option.none⟩ = false := ((hb3.frozen (p := ⟨w2.heap.size, 1, Option.none⟩) (by simp)).trans (by simp [go_sem])); have r2 : w3.cell? ⟨w2.heap.size, 2, Option.none⟩ = some (.int .u64 0) := ((hb3.cell (p := ⟨w2.heap.size, 2, Option.none⟩) (by simp)).trans (by simp [go_sem])); have s2 : w3.frozen? ⟨w2.heap.size, 2, Option.none⟩ = false := ((hb3.frozen (p := ⟨w2.heap.size, 2, Option.none⟩) (by simp)).trans (by simp [go_sem]))) | skip))
  all_goals (
    rename_i hH
    have BH := hH.1
    clear hH)
  all_goals (first
    | (refine gen_world (fun w' => Ub w' w3.heap.size y2 ∧ SlIs w' vb l2 ∧ Below w0.heap.size w0 w') ⟨Ub.new w3 y2, hs2.is.alloc, BH⟩ ?_
       clear BH
       rintro w4 ⟨hA, hV, hB⟩
       generalize w3.heap.size = p at hA ⊢)
    | (refine gen_world (fun w' => Ub w' w2.heap.size y2 ∧ SlIs w' vb l2 ∧ Below w0.heap.size w0 w') ⟨Ub.stored (x := y2) hz r0 r1 r2 s0 s1 s2, SlOn.is (SlOn.put (SlOn.put (SlOn.put hs2 _ _ (by simp)) _ _ (by simp)) _ _ (by simp)), BH⟩ ?_
       clear BH hz r0 r1 r2 s0 s1 s2
       rintro w4 ⟨hA, hV, hB⟩
       generalize w2.heap.size = p at hA ⊢)
    | (refine gen_world (fun w' => Ub w' (w1.heap.size + 1) y2 ∧ SlIs w' vb l2 ∧ Below w0.heap.size w0 w') ⟨Ub.stored (x := y2) hz r0 r1 r2 s0 s1 s2, SlOn.is (SlOn.put (SlOn.put (SlOn.put hs2 _ _ FX.out.1) _ _ FX.out.1) _ _ FX.out.1), BH⟩ ?_
       clear BH hz r0 r1 r2 s0 s1 s2
       rintro w4 ⟨hA, hV, hB⟩
       generalize w1.heap.size + 1 = p at hA ⊢))
  all_goals (
    have ZZ := Lib.hid hA
    have SB := Lib.hid hV
    have YY : Hid (Ub w4 w1.heap.size Ud.none) := Lib.hid (by
      have h1 : Ub w0 w1.heap.size Ud.none := by
        rw [HW0.out]
        exact Ub.new w1 Ud.none
      exact Ub.keep hB h1)
    have HB4 : Hid (Below W.heap.size W w4) := Lib.hid (by
      have h0 := HW0.out
      subst h0
      exact below_then (below_new HB1.out _) hB)
    have SA4 : Hid (SlIs w4 va []) := Lib.hid (by
      have h0 := HW0.out
      subst h0
      exact SlIs.keep (SA.out.alloc) hB)
    clear hA hV hB SA XX WB KK K0 K1 KZ PA RT PB HB1 HS2 hs2 hb2 hb3)
  all_goals (
    obtain ⟨ao, cap, rfl⟩ : ∃ ao cap, va = .slice ao 0 cap := by
      rcases SA4.out with ⟨h, _⟩ | ⟨g, cap, h, _⟩
      · exact ⟨_, _, h⟩
      · exact ⟨_, _, h⟩
    clear SA4
    go_wp2_with fail
    refine (fixed_true _).mono ?_
    rintro e w5 ⟨rfl, hb⟩
    have HB5 : Hid (Below W.heap.size W w5) := Lib.hid (below_then (by repeat (first | exact HB4.out | apply below_new | refine below_draws ?_ _)) hb)
    clear hb HB4
    go_wp2_with fail
    go_ret
    exact ⟨rfl, (by repeat (first | exact HB5.out | apply below_new | refine below_draws ?_ _))⟩)

set_option maxRecDepth 100000 in
set_option maxHeartbeats 6400000 in
theorem untypedResets_ok (x y : Ut) (l : List Nat) (N : Nat) (k n c : Int) (hN : l.length = N) (h1 : 1 ≤ N) (h64 : N ≤ 64) (PA : Hid (∀ w : World, Calls Try.prog 10 #[(.agg #[.int .u64 x.b, .int .i64 x.n, .int .u64 0]), .int .i64 k, .int .i64 n, .int .i64 c] w fun e w' => ∃ v, e = .returned (.tuple #[v, (.agg #[.int .u64 y.b, .int .i64 y.n, .int .u64 y.u]), .int .i64 0]) ∧ SlIs w' v l ∧ Below w.heap.size w w')) (RT : Hid (∀ w : World, Calls Try.prog 18 #[(.agg #[.int .u64 y.b, .int .i64 y.n, .int .u64 y.u])] w fun e w' => e = .returned (.agg #[.int .u64 y.b, .int .i64 y.n, .int .u64 0]) ∧ Below w.heap.size w w')) (PB : Hid (∀ w : World, Calls Try.prog 10 #[(.agg #[.int .u64 y.b, .int .i64 y.n, .int .u64 0]), .int .i64 k, .int .i64 n, .int .i64 c] w fun e w' => ∃ v, e = .returned (.tuple #[v, (.agg #[.int .u64 y.b, .int .i64 y.n, .int .u64 y.u]), .int .i64 0]) ∧ SlOn w.heap.size w' v l ∧ Below w.heap.size w w')) (W : World) :
    Calls Try.prog 7 #[(.agg #[.int .u64 x.b, .int .i64 x.n, .int .u64 x.u]), (.agg #[.int .i64 k, .int .i64 n, .int .i64 c])] W fun e w' => e = .returned (.bool true) ∧ Below W.heap.size W w' := by
  have q1 : ∀ w : World, (Op.equalIn 10000 24 (.agg #[.int .u64 y.b, .int .i64 y.n, .int .u64 y.u]) (.agg #[.int .u64 y.b, .int .i64 y.n, .int .u64 y.u])).run Try.prog w = .ok true w := fun w => eq_ut_self y w
  go_enter Try.func7, Try.ntmps7
  go_wp2_with fail
  refine (PA.out _).mono ?_
  rintro e w1 ⟨va, rfl, hs', hb⟩
  have XX' : Ub w1 (W.heap.size) ⟨x.b, x.n, 0⟩ := Ub.keep hb (by repeat (first | fail | exact Ub.new _ ⟨x.b, x.n, 0⟩ | exact Ub.new_at (x := ⟨x.b, x.n, 0⟩) (by simp) | apply Ub.alloc | refine Ub.drew ?_ _))
  have XX := Lib.hid XX'
  clear XX'
  have WB' : Wb w1 ((W.heap.size + 1)) (k, n, c) := Wb.keep hb (by repeat (first | fail | exact Wb.new _ (k, n, c) | exact Wb.new_at (q := (k, n, c)) (by simp) | apply Wb.alloc | refine Wb.drew ?_ _))
  have WB := Lib.hid WB'
  clear WB'
  have SA := Lib.hid hs'
  clear hs'
  have HB1 : Hid (Below W.heap.size W w1) := Lib.hid (below_then (by repeat (first | exact (Below.refl _ _) | apply below_new | refine below_draws ?_ _)) hb)
  clear hb
  obtain ⟨w0, hw0⟩ : ∃ w0, w0 = w1.alloc (.cells #[.int .u64 y.b, .int .i64 y.n, .int .u64 y.u] 24) := ⟨_, rfl⟩
  have KK : Hid (w0.cell? ⟨W.heap.size + 1, 0, Option.none⟩ = some (.int .i64 k) ∧ w0.cell? ⟨W.heap.size + 1, 1, Option.none⟩ = some (.int .i64 n) ∧ w0.cell? ⟨W.heap.size + 1, 2, Option.none⟩ = some (.int .i64 c) ∧ w0.cell? ⟨w1.heap.size, 0, Option.none⟩ = some (.int .u64 y.b) ∧ w0.cell? ⟨w1.heap.size, 1, Option.none⟩ = some (.int .i64 y.n) ∧ w0.cell? ⟨w1.heap.size, 2, Option.none⟩ = some (.int .u64 y.u)) := Lib.hid (by
    subst hw0
    have hx := WB.out
    have hy := Ub.new w1 y
    exact ⟨cell_new hx.2.1, cell_new hx.2.2.1, cell_new hx.2.2.2, hy.2.1, hy.2.2.1, hy.2.2.2.1⟩)
  have HZ0 : Hid (w0.heap.size = w1.heap.size + 1) := Lib.hid (by
    subst hw0
    simp)
  have KZ : Hid (W.heap.size + 1 < w0.heap.size ∧ w1.heap.size < w0.heap.size) := Lib.hid (by
    have h1 := WB.out.1
    have h2 := HZ0.out
    exact ⟨by omega, by omega⟩)
  have K0 : Hid (∀ kk, Below w0.heap.size w0 ((w1.alloc (.cells #[.int .u64 y.b, .int .i64 y.n, .int .u64 y.u] 24)).drewN kk)) := Lib.hid (fun kk => by
    subst hw0
    exact ⟨rfl, rfl, rfl, Nat.le_refl _, fun _ _ => rfl⟩)
  have K1 : Hid (Below w0.heap.size w0 (w1.alloc (.cells #[.int .u64 y.b, .int .i64 y.n, .int .u64 y.u] 24))) := Lib.hid (by
    subst hw0
    exact Below.refl _ _)
  have HW0 := Lib.hid hw0
  clear hw0
  go_wp2_with fail
  go_region_held3 (fun w' => Below w0.heap.size w0 w' ∧ w'.cell? ⟨W.heap.size + 1, 0, Option.none⟩ = some (.int .i64 k) ∧ w'.cell? ⟨W.heap.size + 1, 1, Option.none⟩ = some (.int .i64 n) ∧ w'.cell? ⟨W.heap.size + 1, 2, Option.none⟩ = some (.int .i64 c) ∧ w'.cell? ⟨w1.heap.size, 0, Option.none⟩ = some (.int .u64 y.b) ∧ w'.cell? ⟨w1.heap.size, 1, Option.none⟩ = some (.int .i64 y.n) ∧ w'.cell? ⟨w1.heap.size, 2, Option.none⟩ = some (.int .u64 y.u)) ((refine keepR_of KK.out KZ.out ?_; repeat (first | exact K1.out | exact K0.out _ | exact keepR_l (by assumption) | apply below_new | refine Below.drew ?_ | refine below_put ?_ _ _ (by have h1 := HZ0.out; have h2 := HS2.out; simp; omega) | refine below_put ?_ _ _ (by have h1 := HZ0.out; simp; omega) | refine below_from ?_ hb3 | refine below_from ?_ hb2))) (first | (go_at_call 18; refine (RT.out _).mono ?_; rintro e w2 ⟨rfl, hb2⟩; have HS2 : Hid (w0.heap.size ≤ w2.heap.size) := Lib.hid (by have h1 := HZ0.out; have h2 := hb2.size; simp at h2; omega); first | (have hz : w1.heap.size + 1 < w2.heap.size := (by have := hb2.size; simp at this; omega); have r0 : w2.cell? ⟨w1.heap.size + 1, 0, Option.none⟩ = some (.int .u64 0) := ((hb2.cell (p := ⟨w1.heap.size + 1, 0, Option.none⟩) (by simp)).trans (by simp [go_sem])); have s0 : w2.frozen? ⟨w1.heap.size + 1, 0, Option.none⟩ = false := ((hb2.frozen (p := ⟨w1.heap.size + 1, 0, Option.none⟩) (by simp)).trans (by simp [go_sem])); have r1 : w2.cell? ⟨w1.heap.size + 1, 1, Option.none⟩ = some (.int .i64 0) := ((hb2.cell (p := ⟨w1.heap.size + 1, 1, Option.none⟩) (by simp)).trans (by simp [go_sem])); have s1 : w2.frozen? ⟨w1.heap.size + 1, 1, Option.none⟩ = false := ((hb2.frozen (p := ⟨w1.heap.size + 1, 1, Option.none⟩) (by simp)).trans (by simp [go_sem])); have r2 : w2.cell? ⟨w1.heap.size + 1, 2, Option.none⟩ = some (.int .u64 0) := ((hb2.cell (p := ⟨w1.heap.size + 1, 2, Option.none⟩) (by simp)).trans (by simp [go_sem])); have s2 : w2.frozen? ⟨w1.heap.size + 1, 2, Option.none⟩ = false := ((hb2.frozen (p := ⟨w1.heap.size + 1, 2, Option.none⟩) (by simp)).trans (by simp [go_sem])); have FX := Lib.hid (And.intro hz (And.intro r0 (And.intro r1 (And.intro r2 (And.intro s0 (And.intro s1 s2)))))); clear hz r0 r1 r2 s0 s1 s2) | skip) | (go_at_call 10; refine (PB.out _).mono ?_; rintro e w3 ⟨vb, rfl, hs2, hb3⟩; first | (have hz : w1.heap.size + 1 < w3.heap.size := Nat.lt_of_lt_of_le FX.out.1 hb3.size; have r0 := (hb3.cell (p := ⟨w1.heap.size + 1, 0, Option.none⟩) FX.out.1).trans FX.out.2.1; have s0 := (hb3.frozen (p := ⟨w1.heap.size + 1, 0, Option.none⟩) FX.out.1).trans FX.out.2.2.2.2.1; have r1 := (hb3.cell (p := ⟨w1.heap.size + 1, 1, Option.none⟩) FX.out.1).trans FX.out.2.2.1; have s1 := (hb3.frozen (p := ⟨w1.heap.size + 1, 1, Option.none⟩) FX.out.1).trans FX.out.2.2.2.2.2.1; have r2 := (hb3.cell (p := ⟨w1.heap.size + 1, 2, Option.none⟩) FX.out.1).trans FX.out.2.2.2.1; have s2 := (hb3.frozen (p := ⟨w1.heap.size + 1, 2, Option.none⟩) FX.out.1).trans FX.out.2.2.2.2.2.2) | (have hz : w2.heap.size < w3.heap.size := (by have := hb3.size; simp at this; omega); have r0 : w3.cell? ⟨w2.heap.size, 0, Option.none⟩ = some (.int .u64 0) := ((hb3.cell (p := ⟨w2.heap.size, 0, Option.none⟩) (by simp)).trans (by simp [go_sem])); have s0 : w3.frozen? ⟨w2.heap.size, 0, Option.none⟩ = false := ((hb3.frozen (p := ⟨w2.heap.size, 0, Option.none⟩) (by simp)).trans (by simp [go_sem])); have r1 : w3.cell? ⟨w2.heap.size, 1, Option.none⟩ = some (.int .i64 0) := ((hb3.cell (p := ⟨w2.heap.size, 1, Option.none⟩) (by simp)).trans (by simp [go_sem])); have s1 : w3.frozen? ⟨w2.heap.size, 1, Option.none⟩ = false := ((hb3.frozen (p := ⟨w2.heap.size, 1, Option.none⟩) (by simp)).trans (by simp [go_sem])); have r2 : w3.cell? ⟨w2.heap.size, 2, Option.none⟩ = some (.int .u64 0) := ((hb3.cell (p := ⟨w2.heap.size, 2, Option.none⟩) (by simp)).trans (by simp [go_sem])); have s2 : w3.frozen? ⟨w2.heap.size, 2, Option.none⟩ = false := ((hb3.frozen (p := ⟨w2.heap.size, 2, Option.none⟩) (by simp)).trans (by simp [go_sem]))) | skip))
  all_goals (
    rename_i hH
    have BH := hH.1
    clear hH)
  all_goals (first
    | (refine gen_world (fun w' => Ub w' w3.heap.size y ∧ SlIs w' vb l ∧ Below w0.heap.size w0 w') ⟨Ub.new w3 y, hs2.is.alloc, BH⟩ ?_
       clear BH
       rintro w4 ⟨hA, hV, hB⟩
       generalize w3.heap.size = p at hA ⊢)
    | (refine gen_world (fun w' => Ub w' w2.heap.size y ∧ SlIs w' vb l ∧ Below w0.heap.size w0 w') ⟨Ub.stored (x := y) hz r0 r1 r2 s0 s1 s2, SlOn.is (SlOn.put (SlOn.put (SlOn.put hs2 _ _ (by simp)) _ _ (by simp)) _ _ (by simp)), BH⟩ ?_
       clear BH hz r0 r1 r2 s0 s1 s2
       rintro w4 ⟨hA, hV, hB⟩
       generalize w2.heap.size = p at hA ⊢)
    | (refine gen_world (fun w' => Ub w' (w1.heap.size + 1) y ∧ SlIs w' vb l ∧ Below w0.heap.size w0 w') ⟨Ub.stored (x := y) hz r0 r1 r2 s0 s1 s2, SlOn.is (SlOn.put (SlOn.put (SlOn.put hs2 _ _ FX.out.1) _ _ FX.out.1) _ _ FX.out.1), BH⟩ ?_
       clear BH hz r0 r1 r2 s0 s1 s2
       rintro w4 ⟨hA, hV, hB⟩
       generalize w1.heap.size + 1 = p at hA ⊢))
  all_goals (
    have ZZ := Lib.hid hA
    have SB := Lib.hid hV
    have YY : Hid (Ub w4 w1.heap.size y) := Lib.hid (by
      have h1 : Ub w0 w1.heap.size y := by
        rw [HW0.out]
        exact Ub.new w1 y
      exact Ub.keep hB h1)
    have HB4 : Hid (Below W.heap.size W w4) := Lib.hid (by
      have h0 := HW0.out
      subst h0
      exact below_then (below_new HB1.out _) hB)
    have SA4 : Hid (SlIs w4 va l) := Lib.hid (by
      have h0 := HW0.out
      subst h0
      exact SlIs.keep (SA.out.alloc) hB)
    clear hA hV hB SA XX WB KK K0 K1 KZ PA RT PB HB1 HS2 hs2 hb2 hb3)
  all_goals (
    obtain ⟨ga, ca, rfl, hag, ha⟩ : ∃ g cap, va = .slice (some ⟨g, 0, Option.none⟩) N cap ∧ g < w4.heap.size ∧ ∀ j, j < N → w4.cell? ⟨g, j, Option.none⟩ = some (.int .u64 ((l.getD j 0 : Nat) : Int)) := by
      rcases SA4.out with ⟨_, h⟩ | ⟨g, cap, h1', h2, h3⟩
      · subst h
        simp at hN
        omega
      · rw [hN] at h1' h3
        exact ⟨g, cap, h1', h2, h3⟩
    have Hha := Lib.hid ha
    clear ha SA4
    obtain ⟨gb, cb, rfl, hcg, hc⟩ : ∃ g cap, vb = .slice (some ⟨g, 0, Option.none⟩) N cap ∧ g < w4.heap.size ∧ ∀ j, j < N → w4.cell? ⟨g, j, Option.none⟩ = some (.int .u64 ((l.getD j 0 : Nat) : Int)) := by
      rcases SB.out with ⟨_, h⟩ | ⟨g, cap, h1', h2, h3⟩
      · subst h
        simp at hN
        omega
      · rw [hN] at h1' h3
        exact ⟨g, cap, h1', h2, h3⟩
    have Hhc := Lib.hid hc
    clear hc SB
    obtain ⟨zYY, c0YY, c1YY, c2YY, f0YY, f1YY, f2YY⟩ := YY.out
    obtain ⟨zZZ, c0ZZ, c1ZZ, c2ZZ, f0ZZ, f1ZZ, f2ZZ⟩ := ZZ.out
    have hN0 : (0 : Int) < (N : Int) := by omega
    go_wp2_with fail
    clear zYY c0YY c1YY c2YY f0YY f1YY f2YY
    clear zZZ c0ZZ c1ZZ c2ZZ f0ZZ f1ZZ f2ZZ
    go_loopw [11] (fun iv wr => ∃ j : Nat, j ≤ N ∧ iv = .int .i64 j ∧ Below w4.heap.size w4 wr) (fun iv _ => N - (intOf iv).toNat)
    case atStart => exact ⟨0, Nat.zero_le _, by go_num, Below.refl _ _⟩
    case round =>
      obtain ⟨j, hj, rfl, hnx⟩ := hrel
      have HN := Lib.hid hnx
      by_cases hlt : j < N
      · have hlt' : (j : Int) < (N : Int) := by omega
        have hj0' : (0 : Int) ≤ (j : Int) := by omega
        obtain ⟨q, hq⟩ : ∃ q : Nat, q = l.getD j 0 := ⟨_, rfl⟩
        have ca : wr.cell? ⟨ga, j, Option.none⟩ = some (.int .u64 (q : Int)) := (hnx.cell (p := ⟨ga, j, Option.none⟩) hag).trans (by rw [hq]; exact Hha.out j hlt)
        have cb : wr.cell? ⟨gb, j, Option.none⟩ = some (.int .u64 (q : Int)) := (hnx.cell (p := ⟨gb, j, Option.none⟩) hcg).trans (by rw [hq]; exact Hhc.out j hlt)
        clear hq hnx
        go_wp2_with fail
        go_quiet (fail)
        go_wp2_with fail
        go_roundw
        case rel => exact ⟨j + 1, by omega, by go_num, below_draws HN.out _⟩
        case measure => simp [intOf]; omega
      · have hje : j = N := by omega
        subst hje
        have hnl : ¬ (j : Int) < (j : Int) := by omega
        clear hnx
        go_wp2_with fail
        refine (fixed_true _).mono ?_
        rintro e w5 ⟨rfl, hb⟩
        go_wp2_with fail
        go_ret
        exact ⟨rfl, below_then (below_then HB4.out HN.out) hb⟩)

theorem untypedResets_walk (x : Ut) (hb : Word x.b) (hu : Word x.u) (k n c : Int) (W : World) :
    Calls Try.prog 7 #[(.agg #[.int .u64 x.b, .int .i64 x.n, .int .u64 x.u]), (.agg #[.int .i64 k, .int .i64 n, .int .i64 c])] W fun e w' => e = .returned (.bool true) ∧ Below W.heap.size W w' := by
  have W0 : Word 0 := ⟨by decide⟩
  obtain ⟨⟨l, y, i⟩, hp⟩ : ∃ q, placeU ⟨x.b, x.n, 0⟩ k n c = q := ⟨_, rfl⟩
  have PB' : ∀ (r : Ut) (hr : Word r.b) (hv : Word r.u) (l2 : List Nat) (y2 : Ut) (i2 : Int) (h : placeU r k n c = (l2, y2, i2)) (w : World), Calls Try.prog 10 #[(.agg #[.int .u64 r.b, .int .i64 r.n, .int .u64 r.u]), .int .i64 k, .int .i64 n, .int .i64 c] w fun e w' => ∃ v, e = .returned (.tuple #[v, (.agg #[.int .u64 y2.b, .int .i64 y2.n, .int .u64 y2.u]), .int .i64 i2]) ∧ SlOn w.heap.size w' v l2 ∧ Below w.heap.size w w' := by
    intro r hr hv l2 y2 i2 h w
    refine (place_any r hr hv k n c w).mono ?_
    rw [h]
    rintro e w' ⟨v, h1, h2, h3⟩
    exact ⟨v, h1, slOn_own h2, h3⟩
  by_cases hi : i = 0
  · subst hi
    obtain ⟨m, s, i, p, h1, h2, h3, h4, h5, h6, h7, h8, h9, h10, h11, h12, h13⟩ := place_ok hp
    have h13' : y = ⟨x.b, x.n, p + i * pw s - x.b⟩ := h13
    have hyr : (⟨y.b, y.n, 0⟩ : Ut) = ⟨x.b, x.n, 0⟩ := by rw [h13']
    have hl : l.length = i := by rw [h12, lst_len]
    exact untypedResets_ok x y l i k n c hl h8 h9 (Lib.hid (place_as ⟨x.b, x.n, 0⟩ hb W0 k n c l y 0 hp)) (Lib.hid (fun w => reset_any y w)) (Lib.hid (fun w => PB' ⟨y.b, y.n, 0⟩ (by rw [hyr]; exact hb) W0 l y 0 (by rw [hyr]; exact hp) w)) W
  · obtain ⟨rfl, rfl, _⟩ := place_err hp hi
    obtain ⟨⟨l2, y2, i2⟩, hp2⟩ : ∃ q, placeU Ud.none k n c = q := ⟨_, rfl⟩
    exact untypedResets_err x y2 l2 k n c i i2 (by simpa using hi) (Lib.hid (place_as ⟨x.b, x.n, 0⟩ hb W0 k n c [] Ud.none i hp)) (Lib.hid (fun w => reset_any Ud.none w)) (Lib.hid (fun w => PB' Ud.none ⟨by decide⟩ ⟨by decide⟩ l2 y2 i2 hp2 w)) W


set_option maxRecDepth 100000 in
theorem untypedResets_lifted (os : Os) (started : os.Started) (H : Type) (enc : TypeId × Value → H) :
    ReturnsInHanded {} Try.checked os 7 .any (Rows.untypedResetsSpec.pre6 enc Try.prog Try.f7 Rows.untypedResetsRow.domain false) (Rows.untypedResetsSpec.post enc Try.prog Try.f7 false true false false) := by
  refine returnsInHanded_of_change (C := Try.checked) own_knob started (by kernel_rfl) Try.func7
    (ChangeSpec.witness6 (enc := enc) (C := Try.checked) false ⟨#[], #[.agg #[.int .u64 0, .int .i64 0, .int .u64 0], .agg #[.int .i64 0, .int .i64 0, .int .i64 0]], []⟩ 8 (by kernel_rfl) (by kernel_rfl) (by kernel_rfl) (by kernel_rfl)) ?_
  intro W base args ds gs before hval0 hW hcnd _
  have hval : ∀ (j : Nat) t v, Try.f7.params[j]? = some t → args[j]? = some v → Value.okWide Try.prog W .any base t v := hval0
  have hW' := hW
  obtain ⟨p, q, hA0, hV, rfl, hfz, hnd⟩ := hW
  have hA : DataW.TrodAll enc Try.prog W 0 (fun _ => true) true Try.f7.params.toList args.toList ds p := hA0
  rw [Try.params7] at hA hval
  obtain ⟨v0, v1, d0, d1, p0, p1, rfl, rfl, rfl, h0, h1⟩ := trodAll_two hA
  obtain ⟨rfl, rfl⟩ := trodVars_none hV
  clear hA0 hval0
  simp only [List.append_nil] at hW'
  have hlt : ∀ x ∈ p0 ++ p1, x.block < W.heap.size := fun x hx => by simpa using hW'.lt x hx
  have g0 : ∀ W' : World, Below W.heap.size W W' → DataW.Trod enc Try.prog W' 0 (fun b => decide (b < W.heap.size)) true 24 v0 d0 p0 :=
    fun W' hn => Below.trod laid_out (by kernel_rfl) (of_decide_eq_true (by kernel_rfl)) h0 hn (fun x hx => hlt x (by simp [hx]))
  have g1 : ∀ W' : World, Below W.heap.size W W' → DataW.Trod enc Try.prog W' 0 (fun b => decide (b < W.heap.size)) true 26 v1 d1 p1 :=
    fun W' hn => Below.trod laid_out (by kernel_rfl) (of_decide_eq_true (by kernel_rfl)) h1 hn (fun x hx => hlt x (by simp [hx]))
  obtain ⟨x, rfl, l0b, l0u⟩ := open_unt (hval 0 24 v0 rfl rfl) h0
  obtain ⟨k, n, c, rfl, l1k, l1n, l1c⟩ := open_what (hval 1 26 v1 rfl rfl) h1
  refine (untypedResets_walk x l0b l0u k n c W).mono fun e W' ⟨he, hn⟩ => ?_
  subst he
  exact ⟨_, rfl, _, _, _, [], p0 ++ p1, [], hW', trodAll_mk1 (shut_bool Try.underlying4 true), (trodAll_mk2 (g0 W' hn) (g1 W' hn)), rfl, hn.frame _, fun h => by cases h⟩

theorem untypedResets_holds : Rows.UntypedResetsSaid :=
  OpenClaim.holds_of_wide 7 Try.f7 rfl rfl rfl rfl rfl rfl rfl ⟨rfl, rfl, rfl, rfl, rfl⟩ rfl rfl rfl rfl rfl (by kernel_rfl) Try.func7 (by kernel_rfl)
    (of_decide_eq_true (by kernel_rfl)) (by unfold Func.isWrapper; first | (rw [if_pos (by decide +kernel)]; kernel_rfl) | (rw [if_neg (by decide +kernel)]; exact ⟨rfl, rfl⟩))
    (fun os started H enc _ => untypedResets_lifted os started H enc)
#print axioms untypedResets_holds
end Go.Proofs.Ytbgcgbelejmjiaa
