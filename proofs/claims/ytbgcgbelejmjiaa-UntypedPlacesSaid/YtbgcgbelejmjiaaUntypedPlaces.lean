/- Whether any untyped memory may be, how large any object is, where any many go, and what is left, or why they do not, is as the document says: for every input, no condition. -/
import Derived.Test.YtbgcgbelejmjiaaUfixed
import Derived.Test.YtbgcgbelejmjiaaUframe
import Derived.Test.YtbgcgbelejmjiaaUlaw
import Derived.Deep.RegionHeld3
set_option linter.unusedVariables false
set_option linter.unusedSimpArgs false
namespace Go.Proofs.Ytbgcgbelejmjiaa
open Go.ChangeShapes Go.WideShapes Go.ChangeAt Go.RowKit Go.Joins Wd Ud

theorem keepP_start {W w4 : World} {g0 g1 g2 : Nat} {x y : Ut} {v1 v2 : Value} {l : List Nat} (h0 : Below W.heap.size W w4) (hx : Ub w4 g0 x) (hy : Ub w4 g1 y) (hr : Ub w4 g2 y) (sa : SlIs w4 v1 l) (sb : SlIs w4 v2 l) : Below W.heap.size W (w4.alloc (.cells #[.int .u64 x.b, .int .i64 x.n, .int .u64 0] 24)) ∧ SlIs (w4.alloc (.cells #[.int .u64 x.b, .int .i64 x.n, .int .u64 0] 24)) v1 l ∧ SlIs (w4.alloc (.cells #[.int .u64 x.b, .int .i64 x.n, .int .u64 0] 24)) v2 l ∧ (w4.alloc (.cells #[.int .u64 x.b, .int .i64 x.n, .int .u64 0] 24)).cell? ⟨g0, 0, Option.none⟩ = some (.int .u64 x.b) ∧ (w4.alloc (.cells #[.int .u64 x.b, .int .i64 x.n, .int .u64 0] 24)).cell? ⟨g0, 1, Option.none⟩ = some (.int .i64 x.n) ∧ (w4.alloc (.cells #[.int .u64 x.b, .int .i64 x.n, .int .u64 0] 24)).cell? ⟨g0, 2, Option.none⟩ = some (.int .u64 x.u) ∧ (w4.alloc (.cells #[.int .u64 x.b, .int .i64 x.n, .int .u64 0] 24)).cell? ⟨g1, 0, Option.none⟩ = some (.int .u64 y.b) ∧ (w4.alloc (.cells #[.int .u64 x.b, .int .i64 x.n, .int .u64 0] 24)).cell? ⟨g1, 1, Option.none⟩ = some (.int .i64 y.n) ∧ (w4.alloc (.cells #[.int .u64 x.b, .int .i64 x.n, .int .u64 0] 24)).cell? ⟨g1, 2, Option.none⟩ = some (.int .u64 y.u) ∧ (w4.alloc (.cells #[.int .u64 x.b, .int .i64 x.n, .int .u64 0] 24)).cell? ⟨g2, 0, Option.none⟩ = some (.int .u64 y.b) ∧ (w4.alloc (.cells #[.int .u64 x.b, .int .i64 x.n, .int .u64 0] 24)).cell? ⟨g2, 1, Option.none⟩ = some (.int .i64 y.n) ∧ (w4.alloc (.cells #[.int .u64 x.b, .int .i64 x.n, .int .u64 0] 24)).cell? ⟨g2, 2, Option.none⟩ = some (.int .u64 y.u) ∧ (w4.alloc (.cells #[.int .u64 x.b, .int .i64 x.n, .int .u64 0] 24)).cell? ⟨w4.heap.size, 0, Option.none⟩ = some (.int .u64 x.b) ∧ (w4.alloc (.cells #[.int .u64 x.b, .int .i64 x.n, .int .u64 0] 24)).cell? ⟨w4.heap.size, 1, Option.none⟩ = some (.int .i64 x.n) ∧ (w4.alloc (.cells #[.int .u64 x.b, .int .i64 x.n, .int .u64 0] 24)).cell? ⟨w4.heap.size, 2, Option.none⟩ = some (.int .u64 0) :=
  ⟨below_new h0 _, sa.alloc, sb.alloc, cell_new hx.2.1, cell_new hx.2.2.1, cell_new hx.2.2.2.1, cell_new hy.2.1, cell_new hy.2.2.1, cell_new hy.2.2.2.1, cell_new hr.2.1, cell_new hr.2.2.1, cell_new hr.2.2.2.1, by simp [go_sem], by simp [go_sem], by simp [go_sem]⟩
theorem keepP_drew {W w' : World} {g0 g1 g2 g3 : Nat} {x y : Ut} {v1 v2 : Value} {l : List Nat} (h : Below W.heap.size W w' ∧ SlIs w' v1 l ∧ SlIs w' v2 l ∧ w'.cell? ⟨g0, 0, Option.none⟩ = some (.int .u64 x.b) ∧ w'.cell? ⟨g0, 1, Option.none⟩ = some (.int .i64 x.n) ∧ w'.cell? ⟨g0, 2, Option.none⟩ = some (.int .u64 x.u) ∧ w'.cell? ⟨g1, 0, Option.none⟩ = some (.int .u64 y.b) ∧ w'.cell? ⟨g1, 1, Option.none⟩ = some (.int .i64 y.n) ∧ w'.cell? ⟨g1, 2, Option.none⟩ = some (.int .u64 y.u) ∧ w'.cell? ⟨g2, 0, Option.none⟩ = some (.int .u64 y.b) ∧ w'.cell? ⟨g2, 1, Option.none⟩ = some (.int .i64 y.n) ∧ w'.cell? ⟨g2, 2, Option.none⟩ = some (.int .u64 y.u) ∧ w'.cell? ⟨g3, 0, Option.none⟩ = some (.int .u64 x.b) ∧ w'.cell? ⟨g3, 1, Option.none⟩ = some (.int .i64 x.n) ∧ w'.cell? ⟨g3, 2, Option.none⟩ = some (.int .u64 0)) : Below W.heap.size W w'.drew ∧ SlIs w'.drew v1 l ∧ SlIs w'.drew v2 l ∧ w'.drew.cell? ⟨g0, 0, Option.none⟩ = some (.int .u64 x.b) ∧ w'.drew.cell? ⟨g0, 1, Option.none⟩ = some (.int .i64 x.n) ∧ w'.drew.cell? ⟨g0, 2, Option.none⟩ = some (.int .u64 x.u) ∧ w'.drew.cell? ⟨g1, 0, Option.none⟩ = some (.int .u64 y.b) ∧ w'.drew.cell? ⟨g1, 1, Option.none⟩ = some (.int .i64 y.n) ∧ w'.drew.cell? ⟨g1, 2, Option.none⟩ = some (.int .u64 y.u) ∧ w'.drew.cell? ⟨g2, 0, Option.none⟩ = some (.int .u64 y.b) ∧ w'.drew.cell? ⟨g2, 1, Option.none⟩ = some (.int .i64 y.n) ∧ w'.drew.cell? ⟨g2, 2, Option.none⟩ = some (.int .u64 y.u) ∧ w'.drew.cell? ⟨g3, 0, Option.none⟩ = some (.int .u64 x.b) ∧ w'.drew.cell? ⟨g3, 1, Option.none⟩ = some (.int .i64 x.n) ∧ w'.drew.cell? ⟨g3, 2, Option.none⟩ = some (.int .u64 0) := by
  obtain ⟨h0, sa, sb, q0, q1, q2, q3, q4, q5, q6, q7, q8, q9, q10, q11⟩ := h
  exact ⟨h0.drew, sa, sb, q0, q1, q2, q3, q4, q5, q6, q7, q8, q9, q10, q11⟩
theorem keepP_on {W w' w'' : World} {g0 g1 g2 g3 : Nat} {x y : Ut} {v1 v2 : Value} {l : List Nat} (h : Below W.heap.size W w' ∧ SlIs w' v1 l ∧ SlIs w' v2 l ∧ w'.cell? ⟨g0, 0, Option.none⟩ = some (.int .u64 x.b) ∧ w'.cell? ⟨g0, 1, Option.none⟩ = some (.int .i64 x.n) ∧ w'.cell? ⟨g0, 2, Option.none⟩ = some (.int .u64 x.u) ∧ w'.cell? ⟨g1, 0, Option.none⟩ = some (.int .u64 y.b) ∧ w'.cell? ⟨g1, 1, Option.none⟩ = some (.int .i64 y.n) ∧ w'.cell? ⟨g1, 2, Option.none⟩ = some (.int .u64 y.u) ∧ w'.cell? ⟨g2, 0, Option.none⟩ = some (.int .u64 y.b) ∧ w'.cell? ⟨g2, 1, Option.none⟩ = some (.int .i64 y.n) ∧ w'.cell? ⟨g2, 2, Option.none⟩ = some (.int .u64 y.u) ∧ w'.cell? ⟨g3, 0, Option.none⟩ = some (.int .u64 x.b) ∧ w'.cell? ⟨g3, 1, Option.none⟩ = some (.int .i64 x.n) ∧ w'.cell? ⟨g3, 2, Option.none⟩ = some (.int .u64 0)) (hb : Below w'.heap.size w' w'') : Below W.heap.size W w'' ∧ SlIs w'' v1 l ∧ SlIs w'' v2 l ∧ w''.cell? ⟨g0, 0, Option.none⟩ = some (.int .u64 x.b) ∧ w''.cell? ⟨g0, 1, Option.none⟩ = some (.int .i64 x.n) ∧ w''.cell? ⟨g0, 2, Option.none⟩ = some (.int .u64 x.u) ∧ w''.cell? ⟨g1, 0, Option.none⟩ = some (.int .u64 y.b) ∧ w''.cell? ⟨g1, 1, Option.none⟩ = some (.int .i64 y.n) ∧ w''.cell? ⟨g1, 2, Option.none⟩ = some (.int .u64 y.u) ∧ w''.cell? ⟨g2, 0, Option.none⟩ = some (.int .u64 y.b) ∧ w''.cell? ⟨g2, 1, Option.none⟩ = some (.int .i64 y.n) ∧ w''.cell? ⟨g2, 2, Option.none⟩ = some (.int .u64 y.u) ∧ w''.cell? ⟨g3, 0, Option.none⟩ = some (.int .u64 x.b) ∧ w''.cell? ⟨g3, 1, Option.none⟩ = some (.int .i64 x.n) ∧ w''.cell? ⟨g3, 2, Option.none⟩ = some (.int .u64 0) := by
  obtain ⟨h0, sa, sb, q0, q1, q2, q3, q4, q5, q6, q7, q8, q9, q10, q11⟩ := h
  have key : ∀ {p : Addr} {v : Value}, w'.cell? p = some v → w''.cell? p = some v := fun h => (hb.cell (World.block_lt_of_cell? w' _ h)).trans h
  exact ⟨below_then h0 hb, sa.keep hb, sb.keep hb, key q0, key q1, key q2, key q3, key q4, key q5, key q6, key q7, key q8, key q9, key q10, key q11⟩
theorem place_len {x y : Ut} {k n c i : Int} {l : List Nat} (h : placeU x k n c = (l, y, i)) : l.length ≤ 1000000 := by
  by_cases hi : i = 0
  · subst hi
    obtain ⟨_, _, i, _, _, _, _, _, _, _, _, _, h1, _, _, h2, _⟩ := place_ok h
    rw [h2, lst_len]
    omega
  · rw [(place_err h hi).1]
    decide

set_option maxRecDepth 100000 in
set_option maxHeartbeats 6400000 in
theorem untypedPlaces_walk (x : Ut) (hb : Word x.b) (hu : Word x.u) (k n c : Int) (W : World) :
    Calls Try.prog 3 #[(.agg #[.int .u64 x.b, .int .i64 x.n, .int .u64 x.u]), (.agg #[.int .i64 k, .int .i64 n, .int .i64 c])] W fun e w' => e = .returned (.bool true) ∧ Below W.heap.size W w' := by
  obtain ⟨⟨l, y, i⟩, hp⟩ : ∃ q, placeU x k n c = q := ⟨_, rfl⟩
  obtain ⟨⟨a, j⟩, hs⟩ : ∃ q, sizeU k n = q := ⟨_, rfl⟩
  have P1 : Hid (∀ w : World, Calls Try.prog 10 #[(.agg #[.int .u64 x.b, .int .i64 x.n, .int .u64 x.u]), .int .i64 k, .int .i64 n, .int .i64 c] w fun e w' => ∃ v, e = .returned (.tuple #[v, (.agg #[.int .u64 y.b, .int .i64 y.n, .int .u64 y.u]), .int .i64 i]) ∧ SlIs w' v l ∧ Below w.heap.size w w') := Lib.hid (fun w => place_as x hb hu k n c l y i hp w)
  have P2 : Hid (∀ w : World, Calls Try.prog 11 #[(.agg #[.int .u64 x.b, .int .i64 x.n, .int .u64 x.u]), .int .i64 k, .int .i64 n, .int .i64 c] w fun e w' => ∃ v, e = .returned (.tuple #[v, (.agg #[.int .u64 y.b, .int .i64 y.n, .int .u64 y.u]), .int .i64 i]) ∧ SlIs w' v l ∧ Below w.heap.size w w') := Lib.hid (fun w => rplace_as x hb hu k n c l y i hp w)
  have S1 : Hid (∀ w : World, Calls Try.prog 12 #[.int .i64 k, .int .i64 n] w fun e w' => e = .returned (.tuple #[.int .i64 a, .int .i64 j]) ∧ Below w.heap.size w w') := Lib.hid (fun w => by
    have h := size_any k n w
    rw [hs] at h
    exact h)
  have S2 : Hid (∀ w : World, Calls Try.prog 13 #[.int .i64 k, .int .i64 n] w fun e w' => e = .returned (.tuple #[.int .i64 a, .int .i64 j]) ∧ Below w.heap.size w w') := Lib.hid (fun w => by
    have h := rsize_any k n w
    rw [hs] at h
    exact h)
  have R1 : Hid (∀ w : World, Calls Try.prog 18 #[(.agg #[.int .u64 x.b, .int .i64 x.n, .int .u64 x.u])] w fun e w' => e = .returned (.agg #[.int .u64 x.b, .int .i64 x.n, .int .u64 0]) ∧ Below w.heap.size w w') := Lib.hid (fun w => reset_any x w)
  have C1 : Hid (∀ w : World, Calls Try.prog 16 #[(.agg #[.int .u64 x.b, .int .i64 x.n, .int .u64 x.u])] w fun e w' => e = .returned (.int .i64 (chkU x)) ∧ Below w.heap.size w w') := Lib.hid (fun w => check_any x hb hu w)
  have C2 : Hid (∀ w : World, Calls Try.prog 17 #[(.agg #[.int .u64 x.b, .int .i64 x.n, .int .u64 x.u])] w fun e w' => e = .returned (.int .i64 (chkU x)) ∧ Below w.heap.size w w') := Lib.hid (fun w => rcheck_any x hb hu w)
  have q1 : ∀ w : World, (Op.equalIn 10000 24 (.agg #[.int .u64 y.b, .int .i64 y.n, .int .u64 y.u]) (.agg #[.int .u64 y.b, .int .i64 y.n, .int .u64 y.u])).run Try.prog w = .ok true w := fun w => eq_ut_self y w
  have q2 : ∀ w : World, (Op.equalIn 10000 24 (.agg #[.int .u64 x.b, .int .i64 x.n, .int .u64 0]) (.agg #[.int .u64 x.b, .int .i64 x.n, .int .u64 0])).run Try.prog w = .ok true w := fun w => eq_ut_self ⟨x.b, x.n, 0⟩ w
  have SS : Hid (∀ (v1 v2 : Value) (w : World), SlIs w v1 l → SlIs w v2 l → Calls Try.prog 15 #[v1, v2] w fun e w' => e = .returned (.bool true) ∧ Below w.heap.size w w') := Lib.hid (fun v1 v2 w h1 h2 => by
    have h := same_any v1 v2 l l (place_len hp) w h1 h2
    rw [decide_eq_true rfl] at h
    exact h)
  clear hp hs
  go_enter Try.func3, Try.ntmps3
  go_wp2_with fail
  refine (P1.out _).mono ?_
  rintro e w1 ⟨v1, rfl, hs, hb⟩
  have XX' : Ub w1 (W.heap.size) x := Ub.keep hb (by repeat (first | fail | exact Ub.new _ x | exact Ub.new_at (x := x) (by simp) | apply Ub.alloc | refine Ub.drew ?_ _))
  have XX := Lib.hid XX'
  clear XX'
  have WW' : Wb w1 ((W.heap.size + 1)) (k, n, c) := Wb.keep hb (by repeat (first | fail | exact Wb.new _ (k, n, c) | exact Wb.new_at (q := (k, n, c)) (by simp) | apply Wb.alloc | refine Wb.drew ?_ _))
  have WW := Lib.hid WW'
  clear WW'
  have SA := Lib.hid hs
  clear hs
  have HB1 : Hid (Below W.heap.size W w1) := Lib.hid (below_then (by repeat (first | exact (Below.refl _ _) | apply below_new | refine below_draws ?_ _)) hb)
  clear hb
  obtain ⟨zXX, c0XX, c1XX, c2XX, f0XX, f1XX, f2XX⟩ := XX.out
  have nXX : ¬ W.heap.size = w1.heap.size := by omega
  obtain ⟨zWW, c0WW, c1WW, c2WW⟩ := WW.out
  have nWW : ¬ (W.heap.size + 1) = w1.heap.size := by omega
  go_wp2_with fail
  clear zXX nXX c0XX c1XX c2XX f0XX f1XX f2XX
  clear zWW nWW c0WW c1WW c2WW
  refine (P2.out _).mono ?_
  rintro e w2 ⟨v2, rfl, hs, hb⟩
  have XX' : Ub w2 (W.heap.size) x := Ub.keep hb (by repeat (first | exact XX.out | exact Ub.new _ x | exact Ub.new_at (x := x) (by simp) | apply Ub.alloc | refine Ub.drew ?_ _))
  clear XX
  have XX := Lib.hid XX'
  clear XX'
  have WW' : Wb w2 ((W.heap.size + 1)) (k, n, c) := Wb.keep hb (by repeat (first | exact WW.out | exact Wb.new _ (k, n, c) | exact Wb.new_at (q := (k, n, c)) (by simp) | apply Wb.alloc | refine Wb.drew ?_ _))
  clear WW
  have WW := Lib.hid WW'
  clear WW'
  have SA' : SlIs w2 (v1) l := SlIs.keep (by repeat (first | exact SA.out | apply SlIs.alloc | refine SlIs.drew ?_ _)) hb
  clear SA
  have SA := Lib.hid SA'
  clear SA'
  have VV' : Ub w2 (w1.heap.size) y := Ub.keep hb (by repeat (first | fail | exact Ub.new _ y | exact Ub.new_at (x := y) (by simp) | apply Ub.alloc | refine Ub.drew ?_ _))
  have VV := Lib.hid VV'
  clear VV'
  have SB := Lib.hid hs
  clear hs
  have HB2 : Hid (Below W.heap.size W w2) := Lib.hid (below_then (by repeat (first | exact HB1.out | apply below_new | refine below_draws ?_ _)) hb)
  clear hb HB1
  obtain ⟨zWW, c0WW, c1WW, c2WW⟩ := WW.out
  have nWW : ¬ (W.heap.size + 1) = w2.heap.size := by omega
  go_wp2_with fail
  clear zWW nWW c0WW c1WW c2WW
  refine (S1.out _).mono ?_
  rintro e w3 ⟨rfl, hb⟩
  have XX' : Ub w3 (W.heap.size) x := Ub.keep hb (by repeat (first | exact XX.out | exact Ub.new _ x | exact Ub.new_at (x := x) (by simp) | apply Ub.alloc | refine Ub.drew ?_ _))
  clear XX
  have XX := Lib.hid XX'
  clear XX'
  have WW' : Wb w3 ((W.heap.size + 1)) (k, n, c) := Wb.keep hb (by repeat (first | exact WW.out | exact Wb.new _ (k, n, c) | exact Wb.new_at (q := (k, n, c)) (by simp) | apply Wb.alloc | refine Wb.drew ?_ _))
  clear WW
  have WW := Lib.hid WW'
  clear WW'
  have SA' : SlIs w3 (v1) l := SlIs.keep (by repeat (first | exact SA.out | apply SlIs.alloc | refine SlIs.drew ?_ _)) hb
  clear SA
  have SA := Lib.hid SA'
  clear SA'
  have VV' : Ub w3 (w1.heap.size) y := Ub.keep hb (by repeat (first | exact VV.out | exact Ub.new _ y | exact Ub.new_at (x := y) (by simp) | apply Ub.alloc | refine Ub.drew ?_ _))
  clear VV
  have VV := Lib.hid VV'
  clear VV'
  have SB' : SlIs w3 (v2) l := SlIs.keep (by repeat (first | exact SB.out | apply SlIs.alloc | refine SlIs.drew ?_ _)) hb
  clear SB
  have SB := Lib.hid SB'
  clear SB'
  have RR' : Ub w3 (w2.heap.size) y := Ub.keep hb (by repeat (first | fail | exact Ub.new _ y | exact Ub.new_at (x := y) (by simp) | apply Ub.alloc | refine Ub.drew ?_ _))
  have RR := Lib.hid RR'
  clear RR'
  have HB3 : Hid (Below W.heap.size W w3) := Lib.hid (below_then (by repeat (first | exact HB2.out | apply below_new | refine below_draws ?_ _)) hb)
  clear hb HB2
  obtain ⟨zWW, c0WW, c1WW, c2WW⟩ := WW.out
  have nWW : ¬ (W.heap.size + 1) = w3.heap.size := by omega
  go_wp2_with fail
  clear zWW nWW c0WW c1WW c2WW
  refine (S2.out _).mono ?_
  rintro e w4 ⟨rfl, hb⟩
  clear WW
  have XX' : Ub w4 (W.heap.size) x := Ub.keep hb (by repeat (first | exact XX.out | exact Ub.new _ x | exact Ub.new_at (x := x) (by simp) | apply Ub.alloc | refine Ub.drew ?_ _))
  clear XX
  have XX := Lib.hid XX'
  clear XX'
  have SA' : SlIs w4 (v1) l := SlIs.keep (by repeat (first | exact SA.out | apply SlIs.alloc | refine SlIs.drew ?_ _)) hb
  clear SA
  have SA := Lib.hid SA'
  clear SA'
  have VV' : Ub w4 (w1.heap.size) y := Ub.keep hb (by repeat (first | exact VV.out | exact Ub.new _ y | exact Ub.new_at (x := y) (by simp) | apply Ub.alloc | refine Ub.drew ?_ _))
  clear VV
  have VV := Lib.hid VV'
  clear VV'
  have SB' : SlIs w4 (v2) l := SlIs.keep (by repeat (first | exact SB.out | apply SlIs.alloc | refine SlIs.drew ?_ _)) hb
  clear SB
  have SB := Lib.hid SB'
  clear SB'
  have RR' : Ub w4 (w2.heap.size) y := Ub.keep hb (by repeat (first | exact RR.out | exact Ub.new _ y | exact Ub.new_at (x := y) (by simp) | apply Ub.alloc | refine Ub.drew ?_ _))
  clear RR
  have RR := Lib.hid RR'
  clear RR'
  have HB4 : Hid (Below W.heap.size W w4) := Lib.hid (below_then (by repeat (first | exact HB3.out | apply below_new | refine below_draws ?_ _)) hb)
  clear hb HB3
  obtain ⟨zXX, c0XX, c1XX, c2XX, f0XX, f1XX, f2XX⟩ := XX.out
  have nXX : ¬ W.heap.size = w4.heap.size := by omega
  go_wp2_with fail
  clear zXX nXX c0XX c1XX c2XX f0XX f1XX f2XX
  have SS2 : Hid (∀ w' : World, (Below W.heap.size W w' ∧ SlIs w' v1 l ∧ SlIs w' v2 l ∧ w'.cell? ⟨W.heap.size, 0, Option.none⟩ = some (.int .u64 x.b) ∧ w'.cell? ⟨W.heap.size, 1, Option.none⟩ = some (.int .i64 x.n) ∧ w'.cell? ⟨W.heap.size, 2, Option.none⟩ = some (.int .u64 x.u) ∧ w'.cell? ⟨w1.heap.size, 0, Option.none⟩ = some (.int .u64 y.b) ∧ w'.cell? ⟨w1.heap.size, 1, Option.none⟩ = some (.int .i64 y.n) ∧ w'.cell? ⟨w1.heap.size, 2, Option.none⟩ = some (.int .u64 y.u) ∧ w'.cell? ⟨w2.heap.size, 0, Option.none⟩ = some (.int .u64 y.b) ∧ w'.cell? ⟨w2.heap.size, 1, Option.none⟩ = some (.int .i64 y.n) ∧ w'.cell? ⟨w2.heap.size, 2, Option.none⟩ = some (.int .u64 y.u) ∧ w'.cell? ⟨w4.heap.size, 0, Option.none⟩ = some (.int .u64 x.b) ∧ w'.cell? ⟨w4.heap.size, 1, Option.none⟩ = some (.int .i64 x.n) ∧ w'.cell? ⟨w4.heap.size, 2, Option.none⟩ = some (.int .u64 0)) → Calls Try.prog 15 #[v1, v2] w' fun e w'' => e = .returned (.bool true) ∧ Below w'.heap.size w' w'') := Lib.hid (fun w' h => SS.out _ _ _ h.2.1 h.2.2.1)
  go_region_held3 (fun w' => Below W.heap.size W w' ∧ SlIs w' v1 l ∧ SlIs w' v2 l ∧ w'.cell? ⟨W.heap.size, 0, Option.none⟩ = some (.int .u64 x.b) ∧ w'.cell? ⟨W.heap.size, 1, Option.none⟩ = some (.int .i64 x.n) ∧ w'.cell? ⟨W.heap.size, 2, Option.none⟩ = some (.int .u64 x.u) ∧ w'.cell? ⟨w1.heap.size, 0, Option.none⟩ = some (.int .u64 y.b) ∧ w'.cell? ⟨w1.heap.size, 1, Option.none⟩ = some (.int .i64 y.n) ∧ w'.cell? ⟨w1.heap.size, 2, Option.none⟩ = some (.int .u64 y.u) ∧ w'.cell? ⟨w2.heap.size, 0, Option.none⟩ = some (.int .u64 y.b) ∧ w'.cell? ⟨w2.heap.size, 1, Option.none⟩ = some (.int .i64 y.n) ∧ w'.cell? ⟨w2.heap.size, 2, Option.none⟩ = some (.int .u64 y.u) ∧ w'.cell? ⟨w4.heap.size, 0, Option.none⟩ = some (.int .u64 x.b) ∧ w'.cell? ⟨w4.heap.size, 1, Option.none⟩ = some (.int .i64 x.n) ∧ w'.cell? ⟨w4.heap.size, 2, Option.none⟩ = some (.int .u64 0)) (first | exact keepP_drew (keepP_start HB4.out XX.out VV.out RR.out SA.out SB.out) | (refine keepP_on ?_ hb; assumption)) (first | (go_at_call 14; refine (fixed_true _).mono ?_; rintro e w' ⟨rfl, hb⟩) | (go_at_call 15; refine (SS2.out _ (by assumption)).mono ?_; rintro e w' ⟨rfl, hb⟩) | (go_at_call 16; refine (C1.out _).mono ?_; rintro e w' ⟨rfl, hb⟩) | (go_at_call 17; refine (C2.out _).mono ?_; rintro e w' ⟨rfl, hb⟩) | (go_at_call 18; refine (R1.out _).mono ?_; rintro e w' ⟨rfl, hb⟩))
  go_wp2_with fail
  go_ret
  rename_i hH
  exact ⟨rfl, hH.1⟩


set_option maxRecDepth 100000 in
theorem untypedPlaces_lifted (os : Os) (started : os.Started) (H : Type) (enc : TypeId × Value → H) :
    ReturnsInHanded {} Try.checked os 3 .any (Rows.untypedPlacesSpec.pre6 enc Try.prog Try.f3 Rows.untypedPlacesRow.domain false) (Rows.untypedPlacesSpec.post enc Try.prog Try.f3 false true false false) := by
  refine returnsInHanded_of_change (C := Try.checked) own_knob started (by kernel_rfl) Try.func3
    (ChangeSpec.witness6 (enc := enc) (C := Try.checked) false ⟨#[], #[.agg #[.int .u64 0, .int .i64 0, .int .u64 0], .agg #[.int .i64 0, .int .i64 0, .int .i64 0]], []⟩ 8 (by kernel_rfl) (by kernel_rfl) (by kernel_rfl) (by kernel_rfl)) ?_
  intro W base args ds gs before hval0 hW hcnd _
  have hval : ∀ (j : Nat) t v, Try.f3.params[j]? = some t → args[j]? = some v → Value.okWide Try.prog W .any base t v := hval0
  have hW' := hW
  obtain ⟨p, q, hA0, hV, rfl, hfz, hnd⟩ := hW
  have hA : DataW.TrodAll enc Try.prog W 0 (fun _ => true) true Try.f3.params.toList args.toList ds p := hA0
  rw [Try.params3] at hA hval
  obtain ⟨v0, v1, d0, d1, p0, p1, rfl, rfl, rfl, h0, h1⟩ := trodAll_two hA
  obtain ⟨rfl, rfl⟩ := trodVars_none hV
  clear hA0 hval0
  simp only [List.append_nil] at hW'
  have hlt : ∀ x ∈ p0 ++ p1, x.block < W.heap.size := fun x hx => by simpa using hW'.lt x hx
  have g0 : ∀ W' : World, Below W.heap.size W W' → DataW.Trod enc Try.prog W' 0 (fun b => decide (b < W.heap.size)) true 24 v0 d0 p0 :=
    fun W' hn => Below.trod laid_out (by kernel_rfl) (of_decide_eq_true (by kernel_rfl)) h0 hn (fun x hx => hlt x (by simp [hx]))
  have g1 : ∀ W' : World, Below W.heap.size W W' → DataW.Trod enc Try.prog W' 0 (fun b => decide (b < W.heap.size)) true 26 v1 d1 p1 :=
    fun W' hn => Below.trod laid_out (by kernel_rfl) (of_decide_eq_true (by kernel_rfl)) h1 hn (fun x hx => hlt x (by simp [hx]))
  obtain ⟨x, rfl, l0b, l0u⟩ := open_unt (hval 0 24 v0 rfl rfl) h0
  obtain ⟨k, n, c, rfl, l1k, l1n, l1c⟩ := open_what (hval 1 26 v1 rfl rfl) h1
  refine (untypedPlaces_walk x l0b l0u k n c W).mono fun e W' ⟨he, hn⟩ => ?_
  subst he
  exact ⟨_, rfl, _, _, _, [], p0 ++ p1, [], hW', trodAll_mk1 (shut_bool Try.underlying4 true), (trodAll_mk2 (g0 W' hn) (g1 W' hn)), rfl, hn.frame _, fun h => by cases h⟩

theorem untypedPlaces_holds : Rows.UntypedPlacesSaid :=
  OpenClaim.holds_of_wide 3 Try.f3 rfl rfl rfl rfl rfl rfl rfl ⟨rfl, rfl, rfl, rfl, rfl⟩ rfl rfl rfl rfl rfl (by kernel_rfl) Try.func3 (by kernel_rfl)
    (of_decide_eq_true (by kernel_rfl)) (by unfold Func.isWrapper; first | (rw [if_pos (by decide +kernel)]; kernel_rfl) | (rw [if_neg (by decide +kernel)]; exact ⟨rfl, rfl⟩))
    (fun os started H enc _ => untypedPlaces_lifted os started H enc)
#print axioms untypedPlaces_holds
end Go.Proofs.Ytbgcgbelejmjiaa
