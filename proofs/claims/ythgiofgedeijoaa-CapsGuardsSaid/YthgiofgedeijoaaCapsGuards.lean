/- A guard can be given anew, and again; all else of the capability stays: for every input, no condition. -/
import Derived.Test.YthgiofgedeijoaaCmore
import Derived.Deep.RegionHeld3
import Derived.Deep.RegionWith
import Derived.Test.YthgiofgedeijoaaCfacts
set_option linter.unusedVariables false
set_option linter.unusedSimpArgs false
namespace Go.Proofs.Ythgiofgedeijoaa
open Go.ChangeShapes Go.WideShapes Go.ChangeAt Go.RowKit Go.Joins Wd Cd

theorem check_okb (c : Cp) (hg : Word c.g) (ok : c.Ok) (w : World) : Calls Try.prog 14 #[(.agg #[.int .i64 c.k, .int .i64 c.o, .int .i64 c.r, .int .u64 c.b, .int .u64 c.g, .int .i64 c.n])] w fun e w' => e = .returned (.int .i64 0) ∧ Below w.heap.size w w' := by
  refine (check_ok c hg ok w).mono ?_
  rintro e w' ⟨rfl, rfl⟩
  exact ⟨rfl, below_new (Below.refl _ _) _⟩

theorem gen_world {F : Exit → Act → World → Prop} {x : Exit} {act : Act} {w : World} (S : World → Prop) (h : S w) (H : ∀ w2, S w2 → F x act w2) : F x act w := H w h
theorem Box.drew {w : World} {b : Nat} {c : Cp} (h : Box w b c) : Box w.drew b c := h
theorem Box.other {w : World} {b : Nat} {c : Cp} {p : Addr} {v : Value} (h : Box w b c) (hp : b ≠ p.block) : Box (w.setCell p v) b c := by
  obtain ⟨h0, q0, q1, q2, q3, q4, q5⟩ := h
  have key : ∀ {i : Nat} {u : Value}, w.cell? ⟨b, i, none⟩ = some u → (w.setCell p v).cell? ⟨b, i, none⟩ = some u := fun {i} {u} hq => by
    exact (World.cell?_setCell_far w p ⟨b, i, none⟩ v (fun e => hp e.symm)).trans hq
  exact ⟨by simpa [World.setCell] using h0, key q0, key q1, key q2, key q3, key q4, key q5⟩
theorem Box.stored {w : World} {b : Nat} {c : Cp} {v0 v1 v2 v3 v4 v5 : Value} (hz : b < w.heap.size) (r0 : w.cell? ⟨b, 0, none⟩ = some v0) (r1 : w.cell? ⟨b, 1, none⟩ = some v1) (r2 : w.cell? ⟨b, 2, none⟩ = some v2) (r3 : w.cell? ⟨b, 3, none⟩ = some v3) (r4 : w.cell? ⟨b, 4, none⟩ = some v4) (r5 : w.cell? ⟨b, 5, none⟩ = some v5) :
    Box ((((((w.setCell ⟨b, 0, none⟩ (.int .i64 c.k)).setCell ⟨b, 1, none⟩ (.int .i64 c.o)).setCell ⟨b, 2, none⟩ (.int .i64 c.r)).setCell ⟨b, 3, none⟩ (.int .u64 c.b)).setCell ⟨b, 4, none⟩ (.int .u64 c.g)).setCell ⟨b, 5, none⟩ (.int .i64 c.n)) b c := by
  refine ⟨by simpa [World.setCell] using hz, ?_, ?_, ?_, ?_, ?_, ?_⟩ <;> simp [go_sem, r0, r1, r2, r3, r4, r5]
theorem keepg_start {W w3 : World} {g0 g1 : Nat} {a b c : Cp} (h0 : Below W.heap.size W w3) (ha : Box w3 g0 a) (hb : Box w3 g1 b) : Below W.heap.size W ((w3.alloc (.cells #[.int .i64 c.k, .int .i64 c.o, .int .i64 c.r, .int .u64 c.b, .int .u64 c.g, .int .i64 c.n] 24)).drew) ∧ w3.heap.size < ((w3.alloc (.cells #[.int .i64 c.k, .int .i64 c.o, .int .i64 c.r, .int .u64 c.b, .int .u64 c.g, .int .i64 c.n] 24)).drew).heap.size ∧ ((w3.alloc (.cells #[.int .i64 c.k, .int .i64 c.o, .int .i64 c.r, .int .u64 c.b, .int .u64 c.g, .int .i64 c.n] 24)).drew).cell? ⟨g0, 0, none⟩ = some (.int .i64 a.k) ∧ ((w3.alloc (.cells #[.int .i64 c.k, .int .i64 c.o, .int .i64 c.r, .int .u64 c.b, .int .u64 c.g, .int .i64 c.n] 24)).drew).cell? ⟨g0, 1, none⟩ = some (.int .i64 a.o) ∧ ((w3.alloc (.cells #[.int .i64 c.k, .int .i64 c.o, .int .i64 c.r, .int .u64 c.b, .int .u64 c.g, .int .i64 c.n] 24)).drew).cell? ⟨g0, 2, none⟩ = some (.int .i64 a.r) ∧ ((w3.alloc (.cells #[.int .i64 c.k, .int .i64 c.o, .int .i64 c.r, .int .u64 c.b, .int .u64 c.g, .int .i64 c.n] 24)).drew).cell? ⟨g0, 3, none⟩ = some (.int .u64 a.b) ∧ ((w3.alloc (.cells #[.int .i64 c.k, .int .i64 c.o, .int .i64 c.r, .int .u64 c.b, .int .u64 c.g, .int .i64 c.n] 24)).drew).cell? ⟨g0, 4, none⟩ = some (.int .u64 a.g) ∧ ((w3.alloc (.cells #[.int .i64 c.k, .int .i64 c.o, .int .i64 c.r, .int .u64 c.b, .int .u64 c.g, .int .i64 c.n] 24)).drew).cell? ⟨g0, 5, none⟩ = some (.int .i64 a.n) ∧ ((w3.alloc (.cells #[.int .i64 c.k, .int .i64 c.o, .int .i64 c.r, .int .u64 c.b, .int .u64 c.g, .int .i64 c.n] 24)).drew).cell? ⟨g1, 0, none⟩ = some (.int .i64 b.k) ∧ ((w3.alloc (.cells #[.int .i64 c.k, .int .i64 c.o, .int .i64 c.r, .int .u64 c.b, .int .u64 c.g, .int .i64 c.n] 24)).drew).cell? ⟨g1, 1, none⟩ = some (.int .i64 b.o) ∧ ((w3.alloc (.cells #[.int .i64 c.k, .int .i64 c.o, .int .i64 c.r, .int .u64 c.b, .int .u64 c.g, .int .i64 c.n] 24)).drew).cell? ⟨g1, 2, none⟩ = some (.int .i64 b.r) ∧ ((w3.alloc (.cells #[.int .i64 c.k, .int .i64 c.o, .int .i64 c.r, .int .u64 c.b, .int .u64 c.g, .int .i64 c.n] 24)).drew).cell? ⟨g1, 3, none⟩ = some (.int .u64 b.b) ∧ ((w3.alloc (.cells #[.int .i64 c.k, .int .i64 c.o, .int .i64 c.r, .int .u64 c.b, .int .u64 c.g, .int .i64 c.n] 24)).drew).cell? ⟨g1, 4, none⟩ = some (.int .u64 b.g) ∧ ((w3.alloc (.cells #[.int .i64 c.k, .int .i64 c.o, .int .i64 c.r, .int .u64 c.b, .int .u64 c.g, .int .i64 c.n] 24)).drew).cell? ⟨g1, 5, none⟩ = some (.int .i64 b.n) ∧ ((w3.alloc (.cells #[.int .i64 c.k, .int .i64 c.o, .int .i64 c.r, .int .u64 c.b, .int .u64 c.g, .int .i64 c.n] 24)).drew).cell? ⟨w3.heap.size, 0, none⟩ = some (.int .i64 c.k) ∧ ((w3.alloc (.cells #[.int .i64 c.k, .int .i64 c.o, .int .i64 c.r, .int .u64 c.b, .int .u64 c.g, .int .i64 c.n] 24)).drew).cell? ⟨w3.heap.size, 1, none⟩ = some (.int .i64 c.o) ∧ ((w3.alloc (.cells #[.int .i64 c.k, .int .i64 c.o, .int .i64 c.r, .int .u64 c.b, .int .u64 c.g, .int .i64 c.n] 24)).drew).cell? ⟨w3.heap.size, 2, none⟩ = some (.int .i64 c.r) ∧ ((w3.alloc (.cells #[.int .i64 c.k, .int .i64 c.o, .int .i64 c.r, .int .u64 c.b, .int .u64 c.g, .int .i64 c.n] 24)).drew).cell? ⟨w3.heap.size, 3, none⟩ = some (.int .u64 c.b) ∧ ((w3.alloc (.cells #[.int .i64 c.k, .int .i64 c.o, .int .i64 c.r, .int .u64 c.b, .int .u64 c.g, .int .i64 c.n] 24)).drew).cell? ⟨w3.heap.size, 4, none⟩ = some (.int .u64 c.g) ∧ ((w3.alloc (.cells #[.int .i64 c.k, .int .i64 c.o, .int .i64 c.r, .int .u64 c.b, .int .u64 c.g, .int .i64 c.n] 24)).drew).cell? ⟨w3.heap.size, 5, none⟩ = some (.int .i64 c.n) := by
  obtain ⟨_, a0, a1, a2, a3, a4, a5⟩ := ha
  obtain ⟨_, b0, b1, b2, b3, b4, b5⟩ := hb
  have key : ∀ {p : Addr} {v : Value}, w3.cell? p = some v → (((w3.alloc (.cells #[.int .i64 c.k, .int .i64 c.o, .int .i64 c.r, .int .u64 c.b, .int .u64 c.g, .int .i64 c.n] 24)).drew)).cell? p = some v := fun h => cell_new h
  refine ⟨(below_new h0 _).drew, by simp, key a0, key a1, key a2, key a3, key a4, key a5, key b0, key b1, key b2, key b3, key b4, key b5, ?_, ?_, ?_, ?_, ?_, ?_⟩ <;> simp [go_sem]
theorem keepg_on {W w' w'' : World} {g0 g1 g2 : Nat} {a b c : Cp} (h : Below W.heap.size W w' ∧ g2 < w'.heap.size ∧ w'.cell? ⟨g0, 0, none⟩ = some (.int .i64 a.k) ∧ w'.cell? ⟨g0, 1, none⟩ = some (.int .i64 a.o) ∧ w'.cell? ⟨g0, 2, none⟩ = some (.int .i64 a.r) ∧ w'.cell? ⟨g0, 3, none⟩ = some (.int .u64 a.b) ∧ w'.cell? ⟨g0, 4, none⟩ = some (.int .u64 a.g) ∧ w'.cell? ⟨g0, 5, none⟩ = some (.int .i64 a.n) ∧ w'.cell? ⟨g1, 0, none⟩ = some (.int .i64 b.k) ∧ w'.cell? ⟨g1, 1, none⟩ = some (.int .i64 b.o) ∧ w'.cell? ⟨g1, 2, none⟩ = some (.int .i64 b.r) ∧ w'.cell? ⟨g1, 3, none⟩ = some (.int .u64 b.b) ∧ w'.cell? ⟨g1, 4, none⟩ = some (.int .u64 b.g) ∧ w'.cell? ⟨g1, 5, none⟩ = some (.int .i64 b.n) ∧ w'.cell? ⟨g2, 0, none⟩ = some (.int .i64 c.k) ∧ w'.cell? ⟨g2, 1, none⟩ = some (.int .i64 c.o) ∧ w'.cell? ⟨g2, 2, none⟩ = some (.int .i64 c.r) ∧ w'.cell? ⟨g2, 3, none⟩ = some (.int .u64 c.b) ∧ w'.cell? ⟨g2, 4, none⟩ = some (.int .u64 c.g) ∧ w'.cell? ⟨g2, 5, none⟩ = some (.int .i64 c.n)) (hb : Below w'.heap.size w' w'') : Below W.heap.size W w'' ∧ g2 < w''.heap.size ∧ w''.cell? ⟨g0, 0, none⟩ = some (.int .i64 a.k) ∧ w''.cell? ⟨g0, 1, none⟩ = some (.int .i64 a.o) ∧ w''.cell? ⟨g0, 2, none⟩ = some (.int .i64 a.r) ∧ w''.cell? ⟨g0, 3, none⟩ = some (.int .u64 a.b) ∧ w''.cell? ⟨g0, 4, none⟩ = some (.int .u64 a.g) ∧ w''.cell? ⟨g0, 5, none⟩ = some (.int .i64 a.n) ∧ w''.cell? ⟨g1, 0, none⟩ = some (.int .i64 b.k) ∧ w''.cell? ⟨g1, 1, none⟩ = some (.int .i64 b.o) ∧ w''.cell? ⟨g1, 2, none⟩ = some (.int .i64 b.r) ∧ w''.cell? ⟨g1, 3, none⟩ = some (.int .u64 b.b) ∧ w''.cell? ⟨g1, 4, none⟩ = some (.int .u64 b.g) ∧ w''.cell? ⟨g1, 5, none⟩ = some (.int .i64 b.n) ∧ w''.cell? ⟨g2, 0, none⟩ = some (.int .i64 c.k) ∧ w''.cell? ⟨g2, 1, none⟩ = some (.int .i64 c.o) ∧ w''.cell? ⟨g2, 2, none⟩ = some (.int .i64 c.r) ∧ w''.cell? ⟨g2, 3, none⟩ = some (.int .u64 c.b) ∧ w''.cell? ⟨g2, 4, none⟩ = some (.int .u64 c.g) ∧ w''.cell? ⟨g2, 5, none⟩ = some (.int .i64 c.n) := by
  obtain ⟨h0, h1, q0, q1, q2, q3, q4, q5, q6, q7, q8, q9, q10, q11, q12, q13, q14, q15, q16, q17⟩ := h
  have key : ∀ {p : Addr} {v : Value}, w'.cell? p = some v → w''.cell? p = some v := fun h => (hb.cell (World.block_lt_of_cell? w' _ h)).trans h
  exact ⟨below_then h0 hb, Nat.lt_of_lt_of_le h1 hb.size, key q0, key q1, key q2, key q3, key q4, key q5, key q6, key q7, key q8, key q9, key q10, key q11, key q12, key q13, key q14, key q15, key q16, key q17⟩
theorem same_is (a b : Cp) (t : Bool) (h : sameB a b = t) (w : World) : Calls Try.prog 15 #[(.agg #[.int .i64 a.k, .int .i64 a.o, .int .i64 a.r, .int .u64 a.b, .int .u64 a.g, .int .i64 a.n]), (.agg #[.int .i64 b.k, .int .i64 b.o, .int .i64 b.r, .int .u64 b.b, .int .u64 b.g, .int .i64 b.n])] w fun e w' => e = .returned (.bool t) ∧ Below w.heap.size w w' := by
  have k := same_below a b w
  rw [h] at k
  exact k
theorem check_nob (c : Cp) (hg : Word c.g) (ok : ¬ c.Ok) (w : World) : Calls Try.prog 14 #[(.agg #[.int .i64 c.k, .int .i64 c.o, .int .i64 c.r, .int .u64 c.b, .int .u64 c.g, .int .i64 c.n])] w fun e w' => e = .returned (.int .i64 40) ∧ Below w.heap.size w w' := by
  refine (check_bad c hg ok w).mono ?_
  rintro e w' ⟨rfl, rfl⟩
  exact ⟨rfl, below_new (Below.refl _ _) _⟩

set_option maxRecDepth 100000 in
set_option maxHeartbeats 3200000 in
theorem capsGuards_good (c a : Cp) (n : Int) (v m : Nat) (hm : m ≤ 63) (hA : bits .and .i64 n 63 = (m : Int)) (hX : bits .and .u64 (v : Int) (msk m) = (lowN v m : Int)) (hm1 : guaU c (lowN v m) (m : Int) = (a, 0)) (hm2 : guaU a c.g c.n = (c, 0)) (oka : a.Ok) (tac : sameB a c = true) (fo : (a.o == c.o) = true) (fg : ((a.g : Int) == (lowN v m : Int)) = true) (fn : (a.n == (m : Int)) = true) (hg : Word c.g) (hga : Word a.g) (hvm : Word (lowN v m)) (W : World) :
    Calls Try.prog 4 #[(.agg #[.int .i64 c.k, .int .i64 c.o, .int .i64 c.r, .int .u64 c.b, .int .u64 c.g, .int .i64 c.n]), .int .u64 v, .int .i64 n] W fun e w' => e = .returned (.bool true) ∧ Below W.heap.size W w' := by
  have hS := low_spelt m (by omega)
  have m1 : ∀ w : World, Calls Try.prog 13 #[(.agg #[.int .i64 c.k, .int .i64 c.o, .int .i64 c.r, .int .u64 c.b, .int .u64 c.g, .int .i64 c.n]), .int .u64 (lowN v m), .int .i64 (m : Int)] w fun e w' => e = .returned (.tuple #[(.agg #[.int .i64 a.k, .int .i64 a.o, .int .i64 a.r, .int .u64 a.b, .int .u64 a.g, .int .i64 a.n]), .int .i64 0]) ∧ Below w.heap.size w w' := fun w => by
    have h := guarded_any c (lowN v m) (m : Int) hg hvm w
    rw [hm1] at h
    exact h
  have M1 := Lib.hid m1
  clear m1
  have m2 : ∀ w : World, Calls Try.prog 13 #[(.agg #[.int .i64 a.k, .int .i64 a.o, .int .i64 a.r, .int .u64 a.b, .int .u64 a.g, .int .i64 a.n]), .int .u64 c.g, .int .i64 c.n] w fun e w' => e = .returned (.tuple #[(.agg #[.int .i64 c.k, .int .i64 c.o, .int .i64 c.r, .int .u64 c.b, .int .u64 c.g, .int .i64 c.n]), .int .i64 0]) ∧ Below w.heap.size w w' := fun w => by
    have h := guarded_any a c.g c.n hga hg w
    rw [hm2] at h
    exact h
  have M2 := Lib.hid m2
  clear m2
  have OKA := Lib.hid oka
  clear oka
  have TAC := Lib.hid tac
  clear tac
  have q1 : ∀ w : World, (Op.equalIn 10000 24 (.agg #[.int .i64 c.k, .int .i64 c.o, .int .i64 c.r, .int .u64 c.b, .int .u64 c.g, .int .i64 c.n]) (.agg #[.int .i64 c.k, .int .i64 c.o, .int .i64 c.r, .int .u64 c.b, .int .u64 c.g, .int .i64 c.n])).run Try.prog w = .ok true w := fun w => eq_self c w
  clear hm1 hm2
  go_enter Try.func4, Try.ntmps4
  go_wp2_with fail
  go_region_with (go_at_call 13; refine (M1.out _).mono ?_; rintro e w1 ⟨rfl, hb⟩; first | (have hz : W.heap.size + 1 < w1.heap.size := (by have := hb.size; simp at this; omega); have r0 : w1.cell? ⟨W.heap.size + 1, 0, none⟩ = some (.int .i64 0) := ((hb.cell (p := ⟨W.heap.size + 1, 0, none⟩) (by simp)).trans (by simp [go_sem])); have s0 : w1.frozen? ⟨W.heap.size + 1, 0, none⟩ = false := ((hb.frozen (p := ⟨W.heap.size + 1, 0, none⟩) (by simp)).trans (by simp [go_sem])); have r1 : w1.cell? ⟨W.heap.size + 1, 1, none⟩ = some (.int .i64 0) := ((hb.cell (p := ⟨W.heap.size + 1, 1, none⟩) (by simp)).trans (by simp [go_sem])); have s1 : w1.frozen? ⟨W.heap.size + 1, 1, none⟩ = false := ((hb.frozen (p := ⟨W.heap.size + 1, 1, none⟩) (by simp)).trans (by simp [go_sem])); have r2 : w1.cell? ⟨W.heap.size + 1, 2, none⟩ = some (.int .i64 0) := ((hb.cell (p := ⟨W.heap.size + 1, 2, none⟩) (by simp)).trans (by simp [go_sem])); have s2 : w1.frozen? ⟨W.heap.size + 1, 2, none⟩ = false := ((hb.frozen (p := ⟨W.heap.size + 1, 2, none⟩) (by simp)).trans (by simp [go_sem])); have r3 : w1.cell? ⟨W.heap.size + 1, 3, none⟩ = some (.int .u64 0) := ((hb.cell (p := ⟨W.heap.size + 1, 3, none⟩) (by simp)).trans (by simp [go_sem])); have s3 : w1.frozen? ⟨W.heap.size + 1, 3, none⟩ = false := ((hb.frozen (p := ⟨W.heap.size + 1, 3, none⟩) (by simp)).trans (by simp [go_sem])); have r4 : w1.cell? ⟨W.heap.size + 1, 4, none⟩ = some (.int .u64 0) := ((hb.cell (p := ⟨W.heap.size + 1, 4, none⟩) (by simp)).trans (by simp [go_sem])); have s4 : w1.frozen? ⟨W.heap.size + 1, 4, none⟩ = false := ((hb.frozen (p := ⟨W.heap.size + 1, 4, none⟩) (by simp)).trans (by simp [go_sem])); have r5 : w1.cell? ⟨W.heap.size + 1, 5, none⟩ = some (.int .i64 0) := ((hb.cell (p := ⟨W.heap.size + 1, 5, none⟩) (by simp)).trans (by simp [go_sem])); have s5 : w1.frozen? ⟨W.heap.size + 1, 5, none⟩ = false := ((hb.frozen (p := ⟨W.heap.size + 1, 5, none⟩) (by simp)).trans (by simp [go_sem]))) | skip)
  all_goals (first
    | (have hz' := hz
       have HC0 : Box w1 W.heap.size c := Box.keep hb (Box.drew (Box.alloc (Box.new _ c)))
       have HBW : Below W.heap.size W w1 := below_then ((below_new (below_new (Below.refl _ _) _) _).drew) hb
       have HB6 := below_put (below_put (below_put (below_put (below_put (below_put HBW ⟨W.heap.size + 1, 0, none⟩ (.int .i64 a.k) (by simp)) ⟨W.heap.size + 1, 1, none⟩ (.int .i64 a.o) (by simp)) ⟨W.heap.size + 1, 2, none⟩ (.int .i64 a.r) (by simp)) ⟨W.heap.size + 1, 3, none⟩ (.int .u64 a.b) (by simp)) ⟨W.heap.size + 1, 4, none⟩ (.int .u64 a.g) (by simp)) ⟨W.heap.size + 1, 5, none⟩ (.int .i64 a.n) (by simp)
       have HC6 := Box.other (Box.other (Box.other (Box.other (Box.other (Box.other HC0 (p := ⟨W.heap.size + 1, 0, none⟩) (v := .int .i64 a.k) (by simp)) (p := ⟨W.heap.size + 1, 1, none⟩) (v := .int .i64 a.o) (by simp)) (p := ⟨W.heap.size + 1, 2, none⟩) (v := .int .i64 a.r) (by simp)) (p := ⟨W.heap.size + 1, 3, none⟩) (v := .int .u64 a.b) (by simp)) (p := ⟨W.heap.size + 1, 4, none⟩) (v := .int .u64 a.g) (by simp)) (p := ⟨W.heap.size + 1, 5, none⟩) (v := .int .i64 a.n) (by simp)
       have HA6 := Box.stored (c := a) hz r0 r1 r2 r3 r4 r5
       clear r0 r1 r2 r3 r4 r5 s0 s1 s2 s3 s4 s5
       refine gen_world (fun w' => Box w' (W.heap.size + 1) a ∧ Box w' W.heap.size c ∧ Below W.heap.size W w') ⟨HA6, HC6, HB6⟩ ?_
       clear HA6 HC6 HB6 HC0 HBW hz
       rintro w2 ⟨hA, hC, hB⟩
       generalize W.heap.size + 1 = p at hA ⊢)
    | (have HC0 : Box w1 W.heap.size c := Box.keep hb (Box.drew (Box.new _ c))
       have HBW : Below W.heap.size W w1 := below_then ((below_new (Below.refl _ _) _).drew) hb
       refine gen_world (fun w' => Box w' w1.heap.size a ∧ Box w' W.heap.size c ∧ Below W.heap.size W w') ⟨Box.new _ a, Box.alloc HC0, below_new HBW _⟩ ?_
       clear HC0 HBW
       rintro w2 ⟨hA, hC, hB⟩
       generalize w1.heap.size = p at hA ⊢))
  all_goals (
    have AA := Lib.hid hA
    have CC := Lib.hid hC
    have HB2 := Lib.hid hB
    clear hA hC hB)
  all_goals (
    obtain ⟨zAA, cAA0, cAA1, cAA2, cAA3, cAA4, cAA5⟩ := AA.out
    have nAA : ¬ p = w2.heap.size := by omega
    obtain ⟨zCC, cCC0, cCC1, cCC2, cCC3, cCC4, cCC5⟩ := CC.out
    have nCC : ¬ W.heap.size = w2.heap.size := by omega
    go_wp2_with fail
    clear zAA nAA cAA0 cAA1 cAA2 cAA3 cAA4 cAA5
    clear zCC nCC cCC0 cCC1 cCC2 cCC3 cCC4 cCC5
    refine (M2.out _).mono ?_
    rintro e w3 ⟨rfl, hb⟩
    have AA' : Box w3 (p) a := Box.keep hb (by repeat (first | exact AA.out | exact Box.new _ a | exact Box.new_at (c := a) (by simp) | apply Box.alloc))
    clear AA
    have AA := Lib.hid AA'
    clear AA'
    have CC' : Box w3 (W.heap.size) c := Box.keep hb (by repeat (first | exact CC.out | exact Box.new _ c | exact Box.new_at (c := c) (by simp) | apply Box.alloc))
    clear CC
    have CC := Lib.hid CC'
    clear CC'
    have HB3 : Hid (Below W.heap.size W w3) := Lib.hid (below_then (by repeat (first | exact HB2.out | apply below_new | apply below_draws)) hb)
    clear hb HB2
    go_wp2_with fail
    go_region_held3 (fun w' => Below W.heap.size W w' ∧ w3.heap.size < w'.heap.size ∧ w'.cell? ⟨p, 0, none⟩ = some (.int .i64 a.k) ∧ w'.cell? ⟨p, 1, none⟩ = some (.int .i64 a.o) ∧ w'.cell? ⟨p, 2, none⟩ = some (.int .i64 a.r) ∧ w'.cell? ⟨p, 3, none⟩ = some (.int .u64 a.b) ∧ w'.cell? ⟨p, 4, none⟩ = some (.int .u64 a.g) ∧ w'.cell? ⟨p, 5, none⟩ = some (.int .i64 a.n) ∧ w'.cell? ⟨W.heap.size, 0, none⟩ = some (.int .i64 c.k) ∧ w'.cell? ⟨W.heap.size, 1, none⟩ = some (.int .i64 c.o) ∧ w'.cell? ⟨W.heap.size, 2, none⟩ = some (.int .i64 c.r) ∧ w'.cell? ⟨W.heap.size, 3, none⟩ = some (.int .u64 c.b) ∧ w'.cell? ⟨W.heap.size, 4, none⟩ = some (.int .u64 c.g) ∧ w'.cell? ⟨W.heap.size, 5, none⟩ = some (.int .i64 c.n) ∧ w'.cell? ⟨w3.heap.size, 0, none⟩ = some (.int .i64 c.k) ∧ w'.cell? ⟨w3.heap.size, 1, none⟩ = some (.int .i64 c.o) ∧ w'.cell? ⟨w3.heap.size, 2, none⟩ = some (.int .i64 c.r) ∧ w'.cell? ⟨w3.heap.size, 3, none⟩ = some (.int .u64 c.b) ∧ w'.cell? ⟨w3.heap.size, 4, none⟩ = some (.int .u64 c.g) ∧ w'.cell? ⟨w3.heap.size, 5, none⟩ = some (.int .i64 c.n)) (first | exact keepg_start HB3.out AA.out CC.out | (refine keepg_on ?_ hb; assumption)) (first | (go_at_call 15; refine (same_is a c true TAC.out _).mono ?_; rintro e w' ⟨rfl, hb⟩) | (go_at_call 14; refine (check_okb a hga OKA.out _).mono ?_; rintro e w' ⟨rfl, hb⟩) | (go_at_call 12; refine (fixed_true _).mono ?_; rintro e w' ⟨rfl, hb⟩))
    go_wp2_with fail
    go_ret
    rename_i hH
    exact ⟨rfl, hH.1⟩)

set_option maxRecDepth 100000 in
set_option maxHeartbeats 3200000 in
theorem capsGuards_form (c : Cp) (i : Int) (n : Int) (v m : Nat) (hm : m ≤ 63) (hA : bits .and .i64 n 63 = (m : Int)) (hX : bits .and .u64 (v : Int) (msk m) = (lowN v m : Int)) (hm1 : guaU c (lowN v m) (m : Int) = (zero, i)) (hi : (i != 0) = true) (hok : ¬ c.Ok) (hg : Word c.g) (hvm : Word (lowN v m)) (W : World) :
    Calls Try.prog 4 #[(.agg #[.int .i64 c.k, .int .i64 c.o, .int .i64 c.r, .int .u64 c.b, .int .u64 c.g, .int .i64 c.n]), .int .u64 v, .int .i64 n] W fun e w' => e = .returned (.bool true) ∧ Below W.heap.size W w' := by
  have hS := low_spelt m (by omega)
  have m1 : ∀ w : World, Calls Try.prog 13 #[(.agg #[.int .i64 c.k, .int .i64 c.o, .int .i64 c.r, .int .u64 c.b, .int .u64 c.g, .int .i64 c.n]), .int .u64 (lowN v m), .int .i64 (m : Int)] w fun e w' => e = .returned (.tuple #[(.agg #[.int .i64 0, .int .i64 0, .int .i64 0, .int .u64 0, .int .u64 0, .int .i64 0]), .int .i64 i]) ∧ Below w.heap.size w w' := fun w => by
    have h := guarded_any c (lowN v m) (m : Int) hg hvm w
    rw [hm1] at h
    exact h
  have M1 := Lib.hid m1
  clear m1
  have HOK := Lib.hid hok
  clear hok
  have q1 : ∀ w : World, (Op.equalIn 10000 24 (.agg #[.int .i64 0, .int .i64 0, .int .i64 0, .int .u64 0, .int .u64 0, .int .i64 0]) (.agg #[.int .i64 0, .int .i64 0, .int .i64 0, .int .u64 0, .int .u64 0, .int .i64 0])).run Try.prog w = .ok true w := fun w => eq_self zero w
  clear hm1
  go_enter Try.func4, Try.ntmps4
  go_wp2_with fail
  go_region_with (go_at_call 13; refine (M1.out _).mono ?_; rintro e w1 ⟨rfl, hb⟩; first | (have hz : W.heap.size + 1 < w1.heap.size := (by have := hb.size; simp at this; omega); have r0 : w1.cell? ⟨W.heap.size + 1, 0, none⟩ = some (.int .i64 0) := ((hb.cell (p := ⟨W.heap.size + 1, 0, none⟩) (by simp)).trans (by simp [go_sem])); have s0 : w1.frozen? ⟨W.heap.size + 1, 0, none⟩ = false := ((hb.frozen (p := ⟨W.heap.size + 1, 0, none⟩) (by simp)).trans (by simp [go_sem])); have r1 : w1.cell? ⟨W.heap.size + 1, 1, none⟩ = some (.int .i64 0) := ((hb.cell (p := ⟨W.heap.size + 1, 1, none⟩) (by simp)).trans (by simp [go_sem])); have s1 : w1.frozen? ⟨W.heap.size + 1, 1, none⟩ = false := ((hb.frozen (p := ⟨W.heap.size + 1, 1, none⟩) (by simp)).trans (by simp [go_sem])); have r2 : w1.cell? ⟨W.heap.size + 1, 2, none⟩ = some (.int .i64 0) := ((hb.cell (p := ⟨W.heap.size + 1, 2, none⟩) (by simp)).trans (by simp [go_sem])); have s2 : w1.frozen? ⟨W.heap.size + 1, 2, none⟩ = false := ((hb.frozen (p := ⟨W.heap.size + 1, 2, none⟩) (by simp)).trans (by simp [go_sem])); have r3 : w1.cell? ⟨W.heap.size + 1, 3, none⟩ = some (.int .u64 0) := ((hb.cell (p := ⟨W.heap.size + 1, 3, none⟩) (by simp)).trans (by simp [go_sem])); have s3 : w1.frozen? ⟨W.heap.size + 1, 3, none⟩ = false := ((hb.frozen (p := ⟨W.heap.size + 1, 3, none⟩) (by simp)).trans (by simp [go_sem])); have r4 : w1.cell? ⟨W.heap.size + 1, 4, none⟩ = some (.int .u64 0) := ((hb.cell (p := ⟨W.heap.size + 1, 4, none⟩) (by simp)).trans (by simp [go_sem])); have s4 : w1.frozen? ⟨W.heap.size + 1, 4, none⟩ = false := ((hb.frozen (p := ⟨W.heap.size + 1, 4, none⟩) (by simp)).trans (by simp [go_sem])); have r5 : w1.cell? ⟨W.heap.size + 1, 5, none⟩ = some (.int .i64 0) := ((hb.cell (p := ⟨W.heap.size + 1, 5, none⟩) (by simp)).trans (by simp [go_sem])); have s5 : w1.frozen? ⟨W.heap.size + 1, 5, none⟩ = false := ((hb.frozen (p := ⟨W.heap.size + 1, 5, none⟩) (by simp)).trans (by simp [go_sem]))) | skip)
  all_goals (first
    | (have hz' := hz
       have HC0 : Box w1 W.heap.size c := Box.keep hb (Box.drew (Box.alloc (Box.new _ c)))
       have HBW : Below W.heap.size W w1 := below_then ((below_new (below_new (Below.refl _ _) _) _).drew) hb
       have HB6 := below_put (below_put (below_put (below_put (below_put (below_put HBW ⟨W.heap.size + 1, 0, none⟩ (.int .i64 zero.k) (by simp)) ⟨W.heap.size + 1, 1, none⟩ (.int .i64 zero.o) (by simp)) ⟨W.heap.size + 1, 2, none⟩ (.int .i64 zero.r) (by simp)) ⟨W.heap.size + 1, 3, none⟩ (.int .u64 zero.b) (by simp)) ⟨W.heap.size + 1, 4, none⟩ (.int .u64 zero.g) (by simp)) ⟨W.heap.size + 1, 5, none⟩ (.int .i64 zero.n) (by simp)
       have HC6 := Box.other (Box.other (Box.other (Box.other (Box.other (Box.other HC0 (p := ⟨W.heap.size + 1, 0, none⟩) (v := .int .i64 zero.k) (by simp)) (p := ⟨W.heap.size + 1, 1, none⟩) (v := .int .i64 zero.o) (by simp)) (p := ⟨W.heap.size + 1, 2, none⟩) (v := .int .i64 zero.r) (by simp)) (p := ⟨W.heap.size + 1, 3, none⟩) (v := .int .u64 zero.b) (by simp)) (p := ⟨W.heap.size + 1, 4, none⟩) (v := .int .u64 zero.g) (by simp)) (p := ⟨W.heap.size + 1, 5, none⟩) (v := .int .i64 zero.n) (by simp)
       have HA6 := Box.stored (c := zero) hz r0 r1 r2 r3 r4 r5
       clear r0 r1 r2 r3 r4 r5 s0 s1 s2 s3 s4 s5
       refine gen_world (fun w' => Box w' (W.heap.size + 1) zero ∧ Box w' W.heap.size c ∧ Below W.heap.size W w') ⟨HA6, HC6, HB6⟩ ?_
       clear HA6 HC6 HB6 HC0 HBW hz
       rintro w2 ⟨hA, hC, hB⟩
       generalize W.heap.size + 1 = p at hA ⊢)
    | (have HC0 : Box w1 W.heap.size c := Box.keep hb (Box.drew (Box.new _ c))
       have HBW : Below W.heap.size W w1 := below_then ((below_new (Below.refl _ _) _).drew) hb
       refine gen_world (fun w' => Box w' w1.heap.size zero ∧ Box w' W.heap.size c ∧ Below W.heap.size W w') ⟨Box.new _ zero, Box.alloc HC0, below_new HBW _⟩ ?_
       clear HC0 HBW
       rintro w2 ⟨hA, hC, hB⟩
       generalize w1.heap.size = p at hA ⊢))
  all_goals (
    have AA := Lib.hid hA
    have CC := Lib.hid hC
    have HB2 := Lib.hid hB
    clear hA hC hB)
  all_goals (
    obtain ⟨zAA, cAA0, cAA1, cAA2, cAA3, cAA4, cAA5⟩ := AA.out
    have nAA : ¬ p = w2.heap.size := by omega
    obtain ⟨zCC, cCC0, cCC1, cCC2, cCC3, cCC4, cCC5⟩ := CC.out
    have nCC : ¬ W.heap.size = w2.heap.size := by omega
    go_wp2_with fail
    clear zAA nAA cAA0 cAA1 cAA2 cAA3 cAA4 cAA5
    clear zCC nCC cCC0 cCC1 cCC2 cCC3 cCC4 cCC5
    refine ((check_nob c hg HOK.out) _).mono ?_
    rintro e w3 ⟨rfl, hb⟩
    have AA' : Box w3 (p) zero := Box.keep hb (by repeat (first | exact AA.out | exact Box.new _ zero | exact Box.new_at (c := zero) (by simp) | apply Box.alloc))
    clear AA
    have AA := Lib.hid AA'
    clear AA'
    have CC' : Box w3 (W.heap.size) c := Box.keep hb (by repeat (first | exact CC.out | exact Box.new _ c | exact Box.new_at (c := c) (by simp) | apply Box.alloc))
    clear CC
    have CC := Lib.hid CC'
    clear CC'
    have HB3 : Hid (Below W.heap.size W w3) := Lib.hid (below_then (by repeat (first | exact HB2.out | apply below_new | apply below_draws)) hb)
    clear hb HB2
    obtain ⟨zAA, cAA0, cAA1, cAA2, cAA3, cAA4, cAA5⟩ := AA.out
    have nAA : ¬ p = w3.heap.size := by omega
    obtain ⟨zCC, cCC0, cCC1, cCC2, cCC3, cCC4, cCC5⟩ := CC.out
    have nCC : ¬ W.heap.size = w3.heap.size := by omega
    go_wp2_with fail
    clear zAA nAA cAA0 cAA1 cAA2 cAA3 cAA4 cAA5
    clear zCC nCC cCC0 cCC1 cCC2 cCC3 cCC4 cCC5
    refine (fixed_true _).mono ?_
    rintro e w4 ⟨rfl, hb⟩
    clear AA
    clear CC
    have HB4 : Hid (Below W.heap.size W w4) := Lib.hid (below_then (by repeat (first | exact HB3.out | apply below_new | apply below_draws)) hb)
    clear hb HB3
    go_wp2_with fail
    go_ret
    exact ⟨rfl, (by repeat (first | exact HB4.out | apply below_new | apply below_draws))⟩)

set_option maxRecDepth 100000 in
set_option maxHeartbeats 3200000 in
theorem capsGuards_kind (c : Cp) (i : Int) (n : Int) (v m : Nat) (hm : m ≤ 63) (hA : bits .and .i64 n 63 = (m : Int)) (hX : bits .and .u64 (v : Int) (msk m) = (lowN v m : Int)) (hm1 : guaU c (lowN v m) (m : Int) = (zero, i)) (hi : (i != 0) = true) (hok : c.Ok) (hk : (c.k != 2) = true) (hg : Word c.g) (hvm : Word (lowN v m)) (W : World) :
    Calls Try.prog 4 #[(.agg #[.int .i64 c.k, .int .i64 c.o, .int .i64 c.r, .int .u64 c.b, .int .u64 c.g, .int .i64 c.n]), .int .u64 v, .int .i64 n] W fun e w' => e = .returned (.bool true) ∧ Below W.heap.size W w' := by
  have hS := low_spelt m (by omega)
  have m1 : ∀ w : World, Calls Try.prog 13 #[(.agg #[.int .i64 c.k, .int .i64 c.o, .int .i64 c.r, .int .u64 c.b, .int .u64 c.g, .int .i64 c.n]), .int .u64 (lowN v m), .int .i64 (m : Int)] w fun e w' => e = .returned (.tuple #[(.agg #[.int .i64 0, .int .i64 0, .int .i64 0, .int .u64 0, .int .u64 0, .int .i64 0]), .int .i64 i]) ∧ Below w.heap.size w w' := fun w => by
    have h := guarded_any c (lowN v m) (m : Int) hg hvm w
    rw [hm1] at h
    exact h
  have M1 := Lib.hid m1
  clear m1
  have HOK := Lib.hid hok
  clear hok
  have q1 : ∀ w : World, (Op.equalIn 10000 24 (.agg #[.int .i64 0, .int .i64 0, .int .i64 0, .int .u64 0, .int .u64 0, .int .i64 0]) (.agg #[.int .i64 0, .int .i64 0, .int .i64 0, .int .u64 0, .int .u64 0, .int .i64 0])).run Try.prog w = .ok true w := fun w => eq_self zero w
  clear hm1
  go_enter Try.func4, Try.ntmps4
  go_wp2_with fail
  go_region_with (go_at_call 13; refine (M1.out _).mono ?_; rintro e w1 ⟨rfl, hb⟩; first | (have hz : W.heap.size + 1 < w1.heap.size := (by have := hb.size; simp at this; omega); have r0 : w1.cell? ⟨W.heap.size + 1, 0, none⟩ = some (.int .i64 0) := ((hb.cell (p := ⟨W.heap.size + 1, 0, none⟩) (by simp)).trans (by simp [go_sem])); have s0 : w1.frozen? ⟨W.heap.size + 1, 0, none⟩ = false := ((hb.frozen (p := ⟨W.heap.size + 1, 0, none⟩) (by simp)).trans (by simp [go_sem])); have r1 : w1.cell? ⟨W.heap.size + 1, 1, none⟩ = some (.int .i64 0) := ((hb.cell (p := ⟨W.heap.size + 1, 1, none⟩) (by simp)).trans (by simp [go_sem])); have s1 : w1.frozen? ⟨W.heap.size + 1, 1, none⟩ = false := ((hb.frozen (p := ⟨W.heap.size + 1, 1, none⟩) (by simp)).trans (by simp [go_sem])); have r2 : w1.cell? ⟨W.heap.size + 1, 2, none⟩ = some (.int .i64 0) := ((hb.cell (p := ⟨W.heap.size + 1, 2, none⟩) (by simp)).trans (by simp [go_sem])); have s2 : w1.frozen? ⟨W.heap.size + 1, 2, none⟩ = false := ((hb.frozen (p := ⟨W.heap.size + 1, 2, none⟩) (by simp)).trans (by simp [go_sem])); have r3 : w1.cell? ⟨W.heap.size + 1, 3, none⟩ = some (.int .u64 0) := ((hb.cell (p := ⟨W.heap.size + 1, 3, none⟩) (by simp)).trans (by simp [go_sem])); have s3 : w1.frozen? ⟨W.heap.size + 1, 3, none⟩ = false := ((hb.frozen (p := ⟨W.heap.size + 1, 3, none⟩) (by simp)).trans (by simp [go_sem])); have r4 : w1.cell? ⟨W.heap.size + 1, 4, none⟩ = some (.int .u64 0) := ((hb.cell (p := ⟨W.heap.size + 1, 4, none⟩) (by simp)).trans (by simp [go_sem])); have s4 : w1.frozen? ⟨W.heap.size + 1, 4, none⟩ = false := ((hb.frozen (p := ⟨W.heap.size + 1, 4, none⟩) (by simp)).trans (by simp [go_sem])); have r5 : w1.cell? ⟨W.heap.size + 1, 5, none⟩ = some (.int .i64 0) := ((hb.cell (p := ⟨W.heap.size + 1, 5, none⟩) (by simp)).trans (by simp [go_sem])); have s5 : w1.frozen? ⟨W.heap.size + 1, 5, none⟩ = false := ((hb.frozen (p := ⟨W.heap.size + 1, 5, none⟩) (by simp)).trans (by simp [go_sem]))) | skip)
  all_goals (first
    | (have hz' := hz
       have HC0 : Box w1 W.heap.size c := Box.keep hb (Box.drew (Box.alloc (Box.new _ c)))
       have HBW : Below W.heap.size W w1 := below_then ((below_new (below_new (Below.refl _ _) _) _).drew) hb
       have HB6 := below_put (below_put (below_put (below_put (below_put (below_put HBW ⟨W.heap.size + 1, 0, none⟩ (.int .i64 zero.k) (by simp)) ⟨W.heap.size + 1, 1, none⟩ (.int .i64 zero.o) (by simp)) ⟨W.heap.size + 1, 2, none⟩ (.int .i64 zero.r) (by simp)) ⟨W.heap.size + 1, 3, none⟩ (.int .u64 zero.b) (by simp)) ⟨W.heap.size + 1, 4, none⟩ (.int .u64 zero.g) (by simp)) ⟨W.heap.size + 1, 5, none⟩ (.int .i64 zero.n) (by simp)
       have HC6 := Box.other (Box.other (Box.other (Box.other (Box.other (Box.other HC0 (p := ⟨W.heap.size + 1, 0, none⟩) (v := .int .i64 zero.k) (by simp)) (p := ⟨W.heap.size + 1, 1, none⟩) (v := .int .i64 zero.o) (by simp)) (p := ⟨W.heap.size + 1, 2, none⟩) (v := .int .i64 zero.r) (by simp)) (p := ⟨W.heap.size + 1, 3, none⟩) (v := .int .u64 zero.b) (by simp)) (p := ⟨W.heap.size + 1, 4, none⟩) (v := .int .u64 zero.g) (by simp)) (p := ⟨W.heap.size + 1, 5, none⟩) (v := .int .i64 zero.n) (by simp)
       have HA6 := Box.stored (c := zero) hz r0 r1 r2 r3 r4 r5
       clear r0 r1 r2 r3 r4 r5 s0 s1 s2 s3 s4 s5
       refine gen_world (fun w' => Box w' (W.heap.size + 1) zero ∧ Box w' W.heap.size c ∧ Below W.heap.size W w') ⟨HA6, HC6, HB6⟩ ?_
       clear HA6 HC6 HB6 HC0 HBW hz
       rintro w2 ⟨hA, hC, hB⟩
       generalize W.heap.size + 1 = p at hA ⊢)
    | (have HC0 : Box w1 W.heap.size c := Box.keep hb (Box.drew (Box.new _ c))
       have HBW : Below W.heap.size W w1 := below_then ((below_new (Below.refl _ _) _).drew) hb
       refine gen_world (fun w' => Box w' w1.heap.size zero ∧ Box w' W.heap.size c ∧ Below W.heap.size W w') ⟨Box.new _ zero, Box.alloc HC0, below_new HBW _⟩ ?_
       clear HC0 HBW
       rintro w2 ⟨hA, hC, hB⟩
       generalize w1.heap.size = p at hA ⊢))
  all_goals (
    have AA := Lib.hid hA
    have CC := Lib.hid hC
    have HB2 := Lib.hid hB
    clear hA hC hB)
  all_goals (
    obtain ⟨zAA, cAA0, cAA1, cAA2, cAA3, cAA4, cAA5⟩ := AA.out
    have nAA : ¬ p = w2.heap.size := by omega
    obtain ⟨zCC, cCC0, cCC1, cCC2, cCC3, cCC4, cCC5⟩ := CC.out
    have nCC : ¬ W.heap.size = w2.heap.size := by omega
    go_wp2_with fail
    clear zAA nAA cAA0 cAA1 cAA2 cAA3 cAA4 cAA5
    clear zCC nCC cCC0 cCC1 cCC2 cCC3 cCC4 cCC5
    refine ((check_okb c hg HOK.out) _).mono ?_
    rintro e w3 ⟨rfl, hb⟩
    have AA' : Box w3 (p) zero := Box.keep hb (by repeat (first | exact AA.out | exact Box.new _ zero | exact Box.new_at (c := zero) (by simp) | apply Box.alloc))
    clear AA
    have AA := Lib.hid AA'
    clear AA'
    have CC' : Box w3 (W.heap.size) c := Box.keep hb (by repeat (first | exact CC.out | exact Box.new _ c | exact Box.new_at (c := c) (by simp) | apply Box.alloc))
    clear CC
    have CC := Lib.hid CC'
    clear CC'
    have HB3 : Hid (Below W.heap.size W w3) := Lib.hid (below_then (by repeat (first | exact HB2.out | apply below_new | apply below_draws)) hb)
    clear hb HB2
    obtain ⟨zAA, cAA0, cAA1, cAA2, cAA3, cAA4, cAA5⟩ := AA.out
    have nAA : ¬ p = w3.heap.size := by omega
    obtain ⟨zCC, cCC0, cCC1, cCC2, cCC3, cCC4, cCC5⟩ := CC.out
    have nCC : ¬ W.heap.size = w3.heap.size := by omega
    go_wp2_with fail
    clear zAA nAA cAA0 cAA1 cAA2 cAA3 cAA4 cAA5
    clear zCC nCC cCC0 cCC1 cCC2 cCC3 cCC4 cCC5
    refine (fixed_true _).mono ?_
    rintro e w4 ⟨rfl, hb⟩
    clear AA
    clear CC
    have HB4 : Hid (Below W.heap.size W w4) := Lib.hid (below_then (by repeat (first | exact HB3.out | apply below_new | apply below_draws)) hb)
    clear hb HB3
    go_wp2_with fail
    go_ret
    exact ⟨rfl, (by repeat (first | exact HB4.out | apply below_new | apply below_draws))⟩)

theorem capsGuards_walk (c : Cp) (n : Int) (v : Nat) (hg : Word c.g) (hv : Word v) (W : World) :
    Calls Try.prog 4 #[(.agg #[.int .i64 c.k, .int .i64 c.o, .int .i64 c.r, .int .u64 c.b, .int .u64 c.g, .int .i64 c.n]), .int .u64 v, .int .i64 n] W fun e w' => e = .returned (.bool true) ∧ Below W.heap.size W w' := by
  obtain ⟨m, hm, hA⟩ := and63 n
  have hX := low_and v m hv (by omega)
  have hvm := lowN_word v m (by omega)
  obtain ⟨⟨a, i⟩, hm1⟩ : ∃ q, guaU c (lowN v m) (m : Int) = q := ⟨_, rfl⟩
  by_cases hi : i = 0
  · subst hi
    obtain ⟨e1, e2, e3, e4, e5, e6⟩ := guard_good hm1
    exact capsGuards_good c a n v m hm hA hX hm1 e1 e6 e5 (by simp [e2]) (by simp [e3]) (by simp [e4]) hg (guard_words hvm hm1) hvm W
  · have hz := guard_zero hm1 hi
    subst hz
    have hgb : guaB (lowN v m) (m : Int) = true := decide_eq_true ⟨by omega, by omega, by simpa using lowN_lt v m⟩
    have hi' : (i != 0) = true := by simpa using hi
    by_cases ok : c.Ok
    · rcases guard_why hm1 hi hgb with h | h
      · exact absurd ok h
      · exact capsGuards_kind c i n v m hm hA hX hm1 hi' ok (by simpa using h) hg hvm W
    · exact capsGuards_form c i n v m hm hA hX hm1 hi' ok hg hvm W


set_option maxRecDepth 100000 in
theorem capsGuards_lifted (os : Os) (started : os.Started) (H : Type) (enc : TypeId × Value → H) :
    ReturnsInHanded {} Try.checked os 4 .any (Rows.capsGuardsSpec.pre6 enc Try.prog Try.f4 Rows.capsGuardsRow.domain false) (Rows.capsGuardsSpec.post enc Try.prog Try.f4 false true false false) := by
  refine returnsInHanded_of_change (C := Try.checked) own_knob started (by kernel_rfl) Try.func4
    (ChangeSpec.witness6 (enc := enc) (C := Try.checked) false ⟨#[], #[.agg #[.int .i64 0, .int .i64 0, .int .i64 0, .int .u64 0, .int .u64 0, .int .i64 0], .int .u64 0, .int .i64 0], []⟩ 8 (by kernel_rfl) (by kernel_rfl) (by kernel_rfl) (by kernel_rfl)) ?_
  intro W base args ds gs before hval0 hW hcnd _
  have hval : ∀ (j : Nat) t v, Try.f4.params[j]? = some t → args[j]? = some v → Value.okWide Try.prog W .any base t v := hval0
  have hW' := hW
  obtain ⟨p, q, hA0, hV, rfl, hfz, hnd⟩ := hW
  have hA : DataW.TrodAll enc Try.prog W 0 (fun _ => true) true Try.f4.params.toList args.toList ds p := hA0
  rw [Try.params4] at hA hval
  obtain ⟨v0, v1, v2, d0, d1, d2, p0, p1, p2, rfl, rfl, rfl, h0, h1, h2⟩ := trodAll_three hA
  obtain ⟨rfl, rfl⟩ := trodVars_none hV
  clear hA0 hval0
  simp only [List.append_nil] at hW'
  have hlt : ∀ x ∈ p0 ++ p1 ++ p2, x.block < W.heap.size := fun x hx => by simpa using hW'.lt x hx
  have g0 : ∀ W' : World, Below W.heap.size W W' → DataW.Trod enc Try.prog W' 0 (fun b => decide (b < W.heap.size)) true 24 v0 d0 p0 :=
    fun W' hn => Below.trod laid_out (by kernel_rfl) (of_decide_eq_true (by kernel_rfl)) h0 hn (fun x hx => hlt x (by simp [hx]))
  have g1 : ∀ W' : World, Below W.heap.size W W' → DataW.Trod enc Try.prog W' 0 (fun b => decide (b < W.heap.size)) true 22 v1 d1 p1 :=
    fun W' hn => Below.trod laid_out (by kernel_rfl) (of_decide_eq_true (by kernel_rfl)) h1 hn (fun x hx => hlt x (by simp [hx]))
  have g2 : ∀ W' : World, Below W.heap.size W W' → DataW.Trod enc Try.prog W' 0 (fun b => decide (b < W.heap.size)) true 3 v2 d2 p2 :=
    fun W' hn => Below.trod laid_out (by kernel_rfl) (of_decide_eq_true (by kernel_rfl)) h2 hn (fun x hx => hlt x (by simp [hx]))
  obtain ⟨c, rfl, l0b, l0g⟩ := open_cap (hval 0 24 v0 rfl rfl) h0
  obtain ⟨i1, rfl, _, _, w1⟩ := open_int Try.underlying22 (hval 1 22 v1 rfl rfl) h1
  obtain ⟨v, rfl, l1⟩ := word_of_wf w1
  obtain ⟨n, rfl, _, _, w2⟩ := open_int Try.underlying3 (hval 2 3 v2 rfl rfl) h2
  have l2 := int_of_wf w2
  refine (capsGuards_walk c n v l0g ⟨l1⟩ W).mono fun e W' ⟨he, hn⟩ => ?_
  subst he
  exact ⟨_, rfl, _, _, _, [], p0 ++ p1 ++ p2, [], hW', trodAll_mk1 (shut_bool Try.underlying4 true), (by rw [List.append_assoc p0 p1 p2]; exact trodAll_mk3 (g0 W' hn) (g1 W' hn) (g2 W' hn)), rfl, hn.frame _, fun h => by cases h⟩

theorem capsGuards_holds : Rows.CapsGuardsSaid :=
  OpenClaim.holds_of_wide 4 Try.f4 rfl rfl rfl rfl rfl rfl rfl ⟨rfl, rfl, rfl, rfl, rfl⟩ rfl rfl rfl rfl rfl (by kernel_rfl) Try.func4 (by kernel_rfl)
    (of_decide_eq_true (by kernel_rfl)) (by unfold Func.isWrapper; first | (rw [if_pos (by decide +kernel)]; kernel_rfl) | (rw [if_neg (by decide +kernel)]; exact ⟨rfl, rfl⟩))
    (fun os started H enc _ => capsGuards_lifted os started H enc)
#print axioms capsGuards_holds
end Go.Proofs.Ythgiofgedeijoaa
