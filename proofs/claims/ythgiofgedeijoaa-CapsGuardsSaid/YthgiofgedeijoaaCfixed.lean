/- The fixed calls: their contracts, and that 'fixed' returns true, over the translation. -/
import Derived.Test.YthgiofgedeijoaaCuni
set_option linter.unusedVariables false
set_option linter.unusedSimpArgs false
namespace Go.Proofs.Ythgiofgedeijoaa
open Go.RowKit Wd Cd

theorem end_ok : Cp.Ok ⟨4, 3, 7, 0, 0, 0⟩ := .inr ⟨by decide, by decide, by decide, by decide, by decide, by decide, by decide, by decide, by decide⟩
theorem a5_ok : Cp.Ok ⟨4, 3, 1, 5, 0, 0⟩ := .inr ⟨by decide, by decide, by decide, by decide, by decide, by decide, by decide, by decide, by decide⟩
theorem node_ok : Cp.Ok ⟨2, 0, 7, 0, 0, 0⟩ := .inr ⟨by decide, by decide, by decide, by decide, by decide, by decide, by decide, by decide, by decide⟩
theorem thread_no : ¬ Cp.Ok ⟨3, 0, 0, 0, 0, 0⟩ := by
  rintro (h | h)
  · exact absurd h (by decide)
  · exact absurd h.lim (by decide)
theorem form15_no : ¬ Cp.Ok ⟨15, 0, 0, 0, 0, 0⟩ := by
  rintro (h | h)
  · exact absurd h (by decide)
  · exact absurd h.k2 (by decide)
theorem w0 : Word 0 := ⟨by decide⟩
theorem w5 : Word 5 := ⟨by decide⟩
theorem w15 : Word 15 := ⟨by decide⟩
theorem wp : Word 196628 := ⟨by decide⟩
theorem u_mint : mintU ⟨4, 3, 7, 0, 0, 0⟩ 1 5 = (⟨4, 3, 1, 5, 0, 0⟩, 0) := by
  rw [mintU, if_pos end_ok, if_pos (by decide), if_neg (by decide)]
  simp [limB]
  decide +kernel
theorem u_again : mintU ⟨4, 3, 1, 5, 0, 0⟩ 7 6 = (zero, 41) := by
  rw [mintU, if_pos a5_ok, if_pos (by decide), if_pos (by decide)]
theorem u_guard : guaU ⟨2, 0, 7, 0, 0, 0⟩ 5 3 = (⟨2, 0, 7, 0, 5, 3⟩, 0) := by
  rw [guaU, if_pos node_ok, if_pos rfl, if_pos (by decide)]
theorem u_kind : guaU ⟨4, 3, 7, 0, 0, 0⟩ 0 0 = (zero, 41) := by
  rw [guaU, if_pos end_ok, if_neg (by decide)]
theorem u_pack : packU ⟨4, 3, 1, 5, 0, 0⟩ = (196628, 5, 0) := by
  rw [packU, if_pos a5_ok]
  have e : pk 4 1 0 3 4 = 196628 := by
    rw [pk_sum 4 1 0 3 (by decide) (by decide) (by decide) (by decide)]
  show (pk 4 1 0 3 4, (5 : Nat), (0 : Int)) = _
  rw [e]
theorem u_unpack : unpU 196628 5 = (⟨4, 3, 1, 5, 0, 0⟩, 0) := by
  have e : rawC 196628 5 = ⟨4, 3, 1, 5, 0, 0⟩ := by rw [rawC, if_neg (by decide)]; rfl
  rw [unpU, if_pos, e]
  refine ⟨by rw [e]; exact a5_ok, ?_⟩
  show pk 4 1 0 3 4 = 196628
  rw [pk_sum 4 1 0 3 (by decide) (by decide) (by decide) (by decide)]
theorem u_15 : unpU 15 0 = (zero, 40) := by
  have e : rawC 15 0 = ⟨15, 0, 0, 0, 0, 0⟩ := by rw [rawC, if_neg (by decide)]; rfl
  rw [unpU, if_neg]
  rw [e]
  exact fun h => form15_no h.1
theorem x_mint (w : World) : Calls Try.prog 11 #[(.agg #[.int .i64 4, .int .i64 3, .int .i64 7, .int .u64 0, .int .u64 0, .int .i64 0]), .int .i64 1, .int .u64 5] w fun e w' => e = .returned (.tuple #[(.agg #[.int .i64 4, .int .i64 3, .int .i64 1, .int .u64 5, .int .u64 0, .int .i64 0]), .int .i64 0]) ∧ Below w.heap.size w w' := by
  have h := mint_any ⟨4, 3, 7, 0, 0, 0⟩ 1 5 w0 w
  rw [u_mint] at h
  exact h
theorem x_again (w : World) : Calls Try.prog 11 #[(.agg #[.int .i64 4, .int .i64 3, .int .i64 1, .int .u64 5, .int .u64 0, .int .i64 0]), .int .i64 7, .int .u64 6] w fun e w' => e = .returned (.tuple #[(.agg #[.int .i64 0, .int .i64 0, .int .i64 0, .int .u64 0, .int .u64 0, .int .i64 0]), .int .i64 41]) ∧ Below w.heap.size w w' := by
  have h := mint_any ⟨4, 3, 1, 5, 0, 0⟩ 7 6 w0 w
  rw [u_again] at h
  exact h
theorem x_guard (w : World) : Calls Try.prog 13 #[(.agg #[.int .i64 2, .int .i64 0, .int .i64 7, .int .u64 0, .int .u64 0, .int .i64 0]), .int .u64 5, .int .i64 3] w fun e w' => e = .returned (.tuple #[(.agg #[.int .i64 2, .int .i64 0, .int .i64 7, .int .u64 0, .int .u64 5, .int .i64 3]), .int .i64 0]) ∧ Below w.heap.size w w' := by
  have h := guarded_any ⟨2, 0, 7, 0, 0, 0⟩ 5 3 w0 w5 w
  rw [u_guard] at h
  exact h
theorem x_kind (w : World) : Calls Try.prog 13 #[(.agg #[.int .i64 4, .int .i64 3, .int .i64 7, .int .u64 0, .int .u64 0, .int .i64 0]), .int .u64 0, .int .i64 0] w fun e w' => e = .returned (.tuple #[(.agg #[.int .i64 0, .int .i64 0, .int .i64 0, .int .u64 0, .int .u64 0, .int .i64 0]), .int .i64 41]) ∧ Below w.heap.size w w' := by
  have h := guarded_any ⟨4, 3, 7, 0, 0, 0⟩ 0 0 w0 w0 w
  rw [u_kind] at h
  exact h
theorem x_pack (w : World) : Calls Try.prog 18 #[(.agg #[.int .i64 4, .int .i64 3, .int .i64 1, .int .u64 5, .int .u64 0, .int .i64 0])] w fun e w' => e = .returned (.tuple #[(.agg #[.int .u64 196628, .int .u64 5]), .int .i64 0]) ∧ Below w.heap.size w w' := by
  have h := pack_any ⟨4, 3, 1, 5, 0, 0⟩ w5 w0 w
  rw [u_pack] at h
  exact h
theorem x_unpack (w : World) : Calls Try.prog 20 #[(.agg #[.int .u64 196628, .int .u64 5])] w fun e w' => e = .returned (.tuple #[(.agg #[.int .i64 4, .int .i64 3, .int .i64 1, .int .u64 5, .int .u64 0, .int .i64 0]), .int .i64 0]) ∧ Below w.heap.size w w' := by
  have h := unpack_any 196628 5 wp w5 w
  rw [u_unpack] at h
  exact h
theorem x_15 (w : World) : Calls Try.prog 20 #[(.agg #[.int .u64 15, .int .u64 0])] w fun e w' => e = .returned (.tuple #[(.agg #[.int .i64 0, .int .i64 0, .int .i64 0, .int .u64 0, .int .u64 0, .int .i64 0]), .int .i64 40]) ∧ Below w.heap.size w w' := by
  have h := unpack_any 15 0 w15 w0 w
  rw [u_15] at h
  exact h
theorem x_der (w : World) : Calls Try.prog 22 #[(.agg #[.int .i64 4, .int .i64 3, .int .i64 7, .int .u64 0, .int .u64 0, .int .i64 0]), (.agg #[.int .i64 4, .int .i64 3, .int .i64 1, .int .u64 5, .int .u64 0, .int .i64 0])] w fun e w' => e = .returned (.bool true) ∧ Below w.heap.size w w' := by
  have h := derives_any ⟨4, 3, 7, 0, 0, 0⟩ ⟨4, 3, 1, 5, 0, 0⟩ w
  rw [show derB ⟨4, 3, 7, 0, 0, 0⟩ ⟨4, 3, 1, 5, 0, 0⟩ = true by decide +kernel] at h
  exact h
theorem x_red (w : World) : Calls Try.prog 22 #[(.agg #[.int .i64 4, .int .i64 3, .int .i64 1, .int .u64 5, .int .u64 0, .int .i64 0]), (.agg #[.int .i64 4, .int .i64 3, .int .i64 7, .int .u64 0, .int .u64 0, .int .i64 0])] w fun e w' => e = .returned (.bool false) ∧ Below w.heap.size w w' := by
  have h := derives_any ⟨4, 3, 1, 5, 0, 0⟩ ⟨4, 3, 7, 0, 0, 0⟩ w
  rw [show derB ⟨4, 3, 1, 5, 0, 0⟩ ⟨4, 3, 7, 0, 0, 0⟩ = false by decide +kernel] at h
  exact h
theorem same_below (a b : Cp) (w : World) : Calls Try.prog 15 #[(.agg #[.int .i64 a.k, .int .i64 a.o, .int .i64 a.r, .int .u64 a.b, .int .u64 a.g, .int .i64 a.n]), (.agg #[.int .i64 b.k, .int .i64 b.o, .int .i64 b.r, .int .u64 b.b, .int .u64 b.g, .int .i64 b.n])] w fun e w' => e = .returned (.bool (sameB a b)) ∧ Below w.heap.size w w' := by
  refine (same_any a b w).mono ?_
  rintro e w' ⟨rfl, rfl⟩
  exact ⟨rfl, below_new (below_new (Below.refl _ _) _) _⟩
theorem x_same (w : World) : Calls Try.prog 15 #[(.agg #[.int .i64 4, .int .i64 3, .int .i64 1, .int .u64 5, .int .u64 0, .int .i64 0]), (.agg #[.int .i64 4, .int .i64 3, .int .i64 7, .int .u64 0, .int .u64 0, .int .i64 0])] w fun e w' => e = .returned (.bool true) ∧ Below w.heap.size w w' := by
  have h := same_below ⟨4, 3, 1, 5, 0, 0⟩ ⟨4, 3, 7, 0, 0, 0⟩ w
  rw [show sameB ⟨4, 3, 1, 5, 0, 0⟩ ⟨4, 3, 7, 0, 0, 0⟩ = true by decide +kernel] at h
  exact h
theorem x_thread (w : World) : Calls Try.prog 14 #[(.agg #[.int .i64 3, .int .i64 0, .int .i64 0, .int .u64 0, .int .u64 0, .int .i64 0])] w fun e w' => e = .returned (.int .i64 40) ∧ Below w.heap.size w w' := by
  refine (check_bad ⟨3, 0, 0, 0, 0, 0⟩ w0 thread_no w).mono ?_
  rintro e w' ⟨rfl, rfl⟩
  exact ⟨rfl, below_new (Below.refl _ _) _⟩

def Box (w : World) (b : Nat) (c : Cp) : Prop := b < w.heap.size ∧ w.cell? ⟨b, 0, none⟩ = some (.int .i64 c.k) ∧ w.cell? ⟨b, 1, none⟩ = some (.int .i64 c.o) ∧ w.cell? ⟨b, 2, none⟩ = some (.int .i64 c.r) ∧ w.cell? ⟨b, 3, none⟩ = some (.int .u64 c.b) ∧ w.cell? ⟨b, 4, none⟩ = some (.int .u64 c.g) ∧ w.cell? ⟨b, 5, none⟩ = some (.int .i64 c.n)
def Duo (w : World) (b : Nat) (c : Nat × Nat) : Prop := b < w.heap.size ∧ w.cell? ⟨b, 0, none⟩ = some (.int .u64 c.1) ∧ w.cell? ⟨b, 1, none⟩ = some (.int .u64 c.2)
theorem Box.new (w : World) (c : Cp) : Box (w.alloc (.cells #[.int .i64 c.k, .int .i64 c.o, .int .i64 c.r, .int .u64 c.b, .int .u64 c.g, .int .i64 c.n] 24)) w.heap.size c :=
  ⟨by simp, by simp [go_sem], by simp [go_sem], by simp [go_sem], by simp [go_sem], by simp [go_sem], by simp [go_sem]⟩
theorem Box.alloc {w : World} {b : Nat} {c : Cp} {o : Obj} (h : Box w b c) : Box (w.alloc o) b c :=
  ⟨by have := h.1; simp; omega, cell_new h.2.1, cell_new h.2.2.1, cell_new h.2.2.2.1, cell_new h.2.2.2.2.1, cell_new h.2.2.2.2.2.1, cell_new h.2.2.2.2.2.2⟩
theorem Box.keep {w w' : World} {b : Nat} {c : Cp} (k : Below w.heap.size w w') (h : Box w b c) : Box w' b c :=
  ⟨Nat.lt_of_lt_of_le h.1 k.size, (k.cell (p := ⟨b, 0, none⟩) h.1).trans h.2.1, (k.cell (p := ⟨b, 1, none⟩) h.1).trans h.2.2.1, (k.cell (p := ⟨b, 2, none⟩) h.1).trans h.2.2.2.1, (k.cell (p := ⟨b, 3, none⟩) h.1).trans h.2.2.2.2.1, (k.cell (p := ⟨b, 4, none⟩) h.1).trans h.2.2.2.2.2.1, (k.cell (p := ⟨b, 5, none⟩) h.1).trans h.2.2.2.2.2.2⟩
theorem Duo.new (w : World) (c : Nat × Nat) : Duo (w.alloc (.cells #[.int .u64 c.1, .int .u64 c.2] 35)) w.heap.size c :=
  ⟨by simp, by simp [go_sem], by simp [go_sem]⟩
theorem Duo.alloc {w : World} {b : Nat} {c : Nat × Nat} {o : Obj} (h : Duo w b c) : Duo (w.alloc o) b c :=
  ⟨by have := h.1; simp; omega, cell_new h.2.1, cell_new h.2.2⟩
theorem Duo.keep {w w' : World} {b : Nat} {c : Nat × Nat} (k : Below w.heap.size w w') (h : Duo w b c) : Duo w' b c :=
  ⟨Nat.lt_of_lt_of_le h.1 k.size, (k.cell (p := ⟨b, 0, none⟩) h.1).trans h.2.1, (k.cell (p := ⟨b, 1, none⟩) h.1).trans h.2.2⟩
set_option maxRecDepth 100000 in
set_option maxHeartbeats 6400000 in
theorem fixed_true (w : World) : Calls Try.prog 12 #[] w fun e w' => e = .returned (.bool true) ∧ Below w.heap.size w w' := by
  have q1 : ∀ w : World, (Op.equalIn 10000 24 (.agg #[.int .i64 4, .int .i64 3, .int .i64 1, .int .u64 5, .int .u64 0, .int .i64 0]) (.agg #[.int .i64 4, .int .i64 3, .int .i64 1, .int .u64 5, .int .u64 0, .int .i64 0])).run Try.prog w = .ok true w := fun w => by
    have h := eq_caps ⟨4, 3, 1, 5, 0, 0⟩ ⟨4, 3, 1, 5, 0, 0⟩ w
    rw [show eqB ⟨4, 3, 1, 5, 0, 0⟩ ⟨4, 3, 1, 5, 0, 0⟩ = true by decide] at h
    exact h
  have q2 : ∀ w : World, (Op.equalIn 10000 35 (.agg #[.int .u64 196628, .int .u64 5]) (.agg #[.int .u64 196628, .int .u64 5])).run Try.prog w = .ok true w := fun w => pairs_eq 196628 5 w
  go_enter Try.func12, Try.ntmps12
  go_wp2_with fail
  refine (x_mint _).mono ?_
  rintro e w1 ⟨rfl, hb⟩
  have EE' : Box w1 (w.heap.size) ⟨4, 3, 7, 0, 0, 0⟩ := Box.keep hb (by repeat (first | fail | exact Box.new _ ⟨4, 3, 7, 0, 0, 0⟩ | apply Box.alloc))
  have EE := Lib.hid EE'
  clear EE'
  have HB1 : Hid (Below w.heap.size w w1) := Lib.hid (below_then (by repeat (first | exact (Below.refl _ _) | apply below_new)) hb)
  clear hb
  go_wp2_with fail
  refine (x_again _).mono ?_
  rintro e w2 ⟨rfl, hb⟩
  have EE' : Box w2 (w.heap.size) ⟨4, 3, 7, 0, 0, 0⟩ := Box.keep hb (by repeat (first | exact EE.out | exact Box.new _ ⟨4, 3, 7, 0, 0, 0⟩ | apply Box.alloc))
  clear EE
  have EE := Lib.hid EE'
  clear EE'
  have AA' : Box w2 (w1.heap.size) ⟨4, 3, 1, 5, 0, 0⟩ := Box.keep hb (by repeat (first | fail | exact Box.new _ ⟨4, 3, 1, 5, 0, 0⟩ | apply Box.alloc))
  have AA := Lib.hid AA'
  clear AA'
  have HB2 : Hid (Below w.heap.size w w2) := Lib.hid (below_then (by repeat (first | exact HB1.out | apply below_new)) hb)
  clear hb HB1
  go_wp2_with fail
  refine (x_guard _).mono ?_
  rintro e w3 ⟨rfl, hb⟩
  have EE' : Box w3 (w.heap.size) ⟨4, 3, 7, 0, 0, 0⟩ := Box.keep hb (by repeat (first | exact EE.out | exact Box.new _ ⟨4, 3, 7, 0, 0, 0⟩ | apply Box.alloc))
  clear EE
  have EE := Lib.hid EE'
  clear EE'
  have AA' : Box w3 (w1.heap.size) ⟨4, 3, 1, 5, 0, 0⟩ := Box.keep hb (by repeat (first | exact AA.out | exact Box.new _ ⟨4, 3, 1, 5, 0, 0⟩ | apply Box.alloc))
  clear AA
  have AA := Lib.hid AA'
  clear AA'
  have HB3 : Hid (Below w.heap.size w w3) := Lib.hid (below_then (by repeat (first | exact HB2.out | apply below_new)) hb)
  clear hb HB2
  obtain ⟨zEE, cEE0, cEE1, cEE2, cEE3, cEE4, cEE5⟩ := EE.out
  have nEE : ¬ w.heap.size = w3.heap.size := by omega
  go_wp2_with fail
  clear zEE nEE cEE0 cEE1 cEE2 cEE3 cEE4 cEE5
  refine (x_kind _).mono ?_
  rintro e w4 ⟨rfl, hb⟩
  have EE' : Box w4 (w.heap.size) ⟨4, 3, 7, 0, 0, 0⟩ := Box.keep hb (by repeat (first | exact EE.out | exact Box.new _ ⟨4, 3, 7, 0, 0, 0⟩ | apply Box.alloc))
  clear EE
  have EE := Lib.hid EE'
  clear EE'
  have AA' : Box w4 (w1.heap.size) ⟨4, 3, 1, 5, 0, 0⟩ := Box.keep hb (by repeat (first | exact AA.out | exact Box.new _ ⟨4, 3, 1, 5, 0, 0⟩ | apply Box.alloc))
  clear AA
  have AA := Lib.hid AA'
  clear AA'
  have GG' : Box w4 (w3.heap.size) ⟨2, 0, 7, 0, 5, 3⟩ := Box.keep hb (by repeat (first | fail | exact Box.new _ ⟨2, 0, 7, 0, 5, 3⟩ | apply Box.alloc))
  have GG := Lib.hid GG'
  clear GG'
  have HB4 : Hid (Below w.heap.size w w4) := Lib.hid (below_then (by repeat (first | exact HB3.out | apply below_new)) hb)
  clear hb HB3
  obtain ⟨zAA, cAA0, cAA1, cAA2, cAA3, cAA4, cAA5⟩ := AA.out
  have nAA : ¬ w1.heap.size = w4.heap.size := by omega
  go_wp2_with fail
  clear zAA nAA cAA0 cAA1 cAA2 cAA3 cAA4 cAA5
  refine (x_pack _).mono ?_
  rintro e w5 ⟨rfl, hb⟩
  have EE' : Box w5 (w.heap.size) ⟨4, 3, 7, 0, 0, 0⟩ := Box.keep hb (by repeat (first | exact EE.out | exact Box.new _ ⟨4, 3, 7, 0, 0, 0⟩ | apply Box.alloc))
  clear EE
  have EE := Lib.hid EE'
  clear EE'
  have AA' : Box w5 (w1.heap.size) ⟨4, 3, 1, 5, 0, 0⟩ := Box.keep hb (by repeat (first | exact AA.out | exact Box.new _ ⟨4, 3, 1, 5, 0, 0⟩ | apply Box.alloc))
  clear AA
  have AA := Lib.hid AA'
  clear AA'
  have GG' : Box w5 (w3.heap.size) ⟨2, 0, 7, 0, 5, 3⟩ := Box.keep hb (by repeat (first | exact GG.out | exact Box.new _ ⟨2, 0, 7, 0, 5, 3⟩ | apply Box.alloc))
  clear GG
  have GG := Lib.hid GG'
  clear GG'
  have HB5 : Hid (Below w.heap.size w w5) := Lib.hid (below_then (by repeat (first | exact HB4.out | apply below_new)) hb)
  clear hb HB4
  go_wp2_with fail
  refine (x_unpack _).mono ?_
  rintro e w6 ⟨rfl, hb⟩
  have EE' : Box w6 (w.heap.size) ⟨4, 3, 7, 0, 0, 0⟩ := Box.keep hb (by repeat (first | exact EE.out | exact Box.new _ ⟨4, 3, 7, 0, 0, 0⟩ | apply Box.alloc))
  clear EE
  have EE := Lib.hid EE'
  clear EE'
  have AA' : Box w6 (w1.heap.size) ⟨4, 3, 1, 5, 0, 0⟩ := Box.keep hb (by repeat (first | exact AA.out | exact Box.new _ ⟨4, 3, 1, 5, 0, 0⟩ | apply Box.alloc))
  clear AA
  have AA := Lib.hid AA'
  clear AA'
  have GG' : Box w6 (w3.heap.size) ⟨2, 0, 7, 0, 5, 3⟩ := Box.keep hb (by repeat (first | exact GG.out | exact Box.new _ ⟨2, 0, 7, 0, 5, 3⟩ | apply Box.alloc))
  clear GG
  have GG := Lib.hid GG'
  clear GG'
  have WW' : Duo w6 (w5.heap.size) (196628, 5) := Duo.keep hb (by repeat (first | fail | exact Duo.new _ (196628, 5) | apply Duo.alloc))
  have WW := Lib.hid WW'
  clear WW'
  have HB6 : Hid (Below w.heap.size w w6) := Lib.hid (below_then (by repeat (first | exact HB5.out | apply below_new)) hb)
  clear hb HB5
  go_wp2_with fail
  refine (x_15 _).mono ?_
  rintro e w7 ⟨rfl, hb⟩
  have EE' : Box w7 (w.heap.size) ⟨4, 3, 7, 0, 0, 0⟩ := Box.keep hb (by repeat (first | exact EE.out | exact Box.new _ ⟨4, 3, 7, 0, 0, 0⟩ | apply Box.alloc))
  clear EE
  have EE := Lib.hid EE'
  clear EE'
  have AA' : Box w7 (w1.heap.size) ⟨4, 3, 1, 5, 0, 0⟩ := Box.keep hb (by repeat (first | exact AA.out | exact Box.new _ ⟨4, 3, 1, 5, 0, 0⟩ | apply Box.alloc))
  clear AA
  have AA := Lib.hid AA'
  clear AA'
  have GG' : Box w7 (w3.heap.size) ⟨2, 0, 7, 0, 5, 3⟩ := Box.keep hb (by repeat (first | exact GG.out | exact Box.new _ ⟨2, 0, 7, 0, 5, 3⟩ | apply Box.alloc))
  clear GG
  have GG := Lib.hid GG'
  clear GG'
  have WW' : Duo w7 (w5.heap.size) (196628, 5) := Duo.keep hb (by repeat (first | exact WW.out | exact Duo.new _ (196628, 5) | apply Duo.alloc))
  clear WW
  have WW := Lib.hid WW'
  clear WW'
  have BB' : Box w7 (w6.heap.size) ⟨4, 3, 1, 5, 0, 0⟩ := Box.keep hb (by repeat (first | fail | exact Box.new _ ⟨4, 3, 1, 5, 0, 0⟩ | apply Box.alloc))
  have BB := Lib.hid BB'
  clear BB'
  have HB7 : Hid (Below w.heap.size w w7) := Lib.hid (below_then (by repeat (first | exact HB6.out | apply below_new)) hb)
  clear hb HB6
  obtain ⟨zEE, cEE0, cEE1, cEE2, cEE3, cEE4, cEE5⟩ := EE.out
  have nEE : ¬ w.heap.size = w7.heap.size := by omega
  obtain ⟨zAA, cAA0, cAA1, cAA2, cAA3, cAA4, cAA5⟩ := AA.out
  have nAA : ¬ w1.heap.size = w7.heap.size := by omega
  obtain ⟨zGG, cGG0, cGG1, cGG2, cGG3, cGG4, cGG5⟩ := GG.out
  have nGG : ¬ w3.heap.size = w7.heap.size := by omega
  obtain ⟨zWW, cWW0, cWW1⟩ := WW.out
  have nWW : ¬ w5.heap.size = w7.heap.size := by omega
  obtain ⟨zBB, cBB0, cBB1, cBB2, cBB3, cBB4, cBB5⟩ := BB.out
  have nBB : ¬ w6.heap.size = w7.heap.size := by omega
  go_wp2_with fail
  clear zEE nEE cEE0 cEE1 cEE2 cEE3 cEE4 cEE5
  clear zAA nAA cAA0 cAA1 cAA2 cAA3 cAA4 cAA5
  clear zGG nGG cGG0 cGG1 cGG2 cGG3 cGG4 cGG5
  clear zWW nWW cWW0 cWW1
  clear zBB nBB cBB0 cBB1 cBB2 cBB3 cBB4 cBB5
  refine (x_der _).mono ?_
  rintro e w8 ⟨rfl, hb⟩
  have EE' : Box w8 (w.heap.size) ⟨4, 3, 7, 0, 0, 0⟩ := Box.keep hb (by repeat (first | exact EE.out | exact Box.new _ ⟨4, 3, 7, 0, 0, 0⟩ | apply Box.alloc))
  clear EE
  have EE := Lib.hid EE'
  clear EE'
  have AA' : Box w8 (w1.heap.size) ⟨4, 3, 1, 5, 0, 0⟩ := Box.keep hb (by repeat (first | exact AA.out | exact Box.new _ ⟨4, 3, 1, 5, 0, 0⟩ | apply Box.alloc))
  clear AA
  have AA := Lib.hid AA'
  clear AA'
  clear GG
  clear WW
  clear BB
  have HB8 : Hid (Below w.heap.size w w8) := Lib.hid (below_then (by repeat (first | exact HB7.out | apply below_new)) hb)
  clear hb HB7
  obtain ⟨zEE, cEE0, cEE1, cEE2, cEE3, cEE4, cEE5⟩ := EE.out
  have nEE : ¬ w.heap.size = w8.heap.size := by omega
  obtain ⟨zAA, cAA0, cAA1, cAA2, cAA3, cAA4, cAA5⟩ := AA.out
  have nAA : ¬ w1.heap.size = w8.heap.size := by omega
  go_wp2_with fail
  clear zEE nEE cEE0 cEE1 cEE2 cEE3 cEE4 cEE5
  clear zAA nAA cAA0 cAA1 cAA2 cAA3 cAA4 cAA5
  refine (x_red _).mono ?_
  rintro e w9 ⟨rfl, hb⟩
  have EE' : Box w9 (w.heap.size) ⟨4, 3, 7, 0, 0, 0⟩ := Box.keep hb (by repeat (first | exact EE.out | exact Box.new _ ⟨4, 3, 7, 0, 0, 0⟩ | apply Box.alloc))
  clear EE
  have EE := Lib.hid EE'
  clear EE'
  have AA' : Box w9 (w1.heap.size) ⟨4, 3, 1, 5, 0, 0⟩ := Box.keep hb (by repeat (first | exact AA.out | exact Box.new _ ⟨4, 3, 1, 5, 0, 0⟩ | apply Box.alloc))
  clear AA
  have AA := Lib.hid AA'
  clear AA'
  have HB9 : Hid (Below w.heap.size w w9) := Lib.hid (below_then (by repeat (first | exact HB8.out | apply below_new)) hb)
  clear hb HB8
  obtain ⟨zEE, cEE0, cEE1, cEE2, cEE3, cEE4, cEE5⟩ := EE.out
  have nEE : ¬ w.heap.size = w9.heap.size := by omega
  obtain ⟨zAA, cAA0, cAA1, cAA2, cAA3, cAA4, cAA5⟩ := AA.out
  have nAA : ¬ w1.heap.size = w9.heap.size := by omega
  go_wp2_with fail
  clear zEE nEE cEE0 cEE1 cEE2 cEE3 cEE4 cEE5
  clear zAA nAA cAA0 cAA1 cAA2 cAA3 cAA4 cAA5
  refine (x_same _).mono ?_
  rintro e w10 ⟨rfl, hb⟩
  have EE' : Box w10 (w.heap.size) ⟨4, 3, 7, 0, 0, 0⟩ := Box.keep hb (by repeat (first | exact EE.out | exact Box.new _ ⟨4, 3, 7, 0, 0, 0⟩ | apply Box.alloc))
  clear EE
  have EE := Lib.hid EE'
  clear EE'
  have AA' : Box w10 (w1.heap.size) ⟨4, 3, 1, 5, 0, 0⟩ := Box.keep hb (by repeat (first | exact AA.out | exact Box.new _ ⟨4, 3, 1, 5, 0, 0⟩ | apply Box.alloc))
  clear AA
  have AA := Lib.hid AA'
  clear AA'
  have HB10 : Hid (Below w.heap.size w w10) := Lib.hid (below_then (by repeat (first | exact HB9.out | apply below_new)) hb)
  clear hb HB9
  go_wp2_with fail
  refine (x_thread _).mono ?_
  rintro e w11 ⟨rfl, hb⟩
  have EE' : Box w11 (w.heap.size) ⟨4, 3, 7, 0, 0, 0⟩ := Box.keep hb (by repeat (first | exact EE.out | exact Box.new _ ⟨4, 3, 7, 0, 0, 0⟩ | apply Box.alloc))
  clear EE
  have EE := Lib.hid EE'
  clear EE'
  have AA' : Box w11 (w1.heap.size) ⟨4, 3, 1, 5, 0, 0⟩ := Box.keep hb (by repeat (first | exact AA.out | exact Box.new _ ⟨4, 3, 1, 5, 0, 0⟩ | apply Box.alloc))
  clear AA
  have AA := Lib.hid AA'
  clear AA'
  have HB11 : Hid (Below w.heap.size w w11) := Lib.hid (below_then (by repeat (first | exact HB10.out | apply below_new)) hb)
  clear hb HB10
  go_wp2_with fail
  go_ret
  exact ⟨rfl, HB11.out⟩
end Go.Proofs.Ythgiofgedeijoaa
