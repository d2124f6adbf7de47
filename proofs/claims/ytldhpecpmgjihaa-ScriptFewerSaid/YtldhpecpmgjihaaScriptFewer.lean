/- Items that may not be, among others, make no difference to what is printed: for every input, no condition. -/
import Derived.Test.YtldhpecpmgjihaaScopen
import Derived.Test.YtldhpecpmgjihaaScplain
import Derived.Test.YtldhpecpmgjihaaMath
set_option linter.unusedVariables false
set_option linter.unusedSimpArgs false

namespace Go.Proofs.Ytldhpecpmgjihaa
open Go.ChangeShapes Go.WideShapes Go.ChangeAt Go.RowKit Go.Joins Sc

theorem same_self (v1 v2 : Value) (l : List It) (hl : l.length ≤ 1000000) (w : World) (h1 : SlIt w v1 l) (h2 : SlIt w v2 l) : Calls Try.prog 11 #[v1, v2] w fun e w' => e = .returned (.bool true) ∧ Below w.heap.size w w' := by
  have h := same_any v1 v2 l l hl w h1 h2
  rw [decide_eq_true rfl] at h
  exact h
theorem Row.empty_at (w : World) {B b : Nat} (hb : b = w.heap.size) (h : B ≤ w.heap.size) : Row (w.alloc (.cells #[] 29)) B (.slice (some ⟨b, 0, none⟩) 0 0) [] := by
  subst hb
  exact Row.empty w h
theorem cell_new {w : World} {a : Addr} {v : Value} {o : Obj} (h : w.cell? a = some v) : (w.alloc o).cell? a = some v :=
  ((Below.refl w.heap.size w).alloc (Nat.le_refl _) o).cell (World.block_lt_of_cell? w a h) |>.trans h
theorem SlIt.tail {w : World} {ao : Option Addr} {n cap k : Nat} {l : List It} (h : SlIt w (.slice ao n cap) l) (hk : k ≤ n) (hc : n ≤ cap) : SlIt w (.slice (if cap = k then ao else ao.map fun a => a.add (k * 4)) (n - k) (cap - k)) (l.drop k) := by
  by_cases e : cap = k
  · rw [if_pos e]
    have hn : n - k = 0 := by omega
    have hl : l.drop k = [] := by
      obtain ⟨_, _, h1, _⟩ := h
      injection h1 with _ h2 _
      exact List.drop_eq_nil_of_le (by omega)
    rw [hn, hl]
    exact SlIt.nil w _ _
  · rw [if_neg e]
    exact h.drop hk _
theorem and_ffff (c : Int) : ∃ m : Nat, m ≤ 65535 ∧ bits .and .i64 c 65535 = (m : Int) := by
  refine ⟨(BitVec.ofInt 64 c).toNat % 2 ^ 16, ?_, ?_⟩
  · have := Nat.mod_lt (BitVec.ofInt 64 c).toNat (Nat.two_pow_pos 16)
    omega
  · exact Wd.bits_i64_mask c 16 (by decide)
set_option maxRecDepth 100000 in
set_option maxHeartbeats 12800000 in
theorem scriptFewer_x (ao : Option Addr) (N cap r k : Nat) (l rl : List It) (x : It) (p : ByteArray) (at' : Int) (hN : N ≤ 100) (hNc : N ≤ cap) (hck : ¬ cap = k) (hlm : l.length = N) (hr : bits .and .i64 at' 65535 = (r : Int)) (hr6 : r ≤ 65535) (hk : (r : Int) % ((N : Int) + 1) = (k : Int)) (hkm : k ≤ N) (hrl : rl.length ≤ 100) (P1 : Hid (∀ (v : Value) (w : World), SlIt w v (l.take k ++ [(⟨9, x.c, x.a, x.b⟩ : It)] ++ l.drop k) → Calls Try.prog 16 #[v, .int .i64 4] w fun e w' => e = .returned (.string p) ∧ Below w.heap.size w w')) (P2 : Hid (∀ (v : Value) (w : World), SlIt w v l → Calls Try.prog 16 #[v, .int .i64 4] w fun e w' => e = .returned (.string p) ∧ Below w.heap.size w w')) (Q1 : Hid (∀ w : World, Calls Try.prog 12 #[.string p, .int .i64 4] w fun e w' => ∃ v, e = .returned v ∧ SlIt w' v rl ∧ Below w.heap.size w w')) (W : World) (HS : Hid (SlIt W (.slice ao N cap) l)) :
    Calls Try.prog 9 #[.slice ao N cap, (.agg #[.int .i64 x.k, .int .i64 x.c, .int .i64 x.a, .int .i64 x.b]), .int .i64 at'] W fun e w' => e = .returned (.bool true) ∧ Below W.heap.size W w' := by
  have hN' : (N : Int) ≤ 100 := by omega
  have hNc' : (N : Int) ≤ (cap : Int) := by omega
  have hc0 : (0 : Int) ≤ (cap : Int) := by omega
  have hr0 : (0 : Int) ≤ (r : Int) := by omega
  have hr6' : (r : Int) ≤ 65535 := by omega
  have hk100 : (k : Int) ≤ 100 := by omega
  have hk0 : (0 : Int) ≤ (k : Int) := by omega
  have hkm' : (k : Int) ≤ (N : Int) := by omega
  have hkc : (k : Int) ≤ (cap : Int) := by omega
  go_enter Try.func9, Try.ntmps9
  go_wp2_with (first | (at_builtin; refine wpList_append_items rfl (.tmp 21) (.tmp 24) rfl (W.heap.size + 1) _ _ [] (l.take k) rfl (Row.empty_at _ (by simp) (by simp)) rfl (HS.out.take hkm).alloc.alloc (by simp; omega) ?_) | fail)
  intro v1 w1 hrow hb
  have HR1 := Lib.hid hrow
  have HB1 : Hid (Below W.heap.size W w1) := Lib.hid ((below_new (below_new (Below.refl _ _) _) _).trans (hb.mono (by omega)))
  have hz1 : W.heap.size + 1 ≤ w1.heap.size := by have := hb.size; simp at this; omega
  have c0 : w1.cell? ⟨W.heap.size, 0, none⟩ = some (.int .i64 9) := (hb.cell (p := ⟨W.heap.size, 0, none⟩) (by simp)).trans (by simp [go_sem])
  have c1 : w1.cell? ⟨W.heap.size, 1, none⟩ = some (.int .i64 x.c) := (hb.cell (p := ⟨W.heap.size, 1, none⟩) (by simp)).trans (by simp [go_sem])
  have c2 : w1.cell? ⟨W.heap.size, 2, none⟩ = some (.int .i64 x.a) := (hb.cell (p := ⟨W.heap.size, 2, none⟩) (by simp)).trans (by simp [go_sem])
  have c3 : w1.cell? ⟨W.heap.size, 3, none⟩ = some (.int .i64 x.b) := (hb.cell (p := ⟨W.heap.size, 3, none⟩) (by simp)).trans (by simp [go_sem])
  clear hrow hb
  go_wp2_with (first | (at_builtin; refine wpList_append_items rfl (.tmp 26) (.tmp 28) rfl (W.heap.size + 1) _ _ (l.take k) [(⟨9, x.c, x.a, x.b⟩ : It)] rfl HR1.out.alloc rfl (SlIt.of1 _ (⟨9, x.c, x.a, x.b⟩ : It)) (by simp; omega) ?_) | fail)
  intro v2 w2 hrow hb
  have HR2 := Lib.hid hrow
  have HB2 : Hid (Below W.heap.size W w2) := Lib.hid ((below_new HB1.out _).trans (hb.mono (by omega)))
  have d0 : w2.cell? ⟨W.heap.size, 0, none⟩ = some (.int .i64 9) := (hb.cell (p := ⟨W.heap.size, 0, none⟩) (by simp)).trans (cell_new c0)
  have d1 : w2.cell? ⟨W.heap.size, 1, none⟩ = some (.int .i64 x.c) := (hb.cell (p := ⟨W.heap.size, 1, none⟩) (by simp)).trans (cell_new c1)
  have d2 : w2.cell? ⟨W.heap.size, 2, none⟩ = some (.int .i64 x.a) := (hb.cell (p := ⟨W.heap.size, 2, none⟩) (by simp)).trans (cell_new c2)
  have d3 : w2.cell? ⟨W.heap.size, 3, none⟩ = some (.int .i64 x.b) := (hb.cell (p := ⟨W.heap.size, 3, none⟩) (by simp)).trans (cell_new c3)
  have SL2 := Lib.hid (HS.out.keep HB2.out)
  clear hrow hb c0 c1 c2 c3 HR1
  go_wp2_with (first | (at_builtin; refine wpList_append_items rfl (.tmp 30) (.tmp 33) rfl (W.heap.size + 1) _ _ (l.take k ++ [(⟨9, x.c, x.a, x.b⟩ : It)]) (l.drop k) rfl HR2.out rfl (SL2.out.drop hkm _) (by simp; omega) ?_) | fail)
  intro v3 w3 hrow hb
  have SM : Hid (SlIt w3 v3 (l.take k ++ [(⟨9, x.c, x.a, x.b⟩ : It)] ++ l.drop k)) := Lib.hid (by
    have h := hrow.is
    simpa using h)
  have HB3 : Hid (Below W.heap.size W w3) := Lib.hid (HB2.out.trans (hb.mono (by omega)))
  have SL : Hid (SlIt w3 (.slice ao N cap) l) := Lib.hid (HS.out.keep HB3.out)
  have k0 : w3.cell? ⟨W.heap.size, 0, none⟩ = some (.int .i64 9) := (hb.cell (p := ⟨W.heap.size, 0, none⟩) (by simp)).trans d0
  have k1 : w3.cell? ⟨W.heap.size, 1, none⟩ = some (.int .i64 x.c) := (hb.cell (p := ⟨W.heap.size, 1, none⟩) (by simp)).trans d1
  have k2 : w3.cell? ⟨W.heap.size, 2, none⟩ = some (.int .i64 x.a) := (hb.cell (p := ⟨W.heap.size, 2, none⟩) (by simp)).trans d2
  have k3 : w3.cell? ⟨W.heap.size, 3, none⟩ = some (.int .i64 x.b) := (hb.cell (p := ⟨W.heap.size, 3, none⟩) (by simp)).trans d3
  clear hrow hb d0 d1 d2 d3 HR2 SL2
  have hz3 : W.heap.size < w3.heap.size := World.block_lt_of_cell? _ _ k0
  have BX : Hid (∀ w : World, Calls Try.prog 14 #[(.agg #[.int .i64 9, .int .i64 x.c, .int .i64 x.a, .int .i64 x.b]), .int .i64 4] w fun e w' => e = .returned (.bool false) ∧ Below w.heap.size w w') := Lib.hid (fun w => by
    have h := right_any (⟨9, x.c, x.a, x.b⟩ : It) 4 w
    rw [show rightU (⟨9, x.c, x.a, x.b⟩ : It) 4 = false from decide_eq_false (by unfold It.Right; simp)] at h
    exact h)
  go_wp2_with fail
  refine (P1.out _ _ SM.out).mono ?_
  rintro e w4 ⟨rfl, hb⟩
  have m0 : w4.cell? ⟨W.heap.size, 0, none⟩ = some (.int .i64 9) := (hb.cell (p := ⟨W.heap.size, 0, none⟩) (by simp <;> omega)).trans k0
  have m1 : w4.cell? ⟨W.heap.size, 1, none⟩ = some (.int .i64 x.c) := (hb.cell (p := ⟨W.heap.size, 1, none⟩) (by simp <;> omega)).trans k1
  have m2 : w4.cell? ⟨W.heap.size, 2, none⟩ = some (.int .i64 x.a) := (hb.cell (p := ⟨W.heap.size, 2, none⟩) (by simp <;> omega)).trans k2
  have m3 : w4.cell? ⟨W.heap.size, 3, none⟩ = some (.int .i64 x.b) := (hb.cell (p := ⟨W.heap.size, 3, none⟩) (by simp <;> omega)).trans k3
  have hz4 : W.heap.size < w4.heap.size := World.block_lt_of_cell? _ _ m0
  have SM4 := Lib.hid (SM.out.keep hb)
  have SL4 := Lib.hid (SL.out.keep hb)
  have HB4 := Lib.hid (below_from HB3.out hb)
  clear hb k0 k1 k2 k3 SM SL
  go_wp2_with fail
  refine (P2.out _ _ SL4.out).mono ?_
  rintro e w5 ⟨rfl, hb⟩
  have n0 : w5.cell? ⟨W.heap.size, 0, none⟩ = some (.int .i64 9) := (hb.cell (p := ⟨W.heap.size, 0, none⟩) (by simp <;> omega)).trans m0
  have n1 : w5.cell? ⟨W.heap.size, 1, none⟩ = some (.int .i64 x.c) := (hb.cell (p := ⟨W.heap.size, 1, none⟩) (by simp <;> omega)).trans m1
  have n2 : w5.cell? ⟨W.heap.size, 2, none⟩ = some (.int .i64 x.a) := (hb.cell (p := ⟨W.heap.size, 2, none⟩) (by simp <;> omega)).trans m2
  have n3 : w5.cell? ⟨W.heap.size, 3, none⟩ = some (.int .i64 x.b) := (hb.cell (p := ⟨W.heap.size, 3, none⟩) (by simp <;> omega)).trans m3
  have hz5 : W.heap.size < w5.heap.size := World.block_lt_of_cell? _ _ n0
  have SM5 := Lib.hid (SM4.out.keep hb)
  have SL5 := Lib.hid (SL4.out.keep hb)
  have HB5 := Lib.hid (below_from HB4.out hb)
  clear hb m0 m1 m2 m3 SM4 SL4
  go_wp2_with fail
  refine (BX.out _).mono ?_
  rintro e w6 ⟨rfl, hb⟩
  have SM := Lib.hid (SM5.out.keep hb)
  have SL := Lib.hid (SL5.out.keep hb)
  have HB6 := Lib.hid (below_from HB5.out hb)
  clear hb n0 n1 n2 n3 SM5 SL5
  go_wp2_with fail
  refine (P1.out _ _ SM.out).mono ?_
  rintro e y7 ⟨rfl, hb⟩
  clear SM
  have SL' := Lib.hid (SL.out.keep hb)
  clear SL
  have SL := SL'
  clear SL'
  have HB_7 := Lib.hid (below_from HB6.out hb)
  clear hb HB6
  go_wp2_with fail
  refine (Q1.out _).mono ?_
  rintro e y8 ⟨va, rfl, hs, hb⟩
  have SL' := Lib.hid (SL.out.keep hb)
  clear SL
  have SL := SL'
  clear SL'
  have SA := Lib.hid hs
  clear hs
  have HB_8 := Lib.hid (below_from HB_7.out hb)
  clear hb HB_7
  go_wp2_with fail
  refine (P2.out _ _ SL.out).mono ?_
  rintro e y9 ⟨rfl, hb⟩
  clear SL
  have SA' := Lib.hid (SA.out.keep hb)
  clear SA
  have SA := SA'
  clear SA'
  have HB_9 := Lib.hid (below_from HB_8.out hb)
  clear hb HB_8
  go_wp2_with fail
  refine (Q1.out _).mono ?_
  rintro e y10 ⟨vb, rfl, hs, hb⟩
  have SA' := Lib.hid (SA.out.keep hb)
  clear SA
  have SA := SA'
  clear SA'
  have SB := Lib.hid hs
  clear hs
  have HB_10 := Lib.hid (below_from HB_9.out hb)
  clear hb HB_9
  go_wp2_with fail
  refine (same_self _ _ rl (by omega) _ SA.out SB.out).mono ?_
  rintro e y11 ⟨rfl, hb⟩
  clear SA
  clear SB
  have HB_11 := Lib.hid (below_from HB_10.out hb)
  clear hb HB_10
  go_wp2_with fail
  refine (fixed_true _).mono ?_
  rintro e y12 ⟨rfl, hb⟩
  have HB_12 := Lib.hid (below_from HB_11.out hb)
  clear hb HB_11
  go_wp2_with fail
  go_ret
  exact ⟨rfl, HB_12.out⟩

set_option maxRecDepth 100000 in
set_option maxHeartbeats 12800000 in
theorem scriptFewer_y (ao : Option Addr) (N cap r k : Nat) (l rl : List It) (x : It) (p : ByteArray) (at' : Int) (hN : 100 < N) (hNc : N ≤ cap) (hck : ¬ cap = k) (hlm : l.length = 100) (hr : bits .and .i64 at' 65535 = (r : Int)) (hr6 : r ≤ 65535) (hk : (r : Int) % (101) = (k : Int)) (hkm : k ≤ 100) (hrl : rl.length ≤ 100) (P1 : Hid (∀ (v : Value) (w : World), SlIt w v (l.take k ++ [(⟨9, x.c, x.a, x.b⟩ : It)] ++ l.drop k) → Calls Try.prog 16 #[v, .int .i64 4] w fun e w' => e = .returned (.string p) ∧ Below w.heap.size w w')) (P2 : Hid (∀ (v : Value) (w : World), SlIt w v l → Calls Try.prog 16 #[v, .int .i64 4] w fun e w' => e = .returned (.string p) ∧ Below w.heap.size w w')) (Q1 : Hid (∀ w : World, Calls Try.prog 12 #[.string p, .int .i64 4] w fun e w' => ∃ v, e = .returned v ∧ SlIt w' v rl ∧ Below w.heap.size w w')) (W : World) (HS : Hid (SlIt W (.slice ao 100 cap) l)) :
    Calls Try.prog 9 #[.slice ao N cap, (.agg #[.int .i64 x.k, .int .i64 x.c, .int .i64 x.a, .int .i64 x.b]), .int .i64 at'] W fun e w' => e = .returned (.bool true) ∧ Below W.heap.size W w' := by
  have hN' : (100 : Int) < (N : Int) := by omega
  have hNc' : (N : Int) ≤ (cap : Int) := by omega
  have hc0 : (0 : Int) ≤ (cap : Int) := by omega
  have hcc : (100 : Int) ≤ (cap : Int) := by omega
  have hr0 : (0 : Int) ≤ (r : Int) := by omega
  have hr6' : (r : Int) ≤ 65535 := by omega
  have hk100 : (k : Int) ≤ 100 := by omega
  have hk0 : (0 : Int) ≤ (k : Int) := by omega
  have hkm' : (k : Int) ≤ 100 := by omega
  have hkc : (k : Int) ≤ (cap : Int) := by omega
  go_enter Try.func9, Try.ntmps9
  go_wp2_with (first | (at_builtin; refine wpList_append_items rfl (.tmp 21) (.tmp 24) rfl (W.heap.size + 1) _ _ [] (l.take k) rfl (Row.empty_at _ (by simp) (by simp)) rfl (HS.out.take hkm).alloc.alloc (by simp; omega) ?_) | fail)
  intro v1 w1 hrow hb
  have HR1 := Lib.hid hrow
  have HB1 : Hid (Below W.heap.size W w1) := Lib.hid ((below_new (below_new (Below.refl _ _) _) _).trans (hb.mono (by omega)))
  have hz1 : W.heap.size + 1 ≤ w1.heap.size := by have := hb.size; simp at this; omega
  have c0 : w1.cell? ⟨W.heap.size, 0, none⟩ = some (.int .i64 9) := (hb.cell (p := ⟨W.heap.size, 0, none⟩) (by simp)).trans (by simp [go_sem])
  have c1 : w1.cell? ⟨W.heap.size, 1, none⟩ = some (.int .i64 x.c) := (hb.cell (p := ⟨W.heap.size, 1, none⟩) (by simp)).trans (by simp [go_sem])
  have c2 : w1.cell? ⟨W.heap.size, 2, none⟩ = some (.int .i64 x.a) := (hb.cell (p := ⟨W.heap.size, 2, none⟩) (by simp)).trans (by simp [go_sem])
  have c3 : w1.cell? ⟨W.heap.size, 3, none⟩ = some (.int .i64 x.b) := (hb.cell (p := ⟨W.heap.size, 3, none⟩) (by simp)).trans (by simp [go_sem])
  clear hrow hb
  go_wp2_with (first | (at_builtin; refine wpList_append_items rfl (.tmp 26) (.tmp 28) rfl (W.heap.size + 1) _ _ (l.take k) [(⟨9, x.c, x.a, x.b⟩ : It)] rfl HR1.out.alloc rfl (SlIt.of1 _ (⟨9, x.c, x.a, x.b⟩ : It)) (by simp; omega) ?_) | fail)
  intro v2 w2 hrow hb
  have HR2 := Lib.hid hrow
  have HB2 : Hid (Below W.heap.size W w2) := Lib.hid ((below_new HB1.out _).trans (hb.mono (by omega)))
  have d0 : w2.cell? ⟨W.heap.size, 0, none⟩ = some (.int .i64 9) := (hb.cell (p := ⟨W.heap.size, 0, none⟩) (by simp)).trans (cell_new c0)
  have d1 : w2.cell? ⟨W.heap.size, 1, none⟩ = some (.int .i64 x.c) := (hb.cell (p := ⟨W.heap.size, 1, none⟩) (by simp)).trans (cell_new c1)
  have d2 : w2.cell? ⟨W.heap.size, 2, none⟩ = some (.int .i64 x.a) := (hb.cell (p := ⟨W.heap.size, 2, none⟩) (by simp)).trans (cell_new c2)
  have d3 : w2.cell? ⟨W.heap.size, 3, none⟩ = some (.int .i64 x.b) := (hb.cell (p := ⟨W.heap.size, 3, none⟩) (by simp)).trans (cell_new c3)
  have SL2 := Lib.hid (HS.out.keep HB2.out)
  clear hrow hb c0 c1 c2 c3 HR1
  go_wp2_with (first | (at_builtin; refine wpList_append_items rfl (.tmp 30) (.tmp 33) rfl (W.heap.size + 1) _ _ (l.take k ++ [(⟨9, x.c, x.a, x.b⟩ : It)]) (l.drop k) rfl HR2.out rfl (SL2.out.drop hkm _) (by simp; omega) ?_) | fail)
  intro v3 w3 hrow hb
  have SM : Hid (SlIt w3 v3 (l.take k ++ [(⟨9, x.c, x.a, x.b⟩ : It)] ++ l.drop k)) := Lib.hid (by
    have h := hrow.is
    simpa using h)
  have HB3 : Hid (Below W.heap.size W w3) := Lib.hid (HB2.out.trans (hb.mono (by omega)))
  have SL : Hid (SlIt w3 (.slice ao 100 cap) l) := Lib.hid (HS.out.keep HB3.out)
  have k0 : w3.cell? ⟨W.heap.size, 0, none⟩ = some (.int .i64 9) := (hb.cell (p := ⟨W.heap.size, 0, none⟩) (by simp)).trans d0
  have k1 : w3.cell? ⟨W.heap.size, 1, none⟩ = some (.int .i64 x.c) := (hb.cell (p := ⟨W.heap.size, 1, none⟩) (by simp)).trans d1
  have k2 : w3.cell? ⟨W.heap.size, 2, none⟩ = some (.int .i64 x.a) := (hb.cell (p := ⟨W.heap.size, 2, none⟩) (by simp)).trans d2
  have k3 : w3.cell? ⟨W.heap.size, 3, none⟩ = some (.int .i64 x.b) := (hb.cell (p := ⟨W.heap.size, 3, none⟩) (by simp)).trans d3
  clear hrow hb d0 d1 d2 d3 HR2 SL2
  have hz3 : W.heap.size < w3.heap.size := World.block_lt_of_cell? _ _ k0
  have BX : Hid (∀ w : World, Calls Try.prog 14 #[(.agg #[.int .i64 9, .int .i64 x.c, .int .i64 x.a, .int .i64 x.b]), .int .i64 4] w fun e w' => e = .returned (.bool false) ∧ Below w.heap.size w w') := Lib.hid (fun w => by
    have h := right_any (⟨9, x.c, x.a, x.b⟩ : It) 4 w
    rw [show rightU (⟨9, x.c, x.a, x.b⟩ : It) 4 = false from decide_eq_false (by unfold It.Right; simp)] at h
    exact h)
  go_wp2_with fail
  refine (P1.out _ _ SM.out).mono ?_
  rintro e w4 ⟨rfl, hb⟩
  have m0 : w4.cell? ⟨W.heap.size, 0, none⟩ = some (.int .i64 9) := (hb.cell (p := ⟨W.heap.size, 0, none⟩) (by simp <;> omega)).trans k0
  have m1 : w4.cell? ⟨W.heap.size, 1, none⟩ = some (.int .i64 x.c) := (hb.cell (p := ⟨W.heap.size, 1, none⟩) (by simp <;> omega)).trans k1
  have m2 : w4.cell? ⟨W.heap.size, 2, none⟩ = some (.int .i64 x.a) := (hb.cell (p := ⟨W.heap.size, 2, none⟩) (by simp <;> omega)).trans k2
  have m3 : w4.cell? ⟨W.heap.size, 3, none⟩ = some (.int .i64 x.b) := (hb.cell (p := ⟨W.heap.size, 3, none⟩) (by simp <;> omega)).trans k3
  have hz4 : W.heap.size < w4.heap.size := World.block_lt_of_cell? _ _ m0
  have SM4 := Lib.hid (SM.out.keep hb)
  have SL4 := Lib.hid (SL.out.keep hb)
  have HB4 := Lib.hid (below_from HB3.out hb)
  clear hb k0 k1 k2 k3 SM SL
  go_wp2_with fail
  refine (P2.out _ _ SL4.out).mono ?_
  rintro e w5 ⟨rfl, hb⟩
  have n0 : w5.cell? ⟨W.heap.size, 0, none⟩ = some (.int .i64 9) := (hb.cell (p := ⟨W.heap.size, 0, none⟩) (by simp <;> omega)).trans m0
  have n1 : w5.cell? ⟨W.heap.size, 1, none⟩ = some (.int .i64 x.c) := (hb.cell (p := ⟨W.heap.size, 1, none⟩) (by simp <;> omega)).trans m1
  have n2 : w5.cell? ⟨W.heap.size, 2, none⟩ = some (.int .i64 x.a) := (hb.cell (p := ⟨W.heap.size, 2, none⟩) (by simp <;> omega)).trans m2
  have n3 : w5.cell? ⟨W.heap.size, 3, none⟩ = some (.int .i64 x.b) := (hb.cell (p := ⟨W.heap.size, 3, none⟩) (by simp <;> omega)).trans m3
  have hz5 : W.heap.size < w5.heap.size := World.block_lt_of_cell? _ _ n0
  have SM5 := Lib.hid (SM4.out.keep hb)
  have SL5 := Lib.hid (SL4.out.keep hb)
  have HB5 := Lib.hid (below_from HB4.out hb)
  clear hb m0 m1 m2 m3 SM4 SL4
  go_wp2_with fail
  refine (BX.out _).mono ?_
  rintro e w6 ⟨rfl, hb⟩
  have SM := Lib.hid (SM5.out.keep hb)
  have SL := Lib.hid (SL5.out.keep hb)
  have HB6 := Lib.hid (below_from HB5.out hb)
  clear hb n0 n1 n2 n3 SM5 SL5
  go_wp2_with fail
  refine (P1.out _ _ SM.out).mono ?_
  rintro e y7 ⟨rfl, hb⟩
  clear SM
  have SL' := Lib.hid (SL.out.keep hb)
  clear SL
  have SL := SL'
  clear SL'
  have HB_7 := Lib.hid (below_from HB6.out hb)
  clear hb HB6
  go_wp2_with fail
  refine (Q1.out _).mono ?_
  rintro e y8 ⟨va, rfl, hs, hb⟩
  have SL' := Lib.hid (SL.out.keep hb)
  clear SL
  have SL := SL'
  clear SL'
  have SA := Lib.hid hs
  clear hs
  have HB_8 := Lib.hid (below_from HB_7.out hb)
  clear hb HB_7
  go_wp2_with fail
  refine (P2.out _ _ SL.out).mono ?_
  rintro e y9 ⟨rfl, hb⟩
  clear SL
  have SA' := Lib.hid (SA.out.keep hb)
  clear SA
  have SA := SA'
  clear SA'
  have HB_9 := Lib.hid (below_from HB_8.out hb)
  clear hb HB_8
  go_wp2_with fail
  refine (Q1.out _).mono ?_
  rintro e y10 ⟨vb, rfl, hs, hb⟩
  have SA' := Lib.hid (SA.out.keep hb)
  clear SA
  have SA := SA'
  clear SA'
  have SB := Lib.hid hs
  clear hs
  have HB_10 := Lib.hid (below_from HB_9.out hb)
  clear hb HB_9
  go_wp2_with fail
  refine (same_self _ _ rl (by omega) _ SA.out SB.out).mono ?_
  rintro e y11 ⟨rfl, hb⟩
  clear SA
  clear SB
  have HB_11 := Lib.hid (below_from HB_10.out hb)
  clear hb HB_10
  go_wp2_with fail
  refine (fixed_true _).mono ?_
  rintro e y12 ⟨rfl, hb⟩
  have HB_12 := Lib.hid (below_from HB_11.out hb)
  clear hb HB_11
  go_wp2_with fail
  go_ret
  exact ⟨rfl, HB_12.out⟩

set_option maxRecDepth 100000 in
set_option maxHeartbeats 12800000 in
theorem scriptFewer_z (ao : Option Addr) (N r : Nat) (l rl : List It) (x : It) (p : ByteArray) (at' : Int) (hN : N ≤ 100) (hlm : l.length = N) (hr : bits .and .i64 at' 65535 = (r : Int)) (hr6 : r ≤ 65535) (hk : (r : Int) % ((N : Int) + 1) = (N : Int)) (hkm : N ≤ N) (hrl : rl.length ≤ 100) (P1 : Hid (∀ (v : Value) (w : World), SlIt w v (l.take N ++ [(⟨9, x.c, x.a, x.b⟩ : It)] ++ l.drop N) → Calls Try.prog 16 #[v, .int .i64 4] w fun e w' => e = .returned (.string p) ∧ Below w.heap.size w w')) (P2 : Hid (∀ (v : Value) (w : World), SlIt w v l → Calls Try.prog 16 #[v, .int .i64 4] w fun e w' => e = .returned (.string p) ∧ Below w.heap.size w w')) (Q1 : Hid (∀ w : World, Calls Try.prog 12 #[.string p, .int .i64 4] w fun e w' => ∃ v, e = .returned v ∧ SlIt w' v rl ∧ Below w.heap.size w w')) (W : World) (HS : Hid (SlIt W (.slice ao N N) l)) :
    Calls Try.prog 9 #[.slice ao N N, (.agg #[.int .i64 x.k, .int .i64 x.c, .int .i64 x.a, .int .i64 x.b]), .int .i64 at'] W fun e w' => e = .returned (.bool true) ∧ Below W.heap.size W w' := by
  have hN' : (N : Int) ≤ 100 := by omega
  have hc0 : (0 : Int) ≤ (N : Int) := by omega
  have hr0 : (0 : Int) ≤ (r : Int) := by omega
  have hr6' : (r : Int) ≤ 65535 := by omega
  have hk100 : (N : Int) ≤ 100 := by omega
  go_enter Try.func9, Try.ntmps9
  go_wp2_with (first | (at_builtin; refine wpList_append_items rfl (.tmp 21) (.tmp 24) rfl (W.heap.size + 1) _ _ [] (l.take N) rfl (Row.empty_at _ (by simp) (by simp)) rfl (HS.out.take hkm).alloc.alloc (by simp; omega) ?_) | fail)
  intro v1 w1 hrow hb
  have HR1 := Lib.hid hrow
  have HB1 : Hid (Below W.heap.size W w1) := Lib.hid ((below_new (below_new (Below.refl _ _) _) _).trans (hb.mono (by omega)))
  have hz1 : W.heap.size + 1 ≤ w1.heap.size := by have := hb.size; simp at this; omega
  have c0 : w1.cell? ⟨W.heap.size, 0, none⟩ = some (.int .i64 9) := (hb.cell (p := ⟨W.heap.size, 0, none⟩) (by simp)).trans (by simp [go_sem])
  have c1 : w1.cell? ⟨W.heap.size, 1, none⟩ = some (.int .i64 x.c) := (hb.cell (p := ⟨W.heap.size, 1, none⟩) (by simp)).trans (by simp [go_sem])
  have c2 : w1.cell? ⟨W.heap.size, 2, none⟩ = some (.int .i64 x.a) := (hb.cell (p := ⟨W.heap.size, 2, none⟩) (by simp)).trans (by simp [go_sem])
  have c3 : w1.cell? ⟨W.heap.size, 3, none⟩ = some (.int .i64 x.b) := (hb.cell (p := ⟨W.heap.size, 3, none⟩) (by simp)).trans (by simp [go_sem])
  clear hrow hb
  go_wp2_with (first | (at_builtin; refine wpList_append_items rfl (.tmp 26) (.tmp 28) rfl (W.heap.size + 1) _ _ (l.take N) [(⟨9, x.c, x.a, x.b⟩ : It)] rfl HR1.out.alloc rfl (SlIt.of1 _ (⟨9, x.c, x.a, x.b⟩ : It)) (by simp; omega) ?_) | fail)
  intro v2 w2 hrow hb
  have HR2 := Lib.hid hrow
  have HB2 : Hid (Below W.heap.size W w2) := Lib.hid ((below_new HB1.out _).trans (hb.mono (by omega)))
  have d0 : w2.cell? ⟨W.heap.size, 0, none⟩ = some (.int .i64 9) := (hb.cell (p := ⟨W.heap.size, 0, none⟩) (by simp)).trans (cell_new c0)
  have d1 : w2.cell? ⟨W.heap.size, 1, none⟩ = some (.int .i64 x.c) := (hb.cell (p := ⟨W.heap.size, 1, none⟩) (by simp)).trans (cell_new c1)
  have d2 : w2.cell? ⟨W.heap.size, 2, none⟩ = some (.int .i64 x.a) := (hb.cell (p := ⟨W.heap.size, 2, none⟩) (by simp)).trans (cell_new c2)
  have d3 : w2.cell? ⟨W.heap.size, 3, none⟩ = some (.int .i64 x.b) := (hb.cell (p := ⟨W.heap.size, 3, none⟩) (by simp)).trans (cell_new c3)
  have SL2 := Lib.hid (HS.out.keep HB2.out)
  clear hrow hb c0 c1 c2 c3 HR1
  go_wp2_with (first | (at_builtin; refine wpList_append_items rfl (.tmp 30) (.tmp 33) rfl (W.heap.size + 1) _ _ (l.take N ++ [(⟨9, x.c, x.a, x.b⟩ : It)]) (l.drop N) rfl HR2.out rfl (show SlIt w2 (.slice ao 0 0) (l.drop N) from by rw [show l.drop N = [] from List.drop_eq_nil_of_le (by omega)]; exact SlIt.nil w2 _ _) (by simp; omega) ?_) | fail)
  intro v3 w3 hrow hb
  have SM : Hid (SlIt w3 v3 (l.take N ++ [(⟨9, x.c, x.a, x.b⟩ : It)] ++ l.drop N)) := Lib.hid (by
    have h := hrow.is
    simpa using h)
  have HB3 : Hid (Below W.heap.size W w3) := Lib.hid (HB2.out.trans (hb.mono (by omega)))
  have SL : Hid (SlIt w3 (.slice ao N N) l) := Lib.hid (HS.out.keep HB3.out)
  have k0 : w3.cell? ⟨W.heap.size, 0, none⟩ = some (.int .i64 9) := (hb.cell (p := ⟨W.heap.size, 0, none⟩) (by simp)).trans d0
  have k1 : w3.cell? ⟨W.heap.size, 1, none⟩ = some (.int .i64 x.c) := (hb.cell (p := ⟨W.heap.size, 1, none⟩) (by simp)).trans d1
  have k2 : w3.cell? ⟨W.heap.size, 2, none⟩ = some (.int .i64 x.a) := (hb.cell (p := ⟨W.heap.size, 2, none⟩) (by simp)).trans d2
  have k3 : w3.cell? ⟨W.heap.size, 3, none⟩ = some (.int .i64 x.b) := (hb.cell (p := ⟨W.heap.size, 3, none⟩) (by simp)).trans d3
  clear hrow hb d0 d1 d2 d3 HR2 SL2
  have hz3 : W.heap.size < w3.heap.size := World.block_lt_of_cell? _ _ k0
  have BX : Hid (∀ w : World, Calls Try.prog 14 #[(.agg #[.int .i64 9, .int .i64 x.c, .int .i64 x.a, .int .i64 x.b]), .int .i64 4] w fun e w' => e = .returned (.bool false) ∧ Below w.heap.size w w') := Lib.hid (fun w => by
    have h := right_any (⟨9, x.c, x.a, x.b⟩ : It) 4 w
    rw [show rightU (⟨9, x.c, x.a, x.b⟩ : It) 4 = false from decide_eq_false (by unfold It.Right; simp)] at h
    exact h)
  go_wp2_with fail
  refine (P1.out _ _ SM.out).mono ?_
  rintro e w4 ⟨rfl, hb⟩
  have m0 : w4.cell? ⟨W.heap.size, 0, none⟩ = some (.int .i64 9) := (hb.cell (p := ⟨W.heap.size, 0, none⟩) (by simp <;> omega)).trans k0
  have m1 : w4.cell? ⟨W.heap.size, 1, none⟩ = some (.int .i64 x.c) := (hb.cell (p := ⟨W.heap.size, 1, none⟩) (by simp <;> omega)).trans k1
  have m2 : w4.cell? ⟨W.heap.size, 2, none⟩ = some (.int .i64 x.a) := (hb.cell (p := ⟨W.heap.size, 2, none⟩) (by simp <;> omega)).trans k2
  have m3 : w4.cell? ⟨W.heap.size, 3, none⟩ = some (.int .i64 x.b) := (hb.cell (p := ⟨W.heap.size, 3, none⟩) (by simp <;> omega)).trans k3
  have hz4 : W.heap.size < w4.heap.size := World.block_lt_of_cell? _ _ m0
  have SM4 := Lib.hid (SM.out.keep hb)
  have SL4 := Lib.hid (SL.out.keep hb)
  have HB4 := Lib.hid (below_from HB3.out hb)
  clear hb k0 k1 k2 k3 SM SL
  go_wp2_with fail
  refine (P2.out _ _ SL4.out).mono ?_
  rintro e w5 ⟨rfl, hb⟩
  have n0 : w5.cell? ⟨W.heap.size, 0, none⟩ = some (.int .i64 9) := (hb.cell (p := ⟨W.heap.size, 0, none⟩) (by simp <;> omega)).trans m0
  have n1 : w5.cell? ⟨W.heap.size, 1, none⟩ = some (.int .i64 x.c) := (hb.cell (p := ⟨W.heap.size, 1, none⟩) (by simp <;> omega)).trans m1
  have n2 : w5.cell? ⟨W.heap.size, 2, none⟩ = some (.int .i64 x.a) := (hb.cell (p := ⟨W.heap.size, 2, none⟩) (by simp <;> omega)).trans m2
  have n3 : w5.cell? ⟨W.heap.size, 3, none⟩ = some (.int .i64 x.b) := (hb.cell (p := ⟨W.heap.size, 3, none⟩) (by simp <;> omega)).trans m3
  have hz5 : W.heap.size < w5.heap.size := World.block_lt_of_cell? _ _ n0
  have SM5 := Lib.hid (SM4.out.keep hb)
  have SL5 := Lib.hid (SL4.out.keep hb)
  have HB5 := Lib.hid (below_from HB4.out hb)
  clear hb m0 m1 m2 m3 SM4 SL4
  go_wp2_with fail
  refine (BX.out _).mono ?_
  rintro e w6 ⟨rfl, hb⟩
  have SM := Lib.hid (SM5.out.keep hb)
  have SL := Lib.hid (SL5.out.keep hb)
  have HB6 := Lib.hid (below_from HB5.out hb)
  clear hb n0 n1 n2 n3 SM5 SL5
  go_wp2_with fail
  refine (P1.out _ _ SM.out).mono ?_
  rintro e y7 ⟨rfl, hb⟩
  clear SM
  have SL' := Lib.hid (SL.out.keep hb)
  clear SL
  have SL := SL'
  clear SL'
  have HB_7 := Lib.hid (below_from HB6.out hb)
  clear hb HB6
  go_wp2_with fail
  refine (Q1.out _).mono ?_
  rintro e y8 ⟨va, rfl, hs, hb⟩
  have SL' := Lib.hid (SL.out.keep hb)
  clear SL
  have SL := SL'
  clear SL'
  have SA := Lib.hid hs
  clear hs
  have HB_8 := Lib.hid (below_from HB_7.out hb)
  clear hb HB_7
  go_wp2_with fail
  refine (P2.out _ _ SL.out).mono ?_
  rintro e y9 ⟨rfl, hb⟩
  clear SL
  have SA' := Lib.hid (SA.out.keep hb)
  clear SA
  have SA := SA'
  clear SA'
  have HB_9 := Lib.hid (below_from HB_8.out hb)
  clear hb HB_8
  go_wp2_with fail
  refine (Q1.out _).mono ?_
  rintro e y10 ⟨vb, rfl, hs, hb⟩
  have SA' := Lib.hid (SA.out.keep hb)
  clear SA
  have SA := SA'
  clear SA'
  have SB := Lib.hid hs
  clear hs
  have HB_10 := Lib.hid (below_from HB_9.out hb)
  clear hb HB_9
  go_wp2_with fail
  refine (same_self _ _ rl (by omega) _ SA.out SB.out).mono ?_
  rintro e y11 ⟨rfl, hb⟩
  clear SA
  clear SB
  have HB_11 := Lib.hid (below_from HB_10.out hb)
  clear hb HB_10
  go_wp2_with fail
  refine (fixed_true _).mono ?_
  rintro e y12 ⟨rfl, hb⟩
  have HB_12 := Lib.hid (below_from HB_11.out hb)
  clear hb HB_11
  go_wp2_with fail
  go_ret
  exact ⟨rfl, HB_12.out⟩

theorem rights_len' (l : List It) (c : Int) : (rights l c).length ≤ l.length := List.length_filter_le _ _
theorem few_print (l : List It) (x : It) (k : Nat) : printL (l.take k ++ [(⟨9, x.c, x.a, x.b⟩ : It)] ++ l.drop k) 4 = printL l 4 := by
  rw [printL_eq, printL_eq]
  congr 1
  unfold rights
  rw [List.filter_append, List.filter_append]
  have e : List.filter (fun x => rightU x 4) [(⟨9, x.c, x.a, x.b⟩ : It)] = [] := by
    have : rightU (⟨9, x.c, x.a, x.b⟩ : It) 4 = false := decide_eq_false (by unfold It.Right; simp)
    simp [this]
  rw [e, List.append_nil, ← List.filter_append, List.take_append_drop]
theorem scriptFewer_walk (x : It) (at' : Int) (ao : Option Addr) (N cap : Nat) (L : List It) (hNc : N ≤ cap) (hL : L.length = N) (W : World) (hS : SlIt W (.slice ao N cap) L) :
    Calls Try.prog 9 #[.slice ao N cap, (.agg #[.int .i64 x.k, .int .i64 x.c, .int .i64 x.a, .int .i64 x.b]), .int .i64 at'] W fun e w' => e = .returned (.bool true) ∧ Below W.heap.size W w' := by
  obtain ⟨r, hr6, hr⟩ := and_ffff at'
  by_cases hN : N ≤ 100
  · obtain ⟨k, hk⟩ : ∃ k, r % (N + 1) = k := ⟨_, rfl⟩
    have hkl : k < N + 1 := by rw [← hk]; exact Nat.mod_lt _ (by omega)
    have hki : (r : Int) % ((N : Int) + 1) = (k : Int) := by rw [← hk]; rfl
    by_cases hck : cap = k
    · have h1 : k = N := by omega
      have h2 : cap = N := by omega
      subst h1
      rw [h2]
      rw [h2] at hS
      exact scriptFewer_z ao k r L (rights L 4) x _ at' hN hL hr hr6 hki (Nat.le_refl _) (by have := rights_len' L 4; omega) (Lib.hid (fun v w h => by
        have h' := print_any v (L.take k ++ [(⟨9, x.c, x.a, x.b⟩ : It)] ++ L.drop k) 4 (by simp; omega) w h
        rw [few_print] at h'
        exact h')) (Lib.hid (fun v w h => print_any v L 4 (by omega) w h)) (Lib.hid (fun w => by
        have h := parse_any ⟨(printL L 4).toArray⟩ 4 (by have := print_len (fun j => L.getD j Sc.zero) 4 L.length; show (printL L 4).toArray.size ≤ _; rw [List.size_toArray]; unfold printL; omega) w
        rw [parse_print] at h
        exact h)) W (Lib.hid hS)
    · exact scriptFewer_x ao N cap r k L (rights L 4) x _ at' hN hNc hck hL hr hr6 hki (by omega) (by have := rights_len' L 4; omega) (Lib.hid (fun v w h => by
        have h' := print_any v (L.take k ++ [(⟨9, x.c, x.a, x.b⟩ : It)] ++ L.drop k) 4 (by simp; omega) w h
        rw [few_print] at h'
        exact h')) (Lib.hid (fun v w h => print_any v L 4 (by omega) w h)) (Lib.hid (fun w => by
        have h := parse_any ⟨(printL L 4).toArray⟩ 4 (by have := print_len (fun j => L.getD j Sc.zero) 4 L.length; show (printL L 4).toArray.size ≤ _; rw [List.size_toArray]; unfold printL; omega) w
        rw [parse_print] at h
        exact h)) W (Lib.hid hS)
  · obtain ⟨M, hM⟩ : ∃ M, L.take 100 = M := ⟨_, rfl⟩
    have hl : M.length = 100 := by rw [← hM, List.length_take]; omega
    have hS' : SlIt W (.slice ao 100 cap) M := by rw [← hM]; exact hS.take (by omega)
    obtain ⟨k, hk⟩ : ∃ k, r % 101 = k := ⟨_, rfl⟩
    have hki : (r : Int) % 101 = (k : Int) := by omega
    exact scriptFewer_y ao N cap r k M (rights M 4) x _ at' (by omega) hNc (by omega) hl hr hr6 hki (by omega) (by have := rights_len' M 4; omega) (Lib.hid (fun v w h => by
        have h' := print_any v (M.take k ++ [(⟨9, x.c, x.a, x.b⟩ : It)] ++ M.drop k) 4 (by simp; omega) w h
        rw [few_print] at h'
        exact h')) (Lib.hid (fun v w h => print_any v M 4 (by omega) w h)) (Lib.hid (fun w => by
        have h := parse_any ⟨(printL M 4).toArray⟩ 4 (by have := print_len (fun j => M.getD j Sc.zero) 4 M.length; show (printL M 4).toArray.size ≤ _; rw [List.size_toArray]; unfold printL; omega) w
        rw [parse_print] at h
        exact h)) W (Lib.hid hS')


set_option maxRecDepth 100000 in
theorem scriptFewer_lifted (os : Os) (started : os.Started) (H : Type) (enc : TypeId × Value → H) :
    ReturnsInHanded {} Try.checked os 9 .any (Rows.scriptFewerSpec.pre6 enc Try.prog Try.f9 Rows.scriptFewerRow.domain false) (Rows.scriptFewerSpec.post enc Try.prog Try.f9 false true false false) := by
  refine returnsInHanded_of_change (C := Try.checked) own_knob started (by kernel_rfl) Try.func9
    (ChangeSpec.witness6 (enc := enc) (C := Try.checked) false ⟨#[], #[.slice none 0 0, .agg #[.int .i64 0, .int .i64 0, .int .i64 0, .int .i64 0], .int .i64 0], []⟩ 8 (by kernel_rfl) (by kernel_rfl) (by kernel_rfl) (by kernel_rfl)) ?_
  intro W base args ds gs before hval0 hW hcnd _
  have hval : ∀ (j : Nat) t v, Try.f9.params[j]? = some t → args[j]? = some v → Value.okWide Try.prog W .any base t v := hval0
  have hW' := hW
  obtain ⟨p, q, hA0, hV, rfl, hfz, hnd⟩ := hW
  have hA : DataW.TrodAll enc Try.prog W 0 (fun _ => true) true Try.f9.params.toList args.toList ds p := hA0
  rw [Try.params9] at hA hval
  obtain ⟨v0, v1, v2, d0, d1, d2, p0, p1, p2, rfl, rfl, rfl, h0, h1, h2⟩ := trodAll_three hA
  obtain ⟨rfl, rfl⟩ := trodVars_none hV
  clear hA0 hval0
  simp only [List.append_nil] at hW'
  have hlt : ∀ x ∈ p0 ++ p1 ++ p2, x.block < W.heap.size := fun x hx => by simpa using hW'.lt x hx
  have g0 : ∀ W' : World, Below W.heap.size W W' → DataW.Trod enc Try.prog W' 0 (fun b => decide (b < W.heap.size)) true 24 v0 d0 p0 :=
    fun W' hn => Below.trod laid_out (by kernel_rfl) (of_decide_eq_true (by kernel_rfl)) h0 hn (fun x hx => hlt x (by simp [hx]))
  have g1 : ∀ W' : World, Below W.heap.size W W' → DataW.Trod enc Try.prog W' 0 (fun b => decide (b < W.heap.size)) true 29 v1 d1 p1 :=
    fun W' hn => Below.trod laid_out (by kernel_rfl) (of_decide_eq_true (by kernel_rfl)) h1 hn (fun x hx => hlt x (by simp [hx]))
  have g2 : ∀ W' : World, Below W.heap.size W W' → DataW.Trod enc Try.prog W' 0 (fun b => decide (b < W.heap.size)) true 3 v2 d2 p2 :=
    fun W' hn => Below.trod laid_out (by kernel_rfl) (of_decide_eq_true (by kernel_rfl)) h2 hn (fun x hx => hlt x (by simp [hx]))
  obtain ⟨ao, N, cap, L, rfl, hNc, hcm, hL, hS⟩ := open_items (hval 0 24 v0 rfl rfl) h0
  obtain ⟨x, rfl⟩ := open_it (hval 1 29 v1 rfl rfl) h1
  obtain ⟨at', rfl, _, _, w2⟩ := open_int Try.underlying3 (hval 2 3 v2 rfl rfl) h2
  have l2 := int_of_wf w2
  refine (scriptFewer_walk x at' ao N cap L hNc hL W hS).mono fun e W' ⟨he, hn⟩ => ?_
  subst he
  exact ⟨_, rfl, _, _, _, [], p0 ++ p1 ++ p2, [], hW', trodAll_mk1 (shut_bool Try.underlying4 true), (by rw [List.append_assoc p0 p1 p2]; exact trodAll_mk3 (g0 W' hn) (g1 W' hn) (g2 W' hn)), rfl, hn.frame _, fun h => by cases h⟩

theorem scriptFewer_holds : Rows.ScriptFewerSaid :=
  OpenClaim.holds_of_wide 9 Try.f9 rfl rfl rfl rfl rfl rfl rfl ⟨rfl, rfl, rfl, rfl, rfl⟩ rfl rfl rfl rfl rfl (by kernel_rfl) Try.func9 (by kernel_rfl)
    (of_decide_eq_true (by kernel_rfl)) (by unfold Func.isWrapper; first | (rw [if_pos (by decide +kernel)]; kernel_rfl) | (rw [if_neg (by decide +kernel)]; exact ⟨rfl, rfl⟩))
    (fun os started H enc _ => scriptFewer_lifted os started H enc)
#print axioms scriptFewer_holds
end Go.Proofs.Ytldhpecpmgjihaa
