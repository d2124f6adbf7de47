/- The greatest bit is set, and none above it; taken away the next one is less; what is set is there, and all others are as they were: for every input, no condition. -/
import Derived.Test.YtbmdnbjkphmmpaaFrame
import Derived.Test.YtbmdnbjkphmmpaaFixed
import Derived.Deep.RegionHeld3
namespace Go.Proofs.Ytbmdnbjkphmmpaa
open Go.ChangeShapes Go.WideShapes Go.ChangeAt Go.RowKit Go.Joins Wd

theorem keep_on {W w' w'' : World} {g1 g : Nat} {v00 v01 v02 v03 v10 v11 v12 v13 v20 v21 v22 v23 : Value} (h : Below W.heap.size W w' ∧ g < w'.heap.size ∧ w'.cell? ⟨W.heap.size, 0, none⟩ = some v00 ∧ w'.cell? ⟨W.heap.size, 1, none⟩ = some v01 ∧ w'.cell? ⟨W.heap.size, 2, none⟩ = some v02 ∧ w'.cell? ⟨W.heap.size, 3, none⟩ = some v03 ∧ w'.cell? ⟨g1, 0, none⟩ = some v10 ∧ w'.cell? ⟨g1, 1, none⟩ = some v11 ∧ w'.cell? ⟨g1, 2, none⟩ = some v12 ∧ w'.cell? ⟨g1, 3, none⟩ = some v13 ∧ w'.cell? ⟨g, 0, none⟩ = some v20 ∧ w'.cell? ⟨g, 1, none⟩ = some v21 ∧ w'.cell? ⟨g, 2, none⟩ = some v22 ∧ w'.cell? ⟨g, 3, none⟩ = some v23) (hb : Below w'.heap.size w' w'') :
    Below W.heap.size W w'' ∧ g < w''.heap.size ∧ w''.cell? ⟨W.heap.size, 0, none⟩ = some v00 ∧ w''.cell? ⟨W.heap.size, 1, none⟩ = some v01 ∧ w''.cell? ⟨W.heap.size, 2, none⟩ = some v02 ∧ w''.cell? ⟨W.heap.size, 3, none⟩ = some v03 ∧ w''.cell? ⟨g1, 0, none⟩ = some v10 ∧ w''.cell? ⟨g1, 1, none⟩ = some v11 ∧ w''.cell? ⟨g1, 2, none⟩ = some v12 ∧ w''.cell? ⟨g1, 3, none⟩ = some v13 ∧ w''.cell? ⟨g, 0, none⟩ = some v20 ∧ w''.cell? ⟨g, 1, none⟩ = some v21 ∧ w''.cell? ⟨g, 2, none⟩ = some v22 ∧ w''.cell? ⟨g, 3, none⟩ = some v23 := by
  obtain ⟨h0, h1, a0, a1, a2, a3, b0, b1, b2, b3, c0, c1, c2, c3⟩ := h
  have key : ∀ {p : Addr} {v : Value}, w'.cell? p = some v → w''.cell? p = some v := fun h => (hb.cell (World.block_lt_of_cell? w' _ h)).trans h
  exact ⟨below_then h0 hb, Nat.lt_of_lt_of_le h1 hb.size, key a0, key a1, key a2, key a3, key b0, key b1, key b2, key b3, key c0, key c1, key c2, key c3⟩
theorem keep_begin {W w2 : World} {g1 T : Nat} {v00 v01 v02 v03 v10 v11 v12 v13 v20 v21 v22 v23 : Value} (hb : Below W.heap.size W w2) (a0 : w2.cell? ⟨W.heap.size, 0, none⟩ = some v00) (a1 : w2.cell? ⟨W.heap.size, 1, none⟩ = some v01) (a2 : w2.cell? ⟨W.heap.size, 2, none⟩ = some v02) (a3 : w2.cell? ⟨W.heap.size, 3, none⟩ = some v03) (b0 : w2.cell? ⟨g1, 0, none⟩ = some v10) (b1 : w2.cell? ⟨g1, 1, none⟩ = some v11) (b2 : w2.cell? ⟨g1, 2, none⟩ = some v12) (b3 : w2.cell? ⟨g1, 3, none⟩ = some v13) :
    Below W.heap.size W (w2.alloc (.cells #[v20, v21, v22, v23] T)) ∧ w2.heap.size < (w2.alloc (.cells #[v20, v21, v22, v23] T)).heap.size ∧ (w2.alloc (.cells #[v20, v21, v22, v23] T)).cell? ⟨W.heap.size, 0, none⟩ = some v00 ∧ (w2.alloc (.cells #[v20, v21, v22, v23] T)).cell? ⟨W.heap.size, 1, none⟩ = some v01 ∧ (w2.alloc (.cells #[v20, v21, v22, v23] T)).cell? ⟨W.heap.size, 2, none⟩ = some v02 ∧ (w2.alloc (.cells #[v20, v21, v22, v23] T)).cell? ⟨W.heap.size, 3, none⟩ = some v03 ∧ (w2.alloc (.cells #[v20, v21, v22, v23] T)).cell? ⟨g1, 0, none⟩ = some v10 ∧ (w2.alloc (.cells #[v20, v21, v22, v23] T)).cell? ⟨g1, 1, none⟩ = some v11 ∧ (w2.alloc (.cells #[v20, v21, v22, v23] T)).cell? ⟨g1, 2, none⟩ = some v12 ∧ (w2.alloc (.cells #[v20, v21, v22, v23] T)).cell? ⟨g1, 3, none⟩ = some v13 ∧ (w2.alloc (.cells #[v20, v21, v22, v23] T)).cell? ⟨w2.heap.size, 0, none⟩ = some v20 ∧ (w2.alloc (.cells #[v20, v21, v22, v23] T)).cell? ⟨w2.heap.size, 1, none⟩ = some v21 ∧ (w2.alloc (.cells #[v20, v21, v22, v23] T)).cell? ⟨w2.heap.size, 2, none⟩ = some v22 ∧ (w2.alloc (.cells #[v20, v21, v22, v23] T)).cell? ⟨w2.heap.size, 3, none⟩ = some v23 := by
  have key : ∀ {p : Addr} {v : Value}, w2.cell? p = some v → ((w2.alloc (.cells #[v20, v21, v22, v23] T))).cell? p = some v := fun h => cell_new h
  exact ⟨below_new hb _, by simp, key a0, key a1, key a2, key a3, key b0, key b1, key b2, key b3, by simp [go_sem], by simp [go_sem], by simp [go_sem], by simp [go_sem]⟩
theorem keep_draws {W w' : World} {g1 g : Nat} {v00 v01 v02 v03 v10 v11 v12 v13 v20 v21 v22 v23 : Value} (h : Below W.heap.size W w' ∧ g < w'.heap.size ∧ w'.cell? ⟨W.heap.size, 0, none⟩ = some v00 ∧ w'.cell? ⟨W.heap.size, 1, none⟩ = some v01 ∧ w'.cell? ⟨W.heap.size, 2, none⟩ = some v02 ∧ w'.cell? ⟨W.heap.size, 3, none⟩ = some v03 ∧ w'.cell? ⟨g1, 0, none⟩ = some v10 ∧ w'.cell? ⟨g1, 1, none⟩ = some v11 ∧ w'.cell? ⟨g1, 2, none⟩ = some v12 ∧ w'.cell? ⟨g1, 3, none⟩ = some v13 ∧ w'.cell? ⟨g, 0, none⟩ = some v20 ∧ w'.cell? ⟨g, 1, none⟩ = some v21 ∧ w'.cell? ⟨g, 2, none⟩ = some v22 ∧ w'.cell? ⟨g, 3, none⟩ = some v23) (k : Nat) :
    Below W.heap.size W (w'.drewN k) ∧ g < (w'.drewN k).heap.size ∧ (w'.drewN k).cell? ⟨W.heap.size, 0, none⟩ = some v00 ∧ (w'.drewN k).cell? ⟨W.heap.size, 1, none⟩ = some v01 ∧ (w'.drewN k).cell? ⟨W.heap.size, 2, none⟩ = some v02 ∧ (w'.drewN k).cell? ⟨W.heap.size, 3, none⟩ = some v03 ∧ (w'.drewN k).cell? ⟨g1, 0, none⟩ = some v10 ∧ (w'.drewN k).cell? ⟨g1, 1, none⟩ = some v11 ∧ (w'.drewN k).cell? ⟨g1, 2, none⟩ = some v12 ∧ (w'.drewN k).cell? ⟨g1, 3, none⟩ = some v13 ∧ (w'.drewN k).cell? ⟨g, 0, none⟩ = some v20 ∧ (w'.drewN k).cell? ⟨g, 1, none⟩ = some v21 ∧ (w'.drewN k).cell? ⟨g, 2, none⟩ = some v22 ∧ (w'.drewN k).cell? ⟨g, 3, none⟩ = some v23 := ⟨⟨h.1.os, h.1.tape, h.1.output, h.1.size, h.1.block⟩, h.2⟩
theorem top_put {x y : B4} {n m : Nat} (h : Put x n true y) (hn : n < 256) (hm : m = n ∨ (n < m ∧ m < 256 ∧ x.has m = true)) (hx : ∀ i, m < i → i < 256 → x.has i = false) : TopIs y (m : Int) := by
  refine ⟨.inr ⟨m, rfl, ?_, ?_, fun i h1 h2 => ?_⟩⟩
  · rcases hm with hm | hm <;> omega
  · rcases hm with hm | hm
    · rw [hm, h.at_]
    · rw [h.other m hm.2.1 (by omega), hm.2.2]
  · rw [h.other i h2 (by rcases hm with hm | hm <;> omega), hx i h1 h2]
theorem top_of (b0 b1 b2 b3 : Nat) (t : Int) (hB : B4.Ok ⟨b0, b1, b2, b3⟩) (h : TopIs ⟨b0, b1, b2, b3⟩ t) (w : World) :
    Calls Try.prog 25 #[.agg #[.int .u64 b0, .int .u64 b1, .int .u64 b2, .int .u64 b3]] w fun e w' => e = .returned (.int .i64 t) ∧ Below w.heap.size w w' := by
  have h' := top_any b0 b1 b2 b3 hB w
  rw [TopIs.uniq (TopIs.of_top _) h] at h'
  exact h'
theorem int_cast {t : Int} (h : -1 ≤ t) : Value.int .i64 (t + 1) = Value.int .i64 ((t + 1).toNat : Int) := by
  rw [Int.toNat_of_nonneg (by omega)]
set_option maxRecDepth 100000 in
set_option maxHeartbeats 12800000 in
theorem wordsTop_none (b0 b1 b2 b3 : Nat) (n : Int) (t : Int) (h1 : -1 ≤ t) (h2 : t < 0) (hT : TopIs ⟨b0, b1, b2, b3⟩ t) (kk : Nat) (hK : bits .and .i64 n 255 = (kk : Int)) (hkk : kk < 256) (hall : ∀ i : Nat, t < (i : Int) → i < 256 → B4.has ⟨b0, b1, b2, b3⟩ i = false) (hB : B4.Ok ⟨b0, b1, b2, b3⟩) (W : World) :
    Calls Try.prog 7 #[.agg #[.int .u64 b0, .int .u64 b1, .int .u64 b2, .int .u64 b3], .int .i64 n] W fun e w' => e = .returned (.bool true) ∧ Below W.heap.size W w' := by
  have HTOP := Lib.hid (top_of b0 b1 b2 b3 t hB hT)
  have HALL := Lib.hid hall
  have hne : (t == (kk : Int)) = false := beq_eq_false_iff_ne.2 (by omega)
  have hmax : max t (kk : Int) = (kk : Int) := by omega
  clear hall hT
  go_enter Try.func7, Try.ntmps7
  go_wp2_with fail
  refine (HTOP.out _).mono ?_
  rintro e w1 ⟨rfl, hb1⟩
  have hz1 : W.heap.size < w1.heap.size := by have := hb1.size; simp at this; omega
  have c0 : w1.cell? ⟨W.heap.size, 0, none⟩ = some (.int .u64 b0) := (hb1.cell (p := ⟨W.heap.size, 0, none⟩) (by simp)).trans (by simp [go_sem])
  have c1 : w1.cell? ⟨W.heap.size, 1, none⟩ = some (.int .u64 b1) := (hb1.cell (p := ⟨W.heap.size, 1, none⟩) (by simp)).trans (by simp [go_sem])
  have c2 : w1.cell? ⟨W.heap.size, 2, none⟩ = some (.int .u64 b2) := (hb1.cell (p := ⟨W.heap.size, 2, none⟩) (by simp)).trans (by simp [go_sem])
  have c3 : w1.cell? ⟨W.heap.size, 3, none⟩ = some (.int .u64 b3) := (hb1.cell (p := ⟨W.heap.size, 3, none⟩) (by simp)).trans (by simp [go_sem])
  have HB1 := Lib.hid (below_then (below_new (Below.refl W.heap.size W) _) hb1)
  clear hb1
  go_wp2_with fail
  go_loopw [6] (fun i wr => ∃ k : Nat, k ≤ 256 ∧ t < (k : Int) ∧ i = .int .i64 k ∧ Hid (Below W.heap.size W wr) ∧ W.heap.size < wr.heap.size ∧ wr.cell? ⟨W.heap.size, 0, none⟩ = some (.int .u64 b0) ∧ wr.cell? ⟨W.heap.size, 1, none⟩ = some (.int .u64 b1) ∧ wr.cell? ⟨W.heap.size, 2, none⟩ = some (.int .u64 b2) ∧ wr.cell? ⟨W.heap.size, 3, none⟩ = some (.int .u64 b3)) (fun i _ => 256 - (intOf i).toNat)
  case atStart => exact ⟨(t + 1).toNat, by omega, by omega, int_cast h1, HB1, hz1, c0, c1, c2, c3⟩
  case round =>
    obtain ⟨k, hk, hkt, rfl, HBr, hzr, r0, r1, r2, r3⟩ := hrel
    clear HB1 hz1 c0 c1 c2 c3
    by_cases hlt : k < 256
    · have HF := f_has b0 b1 b2 b3 k false hB hlt (HALL.out k hkt hlt)
      have HF' := Lib.hid HF
      clear HF
      go_wp2_with fail
      refine (HF'.out _).mono ?_
      rintro e w2 ⟨rfl, hb2⟩
      have hz2 : W.heap.size < w2.heap.size := Nat.lt_of_lt_of_le hzr hb2.size
      have q0 := (hb2.cell (p := ⟨W.heap.size, 0, none⟩) hzr).trans r0
      have q1 := (hb2.cell (p := ⟨W.heap.size, 1, none⟩) hzr).trans r1
      have q2 := (hb2.cell (p := ⟨W.heap.size, 2, none⟩) hzr).trans r2
      have q3 := (hb2.cell (p := ⟨W.heap.size, 3, none⟩) hzr).trans r3
      have HB2 := Lib.hid (below_then HBr.out hb2)
      clear hb2 r0 r1 r2 r3
      go_wp2
      go_roundw
      case rel => exact ⟨k + 1, by omega, by omega, by go_num, HB2, hz2, q0, q1, q2, q3⟩
      case measure => simp [intOf]; omega
    · go_wp2_with fail
      refine (set_any b0 b1 b2 b3 kk true hB hkk _).mono ?_
      rintro e w2 ⟨y0, y1, y2, y3, rfl, hp2, hb2⟩
      have HP2 := Lib.hid hp2
      have hz2 : W.heap.size < w2.heap.size := Nat.lt_of_lt_of_le hzr hb2.size
      have q0 : w2.cell? ⟨W.heap.size, 0, none⟩ = some (.int .u64 b0) := (hb2.cell (p := ⟨W.heap.size, 0, none⟩) (hzr)).trans (r0)
      have q1 : w2.cell? ⟨W.heap.size, 1, none⟩ = some (.int .u64 b1) := (hb2.cell (p := ⟨W.heap.size, 1, none⟩) (hzr)).trans (r1)
      have q2 : w2.cell? ⟨W.heap.size, 2, none⟩ = some (.int .u64 b2) := (hb2.cell (p := ⟨W.heap.size, 2, none⟩) (hzr)).trans (r2)
      have q3 : w2.cell? ⟨W.heap.size, 3, none⟩ = some (.int .u64 b3) := (hb2.cell (p := ⟨W.heap.size, 3, none⟩) (hzr)).trans (r3)
      have HB2 := Lib.hid (below_then HBr.out hb2)
      clear hb2 hp2 r0 r1 r2 r3
      go_wp2_with fail
      refine (set_any b0 b1 b2 b3 kk false hB hkk _).mono ?_
      rintro e w3 ⟨z0, z1, z2, z3, rfl, hp3, hb3⟩
      have HP3 := Lib.hid hp3
      have hz3 : w2.heap.size < w3.heap.size := by have := hb3.size; simp at this; omega
      have d0 : w3.cell? ⟨W.heap.size, 0, none⟩ = some (.int .u64 b0) := (hb3.cell (p := ⟨W.heap.size, 0, none⟩) (by simp; omega)).trans (cell_new q0)
      have d1 : w3.cell? ⟨W.heap.size, 1, none⟩ = some (.int .u64 b1) := (hb3.cell (p := ⟨W.heap.size, 1, none⟩) (by simp; omega)).trans (cell_new q1)
      have d2 : w3.cell? ⟨W.heap.size, 2, none⟩ = some (.int .u64 b2) := (hb3.cell (p := ⟨W.heap.size, 2, none⟩) (by simp; omega)).trans (cell_new q2)
      have d3 : w3.cell? ⟨W.heap.size, 3, none⟩ = some (.int .u64 b3) := (hb3.cell (p := ⟨W.heap.size, 3, none⟩) (by simp; omega)).trans (cell_new q3)
      have k0 : w3.cell? ⟨w2.heap.size, 0, none⟩ = some (.int .u64 y0) := (hb3.cell (p := ⟨w2.heap.size, 0, none⟩) (by simp)).trans (by simp [go_sem])
      have k1 : w3.cell? ⟨w2.heap.size, 1, none⟩ = some (.int .u64 y1) := (hb3.cell (p := ⟨w2.heap.size, 1, none⟩) (by simp)).trans (by simp [go_sem])
      have k2 : w3.cell? ⟨w2.heap.size, 2, none⟩ = some (.int .u64 y2) := (hb3.cell (p := ⟨w2.heap.size, 2, none⟩) (by simp)).trans (by simp [go_sem])
      have k3 : w3.cell? ⟨w2.heap.size, 3, none⟩ = some (.int .u64 y3) := (hb3.cell (p := ⟨w2.heap.size, 3, none⟩) (by simp)).trans (by simp [go_sem])
      have HB3 := Lib.hid (below_then (below_new HB2.out _) hb3)
      clear hb3 hp3 q0 q1 q2 q3
      have hS := keep_begin HB3.out d0 d1 d2 d3 k0 k1 k2 k3 (v20 := .int .u64 z0) (v21 := .int .u64 z1) (v22 := .int .u64 z2) (v23 := .int .u64 z3) (T := 35)
      have HS := Lib.hid hS
      have hs3 : w3.heap.size < (w3.alloc (.cells #[.int .u64 z0, .int .u64 z1, .int .u64 z2, .int .u64 z3] 35)).heap.size := by simp
      clear hS
      have C1 := Lib.hid (f_has y0 y1 y2 y3 kk true HP2.out.ok hkk HP2.out.at_)
      have C2 := Lib.hid (f_has z0 z1 z2 z3 kk false HP3.out.ok hkk HP3.out.at_)
      have C3 := Lib.hid (top_of y0 y1 y2 y3 kk HP2.out.ok (top_put HP2.out hkk (.inl rfl) (fun i _ h2 => HALL.out i (by omega) h2)))
      go_wp2_with fail
      refine (C1.out _).mono ?_
      rintro e w4 ⟨rfl, hb4⟩
      have HS4 := Lib.hid (keep_on HS.out hb4)
      clear hb4 HS d0 d1 d2 d3 k0 k1 k2 k3 hs3
      obtain ⟨_, _, a0, a1, a2, a3, e0, e1, e2, e3, g0, g1, g2, g3⟩ := HS4.out
      go_wp2_with fail
      refine (C2.out _).mono ?_
      rintro e w5 ⟨rfl, hb5⟩
      have HS5 := Lib.hid (keep_on HS4.out hb5)
      clear hb5 HS4 a0 a1 a2 a3 e0 e1 e2 e3 g0 g1 g2 g3
      obtain ⟨_, _, a0, a1, a2, a3, e0, e1, e2, e3, g0, g1, g2, g3⟩ := HS5.out
      go_wp2_with fail
      refine (C3.out _).mono ?_
      rintro e w6 ⟨rfl, hb6⟩
      have HS6 := Lib.hid (keep_on HS5.out hb6)
      clear hb6 HS5 a0 a1 a2 a3 e0 e1 e2 e3 g0 g1 g2 g3
      obtain ⟨_, _, a0, a1, a2, a3, e0, e1, e2, e3, g0, g1, g2, g3⟩ := HS6.out
      go_wp2_with fail
      clear a0 a1 a2 a3 e0 e1 e2 e3 g0 g1 g2 g3 C1 C2 C3
      go_loopw [12] (fun i wr => ∃ k : Nat, k ≤ 256 ∧ i = .int .i64 k ∧ Hid (Below W.heap.size W wr ∧ w3.heap.size < wr.heap.size ∧ wr.cell? ⟨W.heap.size, 0, none⟩ = some (.int .u64 b0) ∧ wr.cell? ⟨W.heap.size, 1, none⟩ = some (.int .u64 b1) ∧ wr.cell? ⟨W.heap.size, 2, none⟩ = some (.int .u64 b2) ∧ wr.cell? ⟨W.heap.size, 3, none⟩ = some (.int .u64 b3) ∧ wr.cell? ⟨w2.heap.size, 0, none⟩ = some (.int .u64 y0) ∧ wr.cell? ⟨w2.heap.size, 1, none⟩ = some (.int .u64 y1) ∧ wr.cell? ⟨w2.heap.size, 2, none⟩ = some (.int .u64 y2) ∧ wr.cell? ⟨w2.heap.size, 3, none⟩ = some (.int .u64 y3) ∧ wr.cell? ⟨w3.heap.size, 0, none⟩ = some (.int .u64 z0) ∧ wr.cell? ⟨w3.heap.size, 1, none⟩ = some (.int .u64 z1) ∧ wr.cell? ⟨w3.heap.size, 2, none⟩ = some (.int .u64 z2) ∧ wr.cell? ⟨w3.heap.size, 3, none⟩ = some (.int .u64 z3))) (fun i _ => 256 - (intOf i).toNat)
      case atStart => exact ⟨0, by omega, rfl, HS6⟩
      case round =>
        obtain ⟨m2, hm2, rfl, HSr⟩ := hrel
        clear HS6
        by_cases hlt2 : m2 < 256
        · by_cases hik : m2 = kk
          · have hd : ((m2 : Int) != (kk : Int)) = false := by simp [hik]
            clear hik
            go_wp2_with fail
            go_quiet (fail)
            go_wp2
            go_roundw
            case rel => exact ⟨m2 + 1, by omega, by go_num, Lib.hid (keep_draws HSr.out _)⟩
            case measure => simp [intOf]; omega
          · have hd : ((m2 : Int) != (kk : Int)) = true := by simp; omega
            obtain ⟨vb, hvb⟩ : ∃ vb, B4.has ⟨b0, b1, b2, b3⟩ m2 = vb := ⟨_, rfl⟩
            have D1 := Lib.hid (f_has y0 y1 y2 y3 m2 vb HP2.out.ok hlt2 ((HP2.out.other m2 hlt2 hik).trans hvb))
            have D2 := Lib.hid (f_has z0 z1 z2 z3 m2 vb HP3.out.ok hlt2 ((HP3.out.other m2 hlt2 hik).trans hvb))
            have D3 := Lib.hid (f_has b0 b1 b2 b3 m2 vb hB hlt2 hvb)
            clear hvb hik
            cases vb
            all_goals
              go_wp2_with fail
              go_region_held3 (fun w' => Below W.heap.size W w' ∧ w3.heap.size < w'.heap.size ∧ w'.cell? ⟨W.heap.size, 0, none⟩ = some (.int .u64 b0) ∧ w'.cell? ⟨W.heap.size, 1, none⟩ = some (.int .u64 b1) ∧ w'.cell? ⟨W.heap.size, 2, none⟩ = some (.int .u64 b2) ∧ w'.cell? ⟨W.heap.size, 3, none⟩ = some (.int .u64 b3) ∧ w'.cell? ⟨w2.heap.size, 0, none⟩ = some (.int .u64 y0) ∧ w'.cell? ⟨w2.heap.size, 1, none⟩ = some (.int .u64 y1) ∧ w'.cell? ⟨w2.heap.size, 2, none⟩ = some (.int .u64 y2) ∧ w'.cell? ⟨w2.heap.size, 3, none⟩ = some (.int .u64 y3) ∧ w'.cell? ⟨w3.heap.size, 0, none⟩ = some (.int .u64 z0) ∧ w'.cell? ⟨w3.heap.size, 1, none⟩ = some (.int .u64 z1) ∧ w'.cell? ⟨w3.heap.size, 2, none⟩ = some (.int .u64 z2) ∧ w'.cell? ⟨w3.heap.size, 3, none⟩ = some (.int .u64 z3)) (first | exact keep_draws HSr.out 1 | (refine keep_on ?_ hb; assumption))
                (first
                  | (go_at_call_of 23 (Value.agg #[.int .u64 y0, .int .u64 y1, .int .u64 y2, .int .u64 y3]); refine (D1.out _).mono ?_; rintro e w' ⟨rfl, hb⟩)
                  | (go_at_call_of 23 (Value.agg #[.int .u64 z0, .int .u64 z1, .int .u64 z2, .int .u64 z3]); refine (D2.out _).mono ?_; rintro e w' ⟨rfl, hb⟩)
                  | (go_at_call_of 23 (Value.agg #[.int .u64 b0, .int .u64 b1, .int .u64 b2, .int .u64 b3]); refine (D3.out _).mono ?_; rintro e w' ⟨rfl, hb⟩))
              go_wp2
              go_roundw
              case rel => exact ⟨m2 + 1, by omega, by go_num, Lib.hid (by assumption)⟩
              case measure => simp [intOf]; omega
        · go_wp2_with fail
          refine (fixed_true _).mono ?_
          rintro e w7 ⟨rfl, hb7⟩
          have HB7 := Lib.hid hb7
          clear hb7
          go_wp2_with fail
          go_ret
          exact ⟨rfl, below_then HSr.out.1 HB7.out⟩

set_option maxRecDepth 100000 in
set_option maxHeartbeats 12800000 in
theorem wordsTop_lt (b0 b1 b2 b3 : Nat) (n : Int) (m kk : Nat) (hm : m < 256) (hlt : m < kk) (hhas : B4.has ⟨b0, b1, b2, b3⟩ m = true) (hT : TopIs ⟨b0, b1, b2, b3⟩ (m : Int)) (hK : bits .and .i64 n 255 = (kk : Int)) (hkk : kk < 256) (hall : ∀ i : Nat, (m : Int) < (i : Int) → i < 256 → B4.has ⟨b0, b1, b2, b3⟩ i = false) (hB : B4.Ok ⟨b0, b1, b2, b3⟩) (W : World) :
    Calls Try.prog 7 #[.agg #[.int .u64 b0, .int .u64 b1, .int .u64 b2, .int .u64 b3], .int .i64 n] W fun e w' => e = .returned (.bool true) ∧ Below W.heap.size W w' := by
  have HTOP := Lib.hid (top_of b0 b1 b2 b3 (m : Int) hB hT)
  have CT := Lib.hid (f_has b0 b1 b2 b3 m true hB hm hhas)
  have HALL := Lib.hid hall
  have hne : ((m : Int) == (kk : Int)) = false := beq_eq_false_iff_ne.2 (by omega)
  have hmax : max (m : Int) (kk : Int) = (kk : Int) := by omega
  have HLT := Lib.hid hlt
  clear hall hT hhas hlt
  go_enter Try.func7, Try.ntmps7
  go_wp2_with fail
  refine (HTOP.out _).mono ?_
  rintro e w1 ⟨rfl, hb1⟩
  have hz1 : W.heap.size < w1.heap.size := by have := hb1.size; simp at this; omega
  have c0 : w1.cell? ⟨W.heap.size, 0, none⟩ = some (.int .u64 b0) := (hb1.cell (p := ⟨W.heap.size, 0, none⟩) (by simp)).trans (by simp [go_sem])
  have c1 : w1.cell? ⟨W.heap.size, 1, none⟩ = some (.int .u64 b1) := (hb1.cell (p := ⟨W.heap.size, 1, none⟩) (by simp)).trans (by simp [go_sem])
  have c2 : w1.cell? ⟨W.heap.size, 2, none⟩ = some (.int .u64 b2) := (hb1.cell (p := ⟨W.heap.size, 2, none⟩) (by simp)).trans (by simp [go_sem])
  have c3 : w1.cell? ⟨W.heap.size, 3, none⟩ = some (.int .u64 b3) := (hb1.cell (p := ⟨W.heap.size, 3, none⟩) (by simp)).trans (by simp [go_sem])
  have HB1 := Lib.hid (below_then (below_new (Below.refl W.heap.size W) _) hb1)
  clear hb1
  go_wp2_with fail
  refine (CT.out _).mono ?_
  rintro e wh ⟨rfl, hbh⟩
  have hzh : W.heap.size < wh.heap.size := Nat.lt_of_lt_of_le hz1 hbh.size
  have x0 := (hbh.cell (p := ⟨W.heap.size, 0, none⟩) hz1).trans c0
  have x1 := (hbh.cell (p := ⟨W.heap.size, 1, none⟩) hz1).trans c1
  have x2 := (hbh.cell (p := ⟨W.heap.size, 2, none⟩) hz1).trans c2
  have x3 := (hbh.cell (p := ⟨W.heap.size, 3, none⟩) hz1).trans c3
  have HBh := Lib.hid (below_then HB1.out hbh)
  clear hbh HB1 hz1 c0 c1 c2 c3
  have HB1 := HBh
  have hz1 := hzh
  have c0 := x0
  have c1 := x1
  have c2 := x2
  have c3 := x3
  clear HBh hzh x0 x1 x2 x3
  go_wp2_with fail
  go_loopw [6] (fun i wr => ∃ k : Nat, k ≤ 256 ∧ (m : Int) < (k : Int) ∧ i = .int .i64 k ∧ Hid (Below W.heap.size W wr) ∧ W.heap.size < wr.heap.size ∧ wr.cell? ⟨W.heap.size, 0, none⟩ = some (.int .u64 b0) ∧ wr.cell? ⟨W.heap.size, 1, none⟩ = some (.int .u64 b1) ∧ wr.cell? ⟨W.heap.size, 2, none⟩ = some (.int .u64 b2) ∧ wr.cell? ⟨W.heap.size, 3, none⟩ = some (.int .u64 b3)) (fun i _ => 256 - (intOf i).toNat)
  case atStart => exact ⟨((m : Int) + 1).toNat, by omega, by omega, int_cast (by omega), HB1, hz1, c0, c1, c2, c3⟩
  case round =>
    obtain ⟨k, hk, hkt, rfl, HBr, hzr, r0, r1, r2, r3⟩ := hrel
    clear HB1 hz1 c0 c1 c2 c3
    by_cases hlt : k < 256
    · have HF := f_has b0 b1 b2 b3 k false hB hlt (HALL.out k hkt hlt)
      have HF' := Lib.hid HF
      clear HF
      go_wp2_with fail
      refine (HF'.out _).mono ?_
      rintro e w2 ⟨rfl, hb2⟩
      have hz2 : W.heap.size < w2.heap.size := Nat.lt_of_lt_of_le hzr hb2.size
      have q0 := (hb2.cell (p := ⟨W.heap.size, 0, none⟩) hzr).trans r0
      have q1 := (hb2.cell (p := ⟨W.heap.size, 1, none⟩) hzr).trans r1
      have q2 := (hb2.cell (p := ⟨W.heap.size, 2, none⟩) hzr).trans r2
      have q3 := (hb2.cell (p := ⟨W.heap.size, 3, none⟩) hzr).trans r3
      have HB2 := Lib.hid (below_then HBr.out hb2)
      clear hb2 r0 r1 r2 r3
      go_wp2
      go_roundw
      case rel => exact ⟨k + 1, by omega, by omega, by go_num, HB2, hz2, q0, q1, q2, q3⟩
      case measure => simp [intOf]; omega
    · go_wp2_with fail
      refine (set_any b0 b1 b2 b3 kk true hB hkk _).mono ?_
      rintro e w2 ⟨y0, y1, y2, y3, rfl, hp2, hb2⟩
      have HP2 := Lib.hid hp2
      have hz2 : W.heap.size < w2.heap.size := Nat.lt_of_lt_of_le hzr hb2.size
      have q0 : w2.cell? ⟨W.heap.size, 0, none⟩ = some (.int .u64 b0) := (hb2.cell (p := ⟨W.heap.size, 0, none⟩) (hzr)).trans (r0)
      have q1 : w2.cell? ⟨W.heap.size, 1, none⟩ = some (.int .u64 b1) := (hb2.cell (p := ⟨W.heap.size, 1, none⟩) (hzr)).trans (r1)
      have q2 : w2.cell? ⟨W.heap.size, 2, none⟩ = some (.int .u64 b2) := (hb2.cell (p := ⟨W.heap.size, 2, none⟩) (hzr)).trans (r2)
      have q3 : w2.cell? ⟨W.heap.size, 3, none⟩ = some (.int .u64 b3) := (hb2.cell (p := ⟨W.heap.size, 3, none⟩) (hzr)).trans (r3)
      have HB2 := Lib.hid (below_then HBr.out hb2)
      clear hb2 hp2 r0 r1 r2 r3
      go_wp2_with fail
      refine (set_any b0 b1 b2 b3 kk false hB hkk _).mono ?_
      rintro e w3 ⟨z0, z1, z2, z3, rfl, hp3, hb3⟩
      have HP3 := Lib.hid hp3
      have hz3 : w2.heap.size < w3.heap.size := by have := hb3.size; simp at this; omega
      have d0 : w3.cell? ⟨W.heap.size, 0, none⟩ = some (.int .u64 b0) := (hb3.cell (p := ⟨W.heap.size, 0, none⟩) (by simp; omega)).trans (cell_new q0)
      have d1 : w3.cell? ⟨W.heap.size, 1, none⟩ = some (.int .u64 b1) := (hb3.cell (p := ⟨W.heap.size, 1, none⟩) (by simp; omega)).trans (cell_new q1)
      have d2 : w3.cell? ⟨W.heap.size, 2, none⟩ = some (.int .u64 b2) := (hb3.cell (p := ⟨W.heap.size, 2, none⟩) (by simp; omega)).trans (cell_new q2)
      have d3 : w3.cell? ⟨W.heap.size, 3, none⟩ = some (.int .u64 b3) := (hb3.cell (p := ⟨W.heap.size, 3, none⟩) (by simp; omega)).trans (cell_new q3)
      have k0 : w3.cell? ⟨w2.heap.size, 0, none⟩ = some (.int .u64 y0) := (hb3.cell (p := ⟨w2.heap.size, 0, none⟩) (by simp)).trans (by simp [go_sem])
      have k1 : w3.cell? ⟨w2.heap.size, 1, none⟩ = some (.int .u64 y1) := (hb3.cell (p := ⟨w2.heap.size, 1, none⟩) (by simp)).trans (by simp [go_sem])
      have k2 : w3.cell? ⟨w2.heap.size, 2, none⟩ = some (.int .u64 y2) := (hb3.cell (p := ⟨w2.heap.size, 2, none⟩) (by simp)).trans (by simp [go_sem])
      have k3 : w3.cell? ⟨w2.heap.size, 3, none⟩ = some (.int .u64 y3) := (hb3.cell (p := ⟨w2.heap.size, 3, none⟩) (by simp)).trans (by simp [go_sem])
      have HB3 := Lib.hid (below_then (below_new HB2.out _) hb3)
      clear hb3 hp3 q0 q1 q2 q3
      have hS := keep_begin HB3.out d0 d1 d2 d3 k0 k1 k2 k3 (v20 := .int .u64 z0) (v21 := .int .u64 z1) (v22 := .int .u64 z2) (v23 := .int .u64 z3) (T := 35)
      have HS := Lib.hid hS
      have hs3 : w3.heap.size < (w3.alloc (.cells #[.int .u64 z0, .int .u64 z1, .int .u64 z2, .int .u64 z3] 35)).heap.size := by simp
      clear hS
      have C1 := Lib.hid (f_has y0 y1 y2 y3 kk true HP2.out.ok hkk HP2.out.at_)
      have C2 := Lib.hid (f_has z0 z1 z2 z3 kk false HP3.out.ok hkk HP3.out.at_)
      have C3 := Lib.hid (top_of y0 y1 y2 y3 kk HP2.out.ok (top_put HP2.out hkk (.inl rfl) (fun i h1 h2 => HALL.out i (by have := HLT.out; omega) h2)))
      go_wp2_with fail
      refine (C1.out _).mono ?_
      rintro e w4 ⟨rfl, hb4⟩
      have HS4 := Lib.hid (keep_on HS.out hb4)
      clear hb4 HS d0 d1 d2 d3 k0 k1 k2 k3 hs3
      obtain ⟨_, _, a0, a1, a2, a3, e0, e1, e2, e3, g0, g1, g2, g3⟩ := HS4.out
      go_wp2_with fail
      refine (C2.out _).mono ?_
      rintro e w5 ⟨rfl, hb5⟩
      have HS5 := Lib.hid (keep_on HS4.out hb5)
      clear hb5 HS4 a0 a1 a2 a3 e0 e1 e2 e3 g0 g1 g2 g3
      obtain ⟨_, _, a0, a1, a2, a3, e0, e1, e2, e3, g0, g1, g2, g3⟩ := HS5.out
      go_wp2_with fail
      refine (C3.out _).mono ?_
      rintro e w6 ⟨rfl, hb6⟩
      have HS6 := Lib.hid (keep_on HS5.out hb6)
      clear hb6 HS5 a0 a1 a2 a3 e0 e1 e2 e3 g0 g1 g2 g3
      obtain ⟨_, _, a0, a1, a2, a3, e0, e1, e2, e3, g0, g1, g2, g3⟩ := HS6.out
      go_wp2_with fail
      clear a0 a1 a2 a3 e0 e1 e2 e3 g0 g1 g2 g3 C1 C2 C3
      go_loopw [12] (fun i wr => ∃ k : Nat, k ≤ 256 ∧ i = .int .i64 k ∧ Hid (Below W.heap.size W wr ∧ w3.heap.size < wr.heap.size ∧ wr.cell? ⟨W.heap.size, 0, none⟩ = some (.int .u64 b0) ∧ wr.cell? ⟨W.heap.size, 1, none⟩ = some (.int .u64 b1) ∧ wr.cell? ⟨W.heap.size, 2, none⟩ = some (.int .u64 b2) ∧ wr.cell? ⟨W.heap.size, 3, none⟩ = some (.int .u64 b3) ∧ wr.cell? ⟨w2.heap.size, 0, none⟩ = some (.int .u64 y0) ∧ wr.cell? ⟨w2.heap.size, 1, none⟩ = some (.int .u64 y1) ∧ wr.cell? ⟨w2.heap.size, 2, none⟩ = some (.int .u64 y2) ∧ wr.cell? ⟨w2.heap.size, 3, none⟩ = some (.int .u64 y3) ∧ wr.cell? ⟨w3.heap.size, 0, none⟩ = some (.int .u64 z0) ∧ wr.cell? ⟨w3.heap.size, 1, none⟩ = some (.int .u64 z1) ∧ wr.cell? ⟨w3.heap.size, 2, none⟩ = some (.int .u64 z2) ∧ wr.cell? ⟨w3.heap.size, 3, none⟩ = some (.int .u64 z3))) (fun i _ => 256 - (intOf i).toNat)
      case atStart => exact ⟨0, by omega, rfl, HS6⟩
      case round =>
        obtain ⟨m2, hm2, rfl, HSr⟩ := hrel
        clear HS6
        by_cases hlt2 : m2 < 256
        · by_cases hik : m2 = kk
          · have hd : ((m2 : Int) != (kk : Int)) = false := by simp [hik]
            clear hik
            go_wp2_with fail
            go_quiet (fail)
            go_wp2
            go_roundw
            case rel => exact ⟨m2 + 1, by omega, by go_num, Lib.hid (keep_draws HSr.out _)⟩
            case measure => simp [intOf]; omega
          · have hd : ((m2 : Int) != (kk : Int)) = true := by simp; omega
            obtain ⟨vb, hvb⟩ : ∃ vb, B4.has ⟨b0, b1, b2, b3⟩ m2 = vb := ⟨_, rfl⟩
            have D1 := Lib.hid (f_has y0 y1 y2 y3 m2 vb HP2.out.ok hlt2 ((HP2.out.other m2 hlt2 hik).trans hvb))
            have D2 := Lib.hid (f_has z0 z1 z2 z3 m2 vb HP3.out.ok hlt2 ((HP3.out.other m2 hlt2 hik).trans hvb))
            have D3 := Lib.hid (f_has b0 b1 b2 b3 m2 vb hB hlt2 hvb)
            clear hvb hik
            cases vb
            all_goals
              go_wp2_with fail
              go_region_held3 (fun w' => Below W.heap.size W w' ∧ w3.heap.size < w'.heap.size ∧ w'.cell? ⟨W.heap.size, 0, none⟩ = some (.int .u64 b0) ∧ w'.cell? ⟨W.heap.size, 1, none⟩ = some (.int .u64 b1) ∧ w'.cell? ⟨W.heap.size, 2, none⟩ = some (.int .u64 b2) ∧ w'.cell? ⟨W.heap.size, 3, none⟩ = some (.int .u64 b3) ∧ w'.cell? ⟨w2.heap.size, 0, none⟩ = some (.int .u64 y0) ∧ w'.cell? ⟨w2.heap.size, 1, none⟩ = some (.int .u64 y1) ∧ w'.cell? ⟨w2.heap.size, 2, none⟩ = some (.int .u64 y2) ∧ w'.cell? ⟨w2.heap.size, 3, none⟩ = some (.int .u64 y3) ∧ w'.cell? ⟨w3.heap.size, 0, none⟩ = some (.int .u64 z0) ∧ w'.cell? ⟨w3.heap.size, 1, none⟩ = some (.int .u64 z1) ∧ w'.cell? ⟨w3.heap.size, 2, none⟩ = some (.int .u64 z2) ∧ w'.cell? ⟨w3.heap.size, 3, none⟩ = some (.int .u64 z3)) (first | exact keep_draws HSr.out 1 | (refine keep_on ?_ hb; assumption))
                (first
                  | (go_at_call_of 23 (Value.agg #[.int .u64 y0, .int .u64 y1, .int .u64 y2, .int .u64 y3]); refine (D1.out _).mono ?_; rintro e w' ⟨rfl, hb⟩)
                  | (go_at_call_of 23 (Value.agg #[.int .u64 z0, .int .u64 z1, .int .u64 z2, .int .u64 z3]); refine (D2.out _).mono ?_; rintro e w' ⟨rfl, hb⟩)
                  | (go_at_call_of 23 (Value.agg #[.int .u64 b0, .int .u64 b1, .int .u64 b2, .int .u64 b3]); refine (D3.out _).mono ?_; rintro e w' ⟨rfl, hb⟩))
              go_wp2
              go_roundw
              case rel => exact ⟨m2 + 1, by omega, by go_num, Lib.hid (by assumption)⟩
              case measure => simp [intOf]; omega
        · go_wp2_with fail
          refine (fixed_true _).mono ?_
          rintro e w7 ⟨rfl, hb7⟩
          have HB7 := Lib.hid hb7
          clear hb7
          go_wp2_with fail
          go_ret
          exact ⟨rfl, below_then HSr.out.1 HB7.out⟩

set_option maxRecDepth 100000 in
set_option maxHeartbeats 12800000 in
theorem wordsTop_gt (b0 b1 b2 b3 : Nat) (n : Int) (m kk : Nat) (hm : m < 256) (hgt : kk < m) (hhas : B4.has ⟨b0, b1, b2, b3⟩ m = true) (hT : TopIs ⟨b0, b1, b2, b3⟩ (m : Int)) (hK : bits .and .i64 n 255 = (kk : Int)) (hkk : kk < 256) (hall : ∀ i : Nat, (m : Int) < (i : Int) → i < 256 → B4.has ⟨b0, b1, b2, b3⟩ i = false) (hB : B4.Ok ⟨b0, b1, b2, b3⟩) (W : World) :
    Calls Try.prog 7 #[.agg #[.int .u64 b0, .int .u64 b1, .int .u64 b2, .int .u64 b3], .int .i64 n] W fun e w' => e = .returned (.bool true) ∧ Below W.heap.size W w' := by
  have HTOP := Lib.hid (top_of b0 b1 b2 b3 (m : Int) hB hT)
  have CT := Lib.hid (f_has b0 b1 b2 b3 m true hB hm hhas)
  have HALL := Lib.hid hall
  have hne : ((m : Int) == (kk : Int)) = false := beq_eq_false_iff_ne.2 (by omega)
  have hmax : max (m : Int) (kk : Int) = (m : Int) := by omega
  have HGT := Lib.hid (And.intro hgt (And.intro hm hhas))
  clear hall hT hhas hgt
  go_enter Try.func7, Try.ntmps7
  go_wp2_with fail
  refine (HTOP.out _).mono ?_
  rintro e w1 ⟨rfl, hb1⟩
  have hz1 : W.heap.size < w1.heap.size := by have := hb1.size; simp at this; omega
  have c0 : w1.cell? ⟨W.heap.size, 0, none⟩ = some (.int .u64 b0) := (hb1.cell (p := ⟨W.heap.size, 0, none⟩) (by simp)).trans (by simp [go_sem])
  have c1 : w1.cell? ⟨W.heap.size, 1, none⟩ = some (.int .u64 b1) := (hb1.cell (p := ⟨W.heap.size, 1, none⟩) (by simp)).trans (by simp [go_sem])
  have c2 : w1.cell? ⟨W.heap.size, 2, none⟩ = some (.int .u64 b2) := (hb1.cell (p := ⟨W.heap.size, 2, none⟩) (by simp)).trans (by simp [go_sem])
  have c3 : w1.cell? ⟨W.heap.size, 3, none⟩ = some (.int .u64 b3) := (hb1.cell (p := ⟨W.heap.size, 3, none⟩) (by simp)).trans (by simp [go_sem])
  have HB1 := Lib.hid (below_then (below_new (Below.refl W.heap.size W) _) hb1)
  clear hb1
  go_wp2_with fail
  refine (CT.out _).mono ?_
  rintro e wh ⟨rfl, hbh⟩
  have hzh : W.heap.size < wh.heap.size := Nat.lt_of_lt_of_le hz1 hbh.size
  have x0 := (hbh.cell (p := ⟨W.heap.size, 0, none⟩) hz1).trans c0
  have x1 := (hbh.cell (p := ⟨W.heap.size, 1, none⟩) hz1).trans c1
  have x2 := (hbh.cell (p := ⟨W.heap.size, 2, none⟩) hz1).trans c2
  have x3 := (hbh.cell (p := ⟨W.heap.size, 3, none⟩) hz1).trans c3
  have HBh := Lib.hid (below_then HB1.out hbh)
  clear hbh HB1 hz1 c0 c1 c2 c3
  have HB1 := HBh
  have hz1 := hzh
  have c0 := x0
  have c1 := x1
  have c2 := x2
  have c3 := x3
  clear HBh hzh x0 x1 x2 x3
  go_wp2_with fail
  go_loopw [6] (fun i wr => ∃ k : Nat, k ≤ 256 ∧ (m : Int) < (k : Int) ∧ i = .int .i64 k ∧ Hid (Below W.heap.size W wr) ∧ W.heap.size < wr.heap.size ∧ wr.cell? ⟨W.heap.size, 0, none⟩ = some (.int .u64 b0) ∧ wr.cell? ⟨W.heap.size, 1, none⟩ = some (.int .u64 b1) ∧ wr.cell? ⟨W.heap.size, 2, none⟩ = some (.int .u64 b2) ∧ wr.cell? ⟨W.heap.size, 3, none⟩ = some (.int .u64 b3)) (fun i _ => 256 - (intOf i).toNat)
  case atStart => exact ⟨((m : Int) + 1).toNat, by omega, by omega, int_cast (by omega), HB1, hz1, c0, c1, c2, c3⟩
  case round =>
    obtain ⟨k, hk, hkt, rfl, HBr, hzr, r0, r1, r2, r3⟩ := hrel
    clear HB1 hz1 c0 c1 c2 c3
    by_cases hlt : k < 256
    · have HF := f_has b0 b1 b2 b3 k false hB hlt (HALL.out k hkt hlt)
      have HF' := Lib.hid HF
      clear HF
      go_wp2_with fail
      refine (HF'.out _).mono ?_
      rintro e w2 ⟨rfl, hb2⟩
      have hz2 : W.heap.size < w2.heap.size := Nat.lt_of_lt_of_le hzr hb2.size
      have q0 := (hb2.cell (p := ⟨W.heap.size, 0, none⟩) hzr).trans r0
      have q1 := (hb2.cell (p := ⟨W.heap.size, 1, none⟩) hzr).trans r1
      have q2 := (hb2.cell (p := ⟨W.heap.size, 2, none⟩) hzr).trans r2
      have q3 := (hb2.cell (p := ⟨W.heap.size, 3, none⟩) hzr).trans r3
      have HB2 := Lib.hid (below_then HBr.out hb2)
      clear hb2 r0 r1 r2 r3
      go_wp2
      go_roundw
      case rel => exact ⟨k + 1, by omega, by omega, by go_num, HB2, hz2, q0, q1, q2, q3⟩
      case measure => simp [intOf]; omega
    · go_wp2_with fail
      refine (set_any b0 b1 b2 b3 kk true hB hkk _).mono ?_
      rintro e w2 ⟨y0, y1, y2, y3, rfl, hp2, hb2⟩
      have HP2 := Lib.hid hp2
      have hz2 : W.heap.size < w2.heap.size := Nat.lt_of_lt_of_le hzr hb2.size
      have q0 : w2.cell? ⟨W.heap.size, 0, none⟩ = some (.int .u64 b0) := (hb2.cell (p := ⟨W.heap.size, 0, none⟩) (hzr)).trans (r0)
      have q1 : w2.cell? ⟨W.heap.size, 1, none⟩ = some (.int .u64 b1) := (hb2.cell (p := ⟨W.heap.size, 1, none⟩) (hzr)).trans (r1)
      have q2 : w2.cell? ⟨W.heap.size, 2, none⟩ = some (.int .u64 b2) := (hb2.cell (p := ⟨W.heap.size, 2, none⟩) (hzr)).trans (r2)
      have q3 : w2.cell? ⟨W.heap.size, 3, none⟩ = some (.int .u64 b3) := (hb2.cell (p := ⟨W.heap.size, 3, none⟩) (hzr)).trans (r3)
      have HB2 := Lib.hid (below_then HBr.out hb2)
      clear hb2 hp2 r0 r1 r2 r3
      go_wp2_with fail
      refine (set_any b0 b1 b2 b3 kk false hB hkk _).mono ?_
      rintro e w3 ⟨z0, z1, z2, z3, rfl, hp3, hb3⟩
      have HP3 := Lib.hid hp3
      have hz3 : w2.heap.size < w3.heap.size := by have := hb3.size; simp at this; omega
      have d0 : w3.cell? ⟨W.heap.size, 0, none⟩ = some (.int .u64 b0) := (hb3.cell (p := ⟨W.heap.size, 0, none⟩) (by simp; omega)).trans (cell_new q0)
      have d1 : w3.cell? ⟨W.heap.size, 1, none⟩ = some (.int .u64 b1) := (hb3.cell (p := ⟨W.heap.size, 1, none⟩) (by simp; omega)).trans (cell_new q1)
      have d2 : w3.cell? ⟨W.heap.size, 2, none⟩ = some (.int .u64 b2) := (hb3.cell (p := ⟨W.heap.size, 2, none⟩) (by simp; omega)).trans (cell_new q2)
      have d3 : w3.cell? ⟨W.heap.size, 3, none⟩ = some (.int .u64 b3) := (hb3.cell (p := ⟨W.heap.size, 3, none⟩) (by simp; omega)).trans (cell_new q3)
      have k0 : w3.cell? ⟨w2.heap.size, 0, none⟩ = some (.int .u64 y0) := (hb3.cell (p := ⟨w2.heap.size, 0, none⟩) (by simp)).trans (by simp [go_sem])
      have k1 : w3.cell? ⟨w2.heap.size, 1, none⟩ = some (.int .u64 y1) := (hb3.cell (p := ⟨w2.heap.size, 1, none⟩) (by simp)).trans (by simp [go_sem])
      have k2 : w3.cell? ⟨w2.heap.size, 2, none⟩ = some (.int .u64 y2) := (hb3.cell (p := ⟨w2.heap.size, 2, none⟩) (by simp)).trans (by simp [go_sem])
      have k3 : w3.cell? ⟨w2.heap.size, 3, none⟩ = some (.int .u64 y3) := (hb3.cell (p := ⟨w2.heap.size, 3, none⟩) (by simp)).trans (by simp [go_sem])
      have HB3 := Lib.hid (below_then (below_new HB2.out _) hb3)
      clear hb3 hp3 q0 q1 q2 q3
      have hS := keep_begin HB3.out d0 d1 d2 d3 k0 k1 k2 k3 (v20 := .int .u64 z0) (v21 := .int .u64 z1) (v22 := .int .u64 z2) (v23 := .int .u64 z3) (T := 35)
      have HS := Lib.hid hS
      have hs3 : w3.heap.size < (w3.alloc (.cells #[.int .u64 z0, .int .u64 z1, .int .u64 z2, .int .u64 z3] 35)).heap.size := by simp
      clear hS
      have C1 := Lib.hid (f_has y0 y1 y2 y3 kk true HP2.out.ok hkk HP2.out.at_)
      have C2 := Lib.hid (f_has z0 z1 z2 z3 kk false HP3.out.ok hkk HP3.out.at_)
      have C3 := Lib.hid (top_of y0 y1 y2 y3 m HP2.out.ok (top_put HP2.out hkk (.inr HGT.out) (fun i h1 h2 => HALL.out i (by omega) h2)))
      go_wp2_with fail
      refine (C1.out _).mono ?_
      rintro e w4 ⟨rfl, hb4⟩
      have HS4 := Lib.hid (keep_on HS.out hb4)
      clear hb4 HS d0 d1 d2 d3 k0 k1 k2 k3 hs3
      obtain ⟨_, _, a0, a1, a2, a3, e0, e1, e2, e3, g0, g1, g2, g3⟩ := HS4.out
      go_wp2_with fail
      refine (C2.out _).mono ?_
      rintro e w5 ⟨rfl, hb5⟩
      have HS5 := Lib.hid (keep_on HS4.out hb5)
      clear hb5 HS4 a0 a1 a2 a3 e0 e1 e2 e3 g0 g1 g2 g3
      obtain ⟨_, _, a0, a1, a2, a3, e0, e1, e2, e3, g0, g1, g2, g3⟩ := HS5.out
      go_wp2_with fail
      refine (C3.out _).mono ?_
      rintro e w6 ⟨rfl, hb6⟩
      have HS6 := Lib.hid (keep_on HS5.out hb6)
      clear hb6 HS5 a0 a1 a2 a3 e0 e1 e2 e3 g0 g1 g2 g3
      obtain ⟨_, _, a0, a1, a2, a3, e0, e1, e2, e3, g0, g1, g2, g3⟩ := HS6.out
      go_wp2_with fail
      clear a0 a1 a2 a3 e0 e1 e2 e3 g0 g1 g2 g3 C1 C2 C3
      go_loopw [12] (fun i wr => ∃ k : Nat, k ≤ 256 ∧ i = .int .i64 k ∧ Hid (Below W.heap.size W wr ∧ w3.heap.size < wr.heap.size ∧ wr.cell? ⟨W.heap.size, 0, none⟩ = some (.int .u64 b0) ∧ wr.cell? ⟨W.heap.size, 1, none⟩ = some (.int .u64 b1) ∧ wr.cell? ⟨W.heap.size, 2, none⟩ = some (.int .u64 b2) ∧ wr.cell? ⟨W.heap.size, 3, none⟩ = some (.int .u64 b3) ∧ wr.cell? ⟨w2.heap.size, 0, none⟩ = some (.int .u64 y0) ∧ wr.cell? ⟨w2.heap.size, 1, none⟩ = some (.int .u64 y1) ∧ wr.cell? ⟨w2.heap.size, 2, none⟩ = some (.int .u64 y2) ∧ wr.cell? ⟨w2.heap.size, 3, none⟩ = some (.int .u64 y3) ∧ wr.cell? ⟨w3.heap.size, 0, none⟩ = some (.int .u64 z0) ∧ wr.cell? ⟨w3.heap.size, 1, none⟩ = some (.int .u64 z1) ∧ wr.cell? ⟨w3.heap.size, 2, none⟩ = some (.int .u64 z2) ∧ wr.cell? ⟨w3.heap.size, 3, none⟩ = some (.int .u64 z3))) (fun i _ => 256 - (intOf i).toNat)
      case atStart => exact ⟨0, by omega, rfl, HS6⟩
      case round =>
        obtain ⟨m2, hm2, rfl, HSr⟩ := hrel
        clear HS6
        by_cases hlt2 : m2 < 256
        · by_cases hik : m2 = kk
          · have hd : ((m2 : Int) != (kk : Int)) = false := by simp [hik]
            clear hik
            go_wp2_with fail
            go_quiet (fail)
            go_wp2
            go_roundw
            case rel => exact ⟨m2 + 1, by omega, by go_num, Lib.hid (keep_draws HSr.out _)⟩
            case measure => simp [intOf]; omega
          · have hd : ((m2 : Int) != (kk : Int)) = true := by simp; omega
            obtain ⟨vb, hvb⟩ : ∃ vb, B4.has ⟨b0, b1, b2, b3⟩ m2 = vb := ⟨_, rfl⟩
            have D1 := Lib.hid (f_has y0 y1 y2 y3 m2 vb HP2.out.ok hlt2 ((HP2.out.other m2 hlt2 hik).trans hvb))
            have D2 := Lib.hid (f_has z0 z1 z2 z3 m2 vb HP3.out.ok hlt2 ((HP3.out.other m2 hlt2 hik).trans hvb))
            have D3 := Lib.hid (f_has b0 b1 b2 b3 m2 vb hB hlt2 hvb)
            clear hvb hik
            cases vb
            all_goals
              go_wp2_with fail
              go_region_held3 (fun w' => Below W.heap.size W w' ∧ w3.heap.size < w'.heap.size ∧ w'.cell? ⟨W.heap.size, 0, none⟩ = some (.int .u64 b0) ∧ w'.cell? ⟨W.heap.size, 1, none⟩ = some (.int .u64 b1) ∧ w'.cell? ⟨W.heap.size, 2, none⟩ = some (.int .u64 b2) ∧ w'.cell? ⟨W.heap.size, 3, none⟩ = some (.int .u64 b3) ∧ w'.cell? ⟨w2.heap.size, 0, none⟩ = some (.int .u64 y0) ∧ w'.cell? ⟨w2.heap.size, 1, none⟩ = some (.int .u64 y1) ∧ w'.cell? ⟨w2.heap.size, 2, none⟩ = some (.int .u64 y2) ∧ w'.cell? ⟨w2.heap.size, 3, none⟩ = some (.int .u64 y3) ∧ w'.cell? ⟨w3.heap.size, 0, none⟩ = some (.int .u64 z0) ∧ w'.cell? ⟨w3.heap.size, 1, none⟩ = some (.int .u64 z1) ∧ w'.cell? ⟨w3.heap.size, 2, none⟩ = some (.int .u64 z2) ∧ w'.cell? ⟨w3.heap.size, 3, none⟩ = some (.int .u64 z3)) (first | exact keep_draws HSr.out 1 | (refine keep_on ?_ hb; assumption))
                (first
                  | (go_at_call_of 23 (Value.agg #[.int .u64 y0, .int .u64 y1, .int .u64 y2, .int .u64 y3]); refine (D1.out _).mono ?_; rintro e w' ⟨rfl, hb⟩)
                  | (go_at_call_of 23 (Value.agg #[.int .u64 z0, .int .u64 z1, .int .u64 z2, .int .u64 z3]); refine (D2.out _).mono ?_; rintro e w' ⟨rfl, hb⟩)
                  | (go_at_call_of 23 (Value.agg #[.int .u64 b0, .int .u64 b1, .int .u64 b2, .int .u64 b3]); refine (D3.out _).mono ?_; rintro e w' ⟨rfl, hb⟩))
              go_wp2
              go_roundw
              case rel => exact ⟨m2 + 1, by omega, by go_num, Lib.hid (by assumption)⟩
              case measure => simp [intOf]; omega
        · go_wp2_with fail
          refine (fixed_true _).mono ?_
          rintro e w7 ⟨rfl, hb7⟩
          have HB7 := Lib.hid hb7
          clear hb7
          go_wp2_with fail
          go_ret
          exact ⟨rfl, below_then HSr.out.1 HB7.out⟩

theorem top_less {x z : B4} {m : Nat} (h : Put x m false z) (hx : ∀ i, m < i → i < 256 → x.has i = false) : ∃ t : Int, t < (m : Int) ∧ TopIs z t := by
  refine ⟨topTo z 256, ?_, TopIs.of_top z⟩
  rcases topTo_is z 256 with ⟨h1, _⟩ | ⟨k, h1, h2, h3, _⟩
  · omega
  · rw [h1]
    by_cases e : k = m
    · rw [e, h.at_] at h3; cases h3
    · by_cases e2 : m < k
      · rw [h.other k h2 e, hx k e2 h2] at h3; cases h3
      · omega
set_option maxRecDepth 100000 in
set_option maxHeartbeats 12800000 in
theorem wordsTop_eq (b0 b1 b2 b3 : Nat) (n : Int) (m : Nat) (hm : m < 256)  (hhas : B4.has ⟨b0, b1, b2, b3⟩ m = true) (hT : TopIs ⟨b0, b1, b2, b3⟩ (m : Int)) (hK : bits .and .i64 n 255 = (m : Int)) (hkk : m < 256) (hall : ∀ i : Nat, (m : Int) < (i : Int) → i < 256 → B4.has ⟨b0, b1, b2, b3⟩ i = false) (hB : B4.Ok ⟨b0, b1, b2, b3⟩) (W : World) :
    Calls Try.prog 7 #[.agg #[.int .u64 b0, .int .u64 b1, .int .u64 b2, .int .u64 b3], .int .i64 n] W fun e w' => e = .returned (.bool true) ∧ Below W.heap.size W w' := by
  have HTOP := Lib.hid (top_of b0 b1 b2 b3 (m : Int) hB hT)
  have CT := Lib.hid (f_has b0 b1 b2 b3 m true hB hm hhas)
  have HALL := Lib.hid hall
  clear hall hT hhas
  go_enter Try.func7, Try.ntmps7
  go_wp2_with fail
  refine (HTOP.out _).mono ?_
  rintro e w1 ⟨rfl, hb1⟩
  have hz1 : W.heap.size < w1.heap.size := by have := hb1.size; simp at this; omega
  have c0 : w1.cell? ⟨W.heap.size, 0, none⟩ = some (.int .u64 b0) := (hb1.cell (p := ⟨W.heap.size, 0, none⟩) (by simp)).trans (by simp [go_sem])
  have c1 : w1.cell? ⟨W.heap.size, 1, none⟩ = some (.int .u64 b1) := (hb1.cell (p := ⟨W.heap.size, 1, none⟩) (by simp)).trans (by simp [go_sem])
  have c2 : w1.cell? ⟨W.heap.size, 2, none⟩ = some (.int .u64 b2) := (hb1.cell (p := ⟨W.heap.size, 2, none⟩) (by simp)).trans (by simp [go_sem])
  have c3 : w1.cell? ⟨W.heap.size, 3, none⟩ = some (.int .u64 b3) := (hb1.cell (p := ⟨W.heap.size, 3, none⟩) (by simp)).trans (by simp [go_sem])
  have HB1 := Lib.hid (below_then (below_new (Below.refl W.heap.size W) _) hb1)
  clear hb1
  go_wp2_with fail
  refine (CT.out _).mono ?_
  rintro e wh ⟨rfl, hbh⟩
  have hzh : W.heap.size < wh.heap.size := Nat.lt_of_lt_of_le hz1 hbh.size
  have x0 := (hbh.cell (p := ⟨W.heap.size, 0, none⟩) hz1).trans c0
  have x1 := (hbh.cell (p := ⟨W.heap.size, 1, none⟩) hz1).trans c1
  have x2 := (hbh.cell (p := ⟨W.heap.size, 2, none⟩) hz1).trans c2
  have x3 := (hbh.cell (p := ⟨W.heap.size, 3, none⟩) hz1).trans c3
  have HBh := Lib.hid (below_then HB1.out hbh)
  clear hbh HB1 hz1 c0 c1 c2 c3
  have HB1 := HBh
  have hz1 := hzh
  have c0 := x0
  have c1 := x1
  have c2 := x2
  have c3 := x3
  clear HBh hzh x0 x1 x2 x3
  go_wp2_with fail
  go_loopw [6] (fun i wr => ∃ k : Nat, k ≤ 256 ∧ (m : Int) < (k : Int) ∧ i = .int .i64 k ∧ Hid (Below W.heap.size W wr) ∧ W.heap.size < wr.heap.size ∧ wr.cell? ⟨W.heap.size, 0, none⟩ = some (.int .u64 b0) ∧ wr.cell? ⟨W.heap.size, 1, none⟩ = some (.int .u64 b1) ∧ wr.cell? ⟨W.heap.size, 2, none⟩ = some (.int .u64 b2) ∧ wr.cell? ⟨W.heap.size, 3, none⟩ = some (.int .u64 b3)) (fun i _ => 256 - (intOf i).toNat)
  case atStart => exact ⟨((m : Int) + 1).toNat, by omega, by omega, int_cast (by omega), HB1, hz1, c0, c1, c2, c3⟩
  case round =>
    obtain ⟨k, hk, hkt, rfl, HBr, hzr, r0, r1, r2, r3⟩ := hrel
    clear HB1 hz1 c0 c1 c2 c3
    by_cases hlt : k < 256
    · have HF := f_has b0 b1 b2 b3 k false hB hlt (HALL.out k hkt hlt)
      have HF' := Lib.hid HF
      clear HF
      go_wp2_with fail
      refine (HF'.out _).mono ?_
      rintro e w2 ⟨rfl, hb2⟩
      have hz2 : W.heap.size < w2.heap.size := Nat.lt_of_lt_of_le hzr hb2.size
      have q0 := (hb2.cell (p := ⟨W.heap.size, 0, none⟩) hzr).trans r0
      have q1 := (hb2.cell (p := ⟨W.heap.size, 1, none⟩) hzr).trans r1
      have q2 := (hb2.cell (p := ⟨W.heap.size, 2, none⟩) hzr).trans r2
      have q3 := (hb2.cell (p := ⟨W.heap.size, 3, none⟩) hzr).trans r3
      have HB2 := Lib.hid (below_then HBr.out hb2)
      clear hb2 r0 r1 r2 r3
      go_wp2
      go_roundw
      case rel => exact ⟨k + 1, by omega, by omega, by go_num, HB2, hz2, q0, q1, q2, q3⟩
      case measure => simp [intOf]; omega
    · go_wp2_with fail
      refine (set_any b0 b1 b2 b3 m true hB hkk _).mono ?_
      rintro e w2 ⟨y0, y1, y2, y3, rfl, hp2, hb2⟩
      have HP2 := Lib.hid hp2
      have hz2 : W.heap.size < w2.heap.size := Nat.lt_of_lt_of_le hzr hb2.size
      have q0 : w2.cell? ⟨W.heap.size, 0, none⟩ = some (.int .u64 b0) := (hb2.cell (p := ⟨W.heap.size, 0, none⟩) (hzr)).trans (r0)
      have q1 : w2.cell? ⟨W.heap.size, 1, none⟩ = some (.int .u64 b1) := (hb2.cell (p := ⟨W.heap.size, 1, none⟩) (hzr)).trans (r1)
      have q2 : w2.cell? ⟨W.heap.size, 2, none⟩ = some (.int .u64 b2) := (hb2.cell (p := ⟨W.heap.size, 2, none⟩) (hzr)).trans (r2)
      have q3 : w2.cell? ⟨W.heap.size, 3, none⟩ = some (.int .u64 b3) := (hb2.cell (p := ⟨W.heap.size, 3, none⟩) (hzr)).trans (r3)
      have HB2 := Lib.hid (below_then HBr.out hb2)
      clear hb2 hp2 r0 r1 r2 r3
      go_wp2_with fail
      refine (set_any b0 b1 b2 b3 m false hB hkk _).mono ?_
      rintro e w3 ⟨z0, z1, z2, z3, rfl, hp3, hb3⟩
      have HP3 := Lib.hid hp3
      have hz3 : w2.heap.size < w3.heap.size := by have := hb3.size; simp at this; omega
      have d0 : w3.cell? ⟨W.heap.size, 0, none⟩ = some (.int .u64 b0) := (hb3.cell (p := ⟨W.heap.size, 0, none⟩) (by simp; omega)).trans (cell_new q0)
      have d1 : w3.cell? ⟨W.heap.size, 1, none⟩ = some (.int .u64 b1) := (hb3.cell (p := ⟨W.heap.size, 1, none⟩) (by simp; omega)).trans (cell_new q1)
      have d2 : w3.cell? ⟨W.heap.size, 2, none⟩ = some (.int .u64 b2) := (hb3.cell (p := ⟨W.heap.size, 2, none⟩) (by simp; omega)).trans (cell_new q2)
      have d3 : w3.cell? ⟨W.heap.size, 3, none⟩ = some (.int .u64 b3) := (hb3.cell (p := ⟨W.heap.size, 3, none⟩) (by simp; omega)).trans (cell_new q3)
      have k0 : w3.cell? ⟨w2.heap.size, 0, none⟩ = some (.int .u64 y0) := (hb3.cell (p := ⟨w2.heap.size, 0, none⟩) (by simp)).trans (by simp [go_sem])
      have k1 : w3.cell? ⟨w2.heap.size, 1, none⟩ = some (.int .u64 y1) := (hb3.cell (p := ⟨w2.heap.size, 1, none⟩) (by simp)).trans (by simp [go_sem])
      have k2 : w3.cell? ⟨w2.heap.size, 2, none⟩ = some (.int .u64 y2) := (hb3.cell (p := ⟨w2.heap.size, 2, none⟩) (by simp)).trans (by simp [go_sem])
      have k3 : w3.cell? ⟨w2.heap.size, 3, none⟩ = some (.int .u64 y3) := (hb3.cell (p := ⟨w2.heap.size, 3, none⟩) (by simp)).trans (by simp [go_sem])
      have HB3 := Lib.hid (below_then (below_new HB2.out _) hb3)
      clear hb3 hp3 q0 q1 q2 q3
      have hS := keep_begin HB3.out d0 d1 d2 d3 k0 k1 k2 k3 (v20 := .int .u64 z0) (v21 := .int .u64 z1) (v22 := .int .u64 z2) (v23 := .int .u64 z3) (T := 35)
      have HS := Lib.hid hS
      have hs3 : w3.heap.size < (w3.alloc (.cells #[.int .u64 z0, .int .u64 z1, .int .u64 z2, .int .u64 z3] 35)).heap.size := by simp
      clear hS
      have C1 := Lib.hid (f_has y0 y1 y2 y3 m true HP2.out.ok hkk HP2.out.at_)
      have C2 := Lib.hid (f_has z0 z1 z2 z3 m false HP3.out.ok hkk HP3.out.at_)
      have C3 := Lib.hid (top_of y0 y1 y2 y3 m HP2.out.ok (top_put HP2.out hkk (.inl rfl) (fun i h1 h2 => HALL.out i (by omega) h2)))
      obtain ⟨tz, htz, hTz⟩ := top_less HP3.out (fun i h1 h2 => HALL.out i (by omega) h2)
      have C4 := Lib.hid (top_of z0 z1 z2 z3 tz HP3.out.ok hTz)
      clear hTz
      go_wp2_with fail
      refine (C1.out _).mono ?_
      rintro e w4 ⟨rfl, hb4⟩
      have HS4 := Lib.hid (keep_on HS.out hb4)
      clear hb4 HS d0 d1 d2 d3 k0 k1 k2 k3 hs3
      obtain ⟨_, _, a0, a1, a2, a3, e0, e1, e2, e3, g0, g1, g2, g3⟩ := HS4.out
      go_wp2_with fail
      refine (C2.out _).mono ?_
      rintro e w5 ⟨rfl, hb5⟩
      have HS5 := Lib.hid (keep_on HS4.out hb5)
      clear hb5 HS4 a0 a1 a2 a3 e0 e1 e2 e3 g0 g1 g2 g3
      obtain ⟨_, _, a0, a1, a2, a3, e0, e1, e2, e3, g0, g1, g2, g3⟩ := HS5.out
      go_wp2_with fail
      refine (C3.out _).mono ?_
      rintro e w6 ⟨rfl, hb6⟩
      have HS6 := Lib.hid (keep_on HS5.out hb6)
      clear hb6 HS5 a0 a1 a2 a3 e0 e1 e2 e3 g0 g1 g2 g3
      obtain ⟨_, _, a0, a1, a2, a3, e0, e1, e2, e3, g0, g1, g2, g3⟩ := HS6.out
      go_wp2_with fail
      refine (C4.out _).mono ?_
      rintro e w7 ⟨rfl, hb7⟩
      have HS7 := Lib.hid (keep_on HS6.out hb7)
      clear hb7 HS6 C4
      go_wp2_with fail
      clear a0 a1 a2 a3 e0 e1 e2 e3 g0 g1 g2 g3 C1 C2 C3
      go_loopw [12] (fun i wr => ∃ k : Nat, k ≤ 256 ∧ i = .int .i64 k ∧ Hid (Below W.heap.size W wr ∧ w3.heap.size < wr.heap.size ∧ wr.cell? ⟨W.heap.size, 0, none⟩ = some (.int .u64 b0) ∧ wr.cell? ⟨W.heap.size, 1, none⟩ = some (.int .u64 b1) ∧ wr.cell? ⟨W.heap.size, 2, none⟩ = some (.int .u64 b2) ∧ wr.cell? ⟨W.heap.size, 3, none⟩ = some (.int .u64 b3) ∧ wr.cell? ⟨w2.heap.size, 0, none⟩ = some (.int .u64 y0) ∧ wr.cell? ⟨w2.heap.size, 1, none⟩ = some (.int .u64 y1) ∧ wr.cell? ⟨w2.heap.size, 2, none⟩ = some (.int .u64 y2) ∧ wr.cell? ⟨w2.heap.size, 3, none⟩ = some (.int .u64 y3) ∧ wr.cell? ⟨w3.heap.size, 0, none⟩ = some (.int .u64 z0) ∧ wr.cell? ⟨w3.heap.size, 1, none⟩ = some (.int .u64 z1) ∧ wr.cell? ⟨w3.heap.size, 2, none⟩ = some (.int .u64 z2) ∧ wr.cell? ⟨w3.heap.size, 3, none⟩ = some (.int .u64 z3))) (fun i _ => 256 - (intOf i).toNat)
      case atStart => exact ⟨0, by omega, rfl, HS7⟩
      case round =>
        obtain ⟨m2, hm2, rfl, HSr⟩ := hrel
        clear HS7
        by_cases hlt2 : m2 < 256
        · by_cases hik : m2 = m
          · have hd : ((m2 : Int) != (m : Int)) = false := by simp [hik]
            clear hik
            go_wp2_with fail
            go_quiet (fail)
            go_wp2
            go_roundw
            case rel => exact ⟨m2 + 1, by omega, by go_num, Lib.hid (keep_draws HSr.out _)⟩
            case measure => simp [intOf]; omega
          · have hd : ((m2 : Int) != (m : Int)) = true := by simp; omega
            obtain ⟨vb, hvb⟩ : ∃ vb, B4.has ⟨b0, b1, b2, b3⟩ m2 = vb := ⟨_, rfl⟩
            have D1 := Lib.hid (f_has y0 y1 y2 y3 m2 vb HP2.out.ok hlt2 ((HP2.out.other m2 hlt2 hik).trans hvb))
            have D2 := Lib.hid (f_has z0 z1 z2 z3 m2 vb HP3.out.ok hlt2 ((HP3.out.other m2 hlt2 hik).trans hvb))
            have D3 := Lib.hid (f_has b0 b1 b2 b3 m2 vb hB hlt2 hvb)
            clear hvb hik
            cases vb
            all_goals
              go_wp2_with fail
              go_region_held3 (fun w' => Below W.heap.size W w' ∧ w3.heap.size < w'.heap.size ∧ w'.cell? ⟨W.heap.size, 0, none⟩ = some (.int .u64 b0) ∧ w'.cell? ⟨W.heap.size, 1, none⟩ = some (.int .u64 b1) ∧ w'.cell? ⟨W.heap.size, 2, none⟩ = some (.int .u64 b2) ∧ w'.cell? ⟨W.heap.size, 3, none⟩ = some (.int .u64 b3) ∧ w'.cell? ⟨w2.heap.size, 0, none⟩ = some (.int .u64 y0) ∧ w'.cell? ⟨w2.heap.size, 1, none⟩ = some (.int .u64 y1) ∧ w'.cell? ⟨w2.heap.size, 2, none⟩ = some (.int .u64 y2) ∧ w'.cell? ⟨w2.heap.size, 3, none⟩ = some (.int .u64 y3) ∧ w'.cell? ⟨w3.heap.size, 0, none⟩ = some (.int .u64 z0) ∧ w'.cell? ⟨w3.heap.size, 1, none⟩ = some (.int .u64 z1) ∧ w'.cell? ⟨w3.heap.size, 2, none⟩ = some (.int .u64 z2) ∧ w'.cell? ⟨w3.heap.size, 3, none⟩ = some (.int .u64 z3)) (first | exact keep_draws HSr.out 1 | (refine keep_on ?_ hb; assumption))
                (first
                  | (go_at_call_of 23 (Value.agg #[.int .u64 y0, .int .u64 y1, .int .u64 y2, .int .u64 y3]); refine (D1.out _).mono ?_; rintro e w' ⟨rfl, hb⟩)
                  | (go_at_call_of 23 (Value.agg #[.int .u64 z0, .int .u64 z1, .int .u64 z2, .int .u64 z3]); refine (D2.out _).mono ?_; rintro e w' ⟨rfl, hb⟩)
                  | (go_at_call_of 23 (Value.agg #[.int .u64 b0, .int .u64 b1, .int .u64 b2, .int .u64 b3]); refine (D3.out _).mono ?_; rintro e w' ⟨rfl, hb⟩))
              go_wp2
              go_roundw
              case rel => exact ⟨m2 + 1, by omega, by go_num, Lib.hid (by assumption)⟩
              case measure => simp [intOf]; omega
        · go_wp2_with fail
          refine (fixed_true _).mono ?_
          rintro e w7 ⟨rfl, hb7⟩
          have HB7 := Lib.hid hb7
          clear hb7
          go_wp2_with fail
          go_ret
          exact ⟨rfl, below_then HSr.out.1 HB7.out⟩

theorem and255 (c : Int) : ∃ m : Nat, m < 256 ∧ bits .and .i64 c 255 = (m : Int) :=
  ⟨_, by have := Nat.mod_lt (BitVec.ofInt 64 c).toNat (Nat.two_pow_pos 8); omega, bits_i64_mask c 8 (by decide)⟩
theorem wordsTop_walk (b0 b1 b2 b3 : Nat) (n : Int) (hB : B4.Ok ⟨b0, b1, b2, b3⟩) (W : World) :
    Calls Try.prog 7 #[.agg #[.int .u64 b0, .int .u64 b1, .int .u64 b2, .int .u64 b3], .int .i64 n] W fun e w' => e = .returned (.bool true) ∧ Below W.heap.size W w' := by
  obtain ⟨kk, hkk, hK⟩ := and255 n
  have hT := TopIs.of_top ⟨b0, b1, b2, b3⟩
  rcases topTo_is ⟨b0, b1, b2, b3⟩ 256 with ⟨h1, h2⟩ | ⟨m, h1, h2, h3, h4⟩
  · rw [h1] at hT
    exact wordsTop_none b0 b1 b2 b3 n (-1) (by decide) (by decide) hT kk hK hkk (fun i _ h => h2 i h) hB W
  · rw [h1] at hT
    rcases Nat.lt_trichotomy m kk with h | h | h
    · exact wordsTop_lt b0 b1 b2 b3 n m kk h2 h h3 hT hK hkk (fun i hi h => h4 i (by omega) h) hB W
    · subst h
      exact wordsTop_eq b0 b1 b2 b3 n m h2 h3 hT hK hkk (fun i hi h => h4 i (by omega) h) hB W
    · exact wordsTop_gt b0 b1 b2 b3 n m kk h2 h h3 hT hK hkk (fun i hi h => h4 i (by omega) h) hB W


set_option maxRecDepth 100000 in
theorem wordsTop_lifted (os : Os) (started : os.Started) (H : Type) (enc : TypeId × Value → H) :
    ReturnsInHanded {} Try.checked os 7 .any (Rows.wordsTopSpec.pre6 enc Try.prog Try.f7 Rows.wordsTopRow.domain false) (Rows.wordsTopSpec.post enc Try.prog Try.f7 false true false false) := by
  refine returnsInHanded_of_change (C := Try.checked) own_knob started (by kernel_rfl) Try.func7
    (ChangeSpec.witness6 (enc := enc) (C := Try.checked) false ⟨#[], #[.agg #[.int .u64 0, .int .u64 0, .int .u64 0, .int .u64 0], .int .i64 0], []⟩ 8 (by kernel_rfl) (by kernel_rfl) (by kernel_rfl) (by kernel_rfl)) ?_
  intro W base args ds gs before hval0 hW hcnd _
  have hval : ∀ (j : Nat) t v, Try.f7.params[j]? = some t → args[j]? = some v → Value.okWide Try.prog W .any base t v := hval0
  have hW' := hW
  obtain ⟨p, q, hA0, hV, rfl, hfz, hnd⟩ := hW
  have hA : DataW.TrodAll enc Try.prog W 0 (fun _ => true) true Try.f7.params.toList args.toList ds p := hA0
  rw [Try.params7] at hA hval
  obtain ⟨v0, v1, d0, d1, p0, p1, rfl, rfl, rfl, h0, h1⟩ := trodAll_two hA
  obtain ⟨rfl, rfl⟩ := trodVars_none hV
  clear hA0 hval0
  simp only [List.append_nil] at hW'
  have hlt : ∀ x ∈ p0 ++ p1, x.block < W.heap.size := fun x hx => by simpa using hW'.lt x hx
  have g0 : ∀ W' : World, Below W.heap.size W W' → DataW.Trod enc Try.prog W' 0 (fun b => decide (b < W.heap.size)) true 35 v0 d0 p0 :=
    fun W' hn => Below.trod laid_out (by kernel_rfl) (of_decide_eq_true (by kernel_rfl)) h0 hn (fun x hx => hlt x (by simp [hx]))
  have g1 : ∀ W' : World, Below W.heap.size W W' → DataW.Trod enc Try.prog W' 0 (fun b => decide (b < W.heap.size)) true 3 v1 d1 p1 :=
    fun W' hn => Below.trod laid_out (by kernel_rfl) (of_decide_eq_true (by kernel_rfl)) h1 hn (fun x hx => hlt x (by simp [hx]))
  obtain ⟨b0, b1, b2, b3, rfl, m0, m1, m2, m3⟩ := open_bits (hval 0 35 v0 rfl rfl) h0
  obtain ⟨n, rfl, _, _, w1⟩ := open_int Try.underlying3 (hval 1 3 v1 rfl rfl) h1
  have l1 := int_of_wf w1
  refine (wordsTop_walk b0 b1 b2 b3 n ⟨⟨m0⟩, ⟨m1⟩, ⟨m2⟩, ⟨m3⟩⟩ W).mono fun e W' ⟨he, hn⟩ => ?_
  subst he
  exact ⟨_, rfl, _, _, _, [], p0 ++ p1, [], hW', trodAll_mk1 (shut_bool Try.underlying4 true), (trodAll_mk2 (g0 W' hn) (g1 W' hn)), rfl, hn.frame _, fun h => by cases h⟩

theorem wordsTop_holds : Rows.WordsTopSaid :=
  OpenClaim.holds_of_wide 7 Try.f7 rfl rfl rfl rfl rfl rfl rfl ⟨rfl, rfl, rfl, rfl, rfl⟩ rfl rfl rfl rfl rfl (by kernel_rfl) Try.func7 (by kernel_rfl)
    (of_decide_eq_true (by kernel_rfl)) (by unfold Func.isWrapper; first | (rw [if_pos (by decide +kernel)]; kernel_rfl) | (rw [if_neg (by decide +kernel)]; exact ⟨rfl, rfl⟩))
    (fun os started H enc _ => wordsTop_lifted os started H enc)
#print axioms wordsTop_holds
end Go.Proofs.Ytbmdnbjkphmmpaa
