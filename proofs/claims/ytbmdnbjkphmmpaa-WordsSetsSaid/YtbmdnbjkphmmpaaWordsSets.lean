/- Any bit of any many, set or not, and the greatest one, is as the document says: for every input, no condition. -/
import Derived.Test.YtbmdnbjkphmmpaaFrame
import Derived.Test.YtbmdnbjkphmmpaaFixed
import Derived.Test.YtbmdnbjkphmmpaaRsets
import Derived.Deep.RegionHeld3
namespace Go.Proofs.Ytbmdnbjkphmmpaa
open Go.ChangeShapes Go.WideShapes Go.ChangeAt Go.RowKit Go.Joins Wd

theorem has_no_b (b0 b1 b2 b3 : Nat) (n : Int) (h : n < 0 ∨ 255 < n) (w : World) :
    Calls Try.prog 23 #[.agg #[.int .u64 b0, .int .u64 b1, .int .u64 b2, .int .u64 b3], .int .i64 n] w fun e w' => e = .returned (.bool false) ∧ Below w.heap.size w w' := by
  refine (has_no b0 b1 b2 b3 n h w).mono ?_
  rintro e w' ⟨rfl, rfl⟩
  exact ⟨rfl, below_new (Below.refl _ _) _⟩
theorem r_has_no_b (b0 b1 b2 b3 : Nat) (n : Int) (h : n < 0 ∨ 255 < n) (w : World) :
    Calls Try.prog 24 #[.agg #[.int .u64 b0, .int .u64 b1, .int .u64 b2, .int .u64 b3], .int .i64 n] w fun e w' => e = .returned (.bool false) ∧ Below w.heap.size w w' := by
  refine (rhas_no b0 b1 b2 b3 n h w).mono ?_
  rintro e w' ⟨rfl, rfl⟩
  exact ⟨rfl, below_new (Below.refl _ _) _⟩
theorem r_has_b (b0 b1 b2 b3 n : Nat) (hB : B4.Ok ⟨b0, b1, b2, b3⟩) (h : n < 256) (w : World) :
    Calls Try.prog 24 #[.agg #[.int .u64 b0, .int .u64 b1, .int .u64 b2, .int .u64 b3], .int .i64 n] w fun e w' => e = .returned (.bool (B4.has ⟨b0, b1, b2, b3⟩ n)) ∧ Below w.heap.size w w' := by
  refine (rhas_any b0 b1 b2 b3 n hB h w).mono ?_
  rintro e w' ⟨rfl, rfl⟩
  exact ⟨rfl, below_new (Below.refl _ _) _⟩
theorem rset_any (b0 b1 b2 b3 n : Nat) (on : Bool) (hB : B4.Ok ⟨b0, b1, b2, b3⟩) (h : n < 256) (w : World) :
    Calls Try.prog 22 #[.agg #[.int .u64 b0, .int .u64 b1, .int .u64 b2, .int .u64 b3], .int .i64 n, .bool on] w (SetPost ⟨b0, b1, b2, b3⟩ n on w) := by
  have hq : n / 64 = 0 ∨ n / 64 = 1 ∨ n / 64 = 2 ∨ n / 64 = 3 := by omega
  by_cases hE : B4.has ⟨b0, b1, b2, b3⟩ n = on
  · cases on
    · exact rset_same_false b0 b1 b2 b3 n hB h hE w
    · exact rset_same_true b0 b1 b2 b3 n hB h hE w
  · cases on
    · have hE' : B4.has ⟨b0, b1, b2, b3⟩ n = true := by simpa using hE
      rcases hq with hq | hq | hq | hq
      · exact rset_0_false b0 b1 b2 b3 n hB h hE' hq w
      · exact rset_1_false b0 b1 b2 b3 n hB h hE' hq w
      · exact rset_2_false b0 b1 b2 b3 n hB h hE' hq w
      · exact rset_3_false b0 b1 b2 b3 n hB h hE' hq w
    · have hE' : B4.has ⟨b0, b1, b2, b3⟩ n = false := by simpa using hE
      rcases hq with hq | hq | hq | hq
      · exact rset_0_true b0 b1 b2 b3 n hB h hE' hq w
      · exact rset_1_true b0 b1 b2 b3 n hB h hE' hq w
      · exact rset_2_true b0 b1 b2 b3 n hB h hE' hq w
      · exact rset_3_true b0 b1 b2 b3 n hB h hE' hq w
theorem keep_start {W w2 : World} {g1 T : Nat} {v00 v01 v02 v03 v10 v11 v12 v13 v20 v21 v22 v23 : Value} (hb : Below W.heap.size W w2) (a0 : w2.cell? ⟨W.heap.size, 0, none⟩ = some v00) (a1 : w2.cell? ⟨W.heap.size, 1, none⟩ = some v01) (a2 : w2.cell? ⟨W.heap.size, 2, none⟩ = some v02) (a3 : w2.cell? ⟨W.heap.size, 3, none⟩ = some v03) (b0 : w2.cell? ⟨g1, 0, none⟩ = some v10) (b1 : w2.cell? ⟨g1, 1, none⟩ = some v11) (b2 : w2.cell? ⟨g1, 2, none⟩ = some v12) (b3 : w2.cell? ⟨g1, 3, none⟩ = some v13) :
    Below W.heap.size W (w2.alloc (.cells #[v20, v21, v22, v23] T)).drew ∧ w2.heap.size < (w2.alloc (.cells #[v20, v21, v22, v23] T)).drew.heap.size ∧ (w2.alloc (.cells #[v20, v21, v22, v23] T)).drew.cell? ⟨W.heap.size, 0, none⟩ = some v00 ∧ (w2.alloc (.cells #[v20, v21, v22, v23] T)).drew.cell? ⟨W.heap.size, 1, none⟩ = some v01 ∧ (w2.alloc (.cells #[v20, v21, v22, v23] T)).drew.cell? ⟨W.heap.size, 2, none⟩ = some v02 ∧ (w2.alloc (.cells #[v20, v21, v22, v23] T)).drew.cell? ⟨W.heap.size, 3, none⟩ = some v03 ∧ (w2.alloc (.cells #[v20, v21, v22, v23] T)).drew.cell? ⟨g1, 0, none⟩ = some v10 ∧ (w2.alloc (.cells #[v20, v21, v22, v23] T)).drew.cell? ⟨g1, 1, none⟩ = some v11 ∧ (w2.alloc (.cells #[v20, v21, v22, v23] T)).drew.cell? ⟨g1, 2, none⟩ = some v12 ∧ (w2.alloc (.cells #[v20, v21, v22, v23] T)).drew.cell? ⟨g1, 3, none⟩ = some v13 ∧ (w2.alloc (.cells #[v20, v21, v22, v23] T)).drew.cell? ⟨w2.heap.size, 0, none⟩ = some v20 ∧ (w2.alloc (.cells #[v20, v21, v22, v23] T)).drew.cell? ⟨w2.heap.size, 1, none⟩ = some v21 ∧ (w2.alloc (.cells #[v20, v21, v22, v23] T)).drew.cell? ⟨w2.heap.size, 2, none⟩ = some v22 ∧ (w2.alloc (.cells #[v20, v21, v22, v23] T)).drew.cell? ⟨w2.heap.size, 3, none⟩ = some v23 := by
  have key : ∀ {p : Addr} {v : Value}, w2.cell? p = some v → ((w2.alloc (.cells #[v20, v21, v22, v23] T)).drew).cell? p = some v := fun h => cell_new h
  exact ⟨(below_new hb _).drew, by simp, key a0, key a1, key a2, key a3, key b0, key b1, key b2, key b3, by simp [go_sem], by simp [go_sem], by simp [go_sem], by simp [go_sem]⟩
theorem keep_on {W w' w'' : World} {g1 g : Nat} {v00 v01 v02 v03 v10 v11 v12 v13 v20 v21 v22 v23 : Value} (h : Below W.heap.size W w' ∧ g < w'.heap.size ∧ w'.cell? ⟨W.heap.size, 0, none⟩ = some v00 ∧ w'.cell? ⟨W.heap.size, 1, none⟩ = some v01 ∧ w'.cell? ⟨W.heap.size, 2, none⟩ = some v02 ∧ w'.cell? ⟨W.heap.size, 3, none⟩ = some v03 ∧ w'.cell? ⟨g1, 0, none⟩ = some v10 ∧ w'.cell? ⟨g1, 1, none⟩ = some v11 ∧ w'.cell? ⟨g1, 2, none⟩ = some v12 ∧ w'.cell? ⟨g1, 3, none⟩ = some v13 ∧ w'.cell? ⟨g, 0, none⟩ = some v20 ∧ w'.cell? ⟨g, 1, none⟩ = some v21 ∧ w'.cell? ⟨g, 2, none⟩ = some v22 ∧ w'.cell? ⟨g, 3, none⟩ = some v23) (hb : Below w'.heap.size w' w'') :
    Below W.heap.size W w'' ∧ g < w''.heap.size ∧ w''.cell? ⟨W.heap.size, 0, none⟩ = some v00 ∧ w''.cell? ⟨W.heap.size, 1, none⟩ = some v01 ∧ w''.cell? ⟨W.heap.size, 2, none⟩ = some v02 ∧ w''.cell? ⟨W.heap.size, 3, none⟩ = some v03 ∧ w''.cell? ⟨g1, 0, none⟩ = some v10 ∧ w''.cell? ⟨g1, 1, none⟩ = some v11 ∧ w''.cell? ⟨g1, 2, none⟩ = some v12 ∧ w''.cell? ⟨g1, 3, none⟩ = some v13 ∧ w''.cell? ⟨g, 0, none⟩ = some v20 ∧ w''.cell? ⟨g, 1, none⟩ = some v21 ∧ w''.cell? ⟨g, 2, none⟩ = some v22 ∧ w''.cell? ⟨g, 3, none⟩ = some v23 := by
  obtain ⟨h0, h1, a0, a1, a2, a3, b0, b1, b2, b3, c0, c1, c2, c3⟩ := h
  have key : ∀ {p : Addr} {v : Value}, w'.cell? p = some v → w''.cell? p = some v := fun h => (hb.cell (World.block_lt_of_cell? w' _ h)).trans h
  exact ⟨below_then h0 hb, Nat.lt_of_lt_of_le h1 hb.size, key a0, key a1, key a2, key a3, key b0, key b1, key b2, key b3, key c0, key c1, key c2, key c3⟩
set_option maxRecDepth 100000 in
set_option maxHeartbeats 6400000 in
theorem wordsSets_good (b0 b1 b2 b3 : Nat) (n : Nat) (on : Bool) (hB : B4.Ok ⟨b0, b1, b2, b3⟩) (h : n < 256) (W : World) :
    Calls Try.prog 5 #[.agg #[.int .u64 b0, .int .u64 b1, .int .u64 b2, .int .u64 b3], .int .i64 n, .bool on] W fun e w' => e = .returned (.bool true) ∧ Below W.heap.size W w' := by
  go_enter Try.func5, Try.ntmps5
  go_wp2_with fail
  refine (set_any b0 b1 b2 b3 n on hB h _).mono ?_
  rintro e w1 ⟨y0, y1, y2, y3, rfl, hp1, hb1⟩
  have hz1 : W.heap.size < w1.heap.size := by have := hb1.size; simp at this; omega
  have c0 : w1.cell? ⟨W.heap.size, 0, none⟩ = some (.int .u64 b0) := (hb1.cell (p := ⟨W.heap.size, 0, none⟩) (by simp)).trans (by simp [go_sem])
  have c1 : w1.cell? ⟨W.heap.size, 1, none⟩ = some (.int .u64 b1) := (hb1.cell (p := ⟨W.heap.size, 1, none⟩) (by simp)).trans (by simp [go_sem])
  have c2 : w1.cell? ⟨W.heap.size, 2, none⟩ = some (.int .u64 b2) := (hb1.cell (p := ⟨W.heap.size, 2, none⟩) (by simp)).trans (by simp [go_sem])
  have c3 : w1.cell? ⟨W.heap.size, 3, none⟩ = some (.int .u64 b3) := (hb1.cell (p := ⟨W.heap.size, 3, none⟩) (by simp)).trans (by simp [go_sem])
  have HB1 := Lib.hid (below_then (below_new (Below.refl W.heap.size W) _) hb1)
  clear hb1
  go_wp2_with fail
  refine (rset_any b0 b1 b2 b3 n on hB h _).mono ?_
  rintro e w2 ⟨z0, z1, z2, z3, rfl, hp2, hb2⟩
  obtain ⟨rfl, rfl, rfl, rfl⟩ : y0 = z0 ∧ y1 = z1 ∧ y2 = z2 ∧ y3 = z3 := by
    have := Put.uniq hp1 hp2
    simpa using this
  clear hp1 hp2
  have hz2 : w1.heap.size < w2.heap.size := by have := hb2.size; simp at this; omega
  have d0 : w2.cell? ⟨W.heap.size, 0, none⟩ = some (.int .u64 b0) := (hb2.cell (p := ⟨W.heap.size, 0, none⟩) (by simp; omega)).trans (cell_new c0)
  have d1 : w2.cell? ⟨W.heap.size, 1, none⟩ = some (.int .u64 b1) := (hb2.cell (p := ⟨W.heap.size, 1, none⟩) (by simp; omega)).trans (cell_new c1)
  have d2 : w2.cell? ⟨W.heap.size, 2, none⟩ = some (.int .u64 b2) := (hb2.cell (p := ⟨W.heap.size, 2, none⟩) (by simp; omega)).trans (cell_new c2)
  have d3 : w2.cell? ⟨W.heap.size, 3, none⟩ = some (.int .u64 b3) := (hb2.cell (p := ⟨W.heap.size, 3, none⟩) (by simp; omega)).trans (cell_new c3)
  have k0 : w2.cell? ⟨w1.heap.size, 0, none⟩ = some (.int .u64 y0) := (hb2.cell (p := ⟨w1.heap.size, 0, none⟩) (by simp)).trans (by simp [go_sem])
  have k1 : w2.cell? ⟨w1.heap.size, 1, none⟩ = some (.int .u64 y1) := (hb2.cell (p := ⟨w1.heap.size, 1, none⟩) (by simp)).trans (by simp [go_sem])
  have k2 : w2.cell? ⟨w1.heap.size, 2, none⟩ = some (.int .u64 y2) := (hb2.cell (p := ⟨w1.heap.size, 2, none⟩) (by simp)).trans (by simp [go_sem])
  have k3 : w2.cell? ⟨w1.heap.size, 3, none⟩ = some (.int .u64 y3) := (hb2.cell (p := ⟨w1.heap.size, 3, none⟩) (by simp)).trans (by simp [go_sem])
  have HB2 := Lib.hid (below_then (below_new HB1.out _) hb2)
  clear hb2 c0 c1 c2 c3
  have heq := eq_bits_self y0 y1 y2 y3
  go_wp2_with fail
  have HW := HB2.out
  have hz3 : w2.heap.size < (w2.alloc (.cells #[.int .u64 y0, .int .u64 y1, .int .u64 y2, .int .u64 y3] 35)).heap.size := by simp
  go_region_held3 (fun w' => Below W.heap.size W w' ∧ w2.heap.size < w'.heap.size ∧ w'.cell? ⟨W.heap.size, 0, none⟩ = some (.int .u64 b0) ∧ w'.cell? ⟨W.heap.size, 1, none⟩ = some (.int .u64 b1) ∧ w'.cell? ⟨W.heap.size, 2, none⟩ = some (.int .u64 b2) ∧ w'.cell? ⟨W.heap.size, 3, none⟩ = some (.int .u64 b3) ∧ w'.cell? ⟨w1.heap.size, 0, none⟩ = some (.int .u64 y0) ∧ w'.cell? ⟨w1.heap.size, 1, none⟩ = some (.int .u64 y1) ∧ w'.cell? ⟨w1.heap.size, 2, none⟩ = some (.int .u64 y2) ∧ w'.cell? ⟨w1.heap.size, 3, none⟩ = some (.int .u64 y3) ∧ w'.cell? ⟨w2.heap.size, 0, none⟩ = some (.int .u64 y0) ∧ w'.cell? ⟨w2.heap.size, 1, none⟩ = some (.int .u64 y1) ∧ w'.cell? ⟨w2.heap.size, 2, none⟩ = some (.int .u64 y2) ∧ w'.cell? ⟨w2.heap.size, 3, none⟩ = some (.int .u64 y3))
    (first | exact keep_start HB2.out d0 d1 d2 d3 k0 k1 k2 k3 | (refine keep_on ?_ hb; assumption) | (refine keep_on ?_ hb; go_split_ands; simp only [*, and_self]))
    (first
      | (go_at_call 16; refine (fixed_true _).mono ?_; rintro e w' ⟨rfl, hb⟩)
      | (go_at_call 23; refine (f_has b0 b1 b2 b3 n _ hB h rfl _).mono ?_; rintro e w' ⟨rfl, hb⟩)
      | (go_at_call 24; refine (r_has_b b0 b1 b2 b3 n hB h _).mono ?_; rintro e w' ⟨rfl, hb⟩)
      | (go_at_call 25; refine (top_any b0 b1 b2 b3 hB _).mono ?_; rintro e w' ⟨rfl, hb⟩)
      | (go_at_call 26; refine (rtop_any b0 b1 b2 b3 hB _).mono ?_; rintro e w' ⟨rfl, hb⟩))
  go_wp2
  go_ret
  refine ⟨rfl, ?_⟩
  go_split_ands
  assumption

set_option maxRecDepth 100000 in
set_option maxHeartbeats 6400000 in
theorem wordsSets_lo (b0 b1 b2 b3 : Nat) (n : Int) (on : Bool) (hB : B4.Ok ⟨b0, b1, b2, b3⟩) (h : n < 0) (W : World) :
    Calls Try.prog 5 #[.agg #[.int .u64 b0, .int .u64 b1, .int .u64 b2, .int .u64 b3], .int .i64 n, .bool on] W fun e w' => e = .returned (.bool true) ∧ Below W.heap.size W w' := by
  go_enter Try.func5, Try.ntmps5
  go_wp2_with fail
  refine (set_bad b0 b1 b2 b3 n on (.inl h) _).mono ?_
  rintro e w1 ⟨rfl, hb1⟩
  have hz1 : W.heap.size < w1.heap.size := by have := hb1.size; simp at this; omega
  have c0 : w1.cell? ⟨W.heap.size, 0, none⟩ = some (.int .u64 b0) := (hb1.cell (p := ⟨W.heap.size, 0, none⟩) (by simp)).trans (by simp [go_sem])
  have c1 : w1.cell? ⟨W.heap.size, 1, none⟩ = some (.int .u64 b1) := (hb1.cell (p := ⟨W.heap.size, 1, none⟩) (by simp)).trans (by simp [go_sem])
  have c2 : w1.cell? ⟨W.heap.size, 2, none⟩ = some (.int .u64 b2) := (hb1.cell (p := ⟨W.heap.size, 2, none⟩) (by simp)).trans (by simp [go_sem])
  have c3 : w1.cell? ⟨W.heap.size, 3, none⟩ = some (.int .u64 b3) := (hb1.cell (p := ⟨W.heap.size, 3, none⟩) (by simp)).trans (by simp [go_sem])
  have HB1 := Lib.hid (below_then (below_new (Below.refl W.heap.size W) _) hb1)
  clear hb1
  go_wp2_with fail
  refine (rset_bad_lo b0 b1 b2 b3 n on h _).mono ?_
  rintro e w2 ⟨rfl, hb2⟩
  have hz2 : w1.heap.size < w2.heap.size := by have := hb2.size; simp at this; omega
  have d0 : w2.cell? ⟨W.heap.size, 0, none⟩ = some (.int .u64 b0) := (hb2.cell (p := ⟨W.heap.size, 0, none⟩) (by simp; omega)).trans (cell_new c0)
  have d1 : w2.cell? ⟨W.heap.size, 1, none⟩ = some (.int .u64 b1) := (hb2.cell (p := ⟨W.heap.size, 1, none⟩) (by simp; omega)).trans (cell_new c1)
  have d2 : w2.cell? ⟨W.heap.size, 2, none⟩ = some (.int .u64 b2) := (hb2.cell (p := ⟨W.heap.size, 2, none⟩) (by simp; omega)).trans (cell_new c2)
  have d3 : w2.cell? ⟨W.heap.size, 3, none⟩ = some (.int .u64 b3) := (hb2.cell (p := ⟨W.heap.size, 3, none⟩) (by simp; omega)).trans (cell_new c3)
  have k0 : w2.cell? ⟨w1.heap.size, 0, none⟩ = some (.int .u64 0) := (hb2.cell (p := ⟨w1.heap.size, 0, none⟩) (by simp)).trans (by simp [go_sem])
  have k1 : w2.cell? ⟨w1.heap.size, 1, none⟩ = some (.int .u64 0) := (hb2.cell (p := ⟨w1.heap.size, 1, none⟩) (by simp)).trans (by simp [go_sem])
  have k2 : w2.cell? ⟨w1.heap.size, 2, none⟩ = some (.int .u64 0) := (hb2.cell (p := ⟨w1.heap.size, 2, none⟩) (by simp)).trans (by simp [go_sem])
  have k3 : w2.cell? ⟨w1.heap.size, 3, none⟩ = some (.int .u64 0) := (hb2.cell (p := ⟨w1.heap.size, 3, none⟩) (by simp)).trans (by simp [go_sem])
  have HB2 := Lib.hid (below_then (below_new HB1.out _) hb2)
  clear hb2 c0 c1 c2 c3
  have heq := eq_bits_self 0 0 0 0
  go_wp2_with fail
  have HW := HB2.out
  have hz3 : w2.heap.size < (w2.alloc (.cells #[.int .u64 0, .int .u64 0, .int .u64 0, .int .u64 0] 35)).heap.size := by simp
  go_region_held3 (fun w' => Below W.heap.size W w' ∧ w2.heap.size < w'.heap.size ∧ w'.cell? ⟨W.heap.size, 0, none⟩ = some (.int .u64 b0) ∧ w'.cell? ⟨W.heap.size, 1, none⟩ = some (.int .u64 b1) ∧ w'.cell? ⟨W.heap.size, 2, none⟩ = some (.int .u64 b2) ∧ w'.cell? ⟨W.heap.size, 3, none⟩ = some (.int .u64 b3) ∧ w'.cell? ⟨w1.heap.size, 0, none⟩ = some (.int .u64 0) ∧ w'.cell? ⟨w1.heap.size, 1, none⟩ = some (.int .u64 0) ∧ w'.cell? ⟨w1.heap.size, 2, none⟩ = some (.int .u64 0) ∧ w'.cell? ⟨w1.heap.size, 3, none⟩ = some (.int .u64 0) ∧ w'.cell? ⟨w2.heap.size, 0, none⟩ = some (.int .u64 0) ∧ w'.cell? ⟨w2.heap.size, 1, none⟩ = some (.int .u64 0) ∧ w'.cell? ⟨w2.heap.size, 2, none⟩ = some (.int .u64 0) ∧ w'.cell? ⟨w2.heap.size, 3, none⟩ = some (.int .u64 0))
    (first | exact keep_start HB2.out d0 d1 d2 d3 k0 k1 k2 k3 | (refine keep_on ?_ hb; assumption) | (refine keep_on ?_ hb; go_split_ands; simp only [*, and_self]))
    (first
      | (go_at_call 16; refine (fixed_true _).mono ?_; rintro e w' ⟨rfl, hb⟩)
      | (go_at_call 23; refine (has_no_b b0 b1 b2 b3 n (.inl h) _).mono ?_; rintro e w' ⟨rfl, hb⟩)
      | (go_at_call 24; refine (r_has_no_b b0 b1 b2 b3 n (.inl h) _).mono ?_; rintro e w' ⟨rfl, hb⟩)
      | (go_at_call 25; refine (top_any b0 b1 b2 b3 hB _).mono ?_; rintro e w' ⟨rfl, hb⟩)
      | (go_at_call 26; refine (rtop_any b0 b1 b2 b3 hB _).mono ?_; rintro e w' ⟨rfl, hb⟩))
  go_wp2
  go_ret
  refine ⟨rfl, ?_⟩
  go_split_ands
  assumption

set_option maxRecDepth 100000 in
set_option maxHeartbeats 6400000 in
theorem wordsSets_hi (b0 b1 b2 b3 : Nat) (n : Int) (on : Bool) (hB : B4.Ok ⟨b0, b1, b2, b3⟩) (h : 255 < n) (W : World) :
    Calls Try.prog 5 #[.agg #[.int .u64 b0, .int .u64 b1, .int .u64 b2, .int .u64 b3], .int .i64 n, .bool on] W fun e w' => e = .returned (.bool true) ∧ Below W.heap.size W w' := by
  go_enter Try.func5, Try.ntmps5
  go_wp2_with fail
  refine (set_bad b0 b1 b2 b3 n on (.inr h) _).mono ?_
  rintro e w1 ⟨rfl, hb1⟩
  have hz1 : W.heap.size < w1.heap.size := by have := hb1.size; simp at this; omega
  have c0 : w1.cell? ⟨W.heap.size, 0, none⟩ = some (.int .u64 b0) := (hb1.cell (p := ⟨W.heap.size, 0, none⟩) (by simp)).trans (by simp [go_sem])
  have c1 : w1.cell? ⟨W.heap.size, 1, none⟩ = some (.int .u64 b1) := (hb1.cell (p := ⟨W.heap.size, 1, none⟩) (by simp)).trans (by simp [go_sem])
  have c2 : w1.cell? ⟨W.heap.size, 2, none⟩ = some (.int .u64 b2) := (hb1.cell (p := ⟨W.heap.size, 2, none⟩) (by simp)).trans (by simp [go_sem])
  have c3 : w1.cell? ⟨W.heap.size, 3, none⟩ = some (.int .u64 b3) := (hb1.cell (p := ⟨W.heap.size, 3, none⟩) (by simp)).trans (by simp [go_sem])
  have HB1 := Lib.hid (below_then (below_new (Below.refl W.heap.size W) _) hb1)
  clear hb1
  go_wp2_with fail
  refine (rset_bad_hi b0 b1 b2 b3 n on h _).mono ?_
  rintro e w2 ⟨rfl, hb2⟩
  have hz2 : w1.heap.size < w2.heap.size := by have := hb2.size; simp at this; omega
  have d0 : w2.cell? ⟨W.heap.size, 0, none⟩ = some (.int .u64 b0) := (hb2.cell (p := ⟨W.heap.size, 0, none⟩) (by simp; omega)).trans (cell_new c0)
  have d1 : w2.cell? ⟨W.heap.size, 1, none⟩ = some (.int .u64 b1) := (hb2.cell (p := ⟨W.heap.size, 1, none⟩) (by simp; omega)).trans (cell_new c1)
  have d2 : w2.cell? ⟨W.heap.size, 2, none⟩ = some (.int .u64 b2) := (hb2.cell (p := ⟨W.heap.size, 2, none⟩) (by simp; omega)).trans (cell_new c2)
  have d3 : w2.cell? ⟨W.heap.size, 3, none⟩ = some (.int .u64 b3) := (hb2.cell (p := ⟨W.heap.size, 3, none⟩) (by simp; omega)).trans (cell_new c3)
  have k0 : w2.cell? ⟨w1.heap.size, 0, none⟩ = some (.int .u64 0) := (hb2.cell (p := ⟨w1.heap.size, 0, none⟩) (by simp)).trans (by simp [go_sem])
  have k1 : w2.cell? ⟨w1.heap.size, 1, none⟩ = some (.int .u64 0) := (hb2.cell (p := ⟨w1.heap.size, 1, none⟩) (by simp)).trans (by simp [go_sem])
  have k2 : w2.cell? ⟨w1.heap.size, 2, none⟩ = some (.int .u64 0) := (hb2.cell (p := ⟨w1.heap.size, 2, none⟩) (by simp)).trans (by simp [go_sem])
  have k3 : w2.cell? ⟨w1.heap.size, 3, none⟩ = some (.int .u64 0) := (hb2.cell (p := ⟨w1.heap.size, 3, none⟩) (by simp)).trans (by simp [go_sem])
  have HB2 := Lib.hid (below_then (below_new HB1.out _) hb2)
  clear hb2 c0 c1 c2 c3
  have heq := eq_bits_self 0 0 0 0
  go_wp2_with fail
  have HW := HB2.out
  have hz3 : w2.heap.size < (w2.alloc (.cells #[.int .u64 0, .int .u64 0, .int .u64 0, .int .u64 0] 35)).heap.size := by simp
  go_region_held3 (fun w' => Below W.heap.size W w' ∧ w2.heap.size < w'.heap.size ∧ w'.cell? ⟨W.heap.size, 0, none⟩ = some (.int .u64 b0) ∧ w'.cell? ⟨W.heap.size, 1, none⟩ = some (.int .u64 b1) ∧ w'.cell? ⟨W.heap.size, 2, none⟩ = some (.int .u64 b2) ∧ w'.cell? ⟨W.heap.size, 3, none⟩ = some (.int .u64 b3) ∧ w'.cell? ⟨w1.heap.size, 0, none⟩ = some (.int .u64 0) ∧ w'.cell? ⟨w1.heap.size, 1, none⟩ = some (.int .u64 0) ∧ w'.cell? ⟨w1.heap.size, 2, none⟩ = some (.int .u64 0) ∧ w'.cell? ⟨w1.heap.size, 3, none⟩ = some (.int .u64 0) ∧ w'.cell? ⟨w2.heap.size, 0, none⟩ = some (.int .u64 0) ∧ w'.cell? ⟨w2.heap.size, 1, none⟩ = some (.int .u64 0) ∧ w'.cell? ⟨w2.heap.size, 2, none⟩ = some (.int .u64 0) ∧ w'.cell? ⟨w2.heap.size, 3, none⟩ = some (.int .u64 0))
    (first | exact keep_start HB2.out d0 d1 d2 d3 k0 k1 k2 k3 | (refine keep_on ?_ hb; assumption) | (refine keep_on ?_ hb; go_split_ands; simp only [*, and_self]))
    (first
      | (go_at_call 16; refine (fixed_true _).mono ?_; rintro e w' ⟨rfl, hb⟩)
      | (go_at_call 23; refine (has_no_b b0 b1 b2 b3 n (.inr h) _).mono ?_; rintro e w' ⟨rfl, hb⟩)
      | (go_at_call 24; refine (r_has_no_b b0 b1 b2 b3 n (.inr h) _).mono ?_; rintro e w' ⟨rfl, hb⟩)
      | (go_at_call 25; refine (top_any b0 b1 b2 b3 hB _).mono ?_; rintro e w' ⟨rfl, hb⟩)
      | (go_at_call 26; refine (rtop_any b0 b1 b2 b3 hB _).mono ?_; rintro e w' ⟨rfl, hb⟩))
  go_wp2
  go_ret
  refine ⟨rfl, ?_⟩
  go_split_ands
  assumption

theorem wordsSets_walk (b0 b1 b2 b3 : Nat) (n : Int) (on : Bool) (hB : B4.Ok ⟨b0, b1, b2, b3⟩) (W : World) :
    Calls Try.prog 5 #[.agg #[.int .u64 b0, .int .u64 b1, .int .u64 b2, .int .u64 b3], .int .i64 n, .bool on] W fun e w' => e = .returned (.bool true) ∧ Below W.heap.size W w' := by
  by_cases h1 : n < 0
  · exact wordsSets_lo b0 b1 b2 b3 n on hB h1 W
  by_cases h2 : 255 < n
  · exact wordsSets_hi b0 b1 b2 b3 n on hB h2 W
  obtain ⟨n, rfl⟩ := Int.eq_ofNat_of_zero_le (show 0 ≤ n by omega)
  exact wordsSets_good b0 b1 b2 b3 n on hB (by omega) W


set_option maxRecDepth 100000 in
theorem wordsSets_lifted (os : Os) (started : os.Started) (H : Type) (enc : TypeId × Value → H) :
    ReturnsInHanded {} Try.checked os 5 .any (Rows.wordsSetsSpec.pre6 enc Try.prog Try.f5 Rows.wordsSetsRow.domain false) (Rows.wordsSetsSpec.post enc Try.prog Try.f5 false true false false) := by
  refine returnsInHanded_of_change (C := Try.checked) own_knob started (by kernel_rfl) Try.func5
    (ChangeSpec.witness6 (enc := enc) (C := Try.checked) false ⟨#[], #[.agg #[.int .u64 0, .int .u64 0, .int .u64 0, .int .u64 0], .int .i64 0, .bool false], []⟩ 8 (by kernel_rfl) (by kernel_rfl) (by kernel_rfl) (by kernel_rfl)) ?_
  intro W base args ds gs before hval0 hW hcnd _
  have hval : ∀ (j : Nat) t v, Try.f5.params[j]? = some t → args[j]? = some v → Value.okWide Try.prog W .any base t v := hval0
  have hW' := hW
  obtain ⟨p, q, hA0, hV, rfl, hfz, hnd⟩ := hW
  have hA : DataW.TrodAll enc Try.prog W 0 (fun _ => true) true Try.f5.params.toList args.toList ds p := hA0
  rw [Try.params5] at hA hval
  obtain ⟨v0, v1, v2, d0, d1, d2, p0, p1, p2, rfl, rfl, rfl, h0, h1, h2⟩ := trodAll_three hA
  obtain ⟨rfl, rfl⟩ := trodVars_none hV
  clear hA0 hval0
  simp only [List.append_nil] at hW'
  have hlt : ∀ x ∈ p0 ++ p1 ++ p2, x.block < W.heap.size := fun x hx => by simpa using hW'.lt x hx
  have g0 : ∀ W' : World, Below W.heap.size W W' → DataW.Trod enc Try.prog W' 0 (fun b => decide (b < W.heap.size)) true 35 v0 d0 p0 :=
    fun W' hn => Below.trod laid_out (by kernel_rfl) (of_decide_eq_true (by kernel_rfl)) h0 hn (fun x hx => hlt x (by simp [hx]))
  have g1 : ∀ W' : World, Below W.heap.size W W' → DataW.Trod enc Try.prog W' 0 (fun b => decide (b < W.heap.size)) true 3 v1 d1 p1 :=
    fun W' hn => Below.trod laid_out (by kernel_rfl) (of_decide_eq_true (by kernel_rfl)) h1 hn (fun x hx => hlt x (by simp [hx]))
  have g2 : ∀ W' : World, Below W.heap.size W W' → DataW.Trod enc Try.prog W' 0 (fun b => decide (b < W.heap.size)) true 4 v2 d2 p2 :=
    fun W' hn => Below.trod laid_out (by kernel_rfl) (of_decide_eq_true (by kernel_rfl)) h2 hn (fun x hx => hlt x (by simp [hx]))
  obtain ⟨b0, b1, b2, b3, rfl, m0, m1, m2, m3⟩ := open_bits (hval 0 35 v0 rfl rfl) h0
  obtain ⟨n, rfl, _, _, w1⟩ := open_int Try.underlying3 (hval 1 3 v1 rfl rfl) h1
  have l1 := int_of_wf w1
  obtain ⟨on, rfl, _, _⟩ := open_bool Try.underlying4 (hval 2 4 v2 rfl rfl) h2
  refine (wordsSets_walk b0 b1 b2 b3 n on ⟨⟨m0⟩, ⟨m1⟩, ⟨m2⟩, ⟨m3⟩⟩ W).mono fun e W' ⟨he, hn⟩ => ?_
  subst he
  exact ⟨_, rfl, _, _, _, [], p0 ++ p1 ++ p2, [], hW', trodAll_mk1 (shut_bool Try.underlying4 true), (by rw [List.append_assoc p0 p1 p2]; exact trodAll_mk3 (g0 W' hn) (g1 W' hn) (g2 W' hn)), rfl, hn.frame _, fun h => by cases h⟩

theorem wordsSets_holds : Rows.WordsSetsSaid :=
  OpenClaim.holds_of_wide 5 Try.f5 rfl rfl rfl rfl rfl rfl rfl ⟨rfl, rfl, rfl, rfl, rfl⟩ rfl rfl rfl rfl rfl (by kernel_rfl) Try.func5 (by kernel_rfl)
    (of_decide_eq_true (by kernel_rfl)) (by unfold Func.isWrapper; first | (rw [if_pos (by decide +kernel)]; kernel_rfl) | (rw [if_neg (by decide +kernel)]; exact ⟨rfl, rfl⟩))
    (fun os started H enc _ => wordsSets_lifted os started H enc)
#print axioms wordsSets_holds
end Go.Proofs.Ytbmdnbjkphmmpaa
