/- The calls whose answers the document fixes (words): the function 'fixed' answers true. -/
import Derived.Test.YtbmdnbjkphmmpaaTops
import Derived.ChangeKeysEq
namespace Go.Proofs.Ytbmdnbjkphmmpaa
open Go.RowKit Wd

theorem cellsOf_word : Try.prog.cellsOf 22 = 1 := by kernel_rfl
theorem info_word : (Try.prog.info? 22).isSome = true := by kernel_rfl
/-- An array of four words is equal to itself. -/
theorem eq_bits_self (x0 x1 x2 x3 : Int) (w : World) :
    (Op.equalIn 10000 35 (.agg #[.int .u64 x0, .int .u64 x1, .int .u64 x2, .int .u64 x3]) (.agg #[.int .u64 x0, .int .u64 x1, .int .u64 x2, .int .u64 x3])).run Try.prog w = .ok true w := by
  obtain ⟨i, hi⟩ := Option.isSome_iff_exists.1 info_word
  rw [show (10000 : Nat) = 9998 + 1 + 1 from rfl, run_equalIn_array w (9998 + 1) _ _ Try.underlying35 hi, cellsOf_word, show List.range 4 = [0, 1, 2, 3] from rfl]
  simp [Op.eqItems, go_sem]

theorem f_mask (w : World) : Calls Try.prog 17 #[.int .i64 3] w fun e w' => e = .returned (.tuple #[.int .u64 7, .int .i64 0]) ∧ w' = w :=
  mask_any 3 (by decide) w
theorem f_field (w : World) : Calls Try.prog 12 #[.int .u64 4660, .int .i64 4, .int .i64 8] w fun e w' => e = .returned (.tuple #[.int .u64 35, .int .i64 0]) ∧ ∃ k, w' = w.drewN k :=
  field_any 4660 4 8 ⟨by decide⟩ (by decide) w
theorem f_with (w : World) : Calls Try.prog 14 #[.int .u64 4660, .int .i64 4, .int .i64 8, .int .u64 255] w fun e w' => e = .returned (.tuple #[.int .u64 8180, .int .i64 0]) ∧ ∃ k, w' = w.drewN k := by
  have h := with_any 4660 4 8 255 ⟨by decide⟩ ⟨by decide⟩ (by decide) (by decide) w
  have e : wth 4660 4 8 255 = 8180 := by decide +kernel
  rw [e] at h
  exact h
theorem f_up (w : World) : Calls Try.prog 19 #[.int .u64 5, .int .i64 3] w fun e w' => e = .returned (.tuple #[.int .u64 8, .int .i64 0]) ∧ w' = w :=
  up_any 5 3 ⟨by decide⟩ (by decide) (by decide) w
theorem f_big (w : World) : Calls Try.prog 14 #[.int .u64 0, .int .i64 0, .int .i64 2, .int .u64 4] w fun e w' => e = .returned (.tuple #[.int .u64 0, .int .i64 2]) ∧ w' = w :=
  with_big 0 0 2 4 ⟨by decide⟩ (by decide) (by decide) w
theorem f_upbig (w : World) : Calls Try.prog 19 #[.int .u64 9223372036854775809, .int .i64 63] w fun e w' => e = .returned (.tuple #[.int .u64 0, .int .i64 2]) ∧ w' = w :=
  up_big 9223372036854775809 63 ⟨by decide⟩ (by decide) (by decide) w
theorem zeros_ok : B4.Ok ⟨0, 0, 0, 0⟩ := ⟨⟨by decide⟩, ⟨by decide⟩, ⟨by decide⟩, ⟨by decide⟩⟩
theorem zeros_has (n : Nat) : B4.has ⟨0, 0, 0, 0⟩ n = false := by
  unfold B4.has B4.wd
  split <;> (try split) <;> (try split) <;> simp
theorem set_any (b0 b1 b2 b3 n : Nat) (on : Bool) (hB : B4.Ok ⟨b0, b1, b2, b3⟩) (h : n < 256) (w : World) :
    Calls Try.prog 21 #[.agg #[.int .u64 b0, .int .u64 b1, .int .u64 b2, .int .u64 b3], .int .i64 n, .bool on] w (SetPost ⟨b0, b1, b2, b3⟩ n on w) := by
  have hq : n / 64 = 0 ∨ n / 64 = 1 ∨ n / 64 = 2 ∨ n / 64 = 3 := by omega
  cases on <;> rcases hq with hq | hq | hq | hq
  · exact set_0_false b0 b1 b2 b3 n hB h hq w
  · exact set_1_false b0 b1 b2 b3 n hB h hq w
  · exact set_2_false b0 b1 b2 b3 n hB h hq w
  · exact set_3_false b0 b1 b2 b3 n hB h hq w
  · exact set_0_true b0 b1 b2 b3 n hB h hq w
  · exact set_1_true b0 b1 b2 b3 n hB h hq w
  · exact set_2_true b0 b1 b2 b3 n hB h hq w
  · exact set_3_true b0 b1 b2 b3 n hB h hq w
theorem f_set0 (w : World) : Calls Try.prog 21 #[.agg #[.int .u64 0, .int .u64 0, .int .u64 0, .int .u64 0], .int .i64 200, .bool true] w (SetPost ⟨0, 0, 0, 0⟩ 200 true w) :=
  set_any 0 0 0 0 200 true zeros_ok (by decide) w
theorem f_set1 (b0 b1 b2 b3 : Nat) (hB : B4.Ok ⟨b0, b1, b2, b3⟩) (w : World) : Calls Try.prog 21 #[.agg #[.int .u64 b0, .int .u64 b1, .int .u64 b2, .int .u64 b3], .int .i64 3, .bool true] w (SetPost ⟨b0, b1, b2, b3⟩ 3 true w) :=
  set_any b0 b1 b2 b3 3 true hB (by decide) w
theorem f_top0 (w : World) : Calls Try.prog 25 #[.agg #[.int .u64 0, .int .u64 0, .int .u64 0, .int .u64 0]] w fun e w' => e = .returned (.int .i64 (-1)) ∧ Below w.heap.size w w' := by
  have h := top_any 0 0 0 0 zeros_ok w
  have e : topTo ⟨0, 0, 0, 0⟩ 256 = -1 := TopIs.uniq (TopIs.of_top _) ⟨.inl ⟨rfl, fun n _ => zeros_has n⟩⟩
  rw [e] at h
  exact h
theorem two_bits {y z : B4} (h1 : Put ⟨0, 0, 0, 0⟩ 200 true y) (h2 : Put y 3 true z) : topTo z 256 = 200 ∧ z.has 3 = true ∧ z.has 4 = false := by
  refine ⟨?_, h2.at_, ?_⟩
  · refine TopIs.uniq (TopIs.of_top _) ⟨.inr ⟨200, rfl, by decide, ?_, fun n h3 h4 => ?_⟩⟩
    · rw [h2.other 200 (by decide) (by decide), h1.at_]
    · rw [h2.other n h4 (by omega), h1.other n h4 (by omega), zeros_has]
  · rw [h2.other 4 (by decide) (by decide), h1.other 4 (by decide) (by decide), zeros_has]
theorem f_top1 (b0 b1 b2 b3 : Nat) (hB : B4.Ok ⟨b0, b1, b2, b3⟩) (h : topTo ⟨b0, b1, b2, b3⟩ 256 = 200) (w : World) :
    Calls Try.prog 25 #[.agg #[.int .u64 b0, .int .u64 b1, .int .u64 b2, .int .u64 b3]] w fun e w' => e = .returned (.int .i64 200) ∧ Below w.heap.size w w' := by
  have h' := top_any b0 b1 b2 b3 hB w
  rw [h] at h'
  exact h'
theorem f_has (b0 b1 b2 b3 n : Nat) (b : Bool) (hB : B4.Ok ⟨b0, b1, b2, b3⟩) (h : n < 256) (hb : B4.has ⟨b0, b1, b2, b3⟩ n = b) (w : World) :
    Calls Try.prog 23 #[.agg #[.int .u64 b0, .int .u64 b1, .int .u64 b2, .int .u64 b3], .int .i64 n] w fun e w' => e = .returned (.bool b) ∧ Below w.heap.size w w' := by
  refine (has_any b0 b1 b2 b3 n hB h w).mono ?_
  rintro e w' ⟨rfl, rfl⟩
  exact ⟨by rw [hb], (Below.refl _ _).alloc (Nat.le_refl _) _⟩

theorem below_drawn {w w1 : World} {k : Nat} (h : Below (w.drewN k).heap.size (w.drewN k) w1) : Below w.heap.size w w1 := ⟨h.os, h.tape, h.output, h.size, h.block⟩
theorem below_then {w w1 w2 : World} (h : Below w.heap.size w w1) (k : Below w1.heap.size w1 w2) : Below w.heap.size w w2 :=
  h.trans ⟨k.os, k.tape, k.output, k.size, fun i hi => k.block i (Nat.lt_of_lt_of_le hi h.size)⟩
theorem below_put {w W : World} (h : Below w.heap.size w W) (p : Addr) (v : Value) (hp : w.heap.size ≤ p.block) : Below w.heap.size w (W.setCell p v) := h.setCell hp v
theorem bcell {W w1 : World} (hb : Below W.heap.size W w1) : (∀ b o, b < W.heap.size → w1.cell? ⟨b, o, none⟩ = W.cell? ⟨b, o, none⟩) ∧ (∀ b o, b < W.heap.size → w1.frozen? ⟨b, o, none⟩ = W.frozen? ⟨b, o, none⟩) :=
  ⟨fun b o h => hb.cell (p := ⟨b, o, none⟩) h, fun b o h => hb.frozen (p := ⟨b, o, none⟩) h⟩

set_option maxRecDepth 100000 in
set_option maxHeartbeats 3200000 in
theorem fixed_true (w : World) : Calls Try.prog 16 #[] w fun e w' => e = .returned (.bool true) ∧ Below w.heap.size w w' := by
  go_enter Try.func16, Try.ntmps16
  go_wp2_with fail
  refine (f_mask _).mono ?_
  rintro e w' ⟨rfl, rfl⟩
  go_wp2_with fail
  refine (f_field _).mono ?_
  rintro e w' ⟨rfl, k1, rfl⟩
  go_wp2_with fail
  refine (f_with _).mono ?_
  rintro e w' ⟨rfl, k2, rfl⟩
  go_wp2_with fail
  refine (f_up _).mono ?_
  rintro e w' ⟨rfl, rfl⟩
  go_wp2_with fail
  refine (f_big _).mono ?_
  rintro e w' ⟨rfl, rfl⟩
  go_wp2_with fail
  refine (f_upbig _).mono ?_
  rintro e w' ⟨rfl, rfl⟩
  go_wp2_with fail
  refine (f_set0 _).mono ?_
  rintro e w1 ⟨y0, y1, y2, y3, rfl, hp1, hb1⟩
  have HP1 := Lib.hid hp1
  have HB1 := Lib.hid (below_drawn hb1)
  clear hp1 hb1
  go_wp2_with fail
  refine (f_set1 y0 y1 y2 y3 HP1.out.ok _).mono ?_
  rintro e w2 ⟨z0, z1, z2, z3, rfl, hp2, hb2⟩
  have hT := two_bits HP1.out hp2
  have HP2 := Lib.hid hp2
  have HB2 := Lib.hid hb2
  have hz : w1.heap.size < w2.heap.size := by have := hb2.size; simp at this; omega
  have c0 : w2.cell? ⟨w1.heap.size, 0, none⟩ = some (.int .u64 y0) := (hb2.cell (p := ⟨w1.heap.size, 0, none⟩) (by simp)).trans (by simp [go_sem])
  have c1 : w2.cell? ⟨w1.heap.size, 1, none⟩ = some (.int .u64 y1) := (hb2.cell (p := ⟨w1.heap.size, 1, none⟩) (by simp)).trans (by simp [go_sem])
  have c2 : w2.cell? ⟨w1.heap.size, 2, none⟩ = some (.int .u64 y2) := (hb2.cell (p := ⟨w1.heap.size, 2, none⟩) (by simp)).trans (by simp [go_sem])
  have c3 : w2.cell? ⟨w1.heap.size, 3, none⟩ = some (.int .u64 y3) := (hb2.cell (p := ⟨w1.heap.size, 3, none⟩) (by simp)).trans (by simp [go_sem])
  have f0 : w2.frozen? ⟨w1.heap.size, 0, none⟩ = false := (hb2.frozen (p := ⟨w1.heap.size, 0, none⟩) (by simp)).trans (by simp [go_sem])
  have f1 : w2.frozen? ⟨w1.heap.size, 1, none⟩ = false := (hb2.frozen (p := ⟨w1.heap.size, 1, none⟩) (by simp)).trans (by simp [go_sem])
  have f2 : w2.frozen? ⟨w1.heap.size, 2, none⟩ = false := (hb2.frozen (p := ⟨w1.heap.size, 2, none⟩) (by simp)).trans (by simp [go_sem])
  have f3 : w2.frozen? ⟨w1.heap.size, 3, none⟩ = false := (hb2.frozen (p := ⟨w1.heap.size, 3, none⟩) (by simp)).trans (by simp [go_sem])
  clear hp2 hb2
  obtain ⟨t1, t2, t3⟩ := hT
  have T1 := Lib.hid t1
  have T2 := Lib.hid t2
  have T3 := Lib.hid t3
  clear t1 t2 t3
  go_wp2_with fail
  refine (f_top1 z0 z1 z2 z3 HP2.out.ok T1.out _).mono ?_
  rintro e w3 ⟨rfl, hb3⟩
  have hz3 : w1.heap.size < w3.heap.size := by have := hb3.size; simp [World.setCell] at this; omega
  have d0 : w3.cell? ⟨w1.heap.size, 0, none⟩ = some (.int .u64 z0) := (hb3.cell (p := ⟨w1.heap.size, 0, none⟩) (by simpa [World.setCell] using hz)).trans (by simp [go_sem, c0])
  have d1 : w3.cell? ⟨w1.heap.size, 1, none⟩ = some (.int .u64 z1) := (hb3.cell (p := ⟨w1.heap.size, 1, none⟩) (by simpa [World.setCell] using hz)).trans (by simp [go_sem, c1])
  have d2 : w3.cell? ⟨w1.heap.size, 2, none⟩ = some (.int .u64 z2) := (hb3.cell (p := ⟨w1.heap.size, 2, none⟩) (by simpa [World.setCell] using hz)).trans (by simp [go_sem, c2])
  have d3 : w3.cell? ⟨w1.heap.size, 3, none⟩ = some (.int .u64 z3) := (hb3.cell (p := ⟨w1.heap.size, 3, none⟩) (by simpa [World.setCell] using hz)).trans (by simp [go_sem, c3])
  have HB3 := Lib.hid hb3
  clear hb3 c0 c1 c2 c3 f0 f1 f2 f3 hz
  go_wp2_with fail
  refine (f_has z0 z1 z2 z3 3 true HP2.out.ok (by decide) T2.out _).mono ?_
  rintro e w4 ⟨rfl, hb4⟩
  have hz4 : w1.heap.size < w4.heap.size := Nat.lt_of_lt_of_le hz3 hb4.size
  have e0 : w4.cell? ⟨w1.heap.size, 0, none⟩ = some (.int .u64 z0) := (hb4.cell (p := ⟨w1.heap.size, 0, none⟩) hz3).trans d0
  have e1 : w4.cell? ⟨w1.heap.size, 1, none⟩ = some (.int .u64 z1) := (hb4.cell (p := ⟨w1.heap.size, 1, none⟩) hz3).trans d1
  have e2 : w4.cell? ⟨w1.heap.size, 2, none⟩ = some (.int .u64 z2) := (hb4.cell (p := ⟨w1.heap.size, 2, none⟩) hz3).trans d2
  have e3 : w4.cell? ⟨w1.heap.size, 3, none⟩ = some (.int .u64 z3) := (hb4.cell (p := ⟨w1.heap.size, 3, none⟩) hz3).trans d3
  have HB4 := Lib.hid hb4
  clear hb4 d0 d1 d2 d3
  go_wp2_with fail
  refine (f_has z0 z1 z2 z3 4 false HP2.out.ok (by decide) T3.out _).mono ?_
  rintro e w5 ⟨rfl, hb5⟩
  have HB5 := Lib.hid hb5
  clear hb5 e0 e1 e2 e3
  go_wp2_with fail
  refine (f_top0 _).mono ?_
  rintro e w6 ⟨rfl, hb6⟩
  have HB6 := Lib.hid hb6
  clear hb6
  go_wp2_with fail
  go_ret
  refine ⟨rfl, ?_⟩
  have h2 := below_then (below_new HB1.out _) HB2.out
  have hw : w'.heap.size ≤ w1.heap.size := HB1.out.size
  exact below_then (below_then (below_then (below_then (below_put (below_put (below_put (below_put h2 _ _ hw) _ _ hw) _ _ hw) _ _ hw) HB3.out) HB4.out) HB5.out) HB6.out

end Go.Proofs.Ytbmdnbjkphmmpaa
