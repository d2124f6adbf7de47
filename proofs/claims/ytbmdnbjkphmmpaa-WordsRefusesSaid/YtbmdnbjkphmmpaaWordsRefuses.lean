/- No bits beyond a word's, and none of a number below 0, can be asked for, or put in: for every input, no condition. -/
import Derived.Test.YtbmdnbjkphmmpaaFrame
import Derived.Test.YtbmdnbjkphmmpaaFixed
namespace Go.Proofs.Ytbmdnbjkphmmpaa
open Go.ChangeShapes Go.WideShapes Go.ChangeAt Go.RowKit Go.Joins Wd

theorem has_no_b (b0 b1 b2 b3 : Nat) (n : Int) (h : n < 0 ∨ 255 < n) (w : World) :
    Calls Try.prog 23 #[.agg #[.int .u64 b0, .int .u64 b1, .int .u64 b2, .int .u64 b3], .int .i64 n] w fun e w' => e = .returned (.bool false) ∧ Below w.heap.size w w' := by
  refine (has_no b0 b1 b2 b3 n h w).mono ?_
  rintro e w' ⟨rfl, rfl⟩
  exact ⟨rfl, below_new (Below.refl _ _) _⟩
set_option maxRecDepth 100000 in
set_option maxHeartbeats 1600000 in
theorem wordsRefuses_walk (v b0 b1 b2 b3 : Nat) (a n : Int) (W : World) :
    Calls Try.prog 10 #[.int .u64 v, .agg #[.int .i64 a, .int .i64 n], .agg #[.int .u64 b0, .int .u64 b1, .int .u64 b2, .int .u64 b3]] W fun e w' => e = .returned (.bool true) ∧ Below W.heap.size W w' := by
  obtain ⟨m, hm, hA⟩ := and63 a
  go_enter Try.func10, Try.ntmps10
  go_wp2_with fail
  go_quiet (fail)
  go_wp2_with fail
  refine (field_bad v (1 + (m : Int)) (65 - (m : Int)) (by omega) _).mono ?_
  rintro e w' ⟨rfl, rfl⟩
  go_wp2_with fail
  refine (with_bad v (-(1 + (m : Int))) 1 0 (by omega) _).mono ?_
  rintro e w' ⟨rfl, rfl⟩
  go_wp2_with fail
  refine (mask_bad (64 + (1 + (m : Int))) (by omega) _).mono ?_
  rintro e w' ⟨rfl, rfl⟩
  go_wp2_with fail
  refine (set_bad b0 b1 b2 b3 (255 + (1 + (m : Int))) true (by omega) _).mono ?_
  rintro e w1 ⟨rfl, hb1⟩
  have c0 : w1.cell? ⟨W.heap.size + 1, 0, none⟩ = some (.int .u64 b0) := (hb1.cell (p := ⟨W.heap.size + 1, 0, none⟩) (by simp)).trans (by simp [go_sem])
  have c1 : w1.cell? ⟨W.heap.size + 1, 1, none⟩ = some (.int .u64 b1) := (hb1.cell (p := ⟨W.heap.size + 1, 1, none⟩) (by simp)).trans (by simp [go_sem])
  have c2 : w1.cell? ⟨W.heap.size + 1, 2, none⟩ = some (.int .u64 b2) := (hb1.cell (p := ⟨W.heap.size + 1, 2, none⟩) (by simp)).trans (by simp [go_sem])
  have c3 : w1.cell? ⟨W.heap.size + 1, 3, none⟩ = some (.int .u64 b3) := (hb1.cell (p := ⟨W.heap.size + 1, 3, none⟩) (by simp)).trans (by simp [go_sem])
  have hz : W.heap.size + 1 < w1.heap.size := by have := hb1.size; simp at this; omega
  have HB1 := Lib.hid hb1
  clear hb1
  have heq := eq_bits_self 0 0 0 0
  go_wp2_with fail
  refine (has_no_b b0 b1 b2 b3 (-(1 + (m : Int))) (by omega) _).mono ?_
  rintro e w3 ⟨rfl, hb3⟩
  have hz' : w1.heap.size < w3.heap.size := by have := hb3.size; simp at this; omega
  have d0 : w3.cell? ⟨W.heap.size + 1, 0, none⟩ = some (.int .u64 b0) := (hb3.cell (p := ⟨W.heap.size + 1, 0, none⟩) (by simp; omega)).trans (cell_new c0)
  have d1 : w3.cell? ⟨W.heap.size + 1, 1, none⟩ = some (.int .u64 b1) := (hb3.cell (p := ⟨W.heap.size + 1, 1, none⟩) (by simp; omega)).trans (cell_new c1)
  have d2 : w3.cell? ⟨W.heap.size + 1, 2, none⟩ = some (.int .u64 b2) := (hb3.cell (p := ⟨W.heap.size + 1, 2, none⟩) (by simp; omega)).trans (cell_new c2)
  have d3 : w3.cell? ⟨W.heap.size + 1, 3, none⟩ = some (.int .u64 b3) := (hb3.cell (p := ⟨W.heap.size + 1, 3, none⟩) (by simp; omega)).trans (cell_new c3)
  have HB3 := Lib.hid hb3
  clear hb3 c0 c1 c2 c3
  go_wp2_with fail
  refine (has_no_b b0 b1 b2 b3 (255 + (1 + (m : Int))) (by omega) _).mono ?_
  rintro e w4 ⟨rfl, hb4⟩
  have HB4 := Lib.hid hb4
  clear hb4 d0 d1 d2 d3
  go_wp2_with fail
  refine (fixed_true _).mono ?_
  rintro e w2 ⟨rfl, hb⟩
  have HB := Lib.hid hb
  clear hb
  go_wp2_with fail
  go_ret
  refine ⟨rfl, ?_⟩
  have h1 : Below W.heap.size W w1 := below_then (below_new (below_new (Below.refl _ _) _) _) (below_drawn HB1.out)
  exact below_then (below_then (below_then (below_new h1 _) HB3.out) HB4.out) HB.out


set_option maxRecDepth 100000 in
theorem wordsRefuses_lifted (os : Os) (started : os.Started) (H : Type) (enc : TypeId × Value → H) :
    ReturnsInHanded {} Try.checked os 10 .any (Rows.wordsRefusesSpec.pre6 enc Try.prog Try.f10 Rows.wordsRefusesRow.domain false) (Rows.wordsRefusesSpec.post enc Try.prog Try.f10 false true false false) := by
  refine returnsInHanded_of_change (C := Try.checked) own_knob started (by kernel_rfl) Try.func10
    (ChangeSpec.witness6 (enc := enc) (C := Try.checked) false ⟨#[], #[.int .u64 0, .agg #[.int .i64 0, .int .i64 0], .agg #[.int .u64 0, .int .u64 0, .int .u64 0, .int .u64 0]], []⟩ 8 (by kernel_rfl) (by kernel_rfl) (by kernel_rfl) (by kernel_rfl)) ?_
  intro W base args ds gs before hval0 hW hcnd _
  have hval : ∀ (j : Nat) t v, Try.f10.params[j]? = some t → args[j]? = some v → Value.okWide Try.prog W .any base t v := hval0
  have hW' := hW
  obtain ⟨p, q, hA0, hV, rfl, hfz, hnd⟩ := hW
  have hA : DataW.TrodAll enc Try.prog W 0 (fun _ => true) true Try.f10.params.toList args.toList ds p := hA0
  rw [Try.params10] at hA hval
  obtain ⟨v0, v1, v2, d0, d1, d2, p0, p1, p2, rfl, rfl, rfl, h0, h1, h2⟩ := trodAll_three hA
  obtain ⟨rfl, rfl⟩ := trodVars_none hV
  clear hA0 hval0
  simp only [List.append_nil] at hW'
  have hlt : ∀ x ∈ p0 ++ p1 ++ p2, x.block < W.heap.size := fun x hx => by simpa using hW'.lt x hx
  have g0 : ∀ W' : World, Below W.heap.size W W' → DataW.Trod enc Try.prog W' 0 (fun b => decide (b < W.heap.size)) true 22 v0 d0 p0 :=
    fun W' hn => Below.trod laid_out (by kernel_rfl) (of_decide_eq_true (by kernel_rfl)) h0 hn (fun x hx => hlt x (by simp [hx]))
  have g1 : ∀ W' : World, Below W.heap.size W W' → DataW.Trod enc Try.prog W' 0 (fun b => decide (b < W.heap.size)) true 24 v1 d1 p1 :=
    fun W' hn => Below.trod laid_out (by kernel_rfl) (of_decide_eq_true (by kernel_rfl)) h1 hn (fun x hx => hlt x (by simp [hx]))
  have g2 : ∀ W' : World, Below W.heap.size W W' → DataW.Trod enc Try.prog W' 0 (fun b => decide (b < W.heap.size)) true 35 v2 d2 p2 :=
    fun W' hn => Below.trod laid_out (by kernel_rfl) (of_decide_eq_true (by kernel_rfl)) h2 hn (fun x hx => hlt x (by simp [hx]))
  obtain ⟨i0, rfl, _, _, w0⟩ := open_int Try.underlying22 (hval 0 22 v0 rfl rfl) h0
  obtain ⟨v, rfl, l0⟩ := word_of_wf w0
  obtain ⟨a, n, rfl, l1a, l1n⟩ := open_part (hval 1 24 v1 rfl rfl) h1
  obtain ⟨b0, b1, b2, b3, rfl, m0, m1, m2, m3⟩ := open_bits (hval 2 35 v2 rfl rfl) h2
  refine (wordsRefuses_walk v b0 b1 b2 b3 a n W).mono fun e W' ⟨he, hn⟩ => ?_
  subst he
  exact ⟨_, rfl, _, _, _, [], p0 ++ p1 ++ p2, [], hW', trodAll_mk1 (shut_bool Try.underlying4 true), (by rw [List.append_assoc p0 p1 p2]; exact trodAll_mk3 (g0 W' hn) (g1 W' hn) (g2 W' hn)), rfl, hn.frame _, fun h => by cases h⟩

theorem wordsRefuses_holds : Rows.WordsRefusesSaid :=
  OpenClaim.holds_of_wide 10 Try.f10 rfl rfl rfl rfl rfl rfl rfl ⟨rfl, rfl, rfl, rfl, rfl⟩ rfl rfl rfl rfl rfl (by kernel_rfl) Try.func10 (by kernel_rfl)
    (of_decide_eq_true (by kernel_rfl)) (by unfold Func.isWrapper; first | (rw [if_pos (by decide +kernel)]; kernel_rfl) | (rw [if_neg (by decide +kernel)]; exact ⟨rfl, rfl⟩))
    (fun os started H enc _ => wordsRefuses_lifted os started H enc)
#print axioms wordsRefuses_holds
end Go.Proofs.Ytbmdnbjkphmmpaa
