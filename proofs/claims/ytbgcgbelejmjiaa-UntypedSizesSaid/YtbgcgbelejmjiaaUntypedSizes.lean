/- An object's size hangs on bits only of untyped memory and nodes; it is 2 to the power of at least 2: for every input, no condition. -/
import Derived.Test.YtbgcgbelejmjiaaUfixed
import Derived.Test.YtbgcgbelejmjiaaUframe
set_option linter.unusedVariables false
set_option linter.unusedSimpArgs false
namespace Go.Proofs.Ytbgcgbelejmjiaa
open Go.ChangeShapes Go.WideShapes Go.ChangeAt Go.RowKit Go.Joins Wd Ud

set_option maxRecDepth 100000 in
set_option maxHeartbeats 3200000 in
theorem untypedSizes_x0 (k n o a ec b f : Int) (S1 : Hid (∀ w : World, Calls Try.prog 12 #[.int .i64 k, .int .i64 n] w fun e w' => e = .returned (.tuple #[.int .i64 a, .int .i64 0]) ∧ Below w.heap.size w w')) (S2 : Hid (∀ w : World, Calls Try.prog 12 #[.int .i64 k, .int .i64 o] w fun e w' => e = .returned (.tuple #[.int .i64 a, .int .i64 0]) ∧ Below w.heap.size w w')) (h1 : (k != 1) = true) (h2 : (k != 2) = true) (ha : 2 ≤ a) (hb : a ≤ 20) (W : World) :
    Calls Try.prog 6 #[(.int .i64 k), (.int .i64 n), (.int .i64 o)] W fun e w' => e = .returned (.bool true) ∧ Below W.heap.size W w' := by
  go_enter Try.func6, Try.ntmps6
  go_wp2_with fail
  refine (S1.out _).mono ?_
  rintro e w1 ⟨rfl, hb⟩
  have HB1 : Hid (Below W.heap.size W w1) := Lib.hid (below_then (by repeat (first | exact (Below.refl _ _) | apply below_new | refine below_draws ?_ _)) hb)
  clear hb
  go_wp2_with fail
  refine (S2.out _).mono ?_
  rintro e w2 ⟨rfl, hb⟩
  have HB2 : Hid (Below W.heap.size W w2) := Lib.hid (below_then (by repeat (first | exact HB1.out | apply below_new | refine below_draws ?_ _)) hb)
  clear hb HB1
  go_wp2_with fail
  refine (fixed_true _).mono ?_
  rintro e w3 ⟨rfl, hb⟩
  have HB3 : Hid (Below W.heap.size W w3) := Lib.hid (below_then (by repeat (first | exact HB2.out | apply below_new | refine below_draws ?_ _)) hb)
  clear hb HB2
  go_wp2_with fail
  go_ret
  exact ⟨rfl, (by repeat (first | exact HB3.out | apply below_new | refine below_draws ?_ _))⟩

set_option maxRecDepth 100000 in
set_option maxHeartbeats 3200000 in
theorem untypedSizes_x1 (k n o a ec b f : Int) (S1 : Hid (∀ w : World, Calls Try.prog 12 #[.int .i64 k, .int .i64 n] w fun e w' => e = .returned (.tuple #[.int .i64 0, .int .i64 ec]) ∧ Below w.heap.size w w')) (S2 : Hid (∀ w : World, Calls Try.prog 12 #[.int .i64 k, .int .i64 o] w fun e w' => e = .returned (.tuple #[.int .i64 0, .int .i64 ec]) ∧ Below w.heap.size w w')) (h1 : (k != 1) = true) (h2 : (k != 2) = true) (he : (ec != 0) = true) (W : World) :
    Calls Try.prog 6 #[(.int .i64 k), (.int .i64 n), (.int .i64 o)] W fun e w' => e = .returned (.bool true) ∧ Below W.heap.size W w' := by
  go_enter Try.func6, Try.ntmps6
  go_wp2_with fail
  refine (S1.out _).mono ?_
  rintro e w1 ⟨rfl, hb⟩
  have HB1 : Hid (Below W.heap.size W w1) := Lib.hid (below_then (by repeat (first | exact (Below.refl _ _) | apply below_new | refine below_draws ?_ _)) hb)
  clear hb
  go_wp2_with fail
  refine (S2.out _).mono ?_
  rintro e w2 ⟨rfl, hb⟩
  have HB2 : Hid (Below W.heap.size W w2) := Lib.hid (below_then (by repeat (first | exact HB1.out | apply below_new | refine below_draws ?_ _)) hb)
  clear hb HB1
  go_wp2_with fail
  refine (fixed_true _).mono ?_
  rintro e w3 ⟨rfl, hb⟩
  have HB3 : Hid (Below W.heap.size W w3) := Lib.hid (below_then (by repeat (first | exact HB2.out | apply below_new | refine below_draws ?_ _)) hb)
  clear hb HB2
  go_wp2_with fail
  go_ret
  exact ⟨rfl, (by repeat (first | exact HB3.out | apply below_new | refine below_draws ?_ _))⟩

set_option maxRecDepth 100000 in
set_option maxHeartbeats 3200000 in
theorem untypedSizes_y0 (k n o a ec b f : Int) (S1 : Hid (∀ w : World, Calls Try.prog 12 #[.int .i64 k, .int .i64 n] w fun e w' => e = .returned (.tuple #[.int .i64 a, .int .i64 0]) ∧ Below w.heap.size w w')) (S2 : Hid (∀ w : World, Calls Try.prog 12 #[.int .i64 k, .int .i64 o] w fun e w' => e = .returned (.tuple #[.int .i64 b, .int .i64 f]) ∧ Below w.heap.size w w')) (h1 : (k != 1) = false) (ha : 2 ≤ a) (hb : a ≤ 20) (W : World) :
    Calls Try.prog 6 #[(.int .i64 k), (.int .i64 n), (.int .i64 o)] W fun e w' => e = .returned (.bool true) ∧ Below W.heap.size W w' := by
  go_enter Try.func6, Try.ntmps6
  go_wp2_with fail
  refine (S1.out _).mono ?_
  rintro e w1 ⟨rfl, hb⟩
  have HB1 : Hid (Below W.heap.size W w1) := Lib.hid (below_then (by repeat (first | exact (Below.refl _ _) | apply below_new | refine below_draws ?_ _)) hb)
  clear hb
  go_wp2_with fail
  refine (S2.out _).mono ?_
  rintro e w2 ⟨rfl, hb⟩
  have HB2 : Hid (Below W.heap.size W w2) := Lib.hid (below_then (by repeat (first | exact HB1.out | apply below_new | refine below_draws ?_ _)) hb)
  clear hb HB1
  go_wp2_with fail
  refine (fixed_true _).mono ?_
  rintro e w3 ⟨rfl, hb⟩
  have HB3 : Hid (Below W.heap.size W w3) := Lib.hid (below_then (by repeat (first | exact HB2.out | apply below_new | refine below_draws ?_ _)) hb)
  clear hb HB2
  go_wp2_with fail
  go_ret
  exact ⟨rfl, (by repeat (first | exact HB3.out | apply below_new | refine below_draws ?_ _))⟩

set_option maxRecDepth 100000 in
set_option maxHeartbeats 3200000 in
theorem untypedSizes_y1 (k n o a ec b f : Int) (S1 : Hid (∀ w : World, Calls Try.prog 12 #[.int .i64 k, .int .i64 n] w fun e w' => e = .returned (.tuple #[.int .i64 0, .int .i64 ec]) ∧ Below w.heap.size w w')) (S2 : Hid (∀ w : World, Calls Try.prog 12 #[.int .i64 k, .int .i64 o] w fun e w' => e = .returned (.tuple #[.int .i64 b, .int .i64 f]) ∧ Below w.heap.size w w')) (h1 : (k != 1) = false) (he : (ec != 0) = true) (W : World) :
    Calls Try.prog 6 #[(.int .i64 k), (.int .i64 n), (.int .i64 o)] W fun e w' => e = .returned (.bool true) ∧ Below W.heap.size W w' := by
  go_enter Try.func6, Try.ntmps6
  go_wp2_with fail
  refine (S1.out _).mono ?_
  rintro e w1 ⟨rfl, hb⟩
  have HB1 : Hid (Below W.heap.size W w1) := Lib.hid (below_then (by repeat (first | exact (Below.refl _ _) | apply below_new | refine below_draws ?_ _)) hb)
  clear hb
  go_wp2_with fail
  refine (S2.out _).mono ?_
  rintro e w2 ⟨rfl, hb⟩
  have HB2 : Hid (Below W.heap.size W w2) := Lib.hid (below_then (by repeat (first | exact HB1.out | apply below_new | refine below_draws ?_ _)) hb)
  clear hb HB1
  go_wp2_with fail
  refine (fixed_true _).mono ?_
  rintro e w3 ⟨rfl, hb⟩
  have HB3 : Hid (Below W.heap.size W w3) := Lib.hid (below_then (by repeat (first | exact HB2.out | apply below_new | refine below_draws ?_ _)) hb)
  clear hb HB2
  go_wp2_with fail
  go_ret
  exact ⟨rfl, (by repeat (first | exact HB3.out | apply below_new | refine below_draws ?_ _))⟩

set_option maxRecDepth 100000 in
set_option maxHeartbeats 3200000 in
theorem untypedSizes_z0 (k n o a ec b f : Int) (S1 : Hid (∀ w : World, Calls Try.prog 12 #[.int .i64 k, .int .i64 n] w fun e w' => e = .returned (.tuple #[.int .i64 a, .int .i64 0]) ∧ Below w.heap.size w w')) (S2 : Hid (∀ w : World, Calls Try.prog 12 #[.int .i64 k, .int .i64 o] w fun e w' => e = .returned (.tuple #[.int .i64 b, .int .i64 f]) ∧ Below w.heap.size w w')) (h1 : (k != 1) = true) (h2 : (k != 2) = false) (ha : 2 ≤ a) (hb : a ≤ 20) (W : World) :
    Calls Try.prog 6 #[(.int .i64 k), (.int .i64 n), (.int .i64 o)] W fun e w' => e = .returned (.bool true) ∧ Below W.heap.size W w' := by
  go_enter Try.func6, Try.ntmps6
  go_wp2_with fail
  refine (S1.out _).mono ?_
  rintro e w1 ⟨rfl, hb⟩
  have HB1 : Hid (Below W.heap.size W w1) := Lib.hid (below_then (by repeat (first | exact (Below.refl _ _) | apply below_new | refine below_draws ?_ _)) hb)
  clear hb
  go_wp2_with fail
  refine (S2.out _).mono ?_
  rintro e w2 ⟨rfl, hb⟩
  have HB2 : Hid (Below W.heap.size W w2) := Lib.hid (below_then (by repeat (first | exact HB1.out | apply below_new | refine below_draws ?_ _)) hb)
  clear hb HB1
  go_wp2_with fail
  refine (fixed_true _).mono ?_
  rintro e w3 ⟨rfl, hb⟩
  have HB3 : Hid (Below W.heap.size W w3) := Lib.hid (below_then (by repeat (first | exact HB2.out | apply below_new | refine below_draws ?_ _)) hb)
  clear hb HB2
  go_wp2_with fail
  go_ret
  exact ⟨rfl, (by repeat (first | exact HB3.out | apply below_new | refine below_draws ?_ _))⟩

set_option maxRecDepth 100000 in
set_option maxHeartbeats 3200000 in
theorem untypedSizes_z1 (k n o a ec b f : Int) (S1 : Hid (∀ w : World, Calls Try.prog 12 #[.int .i64 k, .int .i64 n] w fun e w' => e = .returned (.tuple #[.int .i64 0, .int .i64 ec]) ∧ Below w.heap.size w w')) (S2 : Hid (∀ w : World, Calls Try.prog 12 #[.int .i64 k, .int .i64 o] w fun e w' => e = .returned (.tuple #[.int .i64 b, .int .i64 f]) ∧ Below w.heap.size w w')) (h1 : (k != 1) = true) (h2 : (k != 2) = false) (he : (ec != 0) = true) (W : World) :
    Calls Try.prog 6 #[(.int .i64 k), (.int .i64 n), (.int .i64 o)] W fun e w' => e = .returned (.bool true) ∧ Below W.heap.size W w' := by
  go_enter Try.func6, Try.ntmps6
  go_wp2_with fail
  refine (S1.out _).mono ?_
  rintro e w1 ⟨rfl, hb⟩
  have HB1 : Hid (Below W.heap.size W w1) := Lib.hid (below_then (by repeat (first | exact (Below.refl _ _) | apply below_new | refine below_draws ?_ _)) hb)
  clear hb
  go_wp2_with fail
  refine (S2.out _).mono ?_
  rintro e w2 ⟨rfl, hb⟩
  have HB2 : Hid (Below W.heap.size W w2) := Lib.hid (below_then (by repeat (first | exact HB1.out | apply below_new | refine below_draws ?_ _)) hb)
  clear hb HB1
  go_wp2_with fail
  refine (fixed_true _).mono ?_
  rintro e w3 ⟨rfl, hb⟩
  have HB3 : Hid (Below W.heap.size W w3) := Lib.hid (below_then (by repeat (first | exact HB2.out | apply below_new | refine below_draws ?_ _)) hb)
  clear hb HB2
  go_wp2_with fail
  go_ret
  exact ⟨rfl, (by repeat (first | exact HB3.out | apply below_new | refine below_draws ?_ _))⟩

theorem size_free {k n o : Int} (h1 : k ≠ 1) (h2 : k ≠ 2) : sizeU k n = sizeU k o := by simp [sizeU, h1, h2]
theorem size_err {k n : Int} (h : (sizeU k n).2 ≠ 0) : (sizeU k n).1 = 0 := by
  unfold sizeU at *
  repeat' split at *
  all_goals simp_all
theorem untypedSizes_walk (k n o : Int) (W : World) :
    Calls Try.prog 6 #[(.int .i64 k), (.int .i64 n), (.int .i64 o)] W fun e w' => e = .returned (.bool true) ∧ Below W.heap.size W w' := by
  have S2 : Hid (∀ w : World, Calls Try.prog 12 #[.int .i64 k, .int .i64 o] w fun e w' => e = .returned (.tuple #[.int .i64 (sizeU k o).1, .int .i64 (sizeU k o).2]) ∧ Below w.heap.size w w') := Lib.hid (fun w => size_any k o w)
  by_cases he : (sizeU k n).2 = 0
  · obtain ⟨g1, g2⟩ := size_in he
    have S1 : Hid (∀ w : World, Calls Try.prog 12 #[.int .i64 k, .int .i64 n] w fun e w' => e = .returned (.tuple #[.int .i64 (sizeU k n).1, .int .i64 0]) ∧ Below w.heap.size w w') := Lib.hid (fun w => by
      have h := size_any k n w
      rw [he] at h
      exact h)
    by_cases k1 : k = 1
    · exact untypedSizes_y0 k n o _ 0 _ _ S1 S2 (by simp [k1]) g1 g2 W
    · by_cases k2 : k = 2
      · exact untypedSizes_z0 k n o _ 0 _ _ S1 S2 (by simpa using k1) (by simp [k2]) g1 g2 W
      · rw [← size_free (n := n) k1 k2, he] at S2
        exact untypedSizes_x0 k n o _ 0 0 0 S1 S2 (by simpa using k1) (by simpa using k2) g1 g2 W
  · have S1 : Hid (∀ w : World, Calls Try.prog 12 #[.int .i64 k, .int .i64 n] w fun e w' => e = .returned (.tuple #[.int .i64 0, .int .i64 (sizeU k n).2]) ∧ Below w.heap.size w w') := Lib.hid (fun w => by
      have h := size_any k n w
      rw [size_err he] at h
      exact h)
    have he' : ((sizeU k n).2 != 0) = true := by simpa using he
    by_cases k1 : k = 1
    · exact untypedSizes_y1 k n o 0 _ _ _ S1 S2 (by simp [k1]) he' W
    · by_cases k2 : k = 2
      · exact untypedSizes_z1 k n o 0 _ _ _ S1 S2 (by simpa using k1) (by simp [k2]) he' W
      · rw [← size_free (n := n) k1 k2, size_err he] at S2
        exact untypedSizes_x1 k n o 0 _ 0 0 S1 S2 (by simpa using k1) (by simpa using k2) he' W


set_option maxRecDepth 100000 in
theorem untypedSizes_lifted (os : Os) (started : os.Started) (H : Type) (enc : TypeId × Value → H) :
    ReturnsInHanded {} Try.checked os 6 .any (Rows.untypedSizesSpec.pre6 enc Try.prog Try.f6 Rows.untypedSizesRow.domain false) (Rows.untypedSizesSpec.post enc Try.prog Try.f6 false true false false) := by
  refine returnsInHanded_of_change (C := Try.checked) own_knob started (by kernel_rfl) Try.func6
    (ChangeSpec.witness6 (enc := enc) (C := Try.checked) false ⟨#[], #[.int .i64 0, .int .i64 0, .int .i64 0], []⟩ 8 (by kernel_rfl) (by kernel_rfl) (by kernel_rfl) (by kernel_rfl)) ?_
  intro W base args ds gs before hval0 hW hcnd _
  have hval : ∀ (j : Nat) t v, Try.f6.params[j]? = some t → args[j]? = some v → Value.okWide Try.prog W .any base t v := hval0
  have hW' := hW
  obtain ⟨p, q, hA0, hV, rfl, hfz, hnd⟩ := hW
  have hA : DataW.TrodAll enc Try.prog W 0 (fun _ => true) true Try.f6.params.toList args.toList ds p := hA0
  rw [Try.params6] at hA hval
  obtain ⟨v0, v1, v2, d0, d1, d2, p0, p1, p2, rfl, rfl, rfl, h0, h1, h2⟩ := trodAll_three hA
  obtain ⟨rfl, rfl⟩ := trodVars_none hV
  clear hA0 hval0
  simp only [List.append_nil] at hW'
  have hlt : ∀ x ∈ p0 ++ p1 ++ p2, x.block < W.heap.size := fun x hx => by simpa using hW'.lt x hx
  have g0 : ∀ W' : World, Below W.heap.size W W' → DataW.Trod enc Try.prog W' 0 (fun b => decide (b < W.heap.size)) true 3 v0 d0 p0 :=
    fun W' hn => Below.trod laid_out (by kernel_rfl) (of_decide_eq_true (by kernel_rfl)) h0 hn (fun x hx => hlt x (by simp [hx]))
  have g1 : ∀ W' : World, Below W.heap.size W W' → DataW.Trod enc Try.prog W' 0 (fun b => decide (b < W.heap.size)) true 3 v1 d1 p1 :=
    fun W' hn => Below.trod laid_out (by kernel_rfl) (of_decide_eq_true (by kernel_rfl)) h1 hn (fun x hx => hlt x (by simp [hx]))
  have g2 : ∀ W' : World, Below W.heap.size W W' → DataW.Trod enc Try.prog W' 0 (fun b => decide (b < W.heap.size)) true 3 v2 d2 p2 :=
    fun W' hn => Below.trod laid_out (by kernel_rfl) (of_decide_eq_true (by kernel_rfl)) h2 hn (fun x hx => hlt x (by simp [hx]))
  obtain ⟨k, rfl, _, _, w0⟩ := open_int Try.underlying3 (hval 0 3 v0 rfl rfl) h0
  have l0 := int_of_wf w0
  obtain ⟨n, rfl, _, _, w1⟩ := open_int Try.underlying3 (hval 1 3 v1 rfl rfl) h1
  have l1 := int_of_wf w1
  obtain ⟨o, rfl, _, _, w2⟩ := open_int Try.underlying3 (hval 2 3 v2 rfl rfl) h2
  have l2 := int_of_wf w2
  refine (untypedSizes_walk k n o W).mono fun e W' ⟨he, hn⟩ => ?_
  subst he
  exact ⟨_, rfl, _, _, _, [], p0 ++ p1 ++ p2, [], hW', trodAll_mk1 (shut_bool Try.underlying4 true), (by rw [List.append_assoc p0 p1 p2]; exact trodAll_mk3 (g0 W' hn) (g1 W' hn) (g2 W' hn)), rfl, hn.frame _, fun h => by cases h⟩

theorem untypedSizes_holds : Rows.UntypedSizesSaid :=
  OpenClaim.holds_of_wide 6 Try.f6 rfl rfl rfl rfl rfl rfl rfl ⟨rfl, rfl, rfl, rfl, rfl⟩ rfl rfl rfl rfl rfl (by kernel_rfl) Try.func6 (by kernel_rfl)
    (of_decide_eq_true (by kernel_rfl)) (by unfold Func.isWrapper; first | (rw [if_pos (by decide +kernel)]; kernel_rfl) | (rw [if_neg (by decide +kernel)]; exact ⟨rfl, rfl⟩))
    (fun os started H enc _ => untypedSizes_lifted os started H enc)
#print axioms untypedSizes_holds
end Go.Proofs.Ytbgcgbelejmjiaa
