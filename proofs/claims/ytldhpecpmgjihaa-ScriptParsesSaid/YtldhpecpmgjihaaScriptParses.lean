/- The items of any bytes, for any many cores, is as the document says: for every input, no condition. -/
import Derived.Test.YtldhpecpmgjihaaScfixed
import Derived.Test.YtldhpecpmgjihaaScframe
import Derived.Test.YtldhpecpmgjihaaScrparse
set_option linter.unusedVariables false
set_option linter.unusedSimpArgs false

namespace Go.Proofs.Ytldhpecpmgjihaa
open Go.ChangeShapes Go.WideShapes Go.ChangeAt Go.RowKit Go.Joins Sc

theorem same_self (v1 v2 : Value) (l : List It) (hl : l.length ≤ 1000000) (w : World) (h1 : SlIt w v1 l) (h2 : SlIt w v2 l) : Calls Try.prog 11 #[v1, v2] w fun e w' => e = .returned (.bool true) ∧ Below w.heap.size w w' := by
  have h := same_any v1 v2 l l hl w h1 h2
  rw [decide_eq_true rfl] at h
  exact h
set_option maxRecDepth 100000 in
set_option maxHeartbeats 6400000 in
theorem scriptParses_x (s : ByteArray) (c : Int) (l : List It) (ht : s.size ≤ 400) (hl : l.length ≤ 1000000) (P1 : Hid (∀ w : World, Calls Try.prog 12 #[.string s, .int .i64 c] w fun e w' => ∃ v, e = .returned v ∧ SlIt w' v l ∧ Below w.heap.size w w')) (P2 : Hid (∀ w : World, Calls Try.prog 13 #[.string s, .int .i64 c] w fun e w' => ∃ v, e = .returned v ∧ SlIt w' v l ∧ Below w.heap.size w w')) (W : World) :
    Calls Try.prog 3 #[.string s, .int .i64 c] W fun e w' => e = .returned (.bool true) ∧ Below W.heap.size W w' := by
  have h' : (s.size : Int) ≤ 400 := by omega
  go_enter Try.func3, Try.ntmps3
  go_wp2_with fail
  refine (fixed_true _).mono ?_
  rintro e w1 ⟨rfl, hb⟩
  have HB1 := Lib.hid hb
  clear hb
  go_wp2_with fail
  refine (P1.out _).mono ?_
  rintro e w2 ⟨v2, rfl, hs2, hb⟩
  have HB2 := Lib.hid (below_from HB1.out hb)
  have HS2 := Lib.hid hs2
  clear hb hs2
  go_wp2_with fail
  refine (P2.out _).mono ?_
  rintro e w3 ⟨v3, rfl, hs3, hb⟩
  have HB3 := Lib.hid (below_from HB2.out hb)
  have HS3 := Lib.hid hs3
  have HS2' := Lib.hid (HS2.out.keep hb)
  clear hb hs3
  go_wp2_with fail
  refine (same_self _ _ l hl _ HS2'.out HS3.out).mono ?_
  rintro e w4 ⟨rfl, hb⟩
  have HB4 := Lib.hid (below_from HB3.out hb)
  clear hb
  go_wp2_with fail
  go_ret
  exact ⟨rfl, HB4.out⟩

set_option maxRecDepth 100000 in
set_option maxHeartbeats 6400000 in
theorem scriptParses_y (s t : ByteArray) (hs : 400 < s.size) (hq : s.extract 0 400 = t) (c : Int) (l : List It) (ht : t.size ≤ 400) (hl : l.length ≤ 1000000) (P1 : Hid (∀ w : World, Calls Try.prog 12 #[.string t, .int .i64 c] w fun e w' => ∃ v, e = .returned v ∧ SlIt w' v l ∧ Below w.heap.size w w')) (P2 : Hid (∀ w : World, Calls Try.prog 13 #[.string t, .int .i64 c] w fun e w' => ∃ v, e = .returned v ∧ SlIt w' v l ∧ Below w.heap.size w w')) (W : World) :
    Calls Try.prog 3 #[.string s, .int .i64 c] W fun e w' => e = .returned (.bool true) ∧ Below W.heap.size W w' := by
  have h' : (400 : Int) < (s.size : Int) := by omega
  go_enter Try.func3, Try.ntmps3
  go_wp2_with fail
  refine (fixed_true _).mono ?_
  rintro e w1 ⟨rfl, hb⟩
  have HB1 := Lib.hid hb
  clear hb
  go_wp2_with fail
  refine (P1.out _).mono ?_
  rintro e w2 ⟨v2, rfl, hs2, hb⟩
  have HB2 := Lib.hid (below_from HB1.out hb)
  have HS2 := Lib.hid hs2
  clear hb hs2
  go_wp2_with fail
  refine (P2.out _).mono ?_
  rintro e w3 ⟨v3, rfl, hs3, hb⟩
  have HB3 := Lib.hid (below_from HB2.out hb)
  have HS3 := Lib.hid hs3
  have HS2' := Lib.hid (HS2.out.keep hb)
  clear hb hs3
  go_wp2_with fail
  refine (same_self _ _ l hl _ HS2'.out HS3.out).mono ?_
  rintro e w4 ⟨rfl, hb⟩
  have HB4 := Lib.hid (below_from HB3.out hb)
  clear hb
  go_wp2_with fail
  go_ret
  exact ⟨rfl, HB4.out⟩

theorem scriptParses_walk (s : ByteArray) (c : Int) (W : World) :
    Calls Try.prog 3 #[.string s, .int .i64 c] W fun e w' => e = .returned (.bool true) ∧ Below W.heap.size W w' := by
  by_cases hs : s.size ≤ 400
  · exact scriptParses_x s c (parseL s c) hs (by have := parseL_len s c; omega) (Lib.hid (fun w => parse_any s c (by omega) w)) (Lib.hid (fun w => rparse_any s c (by omega) w)) W
  · obtain ⟨t, ht⟩ : ∃ t, s.extract 0 400 = t := ⟨_, rfl⟩
    have hz : t.size ≤ 400 := by rw [← ht, ByteArray.size_extract]; omega
    exact scriptParses_y s t (by omega) ht c (parseL t c) hz (by have := parseL_len t c; omega) (Lib.hid (fun w => parse_any t c (by omega) w)) (Lib.hid (fun w => rparse_any t c (by omega) w)) W


set_option maxRecDepth 100000 in
theorem scriptParses_lifted (os : Os) (started : os.Started) (H : Type) (enc : TypeId × Value → H) :
    ReturnsInHanded {} Try.checked os 3 .any (Rows.scriptParsesSpec.pre6 enc Try.prog Try.f3 Rows.scriptParsesRow.domain false) (Rows.scriptParsesSpec.post enc Try.prog Try.f3 false true false false) := by
  refine returnsInHanded_of_change (C := Try.checked) own_knob started (by kernel_rfl) Try.func3
    (ChangeSpec.witness6 (enc := enc) (C := Try.checked) false ⟨#[], #[.string .empty, .int .i64 0], []⟩ 8 (by kernel_rfl) (by kernel_rfl) (by kernel_rfl) (by kernel_rfl)) ?_
  intro W base args ds gs before hval0 hW hcnd _
  have hval : ∀ (j : Nat) t v, Try.f3.params[j]? = some t → args[j]? = some v → Value.okWide Try.prog W .any base t v := hval0
  have hW' := hW
  obtain ⟨p, q, hA0, hV, rfl, hfz, hnd⟩ := hW
  have hA : DataW.TrodAll enc Try.prog W 0 (fun _ => true) true Try.f3.params.toList args.toList ds p := hA0
  rw [Try.params3] at hA hval
  obtain ⟨v0, v1, d0, d1, p0, p1, rfl, rfl, rfl, h0, h1⟩ := trodAll_two hA
  obtain ⟨rfl, rfl⟩ := trodVars_none hV
  clear hA0 hval0
  simp only [List.append_nil] at hW'
  have hlt : ∀ x ∈ p0 ++ p1, x.block < W.heap.size := fun x hx => by simpa using hW'.lt x hx
  have g0 : ∀ W' : World, Below W.heap.size W W' → DataW.Trod enc Try.prog W' 0 (fun b => decide (b < W.heap.size)) true 9 v0 d0 p0 :=
    fun W' hn => Below.trod laid_out (by kernel_rfl) (of_decide_eq_true (by kernel_rfl)) h0 hn (fun x hx => hlt x (by simp [hx]))
  have g1 : ∀ W' : World, Below W.heap.size W W' → DataW.Trod enc Try.prog W' 0 (fun b => decide (b < W.heap.size)) true 3 v1 d1 p1 :=
    fun W' hn => Below.trod laid_out (by kernel_rfl) (of_decide_eq_true (by kernel_rfl)) h1 hn (fun x hx => hlt x (by simp [hx]))
  obtain ⟨s, rfl, _, _, l0⟩ := Go.ChangeMaps.open_string Try.underlying9 (hval 0 9 v0 rfl rfl) h0
  obtain ⟨c, rfl, _, _, w1⟩ := open_int Try.underlying3 (hval 1 3 v1 rfl rfl) h1
  have l1 := int_of_wf w1
  refine (scriptParses_walk s c W).mono fun e W' ⟨he, hn⟩ => ?_
  subst he
  exact ⟨_, rfl, _, _, _, [], p0 ++ p1, [], hW', trodAll_mk1 (shut_bool Try.underlying4 true), (trodAll_mk2 (g0 W' hn) (g1 W' hn)), rfl, hn.frame _, fun h => by cases h⟩

theorem scriptParses_holds : Rows.ScriptParsesSaid :=
  OpenClaim.holds_of_wide 3 Try.f3 rfl rfl rfl rfl rfl rfl rfl ⟨rfl, rfl, rfl, rfl, rfl⟩ rfl rfl rfl rfl rfl (by kernel_rfl) Try.func3 (by kernel_rfl)
    (of_decide_eq_true (by kernel_rfl)) (by unfold Func.isWrapper; first | (rw [if_pos (by decide +kernel)]; kernel_rfl) | (rw [if_neg (by decide +kernel)]; exact ⟨rfl, rfl⟩))
    (fun os started H enc _ => scriptParses_lifted os started H enc)
#print axioms scriptParses_holds
end Go.Proofs.Ytldhpecpmgjihaa
