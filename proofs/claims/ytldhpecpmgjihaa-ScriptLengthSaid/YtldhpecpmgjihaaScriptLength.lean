/- No more is parsed than each four bytes an item; printed it has four bytes each: for every input, no condition. -/
import Derived.Test.YtldhpecpmgjihaaScfixed
import Derived.Test.YtldhpecpmgjihaaScframe
import Derived.Test.YtldhpecpmgjihaaSccut
set_option linter.unusedVariables false
set_option linter.unusedSimpArgs false

namespace Go.Proofs.Ytldhpecpmgjihaa
open Go.ChangeShapes Go.WideShapes Go.ChangeAt Go.RowKit Go.Joins Sc

theorem same_self (v1 v2 : Value) (l : List It) (hl : l.length ≤ 1000000) (w : World) (h1 : SlIt w v1 l) (h2 : SlIt w v2 l) : Calls Try.prog 11 #[v1, v2] w fun e w' => e = .returned (.bool true) ∧ Below w.heap.size w w' := by
  have h := same_any v1 v2 l l hl w h1 h2
  rw [decide_eq_true rfl] at h
  exact h
theorem right_get (t : ByteArray) (c : Int) : ∀ j, j < (parseL t c).length → rightU ((parseL t c).getD j Sc.zero) c = true := fun j hj => by
  rw [List.getD_eq_getElem?_getD, List.getElem?_eq_getElem hj]
  exact parse_right t c _ _ (List.getElem_mem hj)
theorem parseL_cut (t : ByteArray) (c : Int) : parseL (cutS t (t.size / 4 * 4)) c = parseL t c := by
  unfold parseL
  rw [cut_size, show min (t.size / 4 * 4) t.size = t.size / 4 * 4 by omega, Nat.mul_div_cancel _ (by decide : 0 < 4)]
  exact parse_cut t c _ _ (by omega)
theorem printed_size (t : ByteArray) (c : Int) : (⟨(printL (parseL t c) c).toArray⟩ : ByteArray).size = 4 * (parseL t c).length := by
  have h := print_all (fun j => (parseL t c).getD j Sc.zero) c (parseL t c).length (right_get t c)
  show (printL (parseL t c) c).toArray.size = _
  rw [List.size_toArray]
  exact h
set_option maxRecDepth 100000 in
set_option maxHeartbeats 6400000 in
theorem scriptLength_x (s : ByteArray) (c : Int) (n q : Nat) (l : List It) (p u : ByteArray) (ht : s.size ≤ 400) (hn : l.length = n) (hq4 : (s.size : Int) / 4 = (q : Int)) (hnq : n ≤ q) (hqt : q * 4 ≤ s.size) (hu : s.extract 0 (q * 4) = u) (hp : p.size = 4 * n) (hr : Hid (∀ j, j < n → rightU (l.getD j Sc.zero) c = true)) (P1 : Hid (∀ w : World, Calls Try.prog 12 #[.string s, .int .i64 c] w fun e w' => ∃ v, e = .returned v ∧ SlIt w' v l ∧ Below w.heap.size w w')) (PR1 : Hid (∀ (v : Value) (w : World), SlIt w v l → Calls Try.prog 16 #[v, .int .i64 c] w fun e w' => e = .returned (.string p) ∧ Below w.heap.size w w')) (P2 : Hid (∀ w : World, Calls Try.prog 12 #[.string u, .int .i64 c] w fun e w' => ∃ v, e = .returned v ∧ SlIt w' v l ∧ Below w.heap.size w w')) (W : World) :
    Calls Try.prog 7 #[.string s, .int .i64 c] W fun e w' => e = .returned (.bool true) ∧ Below W.heap.size W w' := by
  have h' : (s.size : Int) ≤ 400 := by omega
  have hp' : (p.size : Int) = 4 * (n : Int) := by omega
  have hnq' : (n : Int) ≤ (q : Int) := by omega
  have hqt' : (q : Int) * 4 ≤ (s.size : Int) := by omega
  go_enter Try.func7, Try.ntmps7
  go_wp2_with fail
  refine (P1.out _).mono ?_
  rintro e w1 ⟨v1, rfl, hs1, hb1⟩
  have HS1 := Lib.hid hs1
  have HB1 := Lib.hid hb1
  clear hs1 hb1
  obtain ⟨ao, cap, hv, hcells⟩ := HS1.out
  rw [hn] at hv
  subst hv
  have HCL := Lib.hid hcells
  clear hcells
  go_wp2_with fail
  refine (PR1.out _ _ HS1.out).mono ?_
  rintro e w2 ⟨rfl, hb⟩
  have HB2 := Lib.hid hb
  clear hb
  go_wp2_with fail
  go_loopw [7] (fun i wr => ∃ j : Nat, j ≤ n ∧ i = .int .i64 j ∧ Hid (Below w1.heap.size w1 wr)) (fun i _ => n - (intOf i).toNat)
  case atStart => exact ⟨0, Nat.zero_le _, rfl, HB2⟩
  case round =>
    obtain ⟨j, hj, rfl, hnx⟩ := hrel
    by_cases hlt : j < n
    · have hlt' : (j : Int) < (n : Int) := by omega
      have hj0 : (0 : Int) ≤ (j : Int) := by omega
      have hne : l ≠ [] := fun h => by rw [h] at hn; simp at hn; omega
      obtain ⟨g, o, hao, hg, hc⟩ := HCL.out hne
      subst hao
      obtain ⟨a0, a1, a2, a3⟩ := hc j (by omega)
      obtain ⟨x, hx⟩ : ∃ x, l.getD j Sc.zero = x := ⟨_, rfl⟩
      have hrx := hr.out j hlt
      rw [hx] at a0 a1 a2 a3 hrx
      have b0 := (hnx.out.cell (p := ⟨g, o + j * 4, none⟩) hg).trans a0
      have b1 := (hnx.out.cell (p := ⟨g, o + j * 4 + 1, none⟩) hg).trans a1
      have b2 := (hnx.out.cell (p := ⟨g, o + j * 4 + 2, none⟩) hg).trans a2
      have b3 := (hnx.out.cell (p := ⟨g, o + j * 4 + 3, none⟩) hg).trans a3
      have RC : Hid (∀ w : World, Calls Try.prog 14 #[(.agg #[.int .i64 x.k, .int .i64 x.c, .int .i64 x.a, .int .i64 x.b]), .int .i64 c] w fun e w' => e = .returned (.bool true) ∧ Below w.heap.size w w') := Lib.hid (fun w => by
        have h := right_any x c w
        rw [hrx] at h
        exact h)
      clear a0 a1 a2 a3 hc hx hrx hne
      go_wp2_with fail
      refine (RC.out _).mono ?_
      rintro e w3 ⟨rfl, hb⟩
      have HB3 := Lib.hid (below_from hnx.out hb)
      clear hb b0 b1 b2 b3
      go_wp2_with fail
      go_roundw
      case rel => exact ⟨j + 1, by omega, by go_num, HB3⟩
      case measure => simp [intOf]; omega
    · have hje : j = n := by omega
      subst hje
      have hnl : ¬ (j : Int) < (j : Int) := by omega
      have HS2 : Hid (SlIt wr (.slice ao j cap) l) := Lib.hid (HS1.out.keep hnx.out)
      go_wp2_with fail
      refine (P2.out _).mono ?_
      rintro e w3 ⟨v3, rfl, hs3, hb⟩
      have HB3 := Lib.hid (below_from hnx.out hb)
      have HS3 := Lib.hid hs3
      have HS4 := Lib.hid (HS2.out.keep hb)
      clear hb hs3
      go_wp2_with fail
      refine (same_self _ _ l (by omega) _ HS3.out HS4.out).mono ?_
      rintro e w4 ⟨rfl, hb⟩
      have HB4 := Lib.hid (below_from HB3.out hb)
      clear hb
      go_wp2_with fail
      refine (fixed_true _).mono ?_
      rintro e w5 ⟨rfl, hb⟩
      have HB5 := Lib.hid (below_from HB1.out (below_from HB4.out hb))
      clear hb
      go_wp2_with fail
      go_ret
      exact ⟨rfl, HB5.out⟩

set_option maxRecDepth 100000 in
set_option maxHeartbeats 6400000 in
theorem scriptLength_y (s t : ByteArray) (hs : 400 < s.size) (hq : s.extract 0 400 = t) (c : Int) (n q : Nat) (l : List It) (p u : ByteArray) (ht : t.size ≤ 400) (hn : l.length = n) (hq4 : (t.size : Int) / 4 = (q : Int)) (hnq : n ≤ q) (hqt : q * 4 ≤ t.size) (hu : t.extract 0 (q * 4) = u) (hp : p.size = 4 * n) (hr : Hid (∀ j, j < n → rightU (l.getD j Sc.zero) c = true)) (P1 : Hid (∀ w : World, Calls Try.prog 12 #[.string t, .int .i64 c] w fun e w' => ∃ v, e = .returned v ∧ SlIt w' v l ∧ Below w.heap.size w w')) (PR1 : Hid (∀ (v : Value) (w : World), SlIt w v l → Calls Try.prog 16 #[v, .int .i64 c] w fun e w' => e = .returned (.string p) ∧ Below w.heap.size w w')) (P2 : Hid (∀ w : World, Calls Try.prog 12 #[.string u, .int .i64 c] w fun e w' => ∃ v, e = .returned v ∧ SlIt w' v l ∧ Below w.heap.size w w')) (W : World) :
    Calls Try.prog 7 #[.string s, .int .i64 c] W fun e w' => e = .returned (.bool true) ∧ Below W.heap.size W w' := by
  have h' : (400 : Int) < (s.size : Int) := by omega
  have hp' : (p.size : Int) = 4 * (n : Int) := by omega
  have hnq' : (n : Int) ≤ (q : Int) := by omega
  have hqt' : (q : Int) * 4 ≤ (t.size : Int) := by omega
  go_enter Try.func7, Try.ntmps7
  go_wp2_with fail
  refine (P1.out _).mono ?_
  rintro e w1 ⟨v1, rfl, hs1, hb1⟩
  have HS1 := Lib.hid hs1
  have HB1 := Lib.hid hb1
  clear hs1 hb1
  obtain ⟨ao, cap, hv, hcells⟩ := HS1.out
  rw [hn] at hv
  subst hv
  have HCL := Lib.hid hcells
  clear hcells
  go_wp2_with fail
  refine (PR1.out _ _ HS1.out).mono ?_
  rintro e w2 ⟨rfl, hb⟩
  have HB2 := Lib.hid hb
  clear hb
  go_wp2_with fail
  go_loopw [7] (fun i wr => ∃ j : Nat, j ≤ n ∧ i = .int .i64 j ∧ Hid (Below w1.heap.size w1 wr)) (fun i _ => n - (intOf i).toNat)
  case atStart => exact ⟨0, Nat.zero_le _, rfl, HB2⟩
  case round =>
    obtain ⟨j, hj, rfl, hnx⟩ := hrel
    by_cases hlt : j < n
    · have hlt' : (j : Int) < (n : Int) := by omega
      have hj0 : (0 : Int) ≤ (j : Int) := by omega
      have hne : l ≠ [] := fun h => by rw [h] at hn; simp at hn; omega
      obtain ⟨g, o, hao, hg, hc⟩ := HCL.out hne
      subst hao
      obtain ⟨a0, a1, a2, a3⟩ := hc j (by omega)
      obtain ⟨x, hx⟩ : ∃ x, l.getD j Sc.zero = x := ⟨_, rfl⟩
      have hrx := hr.out j hlt
      rw [hx] at a0 a1 a2 a3 hrx
      have b0 := (hnx.out.cell (p := ⟨g, o + j * 4, none⟩) hg).trans a0
      have b1 := (hnx.out.cell (p := ⟨g, o + j * 4 + 1, none⟩) hg).trans a1
      have b2 := (hnx.out.cell (p := ⟨g, o + j * 4 + 2, none⟩) hg).trans a2
      have b3 := (hnx.out.cell (p := ⟨g, o + j * 4 + 3, none⟩) hg).trans a3
      have RC : Hid (∀ w : World, Calls Try.prog 14 #[(.agg #[.int .i64 x.k, .int .i64 x.c, .int .i64 x.a, .int .i64 x.b]), .int .i64 c] w fun e w' => e = .returned (.bool true) ∧ Below w.heap.size w w') := Lib.hid (fun w => by
        have h := right_any x c w
        rw [hrx] at h
        exact h)
      clear a0 a1 a2 a3 hc hx hrx hne
      go_wp2_with fail
      refine (RC.out _).mono ?_
      rintro e w3 ⟨rfl, hb⟩
      have HB3 := Lib.hid (below_from hnx.out hb)
      clear hb b0 b1 b2 b3
      go_wp2_with fail
      go_roundw
      case rel => exact ⟨j + 1, by omega, by go_num, HB3⟩
      case measure => simp [intOf]; omega
    · have hje : j = n := by omega
      subst hje
      have hnl : ¬ (j : Int) < (j : Int) := by omega
      have HS2 : Hid (SlIt wr (.slice ao j cap) l) := Lib.hid (HS1.out.keep hnx.out)
      go_wp2_with fail
      refine (P2.out _).mono ?_
      rintro e w3 ⟨v3, rfl, hs3, hb⟩
      have HB3 := Lib.hid (below_from hnx.out hb)
      have HS3 := Lib.hid hs3
      have HS4 := Lib.hid (HS2.out.keep hb)
      clear hb hs3
      go_wp2_with fail
      refine (same_self _ _ l (by omega) _ HS3.out HS4.out).mono ?_
      rintro e w4 ⟨rfl, hb⟩
      have HB4 := Lib.hid (below_from HB3.out hb)
      clear hb
      go_wp2_with fail
      refine (fixed_true _).mono ?_
      rintro e w5 ⟨rfl, hb⟩
      have HB5 := Lib.hid (below_from HB1.out (below_from HB4.out hb))
      clear hb
      go_wp2_with fail
      go_ret
      exact ⟨rfl, HB5.out⟩

theorem scriptLength_walk (s : ByteArray) (c : Int) (W : World) :
    Calls Try.prog 7 #[.string s, .int .i64 c] W fun e w' => e = .returned (.bool true) ∧ Below W.heap.size W w' := by
  by_cases hs : s.size ≤ 400
  · exact scriptLength_x s c (parseL s c).length (s.size / 4) (parseL s c) _ _ hs rfl (by omega) (parseL_len s c) (by omega) rfl (printed_size s c) (Lib.hid (right_get s c)) (Lib.hid (fun w => parse_any s c (by omega) w)) (Lib.hid (fun v w h => print_any v (parseL s c) c (by have := parseL_len s c; omega) w h)) (Lib.hid (fun w => by
      have h := parse_any (cutS s (s.size / 4 * 4)) c (by rw [cut_size]; omega) w
      rw [parseL_cut] at h
      exact h)) W
  · obtain ⟨t, ht⟩ : ∃ t, s.extract 0 400 = t := ⟨_, rfl⟩
    have hz : t.size ≤ 400 := by rw [← ht, ByteArray.size_extract]; omega
    exact scriptLength_y s t (by omega) ht c (parseL t c).length (t.size / 4) (parseL t c) _ _ hz rfl (by omega) (parseL_len t c) (by omega) rfl (printed_size t c) (Lib.hid (right_get t c)) (Lib.hid (fun w => parse_any t c (by omega) w)) (Lib.hid (fun v w h => print_any v (parseL t c) c (by have := parseL_len t c; omega) w h)) (Lib.hid (fun w => by
      have h := parse_any (cutS t (t.size / 4 * 4)) c (by rw [cut_size]; omega) w
      rw [parseL_cut] at h
      exact h)) W


set_option maxRecDepth 100000 in
theorem scriptLength_lifted (os : Os) (started : os.Started) (H : Type) (enc : TypeId × Value → H) :
    ReturnsInHanded {} Try.checked os 7 .any (Rows.scriptLengthSpec.pre6 enc Try.prog Try.f7 Rows.scriptLengthRow.domain false) (Rows.scriptLengthSpec.post enc Try.prog Try.f7 false true false false) := by
  refine returnsInHanded_of_change (C := Try.checked) own_knob started (by kernel_rfl) Try.func7
    (ChangeSpec.witness6 (enc := enc) (C := Try.checked) false ⟨#[], #[.string .empty, .int .i64 0], []⟩ 8 (by kernel_rfl) (by kernel_rfl) (by kernel_rfl) (by kernel_rfl)) ?_
  intro W base args ds gs before hval0 hW hcnd _
  have hval : ∀ (j : Nat) t v, Try.f7.params[j]? = some t → args[j]? = some v → Value.okWide Try.prog W .any base t v := hval0
  have hW' := hW
  obtain ⟨p, q, hA0, hV, rfl, hfz, hnd⟩ := hW
  have hA : DataW.TrodAll enc Try.prog W 0 (fun _ => true) true Try.f7.params.toList args.toList ds p := hA0
  rw [Try.params7] at hA hval
  obtain ⟨v0, v1, d0, d1, p0, p1, rfl, rfl, rfl, h0, h1⟩ := trodAll_two hA
  obtain ⟨rfl, rfl⟩ := trodVars_none hV
  clear hA0 hval0
  simp only [List.append_nil] at hW'
  have hlt : ∀ x ∈ p0 ++ p1, x.block < W.heap.size := fun x hx => by simpa using hW'.lt x hx
  have g0 : ∀ W' : World, Below W.heap.size W W' → DataW.Trod enc Try.prog W' 0 (fun b => decide (b < W.heap.size)) true 9 v0 d0 p0 :=
    fun W' hn => Below.trod laid_out (by kernel_rfl) (of_decide_eq_true (by kernel_rfl)) h0 hn (fun x hx => hlt x (by simp [hx]))
  have g1 : ∀ W' : World, Below W.heap.size W W' → DataW.Trod enc Try.prog W' 0 (fun b => decide (b < W.heap.size)) true 3 v1 d1 p1 :=
    fun W' hn => Below.trod laid_out (by kernel_rfl) (of_decide_eq_true (by kernel_rfl)) h1 hn (fun x hx => hlt x (by simp [hx]))
  obtain ⟨s, rfl, _, _, l0⟩ := Go.ChangeMaps.open_string Try.underlying9 (hval 0 9 v0 rfl rfl) h0
  obtain ⟨c, rfl, _, _, w1⟩ := open_int Try.underlying3 (hval 1 3 v1 rfl rfl) h1
  have l1 := int_of_wf w1
  refine (scriptLength_walk s c W).mono fun e W' ⟨he, hn⟩ => ?_
  subst he
  exact ⟨_, rfl, _, _, _, [], p0 ++ p1, [], hW', trodAll_mk1 (shut_bool Try.underlying4 true), (trodAll_mk2 (g0 W' hn) (g1 W' hn)), rfl, hn.frame _, fun h => by cases h⟩

theorem scriptLength_holds : Rows.ScriptLengthSaid :=
  OpenClaim.holds_of_wide 7 Try.f7 rfl rfl rfl rfl rfl rfl rfl ⟨rfl, rfl, rfl, rfl, rfl⟩ rfl rfl rfl rfl rfl (by kernel_rfl) Try.func7 (by kernel_rfl)
    (of_decide_eq_true (by kernel_rfl)) (by unfold Func.isWrapper; first | (rw [if_pos (by decide +kernel)]; kernel_rfl) | (rw [if_neg (by decide +kernel)]; exact ⟨rfl, rfl⟩))
    (fun os started H enc _ => scriptLength_lifted os started H enc)
#print axioms scriptLength_holds
end Go.Proofs.Ytldhpecpmgjihaa
