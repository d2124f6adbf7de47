/- The bytes of any items, and whether any may be, is as the document says; what is handed in stays: for every input, no condition. -/
import Derived.Test.YtldhpecpmgjihaaScopen
import Derived.Test.YtldhpecpmgjihaaScplain
import Derived.Test.YtldhpecpmgjihaaScrprint
import Derived.Deep.RegionHeld3
set_option linter.unusedVariables false
set_option linter.unusedSimpArgs false

namespace Go.Proofs.Ytldhpecpmgjihaa
open Go.ChangeShapes Go.WideShapes Go.ChangeAt Go.RowKit Go.Joins Sc

theorem same_self (v1 v2 : Value) (l : List It) (hl : l.length ≤ 1000000) (w : World) (h1 : SlIt w v1 l) (h2 : SlIt w v2 l) : Calls Try.prog 11 #[v1, v2] w fun e w' => e = .returned (.bool true) ∧ Below w.heap.size w w' := by
  have h := same_any v1 v2 l l hl w h1 h2
  rw [decide_eq_true rfl] at h
  exact h
theorem keepP_drew {w1 w' : World} {g o j : Nat} {x : It} (h : Below w1.heap.size w1 w' ∧ w'.cell? ⟨g, o + j * 4, none⟩ = some (.int .i64 x.k) ∧ w'.cell? ⟨g, o + j * 4 + 1, none⟩ = some (.int .i64 x.c) ∧ w'.cell? ⟨g, o + j * 4 + 2, none⟩ = some (.int .i64 x.a) ∧ w'.cell? ⟨g, o + j * 4 + 3, none⟩ = some (.int .i64 x.b)) : Below w1.heap.size w1 w'.drew ∧ w'.drew.cell? ⟨g, o + j * 4, none⟩ = some (.int .i64 x.k) ∧ w'.drew.cell? ⟨g, o + j * 4 + 1, none⟩ = some (.int .i64 x.c) ∧ w'.drew.cell? ⟨g, o + j * 4 + 2, none⟩ = some (.int .i64 x.a) ∧ w'.drew.cell? ⟨g, o + j * 4 + 3, none⟩ = some (.int .i64 x.b) := ⟨h.1.drew, h.2⟩
theorem keepP_on {w1 w' w'' : World} {g o j : Nat} {x : It} (h : Below w1.heap.size w1 w' ∧ w'.cell? ⟨g, o + j * 4, none⟩ = some (.int .i64 x.k) ∧ w'.cell? ⟨g, o + j * 4 + 1, none⟩ = some (.int .i64 x.c) ∧ w'.cell? ⟨g, o + j * 4 + 2, none⟩ = some (.int .i64 x.a) ∧ w'.cell? ⟨g, o + j * 4 + 3, none⟩ = some (.int .i64 x.b)) (hb : Below w'.heap.size w' w'') : Below w1.heap.size w1 w'' ∧ w''.cell? ⟨g, o + j * 4, none⟩ = some (.int .i64 x.k) ∧ w''.cell? ⟨g, o + j * 4 + 1, none⟩ = some (.int .i64 x.c) ∧ w''.cell? ⟨g, o + j * 4 + 2, none⟩ = some (.int .i64 x.a) ∧ w''.cell? ⟨g, o + j * 4 + 3, none⟩ = some (.int .i64 x.b) := by
  obtain ⟨h0, q0, q1, q2, q3⟩ := h
  have key : ∀ {p : Addr} {v : Value}, w'.cell? p = some v → w''.cell? p = some v := fun h => (hb.cell (World.block_lt_of_cell? w' _ h)).trans h
  exact ⟨below_from h0 hb, key q0, key q1, key q2, key q3⟩
set_option maxRecDepth 100000 in
set_option maxHeartbeats 6400000 in
theorem scriptPrints_x (ao : Option Addr) (N cap : Nat) (l : List It) (c : Int) (hN : N ≤ 100) (hNc : N ≤ cap) (hlm : l.length = N) (p : ByteArray) (P1 : Hid (∀ (v : Value) (w : World), SlIt w v l → Calls Try.prog 16 #[v, .int .i64 c] w fun e w' => e = .returned (.string p) ∧ Below w.heap.size w w')) (P2 : Hid (∀ (v : Value) (w : World), SlIt w v l → Calls Try.prog 17 #[v, .int .i64 c] w fun e w' => e = .returned (.string p) ∧ Below w.heap.size w w')) (W : World) (HS : Hid (SlIt W (.slice ao N cap) l)) :
    Calls Try.prog 4 #[.slice ao N cap, .int .i64 c] W fun e w' => e = .returned (.bool true) ∧ Below W.heap.size W w' := by
  have hN' : (N : Int) ≤ 100 := by omega
  have hNc' : (N : Int) ≤ (cap : Int) := by omega
  have hc0 : (0 : Int) ≤ (cap : Int) := by omega
  go_enter Try.func4, Try.ntmps4
  go_wp2_with (first | (at_builtin; refine wpList_append_items rfl (.tmp 12) (.tmp 13) rfl W.heap.size _ _ [] l rfl (Row.empty W (Nat.le_refl _)) rfl HS.out.alloc (by simp; omega) ?_) | fail)
  intro v1 w1 hrow hb
  have HR : Hid (SlIt w1 v1 l) := Lib.hid hrow.is
  have HB1 : Hid (Below W.heap.size W w1) := Lib.hid ((below_new (Below.refl _ _) _).trans hb)
  have HS1 : Hid (SlIt w1 (.slice ao N cap) l) := Lib.hid (HS.out.keep HB1.out)
  clear hrow hb HS
  go_wp2_with fail
  go_loopw [6] (fun i wr => ∃ j : Nat, j ≤ N ∧ i = .int .i64 j ∧ Hid (Below w1.heap.size w1 wr)) (fun i _ => N - (intOf i).toNat)
  case atStart => exact ⟨0, Nat.zero_le _, rfl, Lib.hid (Below.refl _ _)⟩
  case round =>
    obtain ⟨j, hj, rfl, hnx⟩ := hrel
    by_cases hlt : j < N
    · have hlt' : (j : Int) < (N : Int) := by omega
      have hj0 : (0 : Int) ≤ (j : Int) := by omega
      obtain ⟨ao', cap', e1, hcl⟩ := HS1.out
      injection e1 with e1 e2 e3
      subst e1 e3
      obtain ⟨g, o, hao, hg, hc⟩ := hcl (fun h => by rw [h] at hlm; simp at hlm <;> omega)
      subst hao
      obtain ⟨x, hx⟩ : ∃ x, l.getD j Sc.zero = x := ⟨_, rfl⟩
      obtain ⟨a0, a1, a2, a3⟩ := hc j (by omega)
      rw [hx] at a0 a1 a2 a3
      have K0 : Hid (Below w1.heap.size w1 wr ∧ wr.cell? ⟨g, o + j * 4, none⟩ = some (.int .i64 x.k) ∧ wr.cell? ⟨g, o + j * 4 + 1, none⟩ = some (.int .i64 x.c) ∧ wr.cell? ⟨g, o + j * 4 + 2, none⟩ = some (.int .i64 x.a) ∧ wr.cell? ⟨g, o + j * 4 + 3, none⟩ = some (.int .i64 x.b)) := Lib.hid (keepP_on ⟨Below.refl _ _, a0, a1, a2, a3⟩ hnx.out)
      obtain ⟨t, ht⟩ : ∃ t, rightU x c = t := ⟨_, rfl⟩
      have RC : Hid (∀ w : World, Calls Try.prog 14 #[(.agg #[.int .i64 x.k, .int .i64 x.c, .int .i64 x.a, .int .i64 x.b]), .int .i64 c] w fun e w' => e = .returned (.bool t) ∧ Below w.heap.size w w') := Lib.hid (fun w => by
        have h := right_any x c w
        rw [ht] at h
        exact h)
      have RR : Hid (∀ w : World, Calls Try.prog 15 #[(.agg #[.int .i64 x.k, .int .i64 x.c, .int .i64 x.a, .int .i64 x.b]), .int .i64 c] w fun e w' => e = .returned (.bool t) ∧ Below w.heap.size w w') := Lib.hid (fun w => by
        have h := rright_any x c w
        rw [ht] at h
        exact h)
      clear a0 a1 a2 a3 hc hx ht hcl e2
      go_wp2_with fail
      go_region_held3 (fun w' => Below w1.heap.size w1 w' ∧ w'.cell? ⟨g, o + j * 4, none⟩ = some (.int .i64 x.k) ∧ w'.cell? ⟨g, o + j * 4 + 1, none⟩ = some (.int .i64 x.c) ∧ w'.cell? ⟨g, o + j * 4 + 2, none⟩ = some (.int .i64 x.a) ∧ w'.cell? ⟨g, o + j * 4 + 3, none⟩ = some (.int .i64 x.b)) (first | exact keepP_drew K0.out | exact K0.out | (refine keepP_on ?_ hb; assumption)) (first | (go_at_call 14; refine (RC.out _).mono ?_; rintro e w' ⟨rfl, hb⟩) | (go_at_call 15; refine (RR.out _).mono ?_; rintro e w' ⟨rfl, hb⟩))
      all_goals (
        rename_i hH
        have HB3 := Lib.hid hH.1
        clear hH
        go_wp2_with fail
        go_roundw
        case rel => exact ⟨j + 1, by omega, by go_num, HB3⟩
        case measure => simp [intOf]; omega)
    · have hje : j = N := by omega
      subst hje
      have hnl : ¬ (j : Int) < (j : Int) := by omega
      go_wp2_with fail
      refine (P1.out _ _ (HS1.out.keep hnx.out)).mono ?_
      rintro e w2 ⟨rfl, hb⟩
      have HB2 := Lib.hid (below_from hnx.out hb)
      clear hb
      go_wp2_with fail
      refine (P2.out _ _ (HS1.out.keep HB2.out)).mono ?_
      rintro e w3 ⟨rfl, hb⟩
      have HB3 := Lib.hid (below_from HB2.out hb)
      clear hb
      go_wp2_with fail
      refine (same_self _ _ l (by omega) _ (HS1.out.keep HB3.out) (HR.out.keep HB3.out)).mono ?_
      rintro e w4 ⟨rfl, hb⟩
      have HB4 := Lib.hid (below_from HB3.out hb)
      clear hb
      go_wp2_with fail
      refine (fixed_true _).mono ?_
      rintro e w5 ⟨rfl, hb⟩
      have HB5 := Lib.hid (below_from HB1.out (below_from HB4.out hb))
      clear hb
      go_wp2_with fail
      go_ret
      exact ⟨rfl, HB5.out⟩

set_option maxRecDepth 100000 in
set_option maxHeartbeats 6400000 in
theorem scriptPrints_y (ao : Option Addr) (N cap : Nat) (l : List It) (c : Int) (hN : 100 < N) (hNc : N ≤ cap) (hlm : l.length = 100) (p : ByteArray) (P1 : Hid (∀ (v : Value) (w : World), SlIt w v l → Calls Try.prog 16 #[v, .int .i64 c] w fun e w' => e = .returned (.string p) ∧ Below w.heap.size w w')) (P2 : Hid (∀ (v : Value) (w : World), SlIt w v l → Calls Try.prog 17 #[v, .int .i64 c] w fun e w' => e = .returned (.string p) ∧ Below w.heap.size w w')) (W : World) (HS : Hid (SlIt W (.slice ao 100 cap) l)) :
    Calls Try.prog 4 #[.slice ao N cap, .int .i64 c] W fun e w' => e = .returned (.bool true) ∧ Below W.heap.size W w' := by
  have hN' : (100 : Int) < (N : Int) := by omega
  have hNc' : (N : Int) ≤ (cap : Int) := by omega
  have hc0 : (0 : Int) ≤ (cap : Int) := by omega
  have hcc : (100 : Int) ≤ (cap : Int) := by omega
  go_enter Try.func4, Try.ntmps4
  go_wp2_with (first | (at_builtin; refine wpList_append_items rfl (.tmp 12) (.tmp 13) rfl W.heap.size _ _ [] l rfl (Row.empty W (Nat.le_refl _)) rfl HS.out.alloc (by simp; omega) ?_) | fail)
  intro v1 w1 hrow hb
  have HR : Hid (SlIt w1 v1 l) := Lib.hid hrow.is
  have HB1 : Hid (Below W.heap.size W w1) := Lib.hid ((below_new (Below.refl _ _) _).trans hb)
  have HS1 : Hid (SlIt w1 (.slice ao 100 cap) l) := Lib.hid (HS.out.keep HB1.out)
  clear hrow hb HS
  go_wp2_with fail
  go_loopw [6] (fun i wr => ∃ j : Nat, j ≤ 100 ∧ i = .int .i64 j ∧ Hid (Below w1.heap.size w1 wr)) (fun i _ => 100 - (intOf i).toNat)
  case atStart => exact ⟨0, Nat.zero_le _, rfl, Lib.hid (Below.refl _ _)⟩
  case round =>
    obtain ⟨j, hj, rfl, hnx⟩ := hrel
    by_cases hlt : j < 100
    · have hlt' : (j : Int) < 100 := by omega
      have hj0 : (0 : Int) ≤ (j : Int) := by omega
      obtain ⟨ao', cap', e1, hcl⟩ := HS1.out
      injection e1 with e1 e2 e3
      subst e1 e3
      obtain ⟨g, o, hao, hg, hc⟩ := hcl (fun h => by rw [h] at hlm; simp at hlm <;> omega)
      subst hao
      obtain ⟨x, hx⟩ : ∃ x, l.getD j Sc.zero = x := ⟨_, rfl⟩
      obtain ⟨a0, a1, a2, a3⟩ := hc j (by omega)
      rw [hx] at a0 a1 a2 a3
      have K0 : Hid (Below w1.heap.size w1 wr ∧ wr.cell? ⟨g, o + j * 4, none⟩ = some (.int .i64 x.k) ∧ wr.cell? ⟨g, o + j * 4 + 1, none⟩ = some (.int .i64 x.c) ∧ wr.cell? ⟨g, o + j * 4 + 2, none⟩ = some (.int .i64 x.a) ∧ wr.cell? ⟨g, o + j * 4 + 3, none⟩ = some (.int .i64 x.b)) := Lib.hid (keepP_on ⟨Below.refl _ _, a0, a1, a2, a3⟩ hnx.out)
      obtain ⟨t, ht⟩ : ∃ t, rightU x c = t := ⟨_, rfl⟩
      have RC : Hid (∀ w : World, Calls Try.prog 14 #[(.agg #[.int .i64 x.k, .int .i64 x.c, .int .i64 x.a, .int .i64 x.b]), .int .i64 c] w fun e w' => e = .returned (.bool t) ∧ Below w.heap.size w w') := Lib.hid (fun w => by
        have h := right_any x c w
        rw [ht] at h
        exact h)
      have RR : Hid (∀ w : World, Calls Try.prog 15 #[(.agg #[.int .i64 x.k, .int .i64 x.c, .int .i64 x.a, .int .i64 x.b]), .int .i64 c] w fun e w' => e = .returned (.bool t) ∧ Below w.heap.size w w') := Lib.hid (fun w => by
        have h := rright_any x c w
        rw [ht] at h
        exact h)
      clear a0 a1 a2 a3 hc hx ht hcl e2
      go_wp2_with fail
      go_region_held3 (fun w' => Below w1.heap.size w1 w' ∧ w'.cell? ⟨g, o + j * 4, none⟩ = some (.int .i64 x.k) ∧ w'.cell? ⟨g, o + j * 4 + 1, none⟩ = some (.int .i64 x.c) ∧ w'.cell? ⟨g, o + j * 4 + 2, none⟩ = some (.int .i64 x.a) ∧ w'.cell? ⟨g, o + j * 4 + 3, none⟩ = some (.int .i64 x.b)) (first | exact keepP_drew K0.out | exact K0.out | (refine keepP_on ?_ hb; assumption)) (first | (go_at_call 14; refine (RC.out _).mono ?_; rintro e w' ⟨rfl, hb⟩) | (go_at_call 15; refine (RR.out _).mono ?_; rintro e w' ⟨rfl, hb⟩))
      all_goals (
        rename_i hH
        have HB3 := Lib.hid hH.1
        clear hH
        go_wp2_with fail
        go_roundw
        case rel => exact ⟨j + 1, by omega, by go_num, HB3⟩
        case measure => simp [intOf]; omega)
    · have hje : j = 100 := by omega
      subst hje
      have hnl : ¬ (100 : Int) < 100 := by omega
      go_wp2_with fail
      refine (P1.out _ _ (HS1.out.keep hnx.out)).mono ?_
      rintro e w2 ⟨rfl, hb⟩
      have HB2 := Lib.hid (below_from hnx.out hb)
      clear hb
      go_wp2_with fail
      refine (P2.out _ _ (HS1.out.keep HB2.out)).mono ?_
      rintro e w3 ⟨rfl, hb⟩
      have HB3 := Lib.hid (below_from HB2.out hb)
      clear hb
      go_wp2_with fail
      refine (same_self _ _ l (by omega) _ (HS1.out.keep HB3.out) (HR.out.keep HB3.out)).mono ?_
      rintro e w4 ⟨rfl, hb⟩
      have HB4 := Lib.hid (below_from HB3.out hb)
      clear hb
      go_wp2_with fail
      refine (fixed_true _).mono ?_
      rintro e w5 ⟨rfl, hb⟩
      have HB5 := Lib.hid (below_from HB1.out (below_from HB4.out hb))
      clear hb
      go_wp2_with fail
      go_ret
      exact ⟨rfl, HB5.out⟩

theorem scriptPrints_walk (c : Int) (ao : Option Addr) (N cap : Nat) (L : List It) (hNc : N ≤ cap) (hL : L.length = N) (W : World) (hS : SlIt W (.slice ao N cap) L) :
    Calls Try.prog 4 #[.slice ao N cap, .int .i64 c] W fun e w' => e = .returned (.bool true) ∧ Below W.heap.size W w' := by
  by_cases hN : N ≤ 100
  · exact scriptPrints_x ao N cap L c hN hNc hL _ (Lib.hid (fun v w h => print_any v L c (by omega) w h)) (Lib.hid (fun v w h => rprint_any v L c (by omega) w h)) W (Lib.hid hS)
  · have hl : (L.take 100).length = 100 := by rw [List.length_take]; omega
    exact scriptPrints_y ao N cap (L.take 100) c (by omega) hNc hl _ (Lib.hid (fun v w h => print_any v _ c (by omega) w h)) (Lib.hid (fun v w h => rprint_any v _ c (by omega) w h)) W (Lib.hid (hS.take (by omega)))


set_option maxRecDepth 100000 in
theorem scriptPrints_lifted (os : Os) (started : os.Started) (H : Type) (enc : TypeId × Value → H) :
    ReturnsInHanded {} Try.checked os 4 .any (Rows.scriptPrintsSpec.pre6 enc Try.prog Try.f4 Rows.scriptPrintsRow.domain false) (Rows.scriptPrintsSpec.post enc Try.prog Try.f4 false true false false) := by
  refine returnsInHanded_of_change (C := Try.checked) own_knob started (by kernel_rfl) Try.func4
    (ChangeSpec.witness6 (enc := enc) (C := Try.checked) false ⟨#[], #[.slice none 0 0, .int .i64 0], []⟩ 8 (by kernel_rfl) (by kernel_rfl) (by kernel_rfl) (by kernel_rfl)) ?_
  intro W base args ds gs before hval0 hW hcnd _
  have hval : ∀ (j : Nat) t v, Try.f4.params[j]? = some t → args[j]? = some v → Value.okWide Try.prog W .any base t v := hval0
  have hW' := hW
  obtain ⟨p, q, hA0, hV, rfl, hfz, hnd⟩ := hW
  have hA : DataW.TrodAll enc Try.prog W 0 (fun _ => true) true Try.f4.params.toList args.toList ds p := hA0
  rw [Try.params4] at hA hval
  obtain ⟨v0, v1, d0, d1, p0, p1, rfl, rfl, rfl, h0, h1⟩ := trodAll_two hA
  obtain ⟨rfl, rfl⟩ := trodVars_none hV
  clear hA0 hval0
  simp only [List.append_nil] at hW'
  have hlt : ∀ x ∈ p0 ++ p1, x.block < W.heap.size := fun x hx => by simpa using hW'.lt x hx
  have g0 : ∀ W' : World, Below W.heap.size W W' → DataW.Trod enc Try.prog W' 0 (fun b => decide (b < W.heap.size)) true 24 v0 d0 p0 :=
    fun W' hn => Below.trod laid_out (by kernel_rfl) (of_decide_eq_true (by kernel_rfl)) h0 hn (fun x hx => hlt x (by simp [hx]))
  have g1 : ∀ W' : World, Below W.heap.size W W' → DataW.Trod enc Try.prog W' 0 (fun b => decide (b < W.heap.size)) true 3 v1 d1 p1 :=
    fun W' hn => Below.trod laid_out (by kernel_rfl) (of_decide_eq_true (by kernel_rfl)) h1 hn (fun x hx => hlt x (by simp [hx]))
  obtain ⟨ao, N, cap, L, rfl, hNc, hcm, hL, hS⟩ := open_items (hval 0 24 v0 rfl rfl) h0
  obtain ⟨c, rfl, _, _, w1⟩ := open_int Try.underlying3 (hval 1 3 v1 rfl rfl) h1
  have l1 := int_of_wf w1
  refine (scriptPrints_walk c ao N cap L hNc hL W hS).mono fun e W' ⟨he, hn⟩ => ?_
  subst he
  exact ⟨_, rfl, _, _, _, [], p0 ++ p1, [], hW', trodAll_mk1 (shut_bool Try.underlying4 true), (trodAll_mk2 (g0 W' hn) (g1 W' hn)), rfl, hn.frame _, fun h => by cases h⟩

theorem scriptPrints_holds : Rows.ScriptPrintsSaid :=
  OpenClaim.holds_of_wide 4 Try.f4 rfl rfl rfl rfl rfl rfl rfl ⟨rfl, rfl, rfl, rfl, rfl⟩ rfl rfl rfl rfl rfl (by kernel_rfl) Try.func4 (by kernel_rfl)
    (of_decide_eq_true (by kernel_rfl)) (by unfold Func.isWrapper; first | (rw [if_pos (by decide +kernel)]; kernel_rfl) | (rw [if_neg (by decide +kernel)]; exact ⟨rfl, rfl⟩))
    (fun os started H enc _ => scriptPrints_lifted os started H enc)
#print axioms scriptPrints_holds
end Go.Proofs.Ytldhpecpmgjihaa
