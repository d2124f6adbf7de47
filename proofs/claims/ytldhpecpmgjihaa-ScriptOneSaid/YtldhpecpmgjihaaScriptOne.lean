/- An item that may be is printed as its four bytes: for every input, no condition. -/
import Derived.Test.YtldhpecpmgjihaaScfixed
import Derived.Test.YtldhpecpmgjihaaScframe
import Derived.Deep.RegionHeld3
set_option linter.unusedVariables false
set_option linter.unusedSimpArgs false

namespace Go.Proofs.Ytldhpecpmgjihaa
open Go.ChangeShapes Go.WideShapes Go.ChangeAt Go.RowKit Go.Joins Sc

theorem one_printed (x : It) (c : Int) : printL [x] c = if rightU x c then bytesU x else [] := by
  simp [printL, printU]
theorem print_one (x : It) (c : Int) (w : World) (l : List UInt8) (h : printL [x] c = l) : Calls Try.prog 16 #[.slice (some ⟨w.heap.size, 0, none⟩) 1 1, .int .i64 c] (w.alloc (.cells #[.int .i64 x.k, .int .i64 x.c, .int .i64 x.a, .int .i64 x.b] 29)) fun e w' => e = .returned (.string ⟨l.toArray⟩) ∧ Below (w.alloc (.cells #[.int .i64 x.k, .int .i64 x.c, .int .i64 x.a, .int .i64 x.b] 29)).heap.size (w.alloc (.cells #[.int .i64 x.k, .int .i64 x.c, .int .i64 x.a, .int .i64 x.b] 29)) w' := by
  have k := print_any _ [x] c (by simp) _ (SlIt.of1 w x)
  rw [h] at k
  exact k
set_option maxRecDepth 100000 in
set_option maxHeartbeats 3200000 in
theorem scriptOne_no (x : It) (c : Int) (hr : rightU x c = false) (W : World) :
    Calls Try.prog 8 #[(.agg #[.int .i64 x.k, .int .i64 x.c, .int .i64 x.a, .int .i64 x.b]), .int .i64 c] W fun e w' => e = .returned (.bool true) ∧ Below W.heap.size W w' := by
  have PO : Hid (∀ (b : Nat) (w : World), b = w.heap.size → Calls Try.prog 16 #[.slice (some ⟨b, 0, none⟩) 1 1, .int .i64 c] (w.alloc (.cells #[.int .i64 x.k, .int .i64 x.c, .int .i64 x.a, .int .i64 x.b] 29)) fun e w' => e = .returned (.string ⟨#[]⟩) ∧ Below (w.alloc (.cells #[.int .i64 x.k, .int .i64 x.c, .int .i64 x.a, .int .i64 x.b] 29)).heap.size (w.alloc (.cells #[.int .i64 x.k, .int .i64 x.c, .int .i64 x.a, .int .i64 x.b] 29)) w') := Lib.hid (fun b w hw => by subst hw; exact print_one x c w [] (by rw [one_printed, hr]; rfl))
  have RC : Hid (∀ w : World, Calls Try.prog 14 #[(.agg #[.int .i64 x.k, .int .i64 x.c, .int .i64 x.a, .int .i64 x.b]), .int .i64 c] w fun e w' => e = .returned (.bool false) ∧ Below w.heap.size w w') := Lib.hid (fun w => by
    have h := right_any x c w
    rw [hr] at h
    exact h)
  clear hr
  go_enter Try.func8, Try.ntmps8
  go_wp2_with fail
  refine (PO.out _ _ (by simp)).mono ?_
  rintro e w1 ⟨rfl, hb⟩
  have c0 : w1.cell? ⟨W.heap.size, 0, none⟩ = some (.int .i64 x.k) := (hb.cell (p := ⟨W.heap.size, 0, none⟩) (by simp <;> omega)).trans (by simp [go_sem])
  have c1 : w1.cell? ⟨W.heap.size, 1, none⟩ = some (.int .i64 x.c) := (hb.cell (p := ⟨W.heap.size, 1, none⟩) (by simp <;> omega)).trans (by simp [go_sem])
  have c2 : w1.cell? ⟨W.heap.size, 2, none⟩ = some (.int .i64 x.a) := (hb.cell (p := ⟨W.heap.size, 2, none⟩) (by simp <;> omega)).trans (by simp [go_sem])
  have c3 : w1.cell? ⟨W.heap.size, 3, none⟩ = some (.int .i64 x.b) := (hb.cell (p := ⟨W.heap.size, 3, none⟩) (by simp <;> omega)).trans (by simp [go_sem])
  have HB1 := Lib.hid (below_from (below_new (below_new (Below.refl W.heap.size W) _) _) hb)
  clear hb
  go_wp2_with fail
  refine (RC.out _).mono ?_
  rintro e w2 ⟨rfl, hb⟩
  have HB2 := Lib.hid (below_from HB1.out hb)
  clear hb c0 c1 c2 c3
  go_wp2_with fail
  refine (fixed_true _).mono ?_
  rintro e w3 ⟨rfl, hb⟩
  have HB3 := Lib.hid (below_from HB2.out hb)
  clear hb
  go_wp2_with fail
  go_ret
  exact ⟨rfl, HB3.out⟩

theorem keepO_drew {W w' : World} {x : It} (h : Below W.heap.size W w' ∧ w'.cell? ⟨W.heap.size, 0, none⟩ = some (.int .i64 x.k) ∧ w'.cell? ⟨W.heap.size, 1, none⟩ = some (.int .i64 x.c) ∧ w'.cell? ⟨W.heap.size, 2, none⟩ = some (.int .i64 x.a) ∧ w'.cell? ⟨W.heap.size, 3, none⟩ = some (.int .i64 x.b)) : Below W.heap.size W w'.drew ∧ w'.drew.cell? ⟨W.heap.size, 0, none⟩ = some (.int .i64 x.k) ∧ w'.drew.cell? ⟨W.heap.size, 1, none⟩ = some (.int .i64 x.c) ∧ w'.drew.cell? ⟨W.heap.size, 2, none⟩ = some (.int .i64 x.a) ∧ w'.drew.cell? ⟨W.heap.size, 3, none⟩ = some (.int .i64 x.b) := ⟨h.1.drew, h.2⟩
theorem keepO_on {W w' w'' : World} {x : It} (h : Below W.heap.size W w' ∧ w'.cell? ⟨W.heap.size, 0, none⟩ = some (.int .i64 x.k) ∧ w'.cell? ⟨W.heap.size, 1, none⟩ = some (.int .i64 x.c) ∧ w'.cell? ⟨W.heap.size, 2, none⟩ = some (.int .i64 x.a) ∧ w'.cell? ⟨W.heap.size, 3, none⟩ = some (.int .i64 x.b)) (hb : Below w'.heap.size w' w'') : Below W.heap.size W w'' ∧ w''.cell? ⟨W.heap.size, 0, none⟩ = some (.int .i64 x.k) ∧ w''.cell? ⟨W.heap.size, 1, none⟩ = some (.int .i64 x.c) ∧ w''.cell? ⟨W.heap.size, 2, none⟩ = some (.int .i64 x.a) ∧ w''.cell? ⟨W.heap.size, 3, none⟩ = some (.int .i64 x.b) := by
  obtain ⟨h0, q0, q1, q2, q3⟩ := h
  have key : ∀ {p : Addr} {v : Value}, w'.cell? p = some v → w''.cell? p = some v := fun h => (hb.cell (World.block_lt_of_cell? w' _ h)).trans h
  exact ⟨below_from h0 hb, key q0, key q1, key q2, key q3⟩
set_option maxRecDepth 100000 in
set_option maxHeartbeats 6400000 in
theorem scriptOne_yes (x : It) (c : Int) (hr : rightU x c = true) (W : World) :
    Calls Try.prog 8 #[(.agg #[.int .i64 x.k, .int .i64 x.c, .int .i64 x.a, .int .i64 x.b]), .int .i64 c] W fun e w' => e = .returned (.bool true) ∧ Below W.heap.size W w' := by
  obtain ⟨t, ht⟩ : ∃ t : ByteArray, t = ⟨(bytesU x).toArray⟩ := ⟨_, rfl⟩
  have PO : Hid (∀ (b : Nat) (w : World), b = w.heap.size → Calls Try.prog 16 #[.slice (some ⟨b, 0, none⟩) 1 1, .int .i64 c] (w.alloc (.cells #[.int .i64 x.k, .int .i64 x.c, .int .i64 x.a, .int .i64 x.b] 29)) fun e w' => e = .returned (.string t) ∧ Below (w.alloc (.cells #[.int .i64 x.k, .int .i64 x.c, .int .i64 x.a, .int .i64 x.b] 29)).heap.size (w.alloc (.cells #[.int .i64 x.k, .int .i64 x.c, .int .i64 x.a, .int .i64 x.b] 29)) w') := Lib.hid (fun b w hw => by
    subst hw
    have h := print_one x c w (bytesU x) (by rw [one_printed, hr]; rfl)
    rw [← ht] at h
    exact h)
  have RC : Hid (∀ w : World, Calls Try.prog 14 #[(.agg #[.int .i64 x.k, .int .i64 x.c, .int .i64 x.a, .int .i64 x.b]), .int .i64 c] w fun e w' => e = .returned (.bool true) ∧ Below w.heap.size w w') := Lib.hid (fun w => by
    have h := right_any x c w
    rw [hr] at h
    exact h)
  have hsz : t.size = 4 := by rw [ht]; rfl
  have hR' : x.Right c := of_decide_eq_true hr
  unfold It.Right at hR'
  have t0 : 0 < t.size := by omega
  have t1 : 1 < t.size := by omega
  have t2 : 2 < t.size := by omega
  have t3 : 3 < t.size := by omega
  have wr : ∀ z : Int, 0 ≤ z ∧ z ≤ 255 → IntKind.i64.wrap (((z.toNat.toUInt8).toNat : Nat) : Int) = z := fun z hz => by
    rw [byte_of hz, IntKind.wrap_i64]
    omega
  have e0 : IntKind.i64.wrap (((t[0]'t0).toNat : Nat) : Int) = x.k := by subst ht; exact wr x.k (by omega)
  have e1 : IntKind.i64.wrap (((t[1]'t1).toNat : Nat) : Int) = x.c := by subst ht; exact wr x.c (by omega)
  have e2 : IntKind.i64.wrap (((t[2]'t2).toNat : Nat) : Int) = x.a := by subst ht; exact wr x.a (by omega)
  have e3 : IntKind.i64.wrap (((t[3]'t3).toNat : Nat) : Int) = x.b := by subst ht; exact wr x.b (by omega)
  clear hr hR' wr ht
  go_enter Try.func8, Try.ntmps8
  go_wp2_with fail
  refine (PO.out _ _ (by simp)).mono ?_
  rintro e w1 ⟨rfl, hb⟩
  have c0 : w1.cell? ⟨W.heap.size, 0, none⟩ = some (.int .i64 x.k) := (hb.cell (p := ⟨W.heap.size, 0, none⟩) (by simp <;> omega)).trans (by simp [go_sem])
  have c1 : w1.cell? ⟨W.heap.size, 1, none⟩ = some (.int .i64 x.c) := (hb.cell (p := ⟨W.heap.size, 1, none⟩) (by simp <;> omega)).trans (by simp [go_sem])
  have c2 : w1.cell? ⟨W.heap.size, 2, none⟩ = some (.int .i64 x.a) := (hb.cell (p := ⟨W.heap.size, 2, none⟩) (by simp <;> omega)).trans (by simp [go_sem])
  have c3 : w1.cell? ⟨W.heap.size, 3, none⟩ = some (.int .i64 x.b) := (hb.cell (p := ⟨W.heap.size, 3, none⟩) (by simp <;> omega)).trans (by simp [go_sem])
  have HB1 := Lib.hid (below_from (below_new (below_new (Below.refl W.heap.size W) _) _) hb)
  have hz1 : W.heap.size < w1.heap.size := by have := hb.size; simp at this; omega
  clear hb
  go_wp2_with fail
  refine (RC.out _).mono ?_
  rintro e w2 ⟨rfl, hb⟩
  have K0 : Hid (Below W.heap.size W w2 ∧ w2.cell? ⟨W.heap.size, 0, none⟩ = some (.int .i64 x.k) ∧ w2.cell? ⟨W.heap.size, 1, none⟩ = some (.int .i64 x.c) ∧ w2.cell? ⟨W.heap.size, 2, none⟩ = some (.int .i64 x.a) ∧ w2.cell? ⟨W.heap.size, 3, none⟩ = some (.int .i64 x.b)) := Lib.hid (keepO_on ⟨HB1.out, c0, c1, c2, c3⟩ hb)
  clear hb c0 c1 c2 c3
  go_wp2_with fail
  go_region_held3 (fun w' => Below W.heap.size W w' ∧ w'.cell? ⟨W.heap.size, 0, none⟩ = some (.int .i64 x.k) ∧ w'.cell? ⟨W.heap.size, 1, none⟩ = some (.int .i64 x.c) ∧ w'.cell? ⟨W.heap.size, 2, none⟩ = some (.int .i64 x.a) ∧ w'.cell? ⟨W.heap.size, 3, none⟩ = some (.int .i64 x.b)) (first | exact keepO_drew K0.out | (refine keepO_on ?_ hb; assumption)) (first | (go_at_call 10; refine (fixed_true _).mono ?_; rintro e w' ⟨rfl, hb⟩))
  go_wp2_with fail
  go_ret
  rename_i hH
  exact ⟨rfl, hH.1⟩

theorem scriptOne_walk (x : It) (c : Int) (W : World) :
    Calls Try.prog 8 #[(.agg #[.int .i64 x.k, .int .i64 x.c, .int .i64 x.a, .int .i64 x.b]), .int .i64 c] W fun e w' => e = .returned (.bool true) ∧ Below W.heap.size W w' := by
  by_cases hr : rightU x c = true
  · exact scriptOne_yes x c hr W
  · exact scriptOne_no x c (by simpa using hr) W


set_option maxRecDepth 100000 in
theorem scriptOne_lifted (os : Os) (started : os.Started) (H : Type) (enc : TypeId × Value → H) :
    ReturnsInHanded {} Try.checked os 8 .any (Rows.scriptOneSpec.pre6 enc Try.prog Try.f8 Rows.scriptOneRow.domain false) (Rows.scriptOneSpec.post enc Try.prog Try.f8 false true false false) := by
  refine returnsInHanded_of_change (C := Try.checked) own_knob started (by kernel_rfl) Try.func8
    (ChangeSpec.witness6 (enc := enc) (C := Try.checked) false ⟨#[], #[.agg #[.int .i64 0, .int .i64 0, .int .i64 0, .int .i64 0], .int .i64 0], []⟩ 8 (by kernel_rfl) (by kernel_rfl) (by kernel_rfl) (by kernel_rfl)) ?_
  intro W base args ds gs before hval0 hW hcnd _
  have hval : ∀ (j : Nat) t v, Try.f8.params[j]? = some t → args[j]? = some v → Value.okWide Try.prog W .any base t v := hval0
  have hW' := hW
  obtain ⟨p, q, hA0, hV, rfl, hfz, hnd⟩ := hW
  have hA : DataW.TrodAll enc Try.prog W 0 (fun _ => true) true Try.f8.params.toList args.toList ds p := hA0
  rw [Try.params8] at hA hval
  obtain ⟨v0, v1, d0, d1, p0, p1, rfl, rfl, rfl, h0, h1⟩ := trodAll_two hA
  obtain ⟨rfl, rfl⟩ := trodVars_none hV
  clear hA0 hval0
  simp only [List.append_nil] at hW'
  have hlt : ∀ x ∈ p0 ++ p1, x.block < W.heap.size := fun x hx => by simpa using hW'.lt x hx
  have g0 : ∀ W' : World, Below W.heap.size W W' → DataW.Trod enc Try.prog W' 0 (fun b => decide (b < W.heap.size)) true 29 v0 d0 p0 :=
    fun W' hn => Below.trod laid_out (by kernel_rfl) (of_decide_eq_true (by kernel_rfl)) h0 hn (fun x hx => hlt x (by simp [hx]))
  have g1 : ∀ W' : World, Below W.heap.size W W' → DataW.Trod enc Try.prog W' 0 (fun b => decide (b < W.heap.size)) true 3 v1 d1 p1 :=
    fun W' hn => Below.trod laid_out (by kernel_rfl) (of_decide_eq_true (by kernel_rfl)) h1 hn (fun x hx => hlt x (by simp [hx]))
  obtain ⟨x, rfl⟩ := open_it (hval 0 29 v0 rfl rfl) h0
  obtain ⟨c, rfl, _, _, w1⟩ := open_int Try.underlying3 (hval 1 3 v1 rfl rfl) h1
  have l1 := int_of_wf w1
  refine (scriptOne_walk x c W).mono fun e W' ⟨he, hn⟩ => ?_
  subst he
  exact ⟨_, rfl, _, _, _, [], p0 ++ p1, [], hW', trodAll_mk1 (shut_bool Try.underlying4 true), (trodAll_mk2 (g0 W' hn) (g1 W' hn)), rfl, hn.frame _, fun h => by cases h⟩

theorem scriptOne_holds : Rows.ScriptOneSaid :=
  OpenClaim.holds_of_wide 8 Try.f8 rfl rfl rfl rfl rfl rfl rfl ⟨rfl, rfl, rfl, rfl, rfl⟩ rfl rfl rfl rfl rfl (by kernel_rfl) Try.func8 (by kernel_rfl)
    (of_decide_eq_true (by kernel_rfl)) (by unfold Func.isWrapper; first | (rw [if_pos (by decide +kernel)]; kernel_rfl) | (rw [if_neg (by decide +kernel)]; exact ⟨rfl, rfl⟩))
    (fun os started H enc _ => scriptOne_lifted os started H enc)
#print axioms scriptOne_holds
end Go.Proofs.Ytldhpecpmgjihaa
