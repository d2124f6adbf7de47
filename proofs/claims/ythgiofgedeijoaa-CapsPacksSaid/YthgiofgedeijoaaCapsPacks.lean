/- Any capability as words, and any words' capability, is as the document says: for every input, no condition. -/
import Derived.Test.YthgiofgedeijoaaCmore
set_option linter.unusedVariables false
set_option linter.unusedSimpArgs false
namespace Go.Proofs.Ythgiofgedeijoaa
open Go.ChangeShapes Go.WideShapes Go.ChangeAt Go.RowKit Go.Joins Wd Cd

set_option maxRecDepth 100000 in
set_option maxHeartbeats 3200000 in
theorem capsPacks_walk (c : Cp) (x y : Nat) (hb : Word c.b) (hg : Word c.g) (hx : Word x) (hy : Word y) (W : World) :
    Calls Try.prog 6 #[(.agg #[.int .i64 c.k, .int .i64 c.o, .int .i64 c.r, .int .u64 c.b, .int .u64 c.g, .int .i64 c.n]), (.agg #[.int .u64 x, .int .u64 y])] W fun e w' => e = .returned (.bool true) ∧ Below W.heap.size W w' := by
  obtain ⟨⟨a, b, i⟩, hm⟩ : ∃ q, packU c = q := ⟨_, rfl⟩
  obtain ⟨⟨u, j⟩, hu⟩ : ∃ q, unpU x y = q := ⟨_, rfl⟩
  have m1 : ∀ w : World, Calls Try.prog 18 #[(.agg #[.int .i64 c.k, .int .i64 c.o, .int .i64 c.r, .int .u64 c.b, .int .u64 c.g, .int .i64 c.n])] w fun e w' => e = .returned (.tuple #[(.agg #[.int .u64 a, .int .u64 b]), .int .i64 i]) ∧ Below w.heap.size w w' := fun w => by
    have h := pack_any c hb hg w
    rw [hm] at h
    exact h
  have M1 := Lib.hid m1
  clear m1
  have g1 : ∀ w : World, Calls Try.prog 20 #[(.agg #[.int .u64 x, .int .u64 y])] w fun e w' => e = .returned (.tuple #[(.agg #[.int .i64 u.k, .int .i64 u.o, .int .i64 u.r, .int .u64 u.b, .int .u64 u.g, .int .i64 u.n]), .int .i64 j]) ∧ Below w.heap.size w w' := fun w => by
    have h := unpack_any x y hx hy w
    rw [hu] at h
    exact h
  have G1 := Lib.hid g1
  clear g1
  have mr1 : ∀ w : World, Calls Try.prog 19 #[(.agg #[.int .i64 c.k, .int .i64 c.o, .int .i64 c.r, .int .u64 c.b, .int .u64 c.g, .int .i64 c.n])] w fun e w' => e = .returned (.tuple #[(.agg #[.int .u64 a, .int .u64 b]), .int .i64 i]) ∧ Below w.heap.size w w' := fun w => by
    have h := rpack_any c hb hg w
    rw [hm] at h
    exact h
  have MR1 := Lib.hid mr1
  clear mr1
  have gr1 : ∀ w : World, Calls Try.prog 21 #[(.agg #[.int .u64 x, .int .u64 y])] w fun e w' => e = .returned (.tuple #[(.agg #[.int .i64 u.k, .int .i64 u.o, .int .i64 u.r, .int .u64 u.b, .int .u64 u.g, .int .i64 u.n]), .int .i64 j]) ∧ Below w.heap.size w w' := fun w => by
    have h := runpack_any x y hx hy w
    rw [hu] at h
    exact h
  have GR1 := Lib.hid gr1
  clear gr1
  have q1 : ∀ w : World, (Op.equalIn 10000 35 (.agg #[.int .u64 a, .int .u64 b]) (.agg #[.int .u64 a, .int .u64 b])).run Try.prog w = .ok true w := fun w => pairs_eq a b w
  have q2 : ∀ w : World, (Op.equalIn 10000 24 (.agg #[.int .i64 u.k, .int .i64 u.o, .int .i64 u.r, .int .u64 u.b, .int .u64 u.g, .int .i64 u.n]) (.agg #[.int .i64 u.k, .int .i64 u.o, .int .i64 u.r, .int .u64 u.b, .int .u64 u.g, .int .i64 u.n])).run Try.prog w = .ok true w := fun w => eq_self u w
  go_enter Try.func6, Try.ntmps6
  go_wp2_with fail
  refine (M1.out _).mono ?_
  rintro e w1 ⟨rfl, hb⟩
  have CC' : Box w1 (W.heap.size) c := Box.keep hb (by repeat (first | fail | exact Box.new _ c | exact Box.new_at (c := c) (by simp) | apply Box.alloc))
  have CC := Lib.hid CC'
  clear CC'
  have DD' : Duo w1 ((W.heap.size + 1)) (x, y) := Duo.keep hb (by repeat (first | fail | exact Duo.new _ (x, y) | exact Duo.new_at (c := (x, y)) (by simp) | apply Duo.alloc))
  have DD := Lib.hid DD'
  clear DD'
  have HB1 : Hid (Below W.heap.size W w1) := Lib.hid (below_then (by repeat (first | exact (Below.refl _ _) | apply below_new)) hb)
  clear hb
  obtain ⟨zCC, cCC0, cCC1, cCC2, cCC3, cCC4, cCC5⟩ := CC.out
  have nCC : ¬ W.heap.size = w1.heap.size := by omega
  go_wp2_with fail
  clear zCC nCC cCC0 cCC1 cCC2 cCC3 cCC4 cCC5
  refine (MR1.out _).mono ?_
  rintro e w2 ⟨rfl, hb⟩
  clear CC
  have DD' : Duo w2 ((W.heap.size + 1)) (x, y) := Duo.keep hb (by repeat (first | exact DD.out | exact Duo.new _ (x, y) | exact Duo.new_at (c := (x, y)) (by simp) | apply Duo.alloc))
  clear DD
  have DD := Lib.hid DD'
  clear DD'
  have AA' : Duo w2 (w1.heap.size) (a, b) := Duo.keep hb (by repeat (first | fail | exact Duo.new _ (a, b) | exact Duo.new_at (c := (a, b)) (by simp) | apply Duo.alloc))
  have AA := Lib.hid AA'
  clear AA'
  have HB2 : Hid (Below W.heap.size W w2) := Lib.hid (below_then (by repeat (first | exact HB1.out | apply below_new)) hb)
  clear hb HB1
  obtain ⟨zDD, cDD0, cDD1⟩ := DD.out
  have nDD : ¬ (W.heap.size + 1) = w2.heap.size := by omega
  go_wp2_with fail
  clear zDD nDD cDD0 cDD1
  refine (G1.out _).mono ?_
  rintro e w3 ⟨rfl, hb⟩
  have DD' : Duo w3 ((W.heap.size + 1)) (x, y) := Duo.keep hb (by repeat (first | exact DD.out | exact Duo.new _ (x, y) | exact Duo.new_at (c := (x, y)) (by simp) | apply Duo.alloc))
  clear DD
  have DD := Lib.hid DD'
  clear DD'
  have AA' : Duo w3 (w1.heap.size) (a, b) := Duo.keep hb (by repeat (first | exact AA.out | exact Duo.new _ (a, b) | exact Duo.new_at (c := (a, b)) (by simp) | apply Duo.alloc))
  clear AA
  have AA := Lib.hid AA'
  clear AA'
  have AB' : Duo w3 (w2.heap.size) (a, b) := Duo.keep hb (by repeat (first | fail | exact Duo.new _ (a, b) | exact Duo.new_at (c := (a, b)) (by simp) | apply Duo.alloc))
  have AB := Lib.hid AB'
  clear AB'
  have HB3 : Hid (Below W.heap.size W w3) := Lib.hid (below_then (by repeat (first | exact HB2.out | apply below_new)) hb)
  clear hb HB2
  obtain ⟨zDD, cDD0, cDD1⟩ := DD.out
  have nDD : ¬ (W.heap.size + 1) = w3.heap.size := by omega
  go_wp2_with fail
  clear zDD nDD cDD0 cDD1
  refine (GR1.out _).mono ?_
  rintro e w4 ⟨rfl, hb⟩
  clear DD
  have AA' : Duo w4 (w1.heap.size) (a, b) := Duo.keep hb (by repeat (first | exact AA.out | exact Duo.new _ (a, b) | exact Duo.new_at (c := (a, b)) (by simp) | apply Duo.alloc))
  clear AA
  have AA := Lib.hid AA'
  clear AA'
  have AB' : Duo w4 (w2.heap.size) (a, b) := Duo.keep hb (by repeat (first | exact AB.out | exact Duo.new _ (a, b) | exact Duo.new_at (c := (a, b)) (by simp) | apply Duo.alloc))
  clear AB
  have AB := Lib.hid AB'
  clear AB'
  have XX' : Box w4 (w3.heap.size) u := Box.keep hb (by repeat (first | fail | exact Box.new _ u | exact Box.new_at (c := u) (by simp) | apply Box.alloc))
  have XX := Lib.hid XX'
  clear XX'
  have HB4 : Hid (Below W.heap.size W w4) := Lib.hid (below_then (by repeat (first | exact HB3.out | apply below_new)) hb)
  clear hb HB3
  go_wp2_with fail
  refine (fixed_true _).mono ?_
  rintro e w5 ⟨rfl, hb⟩
  have AA' : Duo w5 (w1.heap.size) (a, b) := Duo.keep hb (by repeat (first | exact AA.out | exact Duo.new _ (a, b) | exact Duo.new_at (c := (a, b)) (by simp) | apply Duo.alloc))
  clear AA
  have AA := Lib.hid AA'
  clear AA'
  have AB' : Duo w5 (w2.heap.size) (a, b) := Duo.keep hb (by repeat (first | exact AB.out | exact Duo.new _ (a, b) | exact Duo.new_at (c := (a, b)) (by simp) | apply Duo.alloc))
  clear AB
  have AB := Lib.hid AB'
  clear AB'
  have XX' : Box w5 (w3.heap.size) u := Box.keep hb (by repeat (first | exact XX.out | exact Box.new _ u | exact Box.new_at (c := u) (by simp) | apply Box.alloc))
  clear XX
  have XX := Lib.hid XX'
  clear XX'
  have XY' : Box w5 (w4.heap.size) u := Box.keep hb (by repeat (first | fail | exact Box.new _ u | exact Box.new_at (c := u) (by simp) | apply Box.alloc))
  have XY := Lib.hid XY'
  clear XY'
  have HB5 : Hid (Below W.heap.size W w5) := Lib.hid (below_then (by repeat (first | exact HB4.out | apply below_new)) hb)
  clear hb HB4
  obtain ⟨zAA, cAA0, cAA1⟩ := AA.out
  have nAA : ¬ w1.heap.size = w5.heap.size := by omega
  obtain ⟨zAB, cAB0, cAB1⟩ := AB.out
  have nAB : ¬ w2.heap.size = w5.heap.size := by omega
  obtain ⟨zXX, cXX0, cXX1, cXX2, cXX3, cXX4, cXX5⟩ := XX.out
  have nXX : ¬ w3.heap.size = w5.heap.size := by omega
  obtain ⟨zXY, cXY0, cXY1, cXY2, cXY3, cXY4, cXY5⟩ := XY.out
  have nXY : ¬ w4.heap.size = w5.heap.size := by omega
  go_wp2_with fail
  go_ret
  exact ⟨rfl, (by repeat (first | exact HB5.out | apply below_new))⟩


set_option maxRecDepth 100000 in
theorem capsPacks_lifted (os : Os) (started : os.Started) (H : Type) (enc : TypeId × Value → H) :
    ReturnsInHanded {} Try.checked os 6 .any (Rows.capsPacksSpec.pre6 enc Try.prog Try.f6 Rows.capsPacksRow.domain false) (Rows.capsPacksSpec.post enc Try.prog Try.f6 false true false false) := by
  refine returnsInHanded_of_change (C := Try.checked) own_knob started (by kernel_rfl) Try.func6
    (ChangeSpec.witness6 (enc := enc) (C := Try.checked) false ⟨#[], #[.agg #[.int .i64 0, .int .i64 0, .int .i64 0, .int .u64 0, .int .u64 0, .int .i64 0], .agg #[.int .u64 0, .int .u64 0]], []⟩ 8 (by kernel_rfl) (by kernel_rfl) (by kernel_rfl) (by kernel_rfl)) ?_
  intro W base args ds gs before hval0 hW hcnd _
  have hval : ∀ (j : Nat) t v, Try.f6.params[j]? = some t → args[j]? = some v → Value.okWide Try.prog W .any base t v := hval0
  have hW' := hW
  obtain ⟨p, q, hA0, hV, rfl, hfz, hnd⟩ := hW
  have hA : DataW.TrodAll enc Try.prog W 0 (fun _ => true) true Try.f6.params.toList args.toList ds p := hA0
  rw [Try.params6] at hA hval
  obtain ⟨v0, v1, d0, d1, p0, p1, rfl, rfl, rfl, h0, h1⟩ := trodAll_two hA
  obtain ⟨rfl, rfl⟩ := trodVars_none hV
  clear hA0 hval0
  simp only [List.append_nil] at hW'
  have hlt : ∀ x ∈ p0 ++ p1, x.block < W.heap.size := fun x hx => by simpa using hW'.lt x hx
  have g0 : ∀ W' : World, Below W.heap.size W W' → DataW.Trod enc Try.prog W' 0 (fun b => decide (b < W.heap.size)) true 24 v0 d0 p0 :=
    fun W' hn => Below.trod laid_out (by kernel_rfl) (of_decide_eq_true (by kernel_rfl)) h0 hn (fun x hx => hlt x (by simp [hx]))
  have g1 : ∀ W' : World, Below W.heap.size W W' → DataW.Trod enc Try.prog W' 0 (fun b => decide (b < W.heap.size)) true 35 v1 d1 p1 :=
    fun W' hn => Below.trod laid_out (by kernel_rfl) (of_decide_eq_true (by kernel_rfl)) h1 hn (fun x hx => hlt x (by simp [hx]))
  obtain ⟨c, rfl, l0b, l0g⟩ := open_cap (hval 0 24 v0 rfl rfl) h0
  obtain ⟨x, y, rfl, l1x, l1y⟩ := open_pair (hval 1 35 v1 rfl rfl) h1
  refine (capsPacks_walk c x y l0b l0g l1x l1y W).mono fun e W' ⟨he, hn⟩ => ?_
  subst he
  exact ⟨_, rfl, _, _, _, [], p0 ++ p1, [], hW', trodAll_mk1 (shut_bool Try.underlying4 true), (trodAll_mk2 (g0 W' hn) (g1 W' hn)), rfl, hn.frame _, fun h => by cases h⟩

theorem capsPacks_holds : Rows.CapsPacksSaid :=
  OpenClaim.holds_of_wide 6 Try.f6 rfl rfl rfl rfl rfl rfl rfl ⟨rfl, rfl, rfl, rfl, rfl⟩ rfl rfl rfl rfl rfl (by kernel_rfl) Try.func6 (by kernel_rfl)
    (of_decide_eq_true (by kernel_rfl)) (by unfold Func.isWrapper; first | (rw [if_pos (by decide +kernel)]; kernel_rfl) | (rw [if_neg (by decide +kernel)]; exact ⟨rfl, rfl⟩))
    (fun os started H enc _ => capsPacks_lifted os started H enc)
#print axioms capsPacks_holds
end Go.Proofs.Ythgiofgedeijoaa
