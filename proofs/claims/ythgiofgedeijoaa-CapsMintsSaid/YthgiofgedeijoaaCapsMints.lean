/- What any capability is with any rights and badge, or any guard, or that it cannot be, is as the document says: for every input, no condition. -/
import Derived.Test.YthgiofgedeijoaaCframe
import Derived.Test.YthgiofgedeijoaaCfixed
set_option linter.unusedVariables false
set_option linter.unusedSimpArgs false
namespace Go.Proofs.Ythgiofgedeijoaa
open Go.ChangeShapes Go.WideShapes Go.ChangeAt Go.RowKit Go.Joins Wd Cd

theorem eq_self (c : Cp) (w : World) : (Op.equalIn 10000 24 (.agg #[.int .i64 c.k, .int .i64 c.o, .int .i64 c.r, .int .u64 c.b, .int .u64 c.g, .int .i64 c.n]) (.agg #[.int .i64 c.k, .int .i64 c.o, .int .i64 c.r, .int .u64 c.b, .int .u64 c.g, .int .i64 c.n])).run Try.prog w = .ok true w := by
  have h := eq_caps c c w
  rw [show eqB c c = true from decide_eq_true ⟨rfl, rfl, rfl, rfl, rfl, rfl⟩] at h
  exact h

set_option maxRecDepth 100000 in
set_option maxHeartbeats 3200000 in
theorem capsMints_walk (c : Cp) (n : Int) (v : Nat) (hg : Word c.g) (hv : Word v) (W : World) :
    Calls Try.prog 5 #[(.agg #[.int .i64 c.k, .int .i64 c.o, .int .i64 c.r, .int .u64 c.b, .int .u64 c.g, .int .i64 c.n]), .int .i64 n, .int .u64 v] W fun e w' => e = .returned (.bool true) ∧ Below W.heap.size W w' := by
  obtain ⟨⟨a, i⟩, hm⟩ : ∃ q, mintU c n v = q := ⟨_, rfl⟩
  obtain ⟨⟨x, j⟩, hu⟩ : ∃ q, guaU c v n = q := ⟨_, rfl⟩
  have m1 : ∀ w : World, Calls Try.prog 11 #[(.agg #[.int .i64 c.k, .int .i64 c.o, .int .i64 c.r, .int .u64 c.b, .int .u64 c.g, .int .i64 c.n]), .int .i64 n, .int .u64 v] w fun e w' => e = .returned (.tuple #[(.agg #[.int .i64 a.k, .int .i64 a.o, .int .i64 a.r, .int .u64 a.b, .int .u64 a.g, .int .i64 a.n]), .int .i64 i]) ∧ Below w.heap.size w w' := fun w => by
    have h := mint_any c n v hg w
    rw [hm] at h
    exact h
  have M1 := Lib.hid m1
  clear m1
  have g1 : ∀ w : World, Calls Try.prog 13 #[(.agg #[.int .i64 c.k, .int .i64 c.o, .int .i64 c.r, .int .u64 c.b, .int .u64 c.g, .int .i64 c.n]), .int .u64 v, .int .i64 n] w fun e w' => e = .returned (.tuple #[(.agg #[.int .i64 x.k, .int .i64 x.o, .int .i64 x.r, .int .u64 x.b, .int .u64 x.g, .int .i64 x.n]), .int .i64 j]) ∧ Below w.heap.size w w' := fun w => by
    have h := guarded_any c v n hg hv w
    rw [hu] at h
    exact h
  have G1 := Lib.hid g1
  clear g1
  have mr1 : ∀ w : World, Calls Try.prog 16 #[(.agg #[.int .i64 c.k, .int .i64 c.o, .int .i64 c.r, .int .u64 c.b, .int .u64 c.g, .int .i64 c.n]), .int .i64 n, .int .u64 v] w fun e w' => e = .returned (.tuple #[(.agg #[.int .i64 a.k, .int .i64 a.o, .int .i64 a.r, .int .u64 a.b, .int .u64 a.g, .int .i64 a.n]), .int .i64 i]) ∧ Below w.heap.size w w' := fun w => by
    have h := rmint_any c n v hg w
    rw [hm] at h
    exact h
  have MR1 := Lib.hid mr1
  clear mr1
  have gr1 : ∀ w : World, Calls Try.prog 17 #[(.agg #[.int .i64 c.k, .int .i64 c.o, .int .i64 c.r, .int .u64 c.b, .int .u64 c.g, .int .i64 c.n]), .int .u64 v, .int .i64 n] w fun e w' => e = .returned (.tuple #[(.agg #[.int .i64 x.k, .int .i64 x.o, .int .i64 x.r, .int .u64 x.b, .int .u64 x.g, .int .i64 x.n]), .int .i64 j]) ∧ Below w.heap.size w w' := fun w => by
    have h := rguarded_any c v n hg hv w
    rw [hu] at h
    exact h
  have GR1 := Lib.hid gr1
  clear gr1
  have q1 : ∀ w : World, (Op.equalIn 10000 24 (.agg #[.int .i64 a.k, .int .i64 a.o, .int .i64 a.r, .int .u64 a.b, .int .u64 a.g, .int .i64 a.n]) (.agg #[.int .i64 a.k, .int .i64 a.o, .int .i64 a.r, .int .u64 a.b, .int .u64 a.g, .int .i64 a.n])).run Try.prog w = .ok true w := fun w => eq_self a w
  have q2 : ∀ w : World, (Op.equalIn 10000 24 (.agg #[.int .i64 x.k, .int .i64 x.o, .int .i64 x.r, .int .u64 x.b, .int .u64 x.g, .int .i64 x.n]) (.agg #[.int .i64 x.k, .int .i64 x.o, .int .i64 x.r, .int .u64 x.b, .int .u64 x.g, .int .i64 x.n])).run Try.prog w = .ok true w := fun w => eq_self x w
  go_enter Try.func5, Try.ntmps5
  go_wp2_with fail
  refine (M1.out _).mono ?_
  rintro e w1 ⟨rfl, hb⟩
  have CC' : Box w1 (W.heap.size) c := Box.keep hb (by repeat (first | fail | exact Box.new _ c | apply Box.alloc))
  have CC := Lib.hid CC'
  clear CC'
  have HB1 : Hid (Below W.heap.size W w1) := Lib.hid (below_then (by repeat (first | exact (Below.refl _ _) | apply below_new)) hb)
  clear hb
  obtain ⟨zCC, cCC0, cCC1, cCC2, cCC3, cCC4, cCC5⟩ := CC.out
  have nCC : ¬ W.heap.size = w1.heap.size := by omega
  go_wp2_with fail
  clear zCC nCC cCC0 cCC1 cCC2 cCC3 cCC4 cCC5
  refine (MR1.out _).mono ?_
  rintro e w2 ⟨rfl, hb⟩
  have CC' : Box w2 (W.heap.size) c := Box.keep hb (by repeat (first | exact CC.out | exact Box.new _ c | apply Box.alloc))
  clear CC
  have CC := Lib.hid CC'
  clear CC'
  have AA' : Box w2 (w1.heap.size) a := Box.keep hb (by repeat (first | fail | exact Box.new _ a | apply Box.alloc))
  have AA := Lib.hid AA'
  clear AA'
  have HB2 : Hid (Below W.heap.size W w2) := Lib.hid (below_then (by repeat (first | exact HB1.out | apply below_new)) hb)
  clear hb HB1
  obtain ⟨zCC, cCC0, cCC1, cCC2, cCC3, cCC4, cCC5⟩ := CC.out
  have nCC : ¬ W.heap.size = w2.heap.size := by omega
  go_wp2_with fail
  clear zCC nCC cCC0 cCC1 cCC2 cCC3 cCC4 cCC5
  refine (G1.out _).mono ?_
  rintro e w3 ⟨rfl, hb⟩
  have CC' : Box w3 (W.heap.size) c := Box.keep hb (by repeat (first | exact CC.out | exact Box.new _ c | apply Box.alloc))
  clear CC
  have CC := Lib.hid CC'
  clear CC'
  have AA' : Box w3 (w1.heap.size) a := Box.keep hb (by repeat (first | exact AA.out | exact Box.new _ a | apply Box.alloc))
  clear AA
  have AA := Lib.hid AA'
  clear AA'
  have AB' : Box w3 (w2.heap.size) a := Box.keep hb (by repeat (first | fail | exact Box.new _ a | apply Box.alloc))
  have AB := Lib.hid AB'
  clear AB'
  have HB3 : Hid (Below W.heap.size W w3) := Lib.hid (below_then (by repeat (first | exact HB2.out | apply below_new)) hb)
  clear hb HB2
  obtain ⟨zCC, cCC0, cCC1, cCC2, cCC3, cCC4, cCC5⟩ := CC.out
  have nCC : ¬ W.heap.size = w3.heap.size := by omega
  go_wp2_with fail
  clear zCC nCC cCC0 cCC1 cCC2 cCC3 cCC4 cCC5
  refine (GR1.out _).mono ?_
  rintro e w4 ⟨rfl, hb⟩
  clear CC
  have AA' : Box w4 (w1.heap.size) a := Box.keep hb (by repeat (first | exact AA.out | exact Box.new _ a | apply Box.alloc))
  clear AA
  have AA := Lib.hid AA'
  clear AA'
  have AB' : Box w4 (w2.heap.size) a := Box.keep hb (by repeat (first | exact AB.out | exact Box.new _ a | apply Box.alloc))
  clear AB
  have AB := Lib.hid AB'
  clear AB'
  have XX' : Box w4 (w3.heap.size) x := Box.keep hb (by repeat (first | fail | exact Box.new _ x | apply Box.alloc))
  have XX := Lib.hid XX'
  clear XX'
  have HB4 : Hid (Below W.heap.size W w4) := Lib.hid (below_then (by repeat (first | exact HB3.out | apply below_new)) hb)
  clear hb HB3
  go_wp2_with fail
  refine (fixed_true _).mono ?_
  rintro e w5 ⟨rfl, hb⟩
  have AA' : Box w5 (w1.heap.size) a := Box.keep hb (by repeat (first | exact AA.out | exact Box.new _ a | apply Box.alloc))
  clear AA
  have AA := Lib.hid AA'
  clear AA'
  have AB' : Box w5 (w2.heap.size) a := Box.keep hb (by repeat (first | exact AB.out | exact Box.new _ a | apply Box.alloc))
  clear AB
  have AB := Lib.hid AB'
  clear AB'
  have XX' : Box w5 (w3.heap.size) x := Box.keep hb (by repeat (first | exact XX.out | exact Box.new _ x | apply Box.alloc))
  clear XX
  have XX := Lib.hid XX'
  clear XX'
  have XY' : Box w5 (w4.heap.size) x := Box.keep hb (by repeat (first | fail | exact Box.new _ x | apply Box.alloc))
  have XY := Lib.hid XY'
  clear XY'
  have HB5 : Hid (Below W.heap.size W w5) := Lib.hid (below_then (by repeat (first | exact HB4.out | apply below_new)) hb)
  clear hb HB4
  obtain ⟨zAA, cAA0, cAA1, cAA2, cAA3, cAA4, cAA5⟩ := AA.out
  have nAA : ¬ w1.heap.size = w5.heap.size := by omega
  obtain ⟨zAB, cAB0, cAB1, cAB2, cAB3, cAB4, cAB5⟩ := AB.out
  have nAB : ¬ w2.heap.size = w5.heap.size := by omega
  obtain ⟨zXX, cXX0, cXX1, cXX2, cXX3, cXX4, cXX5⟩ := XX.out
  have nXX : ¬ w3.heap.size = w5.heap.size := by omega
  obtain ⟨zXY, cXY0, cXY1, cXY2, cXY3, cXY4, cXY5⟩ := XY.out
  have nXY : ¬ w4.heap.size = w5.heap.size := by omega
  go_wp2_with fail
  go_ret
  exact ⟨rfl, (by repeat (first | exact HB5.out | apply below_new))⟩


set_option maxRecDepth 100000 in
theorem capsMints_lifted (os : Os) (started : os.Started) (H : Type) (enc : TypeId × Value → H) :
    ReturnsInHanded {} Try.checked os 5 .any (Rows.capsMintsSpec.pre6 enc Try.prog Try.f5 Rows.capsMintsRow.domain false) (Rows.capsMintsSpec.post enc Try.prog Try.f5 false true false false) := by
  refine returnsInHanded_of_change (C := Try.checked) own_knob started (by kernel_rfl) Try.func5
    (ChangeSpec.witness6 (enc := enc) (C := Try.checked) false ⟨#[], #[.agg #[.int .i64 0, .int .i64 0, .int .i64 0, .int .u64 0, .int .u64 0, .int .i64 0], .int .i64 0, .int .u64 0], []⟩ 8 (by kernel_rfl) (by kernel_rfl) (by kernel_rfl) (by kernel_rfl)) ?_
  intro W base args ds gs before hval0 hW hcnd _
  have hval : ∀ (j : Nat) t v, Try.f5.params[j]? = some t → args[j]? = some v → Value.okWide Try.prog W .any base t v := hval0
  have hW' := hW
  obtain ⟨p, q, hA0, hV, rfl, hfz, hnd⟩ := hW
  have hA : DataW.TrodAll enc Try.prog W 0 (fun _ => true) true Try.f5.params.toList args.toList ds p := hA0
  rw [Try.params5] at hA hval
  obtain ⟨v0, v1, v2, d0, d1, d2, p0, p1, p2, rfl, rfl, rfl, h0, h1, h2⟩ := trodAll_three hA
  obtain ⟨rfl, rfl⟩ := trodVars_none hV
  clear hA0 hval0
  simp only [List.append_nil] at hW'
  have hlt : ∀ x ∈ p0 ++ p1 ++ p2, x.block < W.heap.size := fun x hx => by simpa using hW'.lt x hx
  have g0 : ∀ W' : World, Below W.heap.size W W' → DataW.Trod enc Try.prog W' 0 (fun b => decide (b < W.heap.size)) true 24 v0 d0 p0 :=
    fun W' hn => Below.trod laid_out (by kernel_rfl) (of_decide_eq_true (by kernel_rfl)) h0 hn (fun x hx => hlt x (by simp [hx]))
  have g1 : ∀ W' : World, Below W.heap.size W W' → DataW.Trod enc Try.prog W' 0 (fun b => decide (b < W.heap.size)) true 3 v1 d1 p1 :=
    fun W' hn => Below.trod laid_out (by kernel_rfl) (of_decide_eq_true (by kernel_rfl)) h1 hn (fun x hx => hlt x (by simp [hx]))
  have g2 : ∀ W' : World, Below W.heap.size W W' → DataW.Trod enc Try.prog W' 0 (fun b => decide (b < W.heap.size)) true 22 v2 d2 p2 :=
    fun W' hn => Below.trod laid_out (by kernel_rfl) (of_decide_eq_true (by kernel_rfl)) h2 hn (fun x hx => hlt x (by simp [hx]))
  obtain ⟨c, rfl, l0b, l0g⟩ := open_cap (hval 0 24 v0 rfl rfl) h0
  obtain ⟨n, rfl, _, _, w1⟩ := open_int Try.underlying3 (hval 1 3 v1 rfl rfl) h1
  have l1 := int_of_wf w1
  obtain ⟨i2, rfl, _, _, w2⟩ := open_int Try.underlying22 (hval 2 22 v2 rfl rfl) h2
  obtain ⟨v, rfl, l2⟩ := word_of_wf w2
  refine (capsMints_walk c n v l0g ⟨l2⟩ W).mono fun e W' ⟨he, hn⟩ => ?_
  subst he
  exact ⟨_, rfl, _, _, _, [], p0 ++ p1 ++ p2, [], hW', trodAll_mk1 (shut_bool Try.underlying4 true), (by rw [List.append_assoc p0 p1 p2]; exact trodAll_mk3 (g0 W' hn) (g1 W' hn) (g2 W' hn)), rfl, hn.frame _, fun h => by cases h⟩

theorem capsMints_holds : Rows.CapsMintsSaid :=
  OpenClaim.holds_of_wide 5 Try.f5 rfl rfl rfl rfl rfl rfl rfl ⟨rfl, rfl, rfl, rfl, rfl⟩ rfl rfl rfl rfl rfl (by kernel_rfl) Try.func5 (by kernel_rfl)
    (of_decide_eq_true (by kernel_rfl)) (by unfold Func.isWrapper; first | (rw [if_pos (by decide +kernel)]; kernel_rfl) | (rw [if_neg (by decide +kernel)]; exact ⟨rfl, rfl⟩))
    (fun os started H enc _ => capsMints_lifted os started H enc)
#print axioms capsMints_holds
end Go.Proofs.Ythgiofgedeijoaa
