/- Minted twice, with some rights and then others, it has those that both let it: for every input, no condition. -/
import Derived.Test.YthgiofgedeijoaaCmore
import Derived.Test.YthgiofgedeijoaaCfacts
set_option linter.unusedVariables false
set_option linter.unusedSimpArgs false
namespace Go.Proofs.Ythgiofgedeijoaa
open Go.ChangeShapes Go.WideShapes Go.ChangeAt Go.RowKit Go.Joins Wd Cd

set_option maxRecDepth 100000 in
set_option maxHeartbeats 3200000 in
theorem capsLess_good (c a b : Cp) (n k s1 s2 s3 : Int) (h1 : bits .and .i64 n 7 = s1) (h2 : bits .and .i64 k 7 = s2) (h3 : bits .and .i64 (bits .and .i64 n k) 7 = s3) (hm1 : mintU c s1 0 = (a, 0)) (hm2 : mintU a s2 0 = (b, 0)) (hm3 : mintU c s3 0 = (b, 0)) (hl : (bits .andNot .i64 b.r c.r == 0) = true) (hg : Word c.g) (hga : Word a.g) (W : World) :
    Calls Try.prog 3 #[(.agg #[.int .i64 c.k, .int .i64 c.o, .int .i64 c.r, .int .u64 c.b, .int .u64 c.g, .int .i64 c.n]), .int .i64 n, .int .i64 k] W fun e w' => e = .returned (.bool true) ∧ Below W.heap.size W w' := by
  have m1 : ∀ w : World, Calls Try.prog 11 #[(.agg #[.int .i64 c.k, .int .i64 c.o, .int .i64 c.r, .int .u64 c.b, .int .u64 c.g, .int .i64 c.n]), .int .i64 s1, .int .u64 0] w fun e w' => e = .returned (.tuple #[(.agg #[.int .i64 a.k, .int .i64 a.o, .int .i64 a.r, .int .u64 a.b, .int .u64 a.g, .int .i64 a.n]), .int .i64 0]) ∧ Below w.heap.size w w' := fun w => by
    have h := mint_any c s1 0 hg w
    rw [hm1] at h
    exact h
  have M1 := Lib.hid m1
  clear m1
  have m2 : ∀ w : World, Calls Try.prog 11 #[(.agg #[.int .i64 a.k, .int .i64 a.o, .int .i64 a.r, .int .u64 a.b, .int .u64 a.g, .int .i64 a.n]), .int .i64 s2, .int .u64 0] w fun e w' => e = .returned (.tuple #[(.agg #[.int .i64 b.k, .int .i64 b.o, .int .i64 b.r, .int .u64 b.b, .int .u64 b.g, .int .i64 b.n]), .int .i64 0]) ∧ Below w.heap.size w w' := fun w => by
    have h := mint_any a s2 0 hga w
    rw [hm2] at h
    exact h
  have M2 := Lib.hid m2
  clear m2
  have m3 : ∀ w : World, Calls Try.prog 11 #[(.agg #[.int .i64 c.k, .int .i64 c.o, .int .i64 c.r, .int .u64 c.b, .int .u64 c.g, .int .i64 c.n]), .int .i64 s3, .int .u64 0] w fun e w' => e = .returned (.tuple #[(.agg #[.int .i64 b.k, .int .i64 b.o, .int .i64 b.r, .int .u64 b.b, .int .u64 b.g, .int .i64 b.n]), .int .i64 0]) ∧ Below w.heap.size w w' := fun w => by
    have h := mint_any c s3 0 hg w
    rw [hm3] at h
    exact h
  have M3 := Lib.hid m3
  clear m3
  have q1 : ∀ w : World, (Op.equalIn 10000 24 (.agg #[.int .i64 b.k, .int .i64 b.o, .int .i64 b.r, .int .u64 b.b, .int .u64 b.g, .int .i64 b.n]) (.agg #[.int .i64 b.k, .int .i64 b.o, .int .i64 b.r, .int .u64 b.b, .int .u64 b.g, .int .i64 b.n])).run Try.prog w = .ok true w := fun w => eq_self b w
  go_enter Try.func3, Try.ntmps3
  go_wp2_with fail
  refine (M1.out _).mono ?_
  rintro e w1 ⟨rfl, hb⟩
  have CC' : Box w1 (W.heap.size) c := Box.keep hb (by repeat (first | fail | exact Box.new _ c | exact Box.new_at (c := c) (by simp) | apply Box.alloc))
  have CC := Lib.hid CC'
  clear CC'
  have HB1 : Hid (Below W.heap.size W w1) := Lib.hid (below_then (by repeat (first | exact (Below.refl _ _) | apply below_new)) hb)
  clear hb
  go_wp2_with fail
  refine (M2.out _).mono ?_
  rintro e w2 ⟨rfl, hb⟩
  have CC' : Box w2 (W.heap.size) c := Box.keep hb (by repeat (first | exact CC.out | exact Box.new _ c | exact Box.new_at (c := c) (by simp) | apply Box.alloc))
  clear CC
  have CC := Lib.hid CC'
  clear CC'
  have HB2 : Hid (Below W.heap.size W w2) := Lib.hid (below_then (by repeat (first | exact HB1.out | apply below_new)) hb)
  clear hb HB1
  obtain ⟨zCC, cCC0, cCC1, cCC2, cCC3, cCC4, cCC5⟩ := CC.out
  have nCC : ¬ W.heap.size = w2.heap.size := by omega
  go_wp2_with fail
  clear zCC nCC cCC0 cCC1 cCC2 cCC3 cCC4 cCC5
  refine (M3.out _).mono ?_
  rintro e w3 ⟨rfl, hb⟩
  have CC' : Box w3 (W.heap.size) c := Box.keep hb (by repeat (first | exact CC.out | exact Box.new _ c | exact Box.new_at (c := c) (by simp) | apply Box.alloc))
  clear CC
  have CC := Lib.hid CC'
  clear CC'
  have BB' : Box w3 (w2.heap.size) b := Box.keep hb (by repeat (first | fail | exact Box.new _ b | exact Box.new_at (c := b) (by simp) | apply Box.alloc))
  have BB := Lib.hid BB'
  clear BB'
  have HB3 : Hid (Below W.heap.size W w3) := Lib.hid (below_then (by repeat (first | exact HB2.out | apply below_new)) hb)
  clear hb HB2
  obtain ⟨zCC, cCC0, cCC1, cCC2, cCC3, cCC4, cCC5⟩ := CC.out
  have nCC : ¬ W.heap.size = w3.heap.size := by omega
  obtain ⟨zBB, cBB0, cBB1, cBB2, cBB3, cBB4, cBB5⟩ := BB.out
  have nBB : ¬ w2.heap.size = w3.heap.size := by omega
  go_wp2_with fail
  clear zCC nCC cCC0 cCC1 cCC2 cCC3 cCC4 cCC5
  clear zBB nBB cBB0 cBB1 cBB2 cBB3 cBB4 cBB5
  refine (fixed_true _).mono ?_
  rintro e w4 ⟨rfl, hb⟩
  clear CC
  clear BB
  have HB4 : Hid (Below W.heap.size W w4) := Lib.hid (below_then (by repeat (first | exact HB3.out | apply below_new)) hb)
  clear hb HB3
  go_wp2_with fail
  go_ret
  exact ⟨rfl, (by repeat (first | exact HB4.out | apply below_new))⟩

set_option maxRecDepth 100000 in
set_option maxHeartbeats 3200000 in
theorem capsLess_bad (c : Cp) (i : Int) (n k s1 s2 s3 : Int) (h1 : bits .and .i64 n 7 = s1) (h2 : bits .and .i64 k 7 = s2) (h3 : bits .and .i64 (bits .and .i64 n k) 7 = s3) (hm1 : mintU c s1 0 = (zero, i)) (hm2 : mintU zero s2 0 = (zero, 41)) (hm3 : mintU c s3 0 = (zero, i)) (hi : (i != 0) = true) (hg : Word c.g) (W : World) :
    Calls Try.prog 3 #[(.agg #[.int .i64 c.k, .int .i64 c.o, .int .i64 c.r, .int .u64 c.b, .int .u64 c.g, .int .i64 c.n]), .int .i64 n, .int .i64 k] W fun e w' => e = .returned (.bool true) ∧ Below W.heap.size W w' := by
  have m1 : ∀ w : World, Calls Try.prog 11 #[(.agg #[.int .i64 c.k, .int .i64 c.o, .int .i64 c.r, .int .u64 c.b, .int .u64 c.g, .int .i64 c.n]), .int .i64 s1, .int .u64 0] w fun e w' => e = .returned (.tuple #[(.agg #[.int .i64 0, .int .i64 0, .int .i64 0, .int .u64 0, .int .u64 0, .int .i64 0]), .int .i64 i]) ∧ Below w.heap.size w w' := fun w => by
    have h := mint_any c s1 0 hg w
    rw [hm1] at h
    exact h
  have M1 := Lib.hid m1
  clear m1
  have m2 : ∀ w : World, Calls Try.prog 11 #[(.agg #[.int .i64 0, .int .i64 0, .int .i64 0, .int .u64 0, .int .u64 0, .int .i64 0]), .int .i64 s2, .int .u64 0] w fun e w' => e = .returned (.tuple #[(.agg #[.int .i64 0, .int .i64 0, .int .i64 0, .int .u64 0, .int .u64 0, .int .i64 0]), .int .i64 41]) ∧ Below w.heap.size w w' := fun w => by
    have h := mint_any zero s2 0 ⟨by decide⟩ w
    rw [hm2] at h
    exact h
  have M2 := Lib.hid m2
  clear m2
  have m3 : ∀ w : World, Calls Try.prog 11 #[(.agg #[.int .i64 c.k, .int .i64 c.o, .int .i64 c.r, .int .u64 c.b, .int .u64 c.g, .int .i64 c.n]), .int .i64 s3, .int .u64 0] w fun e w' => e = .returned (.tuple #[(.agg #[.int .i64 0, .int .i64 0, .int .i64 0, .int .u64 0, .int .u64 0, .int .i64 0]), .int .i64 i]) ∧ Below w.heap.size w w' := fun w => by
    have h := mint_any c s3 0 hg w
    rw [hm3] at h
    exact h
  have M3 := Lib.hid m3
  clear m3
  have q1 : ∀ w : World, (Op.equalIn 10000 24 (.agg #[.int .i64 0, .int .i64 0, .int .i64 0, .int .u64 0, .int .u64 0, .int .i64 0]) (.agg #[.int .i64 0, .int .i64 0, .int .i64 0, .int .u64 0, .int .u64 0, .int .i64 0])).run Try.prog w = .ok true w := fun w => eq_self zero w
  go_enter Try.func3, Try.ntmps3
  go_wp2_with fail
  refine (M1.out _).mono ?_
  rintro e w1 ⟨rfl, hb⟩
  have CC' : Box w1 (W.heap.size) c := Box.keep hb (by repeat (first | fail | exact Box.new _ c | exact Box.new_at (c := c) (by simp) | apply Box.alloc))
  have CC := Lib.hid CC'
  clear CC'
  have HB1 : Hid (Below W.heap.size W w1) := Lib.hid (below_then (by repeat (first | exact (Below.refl _ _) | apply below_new)) hb)
  clear hb
  go_wp2_with fail
  refine (M2.out _).mono ?_
  rintro e w2 ⟨rfl, hb⟩
  have CC' : Box w2 (W.heap.size) c := Box.keep hb (by repeat (first | exact CC.out | exact Box.new _ c | exact Box.new_at (c := c) (by simp) | apply Box.alloc))
  clear CC
  have CC := Lib.hid CC'
  clear CC'
  have AA' : Box w2 (w1.heap.size) zero := Box.keep hb (by repeat (first | fail | exact Box.new _ zero | exact Box.new_at (c := zero) (by simp) | apply Box.alloc))
  have AA := Lib.hid AA'
  clear AA'
  have HB2 : Hid (Below W.heap.size W w2) := Lib.hid (below_then (by repeat (first | exact HB1.out | apply below_new)) hb)
  clear hb HB1
  obtain ⟨zCC, cCC0, cCC1, cCC2, cCC3, cCC4, cCC5⟩ := CC.out
  have nCC : ¬ W.heap.size = w2.heap.size := by omega
  go_wp2_with fail
  clear zCC nCC cCC0 cCC1 cCC2 cCC3 cCC4 cCC5
  refine (M3.out _).mono ?_
  rintro e w3 ⟨rfl, hb⟩
  clear CC
  have AA' : Box w3 (w1.heap.size) zero := Box.keep hb (by repeat (first | exact AA.out | exact Box.new _ zero | exact Box.new_at (c := zero) (by simp) | apply Box.alloc))
  clear AA
  have AA := Lib.hid AA'
  clear AA'
  have HB3 : Hid (Below W.heap.size W w3) := Lib.hid (below_then (by repeat (first | exact HB2.out | apply below_new)) hb)
  clear hb HB2
  obtain ⟨zAA, cAA0, cAA1, cAA2, cAA3, cAA4, cAA5⟩ := AA.out
  have nAA : ¬ w1.heap.size = w3.heap.size := by omega
  go_wp2_with fail
  clear zAA nAA cAA0 cAA1 cAA2 cAA3 cAA4 cAA5
  refine (fixed_true _).mono ?_
  rintro e w4 ⟨rfl, hb⟩
  clear AA
  have HB4 : Hid (Below W.heap.size W w4) := Lib.hid (below_then (by repeat (first | exact HB3.out | apply below_new)) hb)
  clear hb HB3
  go_wp2_with fail
  go_ret
  exact ⟨rfl, (by repeat (first | exact HB4.out | apply below_new))⟩

theorem capsLess_walk (c : Cp) (n k : Int) (hg : Word c.g) (W : World) :
    Calls Try.prog 3 #[(.agg #[.int .i64 c.k, .int .i64 c.o, .int .i64 c.r, .int .u64 c.b, .int .u64 c.g, .int .i64 c.n]), .int .i64 n, .int .i64 k] W fun e w' => e = .returned (.bool true) ∧ Below W.heap.size W w' := by
  have r1 := and7 n
  have r2 := and7 k
  have h3 := and7_and n k
  obtain ⟨⟨a, i⟩, hm⟩ : ∃ q, mintU c (bits .and .i64 n 7) 0 = q := ⟨_, rfl⟩
  by_cases hi : i = 0
  · subst hi
    obtain ⟨b, e1, e2, e3⟩ := less_good hm r2
    exact capsLess_good c a b n k _ _ _ rfl rfl h3 hm e1 e2 e3 hg (mint_words hg hm) W
  · obtain ⟨rfl, e1, e2⟩ := less_bad hm r1 r2 hi
    exact capsLess_bad c i n k _ _ _ rfl rfl h3 hm e1 e2 (by simpa using hi) hg W


set_option maxRecDepth 100000 in
theorem capsLess_lifted (os : Os) (started : os.Started) (H : Type) (enc : TypeId × Value → H) :
    ReturnsInHanded {} Try.checked os 3 .any (Rows.capsLessSpec.pre6 enc Try.prog Try.f3 Rows.capsLessRow.domain false) (Rows.capsLessSpec.post enc Try.prog Try.f3 false true false false) := by
  refine returnsInHanded_of_change (C := Try.checked) own_knob started (by kernel_rfl) Try.func3
    (ChangeSpec.witness6 (enc := enc) (C := Try.checked) false ⟨#[], #[.agg #[.int .i64 0, .int .i64 0, .int .i64 0, .int .u64 0, .int .u64 0, .int .i64 0], .int .i64 0, .int .i64 0], []⟩ 8 (by kernel_rfl) (by kernel_rfl) (by kernel_rfl) (by kernel_rfl)) ?_
  intro W base args ds gs before hval0 hW hcnd _
  have hval : ∀ (j : Nat) t v, Try.f3.params[j]? = some t → args[j]? = some v → Value.okWide Try.prog W .any base t v := hval0
  have hW' := hW
  obtain ⟨p, q, hA0, hV, rfl, hfz, hnd⟩ := hW
  have hA : DataW.TrodAll enc Try.prog W 0 (fun _ => true) true Try.f3.params.toList args.toList ds p := hA0
  rw [Try.params3] at hA hval
  obtain ⟨v0, v1, v2, d0, d1, d2, p0, p1, p2, rfl, rfl, rfl, h0, h1, h2⟩ := trodAll_three hA
  obtain ⟨rfl, rfl⟩ := trodVars_none hV
  clear hA0 hval0
  simp only [List.append_nil] at hW'
  have hlt : ∀ x ∈ p0 ++ p1 ++ p2, x.block < W.heap.size := fun x hx => by simpa using hW'.lt x hx
  have g0 : ∀ W' : World, Below W.heap.size W W' → DataW.Trod enc Try.prog W' 0 (fun b => decide (b < W.heap.size)) true 24 v0 d0 p0 :=
    fun W' hn => Below.trod laid_out (by kernel_rfl) (of_decide_eq_true (by kernel_rfl)) h0 hn (fun x hx => hlt x (by simp [hx]))
  have g1 : ∀ W' : World, Below W.heap.size W W' → DataW.Trod enc Try.prog W' 0 (fun b => decide (b < W.heap.size)) true 3 v1 d1 p1 :=
    fun W' hn => Below.trod laid_out (by kernel_rfl) (of_decide_eq_true (by kernel_rfl)) h1 hn (fun x hx => hlt x (by simp [hx]))
  have g2 : ∀ W' : World, Below W.heap.size W W' → DataW.Trod enc Try.prog W' 0 (fun b => decide (b < W.heap.size)) true 3 v2 d2 p2 :=
    fun W' hn => Below.trod laid_out (by kernel_rfl) (of_decide_eq_true (by kernel_rfl)) h2 hn (fun x hx => hlt x (by simp [hx]))
  obtain ⟨c, rfl, l0b, l0g⟩ := open_cap (hval 0 24 v0 rfl rfl) h0
  obtain ⟨n, rfl, _, _, w1⟩ := open_int Try.underlying3 (hval 1 3 v1 rfl rfl) h1
  have l1 := int_of_wf w1
  obtain ⟨k, rfl, _, _, w2⟩ := open_int Try.underlying3 (hval 2 3 v2 rfl rfl) h2
  have l2 := int_of_wf w2
  refine (capsLess_walk c n k l0g W).mono fun e W' ⟨he, hn⟩ => ?_
  subst he
  exact ⟨_, rfl, _, _, _, [], p0 ++ p1 ++ p2, [], hW', trodAll_mk1 (shut_bool Try.underlying4 true), (by rw [List.append_assoc p0 p1 p2]; exact trodAll_mk3 (g0 W' hn) (g1 W' hn) (g2 W' hn)), rfl, hn.frame _, fun h => by cases h⟩

theorem capsLess_holds : Rows.CapsLessSaid :=
  OpenClaim.holds_of_wide 3 Try.f3 rfl rfl rfl rfl rfl rfl rfl ⟨rfl, rfl, rfl, rfl, rfl⟩ rfl rfl rfl rfl rfl (by kernel_rfl) Try.func3 (by kernel_rfl)
    (of_decide_eq_true (by kernel_rfl)) (by unfold Func.isWrapper; first | (rw [if_pos (by decide +kernel)]; kernel_rfl) | (rw [if_neg (by decide +kernel)]; exact ⟨rfl, rfl⟩))
    (fun os started H enc _ => capsLess_lifted os started H enc)
#print axioms capsLess_holds
end Go.Proofs.Ythgiofgedeijoaa
