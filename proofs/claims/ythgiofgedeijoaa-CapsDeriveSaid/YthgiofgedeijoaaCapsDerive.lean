/- What is minted may be, and derives of what it was minted of; of three the order goes on; a badge stays: for every input, no condition. -/
import Derived.Test.YthgiofgedeijoaaCmore
import Derived.Test.YthgiofgedeijoaaCfacts
set_option linter.unusedVariables false
set_option linter.unusedSimpArgs false
namespace Go.Proofs.Ythgiofgedeijoaa
open Go.ChangeShapes Go.WideShapes Go.ChangeAt Go.RowKit Go.Joins Wd Cd

theorem check_okb (c : Cp) (hg : Word c.g) (ok : c.Ok) (w : World) : Calls Try.prog 14 #[(.agg #[.int .i64 c.k, .int .i64 c.o, .int .i64 c.r, .int .u64 c.b, .int .u64 c.g, .int .i64 c.n])] w fun e w' => e = .returned (.int .i64 0) ∧ Below w.heap.size w w' := by
  refine (check_ok c hg ok w).mono ?_
  rintro e w' ⟨rfl, rfl⟩
  exact ⟨rfl, below_new (Below.refl _ _) _⟩

theorem der_yes (p c : Cp) (h : derB p c = true) (w : World) : Calls Try.prog 22 #[(.agg #[.int .i64 p.k, .int .i64 p.o, .int .i64 p.r, .int .u64 p.b, .int .u64 p.g, .int .i64 p.n]), (.agg #[.int .i64 c.k, .int .i64 c.o, .int .i64 c.r, .int .u64 c.b, .int .u64 c.g, .int .i64 c.n])] w fun e w' => e = .returned (.bool true) ∧ Below w.heap.size w w' := by
  have k := derives_any p c w
  rw [h] at k
  exact k
theorem same_yes (a b : Cp) (h : sameB a b = true) (w : World) : Calls Try.prog 15 #[(.agg #[.int .i64 a.k, .int .i64 a.o, .int .i64 a.r, .int .u64 a.b, .int .u64 a.g, .int .i64 a.n]), (.agg #[.int .i64 b.k, .int .i64 b.o, .int .i64 b.r, .int .u64 b.b, .int .u64 b.g, .int .i64 b.n])] w fun e w' => e = .returned (.bool true) ∧ Below w.heap.size w w' := by
  have k := same_below a b w
  rw [h] at k
  exact k

set_option maxRecDepth 100000 in
set_option maxHeartbeats 3200000 in
theorem capsDerive_free (c a b d : Cp) (n s1 s2 : Int) (v : Nat) (g : Int) (h1 : bits .and .i64 n 7 = s1) (h2 : bits .and .i64 (n / 8) 7 = s2) (hm1 : mintU c s1 v = (a, 0)) (hm2 : mintU a s2 0 = (b, 0)) (hm3 : mintU b 7 99 = (d, g)) (hg : Word c.g) (hga : Word a.g) (hgb : Word b.g) (oka : a.Ok) (okb : b.Ok) (dca : derB c a = true) (dab : derB a b = true) (dcb : derB c b = true) (hbb : ((b.b : Int) != (a.b : Int)) = false) (hs : sameB b c = true) (hz : ((a.b : Int) == 0) = true) (W : World) :
    Calls Try.prog 8 #[(.agg #[.int .i64 c.k, .int .i64 c.o, .int .i64 c.r, .int .u64 c.b, .int .u64 c.g, .int .i64 c.n]), .int .i64 n, .int .u64 v] W fun e w' => e = .returned (.bool true) ∧ Below W.heap.size W w' := by
  have m1 : ∀ w : World, Calls Try.prog 11 #[(.agg #[.int .i64 c.k, .int .i64 c.o, .int .i64 c.r, .int .u64 c.b, .int .u64 c.g, .int .i64 c.n]), .int .i64 s1, .int .u64 v] w fun e w' => e = .returned (.tuple #[(.agg #[.int .i64 a.k, .int .i64 a.o, .int .i64 a.r, .int .u64 a.b, .int .u64 a.g, .int .i64 a.n]), .int .i64 0]) ∧ Below w.heap.size w w' := fun w => by
    have h := mint_any c s1 v hg w
    rw [hm1] at h
    exact h
  have M1 := Lib.hid m1
  clear m1
  have m2 : ∀ w : World, Calls Try.prog 11 #[(.agg #[.int .i64 a.k, .int .i64 a.o, .int .i64 a.r, .int .u64 a.b, .int .u64 a.g, .int .i64 a.n]), .int .i64 s2, .int .u64 0] w fun e w' => e = .returned (.tuple #[(.agg #[.int .i64 b.k, .int .i64 b.o, .int .i64 b.r, .int .u64 b.b, .int .u64 b.g, .int .i64 b.n]), .int .i64 0]) ∧ Below w.heap.size w w' := fun w => by
    have h := mint_any a s2 0 hga w
    rw [hm2] at h
    exact h
  have M2 := Lib.hid m2
  clear m2
  have m3 : ∀ w : World, Calls Try.prog 11 #[(.agg #[.int .i64 b.k, .int .i64 b.o, .int .i64 b.r, .int .u64 b.b, .int .u64 b.g, .int .i64 b.n]), .int .i64 7, .int .u64 99] w fun e w' => e = .returned (.tuple #[(.agg #[.int .i64 d.k, .int .i64 d.o, .int .i64 d.r, .int .u64 d.b, .int .u64 d.g, .int .i64 d.n]), .int .i64 g]) ∧ Below w.heap.size w w' := fun w => by
    have h := mint_any b 7 99 hgb w
    rw [hm3] at h
    exact h
  have M3 := Lib.hid m3
  clear m3
  have OKA := Lib.hid oka
  clear oka
  have OKB := Lib.hid okb
  clear okb
  have DCA := Lib.hid dca
  clear dca
  have DAB := Lib.hid dab
  clear dab
  have DCB := Lib.hid dcb
  clear dcb
  have HS := Lib.hid hs
  clear hs
  clear hm1 hm2 hm3
  go_enter Try.func8, Try.ntmps8
  go_wp2_with fail
  refine (M1.out _).mono ?_
  rintro e w1 ⟨rfl, hb⟩
  have CC' : Box w1 (W.heap.size) c := Box.keep hb (by repeat (first | fail | exact Box.new _ c | exact Box.new_at (c := c) (by simp) | apply Box.alloc))
  have CC := Lib.hid CC'
  clear CC'
  have HB1 : Hid (Below W.heap.size W w1) := Lib.hid (below_then (by repeat (first | exact (Below.refl _ _) | apply below_new | apply below_draws)) hb)
  clear hb
  go_wp2_with fail
  refine (M2.out _).mono ?_
  rintro e w2 ⟨rfl, hb⟩
  have CC' : Box w2 (W.heap.size) c := Box.keep hb (by repeat (first | exact CC.out | exact Box.new _ c | exact Box.new_at (c := c) (by simp) | apply Box.alloc))
  clear CC
  have CC := Lib.hid CC'
  clear CC'
  have AA' : Box w2 (w1.heap.size) a := Box.keep hb (by repeat (first | fail | exact Box.new _ a | exact Box.new_at (c := a) (by simp) | apply Box.alloc))
  have AA := Lib.hid AA'
  clear AA'
  have HB2 : Hid (Below W.heap.size W w2) := Lib.hid (below_then (by repeat (first | exact HB1.out | apply below_new | apply below_draws)) hb)
  clear hb HB1
  go_wp2_with fail
  refine (M3.out _).mono ?_
  rintro e w3 ⟨rfl, hb⟩
  have CC' : Box w3 (W.heap.size) c := Box.keep hb (by repeat (first | exact CC.out | exact Box.new _ c | exact Box.new_at (c := c) (by simp) | apply Box.alloc))
  clear CC
  have CC := Lib.hid CC'
  clear CC'
  have AA' : Box w3 (w1.heap.size) a := Box.keep hb (by repeat (first | exact AA.out | exact Box.new _ a | exact Box.new_at (c := a) (by simp) | apply Box.alloc))
  clear AA
  have AA := Lib.hid AA'
  clear AA'
  have BB' : Box w3 (w2.heap.size) b := Box.keep hb (by repeat (first | fail | exact Box.new _ b | exact Box.new_at (c := b) (by simp) | apply Box.alloc))
  have BB := Lib.hid BB'
  clear BB'
  have HB3 : Hid (Below W.heap.size W w3) := Lib.hid (below_then (by repeat (first | exact HB2.out | apply below_new | apply below_draws)) hb)
  clear hb HB2
  obtain ⟨zAA, cAA0, cAA1, cAA2, cAA3, cAA4, cAA5⟩ := AA.out
  have nAA : ¬ w1.heap.size = w3.heap.size := by omega
  obtain ⟨zBB, cBB0, cBB1, cBB2, cBB3, cBB4, cBB5⟩ := BB.out
  have nBB : ¬ w2.heap.size = w3.heap.size := by omega
  obtain ⟨zCC, cCC0, cCC1, cCC2, cCC3, cCC4, cCC5⟩ := CC.out
  have nCC : ¬ W.heap.size = w3.heap.size := by omega
  go_wp2_with fail
  clear zAA nAA cAA0 cAA1 cAA2 cAA3 cAA4 cAA5
  clear zBB nBB cBB0 cBB1 cBB2 cBB3 cBB4 cBB5
  clear zCC nCC cCC0 cCC1 cCC2 cCC3 cCC4 cCC5
  refine ((check_okb a hga OKA.out) _).mono ?_
  rintro e w4 ⟨rfl, hb⟩
  have CC' : Box w4 (W.heap.size) c := Box.keep hb (by repeat (first | exact CC.out | exact Box.new _ c | exact Box.new_at (c := c) (by simp) | apply Box.alloc))
  clear CC
  have CC := Lib.hid CC'
  clear CC'
  have AA' : Box w4 (w1.heap.size) a := Box.keep hb (by repeat (first | exact AA.out | exact Box.new _ a | exact Box.new_at (c := a) (by simp) | apply Box.alloc))
  clear AA
  have AA := Lib.hid AA'
  clear AA'
  have BB' : Box w4 (w2.heap.size) b := Box.keep hb (by repeat (first | exact BB.out | exact Box.new _ b | exact Box.new_at (c := b) (by simp) | apply Box.alloc))
  clear BB
  have BB := Lib.hid BB'
  clear BB'
  have HB4 : Hid (Below W.heap.size W w4) := Lib.hid (below_then (by repeat (first | exact HB3.out | apply below_new | apply below_draws)) hb)
  clear hb HB3
  obtain ⟨zBB, cBB0, cBB1, cBB2, cBB3, cBB4, cBB5⟩ := BB.out
  have nBB : ¬ w2.heap.size = w4.heap.size := by omega
  go_wp2_with fail
  clear zBB nBB cBB0 cBB1 cBB2 cBB3 cBB4 cBB5
  refine ((check_okb b hgb OKB.out) _).mono ?_
  rintro e w5 ⟨rfl, hb⟩
  have CC' : Box w5 (W.heap.size) c := Box.keep hb (by repeat (first | exact CC.out | exact Box.new _ c | exact Box.new_at (c := c) (by simp) | apply Box.alloc))
  clear CC
  have CC := Lib.hid CC'
  clear CC'
  have AA' : Box w5 (w1.heap.size) a := Box.keep hb (by repeat (first | exact AA.out | exact Box.new _ a | exact Box.new_at (c := a) (by simp) | apply Box.alloc))
  clear AA
  have AA := Lib.hid AA'
  clear AA'
  have BB' : Box w5 (w2.heap.size) b := Box.keep hb (by repeat (first | exact BB.out | exact Box.new _ b | exact Box.new_at (c := b) (by simp) | apply Box.alloc))
  clear BB
  have BB := Lib.hid BB'
  clear BB'
  have HB5 : Hid (Below W.heap.size W w5) := Lib.hid (below_then (by repeat (first | exact HB4.out | apply below_new | apply below_draws)) hb)
  clear hb HB4
  obtain ⟨zAA, cAA0, cAA1, cAA2, cAA3, cAA4, cAA5⟩ := AA.out
  have nAA : ¬ w1.heap.size = w5.heap.size := by omega
  obtain ⟨zCC, cCC0, cCC1, cCC2, cCC3, cCC4, cCC5⟩ := CC.out
  have nCC : ¬ W.heap.size = w5.heap.size := by omega
  go_wp2_with fail
  clear zAA nAA cAA0 cAA1 cAA2 cAA3 cAA4 cAA5
  clear zCC nCC cCC0 cCC1 cCC2 cCC3 cCC4 cCC5
  refine ((der_yes c a DCA.out) _).mono ?_
  rintro e w6 ⟨rfl, hb⟩
  have CC' : Box w6 (W.heap.size) c := Box.keep hb (by repeat (first | exact CC.out | exact Box.new _ c | exact Box.new_at (c := c) (by simp) | apply Box.alloc))
  clear CC
  have CC := Lib.hid CC'
  clear CC'
  have AA' : Box w6 (w1.heap.size) a := Box.keep hb (by repeat (first | exact AA.out | exact Box.new _ a | exact Box.new_at (c := a) (by simp) | apply Box.alloc))
  clear AA
  have AA := Lib.hid AA'
  clear AA'
  have BB' : Box w6 (w2.heap.size) b := Box.keep hb (by repeat (first | exact BB.out | exact Box.new _ b | exact Box.new_at (c := b) (by simp) | apply Box.alloc))
  clear BB
  have BB := Lib.hid BB'
  clear BB'
  have HB6 : Hid (Below W.heap.size W w6) := Lib.hid (below_then (by repeat (first | exact HB5.out | apply below_new | apply below_draws)) hb)
  clear hb HB5
  obtain ⟨zAA, cAA0, cAA1, cAA2, cAA3, cAA4, cAA5⟩ := AA.out
  have nAA : ¬ w1.heap.size = w6.heap.size := by omega
  obtain ⟨zBB, cBB0, cBB1, cBB2, cBB3, cBB4, cBB5⟩ := BB.out
  have nBB : ¬ w2.heap.size = w6.heap.size := by omega
  go_wp2_with fail
  clear zAA nAA cAA0 cAA1 cAA2 cAA3 cAA4 cAA5
  clear zBB nBB cBB0 cBB1 cBB2 cBB3 cBB4 cBB5
  refine ((der_yes a b DAB.out) _).mono ?_
  rintro e w7 ⟨rfl, hb⟩
  have CC' : Box w7 (W.heap.size) c := Box.keep hb (by repeat (first | exact CC.out | exact Box.new _ c | exact Box.new_at (c := c) (by simp) | apply Box.alloc))
  clear CC
  have CC := Lib.hid CC'
  clear CC'
  have AA' : Box w7 (w1.heap.size) a := Box.keep hb (by repeat (first | exact AA.out | exact Box.new _ a | exact Box.new_at (c := a) (by simp) | apply Box.alloc))
  clear AA
  have AA := Lib.hid AA'
  clear AA'
  have BB' : Box w7 (w2.heap.size) b := Box.keep hb (by repeat (first | exact BB.out | exact Box.new _ b | exact Box.new_at (c := b) (by simp) | apply Box.alloc))
  clear BB
  have BB := Lib.hid BB'
  clear BB'
  have HB7 : Hid (Below W.heap.size W w7) := Lib.hid (below_then (by repeat (first | exact HB6.out | apply below_new | apply below_draws)) hb)
  clear hb HB6
  obtain ⟨zCC, cCC0, cCC1, cCC2, cCC3, cCC4, cCC5⟩ := CC.out
  have nCC : ¬ W.heap.size = w7.heap.size := by omega
  obtain ⟨zBB, cBB0, cBB1, cBB2, cBB3, cBB4, cBB5⟩ := BB.out
  have nBB : ¬ w2.heap.size = w7.heap.size := by omega
  go_wp2_with fail
  clear zCC nCC cCC0 cCC1 cCC2 cCC3 cCC4 cCC5
  clear zBB nBB cBB0 cBB1 cBB2 cBB3 cBB4 cBB5
  refine ((der_yes c b DCB.out) _).mono ?_
  rintro e w8 ⟨rfl, hb⟩
  have CC' : Box w8 (W.heap.size) c := Box.keep hb (by repeat (first | exact CC.out | exact Box.new _ c | exact Box.new_at (c := c) (by simp) | apply Box.alloc))
  clear CC
  have CC := Lib.hid CC'
  clear CC'
  have AA' : Box w8 (w1.heap.size) a := Box.keep hb (by repeat (first | exact AA.out | exact Box.new _ a | exact Box.new_at (c := a) (by simp) | apply Box.alloc))
  clear AA
  have AA := Lib.hid AA'
  clear AA'
  have BB' : Box w8 (w2.heap.size) b := Box.keep hb (by repeat (first | exact BB.out | exact Box.new _ b | exact Box.new_at (c := b) (by simp) | apply Box.alloc))
  clear BB
  have BB := Lib.hid BB'
  clear BB'
  have HB8 : Hid (Below W.heap.size W w8) := Lib.hid (below_then (by repeat (first | exact HB7.out | apply below_new | apply below_draws)) hb)
  clear hb HB7
  obtain ⟨zCC, cCC0, cCC1, cCC2, cCC3, cCC4, cCC5⟩ := CC.out
  have nCC : ¬ W.heap.size = w8.heap.size := by omega
  obtain ⟨zBB, cBB0, cBB1, cBB2, cBB3, cBB4, cBB5⟩ := BB.out
  have nBB : ¬ w2.heap.size = w8.heap.size := by omega
  obtain ⟨zAA, cAA0, cAA1, cAA2, cAA3, cAA4, cAA5⟩ := AA.out
  have nAA : ¬ w1.heap.size = w8.heap.size := by omega
  go_wp2_with fail
  clear zCC nCC cCC0 cCC1 cCC2 cCC3 cCC4 cCC5
  clear zBB nBB cBB0 cBB1 cBB2 cBB3 cBB4 cBB5
  clear zAA nAA cAA0 cAA1 cAA2 cAA3 cAA4 cAA5
  refine ((same_yes b c HS.out) _).mono ?_
  rintro e w9 ⟨rfl, hb⟩
  clear CC
  clear BB
  clear AA
  have HB9 : Hid (Below W.heap.size W w9) := Lib.hid (below_then (by repeat (first | exact HB8.out | apply below_new | apply below_draws)) hb)
  clear hb HB8
  go_wp2_with fail
  refine (fixed_true _).mono ?_
  rintro e w10 ⟨rfl, hb⟩
  have HB10 : Hid (Below W.heap.size W w10) := Lib.hid (below_then (by repeat (first | exact HB9.out | apply below_new | apply below_draws)) hb)
  clear hb HB9
  go_wp2_with fail
  go_ret
  exact ⟨rfl, (by repeat (first | exact HB10.out | apply below_new | apply below_draws))⟩

set_option maxRecDepth 100000 in
set_option maxHeartbeats 3200000 in
theorem capsDerive_set (c a b d : Cp) (n s1 s2 : Int) (v : Nat) (g : Int) (h1 : bits .and .i64 n 7 = s1) (h2 : bits .and .i64 (n / 8) 7 = s2) (hm1 : mintU c s1 v = (a, 0)) (hm2 : mintU a s2 0 = (b, 0)) (hm3 : mintU b 7 99 = (d, g)) (hg : Word c.g) (hga : Word a.g) (hgb : Word b.g) (oka : a.Ok) (okb : b.Ok) (dca : derB c a = true) (dab : derB a b = true) (dcb : derB c b = true) (hbb : ((b.b : Int) != (a.b : Int)) = false) (hs : sameB b c = true) (hz : ((a.b : Int) == 0) = false) (h41 : g = 41) (W : World) :
    Calls Try.prog 8 #[(.agg #[.int .i64 c.k, .int .i64 c.o, .int .i64 c.r, .int .u64 c.b, .int .u64 c.g, .int .i64 c.n]), .int .i64 n, .int .u64 v] W fun e w' => e = .returned (.bool true) ∧ Below W.heap.size W w' := by
  have m1 : ∀ w : World, Calls Try.prog 11 #[(.agg #[.int .i64 c.k, .int .i64 c.o, .int .i64 c.r, .int .u64 c.b, .int .u64 c.g, .int .i64 c.n]), .int .i64 s1, .int .u64 v] w fun e w' => e = .returned (.tuple #[(.agg #[.int .i64 a.k, .int .i64 a.o, .int .i64 a.r, .int .u64 a.b, .int .u64 a.g, .int .i64 a.n]), .int .i64 0]) ∧ Below w.heap.size w w' := fun w => by
    have h := mint_any c s1 v hg w
    rw [hm1] at h
    exact h
  have M1 := Lib.hid m1
  clear m1
  have m2 : ∀ w : World, Calls Try.prog 11 #[(.agg #[.int .i64 a.k, .int .i64 a.o, .int .i64 a.r, .int .u64 a.b, .int .u64 a.g, .int .i64 a.n]), .int .i64 s2, .int .u64 0] w fun e w' => e = .returned (.tuple #[(.agg #[.int .i64 b.k, .int .i64 b.o, .int .i64 b.r, .int .u64 b.b, .int .u64 b.g, .int .i64 b.n]), .int .i64 0]) ∧ Below w.heap.size w w' := fun w => by
    have h := mint_any a s2 0 hga w
    rw [hm2] at h
    exact h
  have M2 := Lib.hid m2
  clear m2
  have m3 : ∀ w : World, Calls Try.prog 11 #[(.agg #[.int .i64 b.k, .int .i64 b.o, .int .i64 b.r, .int .u64 b.b, .int .u64 b.g, .int .i64 b.n]), .int .i64 7, .int .u64 99] w fun e w' => e = .returned (.tuple #[(.agg #[.int .i64 d.k, .int .i64 d.o, .int .i64 d.r, .int .u64 d.b, .int .u64 d.g, .int .i64 d.n]), .int .i64 g]) ∧ Below w.heap.size w w' := fun w => by
    have h := mint_any b 7 99 hgb w
    rw [hm3] at h
    exact h
  have M3 := Lib.hid m3
  clear m3
  have OKA := Lib.hid oka
  clear oka
  have OKB := Lib.hid okb
  clear okb
  have DCA := Lib.hid dca
  clear dca
  have DAB := Lib.hid dab
  clear dab
  have DCB := Lib.hid dcb
  clear dcb
  have HS := Lib.hid hs
  clear hs
  clear hm1 hm2 hm3
  subst h41
  go_enter Try.func8, Try.ntmps8
  go_wp2_with fail
  refine (M1.out _).mono ?_
  rintro e w1 ⟨rfl, hb⟩
  have CC' : Box w1 (W.heap.size) c := Box.keep hb (by repeat (first | fail | exact Box.new _ c | exact Box.new_at (c := c) (by simp) | apply Box.alloc))
  have CC := Lib.hid CC'
  clear CC'
  have HB1 : Hid (Below W.heap.size W w1) := Lib.hid (below_then (by repeat (first | exact (Below.refl _ _) | apply below_new | apply below_draws)) hb)
  clear hb
  go_wp2_with fail
  refine (M2.out _).mono ?_
  rintro e w2 ⟨rfl, hb⟩
  have CC' : Box w2 (W.heap.size) c := Box.keep hb (by repeat (first | exact CC.out | exact Box.new _ c | exact Box.new_at (c := c) (by simp) | apply Box.alloc))
  clear CC
  have CC := Lib.hid CC'
  clear CC'
  have AA' : Box w2 (w1.heap.size) a := Box.keep hb (by repeat (first | fail | exact Box.new _ a | exact Box.new_at (c := a) (by simp) | apply Box.alloc))
  have AA := Lib.hid AA'
  clear AA'
  have HB2 : Hid (Below W.heap.size W w2) := Lib.hid (below_then (by repeat (first | exact HB1.out | apply below_new | apply below_draws)) hb)
  clear hb HB1
  go_wp2_with fail
  refine (M3.out _).mono ?_
  rintro e w3 ⟨rfl, hb⟩
  have CC' : Box w3 (W.heap.size) c := Box.keep hb (by repeat (first | exact CC.out | exact Box.new _ c | exact Box.new_at (c := c) (by simp) | apply Box.alloc))
  clear CC
  have CC := Lib.hid CC'
  clear CC'
  have AA' : Box w3 (w1.heap.size) a := Box.keep hb (by repeat (first | exact AA.out | exact Box.new _ a | exact Box.new_at (c := a) (by simp) | apply Box.alloc))
  clear AA
  have AA := Lib.hid AA'
  clear AA'
  have BB' : Box w3 (w2.heap.size) b := Box.keep hb (by repeat (first | fail | exact Box.new _ b | exact Box.new_at (c := b) (by simp) | apply Box.alloc))
  have BB := Lib.hid BB'
  clear BB'
  have HB3 : Hid (Below W.heap.size W w3) := Lib.hid (below_then (by repeat (first | exact HB2.out | apply below_new | apply below_draws)) hb)
  clear hb HB2
  obtain ⟨zAA, cAA0, cAA1, cAA2, cAA3, cAA4, cAA5⟩ := AA.out
  have nAA : ¬ w1.heap.size = w3.heap.size := by omega
  obtain ⟨zBB, cBB0, cBB1, cBB2, cBB3, cBB4, cBB5⟩ := BB.out
  have nBB : ¬ w2.heap.size = w3.heap.size := by omega
  obtain ⟨zCC, cCC0, cCC1, cCC2, cCC3, cCC4, cCC5⟩ := CC.out
  have nCC : ¬ W.heap.size = w3.heap.size := by omega
  go_wp2_with fail
  clear zAA nAA cAA0 cAA1 cAA2 cAA3 cAA4 cAA5
  clear zBB nBB cBB0 cBB1 cBB2 cBB3 cBB4 cBB5
  clear zCC nCC cCC0 cCC1 cCC2 cCC3 cCC4 cCC5
  refine ((check_okb a hga OKA.out) _).mono ?_
  rintro e w4 ⟨rfl, hb⟩
  have CC' : Box w4 (W.heap.size) c := Box.keep hb (by repeat (first | exact CC.out | exact Box.new _ c | exact Box.new_at (c := c) (by simp) | apply Box.alloc))
  clear CC
  have CC := Lib.hid CC'
  clear CC'
  have AA' : Box w4 (w1.heap.size) a := Box.keep hb (by repeat (first | exact AA.out | exact Box.new _ a | exact Box.new_at (c := a) (by simp) | apply Box.alloc))
  clear AA
  have AA := Lib.hid AA'
  clear AA'
  have BB' : Box w4 (w2.heap.size) b := Box.keep hb (by repeat (first | exact BB.out | exact Box.new _ b | exact Box.new_at (c := b) (by simp) | apply Box.alloc))
  clear BB
  have BB := Lib.hid BB'
  clear BB'
  have HB4 : Hid (Below W.heap.size W w4) := Lib.hid (below_then (by repeat (first | exact HB3.out | apply below_new | apply below_draws)) hb)
  clear hb HB3
  obtain ⟨zBB, cBB0, cBB1, cBB2, cBB3, cBB4, cBB5⟩ := BB.out
  have nBB : ¬ w2.heap.size = w4.heap.size := by omega
  go_wp2_with fail
  clear zBB nBB cBB0 cBB1 cBB2 cBB3 cBB4 cBB5
  refine ((check_okb b hgb OKB.out) _).mono ?_
  rintro e w5 ⟨rfl, hb⟩
  have CC' : Box w5 (W.heap.size) c := Box.keep hb (by repeat (first | exact CC.out | exact Box.new _ c | exact Box.new_at (c := c) (by simp) | apply Box.alloc))
  clear CC
  have CC := Lib.hid CC'
  clear CC'
  have AA' : Box w5 (w1.heap.size) a := Box.keep hb (by repeat (first | exact AA.out | exact Box.new _ a | exact Box.new_at (c := a) (by simp) | apply Box.alloc))
  clear AA
  have AA := Lib.hid AA'
  clear AA'
  have BB' : Box w5 (w2.heap.size) b := Box.keep hb (by repeat (first | exact BB.out | exact Box.new _ b | exact Box.new_at (c := b) (by simp) | apply Box.alloc))
  clear BB
  have BB := Lib.hid BB'
  clear BB'
  have HB5 : Hid (Below W.heap.size W w5) := Lib.hid (below_then (by repeat (first | exact HB4.out | apply below_new | apply below_draws)) hb)
  clear hb HB4
  obtain ⟨zAA, cAA0, cAA1, cAA2, cAA3, cAA4, cAA5⟩ := AA.out
  have nAA : ¬ w1.heap.size = w5.heap.size := by omega
  obtain ⟨zCC, cCC0, cCC1, cCC2, cCC3, cCC4, cCC5⟩ := CC.out
  have nCC : ¬ W.heap.size = w5.heap.size := by omega
  go_wp2_with fail
  clear zAA nAA cAA0 cAA1 cAA2 cAA3 cAA4 cAA5
  clear zCC nCC cCC0 cCC1 cCC2 cCC3 cCC4 cCC5
  refine ((der_yes c a DCA.out) _).mono ?_
  rintro e w6 ⟨rfl, hb⟩
  have CC' : Box w6 (W.heap.size) c := Box.keep hb (by repeat (first | exact CC.out | exact Box.new _ c | exact Box.new_at (c := c) (by simp) | apply Box.alloc))
  clear CC
  have CC := Lib.hid CC'
  clear CC'
  have AA' : Box w6 (w1.heap.size) a := Box.keep hb (by repeat (first | exact AA.out | exact Box.new _ a | exact Box.new_at (c := a) (by simp) | apply Box.alloc))
  clear AA
  have AA := Lib.hid AA'
  clear AA'
  have BB' : Box w6 (w2.heap.size) b := Box.keep hb (by repeat (first | exact BB.out | exact Box.new _ b | exact Box.new_at (c := b) (by simp) | apply Box.alloc))
  clear BB
  have BB := Lib.hid BB'
  clear BB'
  have HB6 : Hid (Below W.heap.size W w6) := Lib.hid (below_then (by repeat (first | exact HB5.out | apply below_new | apply below_draws)) hb)
  clear hb HB5
  obtain ⟨zAA, cAA0, cAA1, cAA2, cAA3, cAA4, cAA5⟩ := AA.out
  have nAA : ¬ w1.heap.size = w6.heap.size := by omega
  obtain ⟨zBB, cBB0, cBB1, cBB2, cBB3, cBB4, cBB5⟩ := BB.out
  have nBB : ¬ w2.heap.size = w6.heap.size := by omega
  go_wp2_with fail
  clear zAA nAA cAA0 cAA1 cAA2 cAA3 cAA4 cAA5
  clear zBB nBB cBB0 cBB1 cBB2 cBB3 cBB4 cBB5
  refine ((der_yes a b DAB.out) _).mono ?_
  rintro e w7 ⟨rfl, hb⟩
  have CC' : Box w7 (W.heap.size) c := Box.keep hb (by repeat (first | exact CC.out | exact Box.new _ c | exact Box.new_at (c := c) (by simp) | apply Box.alloc))
  clear CC
  have CC := Lib.hid CC'
  clear CC'
  have AA' : Box w7 (w1.heap.size) a := Box.keep hb (by repeat (first | exact AA.out | exact Box.new _ a | exact Box.new_at (c := a) (by simp) | apply Box.alloc))
  clear AA
  have AA := Lib.hid AA'
  clear AA'
  have BB' : Box w7 (w2.heap.size) b := Box.keep hb (by repeat (first | exact BB.out | exact Box.new _ b | exact Box.new_at (c := b) (by simp) | apply Box.alloc))
  clear BB
  have BB := Lib.hid BB'
  clear BB'
  have HB7 : Hid (Below W.heap.size W w7) := Lib.hid (below_then (by repeat (first | exact HB6.out | apply below_new | apply below_draws)) hb)
  clear hb HB6
  obtain ⟨zCC, cCC0, cCC1, cCC2, cCC3, cCC4, cCC5⟩ := CC.out
  have nCC : ¬ W.heap.size = w7.heap.size := by omega
  obtain ⟨zBB, cBB0, cBB1, cBB2, cBB3, cBB4, cBB5⟩ := BB.out
  have nBB : ¬ w2.heap.size = w7.heap.size := by omega
  go_wp2_with fail
  clear zCC nCC cCC0 cCC1 cCC2 cCC3 cCC4 cCC5
  clear zBB nBB cBB0 cBB1 cBB2 cBB3 cBB4 cBB5
  refine ((der_yes c b DCB.out) _).mono ?_
  rintro e w8 ⟨rfl, hb⟩
  have CC' : Box w8 (W.heap.size) c := Box.keep hb (by repeat (first | exact CC.out | exact Box.new _ c | exact Box.new_at (c := c) (by simp) | apply Box.alloc))
  clear CC
  have CC := Lib.hid CC'
  clear CC'
  have AA' : Box w8 (w1.heap.size) a := Box.keep hb (by repeat (first | exact AA.out | exact Box.new _ a | exact Box.new_at (c := a) (by simp) | apply Box.alloc))
  clear AA
  have AA := Lib.hid AA'
  clear AA'
  have BB' : Box w8 (w2.heap.size) b := Box.keep hb (by repeat (first | exact BB.out | exact Box.new _ b | exact Box.new_at (c := b) (by simp) | apply Box.alloc))
  clear BB
  have BB := Lib.hid BB'
  clear BB'
  have HB8 : Hid (Below W.heap.size W w8) := Lib.hid (below_then (by repeat (first | exact HB7.out | apply below_new | apply below_draws)) hb)
  clear hb HB7
  obtain ⟨zCC, cCC0, cCC1, cCC2, cCC3, cCC4, cCC5⟩ := CC.out
  have nCC : ¬ W.heap.size = w8.heap.size := by omega
  obtain ⟨zBB, cBB0, cBB1, cBB2, cBB3, cBB4, cBB5⟩ := BB.out
  have nBB : ¬ w2.heap.size = w8.heap.size := by omega
  obtain ⟨zAA, cAA0, cAA1, cAA2, cAA3, cAA4, cAA5⟩ := AA.out
  have nAA : ¬ w1.heap.size = w8.heap.size := by omega
  go_wp2_with fail
  clear zCC nCC cCC0 cCC1 cCC2 cCC3 cCC4 cCC5
  clear zBB nBB cBB0 cBB1 cBB2 cBB3 cBB4 cBB5
  clear zAA nAA cAA0 cAA1 cAA2 cAA3 cAA4 cAA5
  refine ((same_yes b c HS.out) _).mono ?_
  rintro e w9 ⟨rfl, hb⟩
  clear CC
  clear BB
  clear AA
  have HB9 : Hid (Below W.heap.size W w9) := Lib.hid (below_then (by repeat (first | exact HB8.out | apply below_new | apply below_draws)) hb)
  clear hb HB8
  go_wp2_with fail
  refine (fixed_true _).mono ?_
  rintro e w10 ⟨rfl, hb⟩
  have HB10 : Hid (Below W.heap.size W w10) := Lib.hid (below_then (by repeat (first | exact HB9.out | apply below_new | apply below_draws)) hb)
  clear hb HB9
  go_wp2_with fail
  go_ret
  exact ⟨rfl, (by repeat (first | exact HB10.out | apply below_new | apply below_draws))⟩

theorem capsDerive_bad (c : Cp) (n s1 : Int) (v : Nat) (i : Int) (h1 : bits .and .i64 n 7 = s1) (hm1 : mintU c s1 v = (zero, i)) (hi : (i != 0) = true) (hg : Word c.g) (W : World) :
    Calls Try.prog 8 #[(.agg #[.int .i64 c.k, .int .i64 c.o, .int .i64 c.r, .int .u64 c.b, .int .u64 c.g, .int .i64 c.n]), .int .i64 n, .int .u64 v] W fun e w' => e = .returned (.bool true) ∧ Below W.heap.size W w' := by
  have m1 : ∀ w : World, Calls Try.prog 11 #[(.agg #[.int .i64 c.k, .int .i64 c.o, .int .i64 c.r, .int .u64 c.b, .int .u64 c.g, .int .i64 c.n]), .int .i64 s1, .int .u64 v] w fun e w' => e = .returned (.tuple #[(.agg #[.int .i64 0, .int .i64 0, .int .i64 0, .int .u64 0, .int .u64 0, .int .i64 0]), .int .i64 i]) ∧ Below w.heap.size w w' := fun w => by
    have h := mint_any c s1 v hg w
    rw [hm1] at h
    exact h
  have M1 := Lib.hid m1
  clear m1
  have q1 : ∀ w : World, (Op.equalIn 10000 24 (.agg #[.int .i64 0, .int .i64 0, .int .i64 0, .int .u64 0, .int .u64 0, .int .i64 0]) (.agg #[.int .i64 0, .int .i64 0, .int .i64 0, .int .u64 0, .int .u64 0, .int .i64 0])).run Try.prog w = .ok true w := fun w => eq_self zero w
  go_enter Try.func8, Try.ntmps8
  go_wp2_with fail
  refine (M1.out _).mono ?_
  rintro e w1 ⟨rfl, hb⟩
  have HB1 : Hid (Below W.heap.size W w1) := Lib.hid (below_then (by repeat (first | exact (Below.refl _ _) | apply below_new | apply below_draws)) hb)
  clear hb
  go_wp2_with fail
  refine (fixed_true _).mono ?_
  rintro e w2 ⟨rfl, hb⟩
  have HB2 : Hid (Below W.heap.size W w2) := Lib.hid (below_then (by repeat (first | exact HB1.out | apply below_new | apply below_draws)) hb)
  clear hb HB1
  go_wp2_with fail
  go_ret
  exact ⟨rfl, (by repeat (first | exact HB2.out | apply below_new | apply below_draws))⟩

theorem capsDerive_walk (c : Cp) (n : Int) (v : Nat) (hg : Word c.g) (W : World) :
    Calls Try.prog 8 #[(.agg #[.int .i64 c.k, .int .i64 c.o, .int .i64 c.r, .int .u64 c.b, .int .u64 c.g, .int .i64 c.n]), .int .i64 n, .int .u64 v] W fun e w' => e = .returned (.bool true) ∧ Below W.heap.size W w' := by
  obtain ⟨⟨a, i⟩, hm⟩ : ∃ q, mintU c (bits .and .i64 n 7) v = q := ⟨_, rfl⟩
  by_cases hi : i = 0
  · subst hi
    obtain ⟨b, e1, oka, okb, dca, dab, dcb, hbb, hs, h41⟩ := derive_good hm (and7 (n / 8))
    obtain ⟨⟨d, g⟩, e2⟩ : ∃ q, mintU b 7 99 = q := ⟨_, rfl⟩
    have hga := mint_words hg hm
    have hgb := mint_words hga e1
    by_cases hz : a.b = 0
    · exact capsDerive_free c a b d n _ _ v g rfl rfl hm e1 e2 hg hga hgb oka okb dca dab dcb (by simp [hbb]) hs (by simp [hz]) W
    · rcases h41 d g e2 with h | h
      · exact absurd h hz
      · exact capsDerive_set c a b d n _ _ v g rfl rfl hm e1 e2 hg hga hgb oka okb dca dab dcb (by simp [hbb]) hs (by simp; omega) h W
  · have hz := mint_zero hm hi
    subst hz
    exact capsDerive_bad c n _ v i rfl hm (by simpa using hi) hg W


set_option maxRecDepth 100000 in
theorem capsDerive_lifted (os : Os) (started : os.Started) (H : Type) (enc : TypeId × Value → H) :
    ReturnsInHanded {} Try.checked os 8 .any (Rows.capsDeriveSpec.pre6 enc Try.prog Try.f8 Rows.capsDeriveRow.domain false) (Rows.capsDeriveSpec.post enc Try.prog Try.f8 false true false false) := by
  refine returnsInHanded_of_change (C := Try.checked) own_knob started (by kernel_rfl) Try.func8
    (ChangeSpec.witness6 (enc := enc) (C := Try.checked) false ⟨#[], #[.agg #[.int .i64 0, .int .i64 0, .int .i64 0, .int .u64 0, .int .u64 0, .int .i64 0], .int .i64 0, .int .u64 0], []⟩ 8 (by kernel_rfl) (by kernel_rfl) (by kernel_rfl) (by kernel_rfl)) ?_
  intro W base args ds gs before hval0 hW hcnd _
  have hval : ∀ (j : Nat) t v, Try.f8.params[j]? = some t → args[j]? = some v → Value.okWide Try.prog W .any base t v := hval0
  have hW' := hW
  obtain ⟨p, q, hA0, hV, rfl, hfz, hnd⟩ := hW
  have hA : DataW.TrodAll enc Try.prog W 0 (fun _ => true) true Try.f8.params.toList args.toList ds p := hA0
  rw [Try.params8] at hA hval
  obtain ⟨v0, v1, v2, d0, d1, d2, p0, p1, p2, rfl, rfl, rfl, h0, h1, h2⟩ := trodAll_three hA
  obtain ⟨rfl, rfl⟩ := trodVars_none hV
  clear hA0 hval0
  simp only [List.append_nil] at hW'
  have hlt : ∀ x ∈ p0 ++ p1 ++ p2, x.block < W.heap.size := fun x hx => by simpa using hW'.lt x hx
  have g0 : ∀ W' : World, Below W.heap.size W W' → DataW.Trod enc Try.prog W' 0 (fun b => decide (b < W.heap.size)) true 24 v0 d0 p0 :=
    fun W' hn => Below.trod laid_out (by kernel_rfl) (of_decide_eq_true (by kernel_rfl)) h0 hn (fun x hx => hlt x (by simp [hx]))
  have g1 : ∀ W' : World, Below W.heap.size W W' → DataW.Trod enc Try.prog W' 0 (fun b => decide (b < W.heap.size)) true 3 v1 d1 p1 :=
    fun W' hn => Below.trod laid_out (by kernel_rfl) (of_decide_eq_true (by kernel_rfl)) h1 hn (fun x hx => hlt x (by simp [hx]))
  have g2 : ∀ W' : World, Below W.heap.size W W' → DataW.Trod enc Try.prog W' 0 (fun b => decide (b < W.heap.size)) true 22 v2 d2 p2 :=
    fun W' hn => Below.trod laid_out (by kernel_rfl) (of_decide_eq_true (by kernel_rfl)) h2 hn (fun x hx => hlt x (by simp [hx]))
  obtain ⟨c, rfl, l0b, l0g⟩ := open_cap (hval 0 24 v0 rfl rfl) h0
  obtain ⟨n, rfl, _, _, w1⟩ := open_int Try.underlying3 (hval 1 3 v1 rfl rfl) h1
  have l1 := int_of_wf w1
  obtain ⟨i2, rfl, _, _, w2⟩ := open_int Try.underlying22 (hval 2 22 v2 rfl rfl) h2
  obtain ⟨v, rfl, l2⟩ := word_of_wf w2
  refine (capsDerive_walk c n v l0g W).mono fun e W' ⟨he, hn⟩ => ?_
  subst he
  exact ⟨_, rfl, _, _, _, [], p0 ++ p1 ++ p2, [], hW', trodAll_mk1 (shut_bool Try.underlying4 true), (by rw [List.append_assoc p0 p1 p2]; exact trodAll_mk3 (g0 W' hn) (g1 W' hn) (g2 W' hn)), rfl, hn.frame _, fun h => by cases h⟩

theorem capsDerive_holds : Rows.CapsDeriveSaid :=
  OpenClaim.holds_of_wide 8 Try.f8 rfl rfl rfl rfl rfl rfl rfl ⟨rfl, rfl, rfl, rfl, rfl⟩ rfl rfl rfl rfl rfl (by kernel_rfl) Try.func8 (by kernel_rfl)
    (of_decide_eq_true (by kernel_rfl)) (by unfold Func.isWrapper; first | (rw [if_pos (by decide +kernel)]; kernel_rfl) | (rw [if_neg (by decide +kernel)]; exact ⟨rfl, rfl⟩))
    (fun os started H enc _ => capsDerive_lifted os started H enc)
#print axioms capsDerive_holds
end Go.Proofs.Ythgiofgedeijoaa
