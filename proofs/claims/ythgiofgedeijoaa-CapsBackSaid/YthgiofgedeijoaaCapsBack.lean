/- What is packed is unpacked as it was; what is unpacked may be, and, packed, is these words; no two capabilities are packed alike: for every input, no condition. -/
import Derived.Test.YthgiofgedeijoaaCmore
import Derived.Test.YthgiofgedeijoaaCfacts
set_option linter.unusedVariables false
set_option linter.unusedSimpArgs false
namespace Go.Proofs.Ythgiofgedeijoaa
open Go.ChangeShapes Go.WideShapes Go.ChangeAt Go.RowKit Go.Joins Wd Cd

theorem check_okb (c : Cp) (hg : Word c.g) (ok : c.Ok) (w : World) : Calls Try.prog 14 #[(.agg #[.int .i64 c.k, .int .i64 c.o, .int .i64 c.r, .int .u64 c.b, .int .u64 c.g, .int .i64 c.n])] w fun e w' => e = .returned (.int .i64 0) ∧ Below w.heap.size w w' := by
  refine (check_ok c hg ok w).mono ?_
  rintro e w' ⟨rfl, rfl⟩
  exact ⟨rfl, below_new (Below.refl _ _) _⟩

set_option maxRecDepth 100000 in
set_option maxHeartbeats 3200000 in
theorem capsBack_tt_good (a b c : Cp) (x y p1 p2 q1 q2 : Nat) (i f g : Int) (hab : Word a.b) (hag : Word a.g) (hbb : Word b.b) (hbg : Word b.g) (hx : Word x) (hy : Word y) (hm1 : packU a = (p1, p2, 0)) (hm2 : packU b = (q1, q2, 0)) (hp1 : Word p1) (hp2 : Word p2) (hm3 : unpU p1 p2 = (a, 0)) (hd1 : decide ((p1, p2) = (q1, q2)) = true) (hd2 : eqB a b = true) (hm4 : unpU x y = (c, 0)) (hm5 : packU c = (x, y, 0)) (hok : c.Ok) (hcb : Word c.b) (hcg : Word c.g) (W : World) :
    Calls Try.prog 7 #[(.agg #[.int .i64 a.k, .int .i64 a.o, .int .i64 a.r, .int .u64 a.b, .int .u64 a.g, .int .i64 a.n]), (.agg #[.int .i64 b.k, .int .i64 b.o, .int .i64 b.r, .int .u64 b.b, .int .u64 b.g, .int .i64 b.n]), (.agg #[.int .u64 x, .int .u64 y])] W fun e w' => e = .returned (.bool true) ∧ Below W.heap.size W w' := by
  have m1 : ∀ w : World, Calls Try.prog 18 #[(.agg #[.int .i64 a.k, .int .i64 a.o, .int .i64 a.r, .int .u64 a.b, .int .u64 a.g, .int .i64 a.n])] w fun e w' => e = .returned (.tuple #[(.agg #[.int .u64 p1, .int .u64 p2]), .int .i64 0]) ∧ Below w.heap.size w w' := fun w => by
    have h := pack_any a hab hag w
    rw [hm1] at h
    exact h
  have M1 := Lib.hid m1
  clear m1
  have m2 : ∀ w : World, Calls Try.prog 18 #[(.agg #[.int .i64 b.k, .int .i64 b.o, .int .i64 b.r, .int .u64 b.b, .int .u64 b.g, .int .i64 b.n])] w fun e w' => e = .returned (.tuple #[(.agg #[.int .u64 q1, .int .u64 q2]), .int .i64 0]) ∧ Below w.heap.size w w' := fun w => by
    have h := pack_any b hbb hbg w
    rw [hm2] at h
    exact h
  have M2 := Lib.hid m2
  clear m2
  have m3 : ∀ w : World, Calls Try.prog 20 #[(.agg #[.int .u64 p1, .int .u64 p2])] w fun e w' => e = .returned (.tuple #[(.agg #[.int .i64 a.k, .int .i64 a.o, .int .i64 a.r, .int .u64 a.b, .int .u64 a.g, .int .i64 a.n]), .int .i64 0]) ∧ Below w.heap.size w w' := fun w => by
    have h := unpack_any p1 p2 hp1 hp2 w
    rw [hm3] at h
    exact h
  have M3 := Lib.hid m3
  clear m3
  have k1 : ∀ w : World, (Op.equalIn 10000 24 (.agg #[.int .i64 a.k, .int .i64 a.o, .int .i64 a.r, .int .u64 a.b, .int .u64 a.g, .int .i64 a.n]) (.agg #[.int .i64 a.k, .int .i64 a.o, .int .i64 a.r, .int .u64 a.b, .int .u64 a.g, .int .i64 a.n])).run Try.prog w = .ok true w := fun w => eq_self a w
  have k2 : ∀ w : World, (Op.equalIn 10000 35 (.agg #[.int .u64 p1, .int .u64 p2]) (.agg #[.int .u64 q1, .int .u64 q2])).run Try.prog w = .ok true w := fun w => (eq_pairs (p1, p2) (q1, q2) w).trans (by rw [hd1])
  have k3 : ∀ w : World, (Op.equalIn 10000 24 (.agg #[.int .i64 a.k, .int .i64 a.o, .int .i64 a.r, .int .u64 a.b, .int .u64 a.g, .int .i64 a.n]) (.agg #[.int .i64 b.k, .int .i64 b.o, .int .i64 b.r, .int .u64 b.b, .int .u64 b.g, .int .i64 b.n])).run Try.prog w = .ok true w := fun w => (eq_caps a b w).trans (by rw [hd2])
  have m4 : ∀ w : World, Calls Try.prog 20 #[(.agg #[.int .u64 x, .int .u64 y])] w fun e w' => e = .returned (.tuple #[(.agg #[.int .i64 c.k, .int .i64 c.o, .int .i64 c.r, .int .u64 c.b, .int .u64 c.g, .int .i64 c.n]), .int .i64 0]) ∧ Below w.heap.size w w' := fun w => by
    have h := unpack_any x y hx hy w
    rw [hm4] at h
    exact h
  have M4 := Lib.hid m4
  clear m4
  have m5 : ∀ w : World, Calls Try.prog 18 #[(.agg #[.int .i64 c.k, .int .i64 c.o, .int .i64 c.r, .int .u64 c.b, .int .u64 c.g, .int .i64 c.n])] w fun e w' => e = .returned (.tuple #[(.agg #[.int .u64 x, .int .u64 y]), .int .i64 0]) ∧ Below w.heap.size w w' := fun w => by
    have h := pack_any c hcb hcg w
    rw [hm5] at h
    exact h
  have M5 := Lib.hid m5
  clear m5
  have OK := Lib.hid hok
  clear hok
  have k4 : ∀ w : World, (Op.equalIn 10000 35 (.agg #[.int .u64 x, .int .u64 y]) (.agg #[.int .u64 x, .int .u64 y])).run Try.prog w = .ok true w := fun w => pairs_eq x y w
  clear hm1 hm2 hm3 hm4 hm5
  go_enter Try.func7, Try.ntmps7
  go_wp2_with fail
  refine (M1.out _).mono ?_
  rintro e w1 ⟨rfl, hb⟩
  have CA' : Box w1 (W.heap.size) a := Box.keep hb (by repeat (first | fail | exact Box.new _ a | exact Box.new_at (c := a) (by simp) | apply Box.alloc))
  have CA := Lib.hid CA'
  clear CA'
  have CB' : Box w1 ((W.heap.size + 1)) b := Box.keep hb (by repeat (first | fail | exact Box.new _ b | exact Box.new_at (c := b) (by simp) | apply Box.alloc))
  have CB := Lib.hid CB'
  clear CB'
  have DD' : Duo w1 ((W.heap.size + 2)) (x, y) := Duo.keep hb (by repeat (first | fail | exact Duo.new _ (x, y) | exact Duo.new_at (c := (x, y)) (by simp) | apply Duo.alloc))
  have DD := Lib.hid DD'
  clear DD'
  have HB1 : Hid (Below W.heap.size W w1) := Lib.hid (below_then (by repeat (first | exact (Below.refl _ _) | apply below_new | apply below_draws)) hb)
  clear hb
  obtain ⟨zCB, cCB0, cCB1, cCB2, cCB3, cCB4, cCB5⟩ := CB.out
  have nCB : ¬ (W.heap.size + 1) = w1.heap.size := by omega
  go_wp2_with fail
  clear zCB nCB cCB0 cCB1 cCB2 cCB3 cCB4 cCB5
  refine (M2.out _).mono ?_
  rintro e w2 ⟨rfl, hb⟩
  have CA' : Box w2 (W.heap.size) a := Box.keep hb (by repeat (first | exact CA.out | exact Box.new _ a | exact Box.new_at (c := a) (by simp) | apply Box.alloc))
  clear CA
  have CA := Lib.hid CA'
  clear CA'
  have CB' : Box w2 ((W.heap.size + 1)) b := Box.keep hb (by repeat (first | exact CB.out | exact Box.new _ b | exact Box.new_at (c := b) (by simp) | apply Box.alloc))
  clear CB
  have CB := Lib.hid CB'
  clear CB'
  have DD' : Duo w2 ((W.heap.size + 2)) (x, y) := Duo.keep hb (by repeat (first | exact DD.out | exact Duo.new _ (x, y) | exact Duo.new_at (c := (x, y)) (by simp) | apply Duo.alloc))
  clear DD
  have DD := Lib.hid DD'
  clear DD'
  have PP' : Duo w2 (w1.heap.size) (p1, p2) := Duo.keep hb (by repeat (first | fail | exact Duo.new _ (p1, p2) | exact Duo.new_at (c := (p1, p2)) (by simp) | apply Duo.alloc))
  have PP := Lib.hid PP'
  clear PP'
  have HB2 : Hid (Below W.heap.size W w2) := Lib.hid (below_then (by repeat (first | exact HB1.out | apply below_new | apply below_draws)) hb)
  clear hb HB1
  obtain ⟨zPP, cPP0, cPP1⟩ := PP.out
  have nPP : ¬ w1.heap.size = w2.heap.size := by omega
  go_wp2_with fail
  clear zPP nPP cPP0 cPP1
  refine (M3.out _).mono ?_
  rintro e w3 ⟨rfl, hb⟩
  have CA' : Box w3 (W.heap.size) a := Box.keep hb (by repeat (first | exact CA.out | exact Box.new _ a | exact Box.new_at (c := a) (by simp) | apply Box.alloc))
  clear CA
  have CA := Lib.hid CA'
  clear CA'
  have CB' : Box w3 ((W.heap.size + 1)) b := Box.keep hb (by repeat (first | exact CB.out | exact Box.new _ b | exact Box.new_at (c := b) (by simp) | apply Box.alloc))
  clear CB
  have CB := Lib.hid CB'
  clear CB'
  have DD' : Duo w3 ((W.heap.size + 2)) (x, y) := Duo.keep hb (by repeat (first | exact DD.out | exact Duo.new _ (x, y) | exact Duo.new_at (c := (x, y)) (by simp) | apply Duo.alloc))
  clear DD
  have DD := Lib.hid DD'
  clear DD'
  have PP' : Duo w3 (w1.heap.size) (p1, p2) := Duo.keep hb (by repeat (first | exact PP.out | exact Duo.new _ (p1, p2) | exact Duo.new_at (c := (p1, p2)) (by simp) | apply Duo.alloc))
  clear PP
  have PP := Lib.hid PP'
  clear PP'
  have QQ' : Duo w3 (w2.heap.size) (q1, q2) := Duo.keep hb (by repeat (first | fail | exact Duo.new _ (q1, q2) | exact Duo.new_at (c := (q1, q2)) (by simp) | apply Duo.alloc))
  have QQ := Lib.hid QQ'
  clear QQ'
  have HB3 : Hid (Below W.heap.size W w3) := Lib.hid (below_then (by repeat (first | exact HB2.out | apply below_new | apply below_draws)) hb)
  clear hb HB2
  obtain ⟨zCA, cCA0, cCA1, cCA2, cCA3, cCA4, cCA5⟩ := CA.out
  have nCA : ¬ W.heap.size = w3.heap.size := by omega
  obtain ⟨zCB, cCB0, cCB1, cCB2, cCB3, cCB4, cCB5⟩ := CB.out
  have nCB : ¬ (W.heap.size + 1) = w3.heap.size := by omega
  obtain ⟨zDD, cDD0, cDD1⟩ := DD.out
  have nDD : ¬ (W.heap.size + 2) = w3.heap.size := by omega
  obtain ⟨zPP, cPP0, cPP1⟩ := PP.out
  have nPP : ¬ w1.heap.size = w3.heap.size := by omega
  obtain ⟨zQQ, cQQ0, cQQ1⟩ := QQ.out
  have nQQ : ¬ w2.heap.size = w3.heap.size := by omega
  go_wp2_with fail
  go_quiet (fail)
  go_wp2_with fail
  clear zCA nCA cCA0 cCA1 cCA2 cCA3 cCA4 cCA5
  clear zCB nCB cCB0 cCB1 cCB2 cCB3 cCB4 cCB5
  clear zDD nDD cDD0 cDD1
  clear zPP nPP cPP0 cPP1
  clear zQQ nQQ cQQ0 cQQ1
  refine (M4.out _).mono ?_
  rintro e w4 ⟨rfl, hb⟩
  clear CA
  clear CB
  clear PP
  clear QQ
  have DD' : Duo w4 ((W.heap.size + 2)) (x, y) := Duo.keep hb (by repeat (first | exact DD.out | exact Duo.new _ (x, y) | exact Duo.new_at (c := (x, y)) (by simp) | apply Duo.alloc))
  clear DD
  have DD := Lib.hid DD'
  clear DD'
  have HB4 : Hid (Below W.heap.size W w4) := Lib.hid (below_then (by repeat (first | exact HB3.out | apply below_new | apply below_draws)) hb)
  clear hb HB3
  go_wp2_with fail
  refine (M5.out _).mono ?_
  rintro e w5 ⟨rfl, hb⟩
  have DD' : Duo w5 ((W.heap.size + 2)) (x, y) := Duo.keep hb (by repeat (first | exact DD.out | exact Duo.new _ (x, y) | exact Duo.new_at (c := (x, y)) (by simp) | apply Duo.alloc))
  clear DD
  have DD := Lib.hid DD'
  clear DD'
  have CC' : Box w5 (w4.heap.size) c := Box.keep hb (by repeat (first | fail | exact Box.new _ c | exact Box.new_at (c := c) (by simp) | apply Box.alloc))
  have CC := Lib.hid CC'
  clear CC'
  have HB5 : Hid (Below W.heap.size W w5) := Lib.hid (below_then (by repeat (first | exact HB4.out | apply below_new | apply below_draws)) hb)
  clear hb HB4
  obtain ⟨zCC, cCC0, cCC1, cCC2, cCC3, cCC4, cCC5⟩ := CC.out
  have nCC : ¬ w4.heap.size = w5.heap.size := by omega
  go_wp2_with fail
  clear zCC nCC cCC0 cCC1 cCC2 cCC3 cCC4 cCC5
  refine ((check_okb c hcg OK.out) _).mono ?_
  rintro e w6 ⟨rfl, hb⟩
  clear CC
  have DD' : Duo w6 ((W.heap.size + 2)) (x, y) := Duo.keep hb (by repeat (first | exact DD.out | exact Duo.new _ (x, y) | exact Duo.new_at (c := (x, y)) (by simp) | apply Duo.alloc))
  clear DD
  have DD := Lib.hid DD'
  clear DD'
  have XX' : Duo w6 (w5.heap.size) (x, y) := Duo.keep hb (by repeat (first | fail | exact Duo.new _ (x, y) | exact Duo.new_at (c := (x, y)) (by simp) | apply Duo.alloc))
  have XX := Lib.hid XX'
  clear XX'
  have HB6 : Hid (Below W.heap.size W w6) := Lib.hid (below_then (by repeat (first | exact HB5.out | apply below_new | apply below_draws)) hb)
  clear hb HB5
  obtain ⟨zXX, cXX0, cXX1⟩ := XX.out
  have nXX : ¬ w5.heap.size = w6.heap.size := by omega
  obtain ⟨zDD, cDD0, cDD1⟩ := DD.out
  have nDD : ¬ (W.heap.size + 2) = w6.heap.size := by omega
  go_wp2_with fail
  clear zXX nXX cXX0 cXX1
  clear zDD nDD cDD0 cDD1
  refine (fixed_true _).mono ?_
  rintro e w7 ⟨rfl, hb⟩
  clear XX
  clear DD
  have HB7 : Hid (Below W.heap.size W w7) := Lib.hid (below_then (by repeat (first | exact HB6.out | apply below_new | apply below_draws)) hb)
  clear hb HB6
  go_wp2_with fail
  go_ret
  exact ⟨rfl, (by repeat (first | exact HB7.out | apply below_new | apply below_draws))⟩

set_option maxRecDepth 100000 in
set_option maxHeartbeats 3200000 in
theorem capsBack_tt_bad (a b c : Cp) (x y p1 p2 q1 q2 : Nat) (i f g : Int) (hab : Word a.b) (hag : Word a.g) (hbb : Word b.b) (hbg : Word b.g) (hx : Word x) (hy : Word y) (hm1 : packU a = (p1, p2, 0)) (hm2 : packU b = (q1, q2, 0)) (hp1 : Word p1) (hp2 : Word p2) (hm3 : unpU p1 p2 = (a, 0)) (hd1 : decide ((p1, p2) = (q1, q2)) = true) (hd2 : eqB a b = true) (hm4 : unpU x y = (zero, g)) (hg : (g != 0) = true) (W : World) :
    Calls Try.prog 7 #[(.agg #[.int .i64 a.k, .int .i64 a.o, .int .i64 a.r, .int .u64 a.b, .int .u64 a.g, .int .i64 a.n]), (.agg #[.int .i64 b.k, .int .i64 b.o, .int .i64 b.r, .int .u64 b.b, .int .u64 b.g, .int .i64 b.n]), (.agg #[.int .u64 x, .int .u64 y])] W fun e w' => e = .returned (.bool true) ∧ Below W.heap.size W w' := by
  have m1 : ∀ w : World, Calls Try.prog 18 #[(.agg #[.int .i64 a.k, .int .i64 a.o, .int .i64 a.r, .int .u64 a.b, .int .u64 a.g, .int .i64 a.n])] w fun e w' => e = .returned (.tuple #[(.agg #[.int .u64 p1, .int .u64 p2]), .int .i64 0]) ∧ Below w.heap.size w w' := fun w => by
    have h := pack_any a hab hag w
    rw [hm1] at h
    exact h
  have M1 := Lib.hid m1
  clear m1
  have m2 : ∀ w : World, Calls Try.prog 18 #[(.agg #[.int .i64 b.k, .int .i64 b.o, .int .i64 b.r, .int .u64 b.b, .int .u64 b.g, .int .i64 b.n])] w fun e w' => e = .returned (.tuple #[(.agg #[.int .u64 q1, .int .u64 q2]), .int .i64 0]) ∧ Below w.heap.size w w' := fun w => by
    have h := pack_any b hbb hbg w
    rw [hm2] at h
    exact h
  have M2 := Lib.hid m2
  clear m2
  have m3 : ∀ w : World, Calls Try.prog 20 #[(.agg #[.int .u64 p1, .int .u64 p2])] w fun e w' => e = .returned (.tuple #[(.agg #[.int .i64 a.k, .int .i64 a.o, .int .i64 a.r, .int .u64 a.b, .int .u64 a.g, .int .i64 a.n]), .int .i64 0]) ∧ Below w.heap.size w w' := fun w => by
    have h := unpack_any p1 p2 hp1 hp2 w
    rw [hm3] at h
    exact h
  have M3 := Lib.hid m3
  clear m3
  have k1 : ∀ w : World, (Op.equalIn 10000 24 (.agg #[.int .i64 a.k, .int .i64 a.o, .int .i64 a.r, .int .u64 a.b, .int .u64 a.g, .int .i64 a.n]) (.agg #[.int .i64 a.k, .int .i64 a.o, .int .i64 a.r, .int .u64 a.b, .int .u64 a.g, .int .i64 a.n])).run Try.prog w = .ok true w := fun w => eq_self a w
  have k2 : ∀ w : World, (Op.equalIn 10000 35 (.agg #[.int .u64 p1, .int .u64 p2]) (.agg #[.int .u64 q1, .int .u64 q2])).run Try.prog w = .ok true w := fun w => (eq_pairs (p1, p2) (q1, q2) w).trans (by rw [hd1])
  have k3 : ∀ w : World, (Op.equalIn 10000 24 (.agg #[.int .i64 a.k, .int .i64 a.o, .int .i64 a.r, .int .u64 a.b, .int .u64 a.g, .int .i64 a.n]) (.agg #[.int .i64 b.k, .int .i64 b.o, .int .i64 b.r, .int .u64 b.b, .int .u64 b.g, .int .i64 b.n])).run Try.prog w = .ok true w := fun w => (eq_caps a b w).trans (by rw [hd2])
  have m4 : ∀ w : World, Calls Try.prog 20 #[(.agg #[.int .u64 x, .int .u64 y])] w fun e w' => e = .returned (.tuple #[(.agg #[.int .i64 0, .int .i64 0, .int .i64 0, .int .u64 0, .int .u64 0, .int .i64 0]), .int .i64 g]) ∧ Below w.heap.size w w' := fun w => by
    have h := unpack_any x y hx hy w
    rw [hm4] at h
    exact h
  have M4 := Lib.hid m4
  clear m4
  have k5 : ∀ w : World, (Op.equalIn 10000 24 (.agg #[.int .i64 0, .int .i64 0, .int .i64 0, .int .u64 0, .int .u64 0, .int .i64 0]) (.agg #[.int .i64 0, .int .i64 0, .int .i64 0, .int .u64 0, .int .u64 0, .int .i64 0])).run Try.prog w = .ok true w := fun w => eq_self zero w
  clear hm1 hm2 hm3 hm4
  go_enter Try.func7, Try.ntmps7
  go_wp2_with fail
  refine (M1.out _).mono ?_
  rintro e w1 ⟨rfl, hb⟩
  have CA' : Box w1 (W.heap.size) a := Box.keep hb (by repeat (first | fail | exact Box.new _ a | exact Box.new_at (c := a) (by simp) | apply Box.alloc))
  have CA := Lib.hid CA'
  clear CA'
  have CB' : Box w1 ((W.heap.size + 1)) b := Box.keep hb (by repeat (first | fail | exact Box.new _ b | exact Box.new_at (c := b) (by simp) | apply Box.alloc))
  have CB := Lib.hid CB'
  clear CB'
  have DD' : Duo w1 ((W.heap.size + 2)) (x, y) := Duo.keep hb (by repeat (first | fail | exact Duo.new _ (x, y) | exact Duo.new_at (c := (x, y)) (by simp) | apply Duo.alloc))
  have DD := Lib.hid DD'
  clear DD'
  have HB1 : Hid (Below W.heap.size W w1) := Lib.hid (below_then (by repeat (first | exact (Below.refl _ _) | apply below_new | apply below_draws)) hb)
  clear hb
  obtain ⟨zCB, cCB0, cCB1, cCB2, cCB3, cCB4, cCB5⟩ := CB.out
  have nCB : ¬ (W.heap.size + 1) = w1.heap.size := by omega
  go_wp2_with fail
  clear zCB nCB cCB0 cCB1 cCB2 cCB3 cCB4 cCB5
  refine (M2.out _).mono ?_
  rintro e w2 ⟨rfl, hb⟩
  have CA' : Box w2 (W.heap.size) a := Box.keep hb (by repeat (first | exact CA.out | exact Box.new _ a | exact Box.new_at (c := a) (by simp) | apply Box.alloc))
  clear CA
  have CA := Lib.hid CA'
  clear CA'
  have CB' : Box w2 ((W.heap.size + 1)) b := Box.keep hb (by repeat (first | exact CB.out | exact Box.new _ b | exact Box.new_at (c := b) (by simp) | apply Box.alloc))
  clear CB
  have CB := Lib.hid CB'
  clear CB'
  have DD' : Duo w2 ((W.heap.size + 2)) (x, y) := Duo.keep hb (by repeat (first | exact DD.out | exact Duo.new _ (x, y) | exact Duo.new_at (c := (x, y)) (by simp) | apply Duo.alloc))
  clear DD
  have DD := Lib.hid DD'
  clear DD'
  have PP' : Duo w2 (w1.heap.size) (p1, p2) := Duo.keep hb (by repeat (first | fail | exact Duo.new _ (p1, p2) | exact Duo.new_at (c := (p1, p2)) (by simp) | apply Duo.alloc))
  have PP := Lib.hid PP'
  clear PP'
  have HB2 : Hid (Below W.heap.size W w2) := Lib.hid (below_then (by repeat (first | exact HB1.out | apply below_new | apply below_draws)) hb)
  clear hb HB1
  obtain ⟨zPP, cPP0, cPP1⟩ := PP.out
  have nPP : ¬ w1.heap.size = w2.heap.size := by omega
  go_wp2_with fail
  clear zPP nPP cPP0 cPP1
  refine (M3.out _).mono ?_
  rintro e w3 ⟨rfl, hb⟩
  have CA' : Box w3 (W.heap.size) a := Box.keep hb (by repeat (first | exact CA.out | exact Box.new _ a | exact Box.new_at (c := a) (by simp) | apply Box.alloc))
  clear CA
  have CA := Lib.hid CA'
  clear CA'
  have CB' : Box w3 ((W.heap.size + 1)) b := Box.keep hb (by repeat (first | exact CB.out | exact Box.new _ b | exact Box.new_at (c := b) (by simp) | apply Box.alloc))
  clear CB
  have CB := Lib.hid CB'
  clear CB'
  have DD' : Duo w3 ((W.heap.size + 2)) (x, y) := Duo.keep hb (by repeat (first | exact DD.out | exact Duo.new _ (x, y) | exact Duo.new_at (c := (x, y)) (by simp) | apply Duo.alloc))
  clear DD
  have DD := Lib.hid DD'
  clear DD'
  have PP' : Duo w3 (w1.heap.size) (p1, p2) := Duo.keep hb (by repeat (first | exact PP.out | exact Duo.new _ (p1, p2) | exact Duo.new_at (c := (p1, p2)) (by simp) | apply Duo.alloc))
  clear PP
  have PP := Lib.hid PP'
  clear PP'
  have QQ' : Duo w3 (w2.heap.size) (q1, q2) := Duo.keep hb (by repeat (first | fail | exact Duo.new _ (q1, q2) | exact Duo.new_at (c := (q1, q2)) (by simp) | apply Duo.alloc))
  have QQ := Lib.hid QQ'
  clear QQ'
  have HB3 : Hid (Below W.heap.size W w3) := Lib.hid (below_then (by repeat (first | exact HB2.out | apply below_new | apply below_draws)) hb)
  clear hb HB2
  obtain ⟨zCA, cCA0, cCA1, cCA2, cCA3, cCA4, cCA5⟩ := CA.out
  have nCA : ¬ W.heap.size = w3.heap.size := by omega
  obtain ⟨zCB, cCB0, cCB1, cCB2, cCB3, cCB4, cCB5⟩ := CB.out
  have nCB : ¬ (W.heap.size + 1) = w3.heap.size := by omega
  obtain ⟨zDD, cDD0, cDD1⟩ := DD.out
  have nDD : ¬ (W.heap.size + 2) = w3.heap.size := by omega
  obtain ⟨zPP, cPP0, cPP1⟩ := PP.out
  have nPP : ¬ w1.heap.size = w3.heap.size := by omega
  obtain ⟨zQQ, cQQ0, cQQ1⟩ := QQ.out
  have nQQ : ¬ w2.heap.size = w3.heap.size := by omega
  go_wp2_with fail
  go_quiet (fail)
  go_wp2_with fail
  clear zCA nCA cCA0 cCA1 cCA2 cCA3 cCA4 cCA5
  clear zCB nCB cCB0 cCB1 cCB2 cCB3 cCB4 cCB5
  clear zDD nDD cDD0 cDD1
  clear zPP nPP cPP0 cPP1
  clear zQQ nQQ cQQ0 cQQ1
  refine (M4.out _).mono ?_
  rintro e w4 ⟨rfl, hb⟩
  clear CA
  clear CB
  clear PP
  clear QQ
  have DD' : Duo w4 ((W.heap.size + 2)) (x, y) := Duo.keep hb (by repeat (first | exact DD.out | exact Duo.new _ (x, y) | exact Duo.new_at (c := (x, y)) (by simp) | apply Duo.alloc))
  clear DD
  have DD := Lib.hid DD'
  clear DD'
  have HB4 : Hid (Below W.heap.size W w4) := Lib.hid (below_then (by repeat (first | exact HB3.out | apply below_new | apply below_draws)) hb)
  clear hb HB3
  go_wp2_with fail
  refine (fixed_true _).mono ?_
  rintro e w5 ⟨rfl, hb⟩
  clear DD
  have HB5 : Hid (Below W.heap.size W w5) := Lib.hid (below_then (by repeat (first | exact HB4.out | apply below_new | apply below_draws)) hb)
  clear hb HB4
  go_wp2_with fail
  go_ret
  exact ⟨rfl, (by repeat (first | exact HB5.out | apply below_new | apply below_draws))⟩

set_option maxRecDepth 100000 in
set_option maxHeartbeats 3200000 in
theorem capsBack_ff_good (a b c : Cp) (x y p1 p2 q1 q2 : Nat) (i f g : Int) (hab : Word a.b) (hag : Word a.g) (hbb : Word b.b) (hbg : Word b.g) (hx : Word x) (hy : Word y) (hm1 : packU a = (p1, p2, 0)) (hm2 : packU b = (q1, q2, 0)) (hp1 : Word p1) (hp2 : Word p2) (hm3 : unpU p1 p2 = (a, 0)) (hd1 : decide ((p1, p2) = (q1, q2)) = false) (hd2 : eqB a b = false) (hm4 : unpU x y = (c, 0)) (hm5 : packU c = (x, y, 0)) (hok : c.Ok) (hcb : Word c.b) (hcg : Word c.g) (W : World) :
    Calls Try.prog 7 #[(.agg #[.int .i64 a.k, .int .i64 a.o, .int .i64 a.r, .int .u64 a.b, .int .u64 a.g, .int .i64 a.n]), (.agg #[.int .i64 b.k, .int .i64 b.o, .int .i64 b.r, .int .u64 b.b, .int .u64 b.g, .int .i64 b.n]), (.agg #[.int .u64 x, .int .u64 y])] W fun e w' => e = .returned (.bool true) ∧ Below W.heap.size W w' := by
  have m1 : ∀ w : World, Calls Try.prog 18 #[(.agg #[.int .i64 a.k, .int .i64 a.o, .int .i64 a.r, .int .u64 a.b, .int .u64 a.g, .int .i64 a.n])] w fun e w' => e = .returned (.tuple #[(.agg #[.int .u64 p1, .int .u64 p2]), .int .i64 0]) ∧ Below w.heap.size w w' := fun w => by
    have h := pack_any a hab hag w
    rw [hm1] at h
    exact h
  have M1 := Lib.hid m1
  clear m1
  have m2 : ∀ w : World, Calls Try.prog 18 #[(.agg #[.int .i64 b.k, .int .i64 b.o, .int .i64 b.r, .int .u64 b.b, .int .u64 b.g, .int .i64 b.n])] w fun e w' => e = .returned (.tuple #[(.agg #[.int .u64 q1, .int .u64 q2]), .int .i64 0]) ∧ Below w.heap.size w w' := fun w => by
    have h := pack_any b hbb hbg w
    rw [hm2] at h
    exact h
  have M2 := Lib.hid m2
  clear m2
  have m3 : ∀ w : World, Calls Try.prog 20 #[(.agg #[.int .u64 p1, .int .u64 p2])] w fun e w' => e = .returned (.tuple #[(.agg #[.int .i64 a.k, .int .i64 a.o, .int .i64 a.r, .int .u64 a.b, .int .u64 a.g, .int .i64 a.n]), .int .i64 0]) ∧ Below w.heap.size w w' := fun w => by
    have h := unpack_any p1 p2 hp1 hp2 w
    rw [hm3] at h
    exact h
  have M3 := Lib.hid m3
  clear m3
  have k1 : ∀ w : World, (Op.equalIn 10000 24 (.agg #[.int .i64 a.k, .int .i64 a.o, .int .i64 a.r, .int .u64 a.b, .int .u64 a.g, .int .i64 a.n]) (.agg #[.int .i64 a.k, .int .i64 a.o, .int .i64 a.r, .int .u64 a.b, .int .u64 a.g, .int .i64 a.n])).run Try.prog w = .ok true w := fun w => eq_self a w
  have k2 : ∀ w : World, (Op.equalIn 10000 35 (.agg #[.int .u64 p1, .int .u64 p2]) (.agg #[.int .u64 q1, .int .u64 q2])).run Try.prog w = .ok false w := fun w => (eq_pairs (p1, p2) (q1, q2) w).trans (by rw [hd1])
  have k3 : ∀ w : World, (Op.equalIn 10000 24 (.agg #[.int .i64 a.k, .int .i64 a.o, .int .i64 a.r, .int .u64 a.b, .int .u64 a.g, .int .i64 a.n]) (.agg #[.int .i64 b.k, .int .i64 b.o, .int .i64 b.r, .int .u64 b.b, .int .u64 b.g, .int .i64 b.n])).run Try.prog w = .ok false w := fun w => (eq_caps a b w).trans (by rw [hd2])
  have m4 : ∀ w : World, Calls Try.prog 20 #[(.agg #[.int .u64 x, .int .u64 y])] w fun e w' => e = .returned (.tuple #[(.agg #[.int .i64 c.k, .int .i64 c.o, .int .i64 c.r, .int .u64 c.b, .int .u64 c.g, .int .i64 c.n]), .int .i64 0]) ∧ Below w.heap.size w w' := fun w => by
    have h := unpack_any x y hx hy w
    rw [hm4] at h
    exact h
  have M4 := Lib.hid m4
  clear m4
  have m5 : ∀ w : World, Calls Try.prog 18 #[(.agg #[.int .i64 c.k, .int .i64 c.o, .int .i64 c.r, .int .u64 c.b, .int .u64 c.g, .int .i64 c.n])] w fun e w' => e = .returned (.tuple #[(.agg #[.int .u64 x, .int .u64 y]), .int .i64 0]) ∧ Below w.heap.size w w' := fun w => by
    have h := pack_any c hcb hcg w
    rw [hm5] at h
    exact h
  have M5 := Lib.hid m5
  clear m5
  have OK := Lib.hid hok
  clear hok
  have k4 : ∀ w : World, (Op.equalIn 10000 35 (.agg #[.int .u64 x, .int .u64 y]) (.agg #[.int .u64 x, .int .u64 y])).run Try.prog w = .ok true w := fun w => pairs_eq x y w
  clear hm1 hm2 hm3 hm4 hm5
  go_enter Try.func7, Try.ntmps7
  go_wp2_with fail
  refine (M1.out _).mono ?_
  rintro e w1 ⟨rfl, hb⟩
  have CA' : Box w1 (W.heap.size) a := Box.keep hb (by repeat (first | fail | exact Box.new _ a | exact Box.new_at (c := a) (by simp) | apply Box.alloc))
  have CA := Lib.hid CA'
  clear CA'
  have CB' : Box w1 ((W.heap.size + 1)) b := Box.keep hb (by repeat (first | fail | exact Box.new _ b | exact Box.new_at (c := b) (by simp) | apply Box.alloc))
  have CB := Lib.hid CB'
  clear CB'
  have DD' : Duo w1 ((W.heap.size + 2)) (x, y) := Duo.keep hb (by repeat (first | fail | exact Duo.new _ (x, y) | exact Duo.new_at (c := (x, y)) (by simp) | apply Duo.alloc))
  have DD := Lib.hid DD'
  clear DD'
  have HB1 : Hid (Below W.heap.size W w1) := Lib.hid (below_then (by repeat (first | exact (Below.refl _ _) | apply below_new | apply below_draws)) hb)
  clear hb
  obtain ⟨zCB, cCB0, cCB1, cCB2, cCB3, cCB4, cCB5⟩ := CB.out
  have nCB : ¬ (W.heap.size + 1) = w1.heap.size := by omega
  go_wp2_with fail
  clear zCB nCB cCB0 cCB1 cCB2 cCB3 cCB4 cCB5
  refine (M2.out _).mono ?_
  rintro e w2 ⟨rfl, hb⟩
  have CA' : Box w2 (W.heap.size) a := Box.keep hb (by repeat (first | exact CA.out | exact Box.new _ a | exact Box.new_at (c := a) (by simp) | apply Box.alloc))
  clear CA
  have CA := Lib.hid CA'
  clear CA'
  have CB' : Box w2 ((W.heap.size + 1)) b := Box.keep hb (by repeat (first | exact CB.out | exact Box.new _ b | exact Box.new_at (c := b) (by simp) | apply Box.alloc))
  clear CB
  have CB := Lib.hid CB'
  clear CB'
  have DD' : Duo w2 ((W.heap.size + 2)) (x, y) := Duo.keep hb (by repeat (first | exact DD.out | exact Duo.new _ (x, y) | exact Duo.new_at (c := (x, y)) (by simp) | apply Duo.alloc))
  clear DD
  have DD := Lib.hid DD'
  clear DD'
  have PP' : Duo w2 (w1.heap.size) (p1, p2) := Duo.keep hb (by repeat (first | fail | exact Duo.new _ (p1, p2) | exact Duo.new_at (c := (p1, p2)) (by simp) | apply Duo.alloc))
  have PP := Lib.hid PP'
  clear PP'
  have HB2 : Hid (Below W.heap.size W w2) := Lib.hid (below_then (by repeat (first | exact HB1.out | apply below_new | apply below_draws)) hb)
  clear hb HB1
  obtain ⟨zPP, cPP0, cPP1⟩ := PP.out
  have nPP : ¬ w1.heap.size = w2.heap.size := by omega
  go_wp2_with fail
  clear zPP nPP cPP0 cPP1
  refine (M3.out _).mono ?_
  rintro e w3 ⟨rfl, hb⟩
  have CA' : Box w3 (W.heap.size) a := Box.keep hb (by repeat (first | exact CA.out | exact Box.new _ a | exact Box.new_at (c := a) (by simp) | apply Box.alloc))
  clear CA
  have CA := Lib.hid CA'
  clear CA'
  have CB' : Box w3 ((W.heap.size + 1)) b := Box.keep hb (by repeat (first | exact CB.out | exact Box.new _ b | exact Box.new_at (c := b) (by simp) | apply Box.alloc))
  clear CB
  have CB := Lib.hid CB'
  clear CB'
  have DD' : Duo w3 ((W.heap.size + 2)) (x, y) := Duo.keep hb (by repeat (first | exact DD.out | exact Duo.new _ (x, y) | exact Duo.new_at (c := (x, y)) (by simp) | apply Duo.alloc))
  clear DD
  have DD := Lib.hid DD'
  clear DD'
  have PP' : Duo w3 (w1.heap.size) (p1, p2) := Duo.keep hb (by repeat (first | exact PP.out | exact Duo.new _ (p1, p2) | exact Duo.new_at (c := (p1, p2)) (by simp) | apply Duo.alloc))
  clear PP
  have PP := Lib.hid PP'
  clear PP'
  have QQ' : Duo w3 (w2.heap.size) (q1, q2) := Duo.keep hb (by repeat (first | fail | exact Duo.new _ (q1, q2) | exact Duo.new_at (c := (q1, q2)) (by simp) | apply Duo.alloc))
  have QQ := Lib.hid QQ'
  clear QQ'
  have HB3 : Hid (Below W.heap.size W w3) := Lib.hid (below_then (by repeat (first | exact HB2.out | apply below_new | apply below_draws)) hb)
  clear hb HB2
  obtain ⟨zCA, cCA0, cCA1, cCA2, cCA3, cCA4, cCA5⟩ := CA.out
  have nCA : ¬ W.heap.size = w3.heap.size := by omega
  obtain ⟨zCB, cCB0, cCB1, cCB2, cCB3, cCB4, cCB5⟩ := CB.out
  have nCB : ¬ (W.heap.size + 1) = w3.heap.size := by omega
  obtain ⟨zDD, cDD0, cDD1⟩ := DD.out
  have nDD : ¬ (W.heap.size + 2) = w3.heap.size := by omega
  obtain ⟨zPP, cPP0, cPP1⟩ := PP.out
  have nPP : ¬ w1.heap.size = w3.heap.size := by omega
  obtain ⟨zQQ, cQQ0, cQQ1⟩ := QQ.out
  have nQQ : ¬ w2.heap.size = w3.heap.size := by omega
  go_wp2_with fail
  go_quiet (fail)
  go_wp2_with fail
  clear zCA nCA cCA0 cCA1 cCA2 cCA3 cCA4 cCA5
  clear zCB nCB cCB0 cCB1 cCB2 cCB3 cCB4 cCB5
  clear zDD nDD cDD0 cDD1
  clear zPP nPP cPP0 cPP1
  clear zQQ nQQ cQQ0 cQQ1
  refine (M4.out _).mono ?_
  rintro e w4 ⟨rfl, hb⟩
  clear CA
  clear CB
  clear PP
  clear QQ
  have DD' : Duo w4 ((W.heap.size + 2)) (x, y) := Duo.keep hb (by repeat (first | exact DD.out | exact Duo.new _ (x, y) | exact Duo.new_at (c := (x, y)) (by simp) | apply Duo.alloc))
  clear DD
  have DD := Lib.hid DD'
  clear DD'
  have HB4 : Hid (Below W.heap.size W w4) := Lib.hid (below_then (by repeat (first | exact HB3.out | apply below_new | apply below_draws)) hb)
  clear hb HB3
  go_wp2_with fail
  refine (M5.out _).mono ?_
  rintro e w5 ⟨rfl, hb⟩
  have DD' : Duo w5 ((W.heap.size + 2)) (x, y) := Duo.keep hb (by repeat (first | exact DD.out | exact Duo.new _ (x, y) | exact Duo.new_at (c := (x, y)) (by simp) | apply Duo.alloc))
  clear DD
  have DD := Lib.hid DD'
  clear DD'
  have CC' : Box w5 (w4.heap.size) c := Box.keep hb (by repeat (first | fail | exact Box.new _ c | exact Box.new_at (c := c) (by simp) | apply Box.alloc))
  have CC := Lib.hid CC'
  clear CC'
  have HB5 : Hid (Below W.heap.size W w5) := Lib.hid (below_then (by repeat (first | exact HB4.out | apply below_new | apply below_draws)) hb)
  clear hb HB4
  obtain ⟨zCC, cCC0, cCC1, cCC2, cCC3, cCC4, cCC5⟩ := CC.out
  have nCC : ¬ w4.heap.size = w5.heap.size := by omega
  go_wp2_with fail
  clear zCC nCC cCC0 cCC1 cCC2 cCC3 cCC4 cCC5
  refine ((check_okb c hcg OK.out) _).mono ?_
  rintro e w6 ⟨rfl, hb⟩
  clear CC
  have DD' : Duo w6 ((W.heap.size + 2)) (x, y) := Duo.keep hb (by repeat (first | exact DD.out | exact Duo.new _ (x, y) | exact Duo.new_at (c := (x, y)) (by simp) | apply Duo.alloc))
  clear DD
  have DD := Lib.hid DD'
  clear DD'
  have XX' : Duo w6 (w5.heap.size) (x, y) := Duo.keep hb (by repeat (first | fail | exact Duo.new _ (x, y) | exact Duo.new_at (c := (x, y)) (by simp) | apply Duo.alloc))
  have XX := Lib.hid XX'
  clear XX'
  have HB6 : Hid (Below W.heap.size W w6) := Lib.hid (below_then (by repeat (first | exact HB5.out | apply below_new | apply below_draws)) hb)
  clear hb HB5
  obtain ⟨zXX, cXX0, cXX1⟩ := XX.out
  have nXX : ¬ w5.heap.size = w6.heap.size := by omega
  obtain ⟨zDD, cDD0, cDD1⟩ := DD.out
  have nDD : ¬ (W.heap.size + 2) = w6.heap.size := by omega
  go_wp2_with fail
  clear zXX nXX cXX0 cXX1
  clear zDD nDD cDD0 cDD1
  refine (fixed_true _).mono ?_
  rintro e w7 ⟨rfl, hb⟩
  clear XX
  clear DD
  have HB7 : Hid (Below W.heap.size W w7) := Lib.hid (below_then (by repeat (first | exact HB6.out | apply below_new | apply below_draws)) hb)
  clear hb HB6
  go_wp2_with fail
  go_ret
  exact ⟨rfl, (by repeat (first | exact HB7.out | apply below_new | apply below_draws))⟩

set_option maxRecDepth 100000 in
set_option maxHeartbeats 3200000 in
theorem capsBack_ff_bad (a b c : Cp) (x y p1 p2 q1 q2 : Nat) (i f g : Int) (hab : Word a.b) (hag : Word a.g) (hbb : Word b.b) (hbg : Word b.g) (hx : Word x) (hy : Word y) (hm1 : packU a = (p1, p2, 0)) (hm2 : packU b = (q1, q2, 0)) (hp1 : Word p1) (hp2 : Word p2) (hm3 : unpU p1 p2 = (a, 0)) (hd1 : decide ((p1, p2) = (q1, q2)) = false) (hd2 : eqB a b = false) (hm4 : unpU x y = (zero, g)) (hg : (g != 0) = true) (W : World) :
    Calls Try.prog 7 #[(.agg #[.int .i64 a.k, .int .i64 a.o, .int .i64 a.r, .int .u64 a.b, .int .u64 a.g, .int .i64 a.n]), (.agg #[.int .i64 b.k, .int .i64 b.o, .int .i64 b.r, .int .u64 b.b, .int .u64 b.g, .int .i64 b.n]), (.agg #[.int .u64 x, .int .u64 y])] W fun e w' => e = .returned (.bool true) ∧ Below W.heap.size W w' := by
  have m1 : ∀ w : World, Calls Try.prog 18 #[(.agg #[.int .i64 a.k, .int .i64 a.o, .int .i64 a.r, .int .u64 a.b, .int .u64 a.g, .int .i64 a.n])] w fun e w' => e = .returned (.tuple #[(.agg #[.int .u64 p1, .int .u64 p2]), .int .i64 0]) ∧ Below w.heap.size w w' := fun w => by
    have h := pack_any a hab hag w
    rw [hm1] at h
    exact h
  have M1 := Lib.hid m1
  clear m1
  have m2 : ∀ w : World, Calls Try.prog 18 #[(.agg #[.int .i64 b.k, .int .i64 b.o, .int .i64 b.r, .int .u64 b.b, .int .u64 b.g, .int .i64 b.n])] w fun e w' => e = .returned (.tuple #[(.agg #[.int .u64 q1, .int .u64 q2]), .int .i64 0]) ∧ Below w.heap.size w w' := fun w => by
    have h := pack_any b hbb hbg w
    rw [hm2] at h
    exact h
  have M2 := Lib.hid m2
  clear m2
  have m3 : ∀ w : World, Calls Try.prog 20 #[(.agg #[.int .u64 p1, .int .u64 p2])] w fun e w' => e = .returned (.tuple #[(.agg #[.int .i64 a.k, .int .i64 a.o, .int .i64 a.r, .int .u64 a.b, .int .u64 a.g, .int .i64 a.n]), .int .i64 0]) ∧ Below w.heap.size w w' := fun w => by
    have h := unpack_any p1 p2 hp1 hp2 w
    rw [hm3] at h
    exact h
  have M3 := Lib.hid m3
  clear m3
  have k1 : ∀ w : World, (Op.equalIn 10000 24 (.agg #[.int .i64 a.k, .int .i64 a.o, .int .i64 a.r, .int .u64 a.b, .int .u64 a.g, .int .i64 a.n]) (.agg #[.int .i64 a.k, .int .i64 a.o, .int .i64 a.r, .int .u64 a.b, .int .u64 a.g, .int .i64 a.n])).run Try.prog w = .ok true w := fun w => eq_self a w
  have k2 : ∀ w : World, (Op.equalIn 10000 35 (.agg #[.int .u64 p1, .int .u64 p2]) (.agg #[.int .u64 q1, .int .u64 q2])).run Try.prog w = .ok false w := fun w => (eq_pairs (p1, p2) (q1, q2) w).trans (by rw [hd1])
  have k3 : ∀ w : World, (Op.equalIn 10000 24 (.agg #[.int .i64 a.k, .int .i64 a.o, .int .i64 a.r, .int .u64 a.b, .int .u64 a.g, .int .i64 a.n]) (.agg #[.int .i64 b.k, .int .i64 b.o, .int .i64 b.r, .int .u64 b.b, .int .u64 b.g, .int .i64 b.n])).run Try.prog w = .ok false w := fun w => (eq_caps a b w).trans (by rw [hd2])
  have m4 : ∀ w : World, Calls Try.prog 20 #[(.agg #[.int .u64 x, .int .u64 y])] w fun e w' => e = .returned (.tuple #[(.agg #[.int .i64 0, .int .i64 0, .int .i64 0, .int .u64 0, .int .u64 0, .int .i64 0]), .int .i64 g]) ∧ Below w.heap.size w w' := fun w => by
    have h := unpack_any x y hx hy w
    rw [hm4] at h
    exact h
  have M4 := Lib.hid m4
  clear m4
  have k5 : ∀ w : World, (Op.equalIn 10000 24 (.agg #[.int .i64 0, .int .i64 0, .int .i64 0, .int .u64 0, .int .u64 0, .int .i64 0]) (.agg #[.int .i64 0, .int .i64 0, .int .i64 0, .int .u64 0, .int .u64 0, .int .i64 0])).run Try.prog w = .ok true w := fun w => eq_self zero w
  clear hm1 hm2 hm3 hm4
  go_enter Try.func7, Try.ntmps7
  go_wp2_with fail
  refine (M1.out _).mono ?_
  rintro e w1 ⟨rfl, hb⟩
  have CA' : Box w1 (W.heap.size) a := Box.keep hb (by repeat (first | fail | exact Box.new _ a | exact Box.new_at (c := a) (by simp) | apply Box.alloc))
  have CA := Lib.hid CA'
  clear CA'
  have CB' : Box w1 ((W.heap.size + 1)) b := Box.keep hb (by repeat (first | fail | exact Box.new _ b | exact Box.new_at (c := b) (by simp) | apply Box.alloc))
  have CB := Lib.hid CB'
  clear CB'
  have DD' : Duo w1 ((W.heap.size + 2)) (x, y) := Duo.keep hb (by repeat (first | fail | exact Duo.new _ (x, y) | exact Duo.new_at (c := (x, y)) (by simp) | apply Duo.alloc))
  have DD := Lib.hid DD'
  clear DD'
  have HB1 : Hid (Below W.heap.size W w1) := Lib.hid (below_then (by repeat (first | exact (Below.refl _ _) | apply below_new | apply below_draws)) hb)
  clear hb
  obtain ⟨zCB, cCB0, cCB1, cCB2, cCB3, cCB4, cCB5⟩ := CB.out
  have nCB : ¬ (W.heap.size + 1) = w1.heap.size := by omega
  go_wp2_with fail
  clear zCB nCB cCB0 cCB1 cCB2 cCB3 cCB4 cCB5
  refine (M2.out _).mono ?_
  rintro e w2 ⟨rfl, hb⟩
  have CA' : Box w2 (W.heap.size) a := Box.keep hb (by repeat (first | exact CA.out | exact Box.new _ a | exact Box.new_at (c := a) (by simp) | apply Box.alloc))
  clear CA
  have CA := Lib.hid CA'
  clear CA'
  have CB' : Box w2 ((W.heap.size + 1)) b := Box.keep hb (by repeat (first | exact CB.out | exact Box.new _ b | exact Box.new_at (c := b) (by simp) | apply Box.alloc))
  clear CB
  have CB := Lib.hid CB'
  clear CB'
  have DD' : Duo w2 ((W.heap.size + 2)) (x, y) := Duo.keep hb (by repeat (first | exact DD.out | exact Duo.new _ (x, y) | exact Duo.new_at (c := (x, y)) (by simp) | apply Duo.alloc))
  clear DD
  have DD := Lib.hid DD'
  clear DD'
  have PP' : Duo w2 (w1.heap.size) (p1, p2) := Duo.keep hb (by repeat (first | fail | exact Duo.new _ (p1, p2) | exact Duo.new_at (c := (p1, p2)) (by simp) | apply Duo.alloc))
  have PP := Lib.hid PP'
  clear PP'
  have HB2 : Hid (Below W.heap.size W w2) := Lib.hid (below_then (by repeat (first | exact HB1.out | apply below_new | apply below_draws)) hb)
  clear hb HB1
  obtain ⟨zPP, cPP0, cPP1⟩ := PP.out
  have nPP : ¬ w1.heap.size = w2.heap.size := by omega
  go_wp2_with fail
  clear zPP nPP cPP0 cPP1
  refine (M3.out _).mono ?_
  rintro e w3 ⟨rfl, hb⟩
  have CA' : Box w3 (W.heap.size) a := Box.keep hb (by repeat (first | exact CA.out | exact Box.new _ a | exact Box.new_at (c := a) (by simp) | apply Box.alloc))
  clear CA
  have CA := Lib.hid CA'
  clear CA'
  have CB' : Box w3 ((W.heap.size + 1)) b := Box.keep hb (by repeat (first | exact CB.out | exact Box.new _ b | exact Box.new_at (c := b) (by simp) | apply Box.alloc))
  clear CB
  have CB := Lib.hid CB'
  clear CB'
  have DD' : Duo w3 ((W.heap.size + 2)) (x, y) := Duo.keep hb (by repeat (first | exact DD.out | exact Duo.new _ (x, y) | exact Duo.new_at (c := (x, y)) (by simp) | apply Duo.alloc))
  clear DD
  have DD := Lib.hid DD'
  clear DD'
  have PP' : Duo w3 (w1.heap.size) (p1, p2) := Duo.keep hb (by repeat (first | exact PP.out | exact Duo.new _ (p1, p2) | exact Duo.new_at (c := (p1, p2)) (by simp) | apply Duo.alloc))
  clear PP
  have PP := Lib.hid PP'
  clear PP'
  have QQ' : Duo w3 (w2.heap.size) (q1, q2) := Duo.keep hb (by repeat (first | fail | exact Duo.new _ (q1, q2) | exact Duo.new_at (c := (q1, q2)) (by simp) | apply Duo.alloc))
  have QQ := Lib.hid QQ'
  clear QQ'
  have HB3 : Hid (Below W.heap.size W w3) := Lib.hid (below_then (by repeat (first | exact HB2.out | apply below_new | apply below_draws)) hb)
  clear hb HB2
  obtain ⟨zCA, cCA0, cCA1, cCA2, cCA3, cCA4, cCA5⟩ := CA.out
  have nCA : ¬ W.heap.size = w3.heap.size := by omega
  obtain ⟨zCB, cCB0, cCB1, cCB2, cCB3, cCB4, cCB5⟩ := CB.out
  have nCB : ¬ (W.heap.size + 1) = w3.heap.size := by omega
  obtain ⟨zDD, cDD0, cDD1⟩ := DD.out
  have nDD : ¬ (W.heap.size + 2) = w3.heap.size := by omega
  obtain ⟨zPP, cPP0, cPP1⟩ := PP.out
  have nPP : ¬ w1.heap.size = w3.heap.size := by omega
  obtain ⟨zQQ, cQQ0, cQQ1⟩ := QQ.out
  have nQQ : ¬ w2.heap.size = w3.heap.size := by omega
  go_wp2_with fail
  go_quiet (fail)
  go_wp2_with fail
  clear zCA nCA cCA0 cCA1 cCA2 cCA3 cCA4 cCA5
  clear zCB nCB cCB0 cCB1 cCB2 cCB3 cCB4 cCB5
  clear zDD nDD cDD0 cDD1
  clear zPP nPP cPP0 cPP1
  clear zQQ nQQ cQQ0 cQQ1
  refine (M4.out _).mono ?_
  rintro e w4 ⟨rfl, hb⟩
  clear CA
  clear CB
  clear PP
  clear QQ
  have DD' : Duo w4 ((W.heap.size + 2)) (x, y) := Duo.keep hb (by repeat (first | exact DD.out | exact Duo.new _ (x, y) | exact Duo.new_at (c := (x, y)) (by simp) | apply Duo.alloc))
  clear DD
  have DD := Lib.hid DD'
  clear DD'
  have HB4 : Hid (Below W.heap.size W w4) := Lib.hid (below_then (by repeat (first | exact HB3.out | apply below_new | apply below_draws)) hb)
  clear hb HB3
  go_wp2_with fail
  refine (fixed_true _).mono ?_
  rintro e w5 ⟨rfl, hb⟩
  clear DD
  have HB5 : Hid (Below W.heap.size W w5) := Lib.hid (below_then (by repeat (first | exact HB4.out | apply below_new | apply below_draws)) hb)
  clear hb HB4
  go_wp2_with fail
  go_ret
  exact ⟨rfl, (by repeat (first | exact HB5.out | apply below_new | apply below_draws))⟩

set_option maxRecDepth 100000 in
set_option maxHeartbeats 3200000 in
theorem capsBack_n_good (a b c : Cp) (x y p1 p2 q1 q2 : Nat) (i f g : Int) (hab : Word a.b) (hag : Word a.g) (hbb : Word b.b) (hbg : Word b.g) (hx : Word x) (hy : Word y) (hm1 : packU a = (p1, p2, 0)) (hm2 : packU b = (q1, q2, f)) (hp1 : Word p1) (hp2 : Word p2) (hm3 : unpU p1 p2 = (a, 0)) (hf : (f == 0) = false) (hm4 : unpU x y = (c, 0)) (hm5 : packU c = (x, y, 0)) (hok : c.Ok) (hcb : Word c.b) (hcg : Word c.g) (W : World) :
    Calls Try.prog 7 #[(.agg #[.int .i64 a.k, .int .i64 a.o, .int .i64 a.r, .int .u64 a.b, .int .u64 a.g, .int .i64 a.n]), (.agg #[.int .i64 b.k, .int .i64 b.o, .int .i64 b.r, .int .u64 b.b, .int .u64 b.g, .int .i64 b.n]), (.agg #[.int .u64 x, .int .u64 y])] W fun e w' => e = .returned (.bool true) ∧ Below W.heap.size W w' := by
  have m1 : ∀ w : World, Calls Try.prog 18 #[(.agg #[.int .i64 a.k, .int .i64 a.o, .int .i64 a.r, .int .u64 a.b, .int .u64 a.g, .int .i64 a.n])] w fun e w' => e = .returned (.tuple #[(.agg #[.int .u64 p1, .int .u64 p2]), .int .i64 0]) ∧ Below w.heap.size w w' := fun w => by
    have h := pack_any a hab hag w
    rw [hm1] at h
    exact h
  have M1 := Lib.hid m1
  clear m1
  have m2 : ∀ w : World, Calls Try.prog 18 #[(.agg #[.int .i64 b.k, .int .i64 b.o, .int .i64 b.r, .int .u64 b.b, .int .u64 b.g, .int .i64 b.n])] w fun e w' => e = .returned (.tuple #[(.agg #[.int .u64 q1, .int .u64 q2]), .int .i64 f]) ∧ Below w.heap.size w w' := fun w => by
    have h := pack_any b hbb hbg w
    rw [hm2] at h
    exact h
  have M2 := Lib.hid m2
  clear m2
  have m3 : ∀ w : World, Calls Try.prog 20 #[(.agg #[.int .u64 p1, .int .u64 p2])] w fun e w' => e = .returned (.tuple #[(.agg #[.int .i64 a.k, .int .i64 a.o, .int .i64 a.r, .int .u64 a.b, .int .u64 a.g, .int .i64 a.n]), .int .i64 0]) ∧ Below w.heap.size w w' := fun w => by
    have h := unpack_any p1 p2 hp1 hp2 w
    rw [hm3] at h
    exact h
  have M3 := Lib.hid m3
  clear m3
  have k1 : ∀ w : World, (Op.equalIn 10000 24 (.agg #[.int .i64 a.k, .int .i64 a.o, .int .i64 a.r, .int .u64 a.b, .int .u64 a.g, .int .i64 a.n]) (.agg #[.int .i64 a.k, .int .i64 a.o, .int .i64 a.r, .int .u64 a.b, .int .u64 a.g, .int .i64 a.n])).run Try.prog w = .ok true w := fun w => eq_self a w
  have m4 : ∀ w : World, Calls Try.prog 20 #[(.agg #[.int .u64 x, .int .u64 y])] w fun e w' => e = .returned (.tuple #[(.agg #[.int .i64 c.k, .int .i64 c.o, .int .i64 c.r, .int .u64 c.b, .int .u64 c.g, .int .i64 c.n]), .int .i64 0]) ∧ Below w.heap.size w w' := fun w => by
    have h := unpack_any x y hx hy w
    rw [hm4] at h
    exact h
  have M4 := Lib.hid m4
  clear m4
  have m5 : ∀ w : World, Calls Try.prog 18 #[(.agg #[.int .i64 c.k, .int .i64 c.o, .int .i64 c.r, .int .u64 c.b, .int .u64 c.g, .int .i64 c.n])] w fun e w' => e = .returned (.tuple #[(.agg #[.int .u64 x, .int .u64 y]), .int .i64 0]) ∧ Below w.heap.size w w' := fun w => by
    have h := pack_any c hcb hcg w
    rw [hm5] at h
    exact h
  have M5 := Lib.hid m5
  clear m5
  have OK := Lib.hid hok
  clear hok
  have k4 : ∀ w : World, (Op.equalIn 10000 35 (.agg #[.int .u64 x, .int .u64 y]) (.agg #[.int .u64 x, .int .u64 y])).run Try.prog w = .ok true w := fun w => pairs_eq x y w
  clear hm1 hm2 hm3 hm4 hm5
  go_enter Try.func7, Try.ntmps7
  go_wp2_with fail
  refine (M1.out _).mono ?_
  rintro e w1 ⟨rfl, hb⟩
  have CA' : Box w1 (W.heap.size) a := Box.keep hb (by repeat (first | fail | exact Box.new _ a | exact Box.new_at (c := a) (by simp) | apply Box.alloc))
  have CA := Lib.hid CA'
  clear CA'
  have CB' : Box w1 ((W.heap.size + 1)) b := Box.keep hb (by repeat (first | fail | exact Box.new _ b | exact Box.new_at (c := b) (by simp) | apply Box.alloc))
  have CB := Lib.hid CB'
  clear CB'
  have DD' : Duo w1 ((W.heap.size + 2)) (x, y) := Duo.keep hb (by repeat (first | fail | exact Duo.new _ (x, y) | exact Duo.new_at (c := (x, y)) (by simp) | apply Duo.alloc))
  have DD := Lib.hid DD'
  clear DD'
  have HB1 : Hid (Below W.heap.size W w1) := Lib.hid (below_then (by repeat (first | exact (Below.refl _ _) | apply below_new | apply below_draws)) hb)
  clear hb
  obtain ⟨zCB, cCB0, cCB1, cCB2, cCB3, cCB4, cCB5⟩ := CB.out
  have nCB : ¬ (W.heap.size + 1) = w1.heap.size := by omega
  go_wp2_with fail
  clear zCB nCB cCB0 cCB1 cCB2 cCB3 cCB4 cCB5
  refine (M2.out _).mono ?_
  rintro e w2 ⟨rfl, hb⟩
  have CA' : Box w2 (W.heap.size) a := Box.keep hb (by repeat (first | exact CA.out | exact Box.new _ a | exact Box.new_at (c := a) (by simp) | apply Box.alloc))
  clear CA
  have CA := Lib.hid CA'
  clear CA'
  have CB' : Box w2 ((W.heap.size + 1)) b := Box.keep hb (by repeat (first | exact CB.out | exact Box.new _ b | exact Box.new_at (c := b) (by simp) | apply Box.alloc))
  clear CB
  have CB := Lib.hid CB'
  clear CB'
  have DD' : Duo w2 ((W.heap.size + 2)) (x, y) := Duo.keep hb (by repeat (first | exact DD.out | exact Duo.new _ (x, y) | exact Duo.new_at (c := (x, y)) (by simp) | apply Duo.alloc))
  clear DD
  have DD := Lib.hid DD'
  clear DD'
  have PP' : Duo w2 (w1.heap.size) (p1, p2) := Duo.keep hb (by repeat (first | fail | exact Duo.new _ (p1, p2) | exact Duo.new_at (c := (p1, p2)) (by simp) | apply Duo.alloc))
  have PP := Lib.hid PP'
  clear PP'
  have HB2 : Hid (Below W.heap.size W w2) := Lib.hid (below_then (by repeat (first | exact HB1.out | apply below_new | apply below_draws)) hb)
  clear hb HB1
  obtain ⟨zPP, cPP0, cPP1⟩ := PP.out
  have nPP : ¬ w1.heap.size = w2.heap.size := by omega
  go_wp2_with fail
  clear zPP nPP cPP0 cPP1
  refine (M3.out _).mono ?_
  rintro e w3 ⟨rfl, hb⟩
  have CA' : Box w3 (W.heap.size) a := Box.keep hb (by repeat (first | exact CA.out | exact Box.new _ a | exact Box.new_at (c := a) (by simp) | apply Box.alloc))
  clear CA
  have CA := Lib.hid CA'
  clear CA'
  have CB' : Box w3 ((W.heap.size + 1)) b := Box.keep hb (by repeat (first | exact CB.out | exact Box.new _ b | exact Box.new_at (c := b) (by simp) | apply Box.alloc))
  clear CB
  have CB := Lib.hid CB'
  clear CB'
  have DD' : Duo w3 ((W.heap.size + 2)) (x, y) := Duo.keep hb (by repeat (first | exact DD.out | exact Duo.new _ (x, y) | exact Duo.new_at (c := (x, y)) (by simp) | apply Duo.alloc))
  clear DD
  have DD := Lib.hid DD'
  clear DD'
  have PP' : Duo w3 (w1.heap.size) (p1, p2) := Duo.keep hb (by repeat (first | exact PP.out | exact Duo.new _ (p1, p2) | exact Duo.new_at (c := (p1, p2)) (by simp) | apply Duo.alloc))
  clear PP
  have PP := Lib.hid PP'
  clear PP'
  have QQ' : Duo w3 (w2.heap.size) (q1, q2) := Duo.keep hb (by repeat (first | fail | exact Duo.new _ (q1, q2) | exact Duo.new_at (c := (q1, q2)) (by simp) | apply Duo.alloc))
  have QQ := Lib.hid QQ'
  clear QQ'
  have HB3 : Hid (Below W.heap.size W w3) := Lib.hid (below_then (by repeat (first | exact HB2.out | apply below_new | apply below_draws)) hb)
  clear hb HB2
  obtain ⟨zCA, cCA0, cCA1, cCA2, cCA3, cCA4, cCA5⟩ := CA.out
  have nCA : ¬ W.heap.size = w3.heap.size := by omega
  obtain ⟨zCB, cCB0, cCB1, cCB2, cCB3, cCB4, cCB5⟩ := CB.out
  have nCB : ¬ (W.heap.size + 1) = w3.heap.size := by omega
  obtain ⟨zDD, cDD0, cDD1⟩ := DD.out
  have nDD : ¬ (W.heap.size + 2) = w3.heap.size := by omega
  obtain ⟨zPP, cPP0, cPP1⟩ := PP.out
  have nPP : ¬ w1.heap.size = w3.heap.size := by omega
  obtain ⟨zQQ, cQQ0, cQQ1⟩ := QQ.out
  have nQQ : ¬ w2.heap.size = w3.heap.size := by omega
  go_wp2_with fail
  go_quiet (fail)
  go_wp2_with fail
  clear zCA nCA cCA0 cCA1 cCA2 cCA3 cCA4 cCA5
  clear zCB nCB cCB0 cCB1 cCB2 cCB3 cCB4 cCB5
  clear zDD nDD cDD0 cDD1
  clear zPP nPP cPP0 cPP1
  clear zQQ nQQ cQQ0 cQQ1
  refine (M4.out _).mono ?_
  rintro e w4 ⟨rfl, hb⟩
  clear CA
  clear CB
  clear PP
  clear QQ
  have DD' : Duo w4 ((W.heap.size + 2)) (x, y) := Duo.keep hb (by repeat (first | exact DD.out | exact Duo.new _ (x, y) | exact Duo.new_at (c := (x, y)) (by simp) | apply Duo.alloc))
  clear DD
  have DD := Lib.hid DD'
  clear DD'
  have HB4 : Hid (Below W.heap.size W w4) := Lib.hid (below_then (by repeat (first | exact HB3.out | apply below_new | apply below_draws)) hb)
  clear hb HB3
  go_wp2_with fail
  refine (M5.out _).mono ?_
  rintro e w5 ⟨rfl, hb⟩
  have DD' : Duo w5 ((W.heap.size + 2)) (x, y) := Duo.keep hb (by repeat (first | exact DD.out | exact Duo.new _ (x, y) | exact Duo.new_at (c := (x, y)) (by simp) | apply Duo.alloc))
  clear DD
  have DD := Lib.hid DD'
  clear DD'
  have CC' : Box w5 (w4.heap.size) c := Box.keep hb (by repeat (first | fail | exact Box.new _ c | exact Box.new_at (c := c) (by simp) | apply Box.alloc))
  have CC := Lib.hid CC'
  clear CC'
  have HB5 : Hid (Below W.heap.size W w5) := Lib.hid (below_then (by repeat (first | exact HB4.out | apply below_new | apply below_draws)) hb)
  clear hb HB4
  obtain ⟨zCC, cCC0, cCC1, cCC2, cCC3, cCC4, cCC5⟩ := CC.out
  have nCC : ¬ w4.heap.size = w5.heap.size := by omega
  go_wp2_with fail
  clear zCC nCC cCC0 cCC1 cCC2 cCC3 cCC4 cCC5
  refine ((check_okb c hcg OK.out) _).mono ?_
  rintro e w6 ⟨rfl, hb⟩
  clear CC
  have DD' : Duo w6 ((W.heap.size + 2)) (x, y) := Duo.keep hb (by repeat (first | exact DD.out | exact Duo.new _ (x, y) | exact Duo.new_at (c := (x, y)) (by simp) | apply Duo.alloc))
  clear DD
  have DD := Lib.hid DD'
  clear DD'
  have XX' : Duo w6 (w5.heap.size) (x, y) := Duo.keep hb (by repeat (first | fail | exact Duo.new _ (x, y) | exact Duo.new_at (c := (x, y)) (by simp) | apply Duo.alloc))
  have XX := Lib.hid XX'
  clear XX'
  have HB6 : Hid (Below W.heap.size W w6) := Lib.hid (below_then (by repeat (first | exact HB5.out | apply below_new | apply below_draws)) hb)
  clear hb HB5
  obtain ⟨zXX, cXX0, cXX1⟩ := XX.out
  have nXX : ¬ w5.heap.size = w6.heap.size := by omega
  obtain ⟨zDD, cDD0, cDD1⟩ := DD.out
  have nDD : ¬ (W.heap.size + 2) = w6.heap.size := by omega
  go_wp2_with fail
  clear zXX nXX cXX0 cXX1
  clear zDD nDD cDD0 cDD1
  refine (fixed_true _).mono ?_
  rintro e w7 ⟨rfl, hb⟩
  clear XX
  clear DD
  have HB7 : Hid (Below W.heap.size W w7) := Lib.hid (below_then (by repeat (first | exact HB6.out | apply below_new | apply below_draws)) hb)
  clear hb HB6
  go_wp2_with fail
  go_ret
  exact ⟨rfl, (by repeat (first | exact HB7.out | apply below_new | apply below_draws))⟩

set_option maxRecDepth 100000 in
set_option maxHeartbeats 3200000 in
theorem capsBack_n_bad (a b c : Cp) (x y p1 p2 q1 q2 : Nat) (i f g : Int) (hab : Word a.b) (hag : Word a.g) (hbb : Word b.b) (hbg : Word b.g) (hx : Word x) (hy : Word y) (hm1 : packU a = (p1, p2, 0)) (hm2 : packU b = (q1, q2, f)) (hp1 : Word p1) (hp2 : Word p2) (hm3 : unpU p1 p2 = (a, 0)) (hf : (f == 0) = false) (hm4 : unpU x y = (zero, g)) (hg : (g != 0) = true) (W : World) :
    Calls Try.prog 7 #[(.agg #[.int .i64 a.k, .int .i64 a.o, .int .i64 a.r, .int .u64 a.b, .int .u64 a.g, .int .i64 a.n]), (.agg #[.int .i64 b.k, .int .i64 b.o, .int .i64 b.r, .int .u64 b.b, .int .u64 b.g, .int .i64 b.n]), (.agg #[.int .u64 x, .int .u64 y])] W fun e w' => e = .returned (.bool true) ∧ Below W.heap.size W w' := by
  have m1 : ∀ w : World, Calls Try.prog 18 #[(.agg #[.int .i64 a.k, .int .i64 a.o, .int .i64 a.r, .int .u64 a.b, .int .u64 a.g, .int .i64 a.n])] w fun e w' => e = .returned (.tuple #[(.agg #[.int .u64 p1, .int .u64 p2]), .int .i64 0]) ∧ Below w.heap.size w w' := fun w => by
    have h := pack_any a hab hag w
    rw [hm1] at h
    exact h
  have M1 := Lib.hid m1
  clear m1
  have m2 : ∀ w : World, Calls Try.prog 18 #[(.agg #[.int .i64 b.k, .int .i64 b.o, .int .i64 b.r, .int .u64 b.b, .int .u64 b.g, .int .i64 b.n])] w fun e w' => e = .returned (.tuple #[(.agg #[.int .u64 q1, .int .u64 q2]), .int .i64 f]) ∧ Below w.heap.size w w' := fun w => by
    have h := pack_any b hbb hbg w
    rw [hm2] at h
    exact h
  have M2 := Lib.hid m2
  clear m2
  have m3 : ∀ w : World, Calls Try.prog 20 #[(.agg #[.int .u64 p1, .int .u64 p2])] w fun e w' => e = .returned (.tuple #[(.agg #[.int .i64 a.k, .int .i64 a.o, .int .i64 a.r, .int .u64 a.b, .int .u64 a.g, .int .i64 a.n]), .int .i64 0]) ∧ Below w.heap.size w w' := fun w => by
    have h := unpack_any p1 p2 hp1 hp2 w
    rw [hm3] at h
    exact h
  have M3 := Lib.hid m3
  clear m3
  have k1 : ∀ w : World, (Op.equalIn 10000 24 (.agg #[.int .i64 a.k, .int .i64 a.o, .int .i64 a.r, .int .u64 a.b, .int .u64 a.g, .int .i64 a.n]) (.agg #[.int .i64 a.k, .int .i64 a.o, .int .i64 a.r, .int .u64 a.b, .int .u64 a.g, .int .i64 a.n])).run Try.prog w = .ok true w := fun w => eq_self a w
  have m4 : ∀ w : World, Calls Try.prog 20 #[(.agg #[.int .u64 x, .int .u64 y])] w fun e w' => e = .returned (.tuple #[(.agg #[.int .i64 0, .int .i64 0, .int .i64 0, .int .u64 0, .int .u64 0, .int .i64 0]), .int .i64 g]) ∧ Below w.heap.size w w' := fun w => by
    have h := unpack_any x y hx hy w
    rw [hm4] at h
    exact h
  have M4 := Lib.hid m4
  clear m4
  have k5 : ∀ w : World, (Op.equalIn 10000 24 (.agg #[.int .i64 0, .int .i64 0, .int .i64 0, .int .u64 0, .int .u64 0, .int .i64 0]) (.agg #[.int .i64 0, .int .i64 0, .int .i64 0, .int .u64 0, .int .u64 0, .int .i64 0])).run Try.prog w = .ok true w := fun w => eq_self zero w
  clear hm1 hm2 hm3 hm4
  go_enter Try.func7, Try.ntmps7
  go_wp2_with fail
  refine (M1.out _).mono ?_
  rintro e w1 ⟨rfl, hb⟩
  have CA' : Box w1 (W.heap.size) a := Box.keep hb (by repeat (first | fail | exact Box.new _ a | exact Box.new_at (c := a) (by simp) | apply Box.alloc))
  have CA := Lib.hid CA'
  clear CA'
  have CB' : Box w1 ((W.heap.size + 1)) b := Box.keep hb (by repeat (first | fail | exact Box.new _ b | exact Box.new_at (c := b) (by simp) | apply Box.alloc))
  have CB := Lib.hid CB'
  clear CB'
  have DD' : Duo w1 ((W.heap.size + 2)) (x, y) := Duo.keep hb (by repeat (first | fail | exact Duo.new _ (x, y) | exact Duo.new_at (c := (x, y)) (by simp) | apply Duo.alloc))
  have DD := Lib.hid DD'
  clear DD'
  have HB1 : Hid (Below W.heap.size W w1) := Lib.hid (below_then (by repeat (first | exact (Below.refl _ _) | apply below_new | apply below_draws)) hb)
  clear hb
  obtain ⟨zCB, cCB0, cCB1, cCB2, cCB3, cCB4, cCB5⟩ := CB.out
  have nCB : ¬ (W.heap.size + 1) = w1.heap.size := by omega
  go_wp2_with fail
  clear zCB nCB cCB0 cCB1 cCB2 cCB3 cCB4 cCB5
  refine (M2.out _).mono ?_
  rintro e w2 ⟨rfl, hb⟩
  have CA' : Box w2 (W.heap.size) a := Box.keep hb (by repeat (first | exact CA.out | exact Box.new _ a | exact Box.new_at (c := a) (by simp) | apply Box.alloc))
  clear CA
  have CA := Lib.hid CA'
  clear CA'
  have CB' : Box w2 ((W.heap.size + 1)) b := Box.keep hb (by repeat (first | exact CB.out | exact Box.new _ b | exact Box.new_at (c := b) (by simp) | apply Box.alloc))
  clear CB
  have CB := Lib.hid CB'
  clear CB'
  have DD' : Duo w2 ((W.heap.size + 2)) (x, y) := Duo.keep hb (by repeat (first | exact DD.out | exact Duo.new _ (x, y) | exact Duo.new_at (c := (x, y)) (by simp) | apply Duo.alloc))
  clear DD
  have DD := Lib.hid DD'
  clear DD'
  have PP' : Duo w2 (w1.heap.size) (p1, p2) := Duo.keep hb (by repeat (first | fail | exact Duo.new _ (p1, p2) | exact Duo.new_at (c := (p1, p2)) (by simp) | apply Duo.alloc))
  have PP := Lib.hid PP'
  clear PP'
  have HB2 : Hid (Below W.heap.size W w2) := Lib.hid (below_then (by repeat (first | exact HB1.out | apply below_new | apply below_draws)) hb)
  clear hb HB1
  obtain ⟨zPP, cPP0, cPP1⟩ := PP.out
  have nPP : ¬ w1.heap.size = w2.heap.size := by omega
  go_wp2_with fail
  clear zPP nPP cPP0 cPP1
  refine (M3.out _).mono ?_
  rintro e w3 ⟨rfl, hb⟩
  have CA' : Box w3 (W.heap.size) a := Box.keep hb (by repeat (first | exact CA.out | exact Box.new _ a | exact Box.new_at (c := a) (by simp) | apply Box.alloc))
  clear CA
  have CA := Lib.hid CA'
  clear CA'
  have CB' : Box w3 ((W.heap.size + 1)) b := Box.keep hb (by repeat (first | exact CB.out | exact Box.new _ b | exact Box.new_at (c := b) (by simp) | apply Box.alloc))
  clear CB
  have CB := Lib.hid CB'
  clear CB'
  have DD' : Duo w3 ((W.heap.size + 2)) (x, y) := Duo.keep hb (by repeat (first | exact DD.out | exact Duo.new _ (x, y) | exact Duo.new_at (c := (x, y)) (by simp) | apply Duo.alloc))
  clear DD
  have DD := Lib.hid DD'
  clear DD'
  have PP' : Duo w3 (w1.heap.size) (p1, p2) := Duo.keep hb (by repeat (first | exact PP.out | exact Duo.new _ (p1, p2) | exact Duo.new_at (c := (p1, p2)) (by simp) | apply Duo.alloc))
  clear PP
  have PP := Lib.hid PP'
  clear PP'
  have QQ' : Duo w3 (w2.heap.size) (q1, q2) := Duo.keep hb (by repeat (first | fail | exact Duo.new _ (q1, q2) | exact Duo.new_at (c := (q1, q2)) (by simp) | apply Duo.alloc))
  have QQ := Lib.hid QQ'
  clear QQ'
  have HB3 : Hid (Below W.heap.size W w3) := Lib.hid (below_then (by repeat (first | exact HB2.out | apply below_new | apply below_draws)) hb)
  clear hb HB2
  obtain ⟨zCA, cCA0, cCA1, cCA2, cCA3, cCA4, cCA5⟩ := CA.out
  have nCA : ¬ W.heap.size = w3.heap.size := by omega
  obtain ⟨zCB, cCB0, cCB1, cCB2, cCB3, cCB4, cCB5⟩ := CB.out
  have nCB : ¬ (W.heap.size + 1) = w3.heap.size := by omega
  obtain ⟨zDD, cDD0, cDD1⟩ := DD.out
  have nDD : ¬ (W.heap.size + 2) = w3.heap.size := by omega
  obtain ⟨zPP, cPP0, cPP1⟩ := PP.out
  have nPP : ¬ w1.heap.size = w3.heap.size := by omega
  obtain ⟨zQQ, cQQ0, cQQ1⟩ := QQ.out
  have nQQ : ¬ w2.heap.size = w3.heap.size := by omega
  go_wp2_with fail
  go_quiet (fail)
  go_wp2_with fail
  clear zCA nCA cCA0 cCA1 cCA2 cCA3 cCA4 cCA5
  clear zCB nCB cCB0 cCB1 cCB2 cCB3 cCB4 cCB5
  clear zDD nDD cDD0 cDD1
  clear zPP nPP cPP0 cPP1
  clear zQQ nQQ cQQ0 cQQ1
  refine (M4.out _).mono ?_
  rintro e w4 ⟨rfl, hb⟩
  clear CA
  clear CB
  clear PP
  clear QQ
  have DD' : Duo w4 ((W.heap.size + 2)) (x, y) := Duo.keep hb (by repeat (first | exact DD.out | exact Duo.new _ (x, y) | exact Duo.new_at (c := (x, y)) (by simp) | apply Duo.alloc))
  clear DD
  have DD := Lib.hid DD'
  clear DD'
  have HB4 : Hid (Below W.heap.size W w4) := Lib.hid (below_then (by repeat (first | exact HB3.out | apply below_new | apply below_draws)) hb)
  clear hb HB3
  go_wp2_with fail
  refine (fixed_true _).mono ?_
  rintro e w5 ⟨rfl, hb⟩
  clear DD
  have HB5 : Hid (Below W.heap.size W w5) := Lib.hid (below_then (by repeat (first | exact HB4.out | apply below_new | apply below_draws)) hb)
  clear hb HB4
  go_wp2_with fail
  go_ret
  exact ⟨rfl, (by repeat (first | exact HB5.out | apply below_new | apply below_draws))⟩

set_option maxRecDepth 100000 in
set_option maxHeartbeats 3200000 in
theorem capsBack_no_good (a b c : Cp) (x y p1 p2 q1 q2 : Nat) (i f g : Int) (hab : Word a.b) (hag : Word a.g) (hbb : Word b.b) (hbg : Word b.g) (hx : Word x) (hy : Word y) (hm1 : packU a = (p1, p2, i)) (hm2 : packU b = (q1, q2, f)) (he : (i == 0) = false) (hm4 : unpU x y = (c, 0)) (hm5 : packU c = (x, y, 0)) (hok : c.Ok) (hcb : Word c.b) (hcg : Word c.g) (W : World) :
    Calls Try.prog 7 #[(.agg #[.int .i64 a.k, .int .i64 a.o, .int .i64 a.r, .int .u64 a.b, .int .u64 a.g, .int .i64 a.n]), (.agg #[.int .i64 b.k, .int .i64 b.o, .int .i64 b.r, .int .u64 b.b, .int .u64 b.g, .int .i64 b.n]), (.agg #[.int .u64 x, .int .u64 y])] W fun e w' => e = .returned (.bool true) ∧ Below W.heap.size W w' := by
  have m1 : ∀ w : World, Calls Try.prog 18 #[(.agg #[.int .i64 a.k, .int .i64 a.o, .int .i64 a.r, .int .u64 a.b, .int .u64 a.g, .int .i64 a.n])] w fun e w' => e = .returned (.tuple #[(.agg #[.int .u64 p1, .int .u64 p2]), .int .i64 i]) ∧ Below w.heap.size w w' := fun w => by
    have h := pack_any a hab hag w
    rw [hm1] at h
    exact h
  have M1 := Lib.hid m1
  clear m1
  have m2 : ∀ w : World, Calls Try.prog 18 #[(.agg #[.int .i64 b.k, .int .i64 b.o, .int .i64 b.r, .int .u64 b.b, .int .u64 b.g, .int .i64 b.n])] w fun e w' => e = .returned (.tuple #[(.agg #[.int .u64 q1, .int .u64 q2]), .int .i64 f]) ∧ Below w.heap.size w w' := fun w => by
    have h := pack_any b hbb hbg w
    rw [hm2] at h
    exact h
  have M2 := Lib.hid m2
  clear m2
  have m4 : ∀ w : World, Calls Try.prog 20 #[(.agg #[.int .u64 x, .int .u64 y])] w fun e w' => e = .returned (.tuple #[(.agg #[.int .i64 c.k, .int .i64 c.o, .int .i64 c.r, .int .u64 c.b, .int .u64 c.g, .int .i64 c.n]), .int .i64 0]) ∧ Below w.heap.size w w' := fun w => by
    have h := unpack_any x y hx hy w
    rw [hm4] at h
    exact h
  have M4 := Lib.hid m4
  clear m4
  have m5 : ∀ w : World, Calls Try.prog 18 #[(.agg #[.int .i64 c.k, .int .i64 c.o, .int .i64 c.r, .int .u64 c.b, .int .u64 c.g, .int .i64 c.n])] w fun e w' => e = .returned (.tuple #[(.agg #[.int .u64 x, .int .u64 y]), .int .i64 0]) ∧ Below w.heap.size w w' := fun w => by
    have h := pack_any c hcb hcg w
    rw [hm5] at h
    exact h
  have M5 := Lib.hid m5
  clear m5
  have OK := Lib.hid hok
  clear hok
  have k4 : ∀ w : World, (Op.equalIn 10000 35 (.agg #[.int .u64 x, .int .u64 y]) (.agg #[.int .u64 x, .int .u64 y])).run Try.prog w = .ok true w := fun w => pairs_eq x y w
  clear hm1 hm2 hm4 hm5
  go_enter Try.func7, Try.ntmps7
  go_wp2_with fail
  refine (M1.out _).mono ?_
  rintro e w1 ⟨rfl, hb⟩
  have CA' : Box w1 (W.heap.size) a := Box.keep hb (by repeat (first | fail | exact Box.new _ a | exact Box.new_at (c := a) (by simp) | apply Box.alloc))
  have CA := Lib.hid CA'
  clear CA'
  have CB' : Box w1 ((W.heap.size + 1)) b := Box.keep hb (by repeat (first | fail | exact Box.new _ b | exact Box.new_at (c := b) (by simp) | apply Box.alloc))
  have CB := Lib.hid CB'
  clear CB'
  have DD' : Duo w1 ((W.heap.size + 2)) (x, y) := Duo.keep hb (by repeat (first | fail | exact Duo.new _ (x, y) | exact Duo.new_at (c := (x, y)) (by simp) | apply Duo.alloc))
  have DD := Lib.hid DD'
  clear DD'
  have HB1 : Hid (Below W.heap.size W w1) := Lib.hid (below_then (by repeat (first | exact (Below.refl _ _) | apply below_new | apply below_draws)) hb)
  clear hb
  obtain ⟨zCB, cCB0, cCB1, cCB2, cCB3, cCB4, cCB5⟩ := CB.out
  have nCB : ¬ (W.heap.size + 1) = w1.heap.size := by omega
  go_wp2_with fail
  clear zCB nCB cCB0 cCB1 cCB2 cCB3 cCB4 cCB5
  refine (M2.out _).mono ?_
  rintro e w2 ⟨rfl, hb⟩
  have CA' : Box w2 (W.heap.size) a := Box.keep hb (by repeat (first | exact CA.out | exact Box.new _ a | exact Box.new_at (c := a) (by simp) | apply Box.alloc))
  clear CA
  have CA := Lib.hid CA'
  clear CA'
  have CB' : Box w2 ((W.heap.size + 1)) b := Box.keep hb (by repeat (first | exact CB.out | exact Box.new _ b | exact Box.new_at (c := b) (by simp) | apply Box.alloc))
  clear CB
  have CB := Lib.hid CB'
  clear CB'
  have DD' : Duo w2 ((W.heap.size + 2)) (x, y) := Duo.keep hb (by repeat (first | exact DD.out | exact Duo.new _ (x, y) | exact Duo.new_at (c := (x, y)) (by simp) | apply Duo.alloc))
  clear DD
  have DD := Lib.hid DD'
  clear DD'
  have PP' : Duo w2 (w1.heap.size) (p1, p2) := Duo.keep hb (by repeat (first | fail | exact Duo.new _ (p1, p2) | exact Duo.new_at (c := (p1, p2)) (by simp) | apply Duo.alloc))
  have PP := Lib.hid PP'
  clear PP'
  have HB2 : Hid (Below W.heap.size W w2) := Lib.hid (below_then (by repeat (first | exact HB1.out | apply below_new | apply below_draws)) hb)
  clear hb HB1
  obtain ⟨zDD, cDD0, cDD1⟩ := DD.out
  have nDD : ¬ (W.heap.size + 2) = w2.heap.size := by omega
  go_wp2_with fail
  clear zDD nDD cDD0 cDD1
  refine (M4.out _).mono ?_
  rintro e w3 ⟨rfl, hb⟩
  clear CA
  clear CB
  clear PP
  have DD' : Duo w3 ((W.heap.size + 2)) (x, y) := Duo.keep hb (by repeat (first | exact DD.out | exact Duo.new _ (x, y) | exact Duo.new_at (c := (x, y)) (by simp) | apply Duo.alloc))
  clear DD
  have DD := Lib.hid DD'
  clear DD'
  have HB3 : Hid (Below W.heap.size W w3) := Lib.hid (below_then (by repeat (first | exact HB2.out | apply below_new | apply below_draws)) hb)
  clear hb HB2
  go_wp2_with fail
  refine (M5.out _).mono ?_
  rintro e w4 ⟨rfl, hb⟩
  have DD' : Duo w4 ((W.heap.size + 2)) (x, y) := Duo.keep hb (by repeat (first | exact DD.out | exact Duo.new _ (x, y) | exact Duo.new_at (c := (x, y)) (by simp) | apply Duo.alloc))
  clear DD
  have DD := Lib.hid DD'
  clear DD'
  have CC' : Box w4 (w3.heap.size) c := Box.keep hb (by repeat (first | fail | exact Box.new _ c | exact Box.new_at (c := c) (by simp) | apply Box.alloc))
  have CC := Lib.hid CC'
  clear CC'
  have HB4 : Hid (Below W.heap.size W w4) := Lib.hid (below_then (by repeat (first | exact HB3.out | apply below_new | apply below_draws)) hb)
  clear hb HB3
  obtain ⟨zCC, cCC0, cCC1, cCC2, cCC3, cCC4, cCC5⟩ := CC.out
  have nCC : ¬ w3.heap.size = w4.heap.size := by omega
  go_wp2_with fail
  clear zCC nCC cCC0 cCC1 cCC2 cCC3 cCC4 cCC5
  refine ((check_okb c hcg OK.out) _).mono ?_
  rintro e w5 ⟨rfl, hb⟩
  clear CC
  have DD' : Duo w5 ((W.heap.size + 2)) (x, y) := Duo.keep hb (by repeat (first | exact DD.out | exact Duo.new _ (x, y) | exact Duo.new_at (c := (x, y)) (by simp) | apply Duo.alloc))
  clear DD
  have DD := Lib.hid DD'
  clear DD'
  have XX' : Duo w5 (w4.heap.size) (x, y) := Duo.keep hb (by repeat (first | fail | exact Duo.new _ (x, y) | exact Duo.new_at (c := (x, y)) (by simp) | apply Duo.alloc))
  have XX := Lib.hid XX'
  clear XX'
  have HB5 : Hid (Below W.heap.size W w5) := Lib.hid (below_then (by repeat (first | exact HB4.out | apply below_new | apply below_draws)) hb)
  clear hb HB4
  obtain ⟨zXX, cXX0, cXX1⟩ := XX.out
  have nXX : ¬ w4.heap.size = w5.heap.size := by omega
  obtain ⟨zDD, cDD0, cDD1⟩ := DD.out
  have nDD : ¬ (W.heap.size + 2) = w5.heap.size := by omega
  go_wp2_with fail
  clear zXX nXX cXX0 cXX1
  clear zDD nDD cDD0 cDD1
  refine (fixed_true _).mono ?_
  rintro e w6 ⟨rfl, hb⟩
  clear XX
  clear DD
  have HB6 : Hid (Below W.heap.size W w6) := Lib.hid (below_then (by repeat (first | exact HB5.out | apply below_new | apply below_draws)) hb)
  clear hb HB5
  go_wp2_with fail
  go_ret
  exact ⟨rfl, (by repeat (first | exact HB6.out | apply below_new | apply below_draws))⟩

set_option maxRecDepth 100000 in
set_option maxHeartbeats 3200000 in
theorem capsBack_no_bad (a b c : Cp) (x y p1 p2 q1 q2 : Nat) (i f g : Int) (hab : Word a.b) (hag : Word a.g) (hbb : Word b.b) (hbg : Word b.g) (hx : Word x) (hy : Word y) (hm1 : packU a = (p1, p2, i)) (hm2 : packU b = (q1, q2, f)) (he : (i == 0) = false) (hm4 : unpU x y = (zero, g)) (hg : (g != 0) = true) (W : World) :
    Calls Try.prog 7 #[(.agg #[.int .i64 a.k, .int .i64 a.o, .int .i64 a.r, .int .u64 a.b, .int .u64 a.g, .int .i64 a.n]), (.agg #[.int .i64 b.k, .int .i64 b.o, .int .i64 b.r, .int .u64 b.b, .int .u64 b.g, .int .i64 b.n]), (.agg #[.int .u64 x, .int .u64 y])] W fun e w' => e = .returned (.bool true) ∧ Below W.heap.size W w' := by
  have m1 : ∀ w : World, Calls Try.prog 18 #[(.agg #[.int .i64 a.k, .int .i64 a.o, .int .i64 a.r, .int .u64 a.b, .int .u64 a.g, .int .i64 a.n])] w fun e w' => e = .returned (.tuple #[(.agg #[.int .u64 p1, .int .u64 p2]), .int .i64 i]) ∧ Below w.heap.size w w' := fun w => by
    have h := pack_any a hab hag w
    rw [hm1] at h
    exact h
  have M1 := Lib.hid m1
  clear m1
  have m2 : ∀ w : World, Calls Try.prog 18 #[(.agg #[.int .i64 b.k, .int .i64 b.o, .int .i64 b.r, .int .u64 b.b, .int .u64 b.g, .int .i64 b.n])] w fun e w' => e = .returned (.tuple #[(.agg #[.int .u64 q1, .int .u64 q2]), .int .i64 f]) ∧ Below w.heap.size w w' := fun w => by
    have h := pack_any b hbb hbg w
    rw [hm2] at h
    exact h
  have M2 := Lib.hid m2
  clear m2
  have m4 : ∀ w : World, Calls Try.prog 20 #[(.agg #[.int .u64 x, .int .u64 y])] w fun e w' => e = .returned (.tuple #[(.agg #[.int .i64 0, .int .i64 0, .int .i64 0, .int .u64 0, .int .u64 0, .int .i64 0]), .int .i64 g]) ∧ Below w.heap.size w w' := fun w => by
    have h := unpack_any x y hx hy w
    rw [hm4] at h
    exact h
  have M4 := Lib.hid m4
  clear m4
  have k5 : ∀ w : World, (Op.equalIn 10000 24 (.agg #[.int .i64 0, .int .i64 0, .int .i64 0, .int .u64 0, .int .u64 0, .int .i64 0]) (.agg #[.int .i64 0, .int .i64 0, .int .i64 0, .int .u64 0, .int .u64 0, .int .i64 0])).run Try.prog w = .ok true w := fun w => eq_self zero w
  clear hm1 hm2 hm4
  go_enter Try.func7, Try.ntmps7
  go_wp2_with fail
  refine (M1.out _).mono ?_
  rintro e w1 ⟨rfl, hb⟩
  have CA' : Box w1 (W.heap.size) a := Box.keep hb (by repeat (first | fail | exact Box.new _ a | exact Box.new_at (c := a) (by simp) | apply Box.alloc))
  have CA := Lib.hid CA'
  clear CA'
  have CB' : Box w1 ((W.heap.size + 1)) b := Box.keep hb (by repeat (first | fail | exact Box.new _ b | exact Box.new_at (c := b) (by simp) | apply Box.alloc))
  have CB := Lib.hid CB'
  clear CB'
  have DD' : Duo w1 ((W.heap.size + 2)) (x, y) := Duo.keep hb (by repeat (first | fail | exact Duo.new _ (x, y) | exact Duo.new_at (c := (x, y)) (by simp) | apply Duo.alloc))
  have DD := Lib.hid DD'
  clear DD'
  have HB1 : Hid (Below W.heap.size W w1) := Lib.hid (below_then (by repeat (first | exact (Below.refl _ _) | apply below_new | apply below_draws)) hb)
  clear hb
  obtain ⟨zCB, cCB0, cCB1, cCB2, cCB3, cCB4, cCB5⟩ := CB.out
  have nCB : ¬ (W.heap.size + 1) = w1.heap.size := by omega
  go_wp2_with fail
  clear zCB nCB cCB0 cCB1 cCB2 cCB3 cCB4 cCB5
  refine (M2.out _).mono ?_
  rintro e w2 ⟨rfl, hb⟩
  have CA' : Box w2 (W.heap.size) a := Box.keep hb (by repeat (first | exact CA.out | exact Box.new _ a | exact Box.new_at (c := a) (by simp) | apply Box.alloc))
  clear CA
  have CA := Lib.hid CA'
  clear CA'
  have CB' : Box w2 ((W.heap.size + 1)) b := Box.keep hb (by repeat (first | exact CB.out | exact Box.new _ b | exact Box.new_at (c := b) (by simp) | apply Box.alloc))
  clear CB
  have CB := Lib.hid CB'
  clear CB'
  have DD' : Duo w2 ((W.heap.size + 2)) (x, y) := Duo.keep hb (by repeat (first | exact DD.out | exact Duo.new _ (x, y) | exact Duo.new_at (c := (x, y)) (by simp) | apply Duo.alloc))
  clear DD
  have DD := Lib.hid DD'
  clear DD'
  have PP' : Duo w2 (w1.heap.size) (p1, p2) := Duo.keep hb (by repeat (first | fail | exact Duo.new _ (p1, p2) | exact Duo.new_at (c := (p1, p2)) (by simp) | apply Duo.alloc))
  have PP := Lib.hid PP'
  clear PP'
  have HB2 : Hid (Below W.heap.size W w2) := Lib.hid (below_then (by repeat (first | exact HB1.out | apply below_new | apply below_draws)) hb)
  clear hb HB1
  obtain ⟨zDD, cDD0, cDD1⟩ := DD.out
  have nDD : ¬ (W.heap.size + 2) = w2.heap.size := by omega
  go_wp2_with fail
  clear zDD nDD cDD0 cDD1
  refine (M4.out _).mono ?_
  rintro e w3 ⟨rfl, hb⟩
  clear CA
  clear CB
  clear PP
  have DD' : Duo w3 ((W.heap.size + 2)) (x, y) := Duo.keep hb (by repeat (first | exact DD.out | exact Duo.new _ (x, y) | exact Duo.new_at (c := (x, y)) (by simp) | apply Duo.alloc))
  clear DD
  have DD := Lib.hid DD'
  clear DD'
  have HB3 : Hid (Below W.heap.size W w3) := Lib.hid (below_then (by repeat (first | exact HB2.out | apply below_new | apply below_draws)) hb)
  clear hb HB2
  go_wp2_with fail
  refine (fixed_true _).mono ?_
  rintro e w4 ⟨rfl, hb⟩
  clear DD
  have HB4 : Hid (Below W.heap.size W w4) := Lib.hid (below_then (by repeat (first | exact HB3.out | apply below_new | apply below_draws)) hb)
  clear hb HB3
  go_wp2_with fail
  go_ret
  exact ⟨rfl, (by repeat (first | exact HB4.out | apply below_new | apply below_draws))⟩

theorem capsBack_walk (a b : Cp) (x y : Nat) (hab : Word a.b) (hag : Word a.g) (hbb : Word b.b) (hbg : Word b.g) (hx : Word x) (hy : Word y) (W : World) :
    Calls Try.prog 7 #[(.agg #[.int .i64 a.k, .int .i64 a.o, .int .i64 a.r, .int .u64 a.b, .int .u64 a.g, .int .i64 a.n]), (.agg #[.int .i64 b.k, .int .i64 b.o, .int .i64 b.r, .int .u64 b.b, .int .u64 b.g, .int .i64 b.n]), (.agg #[.int .u64 x, .int .u64 y])] W fun e w' => e = .returned (.bool true) ∧ Below W.heap.size W w' := by
  obtain ⟨⟨p1, p2, i⟩, hm1⟩ : ∃ q, packU a = q := ⟨_, rfl⟩
  obtain ⟨⟨q1, q2, f⟩, hm2⟩ : ∃ q, packU b = q := ⟨_, rfl⟩
  obtain ⟨⟨c, g⟩, hm4⟩ : ∃ q, unpU x y = q := ⟨_, rfl⟩
  by_cases hg : g = 0
  · subst hg
    obtain ⟨ok, hm5⟩ := unp_good hm4
    obtain ⟨hcb, hcg⟩ := unp_words hy hm4
    by_cases he : i = 0
    · subst he
      obtain ⟨hp1, hp2⟩ := pack_words hab hag hm1
      have hm3 := (pack_back hm1).2
      by_cases hf : f = 0
      · subst hf
        have hd := pack_one hm1 hm2
        cases hD : eqB a b
        · exact capsBack_ff_good a b c x y p1 p2 q1 q2 0 0 0 hab hag hbb hbg hx hy hm1 hm2 hp1 hp2 hm3 (hd.trans hD) hD hm4 hm5 ok hcb hcg W
        · exact capsBack_tt_good a b c x y p1 p2 q1 q2 0 0 0 hab hag hbb hbg hx hy hm1 hm2 hp1 hp2 hm3 (hd.trans hD) hD hm4 hm5 ok hcb hcg W
      · exact capsBack_n_good a b c x y p1 p2 q1 q2 0 f 0 hab hag hbb hbg hx hy hm1 hm2 hp1 hp2 hm3 (by simpa using hf) hm4 hm5 ok hcb hcg W
    · exact capsBack_no_good a b c x y p1 p2 q1 q2 i f 0 hab hag hbb hbg hx hy hm1 hm2 (by simpa using he) hm4 hm5 ok hcb hcg W
  · have hz := unp_bad hm4 hg
    subst hz
    have hg' : (g != 0) = true := by simpa using hg
    by_cases he : i = 0
    · subst he
      obtain ⟨hp1, hp2⟩ := pack_words hab hag hm1
      have hm3 := (pack_back hm1).2
      by_cases hf : f = 0
      · subst hf
        have hd := pack_one hm1 hm2
        cases hD : eqB a b
        · exact capsBack_ff_bad a b a x y p1 p2 q1 q2 0 0 g hab hag hbb hbg hx hy hm1 hm2 hp1 hp2 hm3 (hd.trans hD) hD hm4 hg' W
        · exact capsBack_tt_bad a b a x y p1 p2 q1 q2 0 0 g hab hag hbb hbg hx hy hm1 hm2 hp1 hp2 hm3 (hd.trans hD) hD hm4 hg' W
      · exact capsBack_n_bad a b a x y p1 p2 q1 q2 0 f g hab hag hbb hbg hx hy hm1 hm2 hp1 hp2 hm3 (by simpa using hf) hm4 hg' W
    · exact capsBack_no_bad a b a x y p1 p2 q1 q2 i f g hab hag hbb hbg hx hy hm1 hm2 (by simpa using he) hm4 hg' W


set_option maxRecDepth 100000 in
theorem capsBack_lifted (os : Os) (started : os.Started) (H : Type) (enc : TypeId × Value → H) :
    ReturnsInHanded {} Try.checked os 7 .any (Rows.capsBackSpec.pre6 enc Try.prog Try.f7 Rows.capsBackRow.domain false) (Rows.capsBackSpec.post enc Try.prog Try.f7 false true false false) := by
  refine returnsInHanded_of_change (C := Try.checked) own_knob started (by kernel_rfl) Try.func7
    (ChangeSpec.witness6 (enc := enc) (C := Try.checked) false ⟨#[], #[.agg #[.int .i64 0, .int .i64 0, .int .i64 0, .int .u64 0, .int .u64 0, .int .i64 0], .agg #[.int .i64 0, .int .i64 0, .int .i64 0, .int .u64 0, .int .u64 0, .int .i64 0], .agg #[.int .u64 0, .int .u64 0]], []⟩ 8 (by kernel_rfl) (by kernel_rfl) (by kernel_rfl) (by kernel_rfl)) ?_
  intro W base args ds gs before hval0 hW hcnd _
  have hval : ∀ (j : Nat) t v, Try.f7.params[j]? = some t → args[j]? = some v → Value.okWide Try.prog W .any base t v := hval0
  have hW' := hW
  obtain ⟨p, q, hA0, hV, rfl, hfz, hnd⟩ := hW
  have hA : DataW.TrodAll enc Try.prog W 0 (fun _ => true) true Try.f7.params.toList args.toList ds p := hA0
  rw [Try.params7] at hA hval
  obtain ⟨v0, v1, v2, d0, d1, d2, p0, p1, p2, rfl, rfl, rfl, h0, h1, h2⟩ := trodAll_three hA
  obtain ⟨rfl, rfl⟩ := trodVars_none hV
  clear hA0 hval0
  simp only [List.append_nil] at hW'
  have hlt : ∀ x ∈ p0 ++ p1 ++ p2, x.block < W.heap.size := fun x hx => by simpa using hW'.lt x hx
  have g0 : ∀ W' : World, Below W.heap.size W W' → DataW.Trod enc Try.prog W' 0 (fun b => decide (b < W.heap.size)) true 24 v0 d0 p0 :=
    fun W' hn => Below.trod laid_out (by kernel_rfl) (of_decide_eq_true (by kernel_rfl)) h0 hn (fun x hx => hlt x (by simp [hx]))
  have g1 : ∀ W' : World, Below W.heap.size W W' → DataW.Trod enc Try.prog W' 0 (fun b => decide (b < W.heap.size)) true 24 v1 d1 p1 :=
    fun W' hn => Below.trod laid_out (by kernel_rfl) (of_decide_eq_true (by kernel_rfl)) h1 hn (fun x hx => hlt x (by simp [hx]))
  have g2 : ∀ W' : World, Below W.heap.size W W' → DataW.Trod enc Try.prog W' 0 (fun b => decide (b < W.heap.size)) true 35 v2 d2 p2 :=
    fun W' hn => Below.trod laid_out (by kernel_rfl) (of_decide_eq_true (by kernel_rfl)) h2 hn (fun x hx => hlt x (by simp [hx]))
  obtain ⟨a, rfl, l0b, l0g⟩ := open_cap (hval 0 24 v0 rfl rfl) h0
  obtain ⟨b, rfl, l1b, l1g⟩ := open_cap (hval 1 24 v1 rfl rfl) h1
  obtain ⟨x, y, rfl, l2x, l2y⟩ := open_pair (hval 2 35 v2 rfl rfl) h2
  refine (capsBack_walk a b x y l0b l0g l1b l1g l2x l2y W).mono fun e W' ⟨he, hn⟩ => ?_
  subst he
  exact ⟨_, rfl, _, _, _, [], p0 ++ p1 ++ p2, [], hW', trodAll_mk1 (shut_bool Try.underlying4 true), (by rw [List.append_assoc p0 p1 p2]; exact trodAll_mk3 (g0 W' hn) (g1 W' hn) (g2 W' hn)), rfl, hn.frame _, fun h => by cases h⟩

theorem capsBack_holds : Rows.CapsBackSaid :=
  OpenClaim.holds_of_wide 7 Try.f7 rfl rfl rfl rfl rfl rfl rfl ⟨rfl, rfl, rfl, rfl, rfl⟩ rfl rfl rfl rfl rfl (by kernel_rfl) Try.func7 (by kernel_rfl)
    (of_decide_eq_true (by kernel_rfl)) (by unfold Func.isWrapper; first | (rw [if_pos (by decide +kernel)]; kernel_rfl) | (rw [if_neg (by decide +kernel)]; exact ⟨rfl, rfl⟩))
    (fun os started H enc _ => capsBack_lifted os started H enc)
#print axioms capsBack_holds
end Go.Proofs.Ythgiofgedeijoaa
