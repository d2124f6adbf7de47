/- What derives of one that derives of a third one derives of this; two that derive of each other differ in their guards alone: for every input that the statement lets in. -/
import Derived.Test.YthgiofgedeijoaaCmore
import Derived.Test.YthgiofgedeijoaaCfacts
set_option linter.unusedVariables false
set_option linter.unusedSimpArgs false
namespace Go.Proofs.Ythgiofgedeijoaa
open Go.ChangeShapes Go.WideShapes Go.ChangeAt Go.RowKit Go.Joins Wd Cd

theorem rchk_is (c : Cp) (hg : Word c.g) (ok : c.Ok) (w : World) : Calls Try.prog 23 #[(.agg #[.int .i64 c.k, .int .i64 c.o, .int .i64 c.r, .int .u64 c.b, .int .u64 c.g, .int .i64 c.n])] w fun e w' => e = .returned (.int .i64 0) ∧ Below w.heap.size w w' := by
  refine (rcheck_ok c hg ok w).mono ?_
  rintro e w' ⟨rfl, rfl⟩
  exact ⟨rfl, below_new (Below.refl _ _) _⟩
theorem rchk_no (c : Cp) (hg : Word c.g) (ok : ¬ c.Ok) (w : World) : Calls Try.prog 23 #[(.agg #[.int .i64 c.k, .int .i64 c.o, .int .i64 c.r, .int .u64 c.b, .int .u64 c.g, .int .i64 c.n])] w fun e w' => e = .returned (.int .i64 40) ∧ Below w.heap.size w w' := by
  refine (rcheck_bad c hg ok w).mono ?_
  rintro e w' ⟨rfl, rfl⟩
  exact ⟨rfl, below_new (Below.refl _ _) _⟩
theorem der_is (p c : Cp) (t : Bool) (h : derB p c = t) (w : World) : Calls Try.prog 22 #[(.agg #[.int .i64 p.k, .int .i64 p.o, .int .i64 p.r, .int .u64 p.b, .int .u64 p.g, .int .i64 p.n]), (.agg #[.int .i64 c.k, .int .i64 c.o, .int .i64 c.r, .int .u64 c.b, .int .u64 c.g, .int .i64 c.n])] w fun e w' => e = .returned (.bool t) ∧ Below w.heap.size w w' := by
  have k := derives_any p c w
  rw [h] at k
  exact k

set_option maxRecDepth 100000 in
set_option maxHeartbeats 3200000 in
theorem capsOrder_no1 (a b c : Cp) (ga : Word a.g) (gb : Word b.g) (gc : Word c.g) (no : ¬ a.Ok) (W : World) :
    Calls Try.prog 10 #[(.agg #[.int .i64 a.k, .int .i64 a.o, .int .i64 a.r, .int .u64 a.b, .int .u64 a.g, .int .i64 a.n]), (.agg #[.int .i64 b.k, .int .i64 b.o, .int .i64 b.r, .int .u64 b.b, .int .u64 b.g, .int .i64 b.n]), (.agg #[.int .i64 c.k, .int .i64 c.o, .int .i64 c.r, .int .u64 c.b, .int .u64 c.g, .int .i64 c.n])] W fun e w' => e = .returned (.bool true) ∧ Below W.heap.size W w' := by
  have NO := Lib.hid no
  clear no
  go_enter Try.func10, Try.ntmps10
  go_wp2_with fail
  refine ((rchk_no a ga NO.out) _).mono ?_
  rintro e w1 ⟨rfl, hb⟩
  have CA' : Box w1 (W.heap.size) a := Box.keep hb (by repeat (first | fail | exact Box.new _ a | exact Box.new_at (c := a) (by simp) | apply Box.alloc))
  have CA := Lib.hid CA'
  clear CA'
  have CB' : Box w1 ((W.heap.size + 1)) b := Box.keep hb (by repeat (first | fail | exact Box.new _ b | exact Box.new_at (c := b) (by simp) | apply Box.alloc))
  have CB := Lib.hid CB'
  clear CB'
  have CC' : Box w1 ((W.heap.size + 2)) c := Box.keep hb (by repeat (first | fail | exact Box.new _ c | exact Box.new_at (c := c) (by simp) | apply Box.alloc))
  have CC := Lib.hid CC'
  clear CC'
  have HB1 : Hid (Below W.heap.size W w1) := Lib.hid (below_then (by repeat (first | exact (Below.refl _ _) | apply below_new | apply below_draws)) hb)
  clear hb
  go_wp2_with fail
  refine (fixed_true _).mono ?_
  rintro e w2 ⟨rfl, hb⟩
  clear CA
  clear CB
  clear CC
  have HB2 : Hid (Below W.heap.size W w2) := Lib.hid (below_then (by repeat (first | exact HB1.out | apply below_new | apply below_draws)) hb)
  clear hb HB1
  go_wp2_with fail
  go_ret
  exact ⟨rfl, (by repeat (first | exact HB2.out | apply below_new | apply below_draws))⟩

set_option maxRecDepth 100000 in
set_option maxHeartbeats 3200000 in
theorem capsOrder_no2 (a b c : Cp) (ga : Word a.g) (gb : Word b.g) (gc : Word c.g) (oka : a.Ok) (no : ¬ b.Ok) (W : World) :
    Calls Try.prog 10 #[(.agg #[.int .i64 a.k, .int .i64 a.o, .int .i64 a.r, .int .u64 a.b, .int .u64 a.g, .int .i64 a.n]), (.agg #[.int .i64 b.k, .int .i64 b.o, .int .i64 b.r, .int .u64 b.b, .int .u64 b.g, .int .i64 b.n]), (.agg #[.int .i64 c.k, .int .i64 c.o, .int .i64 c.r, .int .u64 c.b, .int .u64 c.g, .int .i64 c.n])] W fun e w' => e = .returned (.bool true) ∧ Below W.heap.size W w' := by
  have OKA := Lib.hid oka
  clear oka
  have NO := Lib.hid no
  clear no
  go_enter Try.func10, Try.ntmps10
  go_wp2_with fail
  refine ((rchk_is a ga OKA.out) _).mono ?_
  rintro e w1 ⟨rfl, hb⟩
  have CA' : Box w1 (W.heap.size) a := Box.keep hb (by repeat (first | fail | exact Box.new _ a | exact Box.new_at (c := a) (by simp) | apply Box.alloc))
  have CA := Lib.hid CA'
  clear CA'
  have CB' : Box w1 ((W.heap.size + 1)) b := Box.keep hb (by repeat (first | fail | exact Box.new _ b | exact Box.new_at (c := b) (by simp) | apply Box.alloc))
  have CB := Lib.hid CB'
  clear CB'
  have CC' : Box w1 ((W.heap.size + 2)) c := Box.keep hb (by repeat (first | fail | exact Box.new _ c | exact Box.new_at (c := c) (by simp) | apply Box.alloc))
  have CC := Lib.hid CC'
  clear CC'
  have HB1 : Hid (Below W.heap.size W w1) := Lib.hid (below_then (by repeat (first | exact (Below.refl _ _) | apply below_new | apply below_draws)) hb)
  clear hb
  obtain ⟨zCB, cCB0, cCB1, cCB2, cCB3, cCB4, cCB5⟩ := CB.out
  have nCB : ¬ (W.heap.size + 1) = w1.heap.size := by omega
  go_wp2_with fail
  clear zCB nCB cCB0 cCB1 cCB2 cCB3 cCB4 cCB5
  refine ((rchk_no b gb NO.out) _).mono ?_
  rintro e w2 ⟨rfl, hb⟩
  have CA' : Box w2 (W.heap.size) a := Box.keep hb (by repeat (first | exact CA.out | exact Box.new _ a | exact Box.new_at (c := a) (by simp) | apply Box.alloc))
  clear CA
  have CA := Lib.hid CA'
  clear CA'
  have CB' : Box w2 ((W.heap.size + 1)) b := Box.keep hb (by repeat (first | exact CB.out | exact Box.new _ b | exact Box.new_at (c := b) (by simp) | apply Box.alloc))
  clear CB
  have CB := Lib.hid CB'
  clear CB'
  have CC' : Box w2 ((W.heap.size + 2)) c := Box.keep hb (by repeat (first | exact CC.out | exact Box.new _ c | exact Box.new_at (c := c) (by simp) | apply Box.alloc))
  clear CC
  have CC := Lib.hid CC'
  clear CC'
  have HB2 : Hid (Below W.heap.size W w2) := Lib.hid (below_then (by repeat (first | exact HB1.out | apply below_new | apply below_draws)) hb)
  clear hb HB1
  go_wp2_with fail
  refine (fixed_true _).mono ?_
  rintro e w3 ⟨rfl, hb⟩
  clear CA
  clear CB
  clear CC
  have HB3 : Hid (Below W.heap.size W w3) := Lib.hid (below_then (by repeat (first | exact HB2.out | apply below_new | apply below_draws)) hb)
  clear hb HB2
  go_wp2_with fail
  go_ret
  exact ⟨rfl, (by repeat (first | exact HB3.out | apply below_new | apply below_draws))⟩

set_option maxRecDepth 100000 in
set_option maxHeartbeats 3200000 in
theorem capsOrder_no3 (a b c : Cp) (ga : Word a.g) (gb : Word b.g) (gc : Word c.g) (oka : a.Ok) (okb : b.Ok) (no : ¬ c.Ok) (W : World) :
    Calls Try.prog 10 #[(.agg #[.int .i64 a.k, .int .i64 a.o, .int .i64 a.r, .int .u64 a.b, .int .u64 a.g, .int .i64 a.n]), (.agg #[.int .i64 b.k, .int .i64 b.o, .int .i64 b.r, .int .u64 b.b, .int .u64 b.g, .int .i64 b.n]), (.agg #[.int .i64 c.k, .int .i64 c.o, .int .i64 c.r, .int .u64 c.b, .int .u64 c.g, .int .i64 c.n])] W fun e w' => e = .returned (.bool true) ∧ Below W.heap.size W w' := by
  have OKA := Lib.hid oka
  clear oka
  have OKB := Lib.hid okb
  clear okb
  have NO := Lib.hid no
  clear no
  go_enter Try.func10, Try.ntmps10
  go_wp2_with fail
  refine ((rchk_is a ga OKA.out) _).mono ?_
  rintro e w1 ⟨rfl, hb⟩
  have CA' : Box w1 (W.heap.size) a := Box.keep hb (by repeat (first | fail | exact Box.new _ a | exact Box.new_at (c := a) (by simp) | apply Box.alloc))
  have CA := Lib.hid CA'
  clear CA'
  have CB' : Box w1 ((W.heap.size + 1)) b := Box.keep hb (by repeat (first | fail | exact Box.new _ b | exact Box.new_at (c := b) (by simp) | apply Box.alloc))
  have CB := Lib.hid CB'
  clear CB'
  have CC' : Box w1 ((W.heap.size + 2)) c := Box.keep hb (by repeat (first | fail | exact Box.new _ c | exact Box.new_at (c := c) (by simp) | apply Box.alloc))
  have CC := Lib.hid CC'
  clear CC'
  have HB1 : Hid (Below W.heap.size W w1) := Lib.hid (below_then (by repeat (first | exact (Below.refl _ _) | apply below_new | apply below_draws)) hb)
  clear hb
  obtain ⟨zCB, cCB0, cCB1, cCB2, cCB3, cCB4, cCB5⟩ := CB.out
  have nCB : ¬ (W.heap.size + 1) = w1.heap.size := by omega
  go_wp2_with fail
  clear zCB nCB cCB0 cCB1 cCB2 cCB3 cCB4 cCB5
  refine ((rchk_is b gb OKB.out) _).mono ?_
  rintro e w2 ⟨rfl, hb⟩
  have CA' : Box w2 (W.heap.size) a := Box.keep hb (by repeat (first | exact CA.out | exact Box.new _ a | exact Box.new_at (c := a) (by simp) | apply Box.alloc))
  clear CA
  have CA := Lib.hid CA'
  clear CA'
  have CB' : Box w2 ((W.heap.size + 1)) b := Box.keep hb (by repeat (first | exact CB.out | exact Box.new _ b | exact Box.new_at (c := b) (by simp) | apply Box.alloc))
  clear CB
  have CB := Lib.hid CB'
  clear CB'
  have CC' : Box w2 ((W.heap.size + 2)) c := Box.keep hb (by repeat (first | exact CC.out | exact Box.new _ c | exact Box.new_at (c := c) (by simp) | apply Box.alloc))
  clear CC
  have CC := Lib.hid CC'
  clear CC'
  have HB2 : Hid (Below W.heap.size W w2) := Lib.hid (below_then (by repeat (first | exact HB1.out | apply below_new | apply below_draws)) hb)
  clear hb HB1
  obtain ⟨zCC, cCC0, cCC1, cCC2, cCC3, cCC4, cCC5⟩ := CC.out
  have nCC : ¬ (W.heap.size + 2) = w2.heap.size := by omega
  go_wp2_with fail
  clear zCC nCC cCC0 cCC1 cCC2 cCC3 cCC4 cCC5
  refine ((rchk_no c gc NO.out) _).mono ?_
  rintro e w3 ⟨rfl, hb⟩
  have CA' : Box w3 (W.heap.size) a := Box.keep hb (by repeat (first | exact CA.out | exact Box.new _ a | exact Box.new_at (c := a) (by simp) | apply Box.alloc))
  clear CA
  have CA := Lib.hid CA'
  clear CA'
  have CB' : Box w3 ((W.heap.size + 1)) b := Box.keep hb (by repeat (first | exact CB.out | exact Box.new _ b | exact Box.new_at (c := b) (by simp) | apply Box.alloc))
  clear CB
  have CB := Lib.hid CB'
  clear CB'
  have CC' : Box w3 ((W.heap.size + 2)) c := Box.keep hb (by repeat (first | exact CC.out | exact Box.new _ c | exact Box.new_at (c := c) (by simp) | apply Box.alloc))
  clear CC
  have CC := Lib.hid CC'
  clear CC'
  have HB3 : Hid (Below W.heap.size W w3) := Lib.hid (below_then (by repeat (first | exact HB2.out | apply below_new | apply below_draws)) hb)
  clear hb HB2
  go_wp2_with fail
  refine (fixed_true _).mono ?_
  rintro e w4 ⟨rfl, hb⟩
  clear CA
  clear CB
  clear CC
  have HB4 : Hid (Below W.heap.size W w4) := Lib.hid (below_then (by repeat (first | exact HB3.out | apply below_new | apply below_draws)) hb)
  clear hb HB3
  go_wp2_with fail
  go_ret
  exact ⟨rfl, (by repeat (first | exact HB4.out | apply below_new | apply below_draws))⟩

set_option maxRecDepth 100000 in
set_option maxHeartbeats 3200000 in
theorem capsOrder_n (a b c : Cp) (ga : Word a.g) (gb : Word b.g) (gc : Word c.g) (oka : a.Ok) (okb : b.Ok) (okc : c.Ok) (tab : derB a b = false) (W : World) :
    Calls Try.prog 10 #[(.agg #[.int .i64 a.k, .int .i64 a.o, .int .i64 a.r, .int .u64 a.b, .int .u64 a.g, .int .i64 a.n]), (.agg #[.int .i64 b.k, .int .i64 b.o, .int .i64 b.r, .int .u64 b.b, .int .u64 b.g, .int .i64 b.n]), (.agg #[.int .i64 c.k, .int .i64 c.o, .int .i64 c.r, .int .u64 c.b, .int .u64 c.g, .int .i64 c.n])] W fun e w' => e = .returned (.bool true) ∧ Below W.heap.size W w' := by
  have OKA := Lib.hid oka
  clear oka
  have OKB := Lib.hid okb
  clear okb
  have OKC := Lib.hid okc
  clear okc
  have Tab := Lib.hid tab
  clear tab
  go_enter Try.func10, Try.ntmps10
  go_wp2_with fail
  refine ((rchk_is a ga OKA.out) _).mono ?_
  rintro e w1 ⟨rfl, hb⟩
  have CA' : Box w1 (W.heap.size) a := Box.keep hb (by repeat (first | fail | exact Box.new _ a | exact Box.new_at (c := a) (by simp) | apply Box.alloc))
  have CA := Lib.hid CA'
  clear CA'
  have CB' : Box w1 ((W.heap.size + 1)) b := Box.keep hb (by repeat (first | fail | exact Box.new _ b | exact Box.new_at (c := b) (by simp) | apply Box.alloc))
  have CB := Lib.hid CB'
  clear CB'
  have CC' : Box w1 ((W.heap.size + 2)) c := Box.keep hb (by repeat (first | fail | exact Box.new _ c | exact Box.new_at (c := c) (by simp) | apply Box.alloc))
  have CC := Lib.hid CC'
  clear CC'
  have HB1 : Hid (Below W.heap.size W w1) := Lib.hid (below_then (by repeat (first | exact (Below.refl _ _) | apply below_new | apply below_draws)) hb)
  clear hb
  obtain ⟨zCB, cCB0, cCB1, cCB2, cCB3, cCB4, cCB5⟩ := CB.out
  have nCB : ¬ (W.heap.size + 1) = w1.heap.size := by omega
  go_wp2_with fail
  clear zCB nCB cCB0 cCB1 cCB2 cCB3 cCB4 cCB5
  refine ((rchk_is b gb OKB.out) _).mono ?_
  rintro e w2 ⟨rfl, hb⟩
  have CA' : Box w2 (W.heap.size) a := Box.keep hb (by repeat (first | exact CA.out | exact Box.new _ a | exact Box.new_at (c := a) (by simp) | apply Box.alloc))
  clear CA
  have CA := Lib.hid CA'
  clear CA'
  have CB' : Box w2 ((W.heap.size + 1)) b := Box.keep hb (by repeat (first | exact CB.out | exact Box.new _ b | exact Box.new_at (c := b) (by simp) | apply Box.alloc))
  clear CB
  have CB := Lib.hid CB'
  clear CB'
  have CC' : Box w2 ((W.heap.size + 2)) c := Box.keep hb (by repeat (first | exact CC.out | exact Box.new _ c | exact Box.new_at (c := c) (by simp) | apply Box.alloc))
  clear CC
  have CC := Lib.hid CC'
  clear CC'
  have HB2 : Hid (Below W.heap.size W w2) := Lib.hid (below_then (by repeat (first | exact HB1.out | apply below_new | apply below_draws)) hb)
  clear hb HB1
  obtain ⟨zCC, cCC0, cCC1, cCC2, cCC3, cCC4, cCC5⟩ := CC.out
  have nCC : ¬ (W.heap.size + 2) = w2.heap.size := by omega
  go_wp2_with fail
  clear zCC nCC cCC0 cCC1 cCC2 cCC3 cCC4 cCC5
  refine ((rchk_is c gc OKC.out) _).mono ?_
  rintro e w3 ⟨rfl, hb⟩
  have CA' : Box w3 (W.heap.size) a := Box.keep hb (by repeat (first | exact CA.out | exact Box.new _ a | exact Box.new_at (c := a) (by simp) | apply Box.alloc))
  clear CA
  have CA := Lib.hid CA'
  clear CA'
  have CB' : Box w3 ((W.heap.size + 1)) b := Box.keep hb (by repeat (first | exact CB.out | exact Box.new _ b | exact Box.new_at (c := b) (by simp) | apply Box.alloc))
  clear CB
  have CB := Lib.hid CB'
  clear CB'
  have CC' : Box w3 ((W.heap.size + 2)) c := Box.keep hb (by repeat (first | exact CC.out | exact Box.new _ c | exact Box.new_at (c := c) (by simp) | apply Box.alloc))
  clear CC
  have CC := Lib.hid CC'
  clear CC'
  have HB3 : Hid (Below W.heap.size W w3) := Lib.hid (below_then (by repeat (first | exact HB2.out | apply below_new | apply below_draws)) hb)
  clear hb HB2
  obtain ⟨zCA, cCA0, cCA1, cCA2, cCA3, cCA4, cCA5⟩ := CA.out
  have nCA : ¬ W.heap.size = w3.heap.size := by omega
  obtain ⟨zCB, cCB0, cCB1, cCB2, cCB3, cCB4, cCB5⟩ := CB.out
  have nCB : ¬ (W.heap.size + 1) = w3.heap.size := by omega
  go_wp2_with fail
  clear zCA nCA cCA0 cCA1 cCA2 cCA3 cCA4 cCA5
  clear zCB nCB cCB0 cCB1 cCB2 cCB3 cCB4 cCB5
  refine ((der_is a b false Tab.out) _).mono ?_
  rintro e w4 ⟨rfl, hb⟩
  have CA' : Box w4 (W.heap.size) a := Box.keep hb (by repeat (first | exact CA.out | exact Box.new _ a | exact Box.new_at (c := a) (by simp) | apply Box.alloc))
  clear CA
  have CA := Lib.hid CA'
  clear CA'
  have CB' : Box w4 ((W.heap.size + 1)) b := Box.keep hb (by repeat (first | exact CB.out | exact Box.new _ b | exact Box.new_at (c := b) (by simp) | apply Box.alloc))
  clear CB
  have CB := Lib.hid CB'
  clear CB'
  have CC' : Box w4 ((W.heap.size + 2)) c := Box.keep hb (by repeat (first | exact CC.out | exact Box.new _ c | exact Box.new_at (c := c) (by simp) | apply Box.alloc))
  clear CC
  have CC := Lib.hid CC'
  clear CC'
  have HB4 : Hid (Below W.heap.size W w4) := Lib.hid (below_then (by repeat (first | exact HB3.out | apply below_new | apply below_draws)) hb)
  clear hb HB3
  obtain ⟨zCA, cCA0, cCA1, cCA2, cCA3, cCA4, cCA5⟩ := CA.out
  have nCA : ¬ W.heap.size = w4.heap.size := by omega
  obtain ⟨zCB, cCB0, cCB1, cCB2, cCB3, cCB4, cCB5⟩ := CB.out
  have nCB : ¬ (W.heap.size + 1) = w4.heap.size := by omega
  go_wp2_with fail
  clear zCA nCA cCA0 cCA1 cCA2 cCA3 cCA4 cCA5
  clear zCB nCB cCB0 cCB1 cCB2 cCB3 cCB4 cCB5
  refine ((der_is a b false Tab.out) _).mono ?_
  rintro e w5 ⟨rfl, hb⟩
  have CA' : Box w5 (W.heap.size) a := Box.keep hb (by repeat (first | exact CA.out | exact Box.new _ a | exact Box.new_at (c := a) (by simp) | apply Box.alloc))
  clear CA
  have CA := Lib.hid CA'
  clear CA'
  have CB' : Box w5 ((W.heap.size + 1)) b := Box.keep hb (by repeat (first | exact CB.out | exact Box.new _ b | exact Box.new_at (c := b) (by simp) | apply Box.alloc))
  clear CB
  have CB := Lib.hid CB'
  clear CB'
  have CC' : Box w5 ((W.heap.size + 2)) c := Box.keep hb (by repeat (first | exact CC.out | exact Box.new _ c | exact Box.new_at (c := c) (by simp) | apply Box.alloc))
  clear CC
  have CC := Lib.hid CC'
  clear CC'
  have HB5 : Hid (Below W.heap.size W w5) := Lib.hid (below_then (by repeat (first | exact HB4.out | apply below_new | apply below_draws)) hb)
  clear hb HB4
  go_wp2_with fail
  refine (fixed_true _).mono ?_
  rintro e w6 ⟨rfl, hb⟩
  clear CA
  clear CB
  clear CC
  have HB6 : Hid (Below W.heap.size W w6) := Lib.hid (below_then (by repeat (first | exact HB5.out | apply below_new | apply below_draws)) hb)
  clear hb HB5
  go_wp2_with fail
  go_ret
  exact ⟨rfl, (by repeat (first | exact HB6.out | apply below_new | apply below_draws))⟩

set_option maxRecDepth 100000 in
set_option maxHeartbeats 3200000 in
theorem capsOrder_bcn_ba (a b c : Cp) (ga : Word a.g) (gb : Word b.g) (gc : Word c.g) (oka : a.Ok) (okb : b.Ok) (okc : c.Ok) (tab : derB a b = true) (tbc : derB b c = false) (tba : derB b a = false) (W : World) :
    Calls Try.prog 10 #[(.agg #[.int .i64 a.k, .int .i64 a.o, .int .i64 a.r, .int .u64 a.b, .int .u64 a.g, .int .i64 a.n]), (.agg #[.int .i64 b.k, .int .i64 b.o, .int .i64 b.r, .int .u64 b.b, .int .u64 b.g, .int .i64 b.n]), (.agg #[.int .i64 c.k, .int .i64 c.o, .int .i64 c.r, .int .u64 c.b, .int .u64 c.g, .int .i64 c.n])] W fun e w' => e = .returned (.bool true) ∧ Below W.heap.size W w' := by
  have OKA := Lib.hid oka
  clear oka
  have OKB := Lib.hid okb
  clear okb
  have OKC := Lib.hid okc
  clear okc
  have Tab := Lib.hid tab
  clear tab
  have Tbc := Lib.hid tbc
  clear tbc
  have Tba := Lib.hid tba
  clear tba
  go_enter Try.func10, Try.ntmps10
  go_wp2_with fail
  refine ((rchk_is a ga OKA.out) _).mono ?_
  rintro e w1 ⟨rfl, hb⟩
  have CA' : Box w1 (W.heap.size) a := Box.keep hb (by repeat (first | fail | exact Box.new _ a | exact Box.new_at (c := a) (by simp) | apply Box.alloc))
  have CA := Lib.hid CA'
  clear CA'
  have CB' : Box w1 ((W.heap.size + 1)) b := Box.keep hb (by repeat (first | fail | exact Box.new _ b | exact Box.new_at (c := b) (by simp) | apply Box.alloc))
  have CB := Lib.hid CB'
  clear CB'
  have CC' : Box w1 ((W.heap.size + 2)) c := Box.keep hb (by repeat (first | fail | exact Box.new _ c | exact Box.new_at (c := c) (by simp) | apply Box.alloc))
  have CC := Lib.hid CC'
  clear CC'
  have HB1 : Hid (Below W.heap.size W w1) := Lib.hid (below_then (by repeat (first | exact (Below.refl _ _) | apply below_new | apply below_draws)) hb)
  clear hb
  obtain ⟨zCB, cCB0, cCB1, cCB2, cCB3, cCB4, cCB5⟩ := CB.out
  have nCB : ¬ (W.heap.size + 1) = w1.heap.size := by omega
  go_wp2_with fail
  clear zCB nCB cCB0 cCB1 cCB2 cCB3 cCB4 cCB5
  refine ((rchk_is b gb OKB.out) _).mono ?_
  rintro e w2 ⟨rfl, hb⟩
  have CA' : Box w2 (W.heap.size) a := Box.keep hb (by repeat (first | exact CA.out | exact Box.new _ a | exact Box.new_at (c := a) (by simp) | apply Box.alloc))
  clear CA
  have CA := Lib.hid CA'
  clear CA'
  have CB' : Box w2 ((W.heap.size + 1)) b := Box.keep hb (by repeat (first | exact CB.out | exact Box.new _ b | exact Box.new_at (c := b) (by simp) | apply Box.alloc))
  clear CB
  have CB := Lib.hid CB'
  clear CB'
  have CC' : Box w2 ((W.heap.size + 2)) c := Box.keep hb (by repeat (first | exact CC.out | exact Box.new _ c | exact Box.new_at (c := c) (by simp) | apply Box.alloc))
  clear CC
  have CC := Lib.hid CC'
  clear CC'
  have HB2 : Hid (Below W.heap.size W w2) := Lib.hid (below_then (by repeat (first | exact HB1.out | apply below_new | apply below_draws)) hb)
  clear hb HB1
  obtain ⟨zCC, cCC0, cCC1, cCC2, cCC3, cCC4, cCC5⟩ := CC.out
  have nCC : ¬ (W.heap.size + 2) = w2.heap.size := by omega
  go_wp2_with fail
  clear zCC nCC cCC0 cCC1 cCC2 cCC3 cCC4 cCC5
  refine ((rchk_is c gc OKC.out) _).mono ?_
  rintro e w3 ⟨rfl, hb⟩
  have CA' : Box w3 (W.heap.size) a := Box.keep hb (by repeat (first | exact CA.out | exact Box.new _ a | exact Box.new_at (c := a) (by simp) | apply Box.alloc))
  clear CA
  have CA := Lib.hid CA'
  clear CA'
  have CB' : Box w3 ((W.heap.size + 1)) b := Box.keep hb (by repeat (first | exact CB.out | exact Box.new _ b | exact Box.new_at (c := b) (by simp) | apply Box.alloc))
  clear CB
  have CB := Lib.hid CB'
  clear CB'
  have CC' : Box w3 ((W.heap.size + 2)) c := Box.keep hb (by repeat (first | exact CC.out | exact Box.new _ c | exact Box.new_at (c := c) (by simp) | apply Box.alloc))
  clear CC
  have CC := Lib.hid CC'
  clear CC'
  have HB3 : Hid (Below W.heap.size W w3) := Lib.hid (below_then (by repeat (first | exact HB2.out | apply below_new | apply below_draws)) hb)
  clear hb HB2
  obtain ⟨zCA, cCA0, cCA1, cCA2, cCA3, cCA4, cCA5⟩ := CA.out
  have nCA : ¬ W.heap.size = w3.heap.size := by omega
  obtain ⟨zCB, cCB0, cCB1, cCB2, cCB3, cCB4, cCB5⟩ := CB.out
  have nCB : ¬ (W.heap.size + 1) = w3.heap.size := by omega
  go_wp2_with fail
  clear zCA nCA cCA0 cCA1 cCA2 cCA3 cCA4 cCA5
  clear zCB nCB cCB0 cCB1 cCB2 cCB3 cCB4 cCB5
  refine ((der_is a b true Tab.out) _).mono ?_
  rintro e w4 ⟨rfl, hb⟩
  have CA' : Box w4 (W.heap.size) a := Box.keep hb (by repeat (first | exact CA.out | exact Box.new _ a | exact Box.new_at (c := a) (by simp) | apply Box.alloc))
  clear CA
  have CA := Lib.hid CA'
  clear CA'
  have CB' : Box w4 ((W.heap.size + 1)) b := Box.keep hb (by repeat (first | exact CB.out | exact Box.new _ b | exact Box.new_at (c := b) (by simp) | apply Box.alloc))
  clear CB
  have CB := Lib.hid CB'
  clear CB'
  have CC' : Box w4 ((W.heap.size + 2)) c := Box.keep hb (by repeat (first | exact CC.out | exact Box.new _ c | exact Box.new_at (c := c) (by simp) | apply Box.alloc))
  clear CC
  have CC := Lib.hid CC'
  clear CC'
  have HB4 : Hid (Below W.heap.size W w4) := Lib.hid (below_then (by repeat (first | exact HB3.out | apply below_new | apply below_draws)) hb)
  clear hb HB3
  obtain ⟨zCB, cCB0, cCB1, cCB2, cCB3, cCB4, cCB5⟩ := CB.out
  have nCB : ¬ (W.heap.size + 1) = w4.heap.size := by omega
  obtain ⟨zCC, cCC0, cCC1, cCC2, cCC3, cCC4, cCC5⟩ := CC.out
  have nCC : ¬ (W.heap.size + 2) = w4.heap.size := by omega
  go_wp2_with fail
  clear zCB nCB cCB0 cCB1 cCB2 cCB3 cCB4 cCB5
  clear zCC nCC cCC0 cCC1 cCC2 cCC3 cCC4 cCC5
  refine ((der_is b c false Tbc.out) _).mono ?_
  rintro e w5 ⟨rfl, hb⟩
  have CA' : Box w5 (W.heap.size) a := Box.keep hb (by repeat (first | exact CA.out | exact Box.new _ a | exact Box.new_at (c := a) (by simp) | apply Box.alloc))
  clear CA
  have CA := Lib.hid CA'
  clear CA'
  have CB' : Box w5 ((W.heap.size + 1)) b := Box.keep hb (by repeat (first | exact CB.out | exact Box.new _ b | exact Box.new_at (c := b) (by simp) | apply Box.alloc))
  clear CB
  have CB := Lib.hid CB'
  clear CB'
  have CC' : Box w5 ((W.heap.size + 2)) c := Box.keep hb (by repeat (first | exact CC.out | exact Box.new _ c | exact Box.new_at (c := c) (by simp) | apply Box.alloc))
  clear CC
  have CC := Lib.hid CC'
  clear CC'
  have HB5 : Hid (Below W.heap.size W w5) := Lib.hid (below_then (by repeat (first | exact HB4.out | apply below_new | apply below_draws)) hb)
  clear hb HB4
  obtain ⟨zCA, cCA0, cCA1, cCA2, cCA3, cCA4, cCA5⟩ := CA.out
  have nCA : ¬ W.heap.size = w5.heap.size := by omega
  obtain ⟨zCB, cCB0, cCB1, cCB2, cCB3, cCB4, cCB5⟩ := CB.out
  have nCB : ¬ (W.heap.size + 1) = w5.heap.size := by omega
  go_wp2_with fail
  clear zCA nCA cCA0 cCA1 cCA2 cCA3 cCA4 cCA5
  clear zCB nCB cCB0 cCB1 cCB2 cCB3 cCB4 cCB5
  refine ((der_is a b true Tab.out) _).mono ?_
  rintro e w6 ⟨rfl, hb⟩
  have CA' : Box w6 (W.heap.size) a := Box.keep hb (by repeat (first | exact CA.out | exact Box.new _ a | exact Box.new_at (c := a) (by simp) | apply Box.alloc))
  clear CA
  have CA := Lib.hid CA'
  clear CA'
  have CB' : Box w6 ((W.heap.size + 1)) b := Box.keep hb (by repeat (first | exact CB.out | exact Box.new _ b | exact Box.new_at (c := b) (by simp) | apply Box.alloc))
  clear CB
  have CB := Lib.hid CB'
  clear CB'
  have CC' : Box w6 ((W.heap.size + 2)) c := Box.keep hb (by repeat (first | exact CC.out | exact Box.new _ c | exact Box.new_at (c := c) (by simp) | apply Box.alloc))
  clear CC
  have CC := Lib.hid CC'
  clear CC'
  have HB6 : Hid (Below W.heap.size W w6) := Lib.hid (below_then (by repeat (first | exact HB5.out | apply below_new | apply below_draws)) hb)
  clear hb HB5
  obtain ⟨zCB, cCB0, cCB1, cCB2, cCB3, cCB4, cCB5⟩ := CB.out
  have nCB : ¬ (W.heap.size + 1) = w6.heap.size := by omega
  obtain ⟨zCA, cCA0, cCA1, cCA2, cCA3, cCA4, cCA5⟩ := CA.out
  have nCA : ¬ W.heap.size = w6.heap.size := by omega
  go_wp2_with fail
  clear zCB nCB cCB0 cCB1 cCB2 cCB3 cCB4 cCB5
  clear zCA nCA cCA0 cCA1 cCA2 cCA3 cCA4 cCA5
  refine ((der_is b a false Tba.out) _).mono ?_
  rintro e w7 ⟨rfl, hb⟩
  have CA' : Box w7 (W.heap.size) a := Box.keep hb (by repeat (first | exact CA.out | exact Box.new _ a | exact Box.new_at (c := a) (by simp) | apply Box.alloc))
  clear CA
  have CA := Lib.hid CA'
  clear CA'
  have CB' : Box w7 ((W.heap.size + 1)) b := Box.keep hb (by repeat (first | exact CB.out | exact Box.new _ b | exact Box.new_at (c := b) (by simp) | apply Box.alloc))
  clear CB
  have CB := Lib.hid CB'
  clear CB'
  have CC' : Box w7 ((W.heap.size + 2)) c := Box.keep hb (by repeat (first | exact CC.out | exact Box.new _ c | exact Box.new_at (c := c) (by simp) | apply Box.alloc))
  clear CC
  have CC := Lib.hid CC'
  clear CC'
  have HB7 : Hid (Below W.heap.size W w7) := Lib.hid (below_then (by repeat (first | exact HB6.out | apply below_new | apply below_draws)) hb)
  clear hb HB6
  go_wp2_with fail
  refine (fixed_true _).mono ?_
  rintro e w8 ⟨rfl, hb⟩
  clear CA
  clear CB
  clear CC
  have HB8 : Hid (Below W.heap.size W w8) := Lib.hid (below_then (by repeat (first | exact HB7.out | apply below_new | apply below_draws)) hb)
  clear hb HB7
  go_wp2_with fail
  go_ret
  exact ⟨rfl, (by repeat (first | exact HB8.out | apply below_new | apply below_draws))⟩

set_option maxRecDepth 100000 in
set_option maxHeartbeats 3200000 in
theorem capsOrder_bcn_allza (a b c : Cp) (ga : Word a.g) (gb : Word b.g) (gc : Word c.g) (oka : a.Ok) (okb : b.Ok) (okc : c.Ok) (tab : derB a b = true) (tbc : derB b c = false) (tba : derB b a = true) (fk : (a.k == b.k) = true) (fo : (a.o == b.o) = true) (fr : (a.r == b.r) = true) (fb : ((a.b : Int) == (b.b : Int)) = false) (az : ((a.b : Int) == 0) = true) (W : World) :
    Calls Try.prog 10 #[(.agg #[.int .i64 a.k, .int .i64 a.o, .int .i64 a.r, .int .u64 a.b, .int .u64 a.g, .int .i64 a.n]), (.agg #[.int .i64 b.k, .int .i64 b.o, .int .i64 b.r, .int .u64 b.b, .int .u64 b.g, .int .i64 b.n]), (.agg #[.int .i64 c.k, .int .i64 c.o, .int .i64 c.r, .int .u64 c.b, .int .u64 c.g, .int .i64 c.n])] W fun e w' => e = .returned (.bool true) ∧ Below W.heap.size W w' := by
  have OKA := Lib.hid oka
  clear oka
  have OKB := Lib.hid okb
  clear okb
  have OKC := Lib.hid okc
  clear okc
  have Tab := Lib.hid tab
  clear tab
  have Tbc := Lib.hid tbc
  clear tbc
  have Tba := Lib.hid tba
  clear tba
  go_enter Try.func10, Try.ntmps10
  go_wp2_with fail
  refine ((rchk_is a ga OKA.out) _).mono ?_
  rintro e w1 ⟨rfl, hb⟩
  have CA' : Box w1 (W.heap.size) a := Box.keep hb (by repeat (first | fail | exact Box.new _ a | exact Box.new_at (c := a) (by simp) | apply Box.alloc))
  have CA := Lib.hid CA'
  clear CA'
  have CB' : Box w1 ((W.heap.size + 1)) b := Box.keep hb (by repeat (first | fail | exact Box.new _ b | exact Box.new_at (c := b) (by simp) | apply Box.alloc))
  have CB := Lib.hid CB'
  clear CB'
  have CC' : Box w1 ((W.heap.size + 2)) c := Box.keep hb (by repeat (first | fail | exact Box.new _ c | exact Box.new_at (c := c) (by simp) | apply Box.alloc))
  have CC := Lib.hid CC'
  clear CC'
  have HB1 : Hid (Below W.heap.size W w1) := Lib.hid (below_then (by repeat (first | exact (Below.refl _ _) | apply below_new | apply below_draws)) hb)
  clear hb
  obtain ⟨zCB, cCB0, cCB1, cCB2, cCB3, cCB4, cCB5⟩ := CB.out
  have nCB : ¬ (W.heap.size + 1) = w1.heap.size := by omega
  go_wp2_with fail
  clear zCB nCB cCB0 cCB1 cCB2 cCB3 cCB4 cCB5
  refine ((rchk_is b gb OKB.out) _).mono ?_
  rintro e w2 ⟨rfl, hb⟩
  have CA' : Box w2 (W.heap.size) a := Box.keep hb (by repeat (first | exact CA.out | exact Box.new _ a | exact Box.new_at (c := a) (by simp) | apply Box.alloc))
  clear CA
  have CA := Lib.hid CA'
  clear CA'
  have CB' : Box w2 ((W.heap.size + 1)) b := Box.keep hb (by repeat (first | exact CB.out | exact Box.new _ b | exact Box.new_at (c := b) (by simp) | apply Box.alloc))
  clear CB
  have CB := Lib.hid CB'
  clear CB'
  have CC' : Box w2 ((W.heap.size + 2)) c := Box.keep hb (by repeat (first | exact CC.out | exact Box.new _ c | exact Box.new_at (c := c) (by simp) | apply Box.alloc))
  clear CC
  have CC := Lib.hid CC'
  clear CC'
  have HB2 : Hid (Below W.heap.size W w2) := Lib.hid (below_then (by repeat (first | exact HB1.out | apply below_new | apply below_draws)) hb)
  clear hb HB1
  obtain ⟨zCC, cCC0, cCC1, cCC2, cCC3, cCC4, cCC5⟩ := CC.out
  have nCC : ¬ (W.heap.size + 2) = w2.heap.size := by omega
  go_wp2_with fail
  clear zCC nCC cCC0 cCC1 cCC2 cCC3 cCC4 cCC5
  refine ((rchk_is c gc OKC.out) _).mono ?_
  rintro e w3 ⟨rfl, hb⟩
  have CA' : Box w3 (W.heap.size) a := Box.keep hb (by repeat (first | exact CA.out | exact Box.new _ a | exact Box.new_at (c := a) (by simp) | apply Box.alloc))
  clear CA
  have CA := Lib.hid CA'
  clear CA'
  have CB' : Box w3 ((W.heap.size + 1)) b := Box.keep hb (by repeat (first | exact CB.out | exact Box.new _ b | exact Box.new_at (c := b) (by simp) | apply Box.alloc))
  clear CB
  have CB := Lib.hid CB'
  clear CB'
  have CC' : Box w3 ((W.heap.size + 2)) c := Box.keep hb (by repeat (first | exact CC.out | exact Box.new _ c | exact Box.new_at (c := c) (by simp) | apply Box.alloc))
  clear CC
  have CC := Lib.hid CC'
  clear CC'
  have HB3 : Hid (Below W.heap.size W w3) := Lib.hid (below_then (by repeat (first | exact HB2.out | apply below_new | apply below_draws)) hb)
  clear hb HB2
  obtain ⟨zCA, cCA0, cCA1, cCA2, cCA3, cCA4, cCA5⟩ := CA.out
  have nCA : ¬ W.heap.size = w3.heap.size := by omega
  obtain ⟨zCB, cCB0, cCB1, cCB2, cCB3, cCB4, cCB5⟩ := CB.out
  have nCB : ¬ (W.heap.size + 1) = w3.heap.size := by omega
  go_wp2_with fail
  clear zCA nCA cCA0 cCA1 cCA2 cCA3 cCA4 cCA5
  clear zCB nCB cCB0 cCB1 cCB2 cCB3 cCB4 cCB5
  refine ((der_is a b true Tab.out) _).mono ?_
  rintro e w4 ⟨rfl, hb⟩
  have CA' : Box w4 (W.heap.size) a := Box.keep hb (by repeat (first | exact CA.out | exact Box.new _ a | exact Box.new_at (c := a) (by simp) | apply Box.alloc))
  clear CA
  have CA := Lib.hid CA'
  clear CA'
  have CB' : Box w4 ((W.heap.size + 1)) b := Box.keep hb (by repeat (first | exact CB.out | exact Box.new _ b | exact Box.new_at (c := b) (by simp) | apply Box.alloc))
  clear CB
  have CB := Lib.hid CB'
  clear CB'
  have CC' : Box w4 ((W.heap.size + 2)) c := Box.keep hb (by repeat (first | exact CC.out | exact Box.new _ c | exact Box.new_at (c := c) (by simp) | apply Box.alloc))
  clear CC
  have CC := Lib.hid CC'
  clear CC'
  have HB4 : Hid (Below W.heap.size W w4) := Lib.hid (below_then (by repeat (first | exact HB3.out | apply below_new | apply below_draws)) hb)
  clear hb HB3
  obtain ⟨zCB, cCB0, cCB1, cCB2, cCB3, cCB4, cCB5⟩ := CB.out
  have nCB : ¬ (W.heap.size + 1) = w4.heap.size := by omega
  obtain ⟨zCC, cCC0, cCC1, cCC2, cCC3, cCC4, cCC5⟩ := CC.out
  have nCC : ¬ (W.heap.size + 2) = w4.heap.size := by omega
  go_wp2_with fail
  clear zCB nCB cCB0 cCB1 cCB2 cCB3 cCB4 cCB5
  clear zCC nCC cCC0 cCC1 cCC2 cCC3 cCC4 cCC5
  refine ((der_is b c false Tbc.out) _).mono ?_
  rintro e w5 ⟨rfl, hb⟩
  have CA' : Box w5 (W.heap.size) a := Box.keep hb (by repeat (first | exact CA.out | exact Box.new _ a | exact Box.new_at (c := a) (by simp) | apply Box.alloc))
  clear CA
  have CA := Lib.hid CA'
  clear CA'
  have CB' : Box w5 ((W.heap.size + 1)) b := Box.keep hb (by repeat (first | exact CB.out | exact Box.new _ b | exact Box.new_at (c := b) (by simp) | apply Box.alloc))
  clear CB
  have CB := Lib.hid CB'
  clear CB'
  have CC' : Box w5 ((W.heap.size + 2)) c := Box.keep hb (by repeat (first | exact CC.out | exact Box.new _ c | exact Box.new_at (c := c) (by simp) | apply Box.alloc))
  clear CC
  have CC := Lib.hid CC'
  clear CC'
  have HB5 : Hid (Below W.heap.size W w5) := Lib.hid (below_then (by repeat (first | exact HB4.out | apply below_new | apply below_draws)) hb)
  clear hb HB4
  obtain ⟨zCA, cCA0, cCA1, cCA2, cCA3, cCA4, cCA5⟩ := CA.out
  have nCA : ¬ W.heap.size = w5.heap.size := by omega
  obtain ⟨zCB, cCB0, cCB1, cCB2, cCB3, cCB4, cCB5⟩ := CB.out
  have nCB : ¬ (W.heap.size + 1) = w5.heap.size := by omega
  go_wp2_with fail
  clear zCA nCA cCA0 cCA1 cCA2 cCA3 cCA4 cCA5
  clear zCB nCB cCB0 cCB1 cCB2 cCB3 cCB4 cCB5
  refine ((der_is a b true Tab.out) _).mono ?_
  rintro e w6 ⟨rfl, hb⟩
  have CA' : Box w6 (W.heap.size) a := Box.keep hb (by repeat (first | exact CA.out | exact Box.new _ a | exact Box.new_at (c := a) (by simp) | apply Box.alloc))
  clear CA
  have CA := Lib.hid CA'
  clear CA'
  have CB' : Box w6 ((W.heap.size + 1)) b := Box.keep hb (by repeat (first | exact CB.out | exact Box.new _ b | exact Box.new_at (c := b) (by simp) | apply Box.alloc))
  clear CB
  have CB := Lib.hid CB'
  clear CB'
  have CC' : Box w6 ((W.heap.size + 2)) c := Box.keep hb (by repeat (first | exact CC.out | exact Box.new _ c | exact Box.new_at (c := c) (by simp) | apply Box.alloc))
  clear CC
  have CC := Lib.hid CC'
  clear CC'
  have HB6 : Hid (Below W.heap.size W w6) := Lib.hid (below_then (by repeat (first | exact HB5.out | apply below_new | apply below_draws)) hb)
  clear hb HB5
  obtain ⟨zCB, cCB0, cCB1, cCB2, cCB3, cCB4, cCB5⟩ := CB.out
  have nCB : ¬ (W.heap.size + 1) = w6.heap.size := by omega
  obtain ⟨zCA, cCA0, cCA1, cCA2, cCA3, cCA4, cCA5⟩ := CA.out
  have nCA : ¬ W.heap.size = w6.heap.size := by omega
  go_wp2_with fail
  clear zCB nCB cCB0 cCB1 cCB2 cCB3 cCB4 cCB5
  clear zCA nCA cCA0 cCA1 cCA2 cCA3 cCA4 cCA5
  refine ((der_is b a true Tba.out) _).mono ?_
  rintro e w7 ⟨rfl, hb⟩
  have CA' : Box w7 (W.heap.size) a := Box.keep hb (by repeat (first | exact CA.out | exact Box.new _ a | exact Box.new_at (c := a) (by simp) | apply Box.alloc))
  clear CA
  have CA := Lib.hid CA'
  clear CA'
  have CB' : Box w7 ((W.heap.size + 1)) b := Box.keep hb (by repeat (first | exact CB.out | exact Box.new _ b | exact Box.new_at (c := b) (by simp) | apply Box.alloc))
  clear CB
  have CB := Lib.hid CB'
  clear CB'
  have CC' : Box w7 ((W.heap.size + 2)) c := Box.keep hb (by repeat (first | exact CC.out | exact Box.new _ c | exact Box.new_at (c := c) (by simp) | apply Box.alloc))
  clear CC
  have CC := Lib.hid CC'
  clear CC'
  have HB7 : Hid (Below W.heap.size W w7) := Lib.hid (below_then (by repeat (first | exact HB6.out | apply below_new | apply below_draws)) hb)
  clear hb HB6
  obtain ⟨zCA, cCA0, cCA1, cCA2, cCA3, cCA4, cCA5⟩ := CA.out
  have nCA : ¬ W.heap.size = w7.heap.size := by omega
  obtain ⟨zCB, cCB0, cCB1, cCB2, cCB3, cCB4, cCB5⟩ := CB.out
  have nCB : ¬ (W.heap.size + 1) = w7.heap.size := by omega
  go_wp2_with fail
  clear zCA nCA cCA0 cCA1 cCA2 cCA3 cCA4 cCA5
  clear zCB nCB cCB0 cCB1 cCB2 cCB3 cCB4 cCB5
  refine (fixed_true _).mono ?_
  rintro e w8 ⟨rfl, hb⟩
  clear CA
  clear CB
  clear CC
  have HB8 : Hid (Below W.heap.size W w8) := Lib.hid (below_then (by repeat (first | exact HB7.out | apply below_new | apply below_draws)) hb)
  clear hb HB7
  go_wp2_with fail
  go_ret
  exact ⟨rfl, (by repeat (first | exact HB8.out | apply below_new | apply below_draws))⟩

set_option maxRecDepth 100000 in
set_option maxHeartbeats 3200000 in
theorem capsOrder_bcn_allzb (a b c : Cp) (ga : Word a.g) (gb : Word b.g) (gc : Word c.g) (oka : a.Ok) (okb : b.Ok) (okc : c.Ok) (tab : derB a b = true) (tbc : derB b c = false) (tba : derB b a = true) (fk : (a.k == b.k) = true) (fo : (a.o == b.o) = true) (fr : (a.r == b.r) = true) (fb : ((a.b : Int) == (b.b : Int)) = false) (az : ((a.b : Int) == 0) = false) (bz : ((b.b : Int) == 0) = true) (W : World) :
    Calls Try.prog 10 #[(.agg #[.int .i64 a.k, .int .i64 a.o, .int .i64 a.r, .int .u64 a.b, .int .u64 a.g, .int .i64 a.n]), (.agg #[.int .i64 b.k, .int .i64 b.o, .int .i64 b.r, .int .u64 b.b, .int .u64 b.g, .int .i64 b.n]), (.agg #[.int .i64 c.k, .int .i64 c.o, .int .i64 c.r, .int .u64 c.b, .int .u64 c.g, .int .i64 c.n])] W fun e w' => e = .returned (.bool true) ∧ Below W.heap.size W w' := by
  have OKA := Lib.hid oka
  clear oka
  have OKB := Lib.hid okb
  clear okb
  have OKC := Lib.hid okc
  clear okc
  have Tab := Lib.hid tab
  clear tab
  have Tbc := Lib.hid tbc
  clear tbc
  have Tba := Lib.hid tba
  clear tba
  go_enter Try.func10, Try.ntmps10
  go_wp2_with fail
  refine ((rchk_is a ga OKA.out) _).mono ?_
  rintro e w1 ⟨rfl, hb⟩
  have CA' : Box w1 (W.heap.size) a := Box.keep hb (by repeat (first | fail | exact Box.new _ a | exact Box.new_at (c := a) (by simp) | apply Box.alloc))
  have CA := Lib.hid CA'
  clear CA'
  have CB' : Box w1 ((W.heap.size + 1)) b := Box.keep hb (by repeat (first | fail | exact Box.new _ b | exact Box.new_at (c := b) (by simp) | apply Box.alloc))
  have CB := Lib.hid CB'
  clear CB'
  have CC' : Box w1 ((W.heap.size + 2)) c := Box.keep hb (by repeat (first | fail | exact Box.new _ c | exact Box.new_at (c := c) (by simp) | apply Box.alloc))
  have CC := Lib.hid CC'
  clear CC'
  have HB1 : Hid (Below W.heap.size W w1) := Lib.hid (below_then (by repeat (first | exact (Below.refl _ _) | apply below_new | apply below_draws)) hb)
  clear hb
  obtain ⟨zCB, cCB0, cCB1, cCB2, cCB3, cCB4, cCB5⟩ := CB.out
  have nCB : ¬ (W.heap.size + 1) = w1.heap.size := by omega
  go_wp2_with fail
  clear zCB nCB cCB0 cCB1 cCB2 cCB3 cCB4 cCB5
  refine ((rchk_is b gb OKB.out) _).mono ?_
  rintro e w2 ⟨rfl, hb⟩
  have CA' : Box w2 (W.heap.size) a := Box.keep hb (by repeat (first | exact CA.out | exact Box.new _ a | exact Box.new_at (c := a) (by simp) | apply Box.alloc))
  clear CA
  have CA := Lib.hid CA'
  clear CA'
  have CB' : Box w2 ((W.heap.size + 1)) b := Box.keep hb (by repeat (first | exact CB.out | exact Box.new _ b | exact Box.new_at (c := b) (by simp) | apply Box.alloc))
  clear CB
  have CB := Lib.hid CB'
  clear CB'
  have CC' : Box w2 ((W.heap.size + 2)) c := Box.keep hb (by repeat (first | exact CC.out | exact Box.new _ c | exact Box.new_at (c := c) (by simp) | apply Box.alloc))
  clear CC
  have CC := Lib.hid CC'
  clear CC'
  have HB2 : Hid (Below W.heap.size W w2) := Lib.hid (below_then (by repeat (first | exact HB1.out | apply below_new | apply below_draws)) hb)
  clear hb HB1
  obtain ⟨zCC, cCC0, cCC1, cCC2, cCC3, cCC4, cCC5⟩ := CC.out
  have nCC : ¬ (W.heap.size + 2) = w2.heap.size := by omega
  go_wp2_with fail
  clear zCC nCC cCC0 cCC1 cCC2 cCC3 cCC4 cCC5
  refine ((rchk_is c gc OKC.out) _).mono ?_
  rintro e w3 ⟨rfl, hb⟩
  have CA' : Box w3 (W.heap.size) a := Box.keep hb (by repeat (first | exact CA.out | exact Box.new _ a | exact Box.new_at (c := a) (by simp) | apply Box.alloc))
  clear CA
  have CA := Lib.hid CA'
  clear CA'
  have CB' : Box w3 ((W.heap.size + 1)) b := Box.keep hb (by repeat (first | exact CB.out | exact Box.new _ b | exact Box.new_at (c := b) (by simp) | apply Box.alloc))
  clear CB
  have CB := Lib.hid CB'
  clear CB'
  have CC' : Box w3 ((W.heap.size + 2)) c := Box.keep hb (by repeat (first | exact CC.out | exact Box.new _ c | exact Box.new_at (c := c) (by simp) | apply Box.alloc))
  clear CC
  have CC := Lib.hid CC'
  clear CC'
  have HB3 : Hid (Below W.heap.size W w3) := Lib.hid (below_then (by repeat (first | exact HB2.out | apply below_new | apply below_draws)) hb)
  clear hb HB2
  obtain ⟨zCA, cCA0, cCA1, cCA2, cCA3, cCA4, cCA5⟩ := CA.out
  have nCA : ¬ W.heap.size = w3.heap.size := by omega
  obtain ⟨zCB, cCB0, cCB1, cCB2, cCB3, cCB4, cCB5⟩ := CB.out
  have nCB : ¬ (W.heap.size + 1) = w3.heap.size := by omega
  go_wp2_with fail
  clear zCA nCA cCA0 cCA1 cCA2 cCA3 cCA4 cCA5
  clear zCB nCB cCB0 cCB1 cCB2 cCB3 cCB4 cCB5
  refine ((der_is a b true Tab.out) _).mono ?_
  rintro e w4 ⟨rfl, hb⟩
  have CA' : Box w4 (W.heap.size) a := Box.keep hb (by repeat (first | exact CA.out | exact Box.new _ a | exact Box.new_at (c := a) (by simp) | apply Box.alloc))
  clear CA
  have CA := Lib.hid CA'
  clear CA'
  have CB' : Box w4 ((W.heap.size + 1)) b := Box.keep hb (by repeat (first | exact CB.out | exact Box.new _ b | exact Box.new_at (c := b) (by simp) | apply Box.alloc))
  clear CB
  have CB := Lib.hid CB'
  clear CB'
  have CC' : Box w4 ((W.heap.size + 2)) c := Box.keep hb (by repeat (first | exact CC.out | exact Box.new _ c | exact Box.new_at (c := c) (by simp) | apply Box.alloc))
  clear CC
  have CC := Lib.hid CC'
  clear CC'
  have HB4 : Hid (Below W.heap.size W w4) := Lib.hid (below_then (by repeat (first | exact HB3.out | apply below_new | apply below_draws)) hb)
  clear hb HB3
  obtain ⟨zCB, cCB0, cCB1, cCB2, cCB3, cCB4, cCB5⟩ := CB.out
  have nCB : ¬ (W.heap.size + 1) = w4.heap.size := by omega
  obtain ⟨zCC, cCC0, cCC1, cCC2, cCC3, cCC4, cCC5⟩ := CC.out
  have nCC : ¬ (W.heap.size + 2) = w4.heap.size := by omega
  go_wp2_with fail
  clear zCB nCB cCB0 cCB1 cCB2 cCB3 cCB4 cCB5
  clear zCC nCC cCC0 cCC1 cCC2 cCC3 cCC4 cCC5
  refine ((der_is b c false Tbc.out) _).mono ?_
  rintro e w5 ⟨rfl, hb⟩
  have CA' : Box w5 (W.heap.size) a := Box.keep hb (by repeat (first | exact CA.out | exact Box.new _ a | exact Box.new_at (c := a) (by simp) | apply Box.alloc))
  clear CA
  have CA := Lib.hid CA'
  clear CA'
  have CB' : Box w5 ((W.heap.size + 1)) b := Box.keep hb (by repeat (first | exact CB.out | exact Box.new _ b | exact Box.new_at (c := b) (by simp) | apply Box.alloc))
  clear CB
  have CB := Lib.hid CB'
  clear CB'
  have CC' : Box w5 ((W.heap.size + 2)) c := Box.keep hb (by repeat (first | exact CC.out | exact Box.new _ c | exact Box.new_at (c := c) (by simp) | apply Box.alloc))
  clear CC
  have CC := Lib.hid CC'
  clear CC'
  have HB5 : Hid (Below W.heap.size W w5) := Lib.hid (below_then (by repeat (first | exact HB4.out | apply below_new | apply below_draws)) hb)
  clear hb HB4
  obtain ⟨zCA, cCA0, cCA1, cCA2, cCA3, cCA4, cCA5⟩ := CA.out
  have nCA : ¬ W.heap.size = w5.heap.size := by omega
  obtain ⟨zCB, cCB0, cCB1, cCB2, cCB3, cCB4, cCB5⟩ := CB.out
  have nCB : ¬ (W.heap.size + 1) = w5.heap.size := by omega
  go_wp2_with fail
  clear zCA nCA cCA0 cCA1 cCA2 cCA3 cCA4 cCA5
  clear zCB nCB cCB0 cCB1 cCB2 cCB3 cCB4 cCB5
  refine ((der_is a b true Tab.out) _).mono ?_
  rintro e w6 ⟨rfl, hb⟩
  have CA' : Box w6 (W.heap.size) a := Box.keep hb (by repeat (first | exact CA.out | exact Box.new _ a | exact Box.new_at (c := a) (by simp) | apply Box.alloc))
  clear CA
  have CA := Lib.hid CA'
  clear CA'
  have CB' : Box w6 ((W.heap.size + 1)) b := Box.keep hb (by repeat (first | exact CB.out | exact Box.new _ b | exact Box.new_at (c := b) (by simp) | apply Box.alloc))
  clear CB
  have CB := Lib.hid CB'
  clear CB'
  have CC' : Box w6 ((W.heap.size + 2)) c := Box.keep hb (by repeat (first | exact CC.out | exact Box.new _ c | exact Box.new_at (c := c) (by simp) | apply Box.alloc))
  clear CC
  have CC := Lib.hid CC'
  clear CC'
  have HB6 : Hid (Below W.heap.size W w6) := Lib.hid (below_then (by repeat (first | exact HB5.out | apply below_new | apply below_draws)) hb)
  clear hb HB5
  obtain ⟨zCB, cCB0, cCB1, cCB2, cCB3, cCB4, cCB5⟩ := CB.out
  have nCB : ¬ (W.heap.size + 1) = w6.heap.size := by omega
  obtain ⟨zCA, cCA0, cCA1, cCA2, cCA3, cCA4, cCA5⟩ := CA.out
  have nCA : ¬ W.heap.size = w6.heap.size := by omega
  go_wp2_with fail
  clear zCB nCB cCB0 cCB1 cCB2 cCB3 cCB4 cCB5
  clear zCA nCA cCA0 cCA1 cCA2 cCA3 cCA4 cCA5
  refine ((der_is b a true Tba.out) _).mono ?_
  rintro e w7 ⟨rfl, hb⟩
  have CA' : Box w7 (W.heap.size) a := Box.keep hb (by repeat (first | exact CA.out | exact Box.new _ a | exact Box.new_at (c := a) (by simp) | apply Box.alloc))
  clear CA
  have CA := Lib.hid CA'
  clear CA'
  have CB' : Box w7 ((W.heap.size + 1)) b := Box.keep hb (by repeat (first | exact CB.out | exact Box.new _ b | exact Box.new_at (c := b) (by simp) | apply Box.alloc))
  clear CB
  have CB := Lib.hid CB'
  clear CB'
  have CC' : Box w7 ((W.heap.size + 2)) c := Box.keep hb (by repeat (first | exact CC.out | exact Box.new _ c | exact Box.new_at (c := c) (by simp) | apply Box.alloc))
  clear CC
  have CC := Lib.hid CC'
  clear CC'
  have HB7 : Hid (Below W.heap.size W w7) := Lib.hid (below_then (by repeat (first | exact HB6.out | apply below_new | apply below_draws)) hb)
  clear hb HB6
  obtain ⟨zCA, cCA0, cCA1, cCA2, cCA3, cCA4, cCA5⟩ := CA.out
  have nCA : ¬ W.heap.size = w7.heap.size := by omega
  obtain ⟨zCB, cCB0, cCB1, cCB2, cCB3, cCB4, cCB5⟩ := CB.out
  have nCB : ¬ (W.heap.size + 1) = w7.heap.size := by omega
  go_wp2_with fail
  clear zCA nCA cCA0 cCA1 cCA2 cCA3 cCA4 cCA5
  clear zCB nCB cCB0 cCB1 cCB2 cCB3 cCB4 cCB5
  refine (fixed_true _).mono ?_
  rintro e w8 ⟨rfl, hb⟩
  clear CA
  clear CB
  clear CC
  have HB8 : Hid (Below W.heap.size W w8) := Lib.hid (below_then (by repeat (first | exact HB7.out | apply below_new | apply below_draws)) hb)
  clear hb HB7
  go_wp2_with fail
  go_ret
  exact ⟨rfl, (by repeat (first | exact HB8.out | apply below_new | apply below_draws))⟩

set_option maxRecDepth 100000 in
set_option maxHeartbeats 3200000 in
theorem capsOrder_bcn_allsame (a b c : Cp) (ga : Word a.g) (gb : Word b.g) (gc : Word c.g) (oka : a.Ok) (okb : b.Ok) (okc : c.Ok) (tab : derB a b = true) (tbc : derB b c = false) (tba : derB b a = true) (fk : (a.k == b.k) = true) (fo : (a.o == b.o) = true) (fr : (a.r == b.r) = true) (fb : ((a.b : Int) == (b.b : Int)) = true) (W : World) :
    Calls Try.prog 10 #[(.agg #[.int .i64 a.k, .int .i64 a.o, .int .i64 a.r, .int .u64 a.b, .int .u64 a.g, .int .i64 a.n]), (.agg #[.int .i64 b.k, .int .i64 b.o, .int .i64 b.r, .int .u64 b.b, .int .u64 b.g, .int .i64 b.n]), (.agg #[.int .i64 c.k, .int .i64 c.o, .int .i64 c.r, .int .u64 c.b, .int .u64 c.g, .int .i64 c.n])] W fun e w' => e = .returned (.bool true) ∧ Below W.heap.size W w' := by
  have OKA := Lib.hid oka
  clear oka
  have OKB := Lib.hid okb
  clear okb
  have OKC := Lib.hid okc
  clear okc
  have Tab := Lib.hid tab
  clear tab
  have Tbc := Lib.hid tbc
  clear tbc
  have Tba := Lib.hid tba
  clear tba
  go_enter Try.func10, Try.ntmps10
  go_wp2_with fail
  refine ((rchk_is a ga OKA.out) _).mono ?_
  rintro e w1 ⟨rfl, hb⟩
  have CA' : Box w1 (W.heap.size) a := Box.keep hb (by repeat (first | fail | exact Box.new _ a | exact Box.new_at (c := a) (by simp) | apply Box.alloc))
  have CA := Lib.hid CA'
  clear CA'
  have CB' : Box w1 ((W.heap.size + 1)) b := Box.keep hb (by repeat (first | fail | exact Box.new _ b | exact Box.new_at (c := b) (by simp) | apply Box.alloc))
  have CB := Lib.hid CB'
  clear CB'
  have CC' : Box w1 ((W.heap.size + 2)) c := Box.keep hb (by repeat (first | fail | exact Box.new _ c | exact Box.new_at (c := c) (by simp) | apply Box.alloc))
  have CC := Lib.hid CC'
  clear CC'
  have HB1 : Hid (Below W.heap.size W w1) := Lib.hid (below_then (by repeat (first | exact (Below.refl _ _) | apply below_new | apply below_draws)) hb)
  clear hb
  obtain ⟨zCB, cCB0, cCB1, cCB2, cCB3, cCB4, cCB5⟩ := CB.out
  have nCB : ¬ (W.heap.size + 1) = w1.heap.size := by omega
  go_wp2_with fail
  clear zCB nCB cCB0 cCB1 cCB2 cCB3 cCB4 cCB5
  refine ((rchk_is b gb OKB.out) _).mono ?_
  rintro e w2 ⟨rfl, hb⟩
  have CA' : Box w2 (W.heap.size) a := Box.keep hb (by repeat (first | exact CA.out | exact Box.new _ a | exact Box.new_at (c := a) (by simp) | apply Box.alloc))
  clear CA
  have CA := Lib.hid CA'
  clear CA'
  have CB' : Box w2 ((W.heap.size + 1)) b := Box.keep hb (by repeat (first | exact CB.out | exact Box.new _ b | exact Box.new_at (c := b) (by simp) | apply Box.alloc))
  clear CB
  have CB := Lib.hid CB'
  clear CB'
  have CC' : Box w2 ((W.heap.size + 2)) c := Box.keep hb (by repeat (first | exact CC.out | exact Box.new _ c | exact Box.new_at (c := c) (by simp) | apply Box.alloc))
  clear CC
  have CC := Lib.hid CC'
  clear CC'
  have HB2 : Hid (Below W.heap.size W w2) := Lib.hid (below_then (by repeat (first | exact HB1.out | apply below_new | apply below_draws)) hb)
  clear hb HB1
  obtain ⟨zCC, cCC0, cCC1, cCC2, cCC3, cCC4, cCC5⟩ := CC.out
  have nCC : ¬ (W.heap.size + 2) = w2.heap.size := by omega
  go_wp2_with fail
  clear zCC nCC cCC0 cCC1 cCC2 cCC3 cCC4 cCC5
  refine ((rchk_is c gc OKC.out) _).mono ?_
  rintro e w3 ⟨rfl, hb⟩
  have CA' : Box w3 (W.heap.size) a := Box.keep hb (by repeat (first | exact CA.out | exact Box.new _ a | exact Box.new_at (c := a) (by simp) | apply Box.alloc))
  clear CA
  have CA := Lib.hid CA'
  clear CA'
  have CB' : Box w3 ((W.heap.size + 1)) b := Box.keep hb (by repeat (first | exact CB.out | exact Box.new _ b | exact Box.new_at (c := b) (by simp) | apply Box.alloc))
  clear CB
  have CB := Lib.hid CB'
  clear CB'
  have CC' : Box w3 ((W.heap.size + 2)) c := Box.keep hb (by repeat (first | exact CC.out | exact Box.new _ c | exact Box.new_at (c := c) (by simp) | apply Box.alloc))
  clear CC
  have CC := Lib.hid CC'
  clear CC'
  have HB3 : Hid (Below W.heap.size W w3) := Lib.hid (below_then (by repeat (first | exact HB2.out | apply below_new | apply below_draws)) hb)
  clear hb HB2
  obtain ⟨zCA, cCA0, cCA1, cCA2, cCA3, cCA4, cCA5⟩ := CA.out
  have nCA : ¬ W.heap.size = w3.heap.size := by omega
  obtain ⟨zCB, cCB0, cCB1, cCB2, cCB3, cCB4, cCB5⟩ := CB.out
  have nCB : ¬ (W.heap.size + 1) = w3.heap.size := by omega
  go_wp2_with fail
  clear zCA nCA cCA0 cCA1 cCA2 cCA3 cCA4 cCA5
  clear zCB nCB cCB0 cCB1 cCB2 cCB3 cCB4 cCB5
  refine ((der_is a b true Tab.out) _).mono ?_
  rintro e w4 ⟨rfl, hb⟩
  have CA' : Box w4 (W.heap.size) a := Box.keep hb (by repeat (first | exact CA.out | exact Box.new _ a | exact Box.new_at (c := a) (by simp) | apply Box.alloc))
  clear CA
  have CA := Lib.hid CA'
  clear CA'
  have CB' : Box w4 ((W.heap.size + 1)) b := Box.keep hb (by repeat (first | exact CB.out | exact Box.new _ b | exact Box.new_at (c := b) (by simp) | apply Box.alloc))
  clear CB
  have CB := Lib.hid CB'
  clear CB'
  have CC' : Box w4 ((W.heap.size + 2)) c := Box.keep hb (by repeat (first | exact CC.out | exact Box.new _ c | exact Box.new_at (c := c) (by simp) | apply Box.alloc))
  clear CC
  have CC := Lib.hid CC'
  clear CC'
  have HB4 : Hid (Below W.heap.size W w4) := Lib.hid (below_then (by repeat (first | exact HB3.out | apply below_new | apply below_draws)) hb)
  clear hb HB3
  obtain ⟨zCB, cCB0, cCB1, cCB2, cCB3, cCB4, cCB5⟩ := CB.out
  have nCB : ¬ (W.heap.size + 1) = w4.heap.size := by omega
  obtain ⟨zCC, cCC0, cCC1, cCC2, cCC3, cCC4, cCC5⟩ := CC.out
  have nCC : ¬ (W.heap.size + 2) = w4.heap.size := by omega
  go_wp2_with fail
  clear zCB nCB cCB0 cCB1 cCB2 cCB3 cCB4 cCB5
  clear zCC nCC cCC0 cCC1 cCC2 cCC3 cCC4 cCC5
  refine ((der_is b c false Tbc.out) _).mono ?_
  rintro e w5 ⟨rfl, hb⟩
  have CA' : Box w5 (W.heap.size) a := Box.keep hb (by repeat (first | exact CA.out | exact Box.new _ a | exact Box.new_at (c := a) (by simp) | apply Box.alloc))
  clear CA
  have CA := Lib.hid CA'
  clear CA'
  have CB' : Box w5 ((W.heap.size + 1)) b := Box.keep hb (by repeat (first | exact CB.out | exact Box.new _ b | exact Box.new_at (c := b) (by simp) | apply Box.alloc))
  clear CB
  have CB := Lib.hid CB'
  clear CB'
  have CC' : Box w5 ((W.heap.size + 2)) c := Box.keep hb (by repeat (first | exact CC.out | exact Box.new _ c | exact Box.new_at (c := c) (by simp) | apply Box.alloc))
  clear CC
  have CC := Lib.hid CC'
  clear CC'
  have HB5 : Hid (Below W.heap.size W w5) := Lib.hid (below_then (by repeat (first | exact HB4.out | apply below_new | apply below_draws)) hb)
  clear hb HB4
  obtain ⟨zCA, cCA0, cCA1, cCA2, cCA3, cCA4, cCA5⟩ := CA.out
  have nCA : ¬ W.heap.size = w5.heap.size := by omega
  obtain ⟨zCB, cCB0, cCB1, cCB2, cCB3, cCB4, cCB5⟩ := CB.out
  have nCB : ¬ (W.heap.size + 1) = w5.heap.size := by omega
  go_wp2_with fail
  clear zCA nCA cCA0 cCA1 cCA2 cCA3 cCA4 cCA5
  clear zCB nCB cCB0 cCB1 cCB2 cCB3 cCB4 cCB5
  refine ((der_is a b true Tab.out) _).mono ?_
  rintro e w6 ⟨rfl, hb⟩
  have CA' : Box w6 (W.heap.size) a := Box.keep hb (by repeat (first | exact CA.out | exact Box.new _ a | exact Box.new_at (c := a) (by simp) | apply Box.alloc))
  clear CA
  have CA := Lib.hid CA'
  clear CA'
  have CB' : Box w6 ((W.heap.size + 1)) b := Box.keep hb (by repeat (first | exact CB.out | exact Box.new _ b | exact Box.new_at (c := b) (by simp) | apply Box.alloc))
  clear CB
  have CB := Lib.hid CB'
  clear CB'
  have CC' : Box w6 ((W.heap.size + 2)) c := Box.keep hb (by repeat (first | exact CC.out | exact Box.new _ c | exact Box.new_at (c := c) (by simp) | apply Box.alloc))
  clear CC
  have CC := Lib.hid CC'
  clear CC'
  have HB6 : Hid (Below W.heap.size W w6) := Lib.hid (below_then (by repeat (first | exact HB5.out | apply below_new | apply below_draws)) hb)
  clear hb HB5
  obtain ⟨zCB, cCB0, cCB1, cCB2, cCB3, cCB4, cCB5⟩ := CB.out
  have nCB : ¬ (W.heap.size + 1) = w6.heap.size := by omega
  obtain ⟨zCA, cCA0, cCA1, cCA2, cCA3, cCA4, cCA5⟩ := CA.out
  have nCA : ¬ W.heap.size = w6.heap.size := by omega
  go_wp2_with fail
  clear zCB nCB cCB0 cCB1 cCB2 cCB3 cCB4 cCB5
  clear zCA nCA cCA0 cCA1 cCA2 cCA3 cCA4 cCA5
  refine ((der_is b a true Tba.out) _).mono ?_
  rintro e w7 ⟨rfl, hb⟩
  have CA' : Box w7 (W.heap.size) a := Box.keep hb (by repeat (first | exact CA.out | exact Box.new _ a | exact Box.new_at (c := a) (by simp) | apply Box.alloc))
  clear CA
  have CA := Lib.hid CA'
  clear CA'
  have CB' : Box w7 ((W.heap.size + 1)) b := Box.keep hb (by repeat (first | exact CB.out | exact Box.new _ b | exact Box.new_at (c := b) (by simp) | apply Box.alloc))
  clear CB
  have CB := Lib.hid CB'
  clear CB'
  have CC' : Box w7 ((W.heap.size + 2)) c := Box.keep hb (by repeat (first | exact CC.out | exact Box.new _ c | exact Box.new_at (c := c) (by simp) | apply Box.alloc))
  clear CC
  have CC := Lib.hid CC'
  clear CC'
  have HB7 : Hid (Below W.heap.size W w7) := Lib.hid (below_then (by repeat (first | exact HB6.out | apply below_new | apply below_draws)) hb)
  clear hb HB6
  obtain ⟨zCA, cCA0, cCA1, cCA2, cCA3, cCA4, cCA5⟩ := CA.out
  have nCA : ¬ W.heap.size = w7.heap.size := by omega
  obtain ⟨zCB, cCB0, cCB1, cCB2, cCB3, cCB4, cCB5⟩ := CB.out
  have nCB : ¬ (W.heap.size + 1) = w7.heap.size := by omega
  go_wp2_with fail
  clear zCA nCA cCA0 cCA1 cCA2 cCA3 cCA4 cCA5
  clear zCB nCB cCB0 cCB1 cCB2 cCB3 cCB4 cCB5
  refine (fixed_true _).mono ?_
  rintro e w8 ⟨rfl, hb⟩
  clear CA
  clear CB
  clear CC
  have HB8 : Hid (Below W.heap.size W w8) := Lib.hid (below_then (by repeat (first | exact HB7.out | apply below_new | apply below_draws)) hb)
  clear hb HB7
  go_wp2_with fail
  go_ret
  exact ⟨rfl, (by repeat (first | exact HB8.out | apply below_new | apply below_draws))⟩

set_option maxRecDepth 100000 in
set_option maxHeartbeats 3200000 in
theorem capsOrder_bc_ba (a b c : Cp) (ga : Word a.g) (gb : Word b.g) (gc : Word c.g) (oka : a.Ok) (okb : b.Ok) (okc : c.Ok) (tab : derB a b = true) (tbc : derB b c = true) (tac : derB a c = true) (tba : derB b a = false) (W : World) :
    Calls Try.prog 10 #[(.agg #[.int .i64 a.k, .int .i64 a.o, .int .i64 a.r, .int .u64 a.b, .int .u64 a.g, .int .i64 a.n]), (.agg #[.int .i64 b.k, .int .i64 b.o, .int .i64 b.r, .int .u64 b.b, .int .u64 b.g, .int .i64 b.n]), (.agg #[.int .i64 c.k, .int .i64 c.o, .int .i64 c.r, .int .u64 c.b, .int .u64 c.g, .int .i64 c.n])] W fun e w' => e = .returned (.bool true) ∧ Below W.heap.size W w' := by
  have OKA := Lib.hid oka
  clear oka
  have OKB := Lib.hid okb
  clear okb
  have OKC := Lib.hid okc
  clear okc
  have Tab := Lib.hid tab
  clear tab
  have Tbc := Lib.hid tbc
  clear tbc
  have Tac := Lib.hid tac
  clear tac
  have Tba := Lib.hid tba
  clear tba
  go_enter Try.func10, Try.ntmps10
  go_wp2_with fail
  refine ((rchk_is a ga OKA.out) _).mono ?_
  rintro e w1 ⟨rfl, hb⟩
  have CA' : Box w1 (W.heap.size) a := Box.keep hb (by repeat (first | fail | exact Box.new _ a | exact Box.new_at (c := a) (by simp) | apply Box.alloc))
  have CA := Lib.hid CA'
  clear CA'
  have CB' : Box w1 ((W.heap.size + 1)) b := Box.keep hb (by repeat (first | fail | exact Box.new _ b | exact Box.new_at (c := b) (by simp) | apply Box.alloc))
  have CB := Lib.hid CB'
  clear CB'
  have CC' : Box w1 ((W.heap.size + 2)) c := Box.keep hb (by repeat (first | fail | exact Box.new _ c | exact Box.new_at (c := c) (by simp) | apply Box.alloc))
  have CC := Lib.hid CC'
  clear CC'
  have HB1 : Hid (Below W.heap.size W w1) := Lib.hid (below_then (by repeat (first | exact (Below.refl _ _) | apply below_new | apply below_draws)) hb)
  clear hb
  obtain ⟨zCB, cCB0, cCB1, cCB2, cCB3, cCB4, cCB5⟩ := CB.out
  have nCB : ¬ (W.heap.size + 1) = w1.heap.size := by omega
  go_wp2_with fail
  clear zCB nCB cCB0 cCB1 cCB2 cCB3 cCB4 cCB5
  refine ((rchk_is b gb OKB.out) _).mono ?_
  rintro e w2 ⟨rfl, hb⟩
  have CA' : Box w2 (W.heap.size) a := Box.keep hb (by repeat (first | exact CA.out | exact Box.new _ a | exact Box.new_at (c := a) (by simp) | apply Box.alloc))
  clear CA
  have CA := Lib.hid CA'
  clear CA'
  have CB' : Box w2 ((W.heap.size + 1)) b := Box.keep hb (by repeat (first | exact CB.out | exact Box.new _ b | exact Box.new_at (c := b) (by simp) | apply Box.alloc))
  clear CB
  have CB := Lib.hid CB'
  clear CB'
  have CC' : Box w2 ((W.heap.size + 2)) c := Box.keep hb (by repeat (first | exact CC.out | exact Box.new _ c | exact Box.new_at (c := c) (by simp) | apply Box.alloc))
  clear CC
  have CC := Lib.hid CC'
  clear CC'
  have HB2 : Hid (Below W.heap.size W w2) := Lib.hid (below_then (by repeat (first | exact HB1.out | apply below_new | apply below_draws)) hb)
  clear hb HB1
  obtain ⟨zCC, cCC0, cCC1, cCC2, cCC3, cCC4, cCC5⟩ := CC.out
  have nCC : ¬ (W.heap.size + 2) = w2.heap.size := by omega
  go_wp2_with fail
  clear zCC nCC cCC0 cCC1 cCC2 cCC3 cCC4 cCC5
  refine ((rchk_is c gc OKC.out) _).mono ?_
  rintro e w3 ⟨rfl, hb⟩
  have CA' : Box w3 (W.heap.size) a := Box.keep hb (by repeat (first | exact CA.out | exact Box.new _ a | exact Box.new_at (c := a) (by simp) | apply Box.alloc))
  clear CA
  have CA := Lib.hid CA'
  clear CA'
  have CB' : Box w3 ((W.heap.size + 1)) b := Box.keep hb (by repeat (first | exact CB.out | exact Box.new _ b | exact Box.new_at (c := b) (by simp) | apply Box.alloc))
  clear CB
  have CB := Lib.hid CB'
  clear CB'
  have CC' : Box w3 ((W.heap.size + 2)) c := Box.keep hb (by repeat (first | exact CC.out | exact Box.new _ c | exact Box.new_at (c := c) (by simp) | apply Box.alloc))
  clear CC
  have CC := Lib.hid CC'
  clear CC'
  have HB3 : Hid (Below W.heap.size W w3) := Lib.hid (below_then (by repeat (first | exact HB2.out | apply below_new | apply below_draws)) hb)
  clear hb HB2
  obtain ⟨zCA, cCA0, cCA1, cCA2, cCA3, cCA4, cCA5⟩ := CA.out
  have nCA : ¬ W.heap.size = w3.heap.size := by omega
  obtain ⟨zCB, cCB0, cCB1, cCB2, cCB3, cCB4, cCB5⟩ := CB.out
  have nCB : ¬ (W.heap.size + 1) = w3.heap.size := by omega
  go_wp2_with fail
  clear zCA nCA cCA0 cCA1 cCA2 cCA3 cCA4 cCA5
  clear zCB nCB cCB0 cCB1 cCB2 cCB3 cCB4 cCB5
  refine ((der_is a b true Tab.out) _).mono ?_
  rintro e w4 ⟨rfl, hb⟩
  have CA' : Box w4 (W.heap.size) a := Box.keep hb (by repeat (first | exact CA.out | exact Box.new _ a | exact Box.new_at (c := a) (by simp) | apply Box.alloc))
  clear CA
  have CA := Lib.hid CA'
  clear CA'
  have CB' : Box w4 ((W.heap.size + 1)) b := Box.keep hb (by repeat (first | exact CB.out | exact Box.new _ b | exact Box.new_at (c := b) (by simp) | apply Box.alloc))
  clear CB
  have CB := Lib.hid CB'
  clear CB'
  have CC' : Box w4 ((W.heap.size + 2)) c := Box.keep hb (by repeat (first | exact CC.out | exact Box.new _ c | exact Box.new_at (c := c) (by simp) | apply Box.alloc))
  clear CC
  have CC := Lib.hid CC'
  clear CC'
  have HB4 : Hid (Below W.heap.size W w4) := Lib.hid (below_then (by repeat (first | exact HB3.out | apply below_new | apply below_draws)) hb)
  clear hb HB3
  obtain ⟨zCB, cCB0, cCB1, cCB2, cCB3, cCB4, cCB5⟩ := CB.out
  have nCB : ¬ (W.heap.size + 1) = w4.heap.size := by omega
  obtain ⟨zCC, cCC0, cCC1, cCC2, cCC3, cCC4, cCC5⟩ := CC.out
  have nCC : ¬ (W.heap.size + 2) = w4.heap.size := by omega
  go_wp2_with fail
  clear zCB nCB cCB0 cCB1 cCB2 cCB3 cCB4 cCB5
  clear zCC nCC cCC0 cCC1 cCC2 cCC3 cCC4 cCC5
  refine ((der_is b c true Tbc.out) _).mono ?_
  rintro e w5 ⟨rfl, hb⟩
  have CA' : Box w5 (W.heap.size) a := Box.keep hb (by repeat (first | exact CA.out | exact Box.new _ a | exact Box.new_at (c := a) (by simp) | apply Box.alloc))
  clear CA
  have CA := Lib.hid CA'
  clear CA'
  have CB' : Box w5 ((W.heap.size + 1)) b := Box.keep hb (by repeat (first | exact CB.out | exact Box.new _ b | exact Box.new_at (c := b) (by simp) | apply Box.alloc))
  clear CB
  have CB := Lib.hid CB'
  clear CB'
  have CC' : Box w5 ((W.heap.size + 2)) c := Box.keep hb (by repeat (first | exact CC.out | exact Box.new _ c | exact Box.new_at (c := c) (by simp) | apply Box.alloc))
  clear CC
  have CC := Lib.hid CC'
  clear CC'
  have HB5 : Hid (Below W.heap.size W w5) := Lib.hid (below_then (by repeat (first | exact HB4.out | apply below_new | apply below_draws)) hb)
  clear hb HB4
  obtain ⟨zCA, cCA0, cCA1, cCA2, cCA3, cCA4, cCA5⟩ := CA.out
  have nCA : ¬ W.heap.size = w5.heap.size := by omega
  obtain ⟨zCC, cCC0, cCC1, cCC2, cCC3, cCC4, cCC5⟩ := CC.out
  have nCC : ¬ (W.heap.size + 2) = w5.heap.size := by omega
  go_wp2_with fail
  clear zCA nCA cCA0 cCA1 cCA2 cCA3 cCA4 cCA5
  clear zCC nCC cCC0 cCC1 cCC2 cCC3 cCC4 cCC5
  refine ((der_is a c true Tac.out) _).mono ?_
  rintro e w6 ⟨rfl, hb⟩
  have CA' : Box w6 (W.heap.size) a := Box.keep hb (by repeat (first | exact CA.out | exact Box.new _ a | exact Box.new_at (c := a) (by simp) | apply Box.alloc))
  clear CA
  have CA := Lib.hid CA'
  clear CA'
  have CB' : Box w6 ((W.heap.size + 1)) b := Box.keep hb (by repeat (first | exact CB.out | exact Box.new _ b | exact Box.new_at (c := b) (by simp) | apply Box.alloc))
  clear CB
  have CB := Lib.hid CB'
  clear CB'
  have CC' : Box w6 ((W.heap.size + 2)) c := Box.keep hb (by repeat (first | exact CC.out | exact Box.new _ c | exact Box.new_at (c := c) (by simp) | apply Box.alloc))
  clear CC
  have CC := Lib.hid CC'
  clear CC'
  have HB6 : Hid (Below W.heap.size W w6) := Lib.hid (below_then (by repeat (first | exact HB5.out | apply below_new | apply below_draws)) hb)
  clear hb HB5
  obtain ⟨zCA, cCA0, cCA1, cCA2, cCA3, cCA4, cCA5⟩ := CA.out
  have nCA : ¬ W.heap.size = w6.heap.size := by omega
  obtain ⟨zCB, cCB0, cCB1, cCB2, cCB3, cCB4, cCB5⟩ := CB.out
  have nCB : ¬ (W.heap.size + 1) = w6.heap.size := by omega
  go_wp2_with fail
  clear zCA nCA cCA0 cCA1 cCA2 cCA3 cCA4 cCA5
  clear zCB nCB cCB0 cCB1 cCB2 cCB3 cCB4 cCB5
  refine ((der_is a b true Tab.out) _).mono ?_
  rintro e w7 ⟨rfl, hb⟩
  have CA' : Box w7 (W.heap.size) a := Box.keep hb (by repeat (first | exact CA.out | exact Box.new _ a | exact Box.new_at (c := a) (by simp) | apply Box.alloc))
  clear CA
  have CA := Lib.hid CA'
  clear CA'
  have CB' : Box w7 ((W.heap.size + 1)) b := Box.keep hb (by repeat (first | exact CB.out | exact Box.new _ b | exact Box.new_at (c := b) (by simp) | apply Box.alloc))
  clear CB
  have CB := Lib.hid CB'
  clear CB'
  have CC' : Box w7 ((W.heap.size + 2)) c := Box.keep hb (by repeat (first | exact CC.out | exact Box.new _ c | exact Box.new_at (c := c) (by simp) | apply Box.alloc))
  clear CC
  have CC := Lib.hid CC'
  clear CC'
  have HB7 : Hid (Below W.heap.size W w7) := Lib.hid (below_then (by repeat (first | exact HB6.out | apply below_new | apply below_draws)) hb)
  clear hb HB6
  obtain ⟨zCB, cCB0, cCB1, cCB2, cCB3, cCB4, cCB5⟩ := CB.out
  have nCB : ¬ (W.heap.size + 1) = w7.heap.size := by omega
  obtain ⟨zCA, cCA0, cCA1, cCA2, cCA3, cCA4, cCA5⟩ := CA.out
  have nCA : ¬ W.heap.size = w7.heap.size := by omega
  go_wp2_with fail
  clear zCB nCB cCB0 cCB1 cCB2 cCB3 cCB4 cCB5
  clear zCA nCA cCA0 cCA1 cCA2 cCA3 cCA4 cCA5
  refine ((der_is b a false Tba.out) _).mono ?_
  rintro e w8 ⟨rfl, hb⟩
  have CA' : Box w8 (W.heap.size) a := Box.keep hb (by repeat (first | exact CA.out | exact Box.new _ a | exact Box.new_at (c := a) (by simp) | apply Box.alloc))
  clear CA
  have CA := Lib.hid CA'
  clear CA'
  have CB' : Box w8 ((W.heap.size + 1)) b := Box.keep hb (by repeat (first | exact CB.out | exact Box.new _ b | exact Box.new_at (c := b) (by simp) | apply Box.alloc))
  clear CB
  have CB := Lib.hid CB'
  clear CB'
  have CC' : Box w8 ((W.heap.size + 2)) c := Box.keep hb (by repeat (first | exact CC.out | exact Box.new _ c | exact Box.new_at (c := c) (by simp) | apply Box.alloc))
  clear CC
  have CC := Lib.hid CC'
  clear CC'
  have HB8 : Hid (Below W.heap.size W w8) := Lib.hid (below_then (by repeat (first | exact HB7.out | apply below_new | apply below_draws)) hb)
  clear hb HB7
  go_wp2_with fail
  refine (fixed_true _).mono ?_
  rintro e w9 ⟨rfl, hb⟩
  clear CA
  clear CB
  clear CC
  have HB9 : Hid (Below W.heap.size W w9) := Lib.hid (below_then (by repeat (first | exact HB8.out | apply below_new | apply below_draws)) hb)
  clear hb HB8
  go_wp2_with fail
  go_ret
  exact ⟨rfl, (by repeat (first | exact HB9.out | apply below_new | apply below_draws))⟩

set_option maxRecDepth 100000 in
set_option maxHeartbeats 3200000 in
theorem capsOrder_bc_allza (a b c : Cp) (ga : Word a.g) (gb : Word b.g) (gc : Word c.g) (oka : a.Ok) (okb : b.Ok) (okc : c.Ok) (tab : derB a b = true) (tbc : derB b c = true) (tac : derB a c = true) (tba : derB b a = true) (fk : (a.k == b.k) = true) (fo : (a.o == b.o) = true) (fr : (a.r == b.r) = true) (fb : ((a.b : Int) == (b.b : Int)) = false) (az : ((a.b : Int) == 0) = true) (W : World) :
    Calls Try.prog 10 #[(.agg #[.int .i64 a.k, .int .i64 a.o, .int .i64 a.r, .int .u64 a.b, .int .u64 a.g, .int .i64 a.n]), (.agg #[.int .i64 b.k, .int .i64 b.o, .int .i64 b.r, .int .u64 b.b, .int .u64 b.g, .int .i64 b.n]), (.agg #[.int .i64 c.k, .int .i64 c.o, .int .i64 c.r, .int .u64 c.b, .int .u64 c.g, .int .i64 c.n])] W fun e w' => e = .returned (.bool true) ∧ Below W.heap.size W w' := by
  have OKA := Lib.hid oka
  clear oka
  have OKB := Lib.hid okb
  clear okb
  have OKC := Lib.hid okc
  clear okc
  have Tab := Lib.hid tab
  clear tab
  have Tbc := Lib.hid tbc
  clear tbc
  have Tac := Lib.hid tac
  clear tac
  have Tba := Lib.hid tba
  clear tba
  go_enter Try.func10, Try.ntmps10
  go_wp2_with fail
  refine ((rchk_is a ga OKA.out) _).mono ?_
  rintro e w1 ⟨rfl, hb⟩
  have CA' : Box w1 (W.heap.size) a := Box.keep hb (by repeat (first | fail | exact Box.new _ a | exact Box.new_at (c := a) (by simp) | apply Box.alloc))
  have CA := Lib.hid CA'
  clear CA'
  have CB' : Box w1 ((W.heap.size + 1)) b := Box.keep hb (by repeat (first | fail | exact Box.new _ b | exact Box.new_at (c := b) (by simp) | apply Box.alloc))
  have CB := Lib.hid CB'
  clear CB'
  have CC' : Box w1 ((W.heap.size + 2)) c := Box.keep hb (by repeat (first | fail | exact Box.new _ c | exact Box.new_at (c := c) (by simp) | apply Box.alloc))
  have CC := Lib.hid CC'
  clear CC'
  have HB1 : Hid (Below W.heap.size W w1) := Lib.hid (below_then (by repeat (first | exact (Below.refl _ _) | apply below_new | apply below_draws)) hb)
  clear hb
  obtain ⟨zCB, cCB0, cCB1, cCB2, cCB3, cCB4, cCB5⟩ := CB.out
  have nCB : ¬ (W.heap.size + 1) = w1.heap.size := by omega
  go_wp2_with fail
  clear zCB nCB cCB0 cCB1 cCB2 cCB3 cCB4 cCB5
  refine ((rchk_is b gb OKB.out) _).mono ?_
  rintro e w2 ⟨rfl, hb⟩
  have CA' : Box w2 (W.heap.size) a := Box.keep hb (by repeat (first | exact CA.out | exact Box.new _ a | exact Box.new_at (c := a) (by simp) | apply Box.alloc))
  clear CA
  have CA := Lib.hid CA'
  clear CA'
  have CB' : Box w2 ((W.heap.size + 1)) b := Box.keep hb (by repeat (first | exact CB.out | exact Box.new _ b | exact Box.new_at (c := b) (by simp) | apply Box.alloc))
  clear CB
  have CB := Lib.hid CB'
  clear CB'
  have CC' : Box w2 ((W.heap.size + 2)) c := Box.keep hb (by repeat (first | exact CC.out | exact Box.new _ c | exact Box.new_at (c := c) (by simp) | apply Box.alloc))
  clear CC
  have CC := Lib.hid CC'
  clear CC'
  have HB2 : Hid (Below W.heap.size W w2) := Lib.hid (below_then (by repeat (first | exact HB1.out | apply below_new | apply below_draws)) hb)
  clear hb HB1
  obtain ⟨zCC, cCC0, cCC1, cCC2, cCC3, cCC4, cCC5⟩ := CC.out
  have nCC : ¬ (W.heap.size + 2) = w2.heap.size := by omega
  go_wp2_with fail
  clear zCC nCC cCC0 cCC1 cCC2 cCC3 cCC4 cCC5
  refine ((rchk_is c gc OKC.out) _).mono ?_
  rintro e w3 ⟨rfl, hb⟩
  have CA' : Box w3 (W.heap.size) a := Box.keep hb (by repeat (first | exact CA.out | exact Box.new _ a | exact Box.new_at (c := a) (by simp) | apply Box.alloc))
  clear CA
  have CA := Lib.hid CA'
  clear CA'
  have CB' : Box w3 ((W.heap.size + 1)) b := Box.keep hb (by repeat (first | exact CB.out | exact Box.new _ b | exact Box.new_at (c := b) (by simp) | apply Box.alloc))
  clear CB
  have CB := Lib.hid CB'
  clear CB'
  have CC' : Box w3 ((W.heap.size + 2)) c := Box.keep hb (by repeat (first | exact CC.out | exact Box.new _ c | exact Box.new_at (c := c) (by simp) | apply Box.alloc))
  clear CC
  have CC := Lib.hid CC'
  clear CC'
  have HB3 : Hid (Below W.heap.size W w3) := Lib.hid (below_then (by repeat (first | exact HB2.out | apply below_new | apply below_draws)) hb)
  clear hb HB2
  obtain ⟨zCA, cCA0, cCA1, cCA2, cCA3, cCA4, cCA5⟩ := CA.out
  have nCA : ¬ W.heap.size = w3.heap.size := by omega
  obtain ⟨zCB, cCB0, cCB1, cCB2, cCB3, cCB4, cCB5⟩ := CB.out
  have nCB : ¬ (W.heap.size + 1) = w3.heap.size := by omega
  go_wp2_with fail
  clear zCA nCA cCA0 cCA1 cCA2 cCA3 cCA4 cCA5
  clear zCB nCB cCB0 cCB1 cCB2 cCB3 cCB4 cCB5
  refine ((der_is a b true Tab.out) _).mono ?_
  rintro e w4 ⟨rfl, hb⟩
  have CA' : Box w4 (W.heap.size) a := Box.keep hb (by repeat (first | exact CA.out | exact Box.new _ a | exact Box.new_at (c := a) (by simp) | apply Box.alloc))
  clear CA
  have CA := Lib.hid CA'
  clear CA'
  have CB' : Box w4 ((W.heap.size + 1)) b := Box.keep hb (by repeat (first | exact CB.out | exact Box.new _ b | exact Box.new_at (c := b) (by simp) | apply Box.alloc))
  clear CB
  have CB := Lib.hid CB'
  clear CB'
  have CC' : Box w4 ((W.heap.size + 2)) c := Box.keep hb (by repeat (first | exact CC.out | exact Box.new _ c | exact Box.new_at (c := c) (by simp) | apply Box.alloc))
  clear CC
  have CC := Lib.hid CC'
  clear CC'
  have HB4 : Hid (Below W.heap.size W w4) := Lib.hid (below_then (by repeat (first | exact HB3.out | apply below_new | apply below_draws)) hb)
  clear hb HB3
  obtain ⟨zCB, cCB0, cCB1, cCB2, cCB3, cCB4, cCB5⟩ := CB.out
  have nCB : ¬ (W.heap.size + 1) = w4.heap.size := by omega
  obtain ⟨zCC, cCC0, cCC1, cCC2, cCC3, cCC4, cCC5⟩ := CC.out
  have nCC : ¬ (W.heap.size + 2) = w4.heap.size := by omega
  go_wp2_with fail
  clear zCB nCB cCB0 cCB1 cCB2 cCB3 cCB4 cCB5
  clear zCC nCC cCC0 cCC1 cCC2 cCC3 cCC4 cCC5
  refine ((der_is b c true Tbc.out) _).mono ?_
  rintro e w5 ⟨rfl, hb⟩
  have CA' : Box w5 (W.heap.size) a := Box.keep hb (by repeat (first | exact CA.out | exact Box.new _ a | exact Box.new_at (c := a) (by simp) | apply Box.alloc))
  clear CA
  have CA := Lib.hid CA'
  clear CA'
  have CB' : Box w5 ((W.heap.size + 1)) b := Box.keep hb (by repeat (first | exact CB.out | exact Box.new _ b | exact Box.new_at (c := b) (by simp) | apply Box.alloc))
  clear CB
  have CB := Lib.hid CB'
  clear CB'
  have CC' : Box w5 ((W.heap.size + 2)) c := Box.keep hb (by repeat (first | exact CC.out | exact Box.new _ c | exact Box.new_at (c := c) (by simp) | apply Box.alloc))
  clear CC
  have CC := Lib.hid CC'
  clear CC'
  have HB5 : Hid (Below W.heap.size W w5) := Lib.hid (below_then (by repeat (first | exact HB4.out | apply below_new | apply below_draws)) hb)
  clear hb HB4
  obtain ⟨zCA, cCA0, cCA1, cCA2, cCA3, cCA4, cCA5⟩ := CA.out
  have nCA : ¬ W.heap.size = w5.heap.size := by omega
  obtain ⟨zCC, cCC0, cCC1, cCC2, cCC3, cCC4, cCC5⟩ := CC.out
  have nCC : ¬ (W.heap.size + 2) = w5.heap.size := by omega
  go_wp2_with fail
  clear zCA nCA cCA0 cCA1 cCA2 cCA3 cCA4 cCA5
  clear zCC nCC cCC0 cCC1 cCC2 cCC3 cCC4 cCC5
  refine ((der_is a c true Tac.out) _).mono ?_
  rintro e w6 ⟨rfl, hb⟩
  have CA' : Box w6 (W.heap.size) a := Box.keep hb (by repeat (first | exact CA.out | exact Box.new _ a | exact Box.new_at (c := a) (by simp) | apply Box.alloc))
  clear CA
  have CA := Lib.hid CA'
  clear CA'
  have CB' : Box w6 ((W.heap.size + 1)) b := Box.keep hb (by repeat (first | exact CB.out | exact Box.new _ b | exact Box.new_at (c := b) (by simp) | apply Box.alloc))
  clear CB
  have CB := Lib.hid CB'
  clear CB'
  have CC' : Box w6 ((W.heap.size + 2)) c := Box.keep hb (by repeat (first | exact CC.out | exact Box.new _ c | exact Box.new_at (c := c) (by simp) | apply Box.alloc))
  clear CC
  have CC := Lib.hid CC'
  clear CC'
  have HB6 : Hid (Below W.heap.size W w6) := Lib.hid (below_then (by repeat (first | exact HB5.out | apply below_new | apply below_draws)) hb)
  clear hb HB5
  obtain ⟨zCA, cCA0, cCA1, cCA2, cCA3, cCA4, cCA5⟩ := CA.out
  have nCA : ¬ W.heap.size = w6.heap.size := by omega
  obtain ⟨zCB, cCB0, cCB1, cCB2, cCB3, cCB4, cCB5⟩ := CB.out
  have nCB : ¬ (W.heap.size + 1) = w6.heap.size := by omega
  go_wp2_with fail
  clear zCA nCA cCA0 cCA1 cCA2 cCA3 cCA4 cCA5
  clear zCB nCB cCB0 cCB1 cCB2 cCB3 cCB4 cCB5
  refine ((der_is a b true Tab.out) _).mono ?_
  rintro e w7 ⟨rfl, hb⟩
  have CA' : Box w7 (W.heap.size) a := Box.keep hb (by repeat (first | exact CA.out | exact Box.new _ a | exact Box.new_at (c := a) (by simp) | apply Box.alloc))
  clear CA
  have CA := Lib.hid CA'
  clear CA'
  have CB' : Box w7 ((W.heap.size + 1)) b := Box.keep hb (by repeat (first | exact CB.out | exact Box.new _ b | exact Box.new_at (c := b) (by simp) | apply Box.alloc))
  clear CB
  have CB := Lib.hid CB'
  clear CB'
  have CC' : Box w7 ((W.heap.size + 2)) c := Box.keep hb (by repeat (first | exact CC.out | exact Box.new _ c | exact Box.new_at (c := c) (by simp) | apply Box.alloc))
  clear CC
  have CC := Lib.hid CC'
  clear CC'
  have HB7 : Hid (Below W.heap.size W w7) := Lib.hid (below_then (by repeat (first | exact HB6.out | apply below_new | apply below_draws)) hb)
  clear hb HB6
  obtain ⟨zCB, cCB0, cCB1, cCB2, cCB3, cCB4, cCB5⟩ := CB.out
  have nCB : ¬ (W.heap.size + 1) = w7.heap.size := by omega
  obtain ⟨zCA, cCA0, cCA1, cCA2, cCA3, cCA4, cCA5⟩ := CA.out
  have nCA : ¬ W.heap.size = w7.heap.size := by omega
  go_wp2_with fail
  clear zCB nCB cCB0 cCB1 cCB2 cCB3 cCB4 cCB5
  clear zCA nCA cCA0 cCA1 cCA2 cCA3 cCA4 cCA5
  refine ((der_is b a true Tba.out) _).mono ?_
  rintro e w8 ⟨rfl, hb⟩
  have CA' : Box w8 (W.heap.size) a := Box.keep hb (by repeat (first | exact CA.out | exact Box.new _ a | exact Box.new_at (c := a) (by simp) | apply Box.alloc))
  clear CA
  have CA := Lib.hid CA'
  clear CA'
  have CB' : Box w8 ((W.heap.size + 1)) b := Box.keep hb (by repeat (first | exact CB.out | exact Box.new _ b | exact Box.new_at (c := b) (by simp) | apply Box.alloc))
  clear CB
  have CB := Lib.hid CB'
  clear CB'
  have CC' : Box w8 ((W.heap.size + 2)) c := Box.keep hb (by repeat (first | exact CC.out | exact Box.new _ c | exact Box.new_at (c := c) (by simp) | apply Box.alloc))
  clear CC
  have CC := Lib.hid CC'
  clear CC'
  have HB8 : Hid (Below W.heap.size W w8) := Lib.hid (below_then (by repeat (first | exact HB7.out | apply below_new | apply below_draws)) hb)
  clear hb HB7
  obtain ⟨zCA, cCA0, cCA1, cCA2, cCA3, cCA4, cCA5⟩ := CA.out
  have nCA : ¬ W.heap.size = w8.heap.size := by omega
  obtain ⟨zCB, cCB0, cCB1, cCB2, cCB3, cCB4, cCB5⟩ := CB.out
  have nCB : ¬ (W.heap.size + 1) = w8.heap.size := by omega
  go_wp2_with fail
  clear zCA nCA cCA0 cCA1 cCA2 cCA3 cCA4 cCA5
  clear zCB nCB cCB0 cCB1 cCB2 cCB3 cCB4 cCB5
  refine (fixed_true _).mono ?_
  rintro e w9 ⟨rfl, hb⟩
  clear CA
  clear CB
  clear CC
  have HB9 : Hid (Below W.heap.size W w9) := Lib.hid (below_then (by repeat (first | exact HB8.out | apply below_new | apply below_draws)) hb)
  clear hb HB8
  go_wp2_with fail
  go_ret
  exact ⟨rfl, (by repeat (first | exact HB9.out | apply below_new | apply below_draws))⟩

set_option maxRecDepth 100000 in
set_option maxHeartbeats 3200000 in
theorem capsOrder_bc_allzb (a b c : Cp) (ga : Word a.g) (gb : Word b.g) (gc : Word c.g) (oka : a.Ok) (okb : b.Ok) (okc : c.Ok) (tab : derB a b = true) (tbc : derB b c = true) (tac : derB a c = true) (tba : derB b a = true) (fk : (a.k == b.k) = true) (fo : (a.o == b.o) = true) (fr : (a.r == b.r) = true) (fb : ((a.b : Int) == (b.b : Int)) = false) (az : ((a.b : Int) == 0) = false) (bz : ((b.b : Int) == 0) = true) (W : World) :
    Calls Try.prog 10 #[(.agg #[.int .i64 a.k, .int .i64 a.o, .int .i64 a.r, .int .u64 a.b, .int .u64 a.g, .int .i64 a.n]), (.agg #[.int .i64 b.k, .int .i64 b.o, .int .i64 b.r, .int .u64 b.b, .int .u64 b.g, .int .i64 b.n]), (.agg #[.int .i64 c.k, .int .i64 c.o, .int .i64 c.r, .int .u64 c.b, .int .u64 c.g, .int .i64 c.n])] W fun e w' => e = .returned (.bool true) ∧ Below W.heap.size W w' := by
  have OKA := Lib.hid oka
  clear oka
  have OKB := Lib.hid okb
  clear okb
  have OKC := Lib.hid okc
  clear okc
  have Tab := Lib.hid tab
  clear tab
  have Tbc := Lib.hid tbc
  clear tbc
  have Tac := Lib.hid tac
  clear tac
  have Tba := Lib.hid tba
  clear tba
  go_enter Try.func10, Try.ntmps10
  go_wp2_with fail
  refine ((rchk_is a ga OKA.out) _).mono ?_
  rintro e w1 ⟨rfl, hb⟩
  have CA' : Box w1 (W.heap.size) a := Box.keep hb (by repeat (first | fail | exact Box.new _ a | exact Box.new_at (c := a) (by simp) | apply Box.alloc))
  have CA := Lib.hid CA'
  clear CA'
  have CB' : Box w1 ((W.heap.size + 1)) b := Box.keep hb (by repeat (first | fail | exact Box.new _ b | exact Box.new_at (c := b) (by simp) | apply Box.alloc))
  have CB := Lib.hid CB'
  clear CB'
  have CC' : Box w1 ((W.heap.size + 2)) c := Box.keep hb (by repeat (first | fail | exact Box.new _ c | exact Box.new_at (c := c) (by simp) | apply Box.alloc))
  have CC := Lib.hid CC'
  clear CC'
  have HB1 : Hid (Below W.heap.size W w1) := Lib.hid (below_then (by repeat (first | exact (Below.refl _ _) | apply below_new | apply below_draws)) hb)
  clear hb
  obtain ⟨zCB, cCB0, cCB1, cCB2, cCB3, cCB4, cCB5⟩ := CB.out
  have nCB : ¬ (W.heap.size + 1) = w1.heap.size := by omega
  go_wp2_with fail
  clear zCB nCB cCB0 cCB1 cCB2 cCB3 cCB4 cCB5
  refine ((rchk_is b gb OKB.out) _).mono ?_
  rintro e w2 ⟨rfl, hb⟩
  have CA' : Box w2 (W.heap.size) a := Box.keep hb (by repeat (first | exact CA.out | exact Box.new _ a | exact Box.new_at (c := a) (by simp) | apply Box.alloc))
  clear CA
  have CA := Lib.hid CA'
  clear CA'
  have CB' : Box w2 ((W.heap.size + 1)) b := Box.keep hb (by repeat (first | exact CB.out | exact Box.new _ b | exact Box.new_at (c := b) (by simp) | apply Box.alloc))
  clear CB
  have CB := Lib.hid CB'
  clear CB'
  have CC' : Box w2 ((W.heap.size + 2)) c := Box.keep hb (by repeat (first | exact CC.out | exact Box.new _ c | exact Box.new_at (c := c) (by simp) | apply Box.alloc))
  clear CC
  have CC := Lib.hid CC'
  clear CC'
  have HB2 : Hid (Below W.heap.size W w2) := Lib.hid (below_then (by repeat (first | exact HB1.out | apply below_new | apply below_draws)) hb)
  clear hb HB1
  obtain ⟨zCC, cCC0, cCC1, cCC2, cCC3, cCC4, cCC5⟩ := CC.out
  have nCC : ¬ (W.heap.size + 2) = w2.heap.size := by omega
  go_wp2_with fail
  clear zCC nCC cCC0 cCC1 cCC2 cCC3 cCC4 cCC5
  refine ((rchk_is c gc OKC.out) _).mono ?_
  rintro e w3 ⟨rfl, hb⟩
  have CA' : Box w3 (W.heap.size) a := Box.keep hb (by repeat (first | exact CA.out | exact Box.new _ a | exact Box.new_at (c := a) (by simp) | apply Box.alloc))
  clear CA
  have CA := Lib.hid CA'
  clear CA'
  have CB' : Box w3 ((W.heap.size + 1)) b := Box.keep hb (by repeat (first | exact CB.out | exact Box.new _ b | exact Box.new_at (c := b) (by simp) | apply Box.alloc))
  clear CB
  have CB := Lib.hid CB'
  clear CB'
  have CC' : Box w3 ((W.heap.size + 2)) c := Box.keep hb (by repeat (first | exact CC.out | exact Box.new _ c | exact Box.new_at (c := c) (by simp) | apply Box.alloc))
  clear CC
  have CC := Lib.hid CC'
  clear CC'
  have HB3 : Hid (Below W.heap.size W w3) := Lib.hid (below_then (by repeat (first | exact HB2.out | apply below_new | apply below_draws)) hb)
  clear hb HB2
  obtain ⟨zCA, cCA0, cCA1, cCA2, cCA3, cCA4, cCA5⟩ := CA.out
  have nCA : ¬ W.heap.size = w3.heap.size := by omega
  obtain ⟨zCB, cCB0, cCB1, cCB2, cCB3, cCB4, cCB5⟩ := CB.out
  have nCB : ¬ (W.heap.size + 1) = w3.heap.size := by omega
  go_wp2_with fail
  clear zCA nCA cCA0 cCA1 cCA2 cCA3 cCA4 cCA5
  clear zCB nCB cCB0 cCB1 cCB2 cCB3 cCB4 cCB5
  refine ((der_is a b true Tab.out) _).mono ?_
  rintro e w4 ⟨rfl, hb⟩
  have CA' : Box w4 (W.heap.size) a := Box.keep hb (by repeat (first | exact CA.out | exact Box.new _ a | exact Box.new_at (c := a) (by simp) | apply Box.alloc))
  clear CA
  have CA := Lib.hid CA'
  clear CA'
  have CB' : Box w4 ((W.heap.size + 1)) b := Box.keep hb (by repeat (first | exact CB.out | exact Box.new _ b | exact Box.new_at (c := b) (by simp) | apply Box.alloc))
  clear CB
  have CB := Lib.hid CB'
  clear CB'
  have CC' : Box w4 ((W.heap.size + 2)) c := Box.keep hb (by repeat (first | exact CC.out | exact Box.new _ c | exact Box.new_at (c := c) (by simp) | apply Box.alloc))
  clear CC
  have CC := Lib.hid CC'
  clear CC'
  have HB4 : Hid (Below W.heap.size W w4) := Lib.hid (below_then (by repeat (first | exact HB3.out | apply below_new | apply below_draws)) hb)
  clear hb HB3
  obtain ⟨zCB, cCB0, cCB1, cCB2, cCB3, cCB4, cCB5⟩ := CB.out
  have nCB : ¬ (W.heap.size + 1) = w4.heap.size := by omega
  obtain ⟨zCC, cCC0, cCC1, cCC2, cCC3, cCC4, cCC5⟩ := CC.out
  have nCC : ¬ (W.heap.size + 2) = w4.heap.size := by omega
  go_wp2_with fail
  clear zCB nCB cCB0 cCB1 cCB2 cCB3 cCB4 cCB5
  clear zCC nCC cCC0 cCC1 cCC2 cCC3 cCC4 cCC5
  refine ((der_is b c true Tbc.out) _).mono ?_
  rintro e w5 ⟨rfl, hb⟩
  have CA' : Box w5 (W.heap.size) a := Box.keep hb (by repeat (first | exact CA.out | exact Box.new _ a | exact Box.new_at (c := a) (by simp) | apply Box.alloc))
  clear CA
  have CA := Lib.hid CA'
  clear CA'
  have CB' : Box w5 ((W.heap.size + 1)) b := Box.keep hb (by repeat (first | exact CB.out | exact Box.new _ b | exact Box.new_at (c := b) (by simp) | apply Box.alloc))
  clear CB
  have CB := Lib.hid CB'
  clear CB'
  have CC' : Box w5 ((W.heap.size + 2)) c := Box.keep hb (by repeat (first | exact CC.out | exact Box.new _ c | exact Box.new_at (c := c) (by simp) | apply Box.alloc))
  clear CC
  have CC := Lib.hid CC'
  clear CC'
  have HB5 : Hid (Below W.heap.size W w5) := Lib.hid (below_then (by repeat (first | exact HB4.out | apply below_new | apply below_draws)) hb)
  clear hb HB4
  obtain ⟨zCA, cCA0, cCA1, cCA2, cCA3, cCA4, cCA5⟩ := CA.out
  have nCA : ¬ W.heap.size = w5.heap.size := by omega
  obtain ⟨zCC, cCC0, cCC1, cCC2, cCC3, cCC4, cCC5⟩ := CC.out
  have nCC : ¬ (W.heap.size + 2) = w5.heap.size := by omega
  go_wp2_with fail
  clear zCA nCA cCA0 cCA1 cCA2 cCA3 cCA4 cCA5
  clear zCC nCC cCC0 cCC1 cCC2 cCC3 cCC4 cCC5
  refine ((der_is a c true Tac.out) _).mono ?_
  rintro e w6 ⟨rfl, hb⟩
  have CA' : Box w6 (W.heap.size) a := Box.keep hb (by repeat (first | exact CA.out | exact Box.new _ a | exact Box.new_at (c := a) (by simp) | apply Box.alloc))
  clear CA
  have CA := Lib.hid CA'
  clear CA'
  have CB' : Box w6 ((W.heap.size + 1)) b := Box.keep hb (by repeat (first | exact CB.out | exact Box.new _ b | exact Box.new_at (c := b) (by simp) | apply Box.alloc))
  clear CB
  have CB := Lib.hid CB'
  clear CB'
  have CC' : Box w6 ((W.heap.size + 2)) c := Box.keep hb (by repeat (first | exact CC.out | exact Box.new _ c | exact Box.new_at (c := c) (by simp) | apply Box.alloc))
  clear CC
  have CC := Lib.hid CC'
  clear CC'
  have HB6 : Hid (Below W.heap.size W w6) := Lib.hid (below_then (by repeat (first | exact HB5.out | apply below_new | apply below_draws)) hb)
  clear hb HB5
  obtain ⟨zCA, cCA0, cCA1, cCA2, cCA3, cCA4, cCA5⟩ := CA.out
  have nCA : ¬ W.heap.size = w6.heap.size := by omega
  obtain ⟨zCB, cCB0, cCB1, cCB2, cCB3, cCB4, cCB5⟩ := CB.out
  have nCB : ¬ (W.heap.size + 1) = w6.heap.size := by omega
  go_wp2_with fail
  clear zCA nCA cCA0 cCA1 cCA2 cCA3 cCA4 cCA5
  clear zCB nCB cCB0 cCB1 cCB2 cCB3 cCB4 cCB5
  refine ((der_is a b true Tab.out) _).mono ?_
  rintro e w7 ⟨rfl, hb⟩
  have CA' : Box w7 (W.heap.size) a := Box.keep hb (by repeat (first | exact CA.out | exact Box.new _ a | exact Box.new_at (c := a) (by simp) | apply Box.alloc))
  clear CA
  have CA := Lib.hid CA'
  clear CA'
  have CB' : Box w7 ((W.heap.size + 1)) b := Box.keep hb (by repeat (first | exact CB.out | exact Box.new _ b | exact Box.new_at (c := b) (by simp) | apply Box.alloc))
  clear CB
  have CB := Lib.hid CB'
  clear CB'
  have CC' : Box w7 ((W.heap.size + 2)) c := Box.keep hb (by repeat (first | exact CC.out | exact Box.new _ c | exact Box.new_at (c := c) (by simp) | apply Box.alloc))
  clear CC
  have CC := Lib.hid CC'
  clear CC'
  have HB7 : Hid (Below W.heap.size W w7) := Lib.hid (below_then (by repeat (first | exact HB6.out | apply below_new | apply below_draws)) hb)
  clear hb HB6
  obtain ⟨zCB, cCB0, cCB1, cCB2, cCB3, cCB4, cCB5⟩ := CB.out
  have nCB : ¬ (W.heap.size + 1) = w7.heap.size := by omega
  obtain ⟨zCA, cCA0, cCA1, cCA2, cCA3, cCA4, cCA5⟩ := CA.out
  have nCA : ¬ W.heap.size = w7.heap.size := by omega
  go_wp2_with fail
  clear zCB nCB cCB0 cCB1 cCB2 cCB3 cCB4 cCB5
  clear zCA nCA cCA0 cCA1 cCA2 cCA3 cCA4 cCA5
  refine ((der_is b a true Tba.out) _).mono ?_
  rintro e w8 ⟨rfl, hb⟩
  have CA' : Box w8 (W.heap.size) a := Box.keep hb (by repeat (first | exact CA.out | exact Box.new _ a | exact Box.new_at (c := a) (by simp) | apply Box.alloc))
  clear CA
  have CA := Lib.hid CA'
  clear CA'
  have CB' : Box w8 ((W.heap.size + 1)) b := Box.keep hb (by repeat (first | exact CB.out | exact Box.new _ b | exact Box.new_at (c := b) (by simp) | apply Box.alloc))
  clear CB
  have CB := Lib.hid CB'
  clear CB'
  have CC' : Box w8 ((W.heap.size + 2)) c := Box.keep hb (by repeat (first | exact CC.out | exact Box.new _ c | exact Box.new_at (c := c) (by simp) | apply Box.alloc))
  clear CC
  have CC := Lib.hid CC'
  clear CC'
  have HB8 : Hid (Below W.heap.size W w8) := Lib.hid (below_then (by repeat (first | exact HB7.out | apply below_new | apply below_draws)) hb)
  clear hb HB7
  obtain ⟨zCA, cCA0, cCA1, cCA2, cCA3, cCA4, cCA5⟩ := CA.out
  have nCA : ¬ W.heap.size = w8.heap.size := by omega
  obtain ⟨zCB, cCB0, cCB1, cCB2, cCB3, cCB4, cCB5⟩ := CB.out
  have nCB : ¬ (W.heap.size + 1) = w8.heap.size := by omega
  go_wp2_with fail
  clear zCA nCA cCA0 cCA1 cCA2 cCA3 cCA4 cCA5
  clear zCB nCB cCB0 cCB1 cCB2 cCB3 cCB4 cCB5
  refine (fixed_true _).mono ?_
  rintro e w9 ⟨rfl, hb⟩
  clear CA
  clear CB
  clear CC
  have HB9 : Hid (Below W.heap.size W w9) := Lib.hid (below_then (by repeat (first | exact HB8.out | apply below_new | apply below_draws)) hb)
  clear hb HB8
  go_wp2_with fail
  go_ret
  exact ⟨rfl, (by repeat (first | exact HB9.out | apply below_new | apply below_draws))⟩

set_option maxRecDepth 100000 in
set_option maxHeartbeats 3200000 in
theorem capsOrder_bc_allsame (a b c : Cp) (ga : Word a.g) (gb : Word b.g) (gc : Word c.g) (oka : a.Ok) (okb : b.Ok) (okc : c.Ok) (tab : derB a b = true) (tbc : derB b c = true) (tac : derB a c = true) (tba : derB b a = true) (fk : (a.k == b.k) = true) (fo : (a.o == b.o) = true) (fr : (a.r == b.r) = true) (fb : ((a.b : Int) == (b.b : Int)) = true) (W : World) :
    Calls Try.prog 10 #[(.agg #[.int .i64 a.k, .int .i64 a.o, .int .i64 a.r, .int .u64 a.b, .int .u64 a.g, .int .i64 a.n]), (.agg #[.int .i64 b.k, .int .i64 b.o, .int .i64 b.r, .int .u64 b.b, .int .u64 b.g, .int .i64 b.n]), (.agg #[.int .i64 c.k, .int .i64 c.o, .int .i64 c.r, .int .u64 c.b, .int .u64 c.g, .int .i64 c.n])] W fun e w' => e = .returned (.bool true) ∧ Below W.heap.size W w' := by
  have OKA := Lib.hid oka
  clear oka
  have OKB := Lib.hid okb
  clear okb
  have OKC := Lib.hid okc
  clear okc
  have Tab := Lib.hid tab
  clear tab
  have Tbc := Lib.hid tbc
  clear tbc
  have Tac := Lib.hid tac
  clear tac
  have Tba := Lib.hid tba
  clear tba
  go_enter Try.func10, Try.ntmps10
  go_wp2_with fail
  refine ((rchk_is a ga OKA.out) _).mono ?_
  rintro e w1 ⟨rfl, hb⟩
  have CA' : Box w1 (W.heap.size) a := Box.keep hb (by repeat (first | fail | exact Box.new _ a | exact Box.new_at (c := a) (by simp) | apply Box.alloc))
  have CA := Lib.hid CA'
  clear CA'
  have CB' : Box w1 ((W.heap.size + 1)) b := Box.keep hb (by repeat (first | fail | exact Box.new _ b | exact Box.new_at (c := b) (by simp) | apply Box.alloc))
  have CB := Lib.hid CB'
  clear CB'
  have CC' : Box w1 ((W.heap.size + 2)) c := Box.keep hb (by repeat (first | fail | exact Box.new _ c | exact Box.new_at (c := c) (by simp) | apply Box.alloc))
  have CC := Lib.hid CC'
  clear CC'
  have HB1 : Hid (Below W.heap.size W w1) := Lib.hid (below_then (by repeat (first | exact (Below.refl _ _) | apply below_new | apply below_draws)) hb)
  clear hb
  obtain ⟨zCB, cCB0, cCB1, cCB2, cCB3, cCB4, cCB5⟩ := CB.out
  have nCB : ¬ (W.heap.size + 1) = w1.heap.size := by omega
  go_wp2_with fail
  clear zCB nCB cCB0 cCB1 cCB2 cCB3 cCB4 cCB5
  refine ((rchk_is b gb OKB.out) _).mono ?_
  rintro e w2 ⟨rfl, hb⟩
  have CA' : Box w2 (W.heap.size) a := Box.keep hb (by repeat (first | exact CA.out | exact Box.new _ a | exact Box.new_at (c := a) (by simp) | apply Box.alloc))
  clear CA
  have CA := Lib.hid CA'
  clear CA'
  have CB' : Box w2 ((W.heap.size + 1)) b := Box.keep hb (by repeat (first | exact CB.out | exact Box.new _ b | exact Box.new_at (c := b) (by simp) | apply Box.alloc))
  clear CB
  have CB := Lib.hid CB'
  clear CB'
  have CC' : Box w2 ((W.heap.size + 2)) c := Box.keep hb (by repeat (first | exact CC.out | exact Box.new _ c | exact Box.new_at (c := c) (by simp) | apply Box.alloc))
  clear CC
  have CC := Lib.hid CC'
  clear CC'
  have HB2 : Hid (Below W.heap.size W w2) := Lib.hid (below_then (by repeat (first | exact HB1.out | apply below_new | apply below_draws)) hb)
  clear hb HB1
  obtain ⟨zCC, cCC0, cCC1, cCC2, cCC3, cCC4, cCC5⟩ := CC.out
  have nCC : ¬ (W.heap.size + 2) = w2.heap.size := by omega
  go_wp2_with fail
  clear zCC nCC cCC0 cCC1 cCC2 cCC3 cCC4 cCC5
  refine ((rchk_is c gc OKC.out) _).mono ?_
  rintro e w3 ⟨rfl, hb⟩
  have CA' : Box w3 (W.heap.size) a := Box.keep hb (by repeat (first | exact CA.out | exact Box.new _ a | exact Box.new_at (c := a) (by simp) | apply Box.alloc))
  clear CA
  have CA := Lib.hid CA'
  clear CA'
  have CB' : Box w3 ((W.heap.size + 1)) b := Box.keep hb (by repeat (first | exact CB.out | exact Box.new _ b | exact Box.new_at (c := b) (by simp) | apply Box.alloc))
  clear CB
  have CB := Lib.hid CB'
  clear CB'
  have CC' : Box w3 ((W.heap.size + 2)) c := Box.keep hb (by repeat (first | exact CC.out | exact Box.new _ c | exact Box.new_at (c := c) (by simp) | apply Box.alloc))
  clear CC
  have CC := Lib.hid CC'
  clear CC'
  have HB3 : Hid (Below W.heap.size W w3) := Lib.hid (below_then (by repeat (first | exact HB2.out | apply below_new | apply below_draws)) hb)
  clear hb HB2
  obtain ⟨zCA, cCA0, cCA1, cCA2, cCA3, cCA4, cCA5⟩ := CA.out
  have nCA : ¬ W.heap.size = w3.heap.size := by omega
  obtain ⟨zCB, cCB0, cCB1, cCB2, cCB3, cCB4, cCB5⟩ := CB.out
  have nCB : ¬ (W.heap.size + 1) = w3.heap.size := by omega
  go_wp2_with fail
  clear zCA nCA cCA0 cCA1 cCA2 cCA3 cCA4 cCA5
  clear zCB nCB cCB0 cCB1 cCB2 cCB3 cCB4 cCB5
  refine ((der_is a b true Tab.out) _).mono ?_
  rintro e w4 ⟨rfl, hb⟩
  have CA' : Box w4 (W.heap.size) a := Box.keep hb (by repeat (first | exact CA.out | exact Box.new _ a | exact Box.new_at (c := a) (by simp) | apply Box.alloc))
  clear CA
  have CA := Lib.hid CA'
  clear CA'
  have CB' : Box w4 ((W.heap.size + 1)) b := Box.keep hb (by repeat (first | exact CB.out | exact Box.new _ b | exact Box.new_at (c := b) (by simp) | apply Box.alloc))
  clear CB
  have CB := Lib.hid CB'
  clear CB'
  have CC' : Box w4 ((W.heap.size + 2)) c := Box.keep hb (by repeat (first | exact CC.out | exact Box.new _ c | exact Box.new_at (c := c) (by simp) | apply Box.alloc))
  clear CC
  have CC := Lib.hid CC'
  clear CC'
  have HB4 : Hid (Below W.heap.size W w4) := Lib.hid (below_then (by repeat (first | exact HB3.out | apply below_new | apply below_draws)) hb)
  clear hb HB3
  obtain ⟨zCB, cCB0, cCB1, cCB2, cCB3, cCB4, cCB5⟩ := CB.out
  have nCB : ¬ (W.heap.size + 1) = w4.heap.size := by omega
  obtain ⟨zCC, cCC0, cCC1, cCC2, cCC3, cCC4, cCC5⟩ := CC.out
  have nCC : ¬ (W.heap.size + 2) = w4.heap.size := by omega
  go_wp2_with fail
  clear zCB nCB cCB0 cCB1 cCB2 cCB3 cCB4 cCB5
  clear zCC nCC cCC0 cCC1 cCC2 cCC3 cCC4 cCC5
  refine ((der_is b c true Tbc.out) _).mono ?_
  rintro e w5 ⟨rfl, hb⟩
  have CA' : Box w5 (W.heap.size) a := Box.keep hb (by repeat (first | exact CA.out | exact Box.new _ a | exact Box.new_at (c := a) (by simp) | apply Box.alloc))
  clear CA
  have CA := Lib.hid CA'
  clear CA'
  have CB' : Box w5 ((W.heap.size + 1)) b := Box.keep hb (by repeat (first | exact CB.out | exact Box.new _ b | exact Box.new_at (c := b) (by simp) | apply Box.alloc))
  clear CB
  have CB := Lib.hid CB'
  clear CB'
  have CC' : Box w5 ((W.heap.size + 2)) c := Box.keep hb (by repeat (first | exact CC.out | exact Box.new _ c | exact Box.new_at (c := c) (by simp) | apply Box.alloc))
  clear CC
  have CC := Lib.hid CC'
  clear CC'
  have HB5 : Hid (Below W.heap.size W w5) := Lib.hid (below_then (by repeat (first | exact HB4.out | apply below_new | apply below_draws)) hb)
  clear hb HB4
  obtain ⟨zCA, cCA0, cCA1, cCA2, cCA3, cCA4, cCA5⟩ := CA.out
  have nCA : ¬ W.heap.size = w5.heap.size := by omega
  obtain ⟨zCC, cCC0, cCC1, cCC2, cCC3, cCC4, cCC5⟩ := CC.out
  have nCC : ¬ (W.heap.size + 2) = w5.heap.size := by omega
  go_wp2_with fail
  clear zCA nCA cCA0 cCA1 cCA2 cCA3 cCA4 cCA5
  clear zCC nCC cCC0 cCC1 cCC2 cCC3 cCC4 cCC5
  refine ((der_is a c true Tac.out) _).mono ?_
  rintro e w6 ⟨rfl, hb⟩
  have CA' : Box w6 (W.heap.size) a := Box.keep hb (by repeat (first | exact CA.out | exact Box.new _ a | exact Box.new_at (c := a) (by simp) | apply Box.alloc))
  clear CA
  have CA := Lib.hid CA'
  clear CA'
  have CB' : Box w6 ((W.heap.size + 1)) b := Box.keep hb (by repeat (first | exact CB.out | exact Box.new _ b | exact Box.new_at (c := b) (by simp) | apply Box.alloc))
  clear CB
  have CB := Lib.hid CB'
  clear CB'
  have CC' : Box w6 ((W.heap.size + 2)) c := Box.keep hb (by repeat (first | exact CC.out | exact Box.new _ c | exact Box.new_at (c := c) (by simp) | apply Box.alloc))
  clear CC
  have CC := Lib.hid CC'
  clear CC'
  have HB6 : Hid (Below W.heap.size W w6) := Lib.hid (below_then (by repeat (first | exact HB5.out | apply below_new | apply below_draws)) hb)
  clear hb HB5
  obtain ⟨zCA, cCA0, cCA1, cCA2, cCA3, cCA4, cCA5⟩ := CA.out
  have nCA : ¬ W.heap.size = w6.heap.size := by omega
  obtain ⟨zCB, cCB0, cCB1, cCB2, cCB3, cCB4, cCB5⟩ := CB.out
  have nCB : ¬ (W.heap.size + 1) = w6.heap.size := by omega
  go_wp2_with fail
  clear zCA nCA cCA0 cCA1 cCA2 cCA3 cCA4 cCA5
  clear zCB nCB cCB0 cCB1 cCB2 cCB3 cCB4 cCB5
  refine ((der_is a b true Tab.out) _).mono ?_
  rintro e w7 ⟨rfl, hb⟩
  have CA' : Box w7 (W.heap.size) a := Box.keep hb (by repeat (first | exact CA.out | exact Box.new _ a | exact Box.new_at (c := a) (by simp) | apply Box.alloc))
  clear CA
  have CA := Lib.hid CA'
  clear CA'
  have CB' : Box w7 ((W.heap.size + 1)) b := Box.keep hb (by repeat (first | exact CB.out | exact Box.new _ b | exact Box.new_at (c := b) (by simp) | apply Box.alloc))
  clear CB
  have CB := Lib.hid CB'
  clear CB'
  have CC' : Box w7 ((W.heap.size + 2)) c := Box.keep hb (by repeat (first | exact CC.out | exact Box.new _ c | exact Box.new_at (c := c) (by simp) | apply Box.alloc))
  clear CC
  have CC := Lib.hid CC'
  clear CC'
  have HB7 : Hid (Below W.heap.size W w7) := Lib.hid (below_then (by repeat (first | exact HB6.out | apply below_new | apply below_draws)) hb)
  clear hb HB6
  obtain ⟨zCB, cCB0, cCB1, cCB2, cCB3, cCB4, cCB5⟩ := CB.out
  have nCB : ¬ (W.heap.size + 1) = w7.heap.size := by omega
  obtain ⟨zCA, cCA0, cCA1, cCA2, cCA3, cCA4, cCA5⟩ := CA.out
  have nCA : ¬ W.heap.size = w7.heap.size := by omega
  go_wp2_with fail
  clear zCB nCB cCB0 cCB1 cCB2 cCB3 cCB4 cCB5
  clear zCA nCA cCA0 cCA1 cCA2 cCA3 cCA4 cCA5
  refine ((der_is b a true Tba.out) _).mono ?_
  rintro e w8 ⟨rfl, hb⟩
  have CA' : Box w8 (W.heap.size) a := Box.keep hb (by repeat (first | exact CA.out | exact Box.new _ a | exact Box.new_at (c := a) (by simp) | apply Box.alloc))
  clear CA
  have CA := Lib.hid CA'
  clear CA'
  have CB' : Box w8 ((W.heap.size + 1)) b := Box.keep hb (by repeat (first | exact CB.out | exact Box.new _ b | exact Box.new_at (c := b) (by simp) | apply Box.alloc))
  clear CB
  have CB := Lib.hid CB'
  clear CB'
  have CC' : Box w8 ((W.heap.size + 2)) c := Box.keep hb (by repeat (first | exact CC.out | exact Box.new _ c | exact Box.new_at (c := c) (by simp) | apply Box.alloc))
  clear CC
  have CC := Lib.hid CC'
  clear CC'
  have HB8 : Hid (Below W.heap.size W w8) := Lib.hid (below_then (by repeat (first | exact HB7.out | apply below_new | apply below_draws)) hb)
  clear hb HB7
  obtain ⟨zCA, cCA0, cCA1, cCA2, cCA3, cCA4, cCA5⟩ := CA.out
  have nCA : ¬ W.heap.size = w8.heap.size := by omega
  obtain ⟨zCB, cCB0, cCB1, cCB2, cCB3, cCB4, cCB5⟩ := CB.out
  have nCB : ¬ (W.heap.size + 1) = w8.heap.size := by omega
  go_wp2_with fail
  clear zCA nCA cCA0 cCA1 cCA2 cCA3 cCA4 cCA5
  clear zCB nCB cCB0 cCB1 cCB2 cCB3 cCB4 cCB5
  refine (fixed_true _).mono ?_
  rintro e w9 ⟨rfl, hb⟩
  clear CA
  clear CB
  clear CC
  have HB9 : Hid (Below W.heap.size W w9) := Lib.hid (below_then (by repeat (first | exact HB8.out | apply below_new | apply below_draws)) hb)
  clear hb HB8
  go_wp2_with fail
  go_ret
  exact ⟨rfl, (by repeat (first | exact HB9.out | apply below_new | apply below_draws))⟩

theorem capsOrder_walk (a b c : Cp) (ga : Word a.g) (gb : Word b.g) (gc : Word c.g) (W : World) :
    Calls Try.prog 10 #[(.agg #[.int .i64 a.k, .int .i64 a.o, .int .i64 a.r, .int .u64 a.b, .int .u64 a.g, .int .i64 a.n]), (.agg #[.int .i64 b.k, .int .i64 b.o, .int .i64 b.r, .int .u64 b.b, .int .u64 b.g, .int .i64 b.n]), (.agg #[.int .i64 c.k, .int .i64 c.o, .int .i64 c.r, .int .u64 c.b, .int .u64 c.g, .int .i64 c.n])] W fun e w' => e = .returned (.bool true) ∧ Below W.heap.size W w' := by
  by_cases oka : a.Ok
  · by_cases okb : b.Ok
    · by_cases okc : c.Ok
      · cases tab : derB a b
        · exact capsOrder_n a b c ga gb gc oka okb okc tab W
        · cases tba : derB b a
          · cases tbc : derB b c
            · exact capsOrder_bcn_ba a b c ga gb gc oka okb okc tab tbc tba W
            · exact capsOrder_bc_ba a b c ga gb gc oka okb okc tab tbc (der_trans (ok_rig oka) (ok_rig okb) (ok_rig okc) tab tbc) tba W
          · obtain ⟨e1, e2, e3, e4⟩ := order_anti oka okb tab tba
            have fk : (a.k == b.k) = true := by simp [e1]
            have fo : (a.o == b.o) = true := by simp [e2]
            have fr : (a.r == b.r) = true := by simp [e3]
            by_cases fb : a.b = b.b
            · have fb' : ((a.b : Int) == (b.b : Int)) = true := by simp [fb]
              cases tbc : derB b c
              · exact capsOrder_bcn_allsame a b c ga gb gc oka okb okc tab tbc tba fk fo fr fb' W
              · exact capsOrder_bc_allsame a b c ga gb gc oka okb okc tab tbc (der_trans (ok_rig oka) (ok_rig okb) (ok_rig okc) tab tbc) tba fk fo fr fb' W
            · have fb' : ((a.b : Int) == (b.b : Int)) = false := by simp; omega
              by_cases az : a.b = 0
              · have az' : ((a.b : Int) == 0) = true := by simp [az]
                cases tbc : derB b c
                · exact capsOrder_bcn_allza a b c ga gb gc oka okb okc tab tbc tba fk fo fr fb' az' W
                · exact capsOrder_bc_allza a b c ga gb gc oka okb okc tab tbc (der_trans (ok_rig oka) (ok_rig okb) (ok_rig okc) tab tbc) tba fk fo fr fb' az' W
              · have az' : ((a.b : Int) == 0) = false := by simp; omega
                have bz' : ((b.b : Int) == 0) = true := by
                  rcases e4 with e | e | e
                  · exact absurd e fb
                  · exact absurd e az
                  · simp [e]
                cases tbc : derB b c
                · exact capsOrder_bcn_allzb a b c ga gb gc oka okb okc tab tbc tba fk fo fr fb' az' bz' W
                · exact capsOrder_bc_allzb a b c ga gb gc oka okb okc tab tbc (der_trans (ok_rig oka) (ok_rig okb) (ok_rig okc) tab tbc) tba fk fo fr fb' az' bz' W
      · exact capsOrder_no3 a b c ga gb gc oka okb okc W
    · exact capsOrder_no2 a b c ga gb gc oka okb W
  · exact capsOrder_no1 a b c ga gb gc oka W


set_option maxRecDepth 100000 in
theorem capsOrder_lifted (os : Os) (started : os.Started) (H : Type) (enc : TypeId × Value → H) :
    ReturnsInHanded {} Try.checked os 10 .any (Rows.capsOrderSpec.pre6 enc Try.prog Try.f10 Rows.capsOrderRow.domain false) (Rows.capsOrderSpec.post enc Try.prog Try.f10 false true false false) := by
  refine returnsInHanded_of_change (C := Try.checked) own_knob started (by kernel_rfl) Try.func10
    (ChangeSpec.witness6 (enc := enc) (C := Try.checked) false ⟨#[], #[.agg #[.int .i64 0, .int .i64 0, .int .i64 0, .int .u64 0, .int .u64 0, .int .i64 0], .agg #[.int .i64 0, .int .i64 0, .int .i64 0, .int .u64 0, .int .u64 0, .int .i64 0], .agg #[.int .i64 0, .int .i64 0, .int .i64 0, .int .u64 0, .int .u64 0, .int .i64 0]], []⟩ 8 (by kernel_rfl) (by kernel_rfl) (by kernel_rfl) (by kernel_rfl)) ?_
  intro W base args ds gs before hval0 hW hcnd _
  have hval : ∀ (j : Nat) t v, Try.f10.params[j]? = some t → args[j]? = some v → Value.okWide Try.prog W .any base t v := hval0
  have hW' := hW
  obtain ⟨p, q, hA0, hV, rfl, hfz, hnd⟩ := hW
  have hA : DataW.TrodAll enc Try.prog W 0 (fun _ => true) true Try.f10.params.toList args.toList ds p := hA0
  rw [Try.params10] at hA hval
  obtain ⟨v0, v1, v2, d0, d1, d2, p0, p1, p2, rfl, rfl, rfl, h0, h1, h2⟩ := trodAll_three hA
  obtain ⟨rfl, rfl⟩ := trodVars_none hV
  clear hA0 hval0
  simp only [List.append_nil] at hW'
  have hlt : ∀ x ∈ p0 ++ p1 ++ p2, x.block < W.heap.size := fun x hx => by simpa using hW'.lt x hx
  have g0 : ∀ W' : World, Below W.heap.size W W' → DataW.Trod enc Try.prog W' 0 (fun b => decide (b < W.heap.size)) true 24 v0 d0 p0 :=
    fun W' hn => Below.trod laid_out (by kernel_rfl) (of_decide_eq_true (by kernel_rfl)) h0 hn (fun x hx => hlt x (by simp [hx]))
  have g1 : ∀ W' : World, Below W.heap.size W W' → DataW.Trod enc Try.prog W' 0 (fun b => decide (b < W.heap.size)) true 24 v1 d1 p1 :=
    fun W' hn => Below.trod laid_out (by kernel_rfl) (of_decide_eq_true (by kernel_rfl)) h1 hn (fun x hx => hlt x (by simp [hx]))
  have g2 : ∀ W' : World, Below W.heap.size W W' → DataW.Trod enc Try.prog W' 0 (fun b => decide (b < W.heap.size)) true 24 v2 d2 p2 :=
    fun W' hn => Below.trod laid_out (by kernel_rfl) (of_decide_eq_true (by kernel_rfl)) h2 hn (fun x hx => hlt x (by simp [hx]))
  obtain ⟨a, rfl, l0b, l0g⟩ := open_cap (hval 0 24 v0 rfl rfl) h0
  obtain ⟨b, rfl, l1b, l1g⟩ := open_cap (hval 1 24 v1 rfl rfl) h1
  obtain ⟨c, rfl, l2b, l2g⟩ := open_cap (hval 2 24 v2 rfl rfl) h2
  refine (capsOrder_walk a b c l0g l1g l2g W).mono fun e W' ⟨he, hn⟩ => ?_
  subst he
  exact ⟨_, rfl, _, _, _, [], p0 ++ p1 ++ p2, [], hW', trodAll_mk1 (shut_bool Try.underlying4 true), (by rw [List.append_assoc p0 p1 p2]; exact trodAll_mk3 (g0 W' hn) (g1 W' hn) (g2 W' hn)), rfl, hn.frame _, fun h => by cases h⟩

theorem capsOrder_holds : Rows.CapsOrderSaid :=
  OpenClaim.holds_of_wide 10 Try.f10 rfl rfl rfl rfl rfl rfl rfl ⟨rfl, rfl, rfl, rfl, rfl⟩ rfl rfl rfl rfl rfl (by kernel_rfl) Try.func10 (by kernel_rfl)
    (of_decide_eq_true (by kernel_rfl)) (by unfold Func.isWrapper; first | (rw [if_pos (by decide +kernel)]; kernel_rfl) | (rw [if_neg (by decide +kernel)]; exact ⟨rfl, rfl⟩))
    (fun os started H enc _ => capsOrder_lifted os started H enc)
#print axioms capsOrder_holds
end Go.Proofs.Ythgiofgedeijoaa
