/- Contracts of laid and Pack over the translation, the program's. -/
import Derived.Test.YthgiofgedeijoaaCmint
import Derived.Test.YthgiofgedeijoaaCpmath
set_option linter.unusedVariables false
set_option linter.unusedSimpArgs false
namespace Go.Proofs.Ythgiofgedeijoaa
open Go.RowKit Wd Cd

set_option maxRecDepth 100000 in
set_option maxHeartbeats 3200000 in
theorem laid_any (k r n o blk : Nat) (kh : k < 2 ^ 4) (rh : r < 2 ^ 3) (nh : n < 2 ^ 7) (oh : o < 2 ^ 31) (w : World) (hlt : blk < w.heap.size) (h0 : w.cell? ⟨blk, 0, none⟩ = some (.int .i64 0)) (h1 : w.cell? ⟨blk, 1, none⟩ = some (.int .i64 4)) (h2 : w.cell? ⟨blk, 2, none⟩ = some (.int .i64 k)) (h3 : w.cell? ⟨blk, 3, none⟩ = some (.int .i64 4)) (h4 : w.cell? ⟨blk, 4, none⟩ = some (.int .i64 3)) (h5 : w.cell? ⟨blk, 5, none⟩ = some (.int .i64 r)) (h6 : w.cell? ⟨blk, 6, none⟩ = some (.int .i64 7)) (h7 : w.cell? ⟨blk, 7, none⟩ = some (.int .i64 7)) (h8 : w.cell? ⟨blk, 8, none⟩ = some (.int .i64 n)) (h9 : w.cell? ⟨blk, 9, none⟩ = some (.int .i64 16)) (h10 : w.cell? ⟨blk, 10, none⟩ = some (.int .i64 31)) (h11 : w.cell? ⟨blk, 11, none⟩ = some (.int .i64 o)) :
    Calls Try.prog 31 #[.slice (some ⟨blk, 0, none⟩) 4 4] w fun e w' => e = .returned (.int .u64 (pk k r n o 4)) ∧ Below w.heap.size w w' := by
  have kw : Word k := ⟨Nat.lt_of_lt_of_le kh (by decide)⟩
  have rw' : Word r := ⟨Nat.lt_of_lt_of_le rh (by decide)⟩
  have nw : Word n := ⟨Nat.lt_of_lt_of_le nh (by decide)⟩
  have ow : Word o := ⟨Nat.lt_of_lt_of_le oh (by decide)⟩
  have ck : IntKind.u64.wrap (k : Int) = (k : Int) := wrap_nat k kw.lt
  have cr : IntKind.u64.wrap (r : Int) = (r : Int) := wrap_nat r rw'.lt
  have cn : IntKind.u64.wrap (n : Int) = (n : Int) := wrap_nat n nw.lt
  have co : IntKind.u64.wrap (o : Int) = (o : Int) := wrap_nat o ow.lt
  go_enter Try.func31, Try.ntmps31
  go_wp2
  go_loopw [3, 8] (fun v i wr => ∃ j : Nat, j ≤ 4 ∧ i = .int .i64 j ∧ v = .int .u64 (pk k r n o j) ∧ Hid (Below w.heap.size w wr)) (fun _ i _ => 4 - (intOf i).toNat)
  case atStart => exact ⟨0, by omega, rfl, rfl, Lib.hid (Below.refl _ _)⟩
  case round =>
    obtain ⟨j, hj, rfl, rfl, HB⟩ := hrel
    by_cases hjl : j < 4
    · have hq : j = 0 ∨ j = 1 ∨ j = 2 ∨ j = 3 := by omega
      rcases hq with rfl | rfl | rfl | rfl
      · have hbr := HB.out
        have c0 : wr.cell? ⟨blk, 0, none⟩ = some (.int .i64 0) := (hbr.cell (p := ⟨blk, 0, none⟩) hlt).trans h0
        have c1 : wr.cell? ⟨blk, 1, none⟩ = some (.int .i64 4) := (hbr.cell (p := ⟨blk, 1, none⟩) hlt).trans h1
        have c2 : wr.cell? ⟨blk, 2, none⟩ = some (.int .i64 k) := (hbr.cell (p := ⟨blk, 2, none⟩) hlt).trans h2
        have HW := Lib.hid (with_any (pk k r n o 0) 0 4 k (pk_word k r n o 0) kw (by decide) kh)
        clear hbr
        go_wp2_with fail
        refine (HW.out _).mono ?_
        rintro e w' ⟨rfl, k1, rfl⟩
        go_wp2_with fail
        go_roundw
        case rel => exact ⟨0 + 1, by omega, by go_num, rfl, Lib.hid (below_draws (below_new HB.out _) _)⟩
        case measure => simp [intOf]
      · have hbr := HB.out
        have c0 : wr.cell? ⟨blk, 3, none⟩ = some (.int .i64 4) := (hbr.cell (p := ⟨blk, 3, none⟩) hlt).trans h3
        have c1 : wr.cell? ⟨blk, 4, none⟩ = some (.int .i64 3) := (hbr.cell (p := ⟨blk, 4, none⟩) hlt).trans h4
        have c2 : wr.cell? ⟨blk, 5, none⟩ = some (.int .i64 r) := (hbr.cell (p := ⟨blk, 5, none⟩) hlt).trans h5
        have HW := Lib.hid (with_any (pk k r n o 1) 4 3 r (pk_word k r n o 1) rw' (by decide) rh)
        clear hbr
        go_wp2_with fail
        refine (HW.out _).mono ?_
        rintro e w' ⟨rfl, k1, rfl⟩
        go_wp2_with fail
        go_roundw
        case rel => exact ⟨1 + 1, by omega, by go_num, rfl, Lib.hid (below_draws (below_new HB.out _) _)⟩
        case measure => simp [intOf]
      · have hbr := HB.out
        have c0 : wr.cell? ⟨blk, 6, none⟩ = some (.int .i64 7) := (hbr.cell (p := ⟨blk, 6, none⟩) hlt).trans h6
        have c1 : wr.cell? ⟨blk, 7, none⟩ = some (.int .i64 7) := (hbr.cell (p := ⟨blk, 7, none⟩) hlt).trans h7
        have c2 : wr.cell? ⟨blk, 8, none⟩ = some (.int .i64 n) := (hbr.cell (p := ⟨blk, 8, none⟩) hlt).trans h8
        have HW := Lib.hid (with_any (pk k r n o 2) 7 7 n (pk_word k r n o 2) nw (by decide) nh)
        clear hbr
        go_wp2_with fail
        refine (HW.out _).mono ?_
        rintro e w' ⟨rfl, k1, rfl⟩
        go_wp2_with fail
        go_roundw
        case rel => exact ⟨2 + 1, by omega, by go_num, rfl, Lib.hid (below_draws (below_new HB.out _) _)⟩
        case measure => simp [intOf]
      · have hbr := HB.out
        have c0 : wr.cell? ⟨blk, 9, none⟩ = some (.int .i64 16) := (hbr.cell (p := ⟨blk, 9, none⟩) hlt).trans h9
        have c1 : wr.cell? ⟨blk, 10, none⟩ = some (.int .i64 31) := (hbr.cell (p := ⟨blk, 10, none⟩) hlt).trans h10
        have c2 : wr.cell? ⟨blk, 11, none⟩ = some (.int .i64 o) := (hbr.cell (p := ⟨blk, 11, none⟩) hlt).trans h11
        have HW := Lib.hid (with_any (pk k r n o 3) 16 31 o (pk_word k r n o 3) ow (by decide) oh)
        clear hbr
        go_wp2_with fail
        refine (HW.out _).mono ?_
        rintro e w' ⟨rfl, k1, rfl⟩
        go_wp2_with fail
        go_roundw
        case rel => exact ⟨3 + 1, by omega, by go_num, rfl, Lib.hid (below_draws (below_new HB.out _) _)⟩
        case measure => simp [intOf]
    · go_wp2
      go_ret
      exact ⟨ret_u64 (by rw [show j = 4 by omega]), HB.out⟩

set_option maxRecDepth 100000 in
set_option maxHeartbeats 1600000 in
theorem pack_form (c : Cp) (hg : Word c.g) (hok : ¬ c.Ok) (w : World) :
    Calls Try.prog 18 #[(.agg #[.int .i64 c.k, .int .i64 c.o, .int .i64 c.r, .int .u64 c.b, .int .u64 c.g, .int .i64 c.n])] w fun e w' => e = .returned (.tuple #[(.agg #[.int .u64 0, .int .u64 0]), .int .i64 40]) ∧ Below w.heap.size w w' := by
  have HB := Lib.hid hok
  clear hok
  go_enter Try.func18, Try.ntmps18
  go_wp2_with ((go_at_call 14; refine (check_bad c hg HB.out _).mono ?_; rintro e w' ⟨rfl, rfl⟩))
  refine bodyPost_ret (v := .tuple #[(.agg #[.int .u64 0, .int .u64 0]), .int .i64 40]) ?_ rfl ⟨rfl, ?_⟩
  · simp [results, Try.results18, go_sem]
  · (repeat (first | exact Below.refl _ _ | apply Below.drew | apply below_new | refine below_put ?_ _ _ (by simp)))

set_option maxRecDepth 100000 in
set_option maxHeartbeats 3200000 in
theorem pack_node (k r n o b g : Nat) (kh : k < 2 ^ 4) (rh : r < 2 ^ 3) (nh : n < 2 ^ 7) (oh : o < 2 ^ 31) (hg : Word g) (hok : Cp.Ok ⟨(k : Int), (o : Int), (r : Int), b, g, (n : Int)⟩) (hk : ((k : Int) == 2) = true) (w : World) :
    Calls Try.prog 18 #[(.agg #[.int .i64 k, .int .i64 o, .int .i64 r, .int .u64 b, .int .u64 g, .int .i64 n])] w fun e w' => e = .returned (.tuple #[(.agg #[.int .u64 (pk k r n o 4), .int .u64 g]), .int .i64 0]) ∧ Below w.heap.size w w' := by
  have HB := Lib.hid hok
  clear hok
  have HL := Lib.hid (And.intro kh (And.intro rh (And.intro nh oh)))
  clear kh rh nh oh
  go_enter Try.func18, Try.ntmps18
  go_wp2_with fail
  refine (check_ok ⟨(k : Int), (o : Int), (r : Int), b, g, (n : Int)⟩ hg HB.out _).mono ?_
  rintro e w' ⟨rfl, rfl⟩
  go_wp2_with fail
  refine (laid_any k r n o (w.heap.size + 3) HL.out.1 HL.out.2.1 HL.out.2.2.1 HL.out.2.2.2 _ (by simp) (by simp [go_sem]) (by simp [go_sem]) (by simp [go_sem]) (by simp [go_sem]) (by simp [go_sem]) (by simp [go_sem]) (by simp [go_sem]) (by simp [go_sem]) (by simp [go_sem]) (by simp [go_sem]) (by simp [go_sem]) (by simp [go_sem])).mono ?_
  rintro e w2 ⟨rfl, hb2⟩
  have hz2 : w.heap.size + 3 < w2.heap.size := by have := hb2.size; simp at this; omega
  have c0 : w2.cell? ⟨w.heap.size, 0, none⟩ = some (.int .i64 k) := (hb2.cell (p := ⟨w.heap.size, 0, none⟩) (by simp; omega)).trans (by simp [go_sem])
  have c3 : w2.cell? ⟨w.heap.size, 3, none⟩ = some (.int .u64 b) := (hb2.cell (p := ⟨w.heap.size, 3, none⟩) (by simp; omega)).trans (by simp [go_sem])
  have c4 : w2.cell? ⟨w.heap.size, 4, none⟩ = some (.int .u64 g) := (hb2.cell (p := ⟨w.heap.size, 4, none⟩) (by simp; omega)).trans (by simp [go_sem])
  have d0 : w2.cell? ⟨w.heap.size + 1, 0, none⟩ = some (.int .u64 0) := (hb2.cell (p := ⟨w.heap.size + 1, 0, none⟩) (by simp)).trans (by simp [go_sem])
  have d1 : w2.cell? ⟨w.heap.size + 1, 1, none⟩ = some (.int .u64 0) := (hb2.cell (p := ⟨w.heap.size + 1, 1, none⟩) (by simp)).trans (by simp [go_sem])
  have f0 : w2.frozen? ⟨w.heap.size + 1, 0, none⟩ = false := (hb2.frozen (p := ⟨w.heap.size + 1, 0, none⟩) (by simp)).trans (by simp [go_sem])
  have f1 : w2.frozen? ⟨w.heap.size + 1, 1, none⟩ = false := (hb2.frozen (p := ⟨w.heap.size + 1, 1, none⟩) (by simp)).trans (by simp [go_sem])
  have HB2 := Lib.hid hb2
  clear hb2
  go_wp2
  refine bodyPost_ret (v := .tuple #[(.agg #[.int .u64 (pk k r n o 4), .int .u64 g]), .int .i64 0]) ?_ rfl ⟨rfl, ?_⟩
  · simp [results, Try.results18, go_sem, d0, d1]
  · exact below_put (below_put (below_then (below_new (below_new (below_new (below_new (Below.refl _ _) _) _) _) _) HB2.out) _ _ (by simp)) _ _ (by simp)

set_option maxRecDepth 100000 in
set_option maxHeartbeats 3200000 in
theorem pack_other (k r n o b g : Nat) (kh : k < 2 ^ 4) (rh : r < 2 ^ 3) (nh : n < 2 ^ 7) (oh : o < 2 ^ 31) (hg : Word g) (hok : Cp.Ok ⟨(k : Int), (o : Int), (r : Int), b, g, (n : Int)⟩) (hk : ((k : Int) == 2) = false) (w : World) :
    Calls Try.prog 18 #[(.agg #[.int .i64 k, .int .i64 o, .int .i64 r, .int .u64 b, .int .u64 g, .int .i64 n])] w fun e w' => e = .returned (.tuple #[(.agg #[.int .u64 (pk k r n o 4), .int .u64 b]), .int .i64 0]) ∧ Below w.heap.size w w' := by
  have HB := Lib.hid hok
  clear hok
  have HL := Lib.hid (And.intro kh (And.intro rh (And.intro nh oh)))
  clear kh rh nh oh
  go_enter Try.func18, Try.ntmps18
  go_wp2_with fail
  refine (check_ok ⟨(k : Int), (o : Int), (r : Int), b, g, (n : Int)⟩ hg HB.out _).mono ?_
  rintro e w' ⟨rfl, rfl⟩
  go_wp2_with fail
  refine (laid_any k r n o (w.heap.size + 3) HL.out.1 HL.out.2.1 HL.out.2.2.1 HL.out.2.2.2 _ (by simp) (by simp [go_sem]) (by simp [go_sem]) (by simp [go_sem]) (by simp [go_sem]) (by simp [go_sem]) (by simp [go_sem]) (by simp [go_sem]) (by simp [go_sem]) (by simp [go_sem]) (by simp [go_sem]) (by simp [go_sem]) (by simp [go_sem])).mono ?_
  rintro e w2 ⟨rfl, hb2⟩
  have hz2 : w.heap.size + 3 < w2.heap.size := by have := hb2.size; simp at this; omega
  have c0 : w2.cell? ⟨w.heap.size, 0, none⟩ = some (.int .i64 k) := (hb2.cell (p := ⟨w.heap.size, 0, none⟩) (by simp; omega)).trans (by simp [go_sem])
  have c3 : w2.cell? ⟨w.heap.size, 3, none⟩ = some (.int .u64 b) := (hb2.cell (p := ⟨w.heap.size, 3, none⟩) (by simp; omega)).trans (by simp [go_sem])
  have c4 : w2.cell? ⟨w.heap.size, 4, none⟩ = some (.int .u64 g) := (hb2.cell (p := ⟨w.heap.size, 4, none⟩) (by simp; omega)).trans (by simp [go_sem])
  have d0 : w2.cell? ⟨w.heap.size + 1, 0, none⟩ = some (.int .u64 0) := (hb2.cell (p := ⟨w.heap.size + 1, 0, none⟩) (by simp)).trans (by simp [go_sem])
  have d1 : w2.cell? ⟨w.heap.size + 1, 1, none⟩ = some (.int .u64 0) := (hb2.cell (p := ⟨w.heap.size + 1, 1, none⟩) (by simp)).trans (by simp [go_sem])
  have f0 : w2.frozen? ⟨w.heap.size + 1, 0, none⟩ = false := (hb2.frozen (p := ⟨w.heap.size + 1, 0, none⟩) (by simp)).trans (by simp [go_sem])
  have f1 : w2.frozen? ⟨w.heap.size + 1, 1, none⟩ = false := (hb2.frozen (p := ⟨w.heap.size + 1, 1, none⟩) (by simp)).trans (by simp [go_sem])
  have HB2 := Lib.hid hb2
  clear hb2
  go_wp2
  refine bodyPost_ret (v := .tuple #[(.agg #[.int .u64 (pk k r n o 4), .int .u64 b]), .int .i64 0]) ?_ rfl ⟨rfl, ?_⟩
  · simp [results, Try.results18, go_sem, d0, d1]
  · exact below_put (below_put (below_then (below_new (below_new (below_new (below_new (Below.refl _ _) _) _) _) _) HB2.out) _ _ (by simp)) _ _ (by simp)

end Go.Proofs.Ythgiofgedeijoaa
