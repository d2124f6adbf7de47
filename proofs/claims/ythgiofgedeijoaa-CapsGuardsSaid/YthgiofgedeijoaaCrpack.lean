/- Contracts of the reference's Pack and Unpack over the translation. -/
import Derived.Test.YthgiofgedeijoaaCrcheck
import Derived.Test.YthgiofgedeijoaaCunpack
set_option linter.unusedVariables false
set_option linter.unusedSimpArgs false
namespace Go.Proofs.Ythgiofgedeijoaa
open Go.RowKit Wd Cd

set_option maxRecDepth 100000 in
set_option maxHeartbeats 1600000 in
theorem rpack_form (c : Cp) (hg : Word c.g) (hok : ¬ c.Ok) (w : World) :
    Calls Try.prog 19 #[(.agg #[.int .i64 c.k, .int .i64 c.o, .int .i64 c.r, .int .u64 c.b, .int .u64 c.g, .int .i64 c.n])] w fun e w' => e = .returned (.tuple #[(.agg #[.int .u64 0, .int .u64 0]), .int .i64 40]) ∧ Below w.heap.size w w' := by
  have HB := Lib.hid hok
  clear hok
  go_enter Try.func19, Try.ntmps19
  go_wp2_with ((go_at_call 23; refine (rcheck_bad c hg HB.out _).mono ?_; rintro e w' ⟨rfl, rfl⟩))
  refine bodyPost_ret (v := .tuple #[(.agg #[.int .u64 0, .int .u64 0]), .int .i64 40]) ?_ rfl ⟨rfl, ?_⟩
  · simp [results, Try.results19, go_sem]
  · (repeat (first | exact Below.refl _ _ | apply Below.drew | apply below_new | refine below_put ?_ _ _ (by simp)))

set_option maxRecDepth 100000 in
set_option maxHeartbeats 3200000 in
theorem rpack_ok (k r n o b g : Nat) (kh : k < 2 ^ 4) (rh : r < 2 ^ 3) (nh : n < 2 ^ 7) (oh : o < 2 ^ 31) (hg : Word g) (s : Nat) (es : b + g = s) (hs : Word s) (hok : Cp.Ok ⟨(k : Int), (o : Int), (r : Int), b, g, (n : Int)⟩) (w : World) :
    Calls Try.prog 19 #[(.agg #[.int .i64 k, .int .i64 o, .int .i64 r, .int .u64 b, .int .u64 g, .int .i64 n])] w fun e w' => e = .returned (.tuple #[(.agg #[.int .u64 (pk k r n o 4), .int .u64 s]), .int .i64 0]) ∧ Below w.heap.size w w' := by
  have HB := Lib.hid hok
  clear hok
  have hs' := hs.lt
  clear hs
  subst es
  have ep := pk_sum k r n o kh rh nh oh
  have ck : IntKind.u64.wrap (k : Int) = (k : Int) := wrap_nat k (by omega)
  have cr : IntKind.u64.wrap (r : Int) = (r : Int) := wrap_nat r (by omega)
  have cn : IntKind.u64.wrap (n : Int) = (n : Int) := wrap_nat n (by omega)
  have co : IntKind.u64.wrap (o : Int) = (o : Int) := wrap_nat o (by omega)
  go_enter Try.func19, Try.ntmps19
  go_wp2_with fail
  refine (rcheck_ok ⟨(k : Int), (o : Int), (r : Int), b, g, (n : Int)⟩ hg HB.out _).mono ?_
  rintro e w' ⟨rfl, rfl⟩
  go_wp2
  refine bodyPost_ret (v := .tuple #[(.agg #[.int .u64 (pk k r n o 4), .int .u64 (b + g : Nat)]), .int .i64 0]) ?_ rfl ⟨rfl, ?_⟩
  · simp [results, Try.results19, go_sem, ep]
  · exact below_new (below_new (below_new (Below.refl _ _) _) _) _

set_option maxRecDepth 100000 in
set_option maxHeartbeats 3200000 in
theorem runpack_node_form' (x y k r n o : Nat) (hx : Word x) (hy : Word y) (ek : (x : Int) % 16 = (k : Int)) (er : (x : Int) / 16 % 8 = (r : Int)) (en : (x : Int) / 128 % 128 = (n : Int)) (eo : (x : Int) / 65536 % 2147483648 = (o : Int)) (kh : k < 2 ^ 4) (rh : r < 2 ^ 3) (nh : n < 2 ^ 7) (oh : o < 2 ^ 31) (hk : ((k : Int) == 2) = true) (hok : ¬ Cp.Ok ⟨(k : Int), (o : Int), (r : Int), 0, y, (n : Int)⟩) (w : World) :
    Calls Try.prog 21 #[(.agg #[.int .u64 x, .int .u64 y])] w fun e w' => e = .returned (.tuple #[(.agg #[.int .i64 0, .int .i64 0, .int .i64 0, .int .u64 0, .int .u64 0, .int .i64 0]), .int .i64 40]) ∧ Below w.heap.size w w' := by
  have HB := Lib.hid hok
  clear hok
  have kh' : k < 16 := kh
  have rh' : r < 8 := rh
  have nh' : n < 128 := nh
  have oh' : o < 2147483648 := oh
  clear kh rh nh oh
  have hx' := hx.lt
  go_enter Try.func21, Try.ntmps21
  go_wp2_with fail
  refine (rpack_form ⟨(k : Int), (o : Int), (r : Int), 0, y, (n : Int)⟩ hy HB.out _).mono ?_
  rintro e w2 ⟨rfl, hb2⟩
  have hz2 : w.heap.size + 2 < w2.heap.size := by have := hb2.size; simp at this; omega
  have hz1 : w.heap.size + 1 < w2.heap.size := by omega
  have hz0 : w.heap.size < w2.heap.size := by omega
  have hn1 : ¬ w.heap.size + 1 = w2.heap.size := by omega
  have hn0 : ¬ w.heap.size = w2.heap.size := by omega
  have hn2 : ¬ w.heap.size + 2 = w2.heap.size := by omega
  have c0 : w2.cell? ⟨w.heap.size + 2, 0, none⟩ = some (.int .i64 k) := (hb2.cell (p := ⟨w.heap.size + 2, 0, none⟩) (by simp)).trans (by simp [go_sem])
  have c1 : w2.cell? ⟨w.heap.size + 2, 1, none⟩ = some (.int .i64 o) := (hb2.cell (p := ⟨w.heap.size + 2, 1, none⟩) (by simp)).trans (by simp [go_sem])
  have c2 : w2.cell? ⟨w.heap.size + 2, 2, none⟩ = some (.int .i64 r) := (hb2.cell (p := ⟨w.heap.size + 2, 2, none⟩) (by simp)).trans (by simp [go_sem])
  have c3 : w2.cell? ⟨w.heap.size + 2, 3, none⟩ = some (.int .u64 0) := (hb2.cell (p := ⟨w.heap.size + 2, 3, none⟩) (by simp)).trans (by simp [go_sem])
  have c4 : w2.cell? ⟨w.heap.size + 2, 4, none⟩ = some (.int .u64 y) := (hb2.cell (p := ⟨w.heap.size + 2, 4, none⟩) (by simp)).trans (by simp [go_sem])
  have c5 : w2.cell? ⟨w.heap.size + 2, 5, none⟩ = some (.int .i64 n) := (hb2.cell (p := ⟨w.heap.size + 2, 5, none⟩) (by simp)).trans (by simp [go_sem])
  have d0 : w2.cell? ⟨w.heap.size, 0, none⟩ = some (.int .u64 x) := (hb2.cell (p := ⟨w.heap.size, 0, none⟩) (by simp; omega)).trans (by simp [go_sem])
  have d1 : w2.cell? ⟨w.heap.size, 1, none⟩ = some (.int .u64 y) := (hb2.cell (p := ⟨w.heap.size, 1, none⟩) (by simp; omega)).trans (by simp [go_sem])
  have r0 : w2.cell? ⟨w.heap.size + 1, 0, none⟩ = some (.int .i64 0) := (hb2.cell (p := ⟨w.heap.size + 1, 0, none⟩) (by simp)).trans (by simp [go_sem])
  have s0 : w2.frozen? ⟨w.heap.size + 1, 0, none⟩ = false := (hb2.frozen (p := ⟨w.heap.size + 1, 0, none⟩) (by simp)).trans (by simp [go_sem])
  have r1 : w2.cell? ⟨w.heap.size + 1, 1, none⟩ = some (.int .i64 0) := (hb2.cell (p := ⟨w.heap.size + 1, 1, none⟩) (by simp)).trans (by simp [go_sem])
  have s1 : w2.frozen? ⟨w.heap.size + 1, 1, none⟩ = false := (hb2.frozen (p := ⟨w.heap.size + 1, 1, none⟩) (by simp)).trans (by simp [go_sem])
  have r2 : w2.cell? ⟨w.heap.size + 1, 2, none⟩ = some (.int .i64 0) := (hb2.cell (p := ⟨w.heap.size + 1, 2, none⟩) (by simp)).trans (by simp [go_sem])
  have s2 : w2.frozen? ⟨w.heap.size + 1, 2, none⟩ = false := (hb2.frozen (p := ⟨w.heap.size + 1, 2, none⟩) (by simp)).trans (by simp [go_sem])
  have r3 : w2.cell? ⟨w.heap.size + 1, 3, none⟩ = some (.int .u64 0) := (hb2.cell (p := ⟨w.heap.size + 1, 3, none⟩) (by simp)).trans (by simp [go_sem])
  have s3 : w2.frozen? ⟨w.heap.size + 1, 3, none⟩ = false := (hb2.frozen (p := ⟨w.heap.size + 1, 3, none⟩) (by simp)).trans (by simp [go_sem])
  have r4 : w2.cell? ⟨w.heap.size + 1, 4, none⟩ = some (.int .u64 0) := (hb2.cell (p := ⟨w.heap.size + 1, 4, none⟩) (by simp)).trans (by simp [go_sem])
  have s4 : w2.frozen? ⟨w.heap.size + 1, 4, none⟩ = false := (hb2.frozen (p := ⟨w.heap.size + 1, 4, none⟩) (by simp)).trans (by simp [go_sem])
  have r5 : w2.cell? ⟨w.heap.size + 1, 5, none⟩ = some (.int .i64 0) := (hb2.cell (p := ⟨w.heap.size + 1, 5, none⟩) (by simp)).trans (by simp [go_sem])
  have s5 : w2.frozen? ⟨w.heap.size + 1, 5, none⟩ = false := (hb2.frozen (p := ⟨w.heap.size + 1, 5, none⟩) (by simp)).trans (by simp [go_sem])
  have HB2 := Lib.hid hb2
  clear hb2
  go_wp2
  refine bodyPost_ret (cap_results rfl _ _ (w.heap.size + 1) rfl ?_ ?_ ?_ ?_ ?_ ?_) rfl ⟨rfl, ?_⟩
  · exact cell_new (by simp [go_sem, r0])
  · exact cell_new (by simp [go_sem, r1])
  · exact cell_new (by simp [go_sem, r2])
  · exact cell_new (by simp [go_sem, r3])
  · exact cell_new (by simp [go_sem, r4])
  · exact cell_new (by simp [go_sem, r5])
  · have h2 : Below w.heap.size w w2 := below_then (below_new (below_new (below_new (Below.refl _ _) _) _) _) HB2.out
    apply below_new
    iterate 6 refine below_put ?_ _ _ (by simp)
    exact h2

theorem runpack_node_form (x y : Nat) (hx : Word x) (hy : Word y) (hk : (((fld x 0 4) : Int) == 2) = true) (hok : ¬ Cp.Ok ⟨((fld x 0 4) : Int), ((fld x 16 31) : Int), ((fld x 4 3) : Int), 0, y, ((fld x 7 7) : Int)⟩) (w : World) :
    Calls Try.prog 21 #[(.agg #[.int .u64 x, .int .u64 y])] w fun e w' => e = .returned (.tuple #[(.agg #[.int .i64 0, .int .i64 0, .int .i64 0, .int .u64 0, .int .u64 0, .int .i64 0]), .int .i64 40]) ∧ Below w.heap.size w w' :=
  runpack_node_form' x y (fld x 0 4) (fld x 4 3) (fld x 7 7) (fld x 16 31) hx hy (by unfold fld; omega) (by unfold fld; omega) (by unfold fld; omega) (by unfold fld; omega) (fld_lt x 0 4) (fld_lt x 4 3) (fld_lt x 7 7) (fld_lt x 16 31) hk hok w

set_option maxRecDepth 100000 in
set_option maxHeartbeats 3200000 in
theorem runpack_node_ne' (x y k r n o : Nat) (hx : Word x) (hy : Word y) (ek : (x : Int) % 16 = (k : Int)) (er : (x : Int) / 16 % 8 = (r : Int)) (en : (x : Int) / 128 % 128 = (n : Int)) (eo : (x : Int) / 65536 % 2147483648 = (o : Int)) (kh : k < 2 ^ 4) (rh : r < 2 ^ 3) (nh : n < 2 ^ 7) (oh : o < 2 ^ 31) (hk : ((k : Int) == 2) = true) (hok : Cp.Ok ⟨(k : Int), (o : Int), (r : Int), 0, y, (n : Int)⟩) (hne : pk k r n o 4 ≠ x) (w : World) :
    Calls Try.prog 21 #[(.agg #[.int .u64 x, .int .u64 y])] w fun e w' => e = .returned (.tuple #[(.agg #[.int .i64 0, .int .i64 0, .int .i64 0, .int .u64 0, .int .u64 0, .int .i64 0]), .int .i64 40]) ∧ Below w.heap.size w w' := by
  have HB := Lib.hid hok
  clear hok
  have HP := Lib.hid (rpack_ok k r n o 0 y kh rh nh oh hy y (by omega) hy HB.out)
  have HQ := pairs_ne _ y x y (.inl hne)
  clear hne
  have kh' : k < 16 := kh
  have rh' : r < 8 := rh
  have nh' : n < 128 := nh
  have oh' : o < 2147483648 := oh
  clear kh rh nh oh
  have hx' := hx.lt
  go_enter Try.func21, Try.ntmps21
  go_wp2_with fail
  refine (HP.out _).mono ?_
  rintro e w2 ⟨rfl, hb2⟩
  have hz2 : w.heap.size + 2 < w2.heap.size := by have := hb2.size; simp at this; omega
  have hz1 : w.heap.size + 1 < w2.heap.size := by omega
  have hz0 : w.heap.size < w2.heap.size := by omega
  have hn1 : ¬ w.heap.size + 1 = w2.heap.size := by omega
  have hn0 : ¬ w.heap.size = w2.heap.size := by omega
  have hn2 : ¬ w.heap.size + 2 = w2.heap.size := by omega
  have c0 : w2.cell? ⟨w.heap.size + 2, 0, none⟩ = some (.int .i64 k) := (hb2.cell (p := ⟨w.heap.size + 2, 0, none⟩) (by simp)).trans (by simp [go_sem])
  have c1 : w2.cell? ⟨w.heap.size + 2, 1, none⟩ = some (.int .i64 o) := (hb2.cell (p := ⟨w.heap.size + 2, 1, none⟩) (by simp)).trans (by simp [go_sem])
  have c2 : w2.cell? ⟨w.heap.size + 2, 2, none⟩ = some (.int .i64 r) := (hb2.cell (p := ⟨w.heap.size + 2, 2, none⟩) (by simp)).trans (by simp [go_sem])
  have c3 : w2.cell? ⟨w.heap.size + 2, 3, none⟩ = some (.int .u64 0) := (hb2.cell (p := ⟨w.heap.size + 2, 3, none⟩) (by simp)).trans (by simp [go_sem])
  have c4 : w2.cell? ⟨w.heap.size + 2, 4, none⟩ = some (.int .u64 y) := (hb2.cell (p := ⟨w.heap.size + 2, 4, none⟩) (by simp)).trans (by simp [go_sem])
  have c5 : w2.cell? ⟨w.heap.size + 2, 5, none⟩ = some (.int .i64 n) := (hb2.cell (p := ⟨w.heap.size + 2, 5, none⟩) (by simp)).trans (by simp [go_sem])
  have d0 : w2.cell? ⟨w.heap.size, 0, none⟩ = some (.int .u64 x) := (hb2.cell (p := ⟨w.heap.size, 0, none⟩) (by simp; omega)).trans (by simp [go_sem])
  have d1 : w2.cell? ⟨w.heap.size, 1, none⟩ = some (.int .u64 y) := (hb2.cell (p := ⟨w.heap.size, 1, none⟩) (by simp; omega)).trans (by simp [go_sem])
  have r0 : w2.cell? ⟨w.heap.size + 1, 0, none⟩ = some (.int .i64 0) := (hb2.cell (p := ⟨w.heap.size + 1, 0, none⟩) (by simp)).trans (by simp [go_sem])
  have s0 : w2.frozen? ⟨w.heap.size + 1, 0, none⟩ = false := (hb2.frozen (p := ⟨w.heap.size + 1, 0, none⟩) (by simp)).trans (by simp [go_sem])
  have r1 : w2.cell? ⟨w.heap.size + 1, 1, none⟩ = some (.int .i64 0) := (hb2.cell (p := ⟨w.heap.size + 1, 1, none⟩) (by simp)).trans (by simp [go_sem])
  have s1 : w2.frozen? ⟨w.heap.size + 1, 1, none⟩ = false := (hb2.frozen (p := ⟨w.heap.size + 1, 1, none⟩) (by simp)).trans (by simp [go_sem])
  have r2 : w2.cell? ⟨w.heap.size + 1, 2, none⟩ = some (.int .i64 0) := (hb2.cell (p := ⟨w.heap.size + 1, 2, none⟩) (by simp)).trans (by simp [go_sem])
  have s2 : w2.frozen? ⟨w.heap.size + 1, 2, none⟩ = false := (hb2.frozen (p := ⟨w.heap.size + 1, 2, none⟩) (by simp)).trans (by simp [go_sem])
  have r3 : w2.cell? ⟨w.heap.size + 1, 3, none⟩ = some (.int .u64 0) := (hb2.cell (p := ⟨w.heap.size + 1, 3, none⟩) (by simp)).trans (by simp [go_sem])
  have s3 : w2.frozen? ⟨w.heap.size + 1, 3, none⟩ = false := (hb2.frozen (p := ⟨w.heap.size + 1, 3, none⟩) (by simp)).trans (by simp [go_sem])
  have r4 : w2.cell? ⟨w.heap.size + 1, 4, none⟩ = some (.int .u64 0) := (hb2.cell (p := ⟨w.heap.size + 1, 4, none⟩) (by simp)).trans (by simp [go_sem])
  have s4 : w2.frozen? ⟨w.heap.size + 1, 4, none⟩ = false := (hb2.frozen (p := ⟨w.heap.size + 1, 4, none⟩) (by simp)).trans (by simp [go_sem])
  have r5 : w2.cell? ⟨w.heap.size + 1, 5, none⟩ = some (.int .i64 0) := (hb2.cell (p := ⟨w.heap.size + 1, 5, none⟩) (by simp)).trans (by simp [go_sem])
  have s5 : w2.frozen? ⟨w.heap.size + 1, 5, none⟩ = false := (hb2.frozen (p := ⟨w.heap.size + 1, 5, none⟩) (by simp)).trans (by simp [go_sem])
  have HB2 := Lib.hid hb2
  clear hb2
  go_wp2
  refine bodyPost_ret (cap_results rfl _ _ (w.heap.size + 1) rfl ?_ ?_ ?_ ?_ ?_ ?_) rfl ⟨rfl, ?_⟩
  · exact cell_new (by simp [go_sem, r0])
  · exact cell_new (by simp [go_sem, r1])
  · exact cell_new (by simp [go_sem, r2])
  · exact cell_new (by simp [go_sem, r3])
  · exact cell_new (by simp [go_sem, r4])
  · exact cell_new (by simp [go_sem, r5])
  · have h2 : Below w.heap.size w w2 := below_then (below_new (below_new (below_new (Below.refl _ _) _) _) _) HB2.out
    apply below_new
    iterate 6 refine below_put ?_ _ _ (by simp)
    exact h2

theorem runpack_node_ne (x y : Nat) (hx : Word x) (hy : Word y) (hk : (((fld x 0 4) : Int) == 2) = true) (hok : Cp.Ok ⟨((fld x 0 4) : Int), ((fld x 16 31) : Int), ((fld x 4 3) : Int), 0, y, ((fld x 7 7) : Int)⟩) (hne : pk (fld x 0 4) (fld x 4 3) (fld x 7 7) (fld x 16 31) 4 ≠ x) (w : World) :
    Calls Try.prog 21 #[(.agg #[.int .u64 x, .int .u64 y])] w fun e w' => e = .returned (.tuple #[(.agg #[.int .i64 0, .int .i64 0, .int .i64 0, .int .u64 0, .int .u64 0, .int .i64 0]), .int .i64 40]) ∧ Below w.heap.size w w' :=
  runpack_node_ne' x y (fld x 0 4) (fld x 4 3) (fld x 7 7) (fld x 16 31) hx hy (by unfold fld; omega) (by unfold fld; omega) (by unfold fld; omega) (by unfold fld; omega) (fld_lt x 0 4) (fld_lt x 4 3) (fld_lt x 7 7) (fld_lt x 16 31) hk hok hne w

set_option maxRecDepth 100000 in
set_option maxHeartbeats 3200000 in
theorem runpack_node_good' (x y k r n o : Nat) (hx : Word x) (hy : Word y) (ek : (x : Int) % 16 = (k : Int)) (er : (x : Int) / 16 % 8 = (r : Int)) (en : (x : Int) / 128 % 128 = (n : Int)) (eo : (x : Int) / 65536 % 2147483648 = (o : Int)) (kh : k < 2 ^ 4) (rh : r < 2 ^ 3) (nh : n < 2 ^ 7) (oh : o < 2 ^ 31) (hk : ((k : Int) == 2) = true) (hok : Cp.Ok ⟨(k : Int), (o : Int), (r : Int), 0, y, (n : Int)⟩) (heq : pk k r n o 4 = x) (w : World) :
    Calls Try.prog 21 #[(.agg #[.int .u64 x, .int .u64 y])] w fun e w' => e = .returned (.tuple #[(.agg #[.int .i64 k, .int .i64 o, .int .i64 r, .int .u64 0, .int .u64 y, .int .i64 n]), .int .i64 0]) ∧ Below w.heap.size w w' := by
  have HB := Lib.hid hok
  clear hok
  have HP := Lib.hid (rpack_ok k r n o 0 y kh rh nh oh hy y (by omega) hy HB.out)
  rw [heq] at HP
  have HQ := pairs_eq x y
  clear heq
  have kh' : k < 16 := kh
  have rh' : r < 8 := rh
  have nh' : n < 128 := nh
  have oh' : o < 2147483648 := oh
  clear kh rh nh oh
  have hx' := hx.lt
  go_enter Try.func21, Try.ntmps21
  go_wp2_with fail
  refine (HP.out _).mono ?_
  rintro e w2 ⟨rfl, hb2⟩
  have hz2 : w.heap.size + 2 < w2.heap.size := by have := hb2.size; simp at this; omega
  have hz1 : w.heap.size + 1 < w2.heap.size := by omega
  have hz0 : w.heap.size < w2.heap.size := by omega
  have hn1 : ¬ w.heap.size + 1 = w2.heap.size := by omega
  have hn0 : ¬ w.heap.size = w2.heap.size := by omega
  have hn2 : ¬ w.heap.size + 2 = w2.heap.size := by omega
  have c0 : w2.cell? ⟨w.heap.size + 2, 0, none⟩ = some (.int .i64 k) := (hb2.cell (p := ⟨w.heap.size + 2, 0, none⟩) (by simp)).trans (by simp [go_sem])
  have c1 : w2.cell? ⟨w.heap.size + 2, 1, none⟩ = some (.int .i64 o) := (hb2.cell (p := ⟨w.heap.size + 2, 1, none⟩) (by simp)).trans (by simp [go_sem])
  have c2 : w2.cell? ⟨w.heap.size + 2, 2, none⟩ = some (.int .i64 r) := (hb2.cell (p := ⟨w.heap.size + 2, 2, none⟩) (by simp)).trans (by simp [go_sem])
  have c3 : w2.cell? ⟨w.heap.size + 2, 3, none⟩ = some (.int .u64 0) := (hb2.cell (p := ⟨w.heap.size + 2, 3, none⟩) (by simp)).trans (by simp [go_sem])
  have c4 : w2.cell? ⟨w.heap.size + 2, 4, none⟩ = some (.int .u64 y) := (hb2.cell (p := ⟨w.heap.size + 2, 4, none⟩) (by simp)).trans (by simp [go_sem])
  have c5 : w2.cell? ⟨w.heap.size + 2, 5, none⟩ = some (.int .i64 n) := (hb2.cell (p := ⟨w.heap.size + 2, 5, none⟩) (by simp)).trans (by simp [go_sem])
  have d0 : w2.cell? ⟨w.heap.size, 0, none⟩ = some (.int .u64 x) := (hb2.cell (p := ⟨w.heap.size, 0, none⟩) (by simp; omega)).trans (by simp [go_sem])
  have d1 : w2.cell? ⟨w.heap.size, 1, none⟩ = some (.int .u64 y) := (hb2.cell (p := ⟨w.heap.size, 1, none⟩) (by simp; omega)).trans (by simp [go_sem])
  have r0 : w2.cell? ⟨w.heap.size + 1, 0, none⟩ = some (.int .i64 0) := (hb2.cell (p := ⟨w.heap.size + 1, 0, none⟩) (by simp)).trans (by simp [go_sem])
  have s0 : w2.frozen? ⟨w.heap.size + 1, 0, none⟩ = false := (hb2.frozen (p := ⟨w.heap.size + 1, 0, none⟩) (by simp)).trans (by simp [go_sem])
  have r1 : w2.cell? ⟨w.heap.size + 1, 1, none⟩ = some (.int .i64 0) := (hb2.cell (p := ⟨w.heap.size + 1, 1, none⟩) (by simp)).trans (by simp [go_sem])
  have s1 : w2.frozen? ⟨w.heap.size + 1, 1, none⟩ = false := (hb2.frozen (p := ⟨w.heap.size + 1, 1, none⟩) (by simp)).trans (by simp [go_sem])
  have r2 : w2.cell? ⟨w.heap.size + 1, 2, none⟩ = some (.int .i64 0) := (hb2.cell (p := ⟨w.heap.size + 1, 2, none⟩) (by simp)).trans (by simp [go_sem])
  have s2 : w2.frozen? ⟨w.heap.size + 1, 2, none⟩ = false := (hb2.frozen (p := ⟨w.heap.size + 1, 2, none⟩) (by simp)).trans (by simp [go_sem])
  have r3 : w2.cell? ⟨w.heap.size + 1, 3, none⟩ = some (.int .u64 0) := (hb2.cell (p := ⟨w.heap.size + 1, 3, none⟩) (by simp)).trans (by simp [go_sem])
  have s3 : w2.frozen? ⟨w.heap.size + 1, 3, none⟩ = false := (hb2.frozen (p := ⟨w.heap.size + 1, 3, none⟩) (by simp)).trans (by simp [go_sem])
  have r4 : w2.cell? ⟨w.heap.size + 1, 4, none⟩ = some (.int .u64 0) := (hb2.cell (p := ⟨w.heap.size + 1, 4, none⟩) (by simp)).trans (by simp [go_sem])
  have s4 : w2.frozen? ⟨w.heap.size + 1, 4, none⟩ = false := (hb2.frozen (p := ⟨w.heap.size + 1, 4, none⟩) (by simp)).trans (by simp [go_sem])
  have r5 : w2.cell? ⟨w.heap.size + 1, 5, none⟩ = some (.int .i64 0) := (hb2.cell (p := ⟨w.heap.size + 1, 5, none⟩) (by simp)).trans (by simp [go_sem])
  have s5 : w2.frozen? ⟨w.heap.size + 1, 5, none⟩ = false := (hb2.frozen (p := ⟨w.heap.size + 1, 5, none⟩) (by simp)).trans (by simp [go_sem])
  have HB2 := Lib.hid hb2
  clear hb2
  go_wp2
  refine bodyPost_ret (cap_results rfl _ _ (w.heap.size + 1) rfl ?_ ?_ ?_ ?_ ?_ ?_) rfl ⟨rfl, ?_⟩
  · exact cell_new (by simp [go_sem, r0])
  · exact cell_new (by simp [go_sem, r1])
  · exact cell_new (by simp [go_sem, r2])
  · exact cell_new (by simp [go_sem, r3])
  · exact cell_new (by simp [go_sem, r4])
  · exact cell_new (by simp [go_sem, r5])
  · have h2 : Below w.heap.size w w2 := below_then (below_new (below_new (below_new (Below.refl _ _) _) _) _) HB2.out
    apply below_new
    iterate 6 refine below_put ?_ _ _ (by simp)
    exact h2

theorem runpack_node_good (x y : Nat) (hx : Word x) (hy : Word y) (hk : (((fld x 0 4) : Int) == 2) = true) (hok : Cp.Ok ⟨((fld x 0 4) : Int), ((fld x 16 31) : Int), ((fld x 4 3) : Int), 0, y, ((fld x 7 7) : Int)⟩) (heq : pk (fld x 0 4) (fld x 4 3) (fld x 7 7) (fld x 16 31) 4 = x) (w : World) :
    Calls Try.prog 21 #[(.agg #[.int .u64 x, .int .u64 y])] w fun e w' => e = .returned (.tuple #[(.agg #[.int .i64 (fld x 0 4), .int .i64 (fld x 16 31), .int .i64 (fld x 4 3), .int .u64 0, .int .u64 y, .int .i64 (fld x 7 7)]), .int .i64 0]) ∧ Below w.heap.size w w' :=
  runpack_node_good' x y (fld x 0 4) (fld x 4 3) (fld x 7 7) (fld x 16 31) hx hy (by unfold fld; omega) (by unfold fld; omega) (by unfold fld; omega) (by unfold fld; omega) (fld_lt x 0 4) (fld_lt x 4 3) (fld_lt x 7 7) (fld_lt x 16 31) hk hok heq w

set_option maxRecDepth 100000 in
set_option maxHeartbeats 3200000 in
theorem runpack_other_form' (x y k r n o : Nat) (hx : Word x) (hy : Word y) (ek : (x : Int) % 16 = (k : Int)) (er : (x : Int) / 16 % 8 = (r : Int)) (en : (x : Int) / 128 % 128 = (n : Int)) (eo : (x : Int) / 65536 % 2147483648 = (o : Int)) (kh : k < 2 ^ 4) (rh : r < 2 ^ 3) (nh : n < 2 ^ 7) (oh : o < 2 ^ 31) (hk : ((k : Int) == 2) = false) (hok : ¬ Cp.Ok ⟨(k : Int), (o : Int), (r : Int), y, 0, (n : Int)⟩) (w : World) :
    Calls Try.prog 21 #[(.agg #[.int .u64 x, .int .u64 y])] w fun e w' => e = .returned (.tuple #[(.agg #[.int .i64 0, .int .i64 0, .int .i64 0, .int .u64 0, .int .u64 0, .int .i64 0]), .int .i64 40]) ∧ Below w.heap.size w w' := by
  have HB := Lib.hid hok
  clear hok
  have kh' : k < 16 := kh
  have rh' : r < 8 := rh
  have nh' : n < 128 := nh
  have oh' : o < 2147483648 := oh
  clear kh rh nh oh
  have hx' := hx.lt
  go_enter Try.func21, Try.ntmps21
  go_wp2_with fail
  refine (rpack_form ⟨(k : Int), (o : Int), (r : Int), y, 0, (n : Int)⟩ ⟨by show (0 : Nat) < 2 ^ 64; decide⟩ HB.out _).mono ?_
  rintro e w2 ⟨rfl, hb2⟩
  have hz2 : w.heap.size + 2 < w2.heap.size := by have := hb2.size; simp at this; omega
  have hz1 : w.heap.size + 1 < w2.heap.size := by omega
  have hz0 : w.heap.size < w2.heap.size := by omega
  have hn1 : ¬ w.heap.size + 1 = w2.heap.size := by omega
  have hn0 : ¬ w.heap.size = w2.heap.size := by omega
  have hn2 : ¬ w.heap.size + 2 = w2.heap.size := by omega
  have c0 : w2.cell? ⟨w.heap.size + 2, 0, none⟩ = some (.int .i64 k) := (hb2.cell (p := ⟨w.heap.size + 2, 0, none⟩) (by simp)).trans (by simp [go_sem])
  have c1 : w2.cell? ⟨w.heap.size + 2, 1, none⟩ = some (.int .i64 o) := (hb2.cell (p := ⟨w.heap.size + 2, 1, none⟩) (by simp)).trans (by simp [go_sem])
  have c2 : w2.cell? ⟨w.heap.size + 2, 2, none⟩ = some (.int .i64 r) := (hb2.cell (p := ⟨w.heap.size + 2, 2, none⟩) (by simp)).trans (by simp [go_sem])
  have c3 : w2.cell? ⟨w.heap.size + 2, 3, none⟩ = some (.int .u64 y) := (hb2.cell (p := ⟨w.heap.size + 2, 3, none⟩) (by simp)).trans (by simp [go_sem])
  have c4 : w2.cell? ⟨w.heap.size + 2, 4, none⟩ = some (.int .u64 0) := (hb2.cell (p := ⟨w.heap.size + 2, 4, none⟩) (by simp)).trans (by simp [go_sem])
  have c5 : w2.cell? ⟨w.heap.size + 2, 5, none⟩ = some (.int .i64 n) := (hb2.cell (p := ⟨w.heap.size + 2, 5, none⟩) (by simp)).trans (by simp [go_sem])
  have d0 : w2.cell? ⟨w.heap.size, 0, none⟩ = some (.int .u64 x) := (hb2.cell (p := ⟨w.heap.size, 0, none⟩) (by simp; omega)).trans (by simp [go_sem])
  have d1 : w2.cell? ⟨w.heap.size, 1, none⟩ = some (.int .u64 y) := (hb2.cell (p := ⟨w.heap.size, 1, none⟩) (by simp; omega)).trans (by simp [go_sem])
  have r0 : w2.cell? ⟨w.heap.size + 1, 0, none⟩ = some (.int .i64 0) := (hb2.cell (p := ⟨w.heap.size + 1, 0, none⟩) (by simp)).trans (by simp [go_sem])
  have s0 : w2.frozen? ⟨w.heap.size + 1, 0, none⟩ = false := (hb2.frozen (p := ⟨w.heap.size + 1, 0, none⟩) (by simp)).trans (by simp [go_sem])
  have r1 : w2.cell? ⟨w.heap.size + 1, 1, none⟩ = some (.int .i64 0) := (hb2.cell (p := ⟨w.heap.size + 1, 1, none⟩) (by simp)).trans (by simp [go_sem])
  have s1 : w2.frozen? ⟨w.heap.size + 1, 1, none⟩ = false := (hb2.frozen (p := ⟨w.heap.size + 1, 1, none⟩) (by simp)).trans (by simp [go_sem])
  have r2 : w2.cell? ⟨w.heap.size + 1, 2, none⟩ = some (.int .i64 0) := (hb2.cell (p := ⟨w.heap.size + 1, 2, none⟩) (by simp)).trans (by simp [go_sem])
  have s2 : w2.frozen? ⟨w.heap.size + 1, 2, none⟩ = false := (hb2.frozen (p := ⟨w.heap.size + 1, 2, none⟩) (by simp)).trans (by simp [go_sem])
  have r3 : w2.cell? ⟨w.heap.size + 1, 3, none⟩ = some (.int .u64 0) := (hb2.cell (p := ⟨w.heap.size + 1, 3, none⟩) (by simp)).trans (by simp [go_sem])
  have s3 : w2.frozen? ⟨w.heap.size + 1, 3, none⟩ = false := (hb2.frozen (p := ⟨w.heap.size + 1, 3, none⟩) (by simp)).trans (by simp [go_sem])
  have r4 : w2.cell? ⟨w.heap.size + 1, 4, none⟩ = some (.int .u64 0) := (hb2.cell (p := ⟨w.heap.size + 1, 4, none⟩) (by simp)).trans (by simp [go_sem])
  have s4 : w2.frozen? ⟨w.heap.size + 1, 4, none⟩ = false := (hb2.frozen (p := ⟨w.heap.size + 1, 4, none⟩) (by simp)).trans (by simp [go_sem])
  have r5 : w2.cell? ⟨w.heap.size + 1, 5, none⟩ = some (.int .i64 0) := (hb2.cell (p := ⟨w.heap.size + 1, 5, none⟩) (by simp)).trans (by simp [go_sem])
  have s5 : w2.frozen? ⟨w.heap.size + 1, 5, none⟩ = false := (hb2.frozen (p := ⟨w.heap.size + 1, 5, none⟩) (by simp)).trans (by simp [go_sem])
  have HB2 := Lib.hid hb2
  clear hb2
  go_wp2
  refine bodyPost_ret (cap_results rfl _ _ (w.heap.size + 1) rfl ?_ ?_ ?_ ?_ ?_ ?_) rfl ⟨rfl, ?_⟩
  · exact cell_new (by simp [go_sem, r0])
  · exact cell_new (by simp [go_sem, r1])
  · exact cell_new (by simp [go_sem, r2])
  · exact cell_new (by simp [go_sem, r3])
  · exact cell_new (by simp [go_sem, r4])
  · exact cell_new (by simp [go_sem, r5])
  · have h2 : Below w.heap.size w w2 := below_then (below_new (below_new (below_new (Below.refl _ _) _) _) _) HB2.out
    apply below_new
    iterate 6 refine below_put ?_ _ _ (by simp)
    exact h2

theorem runpack_other_form (x y : Nat) (hx : Word x) (hy : Word y) (hk : (((fld x 0 4) : Int) == 2) = false) (hok : ¬ Cp.Ok ⟨((fld x 0 4) : Int), ((fld x 16 31) : Int), ((fld x 4 3) : Int), y, 0, ((fld x 7 7) : Int)⟩) (w : World) :
    Calls Try.prog 21 #[(.agg #[.int .u64 x, .int .u64 y])] w fun e w' => e = .returned (.tuple #[(.agg #[.int .i64 0, .int .i64 0, .int .i64 0, .int .u64 0, .int .u64 0, .int .i64 0]), .int .i64 40]) ∧ Below w.heap.size w w' :=
  runpack_other_form' x y (fld x 0 4) (fld x 4 3) (fld x 7 7) (fld x 16 31) hx hy (by unfold fld; omega) (by unfold fld; omega) (by unfold fld; omega) (by unfold fld; omega) (fld_lt x 0 4) (fld_lt x 4 3) (fld_lt x 7 7) (fld_lt x 16 31) hk hok w

set_option maxRecDepth 100000 in
set_option maxHeartbeats 3200000 in
theorem runpack_other_ne' (x y k r n o : Nat) (hx : Word x) (hy : Word y) (ek : (x : Int) % 16 = (k : Int)) (er : (x : Int) / 16 % 8 = (r : Int)) (en : (x : Int) / 128 % 128 = (n : Int)) (eo : (x : Int) / 65536 % 2147483648 = (o : Int)) (kh : k < 2 ^ 4) (rh : r < 2 ^ 3) (nh : n < 2 ^ 7) (oh : o < 2 ^ 31) (hk : ((k : Int) == 2) = false) (hok : Cp.Ok ⟨(k : Int), (o : Int), (r : Int), y, 0, (n : Int)⟩) (hne : pk k r n o 4 ≠ x) (w : World) :
    Calls Try.prog 21 #[(.agg #[.int .u64 x, .int .u64 y])] w fun e w' => e = .returned (.tuple #[(.agg #[.int .i64 0, .int .i64 0, .int .i64 0, .int .u64 0, .int .u64 0, .int .i64 0]), .int .i64 40]) ∧ Below w.heap.size w w' := by
  have HB := Lib.hid hok
  clear hok
  have HP := Lib.hid (rpack_ok k r n o y 0 kh rh nh oh ⟨by show (0 : Nat) < 2 ^ 64; decide⟩ y (by omega) hy HB.out)
  have HQ := pairs_ne _ y x y (.inl hne)
  clear hne
  have kh' : k < 16 := kh
  have rh' : r < 8 := rh
  have nh' : n < 128 := nh
  have oh' : o < 2147483648 := oh
  clear kh rh nh oh
  have hx' := hx.lt
  go_enter Try.func21, Try.ntmps21
  go_wp2_with fail
  refine (HP.out _).mono ?_
  rintro e w2 ⟨rfl, hb2⟩
  have hz2 : w.heap.size + 2 < w2.heap.size := by have := hb2.size; simp at this; omega
  have hz1 : w.heap.size + 1 < w2.heap.size := by omega
  have hz0 : w.heap.size < w2.heap.size := by omega
  have hn1 : ¬ w.heap.size + 1 = w2.heap.size := by omega
  have hn0 : ¬ w.heap.size = w2.heap.size := by omega
  have hn2 : ¬ w.heap.size + 2 = w2.heap.size := by omega
  have c0 : w2.cell? ⟨w.heap.size + 2, 0, none⟩ = some (.int .i64 k) := (hb2.cell (p := ⟨w.heap.size + 2, 0, none⟩) (by simp)).trans (by simp [go_sem])
  have c1 : w2.cell? ⟨w.heap.size + 2, 1, none⟩ = some (.int .i64 o) := (hb2.cell (p := ⟨w.heap.size + 2, 1, none⟩) (by simp)).trans (by simp [go_sem])
  have c2 : w2.cell? ⟨w.heap.size + 2, 2, none⟩ = some (.int .i64 r) := (hb2.cell (p := ⟨w.heap.size + 2, 2, none⟩) (by simp)).trans (by simp [go_sem])
  have c3 : w2.cell? ⟨w.heap.size + 2, 3, none⟩ = some (.int .u64 y) := (hb2.cell (p := ⟨w.heap.size + 2, 3, none⟩) (by simp)).trans (by simp [go_sem])
  have c4 : w2.cell? ⟨w.heap.size + 2, 4, none⟩ = some (.int .u64 0) := (hb2.cell (p := ⟨w.heap.size + 2, 4, none⟩) (by simp)).trans (by simp [go_sem])
  have c5 : w2.cell? ⟨w.heap.size + 2, 5, none⟩ = some (.int .i64 n) := (hb2.cell (p := ⟨w.heap.size + 2, 5, none⟩) (by simp)).trans (by simp [go_sem])
  have d0 : w2.cell? ⟨w.heap.size, 0, none⟩ = some (.int .u64 x) := (hb2.cell (p := ⟨w.heap.size, 0, none⟩) (by simp; omega)).trans (by simp [go_sem])
  have d1 : w2.cell? ⟨w.heap.size, 1, none⟩ = some (.int .u64 y) := (hb2.cell (p := ⟨w.heap.size, 1, none⟩) (by simp; omega)).trans (by simp [go_sem])
  have r0 : w2.cell? ⟨w.heap.size + 1, 0, none⟩ = some (.int .i64 0) := (hb2.cell (p := ⟨w.heap.size + 1, 0, none⟩) (by simp)).trans (by simp [go_sem])
  have s0 : w2.frozen? ⟨w.heap.size + 1, 0, none⟩ = false := (hb2.frozen (p := ⟨w.heap.size + 1, 0, none⟩) (by simp)).trans (by simp [go_sem])
  have r1 : w2.cell? ⟨w.heap.size + 1, 1, none⟩ = some (.int .i64 0) := (hb2.cell (p := ⟨w.heap.size + 1, 1, none⟩) (by simp)).trans (by simp [go_sem])
  have s1 : w2.frozen? ⟨w.heap.size + 1, 1, none⟩ = false := (hb2.frozen (p := ⟨w.heap.size + 1, 1, none⟩) (by simp)).trans (by simp [go_sem])
  have r2 : w2.cell? ⟨w.heap.size + 1, 2, none⟩ = some (.int .i64 0) := (hb2.cell (p := ⟨w.heap.size + 1, 2, none⟩) (by simp)).trans (by simp [go_sem])
  have s2 : w2.frozen? ⟨w.heap.size + 1, 2, none⟩ = false := (hb2.frozen (p := ⟨w.heap.size + 1, 2, none⟩) (by simp)).trans (by simp [go_sem])
  have r3 : w2.cell? ⟨w.heap.size + 1, 3, none⟩ = some (.int .u64 0) := (hb2.cell (p := ⟨w.heap.size + 1, 3, none⟩) (by simp)).trans (by simp [go_sem])
  have s3 : w2.frozen? ⟨w.heap.size + 1, 3, none⟩ = false := (hb2.frozen (p := ⟨w.heap.size + 1, 3, none⟩) (by simp)).trans (by simp [go_sem])
  have r4 : w2.cell? ⟨w.heap.size + 1, 4, none⟩ = some (.int .u64 0) := (hb2.cell (p := ⟨w.heap.size + 1, 4, none⟩) (by simp)).trans (by simp [go_sem])
  have s4 : w2.frozen? ⟨w.heap.size + 1, 4, none⟩ = false := (hb2.frozen (p := ⟨w.heap.size + 1, 4, none⟩) (by simp)).trans (by simp [go_sem])
  have r5 : w2.cell? ⟨w.heap.size + 1, 5, none⟩ = some (.int .i64 0) := (hb2.cell (p := ⟨w.heap.size + 1, 5, none⟩) (by simp)).trans (by simp [go_sem])
  have s5 : w2.frozen? ⟨w.heap.size + 1, 5, none⟩ = false := (hb2.frozen (p := ⟨w.heap.size + 1, 5, none⟩) (by simp)).trans (by simp [go_sem])
  have HB2 := Lib.hid hb2
  clear hb2
  go_wp2
  refine bodyPost_ret (cap_results rfl _ _ (w.heap.size + 1) rfl ?_ ?_ ?_ ?_ ?_ ?_) rfl ⟨rfl, ?_⟩
  · exact cell_new (by simp [go_sem, r0])
  · exact cell_new (by simp [go_sem, r1])
  · exact cell_new (by simp [go_sem, r2])
  · exact cell_new (by simp [go_sem, r3])
  · exact cell_new (by simp [go_sem, r4])
  · exact cell_new (by simp [go_sem, r5])
  · have h2 : Below w.heap.size w w2 := below_then (below_new (below_new (below_new (Below.refl _ _) _) _) _) HB2.out
    apply below_new
    iterate 6 refine below_put ?_ _ _ (by simp)
    exact h2

theorem runpack_other_ne (x y : Nat) (hx : Word x) (hy : Word y) (hk : (((fld x 0 4) : Int) == 2) = false) (hok : Cp.Ok ⟨((fld x 0 4) : Int), ((fld x 16 31) : Int), ((fld x 4 3) : Int), y, 0, ((fld x 7 7) : Int)⟩) (hne : pk (fld x 0 4) (fld x 4 3) (fld x 7 7) (fld x 16 31) 4 ≠ x) (w : World) :
    Calls Try.prog 21 #[(.agg #[.int .u64 x, .int .u64 y])] w fun e w' => e = .returned (.tuple #[(.agg #[.int .i64 0, .int .i64 0, .int .i64 0, .int .u64 0, .int .u64 0, .int .i64 0]), .int .i64 40]) ∧ Below w.heap.size w w' :=
  runpack_other_ne' x y (fld x 0 4) (fld x 4 3) (fld x 7 7) (fld x 16 31) hx hy (by unfold fld; omega) (by unfold fld; omega) (by unfold fld; omega) (by unfold fld; omega) (fld_lt x 0 4) (fld_lt x 4 3) (fld_lt x 7 7) (fld_lt x 16 31) hk hok hne w

set_option maxRecDepth 100000 in
set_option maxHeartbeats 3200000 in
theorem runpack_other_good' (x y k r n o : Nat) (hx : Word x) (hy : Word y) (ek : (x : Int) % 16 = (k : Int)) (er : (x : Int) / 16 % 8 = (r : Int)) (en : (x : Int) / 128 % 128 = (n : Int)) (eo : (x : Int) / 65536 % 2147483648 = (o : Int)) (kh : k < 2 ^ 4) (rh : r < 2 ^ 3) (nh : n < 2 ^ 7) (oh : o < 2 ^ 31) (hk : ((k : Int) == 2) = false) (hok : Cp.Ok ⟨(k : Int), (o : Int), (r : Int), y, 0, (n : Int)⟩) (heq : pk k r n o 4 = x) (w : World) :
    Calls Try.prog 21 #[(.agg #[.int .u64 x, .int .u64 y])] w fun e w' => e = .returned (.tuple #[(.agg #[.int .i64 k, .int .i64 o, .int .i64 r, .int .u64 y, .int .u64 0, .int .i64 n]), .int .i64 0]) ∧ Below w.heap.size w w' := by
  have HB := Lib.hid hok
  clear hok
  have HP := Lib.hid (rpack_ok k r n o y 0 kh rh nh oh ⟨by show (0 : Nat) < 2 ^ 64; decide⟩ y (by omega) hy HB.out)
  rw [heq] at HP
  have HQ := pairs_eq x y
  clear heq
  have kh' : k < 16 := kh
  have rh' : r < 8 := rh
  have nh' : n < 128 := nh
  have oh' : o < 2147483648 := oh
  clear kh rh nh oh
  have hx' := hx.lt
  go_enter Try.func21, Try.ntmps21
  go_wp2_with fail
  refine (HP.out _).mono ?_
  rintro e w2 ⟨rfl, hb2⟩
  have hz2 : w.heap.size + 2 < w2.heap.size := by have := hb2.size; simp at this; omega
  have hz1 : w.heap.size + 1 < w2.heap.size := by omega
  have hz0 : w.heap.size < w2.heap.size := by omega
  have hn1 : ¬ w.heap.size + 1 = w2.heap.size := by omega
  have hn0 : ¬ w.heap.size = w2.heap.size := by omega
  have hn2 : ¬ w.heap.size + 2 = w2.heap.size := by omega
  have c0 : w2.cell? ⟨w.heap.size + 2, 0, none⟩ = some (.int .i64 k) := (hb2.cell (p := ⟨w.heap.size + 2, 0, none⟩) (by simp)).trans (by simp [go_sem])
  have c1 : w2.cell? ⟨w.heap.size + 2, 1, none⟩ = some (.int .i64 o) := (hb2.cell (p := ⟨w.heap.size + 2, 1, none⟩) (by simp)).trans (by simp [go_sem])
  have c2 : w2.cell? ⟨w.heap.size + 2, 2, none⟩ = some (.int .i64 r) := (hb2.cell (p := ⟨w.heap.size + 2, 2, none⟩) (by simp)).trans (by simp [go_sem])
  have c3 : w2.cell? ⟨w.heap.size + 2, 3, none⟩ = some (.int .u64 y) := (hb2.cell (p := ⟨w.heap.size + 2, 3, none⟩) (by simp)).trans (by simp [go_sem])
  have c4 : w2.cell? ⟨w.heap.size + 2, 4, none⟩ = some (.int .u64 0) := (hb2.cell (p := ⟨w.heap.size + 2, 4, none⟩) (by simp)).trans (by simp [go_sem])
  have c5 : w2.cell? ⟨w.heap.size + 2, 5, none⟩ = some (.int .i64 n) := (hb2.cell (p := ⟨w.heap.size + 2, 5, none⟩) (by simp)).trans (by simp [go_sem])
  have d0 : w2.cell? ⟨w.heap.size, 0, none⟩ = some (.int .u64 x) := (hb2.cell (p := ⟨w.heap.size, 0, none⟩) (by simp; omega)).trans (by simp [go_sem])
  have d1 : w2.cell? ⟨w.heap.size, 1, none⟩ = some (.int .u64 y) := (hb2.cell (p := ⟨w.heap.size, 1, none⟩) (by simp; omega)).trans (by simp [go_sem])
  have r0 : w2.cell? ⟨w.heap.size + 1, 0, none⟩ = some (.int .i64 0) := (hb2.cell (p := ⟨w.heap.size + 1, 0, none⟩) (by simp)).trans (by simp [go_sem])
  have s0 : w2.frozen? ⟨w.heap.size + 1, 0, none⟩ = false := (hb2.frozen (p := ⟨w.heap.size + 1, 0, none⟩) (by simp)).trans (by simp [go_sem])
  have r1 : w2.cell? ⟨w.heap.size + 1, 1, none⟩ = some (.int .i64 0) := (hb2.cell (p := ⟨w.heap.size + 1, 1, none⟩) (by simp)).trans (by simp [go_sem])
  have s1 : w2.frozen? ⟨w.heap.size + 1, 1, none⟩ = false := (hb2.frozen (p := ⟨w.heap.size + 1, 1, none⟩) (by simp)).trans (by simp [go_sem])
  have r2 : w2.cell? ⟨w.heap.size + 1, 2, none⟩ = some (.int .i64 0) := (hb2.cell (p := ⟨w.heap.size + 1, 2, none⟩) (by simp)).trans (by simp [go_sem])
  have s2 : w2.frozen? ⟨w.heap.size + 1, 2, none⟩ = false := (hb2.frozen (p := ⟨w.heap.size + 1, 2, none⟩) (by simp)).trans (by simp [go_sem])
  have r3 : w2.cell? ⟨w.heap.size + 1, 3, none⟩ = some (.int .u64 0) := (hb2.cell (p := ⟨w.heap.size + 1, 3, none⟩) (by simp)).trans (by simp [go_sem])
  have s3 : w2.frozen? ⟨w.heap.size + 1, 3, none⟩ = false := (hb2.frozen (p := ⟨w.heap.size + 1, 3, none⟩) (by simp)).trans (by simp [go_sem])
  have r4 : w2.cell? ⟨w.heap.size + 1, 4, none⟩ = some (.int .u64 0) := (hb2.cell (p := ⟨w.heap.size + 1, 4, none⟩) (by simp)).trans (by simp [go_sem])
  have s4 : w2.frozen? ⟨w.heap.size + 1, 4, none⟩ = false := (hb2.frozen (p := ⟨w.heap.size + 1, 4, none⟩) (by simp)).trans (by simp [go_sem])
  have r5 : w2.cell? ⟨w.heap.size + 1, 5, none⟩ = some (.int .i64 0) := (hb2.cell (p := ⟨w.heap.size + 1, 5, none⟩) (by simp)).trans (by simp [go_sem])
  have s5 : w2.frozen? ⟨w.heap.size + 1, 5, none⟩ = false := (hb2.frozen (p := ⟨w.heap.size + 1, 5, none⟩) (by simp)).trans (by simp [go_sem])
  have HB2 := Lib.hid hb2
  clear hb2
  go_wp2
  refine bodyPost_ret (cap_results rfl _ _ (w.heap.size + 1) rfl ?_ ?_ ?_ ?_ ?_ ?_) rfl ⟨rfl, ?_⟩
  · exact cell_new (by simp [go_sem, r0])
  · exact cell_new (by simp [go_sem, r1])
  · exact cell_new (by simp [go_sem, r2])
  · exact cell_new (by simp [go_sem, r3])
  · exact cell_new (by simp [go_sem, r4])
  · exact cell_new (by simp [go_sem, r5])
  · have h2 : Below w.heap.size w w2 := below_then (below_new (below_new (below_new (Below.refl _ _) _) _) _) HB2.out
    apply below_new
    iterate 6 refine below_put ?_ _ _ (by simp)
    exact h2

theorem runpack_other_good (x y : Nat) (hx : Word x) (hy : Word y) (hk : (((fld x 0 4) : Int) == 2) = false) (hok : Cp.Ok ⟨((fld x 0 4) : Int), ((fld x 16 31) : Int), ((fld x 4 3) : Int), y, 0, ((fld x 7 7) : Int)⟩) (heq : pk (fld x 0 4) (fld x 4 3) (fld x 7 7) (fld x 16 31) 4 = x) (w : World) :
    Calls Try.prog 21 #[(.agg #[.int .u64 x, .int .u64 y])] w fun e w' => e = .returned (.tuple #[(.agg #[.int .i64 (fld x 0 4), .int .i64 (fld x 16 31), .int .i64 (fld x 4 3), .int .u64 y, .int .u64 0, .int .i64 (fld x 7 7)]), .int .i64 0]) ∧ Below w.heap.size w w' :=
  runpack_other_good' x y (fld x 0 4) (fld x 4 3) (fld x 7 7) (fld x 16 31) hx hy (by unfold fld; omega) (by unfold fld; omega) (by unfold fld; omega) (by unfold fld; omega) (fld_lt x 0 4) (fld_lt x 4 3) (fld_lt x 7 7) (fld_lt x 16 31) hk hok heq w

end Go.Proofs.Ythgiofgedeijoaa
