/- With more cores no less is parsed; with none nothing is: for every input, no condition. -/
import Derived.Test.YtldhpecpmgjihaaScfixed
import Derived.Test.YtldhpecpmgjihaaScframe
import Derived.Test.YtldhpecpmgjihaaMath
import Derived.Test.YtldhpecpmgjihaaSccut
import Derived.Deep.QuietTactic
import Derived.BigQuiet
set_option linter.unusedVariables false
set_option linter.unusedSimpArgs false

namespace Go.Proofs.Ytldhpecpmgjihaa
open Go.ChangeShapes Go.WideShapes Go.ChangeAt Go.RowKit Go.Joins Sc

theorem same_self (v1 v2 : Value) (l : List It) (hl : l.length ≤ 1000000) (w : World) (h1 : SlIt w v1 l) (h2 : SlIt w v2 l) : Calls Try.prog 11 #[v1, v2] w fun e w' => e = .returned (.bool true) ∧ Below w.heap.size w w' := by
  have h := same_any v1 v2 l l hl w h1 h2
  rw [decide_eq_true rfl] at h
  exact h
namespace Sc
theorem right_less (x : It) (r : Nat) (h : r ≤ 7) : rightU x (r : Int) = (rightU x ((r : Int) + 1) && decide (x.c < (r : Int))) := by
  unfold rightU
  rw [← Bool.decide_and]
  apply decide_eq_decide.2
  unfold It.Right
  omega
theorem parse_less (t : ByteArray) (r : Nat) (h : r ≤ 7) (j : Nat) : parseU t (r : Int) j = (parseU t ((r : Int) + 1) j).filter (fun x => decide (x.c < (r : Int))) := by
  induction j with
  | zero => rfl
  | succ j ih =>
    have e := right_less (itAt t j) r h
    unfold parseU
    by_cases h1 : rightU (itAt t j) ((r : Int) + 1) = true
    · by_cases h2 : (itAt t j).c < (r : Int)
      · rw [if_pos h1, if_pos (by rw [e, h1, decide_eq_true h2]; rfl), List.filter_append, ← ih]
        simp [h2]
      · rw [if_pos h1, if_neg (by rw [e, h1, decide_eq_false h2]; decide), List.filter_append, ← ih]
        simp [h2]
    · have h1' : rightU (itAt t j) ((r : Int) + 1) = false := by simpa using h1
      rw [if_neg h1, if_neg (by rw [e, h1']; simp), ih]
theorem parse_none (t : ByteArray) (j : Nat) : parseU t 0 j = [] := by
  induction j with
  | zero => rfl
  | succ j ih =>
    unfold parseU
    rw [if_neg (by
      intro h
      have h' : (itAt t j).Right 0 := of_decide_eq_true h
      unfold It.Right at h'
      omega), ih]
theorem parse_many (t : ByteArray) (j : Nat) : parseU t 99 j = parseU t 8 j := by
  induction j with
  | zero => rfl
  | succ j ih =>
    have e : rightU (itAt t j) 99 = rightU (itAt t j) 8 := decide_eq_decide.2 (by unfold It.Right; omega)
    unfold parseU
    rw [e, ih]
def cntP (p : It → Bool) (l : List It) (i : Nat) : Nat := ((l.take i).filter p).length
theorem cnt_all (p : It → Bool) (l : List It) : cntP p l l.length = (l.filter p).length := by simp [cntP]
theorem cnt_yes (p : It → Bool) (l : List It) (i : Nat) (h : i < l.length) (hp : p (l.getD i zero) = true) : cntP p l i < (l.filter p).length ∧ (l.filter p).getD (cntP p l i) zero = l.getD i zero ∧ cntP p l (i + 1) = cntP p l i + 1 := by
  have hg : l.getD i zero = l[i] := by rw [List.getD_eq_getElem?_getD, List.getElem?_eq_getElem h]; rfl
  rw [hg] at hp ⊢
  have e1 : (l.take (i + 1)).filter p = (l.take i).filter p ++ [l[i]] := by
    rw [List.take_succ_eq_append_getElem h, List.filter_append]
    simp [hp]
  have e2 : l.filter p = (l.take (i + 1)).filter p ++ (l.drop (i + 1)).filter p := by rw [← List.filter_append, List.take_append_drop]
  rw [e1] at e2
  refine ⟨?_, ?_, ?_⟩
  · rw [e2]
    simp [cntP]
  · rw [e2]
    simp [cntP, List.getD_eq_getElem?_getD]
  · simp [cntP, e1]
theorem cnt_no (p : It → Bool) (l : List It) (i : Nat) (h : i < l.length) (hp : ¬ p (l.getD i zero) = true) : cntP p l (i + 1) = cntP p l i := by
  have hg : l.getD i zero = l[i] := by rw [List.getD_eq_getElem?_getD, List.getElem?_eq_getElem h]; rfl
  rw [hg] at hp
  unfold cntP
  rw [List.take_succ_eq_append_getElem h, List.filter_append]
  simp [hp]
end Sc
theorem and7 (c : Int) : ∃ m : Nat, m ≤ 7 ∧ bits .and .i64 c 7 = (m : Int) := by
  refine ⟨(BitVec.ofInt 64 c).toNat % 2 ^ 3, ?_, ?_⟩
  · have := Nat.mod_lt (BitVec.ofInt 64 c).toNat (Nat.two_pow_pos 3)
    omega
  · exact Wd.bits_i64_mask c 3 (by decide)
set_option maxRecDepth 100000 in
set_option maxHeartbeats 6400000 in
theorem scriptCores_x (s : ByteArray) (c : Int) (r na nb : Nat) (la lb l8 : List It) (cnt : Nat → Nat) (ht : s.size ≤ 400) (hr : bits .and .i64 c 7 = (r : Int)) (hr7 : r ≤ 7) (hna : la.length = na) (hnb : lb.length = nb) (hna4 : na ≤ 100) (hnb4 : nb ≤ 100) (hn8 : l8.length ≤ 1000000) (HC0 : Hid (cnt 0 = 0)) (HC1 : Hid (∀ i, i < nb → (lb.getD i Sc.zero).c < (r : Int) → cnt i < na ∧ la.getD (cnt i) Sc.zero = lb.getD i Sc.zero ∧ cnt (i + 1) = cnt i + 1)) (HC2 : Hid (∀ i, i < nb → ¬ (lb.getD i Sc.zero).c < (r : Int) → cnt (i + 1) = cnt i)) (HCn : Hid (cnt nb = na)) (P1 : Hid (∀ w : World, Calls Try.prog 12 #[.string s, .int .i64 (r : Int)] w fun e w' => ∃ v, e = .returned v ∧ SlIt w' v la ∧ Below w.heap.size w w')) (P2 : Hid (∀ w : World, Calls Try.prog 12 #[.string s, .int .i64 ((r : Int) + 1)] w fun e w' => ∃ v, e = .returned v ∧ SlIt w' v lb ∧ Below w.heap.size w w')) (P0 : Hid (∀ w : World, Calls Try.prog 12 #[.string s, .int .i64 0] w fun e w' => ∃ v, e = .returned v ∧ SlIt w' v [] ∧ Below w.heap.size w w')) (P8 : Hid (∀ w : World, Calls Try.prog 12 #[.string s, .int .i64 8] w fun e w' => ∃ v, e = .returned v ∧ SlIt w' v l8 ∧ Below w.heap.size w w')) (P9 : Hid (∀ w : World, Calls Try.prog 12 #[.string s, .int .i64 99] w fun e w' => ∃ v, e = .returned v ∧ SlIt w' v l8 ∧ Below w.heap.size w w')) (W : World) :
    Calls Try.prog 6 #[.string s, .int .i64 c] W fun e w' => e = .returned (.bool true) ∧ Below W.heap.size W w' := by
  have h' : (s.size : Int) ≤ 400 := by omega
  go_enter Try.func6, Try.ntmps6
  go_wp2_with fail
  refine (P1.out _).mono ?_
  rintro e w1 ⟨va, rfl, hs1, hb1⟩
  have HS1 := Lib.hid hs1
  have HB1 := Lib.hid hb1
  clear hs1 hb1
  obtain ⟨ao, ac, hv, hcells⟩ := HS1.out
  rw [hna] at hv
  subst hv
  have HCa := Lib.hid hcells
  clear hcells
  go_wp2_with fail
  refine (P2.out _).mono ?_
  rintro e w2 ⟨vb, rfl, hs2, hb2⟩
  have HS2 := Lib.hid hs2
  have HB2 := Lib.hid (below_from HB1.out hb2)
  have HB12 := Lib.hid hb2
  clear hs2 hb2
  obtain ⟨bo, bc, hv, hcells⟩ := HS2.out
  rw [hnb] at hv
  subst hv
  have HCb := Lib.hid hcells
  clear hcells
  go_wp2_with fail
  go_loopw [8, 9] (fun jv iv wr => ∃ i jj : Nat, i ≤ nb ∧ iv = .int .i64 i ∧ jv = .int .i64 jj ∧ jj ≤ 100 ∧ Hid (jj = cnt i) ∧ Hid (Below w2.heap.size w2 wr)) (fun _ iv _ => nb - (intOf iv).toNat)
  case atStart => exact ⟨0, 0, Nat.zero_le _, rfl, rfl, by omega, Lib.hid HC0.out.symm, Lib.hid (Below.refl _ _)⟩
  case round =>
    obtain ⟨i, jj, hi, rfl, rfl, hj100, hjj, hnx⟩ := hrel
    by_cases hlt : i < nb
    · have hlt' : (i : Int) < (nb : Int) := by omega
      have hi0 : (0 : Int) ≤ (i : Int) := by omega
      obtain ⟨gb, ob, haob, hgb, hcb⟩ := HCb.out (fun h => by rw [h] at hnb; simp at hnb; omega)
      subst haob
      obtain ⟨x, hx⟩ : ∃ x, lb.getD i Sc.zero = x := ⟨_, rfl⟩
      obtain ⟨b0, b1, b2, b3⟩ := hcb i (by omega)
      rw [hx] at b0 b1 b2 b3
      have d0 := (hnx.out.cell (p := ⟨gb, ob + i * 4, none⟩) hgb).trans b0
      have d1 := (hnx.out.cell (p := ⟨gb, ob + i * 4 + 1, none⟩) hgb).trans b1
      have d2 := (hnx.out.cell (p := ⟨gb, ob + i * 4 + 2, none⟩) hgb).trans b2
      have d3 := (hnx.out.cell (p := ⟨gb, ob + i * 4 + 3, none⟩) hgb).trans b3
      have HX := Lib.hid hx
      clear b0 b1 b2 b3 hcb hx
      by_cases hc : x.c < (r : Int)
      · obtain ⟨k1, k2, k3⟩ := HC1.out i hlt (by rw [HX.out]; exact hc)
        rw [HX.out] at k2
        have hja : jj < na := by rw [hjj.out]; exact k1
        have hja' : (jj : Int) < (na : Int) := by omega
        have hj0' : (0 : Int) ≤ (jj : Int) := by omega
        obtain ⟨ga, oa, haoa, hga, hca⟩ := HCa.out (fun h => by rw [h] at hna; simp at hna; omega)
        subst haoa
        obtain ⟨a0, a1, a2, a3⟩ := hca jj (by omega)
        rw [show la.getD jj Sc.zero = x by rw [hjj.out]; exact k2] at a0 a1 a2 a3
        have keepa := fun (q : Nat) (v : Value) (h : w1.cell? ⟨ga, q, none⟩ = some v) => ((HB12.out.trans (hnx.out.mono HB12.out.size)).cell (p := ⟨ga, q, none⟩) hga).trans h
        have c0 := keepa _ _ a0
        have c1 := keepa _ _ a1
        have c2 := keepa _ _ a2
        have c3 := keepa _ _ a3
        have hq1 : ∀ w : World, (Op.equalIn 10000 29 (.agg #[.int .i64 x.k, .int .i64 x.c, .int .i64 x.a, .int .i64 x.b]) (.agg #[.int .i64 x.k, .int .i64 x.c, .int .i64 x.a, .int .i64 x.b])).run Try.prog w = .ok true w := fun w => by rw [eq_it, decide_eq_true rfl]
        have K3 := Lib.hid k3
        clear a0 a1 a2 a3 hca keepa k1 k2 k3
        go_wp2_with fail
        go_quiet (fail)
        go_wp2_with fail
        go_roundw
        case rel => exact ⟨i + 1, jj + 1, by omega, by go_num, by go_num, by omega, Lib.hid (by rw [K3.out, hjj.out]), Lib.hid (below_drawsB hnx.out _)⟩
        case measure => simp [intOf]; omega
      · have hc' : (r : Int) ≤ x.c := by omega
        have K3 := Lib.hid (HC2.out i hlt (by rw [HX.out]; omega))
        clear hc
        go_wp2_with fail
        go_roundw
        case rel => exact ⟨i + 1, jj, by omega, by go_num, rfl, hj100, Lib.hid (by rw [K3.out, hjj.out]), hnx⟩
        case measure => simp [intOf]; omega
    · have hie : i = nb := by omega
      subst hie
      have hnl : ¬ (i : Int) < (i : Int) := by omega
      have hjn : jj = na := by rw [hjj.out, HCn.out]
      subst hjn
      have HBr := Lib.hid (below_from HB2.out hnx.out)
      go_wp2_with fail
      refine (P0.out _).mono ?_
      rintro e w3 ⟨v0, rfl, hs0, hb⟩
      obtain ⟨ao0, cap0, hv0, _⟩ := hs0
      simp only [List.length_nil] at hv0
      subst hv0
      have HB3 := Lib.hid (below_from HBr.out hb)
      clear hb
      go_wp2_with fail
      refine (P8.out _).mono ?_
      rintro e w4 ⟨v8, rfl, hs8, hb⟩
      have HB4 := Lib.hid (below_from HB3.out hb)
      have HS8 := Lib.hid hs8
      clear hb hs8
      go_wp2_with fail
      refine (P9.out _).mono ?_
      rintro e w5 ⟨v9, rfl, hs9, hb⟩
      have HB5 := Lib.hid (below_from HB4.out hb)
      have HS9 := Lib.hid hs9
      have HS8' := Lib.hid (HS8.out.keep hb)
      clear hb hs9
      go_wp2_with fail
      refine (same_self _ _ l8 hn8 _ HS8'.out HS9.out).mono ?_
      rintro e w6 ⟨rfl, hb⟩
      have HB6 := Lib.hid (below_from HB5.out hb)
      clear hb
      go_wp2_with fail
      refine (fixed_true _).mono ?_
      rintro e w7 ⟨rfl, hb⟩
      have HB7 := Lib.hid (below_from HB6.out hb)
      clear hb
      go_wp2_with fail
      go_ret
      exact ⟨rfl, HB7.out⟩

set_option maxRecDepth 100000 in
set_option maxHeartbeats 6400000 in
theorem scriptCores_y (s t : ByteArray) (hs : 400 < s.size) (hq : s.extract 0 400 = t) (c : Int) (r na nb : Nat) (la lb l8 : List It) (cnt : Nat → Nat) (ht : t.size ≤ 400) (hr : bits .and .i64 c 7 = (r : Int)) (hr7 : r ≤ 7) (hna : la.length = na) (hnb : lb.length = nb) (hna4 : na ≤ 100) (hnb4 : nb ≤ 100) (hn8 : l8.length ≤ 1000000) (HC0 : Hid (cnt 0 = 0)) (HC1 : Hid (∀ i, i < nb → (lb.getD i Sc.zero).c < (r : Int) → cnt i < na ∧ la.getD (cnt i) Sc.zero = lb.getD i Sc.zero ∧ cnt (i + 1) = cnt i + 1)) (HC2 : Hid (∀ i, i < nb → ¬ (lb.getD i Sc.zero).c < (r : Int) → cnt (i + 1) = cnt i)) (HCn : Hid (cnt nb = na)) (P1 : Hid (∀ w : World, Calls Try.prog 12 #[.string t, .int .i64 (r : Int)] w fun e w' => ∃ v, e = .returned v ∧ SlIt w' v la ∧ Below w.heap.size w w')) (P2 : Hid (∀ w : World, Calls Try.prog 12 #[.string t, .int .i64 ((r : Int) + 1)] w fun e w' => ∃ v, e = .returned v ∧ SlIt w' v lb ∧ Below w.heap.size w w')) (P0 : Hid (∀ w : World, Calls Try.prog 12 #[.string t, .int .i64 0] w fun e w' => ∃ v, e = .returned v ∧ SlIt w' v [] ∧ Below w.heap.size w w')) (P8 : Hid (∀ w : World, Calls Try.prog 12 #[.string t, .int .i64 8] w fun e w' => ∃ v, e = .returned v ∧ SlIt w' v l8 ∧ Below w.heap.size w w')) (P9 : Hid (∀ w : World, Calls Try.prog 12 #[.string t, .int .i64 99] w fun e w' => ∃ v, e = .returned v ∧ SlIt w' v l8 ∧ Below w.heap.size w w')) (W : World) :
    Calls Try.prog 6 #[.string s, .int .i64 c] W fun e w' => e = .returned (.bool true) ∧ Below W.heap.size W w' := by
  have h' : (400 : Int) < (s.size : Int) := by omega
  go_enter Try.func6, Try.ntmps6
  go_wp2_with fail
  refine (P1.out _).mono ?_
  rintro e w1 ⟨va, rfl, hs1, hb1⟩
  have HS1 := Lib.hid hs1
  have HB1 := Lib.hid hb1
  clear hs1 hb1
  obtain ⟨ao, ac, hv, hcells⟩ := HS1.out
  rw [hna] at hv
  subst hv
  have HCa := Lib.hid hcells
  clear hcells
  go_wp2_with fail
  refine (P2.out _).mono ?_
  rintro e w2 ⟨vb, rfl, hs2, hb2⟩
  have HS2 := Lib.hid hs2
  have HB2 := Lib.hid (below_from HB1.out hb2)
  have HB12 := Lib.hid hb2
  clear hs2 hb2
  obtain ⟨bo, bc, hv, hcells⟩ := HS2.out
  rw [hnb] at hv
  subst hv
  have HCb := Lib.hid hcells
  clear hcells
  go_wp2_with fail
  go_loopw [8, 9] (fun jv iv wr => ∃ i jj : Nat, i ≤ nb ∧ iv = .int .i64 i ∧ jv = .int .i64 jj ∧ jj ≤ 100 ∧ Hid (jj = cnt i) ∧ Hid (Below w2.heap.size w2 wr)) (fun _ iv _ => nb - (intOf iv).toNat)
  case atStart => exact ⟨0, 0, Nat.zero_le _, rfl, rfl, by omega, Lib.hid HC0.out.symm, Lib.hid (Below.refl _ _)⟩
  case round =>
    obtain ⟨i, jj, hi, rfl, rfl, hj100, hjj, hnx⟩ := hrel
    by_cases hlt : i < nb
    · have hlt' : (i : Int) < (nb : Int) := by omega
      have hi0 : (0 : Int) ≤ (i : Int) := by omega
      obtain ⟨gb, ob, haob, hgb, hcb⟩ := HCb.out (fun h => by rw [h] at hnb; simp at hnb; omega)
      subst haob
      obtain ⟨x, hx⟩ : ∃ x, lb.getD i Sc.zero = x := ⟨_, rfl⟩
      obtain ⟨b0, b1, b2, b3⟩ := hcb i (by omega)
      rw [hx] at b0 b1 b2 b3
      have d0 := (hnx.out.cell (p := ⟨gb, ob + i * 4, none⟩) hgb).trans b0
      have d1 := (hnx.out.cell (p := ⟨gb, ob + i * 4 + 1, none⟩) hgb).trans b1
      have d2 := (hnx.out.cell (p := ⟨gb, ob + i * 4 + 2, none⟩) hgb).trans b2
      have d3 := (hnx.out.cell (p := ⟨gb, ob + i * 4 + 3, none⟩) hgb).trans b3
      have HX := Lib.hid hx
      clear b0 b1 b2 b3 hcb hx
      by_cases hc : x.c < (r : Int)
      · obtain ⟨k1, k2, k3⟩ := HC1.out i hlt (by rw [HX.out]; exact hc)
        rw [HX.out] at k2
        have hja : jj < na := by rw [hjj.out]; exact k1
        have hja' : (jj : Int) < (na : Int) := by omega
        have hj0' : (0 : Int) ≤ (jj : Int) := by omega
        obtain ⟨ga, oa, haoa, hga, hca⟩ := HCa.out (fun h => by rw [h] at hna; simp at hna; omega)
        subst haoa
        obtain ⟨a0, a1, a2, a3⟩ := hca jj (by omega)
        rw [show la.getD jj Sc.zero = x by rw [hjj.out]; exact k2] at a0 a1 a2 a3
        have keepa := fun (q : Nat) (v : Value) (h : w1.cell? ⟨ga, q, none⟩ = some v) => ((HB12.out.trans (hnx.out.mono HB12.out.size)).cell (p := ⟨ga, q, none⟩) hga).trans h
        have c0 := keepa _ _ a0
        have c1 := keepa _ _ a1
        have c2 := keepa _ _ a2
        have c3 := keepa _ _ a3
        have hq1 : ∀ w : World, (Op.equalIn 10000 29 (.agg #[.int .i64 x.k, .int .i64 x.c, .int .i64 x.a, .int .i64 x.b]) (.agg #[.int .i64 x.k, .int .i64 x.c, .int .i64 x.a, .int .i64 x.b])).run Try.prog w = .ok true w := fun w => by rw [eq_it, decide_eq_true rfl]
        have K3 := Lib.hid k3
        clear a0 a1 a2 a3 hca keepa k1 k2 k3
        go_wp2_with fail
        go_quiet (fail)
        go_wp2_with fail
        go_roundw
        case rel => exact ⟨i + 1, jj + 1, by omega, by go_num, by go_num, by omega, Lib.hid (by rw [K3.out, hjj.out]), Lib.hid (below_drawsB hnx.out _)⟩
        case measure => simp [intOf]; omega
      · have hc' : (r : Int) ≤ x.c := by omega
        have K3 := Lib.hid (HC2.out i hlt (by rw [HX.out]; omega))
        clear hc
        go_wp2_with fail
        go_roundw
        case rel => exact ⟨i + 1, jj, by omega, by go_num, rfl, hj100, Lib.hid (by rw [K3.out, hjj.out]), hnx⟩
        case measure => simp [intOf]; omega
    · have hie : i = nb := by omega
      subst hie
      have hnl : ¬ (i : Int) < (i : Int) := by omega
      have hjn : jj = na := by rw [hjj.out, HCn.out]
      subst hjn
      have HBr := Lib.hid (below_from HB2.out hnx.out)
      go_wp2_with fail
      refine (P0.out _).mono ?_
      rintro e w3 ⟨v0, rfl, hs0, hb⟩
      obtain ⟨ao0, cap0, hv0, _⟩ := hs0
      simp only [List.length_nil] at hv0
      subst hv0
      have HB3 := Lib.hid (below_from HBr.out hb)
      clear hb
      go_wp2_with fail
      refine (P8.out _).mono ?_
      rintro e w4 ⟨v8, rfl, hs8, hb⟩
      have HB4 := Lib.hid (below_from HB3.out hb)
      have HS8 := Lib.hid hs8
      clear hb hs8
      go_wp2_with fail
      refine (P9.out _).mono ?_
      rintro e w5 ⟨v9, rfl, hs9, hb⟩
      have HB5 := Lib.hid (below_from HB4.out hb)
      have HS9 := Lib.hid hs9
      have HS8' := Lib.hid (HS8.out.keep hb)
      clear hb hs9
      go_wp2_with fail
      refine (same_self _ _ l8 hn8 _ HS8'.out HS9.out).mono ?_
      rintro e w6 ⟨rfl, hb⟩
      have HB6 := Lib.hid (below_from HB5.out hb)
      clear hb
      go_wp2_with fail
      refine (fixed_true _).mono ?_
      rintro e w7 ⟨rfl, hb⟩
      have HB7 := Lib.hid (below_from HB6.out hb)
      clear hb
      go_wp2_with fail
      go_ret
      exact ⟨rfl, HB7.out⟩

theorem scriptCores_walk (s : ByteArray) (c : Int) (W : World) :
    Calls Try.prog 6 #[.string s, .int .i64 c] W fun e w' => e = .returned (.bool true) ∧ Below W.heap.size W w' := by
  obtain ⟨r, hr7, hr⟩ := and7 c
  by_cases hs : s.size ≤ 400
  · exact scriptCores_x s c r (parseL s (r : Int)).length (parseL s ((r : Int) + 1)).length (parseL s (r : Int)) (parseL s ((r : Int) + 1)) (parseL s 8) (cntP (fun x => decide (x.c < (r : Int))) (parseL s ((r : Int) + 1))) hs hr hr7 rfl rfl (by have := parseL_len s (r : Int); omega) (by have := parseL_len s ((r : Int) + 1); omega) (by have := parseL_len s 8; omega) (Lib.hid rfl) (Lib.hid (fun i hi hc => by
      have h := cnt_yes (fun x => decide (x.c < (r : Int))) (parseL s ((r : Int) + 1)) i hi (by simpa using hc)
      rw [show (parseL s ((r : Int) + 1)).filter (fun x => decide (x.c < (r : Int))) = parseL s (r : Int) from (parse_less s r hr7 _).symm] at h
      exact h)) (Lib.hid (fun i hi hc => cnt_no _ _ i hi (by simpa using hc))) (Lib.hid (by
      rw [cnt_all, show (parseL s ((r : Int) + 1)).filter (fun x => decide (x.c < (r : Int))) = parseL s (r : Int) from (parse_less s r hr7 _).symm])) (Lib.hid (fun w => parse_any s _ (by omega) w)) (Lib.hid (fun w => parse_any s _ (by omega) w)) (Lib.hid (fun w => by
      have h := parse_any s 0 (by omega) w
      rw [show parseL s 0 = [] from parse_none s _] at h
      exact h)) (Lib.hid (fun w => parse_any s 8 (by omega) w)) (Lib.hid (fun w => by
      have h := parse_any s 99 (by omega) w
      rw [show parseL s 99 = parseL s 8 from parse_many s _] at h
      exact h)) W
  · obtain ⟨t, ht⟩ : ∃ t, s.extract 0 400 = t := ⟨_, rfl⟩
    have hz : t.size ≤ 400 := by rw [← ht, ByteArray.size_extract]; omega
    exact scriptCores_y s t (by omega) ht c r (parseL t (r : Int)).length (parseL t ((r : Int) + 1)).length (parseL t (r : Int)) (parseL t ((r : Int) + 1)) (parseL t 8) (cntP (fun x => decide (x.c < (r : Int))) (parseL t ((r : Int) + 1))) hz hr hr7 rfl rfl (by have := parseL_len t (r : Int); omega) (by have := parseL_len t ((r : Int) + 1); omega) (by have := parseL_len t 8; omega) (Lib.hid rfl) (Lib.hid (fun i hi hc => by
      have h := cnt_yes (fun x => decide (x.c < (r : Int))) (parseL t ((r : Int) + 1)) i hi (by simpa using hc)
      rw [show (parseL t ((r : Int) + 1)).filter (fun x => decide (x.c < (r : Int))) = parseL t (r : Int) from (parse_less t r hr7 _).symm] at h
      exact h)) (Lib.hid (fun i hi hc => cnt_no _ _ i hi (by simpa using hc))) (Lib.hid (by
      rw [cnt_all, show (parseL t ((r : Int) + 1)).filter (fun x => decide (x.c < (r : Int))) = parseL t (r : Int) from (parse_less t r hr7 _).symm])) (Lib.hid (fun w => parse_any t _ (by omega) w)) (Lib.hid (fun w => parse_any t _ (by omega) w)) (Lib.hid (fun w => by
      have h := parse_any t 0 (by omega) w
      rw [show parseL t 0 = [] from parse_none t _] at h
      exact h)) (Lib.hid (fun w => parse_any t 8 (by omega) w)) (Lib.hid (fun w => by
      have h := parse_any t 99 (by omega) w
      rw [show parseL t 99 = parseL t 8 from parse_many t _] at h
      exact h)) W


set_option maxRecDepth 100000 in
theorem scriptCores_lifted (os : Os) (started : os.Started) (H : Type) (enc : TypeId × Value → H) :
    ReturnsInHanded {} Try.checked os 6 .any (Rows.scriptCoresSpec.pre6 enc Try.prog Try.f6 Rows.scriptCoresRow.domain false) (Rows.scriptCoresSpec.post enc Try.prog Try.f6 false true false false) := by
  refine returnsInHanded_of_change (C := Try.checked) own_knob started (by kernel_rfl) Try.func6
    (ChangeSpec.witness6 (enc := enc) (C := Try.checked) false ⟨#[], #[.string .empty, .int .i64 0], []⟩ 8 (by kernel_rfl) (by kernel_rfl) (by kernel_rfl) (by kernel_rfl)) ?_
  intro W base args ds gs before hval0 hW hcnd _
  have hval : ∀ (j : Nat) t v, Try.f6.params[j]? = some t → args[j]? = some v → Value.okWide Try.prog W .any base t v := hval0
  have hW' := hW
  obtain ⟨p, q, hA0, hV, rfl, hfz, hnd⟩ := hW
  have hA : DataW.TrodAll enc Try.prog W 0 (fun _ => true) true Try.f6.params.toList args.toList ds p := hA0
  rw [Try.params6] at hA hval
  obtain ⟨v0, v1, d0, d1, p0, p1, rfl, rfl, rfl, h0, h1⟩ := trodAll_two hA
  obtain ⟨rfl, rfl⟩ := trodVars_none hV
  clear hA0 hval0
  simp only [List.append_nil] at hW'
  have hlt : ∀ x ∈ p0 ++ p1, x.block < W.heap.size := fun x hx => by simpa using hW'.lt x hx
  have g0 : ∀ W' : World, Below W.heap.size W W' → DataW.Trod enc Try.prog W' 0 (fun b => decide (b < W.heap.size)) true 9 v0 d0 p0 :=
    fun W' hn => Below.trod laid_out (by kernel_rfl) (of_decide_eq_true (by kernel_rfl)) h0 hn (fun x hx => hlt x (by simp [hx]))
  have g1 : ∀ W' : World, Below W.heap.size W W' → DataW.Trod enc Try.prog W' 0 (fun b => decide (b < W.heap.size)) true 3 v1 d1 p1 :=
    fun W' hn => Below.trod laid_out (by kernel_rfl) (of_decide_eq_true (by kernel_rfl)) h1 hn (fun x hx => hlt x (by simp [hx]))
  obtain ⟨s, rfl, _, _, l0⟩ := Go.ChangeMaps.open_string Try.underlying9 (hval 0 9 v0 rfl rfl) h0
  obtain ⟨c, rfl, _, _, w1⟩ := open_int Try.underlying3 (hval 1 3 v1 rfl rfl) h1
  have l1 := int_of_wf w1
  refine (scriptCores_walk s c W).mono fun e W' ⟨he, hn⟩ => ?_
  subst he
  exact ⟨_, rfl, _, _, _, [], p0 ++ p1, [], hW', trodAll_mk1 (shut_bool Try.underlying4 true), (trodAll_mk2 (g0 W' hn) (g1 W' hn)), rfl, hn.frame _, fun h => by cases h⟩

theorem scriptCores_holds : Rows.ScriptCoresSaid :=
  OpenClaim.holds_of_wide 6 Try.f6 rfl rfl rfl rfl rfl rfl rfl ⟨rfl, rfl, rfl, rfl, rfl⟩ rfl rfl rfl rfl rfl (by kernel_rfl) Try.func6 (by kernel_rfl)
    (of_decide_eq_true (by kernel_rfl)) (by unfold Func.isWrapper; first | (rw [if_pos (by decide +kernel)]; kernel_rfl) | (rw [if_neg (by decide +kernel)]; exact ⟨rfl, rfl⟩))
    (fun os started H enc _ => scriptCores_lifted os started H enc)
#print axioms scriptCores_holds
end Go.Proofs.Ytldhpecpmgjihaa
