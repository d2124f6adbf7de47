/- What is printed is parsed: those that may be, in order; what is parsed, printed, is parsed the same; bytes behind others are parsed behind them: for every input, no condition. -/
import Derived.Test.YtldhpecpmgjihaaScopen
import Derived.Test.YtldhpecpmgjihaaScplain
set_option linter.unusedVariables false
set_option linter.unusedSimpArgs false

namespace Go.Proofs.Ytldhpecpmgjihaa
open Go.ChangeShapes Go.WideShapes Go.ChangeAt Go.RowKit Go.Joins Sc

theorem same_self (v1 v2 : Value) (l : List It) (hl : l.length ≤ 1000000) (w : World) (h1 : SlIt w v1 l) (h2 : SlIt w v2 l) : Calls Try.prog 11 #[v1, v2] w fun e w' => e = .returned (.bool true) ∧ Below w.heap.size w w' := by
  have h := same_any v1 v2 l l hl w h1 h2
  rw [decide_eq_true rfl] at h
  exact h
namespace Sc
theorem rights_take (l : List It) (c : Int) (j : Nat) (h : j < l.length) : rights (l.take (j + 1)) c = rights (l.take j) c ++ (if rightU (l.getD j Sc.zero) c then [l.getD j Sc.zero] else []) := by
  have e : l.getD j Sc.zero = l[j] := by rw [List.getD_eq_getElem?_getD, List.getElem?_eq_getElem h]; rfl
  rw [List.take_succ_eq_append_getElem h, rights, List.filter_append, e]
  congr 1
  by_cases hr : rightU l[j] c = true
  · simp [hr]
  · simp [hr]
theorem rights_len (l : List It) (c : Int) : (rights l c).length ≤ l.length := List.length_filter_le _ _
theorem rights_self (s : ByteArray) (c : Int) : rights (parseL s c) c = parseL s c := List.filter_eq_self.2 (fun x hx => parse_right s c _ x hx)
theorem printL_len (l : List It) (c : Int) : (printL l c).length ≤ 4 * l.length := print_len _ c _
end Sc
set_option maxRecDepth 100000 in
set_option maxHeartbeats 12800000 in
theorem scriptBack_xx (ao : Option Addr) (N cap : Nat) (l rl a : List It) (R : Nat → List It) (s p p2 : ByteArray) (c : Int) (hN : N ≤ 100) (hNc : N ≤ cap) (hlm : l.length = N) (hs : s.size ≤ 400) (hpz : p.size ≤ 400) (hrl : rl.length ≤ 100) (ha : a.length ≤ 100) (R0 : Hid (R 0 = [])) (Ry : Hid (∀ j, j < N → rightU (l.getD j Sc.zero) c = true → R (j + 1) = R j ++ [l.getD j Sc.zero])) (Rn : Hid (∀ j, j < N → rightU (l.getD j Sc.zero) c = false → R (j + 1) = R j)) (Rm : Hid (R N = rl)) (Rl : Hid (∀ j, (R j).length ≤ j)) (P1 : Hid (∀ (v : Value) (w : World), SlIt w v l → Calls Try.prog 16 #[v, .int .i64 c] w fun e w' => e = .returned (.string p) ∧ Below w.heap.size w w')) (Q1 : Hid (∀ w : World, Calls Try.prog 12 #[.string s, .int .i64 c] w fun e w' => ∃ v, e = .returned v ∧ SlIt w' v a ∧ Below w.heap.size w w')) (Q2 : Hid (∀ w : World, Calls Try.prog 12 #[.string p, .int .i64 c] w fun e w' => ∃ v, e = .returned v ∧ SlIt w' v rl ∧ Below w.heap.size w w')) (P2 : Hid (∀ (v : Value) (w : World), SlIt w v a → Calls Try.prog 16 #[v, .int .i64 c] w fun e w' => e = .returned (.string p2) ∧ Below w.heap.size w w')) (Q3 : Hid (∀ w : World, Calls Try.prog 12 #[.string p2, .int .i64 c] w fun e w' => ∃ v, e = .returned v ∧ SlIt w' v a ∧ Below w.heap.size w w')) (Q4 : Hid (∀ w : World, Calls Try.prog 12 #[.string (p ++ s), .int .i64 c] w fun e w' => ∃ v, e = .returned v ∧ SlIt w' v (rl ++ a) ∧ Below w.heap.size w w')) (W : World) (HS : Hid (SlIt W (.slice ao N cap) l)) :
    Calls Try.prog 5 #[.slice ao N cap, .string s, .int .i64 c] W fun e w' => e = .returned (.bool true) ∧ Below W.heap.size W w' := by
  have hN' : (N : Int) ≤ 100 := by omega
  have hNc' : (N : Int) ≤ (cap : Int) := by omega
  have hc0 : (0 : Int) ≤ (cap : Int) := by omega
  have h' : (s.size : Int) ≤ 400 := by omega
  have hsum : p.size + s.size ≤ 9223372036854775807 := by omega
  have hsum' : (p.size : Int) + (s.size : Int) ≤ 9223372036854775807 := by omega
  go_enter Try.func5, Try.ntmps5
  go_wp2_with fail
  go_loopw [7, 8] (fun v i wr => ∃ j : Nat, j ≤ N ∧ i = .int .i64 j ∧ Hid (Row wr W.heap.size v (R j)) ∧ Hid (Below W.heap.size W wr)) (fun _ i _ => N - (intOf i).toNat)
  case atStart => exact ⟨0, Nat.zero_le _, rfl, Lib.hid (by rw [R0.out]; exact Row.empty W (Nat.le_refl _)), Lib.hid (below_new (Below.refl _ _) _)⟩
  case round =>
    obtain ⟨j, hj, rfl, hrow, hnx⟩ := hrel
    by_cases hlt : j < N
    · have hlt' : (j : Int) < (N : Int) := by omega
      have hj0 : (0 : Int) ≤ (j : Int) := by omega
      obtain ⟨ao', cap', e1, hcl⟩ := HS.out
      injection e1 with e1 e2 e3
      subst e1 e3
      obtain ⟨g, o, hao, hg, hc⟩ := hcl (fun h => by rw [h] at hlm; simp at hlm <;> omega)
      subst hao
      obtain ⟨x, hx⟩ : ∃ x, l.getD j Sc.zero = x := ⟨_, rfl⟩
      obtain ⟨a0, a1, a2, a3⟩ := hc j (by omega)
      rw [hx] at a0 a1 a2 a3
      have c0 := (hnx.out.cell (p := ⟨g, o + j * 4, none⟩) hg).trans a0
      have c1 := (hnx.out.cell (p := ⟨g, o + j * 4 + 1, none⟩) hg).trans a1
      have c2 := (hnx.out.cell (p := ⟨g, o + j * 4 + 2, none⟩) hg).trans a2
      have c3 := (hnx.out.cell (p := ⟨g, o + j * 4 + 3, none⟩) hg).trans a3
      have HX := Lib.hid hx
      clear hx hcl hc e2 a0 a1 a2 a3
      have step : ∀ t : Bool, rightU x c = t → Hid (∀ w : World, Calls Try.prog 14 #[(.agg #[.int .i64 x.k, .int .i64 x.c, .int .i64 x.a, .int .i64 x.b]), .int .i64 c] w fun e w' => e = .returned (.bool t) ∧ Below w.heap.size w w') := fun t ht => Lib.hid (fun w => by
        have h := right_any x c w
        rw [ht] at h
        exact h)
      by_cases hrt : rightU x c = true
      · have RC := step true hrt
        have eR : Hid (R (j + 1) = R j ++ [x]) := Lib.hid (by
          have h := Ry.out j hlt (by rw [HX.out]; exact hrt)
          rw [HX.out] at h
          exact h)
        clear step hrt
        go_wp2_with fail
        refine (RC.out _).mono ?_
        rintro e w2 ⟨rfl, hb⟩
        have HB2 : Hid (Below W.heap.size W w2) := Lib.hid (below_from hnx.out hb)
        have HR2 := Lib.hid (hrow.out.keep hb)
        have d0 := (hb.cell (p := ⟨g, o + j * 4, none⟩) (World.block_lt_of_cell? _ _ c0)).trans c0
        have d1 := (hb.cell (p := ⟨g, o + j * 4 + 1, none⟩) (World.block_lt_of_cell? _ _ c1)).trans c1
        have d2 := (hb.cell (p := ⟨g, o + j * 4 + 2, none⟩) (World.block_lt_of_cell? _ _ c2)).trans c2
        have d3 := (hb.cell (p := ⟨g, o + j * 4 + 3, none⟩) (World.block_lt_of_cell? _ _ c3)).trans c3
        clear hb c0 c1 c2 c3
        go_wp2_with (first | (at_builtin; refine wpList_append_items rfl (.tmp 35) (.tmp 40) rfl W.heap.size _ _ (R j) [x] rfl HR2.out.alloc rfl (SlIt.of1 _ x) (by have := Rl.out j; simp; omega) ?_) | fail)
        intro v' w3 hrow3 hb3
        have HR3 : Hid (Row w3 W.heap.size v' (R (j + 1))) := Lib.hid (by rw [eR.out]; exact hrow3)
        have HB3 : Hid (Below W.heap.size W w3) := Lib.hid ((below_new HB2.out _).trans hb3)
        clear hrow3 hb3 d0 d1 d2 d3
        go_wp2_with fail
        go_roundw
        case rel => exact ⟨j + 1, by omega, by go_num, HR3, HB3⟩
        case measure => simp [intOf]; omega
      · have hrf : rightU x c = false := by simpa using hrt
        have RC := step false hrf
        have eR : Hid (R (j + 1) = R j) := Lib.hid (Rn.out j hlt (by rw [HX.out]; exact hrf))
        clear step hrt hrf
        go_wp2_with fail
        refine (RC.out _).mono ?_
        rintro e w2 ⟨rfl, hb⟩
        have HB2 : Hid (Below W.heap.size W w2) := Lib.hid (below_from hnx.out hb)
        have HR2 : Hid (Row w2 W.heap.size _ (R (j + 1))) := Lib.hid (by rw [eR.out]; exact hrow.out.keep hb)
        clear hb c0 c1 c2 c3
        go_wp2_with fail
        go_roundw
        case rel => exact ⟨j + 1, by omega, by go_num, HR2, HB2⟩
        case measure => simp [intOf]; omega
    · have hje : j = N := by omega
      subst hje
      have hnl : ¬ (j : Int) < (j : Int) := by omega
      have SR : Hid (SlIt wr _ rl) := Lib.hid (by
        have h := hrow.out.is
        rw [Rm.out] at h
        exact h)
      have SL := Lib.hid (HS.out.keep hnx.out)
      clear hrow
      go_wp2_with fail
      refine (P1.out _ _ SL.out).mono ?_
      rintro e y1 ⟨rfl, hb⟩
      clear SL
      have SR' := Lib.hid (SR.out.keep hb)
      clear SR
      have SR := SR'
      clear SR'
      have HB_1 := Lib.hid (below_from hnx.out hb)
      clear hb hnx
      go_wp2_with fail
      refine (Q1.out _).mono ?_
      rintro e y2 ⟨va, rfl, hs, hb⟩
      have SR' := Lib.hid (SR.out.keep hb)
      clear SR
      have SR := SR'
      clear SR'
      have SA := Lib.hid hs
      clear hs
      have HB_2 := Lib.hid (below_from HB_1.out hb)
      clear hb HB_1
      go_wp2_with fail
      refine (Q2.out _).mono ?_
      rintro e y3 ⟨vb, rfl, hs, hb⟩
      have SR' := Lib.hid (SR.out.keep hb)
      clear SR
      have SR := SR'
      clear SR'
      have SA' := Lib.hid (SA.out.keep hb)
      clear SA
      have SA := SA'
      clear SA'
      have SB := Lib.hid hs
      clear hs
      have HB_3 := Lib.hid (below_from HB_2.out hb)
      clear hb HB_2
      go_wp2_with fail
      refine (same_self _ _ rl (by omega) _ SB.out SR.out).mono ?_
      rintro e y4 ⟨rfl, hb⟩
      clear SB
      have SR' := Lib.hid (SR.out.keep hb)
      clear SR
      have SR := SR'
      clear SR'
      have SA' := Lib.hid (SA.out.keep hb)
      clear SA
      have SA := SA'
      clear SA'
      have HB_4 := Lib.hid (below_from HB_3.out hb)
      clear hb HB_3
      go_wp2_with fail
      refine (P2.out _ _ SA.out).mono ?_
      rintro e y5 ⟨rfl, hb⟩
      have SR' := Lib.hid (SR.out.keep hb)
      clear SR
      have SR := SR'
      clear SR'
      have SA' := Lib.hid (SA.out.keep hb)
      clear SA
      have SA := SA'
      clear SA'
      have HB_5 := Lib.hid (below_from HB_4.out hb)
      clear hb HB_4
      go_wp2_with fail
      refine (Q3.out _).mono ?_
      rintro e y6 ⟨vc, rfl, hs, hb⟩
      have SR' := Lib.hid (SR.out.keep hb)
      clear SR
      have SR := SR'
      clear SR'
      have SA' := Lib.hid (SA.out.keep hb)
      clear SA
      have SA := SA'
      clear SA'
      have SC := Lib.hid hs
      clear hs
      have HB_6 := Lib.hid (below_from HB_5.out hb)
      clear hb HB_5
      go_wp2_with fail
      refine (same_self _ _ a (by omega) _ SC.out SA.out).mono ?_
      rintro e y7 ⟨rfl, hb⟩
      clear SC
      have SR' := Lib.hid (SR.out.keep hb)
      clear SR
      have SR := SR'
      clear SR'
      have SA' := Lib.hid (SA.out.keep hb)
      clear SA
      have SA := SA'
      clear SA'
      have HB_7 := Lib.hid (below_from HB_6.out hb)
      clear hb HB_6
      have HZ7 : Hid (W.heap.size ≤ y7.heap.size) := Lib.hid HB_7.out.size
      go_wp2_with (first | (at_builtin; refine wpList_append_items rfl (.tmp 64) (.tmp 65) rfl y7.heap.size _ _ [] rl rfl (Row.empty y7 (Nat.le_refl _)) rfl SR.out.alloc (by simp; omega) ?_) | fail)
      intro vd w8 hrow8 hb8
      have hb := (below_new (Below.refl y7.heap.size y7) (.cells #[] 29)).trans hb8
      have HR8 : Hid (Row w8 y7.heap.size vd rl) := Lib.hid hrow8
      clear hrow8 hb8
      clear SR
      have SA' := Lib.hid (SA.out.keep hb)
      clear SA
      have SA := SA'
      clear SA'
      have HB_8 := Lib.hid (below_from HB_7.out hb)
      clear hb HB_7
      go_wp2_with (first | (at_builtin; refine wpList_append_items rfl (.tmp 67) (.tmp 68) rfl y7.heap.size _ _ rl a rfl HR8.out rfl SA.out (by omega) ?_) | fail)
      intro ve w9 hrow9 hb9
      have SE := Lib.hid hrow9.is
      have HB9 : Hid (Below W.heap.size W w9) := Lib.hid (HB_8.out.trans (hb9.mono HZ7.out))
      clear hrow9 hb9 SA HR8 HB_8
      go_wp2_with fail
      refine (Q4.out _).mono ?_
      rintro e y10 ⟨vf, rfl, hs, hb⟩
      have SE' := Lib.hid (SE.out.keep hb)
      clear SE
      have SE := SE'
      clear SE'
      have SF := Lib.hid hs
      clear hs
      have HB_10 := Lib.hid (below_from HB9.out hb)
      clear hb HB9
      go_wp2_with fail
      refine (same_self _ _ (rl ++ a) (by simp; omega) _ SF.out SE.out).mono ?_
      rintro e y11 ⟨rfl, hb⟩
      clear SF
      clear SE
      have HB_11 := Lib.hid (below_from HB_10.out hb)
      clear hb HB_10
      go_wp2_with fail
      refine (fixed_true _).mono ?_
      rintro e y12 ⟨rfl, hb⟩
      have HB_12 := Lib.hid (below_from HB_11.out hb)
      clear hb HB_11
      go_wp2_with fail
      go_ret
      exact ⟨rfl, HB_12.out⟩

set_option maxRecDepth 100000 in
set_option maxHeartbeats 12800000 in
theorem scriptBack_xy (ao : Option Addr) (N cap : Nat) (l rl a : List It) (R : Nat → List It) (s t p p2 : ByteArray) (c : Int) (hN : N ≤ 100) (hNc : N ≤ cap) (hlm : l.length = N) (hs : 400 < s.size) (hq : s.extract 0 400 = t) (hpz : p.size ≤ 400) (hrl : rl.length ≤ 100) (ha : a.length ≤ 100) (R0 : Hid (R 0 = [])) (Ry : Hid (∀ j, j < N → rightU (l.getD j Sc.zero) c = true → R (j + 1) = R j ++ [l.getD j Sc.zero])) (Rn : Hid (∀ j, j < N → rightU (l.getD j Sc.zero) c = false → R (j + 1) = R j)) (Rm : Hid (R N = rl)) (Rl : Hid (∀ j, (R j).length ≤ j)) (P1 : Hid (∀ (v : Value) (w : World), SlIt w v l → Calls Try.prog 16 #[v, .int .i64 c] w fun e w' => e = .returned (.string p) ∧ Below w.heap.size w w')) (Q1 : Hid (∀ w : World, Calls Try.prog 12 #[.string t, .int .i64 c] w fun e w' => ∃ v, e = .returned v ∧ SlIt w' v a ∧ Below w.heap.size w w')) (Q2 : Hid (∀ w : World, Calls Try.prog 12 #[.string p, .int .i64 c] w fun e w' => ∃ v, e = .returned v ∧ SlIt w' v rl ∧ Below w.heap.size w w')) (P2 : Hid (∀ (v : Value) (w : World), SlIt w v a → Calls Try.prog 16 #[v, .int .i64 c] w fun e w' => e = .returned (.string p2) ∧ Below w.heap.size w w')) (Q3 : Hid (∀ w : World, Calls Try.prog 12 #[.string p2, .int .i64 c] w fun e w' => ∃ v, e = .returned v ∧ SlIt w' v a ∧ Below w.heap.size w w')) (Q4 : Hid (∀ w : World, Calls Try.prog 12 #[.string (p ++ t), .int .i64 c] w fun e w' => ∃ v, e = .returned v ∧ SlIt w' v (rl ++ a) ∧ Below w.heap.size w w')) (W : World) (HS : Hid (SlIt W (.slice ao N cap) l)) :
    Calls Try.prog 5 #[.slice ao N cap, .string s, .int .i64 c] W fun e w' => e = .returned (.bool true) ∧ Below W.heap.size W w' := by
  have hN' : (N : Int) ≤ 100 := by omega
  have hNc' : (N : Int) ≤ (cap : Int) := by omega
  have hc0 : (0 : Int) ≤ (cap : Int) := by omega
  have h' : (400 : Int) < (s.size : Int) := by omega
  have htz : t.size ≤ 400 := by rw [← hq, ByteArray.size_extract]; omega
  have hsum : p.size + t.size ≤ 9223372036854775807 := by omega
  have hsum' : (p.size : Int) + (t.size : Int) ≤ 9223372036854775807 := by omega
  go_enter Try.func5, Try.ntmps5
  go_wp2_with fail
  go_loopw [7, 8] (fun v i wr => ∃ j : Nat, j ≤ N ∧ i = .int .i64 j ∧ Hid (Row wr W.heap.size v (R j)) ∧ Hid (Below W.heap.size W wr)) (fun _ i _ => N - (intOf i).toNat)
  case atStart => exact ⟨0, Nat.zero_le _, rfl, Lib.hid (by rw [R0.out]; exact Row.empty W (Nat.le_refl _)), Lib.hid (below_new (Below.refl _ _) _)⟩
  case round =>
    obtain ⟨j, hj, rfl, hrow, hnx⟩ := hrel
    by_cases hlt : j < N
    · have hlt' : (j : Int) < (N : Int) := by omega
      have hj0 : (0 : Int) ≤ (j : Int) := by omega
      obtain ⟨ao', cap', e1, hcl⟩ := HS.out
      injection e1 with e1 e2 e3
      subst e1 e3
      obtain ⟨g, o, hao, hg, hc⟩ := hcl (fun h => by rw [h] at hlm; simp at hlm <;> omega)
      subst hao
      obtain ⟨x, hx⟩ : ∃ x, l.getD j Sc.zero = x := ⟨_, rfl⟩
      obtain ⟨a0, a1, a2, a3⟩ := hc j (by omega)
      rw [hx] at a0 a1 a2 a3
      have c0 := (hnx.out.cell (p := ⟨g, o + j * 4, none⟩) hg).trans a0
      have c1 := (hnx.out.cell (p := ⟨g, o + j * 4 + 1, none⟩) hg).trans a1
      have c2 := (hnx.out.cell (p := ⟨g, o + j * 4 + 2, none⟩) hg).trans a2
      have c3 := (hnx.out.cell (p := ⟨g, o + j * 4 + 3, none⟩) hg).trans a3
      have HX := Lib.hid hx
      clear hx hcl hc e2 a0 a1 a2 a3
      have step : ∀ t : Bool, rightU x c = t → Hid (∀ w : World, Calls Try.prog 14 #[(.agg #[.int .i64 x.k, .int .i64 x.c, .int .i64 x.a, .int .i64 x.b]), .int .i64 c] w fun e w' => e = .returned (.bool t) ∧ Below w.heap.size w w') := fun t ht => Lib.hid (fun w => by
        have h := right_any x c w
        rw [ht] at h
        exact h)
      by_cases hrt : rightU x c = true
      · have RC := step true hrt
        have eR : Hid (R (j + 1) = R j ++ [x]) := Lib.hid (by
          have h := Ry.out j hlt (by rw [HX.out]; exact hrt)
          rw [HX.out] at h
          exact h)
        clear step hrt
        go_wp2_with fail
        refine (RC.out _).mono ?_
        rintro e w2 ⟨rfl, hb⟩
        have HB2 : Hid (Below W.heap.size W w2) := Lib.hid (below_from hnx.out hb)
        have HR2 := Lib.hid (hrow.out.keep hb)
        have d0 := (hb.cell (p := ⟨g, o + j * 4, none⟩) (World.block_lt_of_cell? _ _ c0)).trans c0
        have d1 := (hb.cell (p := ⟨g, o + j * 4 + 1, none⟩) (World.block_lt_of_cell? _ _ c1)).trans c1
        have d2 := (hb.cell (p := ⟨g, o + j * 4 + 2, none⟩) (World.block_lt_of_cell? _ _ c2)).trans c2
        have d3 := (hb.cell (p := ⟨g, o + j * 4 + 3, none⟩) (World.block_lt_of_cell? _ _ c3)).trans c3
        clear hb c0 c1 c2 c3
        go_wp2_with (first | (at_builtin; refine wpList_append_items rfl (.tmp 35) (.tmp 40) rfl W.heap.size _ _ (R j) [x] rfl HR2.out.alloc rfl (SlIt.of1 _ x) (by have := Rl.out j; simp; omega) ?_) | fail)
        intro v' w3 hrow3 hb3
        have HR3 : Hid (Row w3 W.heap.size v' (R (j + 1))) := Lib.hid (by rw [eR.out]; exact hrow3)
        have HB3 : Hid (Below W.heap.size W w3) := Lib.hid ((below_new HB2.out _).trans hb3)
        clear hrow3 hb3 d0 d1 d2 d3
        go_wp2_with fail
        go_roundw
        case rel => exact ⟨j + 1, by omega, by go_num, HR3, HB3⟩
        case measure => simp [intOf]; omega
      · have hrf : rightU x c = false := by simpa using hrt
        have RC := step false hrf
        have eR : Hid (R (j + 1) = R j) := Lib.hid (Rn.out j hlt (by rw [HX.out]; exact hrf))
        clear step hrt hrf
        go_wp2_with fail
        refine (RC.out _).mono ?_
        rintro e w2 ⟨rfl, hb⟩
        have HB2 : Hid (Below W.heap.size W w2) := Lib.hid (below_from hnx.out hb)
        have HR2 : Hid (Row w2 W.heap.size _ (R (j + 1))) := Lib.hid (by rw [eR.out]; exact hrow.out.keep hb)
        clear hb c0 c1 c2 c3
        go_wp2_with fail
        go_roundw
        case rel => exact ⟨j + 1, by omega, by go_num, HR2, HB2⟩
        case measure => simp [intOf]; omega
    · have hje : j = N := by omega
      subst hje
      have hnl : ¬ (j : Int) < (j : Int) := by omega
      have SR : Hid (SlIt wr _ rl) := Lib.hid (by
        have h := hrow.out.is
        rw [Rm.out] at h
        exact h)
      have SL := Lib.hid (HS.out.keep hnx.out)
      clear hrow
      go_wp2_with fail
      refine (P1.out _ _ SL.out).mono ?_
      rintro e y1 ⟨rfl, hb⟩
      clear SL
      have SR' := Lib.hid (SR.out.keep hb)
      clear SR
      have SR := SR'
      clear SR'
      have HB_1 := Lib.hid (below_from hnx.out hb)
      clear hb hnx
      go_wp2_with fail
      refine (Q1.out _).mono ?_
      rintro e y2 ⟨va, rfl, hs, hb⟩
      have SR' := Lib.hid (SR.out.keep hb)
      clear SR
      have SR := SR'
      clear SR'
      have SA := Lib.hid hs
      clear hs
      have HB_2 := Lib.hid (below_from HB_1.out hb)
      clear hb HB_1
      go_wp2_with fail
      refine (Q2.out _).mono ?_
      rintro e y3 ⟨vb, rfl, hs, hb⟩
      have SR' := Lib.hid (SR.out.keep hb)
      clear SR
      have SR := SR'
      clear SR'
      have SA' := Lib.hid (SA.out.keep hb)
      clear SA
      have SA := SA'
      clear SA'
      have SB := Lib.hid hs
      clear hs
      have HB_3 := Lib.hid (below_from HB_2.out hb)
      clear hb HB_2
      go_wp2_with fail
      refine (same_self _ _ rl (by omega) _ SB.out SR.out).mono ?_
      rintro e y4 ⟨rfl, hb⟩
      clear SB
      have SR' := Lib.hid (SR.out.keep hb)
      clear SR
      have SR := SR'
      clear SR'
      have SA' := Lib.hid (SA.out.keep hb)
      clear SA
      have SA := SA'
      clear SA'
      have HB_4 := Lib.hid (below_from HB_3.out hb)
      clear hb HB_3
      go_wp2_with fail
      refine (P2.out _ _ SA.out).mono ?_
      rintro e y5 ⟨rfl, hb⟩
      have SR' := Lib.hid (SR.out.keep hb)
      clear SR
      have SR := SR'
      clear SR'
      have SA' := Lib.hid (SA.out.keep hb)
      clear SA
      have SA := SA'
      clear SA'
      have HB_5 := Lib.hid (below_from HB_4.out hb)
      clear hb HB_4
      go_wp2_with fail
      refine (Q3.out _).mono ?_
      rintro e y6 ⟨vc, rfl, hs, hb⟩
      have SR' := Lib.hid (SR.out.keep hb)
      clear SR
      have SR := SR'
      clear SR'
      have SA' := Lib.hid (SA.out.keep hb)
      clear SA
      have SA := SA'
      clear SA'
      have SC := Lib.hid hs
      clear hs
      have HB_6 := Lib.hid (below_from HB_5.out hb)
      clear hb HB_5
      go_wp2_with fail
      refine (same_self _ _ a (by omega) _ SC.out SA.out).mono ?_
      rintro e y7 ⟨rfl, hb⟩
      clear SC
      have SR' := Lib.hid (SR.out.keep hb)
      clear SR
      have SR := SR'
      clear SR'
      have SA' := Lib.hid (SA.out.keep hb)
      clear SA
      have SA := SA'
      clear SA'
      have HB_7 := Lib.hid (below_from HB_6.out hb)
      clear hb HB_6
      have HZ7 : Hid (W.heap.size ≤ y7.heap.size) := Lib.hid HB_7.out.size
      go_wp2_with (first | (at_builtin; refine wpList_append_items rfl (.tmp 64) (.tmp 65) rfl y7.heap.size _ _ [] rl rfl (Row.empty y7 (Nat.le_refl _)) rfl SR.out.alloc (by simp; omega) ?_) | fail)
      intro vd w8 hrow8 hb8
      have hb := (below_new (Below.refl y7.heap.size y7) (.cells #[] 29)).trans hb8
      have HR8 : Hid (Row w8 y7.heap.size vd rl) := Lib.hid hrow8
      clear hrow8 hb8
      clear SR
      have SA' := Lib.hid (SA.out.keep hb)
      clear SA
      have SA := SA'
      clear SA'
      have HB_8 := Lib.hid (below_from HB_7.out hb)
      clear hb HB_7
      go_wp2_with (first | (at_builtin; refine wpList_append_items rfl (.tmp 67) (.tmp 68) rfl y7.heap.size _ _ rl a rfl HR8.out rfl SA.out (by omega) ?_) | fail)
      intro ve w9 hrow9 hb9
      have SE := Lib.hid hrow9.is
      have HB9 : Hid (Below W.heap.size W w9) := Lib.hid (HB_8.out.trans (hb9.mono HZ7.out))
      clear hrow9 hb9 SA HR8 HB_8
      go_wp2_with fail
      refine (Q4.out _).mono ?_
      rintro e y10 ⟨vf, rfl, hs, hb⟩
      have SE' := Lib.hid (SE.out.keep hb)
      clear SE
      have SE := SE'
      clear SE'
      have SF := Lib.hid hs
      clear hs
      have HB_10 := Lib.hid (below_from HB9.out hb)
      clear hb HB9
      go_wp2_with fail
      refine (same_self _ _ (rl ++ a) (by simp; omega) _ SF.out SE.out).mono ?_
      rintro e y11 ⟨rfl, hb⟩
      clear SF
      clear SE
      have HB_11 := Lib.hid (below_from HB_10.out hb)
      clear hb HB_10
      go_wp2_with fail
      refine (fixed_true _).mono ?_
      rintro e y12 ⟨rfl, hb⟩
      have HB_12 := Lib.hid (below_from HB_11.out hb)
      clear hb HB_11
      go_wp2_with fail
      go_ret
      exact ⟨rfl, HB_12.out⟩

set_option maxRecDepth 100000 in
set_option maxHeartbeats 12800000 in
theorem scriptBack_yx (ao : Option Addr) (N cap : Nat) (l rl a : List It) (R : Nat → List It) (s p p2 : ByteArray) (c : Int) (hN : 100 < N) (hNc : N ≤ cap) (hlm : l.length = 100) (hs : s.size ≤ 400) (hpz : p.size ≤ 400) (hrl : rl.length ≤ 100) (ha : a.length ≤ 100) (R0 : Hid (R 0 = [])) (Ry : Hid (∀ j, j < 100 → rightU (l.getD j Sc.zero) c = true → R (j + 1) = R j ++ [l.getD j Sc.zero])) (Rn : Hid (∀ j, j < 100 → rightU (l.getD j Sc.zero) c = false → R (j + 1) = R j)) (Rm : Hid (R 100 = rl)) (Rl : Hid (∀ j, (R j).length ≤ j)) (P1 : Hid (∀ (v : Value) (w : World), SlIt w v l → Calls Try.prog 16 #[v, .int .i64 c] w fun e w' => e = .returned (.string p) ∧ Below w.heap.size w w')) (Q1 : Hid (∀ w : World, Calls Try.prog 12 #[.string s, .int .i64 c] w fun e w' => ∃ v, e = .returned v ∧ SlIt w' v a ∧ Below w.heap.size w w')) (Q2 : Hid (∀ w : World, Calls Try.prog 12 #[.string p, .int .i64 c] w fun e w' => ∃ v, e = .returned v ∧ SlIt w' v rl ∧ Below w.heap.size w w')) (P2 : Hid (∀ (v : Value) (w : World), SlIt w v a → Calls Try.prog 16 #[v, .int .i64 c] w fun e w' => e = .returned (.string p2) ∧ Below w.heap.size w w')) (Q3 : Hid (∀ w : World, Calls Try.prog 12 #[.string p2, .int .i64 c] w fun e w' => ∃ v, e = .returned v ∧ SlIt w' v a ∧ Below w.heap.size w w')) (Q4 : Hid (∀ w : World, Calls Try.prog 12 #[.string (p ++ s), .int .i64 c] w fun e w' => ∃ v, e = .returned v ∧ SlIt w' v (rl ++ a) ∧ Below w.heap.size w w')) (W : World) (HS : Hid (SlIt W (.slice ao 100 cap) l)) :
    Calls Try.prog 5 #[.slice ao N cap, .string s, .int .i64 c] W fun e w' => e = .returned (.bool true) ∧ Below W.heap.size W w' := by
  have hN' : (100 : Int) < (N : Int) := by omega
  have hNc' : (N : Int) ≤ (cap : Int) := by omega
  have hc0 : (0 : Int) ≤ (cap : Int) := by omega
  have hcc : (100 : Int) ≤ (cap : Int) := by omega
  have h' : (s.size : Int) ≤ 400 := by omega
  have hsum : p.size + s.size ≤ 9223372036854775807 := by omega
  have hsum' : (p.size : Int) + (s.size : Int) ≤ 9223372036854775807 := by omega
  go_enter Try.func5, Try.ntmps5
  go_wp2_with fail
  go_loopw [7, 8] (fun v i wr => ∃ j : Nat, j ≤ 100 ∧ i = .int .i64 j ∧ Hid (Row wr W.heap.size v (R j)) ∧ Hid (Below W.heap.size W wr)) (fun _ i _ => 100 - (intOf i).toNat)
  case atStart => exact ⟨0, Nat.zero_le _, rfl, Lib.hid (by rw [R0.out]; exact Row.empty W (Nat.le_refl _)), Lib.hid (below_new (Below.refl _ _) _)⟩
  case round =>
    obtain ⟨j, hj, rfl, hrow, hnx⟩ := hrel
    by_cases hlt : j < 100
    · have hlt' : (j : Int) < 100 := by omega
      have hj0 : (0 : Int) ≤ (j : Int) := by omega
      obtain ⟨ao', cap', e1, hcl⟩ := HS.out
      injection e1 with e1 e2 e3
      subst e1 e3
      obtain ⟨g, o, hao, hg, hc⟩ := hcl (fun h => by rw [h] at hlm; simp at hlm <;> omega)
      subst hao
      obtain ⟨x, hx⟩ : ∃ x, l.getD j Sc.zero = x := ⟨_, rfl⟩
      obtain ⟨a0, a1, a2, a3⟩ := hc j (by omega)
      rw [hx] at a0 a1 a2 a3
      have c0 := (hnx.out.cell (p := ⟨g, o + j * 4, none⟩) hg).trans a0
      have c1 := (hnx.out.cell (p := ⟨g, o + j * 4 + 1, none⟩) hg).trans a1
      have c2 := (hnx.out.cell (p := ⟨g, o + j * 4 + 2, none⟩) hg).trans a2
      have c3 := (hnx.out.cell (p := ⟨g, o + j * 4 + 3, none⟩) hg).trans a3
      have HX := Lib.hid hx
      clear hx hcl hc e2 a0 a1 a2 a3
      have step : ∀ t : Bool, rightU x c = t → Hid (∀ w : World, Calls Try.prog 14 #[(.agg #[.int .i64 x.k, .int .i64 x.c, .int .i64 x.a, .int .i64 x.b]), .int .i64 c] w fun e w' => e = .returned (.bool t) ∧ Below w.heap.size w w') := fun t ht => Lib.hid (fun w => by
        have h := right_any x c w
        rw [ht] at h
        exact h)
      by_cases hrt : rightU x c = true
      · have RC := step true hrt
        have eR : Hid (R (j + 1) = R j ++ [x]) := Lib.hid (by
          have h := Ry.out j hlt (by rw [HX.out]; exact hrt)
          rw [HX.out] at h
          exact h)
        clear step hrt
        go_wp2_with fail
        refine (RC.out _).mono ?_
        rintro e w2 ⟨rfl, hb⟩
        have HB2 : Hid (Below W.heap.size W w2) := Lib.hid (below_from hnx.out hb)
        have HR2 := Lib.hid (hrow.out.keep hb)
        have d0 := (hb.cell (p := ⟨g, o + j * 4, none⟩) (World.block_lt_of_cell? _ _ c0)).trans c0
        have d1 := (hb.cell (p := ⟨g, o + j * 4 + 1, none⟩) (World.block_lt_of_cell? _ _ c1)).trans c1
        have d2 := (hb.cell (p := ⟨g, o + j * 4 + 2, none⟩) (World.block_lt_of_cell? _ _ c2)).trans c2
        have d3 := (hb.cell (p := ⟨g, o + j * 4 + 3, none⟩) (World.block_lt_of_cell? _ _ c3)).trans c3
        clear hb c0 c1 c2 c3
        go_wp2_with (first | (at_builtin; refine wpList_append_items rfl (.tmp 35) (.tmp 40) rfl W.heap.size _ _ (R j) [x] rfl HR2.out.alloc rfl (SlIt.of1 _ x) (by have := Rl.out j; simp; omega) ?_) | fail)
        intro v' w3 hrow3 hb3
        have HR3 : Hid (Row w3 W.heap.size v' (R (j + 1))) := Lib.hid (by rw [eR.out]; exact hrow3)
        have HB3 : Hid (Below W.heap.size W w3) := Lib.hid ((below_new HB2.out _).trans hb3)
        clear hrow3 hb3 d0 d1 d2 d3
        go_wp2_with fail
        go_roundw
        case rel => exact ⟨j + 1, by omega, by go_num, HR3, HB3⟩
        case measure => simp [intOf]; omega
      · have hrf : rightU x c = false := by simpa using hrt
        have RC := step false hrf
        have eR : Hid (R (j + 1) = R j) := Lib.hid (Rn.out j hlt (by rw [HX.out]; exact hrf))
        clear step hrt hrf
        go_wp2_with fail
        refine (RC.out _).mono ?_
        rintro e w2 ⟨rfl, hb⟩
        have HB2 : Hid (Below W.heap.size W w2) := Lib.hid (below_from hnx.out hb)
        have HR2 : Hid (Row w2 W.heap.size _ (R (j + 1))) := Lib.hid (by rw [eR.out]; exact hrow.out.keep hb)
        clear hb c0 c1 c2 c3
        go_wp2_with fail
        go_roundw
        case rel => exact ⟨j + 1, by omega, by go_num, HR2, HB2⟩
        case measure => simp [intOf]; omega
    · have hje : j = 100 := by omega
      subst hje
      have hnl : ¬ (100 : Int) < 100 := by omega
      have SR : Hid (SlIt wr _ rl) := Lib.hid (by
        have h := hrow.out.is
        rw [Rm.out] at h
        exact h)
      have SL := Lib.hid (HS.out.keep hnx.out)
      clear hrow
      go_wp2_with fail
      refine (P1.out _ _ SL.out).mono ?_
      rintro e y1 ⟨rfl, hb⟩
      clear SL
      have SR' := Lib.hid (SR.out.keep hb)
      clear SR
      have SR := SR'
      clear SR'
      have HB_1 := Lib.hid (below_from hnx.out hb)
      clear hb hnx
      go_wp2_with fail
      refine (Q1.out _).mono ?_
      rintro e y2 ⟨va, rfl, hs, hb⟩
      have SR' := Lib.hid (SR.out.keep hb)
      clear SR
      have SR := SR'
      clear SR'
      have SA := Lib.hid hs
      clear hs
      have HB_2 := Lib.hid (below_from HB_1.out hb)
      clear hb HB_1
      go_wp2_with fail
      refine (Q2.out _).mono ?_
      rintro e y3 ⟨vb, rfl, hs, hb⟩
      have SR' := Lib.hid (SR.out.keep hb)
      clear SR
      have SR := SR'
      clear SR'
      have SA' := Lib.hid (SA.out.keep hb)
      clear SA
      have SA := SA'
      clear SA'
      have SB := Lib.hid hs
      clear hs
      have HB_3 := Lib.hid (below_from HB_2.out hb)
      clear hb HB_2
      go_wp2_with fail
      refine (same_self _ _ rl (by omega) _ SB.out SR.out).mono ?_
      rintro e y4 ⟨rfl, hb⟩
      clear SB
      have SR' := Lib.hid (SR.out.keep hb)
      clear SR
      have SR := SR'
      clear SR'
      have SA' := Lib.hid (SA.out.keep hb)
      clear SA
      have SA := SA'
      clear SA'
      have HB_4 := Lib.hid (below_from HB_3.out hb)
      clear hb HB_3
      go_wp2_with fail
      refine (P2.out _ _ SA.out).mono ?_
      rintro e y5 ⟨rfl, hb⟩
      have SR' := Lib.hid (SR.out.keep hb)
      clear SR
      have SR := SR'
      clear SR'
      have SA' := Lib.hid (SA.out.keep hb)
      clear SA
      have SA := SA'
      clear SA'
      have HB_5 := Lib.hid (below_from HB_4.out hb)
      clear hb HB_4
      go_wp2_with fail
      refine (Q3.out _).mono ?_
      rintro e y6 ⟨vc, rfl, hs, hb⟩
      have SR' := Lib.hid (SR.out.keep hb)
      clear SR
      have SR := SR'
      clear SR'
      have SA' := Lib.hid (SA.out.keep hb)
      clear SA
      have SA := SA'
      clear SA'
      have SC := Lib.hid hs
      clear hs
      have HB_6 := Lib.hid (below_from HB_5.out hb)
      clear hb HB_5
      go_wp2_with fail
      refine (same_self _ _ a (by omega) _ SC.out SA.out).mono ?_
      rintro e y7 ⟨rfl, hb⟩
      clear SC
      have SR' := Lib.hid (SR.out.keep hb)
      clear SR
      have SR := SR'
      clear SR'
      have SA' := Lib.hid (SA.out.keep hb)
      clear SA
      have SA := SA'
      clear SA'
      have HB_7 := Lib.hid (below_from HB_6.out hb)
      clear hb HB_6
      have HZ7 : Hid (W.heap.size ≤ y7.heap.size) := Lib.hid HB_7.out.size
      go_wp2_with (first | (at_builtin; refine wpList_append_items rfl (.tmp 64) (.tmp 65) rfl y7.heap.size _ _ [] rl rfl (Row.empty y7 (Nat.le_refl _)) rfl SR.out.alloc (by simp; omega) ?_) | fail)
      intro vd w8 hrow8 hb8
      have hb := (below_new (Below.refl y7.heap.size y7) (.cells #[] 29)).trans hb8
      have HR8 : Hid (Row w8 y7.heap.size vd rl) := Lib.hid hrow8
      clear hrow8 hb8
      clear SR
      have SA' := Lib.hid (SA.out.keep hb)
      clear SA
      have SA := SA'
      clear SA'
      have HB_8 := Lib.hid (below_from HB_7.out hb)
      clear hb HB_7
      go_wp2_with (first | (at_builtin; refine wpList_append_items rfl (.tmp 67) (.tmp 68) rfl y7.heap.size _ _ rl a rfl HR8.out rfl SA.out (by omega) ?_) | fail)
      intro ve w9 hrow9 hb9
      have SE := Lib.hid hrow9.is
      have HB9 : Hid (Below W.heap.size W w9) := Lib.hid (HB_8.out.trans (hb9.mono HZ7.out))
      clear hrow9 hb9 SA HR8 HB_8
      go_wp2_with fail
      refine (Q4.out _).mono ?_
      rintro e y10 ⟨vf, rfl, hs, hb⟩
      have SE' := Lib.hid (SE.out.keep hb)
      clear SE
      have SE := SE'
      clear SE'
      have SF := Lib.hid hs
      clear hs
      have HB_10 := Lib.hid (below_from HB9.out hb)
      clear hb HB9
      go_wp2_with fail
      refine (same_self _ _ (rl ++ a) (by simp; omega) _ SF.out SE.out).mono ?_
      rintro e y11 ⟨rfl, hb⟩
      clear SF
      clear SE
      have HB_11 := Lib.hid (below_from HB_10.out hb)
      clear hb HB_10
      go_wp2_with fail
      refine (fixed_true _).mono ?_
      rintro e y12 ⟨rfl, hb⟩
      have HB_12 := Lib.hid (below_from HB_11.out hb)
      clear hb HB_11
      go_wp2_with fail
      go_ret
      exact ⟨rfl, HB_12.out⟩

set_option maxRecDepth 100000 in
set_option maxHeartbeats 12800000 in
theorem scriptBack_yy (ao : Option Addr) (N cap : Nat) (l rl a : List It) (R : Nat → List It) (s t p p2 : ByteArray) (c : Int) (hN : 100 < N) (hNc : N ≤ cap) (hlm : l.length = 100) (hs : 400 < s.size) (hq : s.extract 0 400 = t) (hpz : p.size ≤ 400) (hrl : rl.length ≤ 100) (ha : a.length ≤ 100) (R0 : Hid (R 0 = [])) (Ry : Hid (∀ j, j < 100 → rightU (l.getD j Sc.zero) c = true → R (j + 1) = R j ++ [l.getD j Sc.zero])) (Rn : Hid (∀ j, j < 100 → rightU (l.getD j Sc.zero) c = false → R (j + 1) = R j)) (Rm : Hid (R 100 = rl)) (Rl : Hid (∀ j, (R j).length ≤ j)) (P1 : Hid (∀ (v : Value) (w : World), SlIt w v l → Calls Try.prog 16 #[v, .int .i64 c] w fun e w' => e = .returned (.string p) ∧ Below w.heap.size w w')) (Q1 : Hid (∀ w : World, Calls Try.prog 12 #[.string t, .int .i64 c] w fun e w' => ∃ v, e = .returned v ∧ SlIt w' v a ∧ Below w.heap.size w w')) (Q2 : Hid (∀ w : World, Calls Try.prog 12 #[.string p, .int .i64 c] w fun e w' => ∃ v, e = .returned v ∧ SlIt w' v rl ∧ Below w.heap.size w w')) (P2 : Hid (∀ (v : Value) (w : World), SlIt w v a → Calls Try.prog 16 #[v, .int .i64 c] w fun e w' => e = .returned (.string p2) ∧ Below w.heap.size w w')) (Q3 : Hid (∀ w : World, Calls Try.prog 12 #[.string p2, .int .i64 c] w fun e w' => ∃ v, e = .returned v ∧ SlIt w' v a ∧ Below w.heap.size w w')) (Q4 : Hid (∀ w : World, Calls Try.prog 12 #[.string (p ++ t), .int .i64 c] w fun e w' => ∃ v, e = .returned v ∧ SlIt w' v (rl ++ a) ∧ Below w.heap.size w w')) (W : World) (HS : Hid (SlIt W (.slice ao 100 cap) l)) :
    Calls Try.prog 5 #[.slice ao N cap, .string s, .int .i64 c] W fun e w' => e = .returned (.bool true) ∧ Below W.heap.size W w' := by
  have hN' : (100 : Int) < (N : Int) := by omega
  have hNc' : (N : Int) ≤ (cap : Int) := by omega
  have hc0 : (0 : Int) ≤ (cap : Int) := by omega
  have hcc : (100 : Int) ≤ (cap : Int) := by omega
  have h' : (400 : Int) < (s.size : Int) := by omega
  have htz : t.size ≤ 400 := by rw [← hq, ByteArray.size_extract]; omega
  have hsum : p.size + t.size ≤ 9223372036854775807 := by omega
  have hsum' : (p.size : Int) + (t.size : Int) ≤ 9223372036854775807 := by omega
  go_enter Try.func5, Try.ntmps5
  go_wp2_with fail
  go_loopw [7, 8] (fun v i wr => ∃ j : Nat, j ≤ 100 ∧ i = .int .i64 j ∧ Hid (Row wr W.heap.size v (R j)) ∧ Hid (Below W.heap.size W wr)) (fun _ i _ => 100 - (intOf i).toNat)
  case atStart => exact ⟨0, Nat.zero_le _, rfl, Lib.hid (by rw [R0.out]; exact Row.empty W (Nat.le_refl _)), Lib.hid (below_new (Below.refl _ _) _)⟩
  case round =>
    obtain ⟨j, hj, rfl, hrow, hnx⟩ := hrel
    by_cases hlt : j < 100
    · have hlt' : (j : Int) < 100 := by omega
      have hj0 : (0 : Int) ≤ (j : Int) := by omega
      obtain ⟨ao', cap', e1, hcl⟩ := HS.out
      injection e1 with e1 e2 e3
      subst e1 e3
      obtain ⟨g, o, hao, hg, hc⟩ := hcl (fun h => by rw [h] at hlm; simp at hlm <;> omega)
      subst hao
      obtain ⟨x, hx⟩ : ∃ x, l.getD j Sc.zero = x := ⟨_, rfl⟩
      obtain ⟨a0, a1, a2, a3⟩ := hc j (by omega)
      rw [hx] at a0 a1 a2 a3
      have c0 := (hnx.out.cell (p := ⟨g, o + j * 4, none⟩) hg).trans a0
      have c1 := (hnx.out.cell (p := ⟨g, o + j * 4 + 1, none⟩) hg).trans a1
      have c2 := (hnx.out.cell (p := ⟨g, o + j * 4 + 2, none⟩) hg).trans a2
      have c3 := (hnx.out.cell (p := ⟨g, o + j * 4 + 3, none⟩) hg).trans a3
      have HX := Lib.hid hx
      clear hx hcl hc e2 a0 a1 a2 a3
      have step : ∀ t : Bool, rightU x c = t → Hid (∀ w : World, Calls Try.prog 14 #[(.agg #[.int .i64 x.k, .int .i64 x.c, .int .i64 x.a, .int .i64 x.b]), .int .i64 c] w fun e w' => e = .returned (.bool t) ∧ Below w.heap.size w w') := fun t ht => Lib.hid (fun w => by
        have h := right_any x c w
        rw [ht] at h
        exact h)
      by_cases hrt : rightU x c = true
      · have RC := step true hrt
        have eR : Hid (R (j + 1) = R j ++ [x]) := Lib.hid (by
          have h := Ry.out j hlt (by rw [HX.out]; exact hrt)
          rw [HX.out] at h
          exact h)
        clear step hrt
        go_wp2_with fail
        refine (RC.out _).mono ?_
        rintro e w2 ⟨rfl, hb⟩
        have HB2 : Hid (Below W.heap.size W w2) := Lib.hid (below_from hnx.out hb)
        have HR2 := Lib.hid (hrow.out.keep hb)
        have d0 := (hb.cell (p := ⟨g, o + j * 4, none⟩) (World.block_lt_of_cell? _ _ c0)).trans c0
        have d1 := (hb.cell (p := ⟨g, o + j * 4 + 1, none⟩) (World.block_lt_of_cell? _ _ c1)).trans c1
        have d2 := (hb.cell (p := ⟨g, o + j * 4 + 2, none⟩) (World.block_lt_of_cell? _ _ c2)).trans c2
        have d3 := (hb.cell (p := ⟨g, o + j * 4 + 3, none⟩) (World.block_lt_of_cell? _ _ c3)).trans c3
        clear hb c0 c1 c2 c3
        go_wp2_with (first | (at_builtin; refine wpList_append_items rfl (.tmp 35) (.tmp 40) rfl W.heap.size _ _ (R j) [x] rfl HR2.out.alloc rfl (SlIt.of1 _ x) (by have := Rl.out j; simp; omega) ?_) | fail)
        intro v' w3 hrow3 hb3
        have HR3 : Hid (Row w3 W.heap.size v' (R (j + 1))) := Lib.hid (by rw [eR.out]; exact hrow3)
        have HB3 : Hid (Below W.heap.size W w3) := Lib.hid ((below_new HB2.out _).trans hb3)
        clear hrow3 hb3 d0 d1 d2 d3
        go_wp2_with fail
        go_roundw
        case rel => exact ⟨j + 1, by omega, by go_num, HR3, HB3⟩
        case measure => simp [intOf]; omega
      · have hrf : rightU x c = false := by simpa using hrt
        have RC := step false hrf
        have eR : Hid (R (j + 1) = R j) := Lib.hid (Rn.out j hlt (by rw [HX.out]; exact hrf))
        clear step hrt hrf
        go_wp2_with fail
        refine (RC.out _).mono ?_
        rintro e w2 ⟨rfl, hb⟩
        have HB2 : Hid (Below W.heap.size W w2) := Lib.hid (below_from hnx.out hb)
        have HR2 : Hid (Row w2 W.heap.size _ (R (j + 1))) := Lib.hid (by rw [eR.out]; exact hrow.out.keep hb)
        clear hb c0 c1 c2 c3
        go_wp2_with fail
        go_roundw
        case rel => exact ⟨j + 1, by omega, by go_num, HR2, HB2⟩
        case measure => simp [intOf]; omega
    · have hje : j = 100 := by omega
      subst hje
      have hnl : ¬ (100 : Int) < 100 := by omega
      have SR : Hid (SlIt wr _ rl) := Lib.hid (by
        have h := hrow.out.is
        rw [Rm.out] at h
        exact h)
      have SL := Lib.hid (HS.out.keep hnx.out)
      clear hrow
      go_wp2_with fail
      refine (P1.out _ _ SL.out).mono ?_
      rintro e y1 ⟨rfl, hb⟩
      clear SL
      have SR' := Lib.hid (SR.out.keep hb)
      clear SR
      have SR := SR'
      clear SR'
      have HB_1 := Lib.hid (below_from hnx.out hb)
      clear hb hnx
      go_wp2_with fail
      refine (Q1.out _).mono ?_
      rintro e y2 ⟨va, rfl, hs, hb⟩
      have SR' := Lib.hid (SR.out.keep hb)
      clear SR
      have SR := SR'
      clear SR'
      have SA := Lib.hid hs
      clear hs
      have HB_2 := Lib.hid (below_from HB_1.out hb)
      clear hb HB_1
      go_wp2_with fail
      refine (Q2.out _).mono ?_
      rintro e y3 ⟨vb, rfl, hs, hb⟩
      have SR' := Lib.hid (SR.out.keep hb)
      clear SR
      have SR := SR'
      clear SR'
      have SA' := Lib.hid (SA.out.keep hb)
      clear SA
      have SA := SA'
      clear SA'
      have SB := Lib.hid hs
      clear hs
      have HB_3 := Lib.hid (below_from HB_2.out hb)
      clear hb HB_2
      go_wp2_with fail
      refine (same_self _ _ rl (by omega) _ SB.out SR.out).mono ?_
      rintro e y4 ⟨rfl, hb⟩
      clear SB
      have SR' := Lib.hid (SR.out.keep hb)
      clear SR
      have SR := SR'
      clear SR'
      have SA' := Lib.hid (SA.out.keep hb)
      clear SA
      have SA := SA'
      clear SA'
      have HB_4 := Lib.hid (below_from HB_3.out hb)
      clear hb HB_3
      go_wp2_with fail
      refine (P2.out _ _ SA.out).mono ?_
      rintro e y5 ⟨rfl, hb⟩
      have SR' := Lib.hid (SR.out.keep hb)
      clear SR
      have SR := SR'
      clear SR'
      have SA' := Lib.hid (SA.out.keep hb)
      clear SA
      have SA := SA'
      clear SA'
      have HB_5 := Lib.hid (below_from HB_4.out hb)
      clear hb HB_4
      go_wp2_with fail
      refine (Q3.out _).mono ?_
      rintro e y6 ⟨vc, rfl, hs, hb⟩
      have SR' := Lib.hid (SR.out.keep hb)
      clear SR
      have SR := SR'
      clear SR'
      have SA' := Lib.hid (SA.out.keep hb)
      clear SA
      have SA := SA'
      clear SA'
      have SC := Lib.hid hs
      clear hs
      have HB_6 := Lib.hid (below_from HB_5.out hb)
      clear hb HB_5
      go_wp2_with fail
      refine (same_self _ _ a (by omega) _ SC.out SA.out).mono ?_
      rintro e y7 ⟨rfl, hb⟩
      clear SC
      have SR' := Lib.hid (SR.out.keep hb)
      clear SR
      have SR := SR'
      clear SR'
      have SA' := Lib.hid (SA.out.keep hb)
      clear SA
      have SA := SA'
      clear SA'
      have HB_7 := Lib.hid (below_from HB_6.out hb)
      clear hb HB_6
      have HZ7 : Hid (W.heap.size ≤ y7.heap.size) := Lib.hid HB_7.out.size
      go_wp2_with (first | (at_builtin; refine wpList_append_items rfl (.tmp 64) (.tmp 65) rfl y7.heap.size _ _ [] rl rfl (Row.empty y7 (Nat.le_refl _)) rfl SR.out.alloc (by simp; omega) ?_) | fail)
      intro vd w8 hrow8 hb8
      have hb := (below_new (Below.refl y7.heap.size y7) (.cells #[] 29)).trans hb8
      have HR8 : Hid (Row w8 y7.heap.size vd rl) := Lib.hid hrow8
      clear hrow8 hb8
      clear SR
      have SA' := Lib.hid (SA.out.keep hb)
      clear SA
      have SA := SA'
      clear SA'
      have HB_8 := Lib.hid (below_from HB_7.out hb)
      clear hb HB_7
      go_wp2_with (first | (at_builtin; refine wpList_append_items rfl (.tmp 67) (.tmp 68) rfl y7.heap.size _ _ rl a rfl HR8.out rfl SA.out (by omega) ?_) | fail)
      intro ve w9 hrow9 hb9
      have SE := Lib.hid hrow9.is
      have HB9 : Hid (Below W.heap.size W w9) := Lib.hid (HB_8.out.trans (hb9.mono HZ7.out))
      clear hrow9 hb9 SA HR8 HB_8
      go_wp2_with fail
      refine (Q4.out _).mono ?_
      rintro e y10 ⟨vf, rfl, hs, hb⟩
      have SE' := Lib.hid (SE.out.keep hb)
      clear SE
      have SE := SE'
      clear SE'
      have SF := Lib.hid hs
      clear hs
      have HB_10 := Lib.hid (below_from HB9.out hb)
      clear hb HB9
      go_wp2_with fail
      refine (same_self _ _ (rl ++ a) (by simp; omega) _ SF.out SE.out).mono ?_
      rintro e y11 ⟨rfl, hb⟩
      clear SF
      clear SE
      have HB_11 := Lib.hid (below_from HB_10.out hb)
      clear hb HB_10
      go_wp2_with fail
      refine (fixed_true _).mono ?_
      rintro e y12 ⟨rfl, hb⟩
      have HB_12 := Lib.hid (below_from HB_11.out hb)
      clear hb HB_11
      go_wp2_with fail
      go_ret
      exact ⟨rfl, HB_12.out⟩

theorem scriptBack_walk (s : ByteArray) (c : Int) (ao : Option Addr) (N cap : Nat) (L : List It) (hNc : N ≤ cap) (hL : L.length = N) (W : World) (hS : SlIt W (.slice ao N cap) L) :
    Calls Try.prog 5 #[.slice ao N cap, .string s, .int .i64 c] W fun e w' => e = .returned (.bool true) ∧ Below W.heap.size W w' := by
  by_cases hN : N ≤ 100
  · by_cases hs : s.size ≤ 400
    · exact scriptBack_xx ao N cap L (rights L c) (parseL s c) (fun j => rights (L.take j) c) s _ _ c hN hNc hL hs (by have := printL_len L c; show (printL L c).toArray.size ≤ _; simp; omega) (by have := rights_len L c; omega) (by have := parseL_len s c; omega) (Lib.hid rfl) (Lib.hid (fun j hj hr => by
        have h := rights_take L c j (by omega)
        rw [if_pos hr] at h
        exact h)) (Lib.hid (fun j hj hr => by
        have h := rights_take L c j (by omega)
        rw [hr] at h
        simpa using h)) (Lib.hid (by
        show rights (L.take _) c = rights L c
        rw [← hL, List.take_length])) (Lib.hid (fun j => by
        have h1 := rights_len (L.take j) c
        have h2 : (L.take j).length ≤ j := by rw [List.length_take]; omega
        exact Nat.le_trans h1 h2)) (Lib.hid (fun v w h => print_any v L c (by omega) w h)) (Lib.hid (fun w => parse_any s c (by omega) w)) (Lib.hid (fun w => by
        have h := parse_any ⟨(printL L c).toArray⟩ c (by have := printL_len L c; show (printL L c).toArray.size ≤ _; simp; omega) w
        rw [parse_print] at h
        exact h)) (Lib.hid (fun v w h => print_any v (parseL s c) c (by have := parseL_len s c; omega) w h)) (Lib.hid (fun w => by
        have h := parse_any ⟨(printL (parseL s c) c).toArray⟩ c (by have := printL_len (parseL s c) c; have := parseL_len s c; show (printL (parseL s c) c).toArray.size ≤ _; simp; omega) w
        rw [parse_print, rights_self] at h
        exact h)) (Lib.hid (fun w => by
        have h := parse_any (⟨(printL L c).toArray⟩ ++ s) c (by have := printL_len L c; rw [ByteArray.size_append]; show (printL L c).toArray.size + _ ≤ _; simp; omega) w
        rw [parse_both] at h
        exact h)) W (Lib.hid hS)
    · obtain ⟨t, ht⟩ : ∃ t, s.extract 0 400 = t := ⟨_, rfl⟩
      have hz : t.size ≤ 400 := by rw [← ht, ByteArray.size_extract]; omega
      exact scriptBack_xy ao N cap L (rights L c) (parseL t c) (fun j => rights (L.take j) c) s t _ _ c hN hNc hL (by omega) ht (by have := printL_len L c; show (printL L c).toArray.size ≤ _; simp; omega) (by have := rights_len L c; omega) (by have := parseL_len t c; omega) (Lib.hid rfl) (Lib.hid (fun j hj hr => by
        have h := rights_take L c j (by omega)
        rw [if_pos hr] at h
        exact h)) (Lib.hid (fun j hj hr => by
        have h := rights_take L c j (by omega)
        rw [hr] at h
        simpa using h)) (Lib.hid (by
        show rights (L.take _) c = rights L c
        rw [← hL, List.take_length])) (Lib.hid (fun j => by
        have h1 := rights_len (L.take j) c
        have h2 : (L.take j).length ≤ j := by rw [List.length_take]; omega
        exact Nat.le_trans h1 h2)) (Lib.hid (fun v w h => print_any v L c (by omega) w h)) (Lib.hid (fun w => parse_any t c (by omega) w)) (Lib.hid (fun w => by
        have h := parse_any ⟨(printL L c).toArray⟩ c (by have := printL_len L c; show (printL L c).toArray.size ≤ _; simp; omega) w
        rw [parse_print] at h
        exact h)) (Lib.hid (fun v w h => print_any v (parseL t c) c (by have := parseL_len t c; omega) w h)) (Lib.hid (fun w => by
        have h := parse_any ⟨(printL (parseL t c) c).toArray⟩ c (by have := printL_len (parseL t c) c; have := parseL_len t c; show (printL (parseL t c) c).toArray.size ≤ _; simp; omega) w
        rw [parse_print, rights_self] at h
        exact h)) (Lib.hid (fun w => by
        have h := parse_any (⟨(printL L c).toArray⟩ ++ t) c (by have := printL_len L c; rw [ByteArray.size_append]; show (printL L c).toArray.size + _ ≤ _; simp; omega) w
        rw [parse_both] at h
        exact h)) W (Lib.hid hS)
  · obtain ⟨M, hM⟩ : ∃ M, L.take 100 = M := ⟨_, rfl⟩
    have hl : M.length = 100 := by rw [← hM, List.length_take]; omega
    have hS' : SlIt W (.slice ao 100 cap) M := by rw [← hM]; exact hS.take (by omega)
    by_cases hs : s.size ≤ 400
    · exact scriptBack_yx ao N cap M (rights M c) (parseL s c) (fun j => rights (M.take j) c) s _ _ c (by omega) hNc hl hs (by have := printL_len M c; show (printL M c).toArray.size ≤ _; simp; omega) (by have := rights_len M c; omega) (by have := parseL_len s c; omega) (Lib.hid rfl) (Lib.hid (fun j hj hr => by
        have h := rights_take M c j (by omega)
        rw [if_pos hr] at h
        exact h)) (Lib.hid (fun j hj hr => by
        have h := rights_take M c j (by omega)
        rw [hr] at h
        simpa using h)) (Lib.hid (by
        show rights (M.take _) c = rights M c
        rw [← hl, List.take_length])) (Lib.hid (fun j => by
        have h1 := rights_len (M.take j) c
        have h2 : (M.take j).length ≤ j := by rw [List.length_take]; omega
        exact Nat.le_trans h1 h2)) (Lib.hid (fun v w h => print_any v M c (by omega) w h)) (Lib.hid (fun w => parse_any s c (by omega) w)) (Lib.hid (fun w => by
        have h := parse_any ⟨(printL M c).toArray⟩ c (by have := printL_len M c; show (printL M c).toArray.size ≤ _; simp; omega) w
        rw [parse_print] at h
        exact h)) (Lib.hid (fun v w h => print_any v (parseL s c) c (by have := parseL_len s c; omega) w h)) (Lib.hid (fun w => by
        have h := parse_any ⟨(printL (parseL s c) c).toArray⟩ c (by have := printL_len (parseL s c) c; have := parseL_len s c; show (printL (parseL s c) c).toArray.size ≤ _; simp; omega) w
        rw [parse_print, rights_self] at h
        exact h)) (Lib.hid (fun w => by
        have h := parse_any (⟨(printL M c).toArray⟩ ++ s) c (by have := printL_len M c; rw [ByteArray.size_append]; show (printL M c).toArray.size + _ ≤ _; simp; omega) w
        rw [parse_both] at h
        exact h)) W (Lib.hid hS')
    · obtain ⟨t, ht⟩ : ∃ t, s.extract 0 400 = t := ⟨_, rfl⟩
      have hz : t.size ≤ 400 := by rw [← ht, ByteArray.size_extract]; omega
      exact scriptBack_yy ao N cap M (rights M c) (parseL t c) (fun j => rights (M.take j) c) s t _ _ c (by omega) hNc hl (by omega) ht (by have := printL_len M c; show (printL M c).toArray.size ≤ _; simp; omega) (by have := rights_len M c; omega) (by have := parseL_len t c; omega) (Lib.hid rfl) (Lib.hid (fun j hj hr => by
        have h := rights_take M c j (by omega)
        rw [if_pos hr] at h
        exact h)) (Lib.hid (fun j hj hr => by
        have h := rights_take M c j (by omega)
        rw [hr] at h
        simpa using h)) (Lib.hid (by
        show rights (M.take _) c = rights M c
        rw [← hl, List.take_length])) (Lib.hid (fun j => by
        have h1 := rights_len (M.take j) c
        have h2 : (M.take j).length ≤ j := by rw [List.length_take]; omega
        exact Nat.le_trans h1 h2)) (Lib.hid (fun v w h => print_any v M c (by omega) w h)) (Lib.hid (fun w => parse_any t c (by omega) w)) (Lib.hid (fun w => by
        have h := parse_any ⟨(printL M c).toArray⟩ c (by have := printL_len M c; show (printL M c).toArray.size ≤ _; simp; omega) w
        rw [parse_print] at h
        exact h)) (Lib.hid (fun v w h => print_any v (parseL t c) c (by have := parseL_len t c; omega) w h)) (Lib.hid (fun w => by
        have h := parse_any ⟨(printL (parseL t c) c).toArray⟩ c (by have := printL_len (parseL t c) c; have := parseL_len t c; show (printL (parseL t c) c).toArray.size ≤ _; simp; omega) w
        rw [parse_print, rights_self] at h
        exact h)) (Lib.hid (fun w => by
        have h := parse_any (⟨(printL M c).toArray⟩ ++ t) c (by have := printL_len M c; rw [ByteArray.size_append]; show (printL M c).toArray.size + _ ≤ _; simp; omega) w
        rw [parse_both] at h
        exact h)) W (Lib.hid hS')


set_option maxRecDepth 100000 in
theorem scriptBack_lifted (os : Os) (started : os.Started) (H : Type) (enc : TypeId × Value → H) :
    ReturnsInHanded {} Try.checked os 5 .any (Rows.scriptBackSpec.pre6 enc Try.prog Try.f5 Rows.scriptBackRow.domain false) (Rows.scriptBackSpec.post enc Try.prog Try.f5 false true false false) := by
  refine returnsInHanded_of_change (C := Try.checked) own_knob started (by kernel_rfl) Try.func5
    (ChangeSpec.witness6 (enc := enc) (C := Try.checked) false ⟨#[], #[.slice none 0 0, .string .empty, .int .i64 0], []⟩ 8 (by kernel_rfl) (by kernel_rfl) (by kernel_rfl) (by kernel_rfl)) ?_
  intro W base args ds gs before hval0 hW hcnd _
  have hval : ∀ (j : Nat) t v, Try.f5.params[j]? = some t → args[j]? = some v → Value.okWide Try.prog W .any base t v := hval0
  have hW' := hW
  obtain ⟨p, q, hA0, hV, rfl, hfz, hnd⟩ := hW
  have hA : DataW.TrodAll enc Try.prog W 0 (fun _ => true) true Try.f5.params.toList args.toList ds p := hA0
  rw [Try.params5] at hA hval
  obtain ⟨v0, v1, v2, d0, d1, d2, p0, p1, p2, rfl, rfl, rfl, h0, h1, h2⟩ := trodAll_three hA
  obtain ⟨rfl, rfl⟩ := trodVars_none hV
  clear hA0 hval0
  simp only [List.append_nil] at hW'
  have hlt : ∀ x ∈ p0 ++ p1 ++ p2, x.block < W.heap.size := fun x hx => by simpa using hW'.lt x hx
  have g0 : ∀ W' : World, Below W.heap.size W W' → DataW.Trod enc Try.prog W' 0 (fun b => decide (b < W.heap.size)) true 24 v0 d0 p0 :=
    fun W' hn => Below.trod laid_out (by kernel_rfl) (of_decide_eq_true (by kernel_rfl)) h0 hn (fun x hx => hlt x (by simp [hx]))
  have g1 : ∀ W' : World, Below W.heap.size W W' → DataW.Trod enc Try.prog W' 0 (fun b => decide (b < W.heap.size)) true 9 v1 d1 p1 :=
    fun W' hn => Below.trod laid_out (by kernel_rfl) (of_decide_eq_true (by kernel_rfl)) h1 hn (fun x hx => hlt x (by simp [hx]))
  have g2 : ∀ W' : World, Below W.heap.size W W' → DataW.Trod enc Try.prog W' 0 (fun b => decide (b < W.heap.size)) true 3 v2 d2 p2 :=
    fun W' hn => Below.trod laid_out (by kernel_rfl) (of_decide_eq_true (by kernel_rfl)) h2 hn (fun x hx => hlt x (by simp [hx]))
  obtain ⟨ao, N, cap, L, rfl, hNc, hcm, hL, hS⟩ := open_items (hval 0 24 v0 rfl rfl) h0
  obtain ⟨s, rfl, _, _, l1⟩ := Go.ChangeMaps.open_string Try.underlying9 (hval 1 9 v1 rfl rfl) h1
  obtain ⟨c, rfl, _, _, w2⟩ := open_int Try.underlying3 (hval 2 3 v2 rfl rfl) h2
  have l2 := int_of_wf w2
  refine (scriptBack_walk s c ao N cap L hNc hL W hS).mono fun e W' ⟨he, hn⟩ => ?_
  subst he
  exact ⟨_, rfl, _, _, _, [], p0 ++ p1 ++ p2, [], hW', trodAll_mk1 (shut_bool Try.underlying4 true), (by rw [List.append_assoc p0 p1 p2]; exact trodAll_mk3 (g0 W' hn) (g1 W' hn) (g2 W' hn)), rfl, hn.frame _, fun h => by cases h⟩

theorem scriptBack_holds : Rows.ScriptBackSaid :=
  OpenClaim.holds_of_wide 5 Try.f5 rfl rfl rfl rfl rfl rfl rfl ⟨rfl, rfl, rfl, rfl, rfl⟩ rfl rfl rfl rfl rfl (by kernel_rfl) Try.func5 (by kernel_rfl)
    (of_decide_eq_true (by kernel_rfl)) (by unfold Func.isWrapper; first | (rw [if_pos (by decide +kernel)]; kernel_rfl) | (rw [if_neg (by decide +kernel)]; exact ⟨rfl, rfl⟩))
    (fun os started H enc _ => scriptBack_lifted os started H enc)
#print axioms scriptBack_holds
end Go.Proofs.Ytldhpecpmgjihaa
