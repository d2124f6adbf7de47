/- The fixed calls: that 'fixed' returns true, over the translation. -/
import Derived.Test.YtbgcgbelejmjiaaUbox
import Derived.KernelRfl
set_option linter.unusedVariables false
set_option linter.unusedSimpArgs false
namespace Go.Proofs.Ytbgcgbelejmjiaa
open Go.RowKit Wd Ud

theorem x_a (w : World) : Calls Try.prog 10 #[(.agg #[.int .u64 0, .int .i64 6, .int .u64 0]), .int .i64 4, .int .i64 0, .int .i64 2] w fun e w' => ∃ v, e = .returned (.tuple #[v, (.agg #[.int .u64 0, .int .i64 6, .int .u64 8]), .int .i64 0]) ∧ SlIs w' v [0, 4] ∧ Below w.heap.size w w' :=
  place_as ⟨0, 6, 0⟩ ⟨by decide⟩ ⟨by decide⟩ 4 0 2 [0, 4] ⟨0, 6, 8⟩ 0 (by kernel_rfl) w
theorem x_b (w : World) : Calls Try.prog 10 #[(.agg #[.int .u64 0, .int .i64 6, .int .u64 8]), .int .i64 3, .int .i64 0, .int .i64 1] w fun e w' => ∃ v, e = .returned (.tuple #[v, (.agg #[.int .u64 0, .int .i64 6, .int .u64 64]), .int .i64 0]) ∧ SlIs w' v [32] ∧ Below w.heap.size w w' :=
  place_as ⟨0, 6, 8⟩ ⟨by decide⟩ ⟨by decide⟩ 3 0 1 [32] ⟨0, 6, 64⟩ 0 (by kernel_rfl) w
theorem x_g (w : World) : Calls Try.prog 10 #[(.agg #[.int .u64 0, .int .i64 6, .int .u64 64]), .int .i64 5, .int .i64 0, .int .i64 1] w fun e w' => ∃ v, e = .returned (.tuple #[v, (.agg #[.int .u64 0, .int .i64 0, .int .u64 0]), .int .i64 81]) ∧ SlIs w' v [] ∧ Below w.heap.size w w' :=
  place_as ⟨0, 6, 64⟩ ⟨by decide⟩ ⟨by decide⟩ 5 0 1 [] ⟨0, 0, 0⟩ 81 (by kernel_rfl) w
theorem x_h (w : World) : Calls Try.prog 10 #[(.agg #[.int .u64 0, .int .i64 6, .int .u64 8]), .int .i64 9, .int .i64 0, .int .i64 1] w fun e w' => ∃ v, e = .returned (.tuple #[v, (.agg #[.int .u64 0, .int .i64 0, .int .u64 0]), .int .i64 80]) ∧ SlIs w' v [] ∧ Below w.heap.size w w' :=
  place_as ⟨0, 6, 8⟩ ⟨by decide⟩ ⟨by decide⟩ 9 0 1 [] ⟨0, 0, 0⟩ 80 (by kernel_rfl) w
theorem x_i (w : World) : Calls Try.prog 10 #[(.agg #[.int .u64 0, .int .i64 6, .int .u64 8]), .int .i64 2, .int .i64 9, .int .i64 1] w fun e w' => ∃ v, e = .returned (.tuple #[v, (.agg #[.int .u64 0, .int .i64 0, .int .u64 0]), .int .i64 1]) ∧ SlIs w' v [] ∧ Below w.heap.size w w' :=
  place_as ⟨0, 6, 8⟩ ⟨by decide⟩ ⟨by decide⟩ 2 9 1 [] ⟨0, 0, 0⟩ 1 (by kernel_rfl) w
theorem x_n (w : World) : Calls Try.prog 12 #[.int .i64 2, .int .i64 3] w fun e w' => e = .returned (.tuple #[.int .i64 5, .int .i64 0]) ∧ Below w.heap.size w w' := by
  have h := size_any 2 3 w
  rw [show sizeU 2 3 = (5, 0) from rfl] at h
  exact h
theorem x_c (w : World) : Calls Try.prog 16 #[(.agg #[.int .u64 1, .int .i64 1, .int .u64 0])] w fun e w' => e = .returned (.int .i64 1) ∧ Below w.heap.size w w' := by
  have h := check_any ⟨1, 1, 0⟩ ⟨by decide⟩ ⟨by decide⟩ w
  rw [show chkU ⟨1, 1, 0⟩ = 1 from by kernel_rfl] at h
  exact h
theorem x_r (w : World) : Calls Try.prog 18 #[(.agg #[.int .u64 0, .int .i64 6, .int .u64 64])] w fun e w' => e = .returned (.agg #[.int .u64 0, .int .i64 6, .int .u64 0]) ∧ Below w.heap.size w w' := reset_any ⟨0, 6, 64⟩ w
theorem x_s2 (v : Value) (w : World) (h : SlIs w v [0, 4]) : Calls Try.prog 15 #[v, .slice (some ⟨w.heap.size, 0, Option.none⟩) 2 2] (w.alloc (.cells #[.int .u64 0, .int .u64 4] 22)) fun e w' => e = .returned (.bool true) ∧ Below (w.alloc (.cells #[.int .u64 0, .int .u64 4] 22)).heap.size (w.alloc (.cells #[.int .u64 0, .int .u64 4] 22)) w' := by
  have h := same_any v _ [0, 4] [0, 4] (by decide) _ h.alloc (SlIs.of2 w 0 4)
  rw [decide_eq_true rfl] at h
  exact h
theorem x_s1 (v : Value) (w : World) (h : SlIs w v [32]) : Calls Try.prog 15 #[v, .slice (some ⟨w.heap.size, 0, Option.none⟩) 1 1] (w.alloc (.cells #[.int .u64 32] 22)) fun e w' => e = .returned (.bool true) ∧ Below (w.alloc (.cells #[.int .u64 32] 22)).heap.size (w.alloc (.cells #[.int .u64 32] 22)) w' := by
  have h := same_any v _ [32] [32] (by decide) _ h.alloc (SlIs.of1 w 32)
  rw [decide_eq_true rfl] at h
  exact h

set_option maxRecDepth 100000 in
set_option maxHeartbeats 6400000 in
theorem fixed_true (W : World) : Calls Try.prog 14 #[] W fun e w' => e = .returned (.bool true) ∧ Below W.heap.size W w' := by
  have q1 : ∀ w : World, (Op.equalIn 10000 24 (.agg #[.int .u64 0, .int .i64 6, .int .u64 8]) (.agg #[.int .u64 0, .int .i64 6, .int .u64 8])).run Try.prog w = .ok true w := fun w => eq_ut_self ⟨0, 6, 8⟩ w
  have q2 : ∀ w : World, (Op.equalIn 10000 24 (.agg #[.int .u64 0, .int .i64 6, .int .u64 0]) (.agg #[.int .u64 0, .int .i64 6, .int .u64 0])).run Try.prog w = .ok true w := fun w => eq_ut_self ⟨0, 6, 0⟩ w
  go_enter Try.func14, Try.ntmps14
  go_wp2_with fail
  refine (x_a _).mono ?_
  rintro e w1 ⟨v1, rfl, hs, hb⟩
  have SA := Lib.hid hs
  clear hs
  have HB1 : Hid (Below W.heap.size W w1) := Lib.hid (below_then (by repeat (first | exact (Below.refl _ _) | apply below_new | refine below_draws ?_ _)) hb)
  clear hb
  go_wp2_with fail
  refine (x_b _).mono ?_
  rintro e w2 ⟨v2, rfl, hs, hb⟩
  have SA' : SlIs w2 (v1) [0, 4] := SlIs.keep (by repeat (first | exact SA.out | apply SlIs.alloc | refine SlIs.drew ?_ _)) hb
  clear SA
  have SA := Lib.hid SA'
  clear SA'
  have UU' : Ub w2 (w1.heap.size) (⟨0, 6, 8⟩ : Ut) := Ub.keep hb (by repeat (first | fail | exact Ub.new _ (⟨0, 6, 8⟩ : Ut) | exact Ub.new_at (x := (⟨0, 6, 8⟩ : Ut)) (by simp) | apply Ub.alloc | refine Ub.drew ?_ _))
  have UU := Lib.hid UU'
  clear UU'
  have SB := Lib.hid hs
  clear hs
  have HB2 : Hid (Below W.heap.size W w2) := Lib.hid (below_then (by repeat (first | exact HB1.out | apply below_new | refine below_draws ?_ _)) hb)
  clear hb HB1
  go_wp2_with fail
  refine (x_g _).mono ?_
  rintro e w3 ⟨v3, rfl, _, hb⟩
  have SA' : SlIs w3 (v1) [0, 4] := SlIs.keep (by repeat (first | exact SA.out | apply SlIs.alloc | refine SlIs.drew ?_ _)) hb
  clear SA
  have SA := Lib.hid SA'
  clear SA'
  have UU' : Ub w3 (w1.heap.size) (⟨0, 6, 8⟩ : Ut) := Ub.keep hb (by repeat (first | exact UU.out | exact Ub.new _ (⟨0, 6, 8⟩ : Ut) | exact Ub.new_at (x := (⟨0, 6, 8⟩ : Ut)) (by simp) | apply Ub.alloc | refine Ub.drew ?_ _))
  clear UU
  have UU := Lib.hid UU'
  clear UU'
  have SB' : SlIs w3 (v2) [32] := SlIs.keep (by repeat (first | exact SB.out | apply SlIs.alloc | refine SlIs.drew ?_ _)) hb
  clear SB
  have SB := Lib.hid SB'
  clear SB'
  have VV' : Ub w3 (w2.heap.size) (⟨0, 6, 64⟩ : Ut) := Ub.keep hb (by repeat (first | fail | exact Ub.new _ (⟨0, 6, 64⟩ : Ut) | exact Ub.new_at (x := (⟨0, 6, 64⟩ : Ut)) (by simp) | apply Ub.alloc | refine Ub.drew ?_ _))
  have VV := Lib.hid VV'
  clear VV'
  have HB3 : Hid (Below W.heap.size W w3) := Lib.hid (below_then (by repeat (first | exact HB2.out | apply below_new | refine below_draws ?_ _)) hb)
  clear hb HB2
  obtain ⟨zUU, c0UU, c1UU, c2UU, f0UU, f1UU, f2UU⟩ := UU.out
  have nUU : ¬ w1.heap.size = w3.heap.size := by omega
  go_wp2_with fail
  clear zUU nUU c0UU c1UU c2UU f0UU f1UU f2UU
  refine (x_h _).mono ?_
  rintro e w4 ⟨v4, rfl, _, hb⟩
  have SA' : SlIs w4 (v1) [0, 4] := SlIs.keep (by repeat (first | exact SA.out | apply SlIs.alloc | refine SlIs.drew ?_ _)) hb
  clear SA
  have SA := Lib.hid SA'
  clear SA'
  have UU' : Ub w4 (w1.heap.size) (⟨0, 6, 8⟩ : Ut) := Ub.keep hb (by repeat (first | exact UU.out | exact Ub.new _ (⟨0, 6, 8⟩ : Ut) | exact Ub.new_at (x := (⟨0, 6, 8⟩ : Ut)) (by simp) | apply Ub.alloc | refine Ub.drew ?_ _))
  clear UU
  have UU := Lib.hid UU'
  clear UU'
  have SB' : SlIs w4 (v2) [32] := SlIs.keep (by repeat (first | exact SB.out | apply SlIs.alloc | refine SlIs.drew ?_ _)) hb
  clear SB
  have SB := Lib.hid SB'
  clear SB'
  have VV' : Ub w4 (w2.heap.size) (⟨0, 6, 64⟩ : Ut) := Ub.keep hb (by repeat (first | exact VV.out | exact Ub.new _ (⟨0, 6, 64⟩ : Ut) | exact Ub.new_at (x := (⟨0, 6, 64⟩ : Ut)) (by simp) | apply Ub.alloc | refine Ub.drew ?_ _))
  clear VV
  have VV := Lib.hid VV'
  clear VV'
  have HB4 : Hid (Below W.heap.size W w4) := Lib.hid (below_then (by repeat (first | exact HB3.out | apply below_new | refine below_draws ?_ _)) hb)
  clear hb HB3
  obtain ⟨zUU, c0UU, c1UU, c2UU, f0UU, f1UU, f2UU⟩ := UU.out
  have nUU : ¬ w1.heap.size = w4.heap.size := by omega
  go_wp2_with fail
  clear zUU nUU c0UU c1UU c2UU f0UU f1UU f2UU
  refine (x_i _).mono ?_
  rintro e w5 ⟨v5, rfl, _, hb⟩
  have SA' : SlIs w5 (v1) [0, 4] := SlIs.keep (by repeat (first | exact SA.out | apply SlIs.alloc | refine SlIs.drew ?_ _)) hb
  clear SA
  have SA := Lib.hid SA'
  clear SA'
  have UU' : Ub w5 (w1.heap.size) (⟨0, 6, 8⟩ : Ut) := Ub.keep hb (by repeat (first | exact UU.out | exact Ub.new _ (⟨0, 6, 8⟩ : Ut) | exact Ub.new_at (x := (⟨0, 6, 8⟩ : Ut)) (by simp) | apply Ub.alloc | refine Ub.drew ?_ _))
  clear UU
  have UU := Lib.hid UU'
  clear UU'
  have SB' : SlIs w5 (v2) [32] := SlIs.keep (by repeat (first | exact SB.out | apply SlIs.alloc | refine SlIs.drew ?_ _)) hb
  clear SB
  have SB := Lib.hid SB'
  clear SB'
  have VV' : Ub w5 (w2.heap.size) (⟨0, 6, 64⟩ : Ut) := Ub.keep hb (by repeat (first | exact VV.out | exact Ub.new _ (⟨0, 6, 64⟩ : Ut) | exact Ub.new_at (x := (⟨0, 6, 64⟩ : Ut)) (by simp) | apply Ub.alloc | refine Ub.drew ?_ _))
  clear VV
  have VV := Lib.hid VV'
  clear VV'
  have HB5 : Hid (Below W.heap.size W w5) := Lib.hid (below_then (by repeat (first | exact HB4.out | apply below_new | refine below_draws ?_ _)) hb)
  clear hb HB4
  go_wp2_with fail
  refine (x_n _).mono ?_
  rintro e w6 ⟨rfl, hb⟩
  have SA' : SlIs w6 (v1) [0, 4] := SlIs.keep (by repeat (first | exact SA.out | apply SlIs.alloc | refine SlIs.drew ?_ _)) hb
  clear SA
  have SA := Lib.hid SA'
  clear SA'
  have UU' : Ub w6 (w1.heap.size) (⟨0, 6, 8⟩ : Ut) := Ub.keep hb (by repeat (first | exact UU.out | exact Ub.new _ (⟨0, 6, 8⟩ : Ut) | exact Ub.new_at (x := (⟨0, 6, 8⟩ : Ut)) (by simp) | apply Ub.alloc | refine Ub.drew ?_ _))
  clear UU
  have UU := Lib.hid UU'
  clear UU'
  have SB' : SlIs w6 (v2) [32] := SlIs.keep (by repeat (first | exact SB.out | apply SlIs.alloc | refine SlIs.drew ?_ _)) hb
  clear SB
  have SB := Lib.hid SB'
  clear SB'
  have VV' : Ub w6 (w2.heap.size) (⟨0, 6, 64⟩ : Ut) := Ub.keep hb (by repeat (first | exact VV.out | exact Ub.new _ (⟨0, 6, 64⟩ : Ut) | exact Ub.new_at (x := (⟨0, 6, 64⟩ : Ut)) (by simp) | apply Ub.alloc | refine Ub.drew ?_ _))
  clear VV
  have VV := Lib.hid VV'
  clear VV'
  have HB6 : Hid (Below W.heap.size W w6) := Lib.hid (below_then (by repeat (first | exact HB5.out | apply below_new | refine below_draws ?_ _)) hb)
  clear hb HB5
  go_wp2_with fail
  refine (x_s2 v1 _ SA.out).mono ?_
  rintro e w7 ⟨rfl, hb⟩
  clear SA
  have UU' : Ub w7 (w1.heap.size) (⟨0, 6, 8⟩ : Ut) := Ub.keep hb (by repeat (first | exact UU.out | exact Ub.new _ (⟨0, 6, 8⟩ : Ut) | exact Ub.new_at (x := (⟨0, 6, 8⟩ : Ut)) (by simp) | apply Ub.alloc | refine Ub.drew ?_ _))
  clear UU
  have UU := Lib.hid UU'
  clear UU'
  have SB' : SlIs w7 (v2) [32] := SlIs.keep (by repeat (first | exact SB.out | apply SlIs.alloc | refine SlIs.drew ?_ _)) hb
  clear SB
  have SB := Lib.hid SB'
  clear SB'
  have VV' : Ub w7 (w2.heap.size) (⟨0, 6, 64⟩ : Ut) := Ub.keep hb (by repeat (first | exact VV.out | exact Ub.new _ (⟨0, 6, 64⟩ : Ut) | exact Ub.new_at (x := (⟨0, 6, 64⟩ : Ut)) (by simp) | apply Ub.alloc | refine Ub.drew ?_ _))
  clear VV
  have VV := Lib.hid VV'
  clear VV'
  have HB7 : Hid (Below W.heap.size W w7) := Lib.hid (below_then (by repeat (first | exact HB6.out | apply below_new | refine below_draws ?_ _)) hb)
  clear hb HB6
  obtain ⟨zUU, c0UU, c1UU, c2UU, f0UU, f1UU, f2UU⟩ := UU.out
  have nUU : ¬ w1.heap.size = w7.heap.size := by omega
  go_wp2_with fail
  clear zUU nUU c0UU c1UU c2UU f0UU f1UU f2UU
  refine (x_s1 v2 _ SB.out).mono ?_
  rintro e w8 ⟨rfl, hb⟩
  clear UU
  clear SB
  have VV' : Ub w8 (w2.heap.size) (⟨0, 6, 64⟩ : Ut) := Ub.keep hb (by repeat (first | exact VV.out | exact Ub.new _ (⟨0, 6, 64⟩ : Ut) | exact Ub.new_at (x := (⟨0, 6, 64⟩ : Ut)) (by simp) | apply Ub.alloc | refine Ub.drew ?_ _))
  clear VV
  have VV := Lib.hid VV'
  clear VV'
  have HB8 : Hid (Below W.heap.size W w8) := Lib.hid (below_then (by repeat (first | exact HB7.out | apply below_new | refine below_draws ?_ _)) hb)
  clear hb HB7
  obtain ⟨zVV, c0VV, c1VV, c2VV, f0VV, f1VV, f2VV⟩ := VV.out
  have nVV : ¬ w2.heap.size = w8.heap.size := by omega
  go_wp2_with fail
  clear zVV nVV c0VV c1VV c2VV f0VV f1VV f2VV
  refine (x_c _).mono ?_
  rintro e w9 ⟨rfl, hb⟩
  have VV' : Ub w9 (w2.heap.size) (⟨0, 6, 64⟩ : Ut) := Ub.keep hb (by repeat (first | exact VV.out | exact Ub.new _ (⟨0, 6, 64⟩ : Ut) | exact Ub.new_at (x := (⟨0, 6, 64⟩ : Ut)) (by simp) | apply Ub.alloc | refine Ub.drew ?_ _))
  clear VV
  have VV := Lib.hid VV'
  clear VV'
  have HB9 : Hid (Below W.heap.size W w9) := Lib.hid (below_then (by repeat (first | exact HB8.out | apply below_new | refine below_draws ?_ _)) hb)
  clear hb HB8
  obtain ⟨zVV, c0VV, c1VV, c2VV, f0VV, f1VV, f2VV⟩ := VV.out
  have nVV : ¬ w2.heap.size = w9.heap.size := by omega
  go_wp2_with fail
  clear zVV nVV c0VV c1VV c2VV f0VV f1VV f2VV
  refine (x_r _).mono ?_
  rintro e w10 ⟨rfl, hb⟩
  clear VV
  have HB10 : Hid (Below W.heap.size W w10) := Lib.hid (below_then (by repeat (first | exact HB9.out | apply below_new | refine below_draws ?_ _)) hb)
  clear hb HB9
  go_wp2_with fail
  go_ret
  exact ⟨rfl, (by repeat (first | exact HB10.out | apply below_new | refine below_draws ?_ _))⟩
end Go.Proofs.Ytbgcgbelejmjiaa
