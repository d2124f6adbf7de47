/- The fixed calls of the script: that 'fixed' returns true, over the translation. -/
import Derived.Test.YtldhpecpmgjihaaScsl
import Derived.KernelRfl
set_option linter.unusedVariables false
set_option linter.unusedSimpArgs false
namespace Go.Proofs.Ytldhpecpmgjihaa
open Go.RowKit Sc

theorem SlIt.of1 (w : World) (x : It) : SlIt (w.alloc (.cells #[.int .i64 x.k, .int .i64 x.c, .int .i64 x.a, .int .i64 x.b] 29)) (.slice (some ⟨w.heap.size, 0, none⟩) 1 1) [x] :=
  ⟨_, 1, rfl, fun _ => ⟨w.heap.size, 0, rfl, by simp, fun j hj => by
    have h0 : j = 0 := by simp at hj; omega
    subst h0
    simp [go_sem]⟩⟩
theorem SlIt.of2 (w : World) (x y : It) : SlIt (w.alloc (.cells #[.int .i64 x.k, .int .i64 x.c, .int .i64 x.a, .int .i64 x.b, .int .i64 y.k, .int .i64 y.c, .int .i64 y.a, .int .i64 y.b] 29)) (.slice (some ⟨w.heap.size, 0, none⟩) 2 2) [x, y] :=
  ⟨_, 2, rfl, fun _ => ⟨w.heap.size, 0, rfl, by simp, fun j hj => by
    have h0 : j = 0 ∨ j = 1 := by simp at hj; omega
    rcases h0 with rfl | rfl <;> simp [go_sem]⟩⟩
theorem x_parse (w : World) : Calls Try.prog 12 #[.string { data := #[1, 0, 5, 6, 9, 0, 0, 0, 1, 2, 0, 0, 0] }, .int .i64 2] w fun e w' => ∃ v, e = .returned v ∧ SlIt w' v [⟨1, 0, 5, 6⟩] ∧ Below w.heap.size w w' := by
  have h := parse_any { data := #[1, 0, 5, 6, 9, 0, 0, 0, 1, 2, 0, 0, 0] } 2 (by decide) w
  rw [show parseL { data := #[1, 0, 5, 6, 9, 0, 0, 0, 1, 2, 0, 0, 0] } 2 = [⟨1, 0, 5, 6⟩] from by kernel_rfl] at h
  exact h
theorem x_same (v : Value) (w : World) (h : SlIt w v [⟨1, 0, 5, 6⟩]) : Calls Try.prog 11 #[v, .slice (some ⟨w.heap.size, 0, none⟩) 1 1] (w.alloc (.cells #[.int .i64 1, .int .i64 0, .int .i64 5, .int .i64 6] 29)) fun e w' => e = .returned (.bool true) ∧ Below (w.alloc (.cells #[.int .i64 1, .int .i64 0, .int .i64 5, .int .i64 6] 29)).heap.size (w.alloc (.cells #[.int .i64 1, .int .i64 0, .int .i64 5, .int .i64 6] 29)) w' := by
  have h := same_any v _ [⟨1, 0, 5, 6⟩] [⟨1, 0, 5, 6⟩] (by decide) _ h.alloc (SlIt.of1 w ⟨1, 0, 5, 6⟩)
  rw [decide_eq_true rfl] at h
  exact h
theorem x_print (w : World) : Calls Try.prog 16 #[.slice (some ⟨w.heap.size, 0, none⟩) 2 2, .int .i64 2] (w.alloc (.cells #[.int .i64 1, .int .i64 0, .int .i64 5, .int .i64 6, .int .i64 9, .int .i64 0, .int .i64 0, .int .i64 0] 29)) fun e w' => e = .returned (.string { data := #[1, 0, 5, 6] }) ∧ Below (w.alloc (.cells #[.int .i64 1, .int .i64 0, .int .i64 5, .int .i64 6, .int .i64 9, .int .i64 0, .int .i64 0, .int .i64 0] 29)).heap.size (w.alloc (.cells #[.int .i64 1, .int .i64 0, .int .i64 5, .int .i64 6, .int .i64 9, .int .i64 0, .int .i64 0, .int .i64 0] 29)) w' := by
  have h := print_any _ [⟨1, 0, 5, 6⟩, ⟨9, 0, 0, 0⟩] 2 (by decide) _ (SlIt.of2 w ⟨1, 0, 5, 6⟩ ⟨9, 0, 0, 0⟩)
  rw [show printL [⟨1, 0, 5, 6⟩, ⟨9, 0, 0, 0⟩] 2 = [1, 0, 5, 6] from by kernel_rfl] at h
  exact h
theorem x_right (w : World) : Calls Try.prog 14 #[(.agg #[.int .i64 0, .int .i64 1, .int .i64 0, .int .i64 0]), .int .i64 2] w fun e w' => e = .returned (.bool true) ∧ Below w.heap.size w w' := by
  have h := right_any ⟨0, 1, 0, 0⟩ 2 w
  rw [show rightU ⟨0, 1, 0, 0⟩ 2 = true from rfl] at h
  exact h
theorem x_wrong (w : World) : Calls Try.prog 14 #[(.agg #[.int .i64 0, .int .i64 2, .int .i64 0, .int .i64 0]), .int .i64 2] w fun e w' => e = .returned (.bool false) ∧ Below w.heap.size w w' := by
  have h := right_any ⟨0, 2, 0, 0⟩ 2 w
  rw [show rightU ⟨0, 2, 0, 0⟩ 2 = false from rfl] at h
  exact h
set_option maxRecDepth 100000 in
set_option maxHeartbeats 6400000 in
theorem fixed_true (W : World) : Calls Try.prog 10 #[] W fun e w' => e = .returned (.bool true) ∧ Below W.heap.size W w' := by
  go_enter Try.func10, Try.ntmps10
  go_wp2_with fail
  refine (x_parse _).mono ?_
  rintro e w1 ⟨v1, rfl, hs, hb⟩
  have HS := Lib.hid hs
  have HB1 := Lib.hid hb
  clear hs hb
  go_wp2_with fail
  refine (x_same v1 _ HS.out).mono ?_
  rintro e w2 ⟨rfl, hb⟩
  have HB2 := Lib.hid (below_from (below_new HB1.out _) hb)
  clear hb
  go_wp2_with fail
  refine (x_print _).mono ?_
  rintro e w3 ⟨rfl, hb⟩
  have HB3 := Lib.hid (below_from (below_new HB2.out _) hb)
  clear hb
  go_wp2_with fail
  refine (x_right _).mono ?_
  rintro e w4 ⟨rfl, hb⟩
  have HB4 := Lib.hid (below_from HB3.out hb)
  clear hb
  go_wp2_with fail
  refine (x_wrong _).mono ?_
  rintro e w5 ⟨rfl, hb⟩
  have HB5 := Lib.hid (below_from HB4.out hb)
  clear hb
  go_wp2_with fail
  go_ret
  exact ⟨rfl, HB5.out⟩
end Go.Proofs.Ytldhpecpmgjihaa
