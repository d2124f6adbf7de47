/- What is put into two parts of a word that have no bit in common is there, in whatever order: for every input, no condition. -/
import Derived.Test.YtbmdnbjkphmmpaaFrame
import Derived.Test.YtbmdnbjkphmmpaaFixed
namespace Go.Proofs.Ytbmdnbjkphmmpaa
open Go.ChangeShapes Go.WideShapes Go.ChangeAt Go.RowKit Go.Joins Wd

theorem twice_swap (v p q : Nat) (hp : p < 2 ^ 16) (w : World) :
    Calls Try.prog 14 #[.int .u64 (wth v 30 24 q), .int .i64 3, .int .i64 16, .int .u64 p] w fun e w' => e = .returned (.tuple #[.int .u64 (wth (wth v 3 16 p) 30 24 q), .int .i64 0]) ∧ ∃ k, w' = w.drewN k := by
  have c := with_any (wth v 30 24 q) 3 16 p ⟨wth_lt _ _ _ _⟩ ⟨Nat.lt_of_lt_of_le hp (by decide)⟩ (by decide) hp w
  rwa [wth_swap v 3 16 p 30 24 q (by decide)] at c
theorem twice_first (v p q : Nat) (hp : p < 2 ^ 16) (w : World) :
    Calls Try.prog 12 #[.int .u64 (wth (wth v 3 16 p) 30 24 q), .int .i64 3, .int .i64 16] w fun e w' => e = .returned (.tuple #[.int .u64 p, .int .i64 0]) ∧ ∃ k, w' = w.drewN k := by
  have c := field_any (wth (wth v 3 16 p) 30 24 q) 3 16 ⟨wth_lt _ _ _ _⟩ (by decide) w
  rwa [← wth_swap v 3 16 p 30 24 q (by decide), fld_wth _ 3 16 p (by decide) hp, wth_swap v 3 16 p 30 24 q (by decide)] at c
theorem twice_second (v p q : Nat) (hq : q < 2 ^ 24) (w : World) :
    Calls Try.prog 12 #[.int .u64 (wth (wth v 3 16 p) 30 24 q), .int .i64 30, .int .i64 24] w fun e w' => e = .returned (.tuple #[.int .u64 q, .int .i64 0]) ∧ ∃ k, w' = w.drewN k := by
  have c := field_any (wth (wth v 3 16 p) 30 24 q) 30 24 ⟨wth_lt _ _ _ _⟩ (by decide) w
  rwa [fld_wth _ 30 24 q (by decide) hq] at c
set_option maxRecDepth 100000 in
set_option maxHeartbeats 3200000 in
theorem wordsTwice_walk (v x y : Nat) (hv : Word v) (hx : Word x) (hy : Word y) (W : World) :
    Calls Try.prog 11 #[.int .u64 v, .int .u64 x, .int .u64 y] W fun e w' => e = .returned (.bool true) ∧ Below W.heap.size W w' := by
  have hX : bits .and .u64 (x : Int) 65535 = (lowN x 16 : Int) := low_and x 16 hx (by decide)
  have hY : bits .and .u64 (y : Int) 16777215 = (lowN y 24 : Int) := low_and y 24 hy (by decide)
  go_enter Try.func11, Try.ntmps11
  go_wp2_with fail
  refine (with_any v 3 16 (lowN x 16) hv (lowN_word x 16 (by decide)) (by decide) (lowN_lt x 16) _).mono ?_
  rintro e w' ⟨rfl, k1, rfl⟩
  go_wp2_with fail
  refine (with_any (wth v 3 16 (lowN x 16)) 30 24 (lowN y 24) ⟨wth_lt _ _ _ _⟩ (lowN_word y 24 (by decide)) (by decide) (lowN_lt y 24) _).mono ?_
  rintro e w' ⟨rfl, k2, rfl⟩
  go_wp2_with fail
  refine (with_any v 30 24 (lowN y 24) hv (lowN_word y 24 (by decide)) (by decide) (lowN_lt y 24) _).mono ?_
  rintro e w' ⟨rfl, k3, rfl⟩
  go_wp2_with fail
  refine (twice_swap v (lowN x 16) (lowN y 24) (lowN_lt x 16) _).mono ?_
  rintro e w' ⟨rfl, k4, rfl⟩
  go_wp2_with fail
  refine (twice_first v (lowN x 16) (lowN y 24) (lowN_lt x 16) _).mono ?_
  rintro e w' ⟨rfl, k5, rfl⟩
  go_wp2_with fail
  refine (twice_second v (lowN x 16) (lowN y 24) (lowN_lt y 24) _).mono ?_
  rintro e w' ⟨rfl, k6, rfl⟩
  go_wp2_with fail
  refine (fixed_true _).mono ?_
  rintro e w1 ⟨rfl, hb⟩
  have HB := Lib.hid hb
  clear hb
  go_wp2_with fail
  go_ret
  exact ⟨rfl, below_drawn HB.out⟩


set_option maxRecDepth 100000 in
theorem wordsTwice_lifted (os : Os) (started : os.Started) (H : Type) (enc : TypeId × Value → H) :
    ReturnsInHanded {} Try.checked os 11 .any (Rows.wordsTwiceSpec.pre6 enc Try.prog Try.f11 Rows.wordsTwiceRow.domain false) (Rows.wordsTwiceSpec.post enc Try.prog Try.f11 false true false false) := by
  refine returnsInHanded_of_change (C := Try.checked) own_knob started (by kernel_rfl) Try.func11
    (ChangeSpec.witness6 (enc := enc) (C := Try.checked) false ⟨#[], #[.int .u64 0, .int .u64 0, .int .u64 0], []⟩ 8 (by kernel_rfl) (by kernel_rfl) (by kernel_rfl) (by kernel_rfl)) ?_
  intro W base args ds gs before hval0 hW hcnd _
  have hval : ∀ (j : Nat) t v, Try.f11.params[j]? = some t → args[j]? = some v → Value.okWide Try.prog W .any base t v := hval0
  have hW' := hW
  obtain ⟨p, q, hA0, hV, rfl, hfz, hnd⟩ := hW
  have hA : DataW.TrodAll enc Try.prog W 0 (fun _ => true) true Try.f11.params.toList args.toList ds p := hA0
  rw [Try.params11] at hA hval
  obtain ⟨v0, v1, v2, d0, d1, d2, p0, p1, p2, rfl, rfl, rfl, h0, h1, h2⟩ := trodAll_three hA
  obtain ⟨rfl, rfl⟩ := trodVars_none hV
  clear hA0 hval0
  simp only [List.append_nil] at hW'
  have hlt : ∀ x ∈ p0 ++ p1 ++ p2, x.block < W.heap.size := fun x hx => by simpa using hW'.lt x hx
  have g0 : ∀ W' : World, Below W.heap.size W W' → DataW.Trod enc Try.prog W' 0 (fun b => decide (b < W.heap.size)) true 22 v0 d0 p0 :=
    fun W' hn => Below.trod laid_out (by kernel_rfl) (of_decide_eq_true (by kernel_rfl)) h0 hn (fun x hx => hlt x (by simp [hx]))
  have g1 : ∀ W' : World, Below W.heap.size W W' → DataW.Trod enc Try.prog W' 0 (fun b => decide (b < W.heap.size)) true 22 v1 d1 p1 :=
    fun W' hn => Below.trod laid_out (by kernel_rfl) (of_decide_eq_true (by kernel_rfl)) h1 hn (fun x hx => hlt x (by simp [hx]))
  have g2 : ∀ W' : World, Below W.heap.size W W' → DataW.Trod enc Try.prog W' 0 (fun b => decide (b < W.heap.size)) true 22 v2 d2 p2 :=
    fun W' hn => Below.trod laid_out (by kernel_rfl) (of_decide_eq_true (by kernel_rfl)) h2 hn (fun x hx => hlt x (by simp [hx]))
  obtain ⟨i0, rfl, _, _, w0⟩ := open_int Try.underlying22 (hval 0 22 v0 rfl rfl) h0
  obtain ⟨v, rfl, l0⟩ := word_of_wf w0
  obtain ⟨i1, rfl, _, _, w1⟩ := open_int Try.underlying22 (hval 1 22 v1 rfl rfl) h1
  obtain ⟨x, rfl, l1⟩ := word_of_wf w1
  obtain ⟨i2, rfl, _, _, w2⟩ := open_int Try.underlying22 (hval 2 22 v2 rfl rfl) h2
  obtain ⟨y, rfl, l2⟩ := word_of_wf w2
  refine (wordsTwice_walk v x y ⟨l0⟩ ⟨l1⟩ ⟨l2⟩ W).mono fun e W' ⟨he, hn⟩ => ?_
  subst he
  exact ⟨_, rfl, _, _, _, [], p0 ++ p1 ++ p2, [], hW', trodAll_mk1 (shut_bool Try.underlying4 true), (by rw [List.append_assoc p0 p1 p2]; exact trodAll_mk3 (g0 W' hn) (g1 W' hn) (g2 W' hn)), rfl, hn.frame _, fun h => by cases h⟩

theorem wordsTwice_holds : Rows.WordsTwiceSaid :=
  OpenClaim.holds_of_wide 11 Try.f11 rfl rfl rfl rfl rfl rfl rfl ⟨rfl, rfl, rfl, rfl, rfl⟩ rfl rfl rfl rfl rfl (by kernel_rfl) Try.func11 (by kernel_rfl)
    (of_decide_eq_true (by kernel_rfl)) (by unfold Func.isWrapper; first | (rw [if_pos (by decide +kernel)]; kernel_rfl) | (rw [if_neg (by decide +kernel)]; exact ⟨rfl, rfl⟩))
    (fun os started H enc _ => wordsTwice_lifted os started H enc)
#print axioms wordsTwice_holds
end Go.Proofs.Ytbmdnbjkphmmpaa
