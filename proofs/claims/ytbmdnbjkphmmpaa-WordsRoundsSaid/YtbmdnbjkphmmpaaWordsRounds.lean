/- A number, rounded up, is a multiple, no less, and by less than one multiple more; rounded up again it stays: for every input, no condition. -/
import Derived.Test.YtbmdnbjkphmmpaaFrame
import Derived.Test.YtbmdnbjkphmmpaaFixed
namespace Go.Proofs.Ytbmdnbjkphmmpaa
open Go.ChangeShapes Go.WideShapes Go.ChangeAt Go.RowKit Go.Joins Wd

theorem up_again (v m : Nat) (hv : Word v) (hm : m ≤ 63) (hb : v + 2 ^ m ≤ 2 ^ 64) (w : World) :
    Calls Try.prog 19 #[.int .u64 (upTo v m), .int .i64 m] w fun e w' => e = .returned (.tuple #[.int .u64 (upTo v m), .int .i64 0]) ∧ w' = w := by
  obtain ⟨h1, h2, h3⟩ := up_there v m hv hm hb
  have c := up_any (upTo v m) m h1 hm h2 w
  rwa [h3] at c
set_option maxRecDepth 100000 in
set_option maxHeartbeats 1600000 in
theorem wordsRounds_big (v m : Nat) (c : Int) (hA : bits .and .i64 c 63 = (m : Int)) (hv : Word v) (hm : m ≤ 63) (hb : 2 ^ 64 < v + 2 ^ m) (W : World) :
    Calls Try.prog 9 #[.int .u64 v, .int .i64 c] W fun e w' => e = .returned (.bool true) ∧ Below W.heap.size W w' := by
  have H1 := big_more v m hm hb
  have HX := Lib.hid hb
  clear hb
  go_enter Try.func9, Try.ntmps9
  go_wp2_with fail
  refine (up_big v m hv hm HX.out _).mono ?_
  rintro e w' ⟨rfl, rfl⟩
  go_wp2_with fail
  refine (fixed_true _).mono ?_
  rintro e w1 ⟨rfl, hb⟩
  have HB := Lib.hid hb
  clear hb
  go_wp2_with fail
  go_ret
  exact ⟨rfl, HB.out⟩

set_option maxRecDepth 100000 in
set_option maxHeartbeats 1600000 in
theorem wordsRounds_good (v m : Nat) (c : Int) (hA : bits .and .i64 c 63 = (m : Int)) (hv : Word v) (hm : m ≤ 63) (hb : v + 2 ^ m ≤ 2 ^ 64) (W : World) :
    Calls Try.prog 9 #[.int .u64 v, .int .i64 c] W fun e w' => e = .returned (.bool true) ∧ Below W.heap.size W w' := by
  have HY := Lib.hid (up_again v m hv hm hb)
  have H1 := up_multiple v m hv hm hb
  have H2 := up_no_less v m hv hm hb
  have H3 := up_near v m hv hm hb
  have HX := Lib.hid hb
  clear hb
  go_enter Try.func9, Try.ntmps9
  go_wp2_with fail
  refine (up_any v m hv hm HX.out _).mono ?_
  rintro e w' ⟨rfl, rfl⟩
  go_wp2_with fail
  refine (HY.out _).mono ?_
  rintro e w' ⟨rfl, rfl⟩
  go_wp2_with fail
  refine (mask_any m (by omega) _).mono ?_
  rintro e w' ⟨rfl, rfl⟩
  go_wp2_with fail
  refine (fixed_true _).mono ?_
  rintro e w1 ⟨rfl, hb⟩
  have HB := Lib.hid hb
  clear hb
  go_wp2_with fail
  go_ret
  exact ⟨rfl, HB.out⟩

theorem wordsRounds_walk (v : Nat) (c : Int) (hv : Word v) (W : World) :
    Calls Try.prog 9 #[.int .u64 v, .int .i64 c] W fun e w' => e = .returned (.bool true) ∧ Below W.heap.size W w' := by
  obtain ⟨m, hm, hA⟩ := and63 c
  by_cases hb : v + 2 ^ m ≤ 2 ^ 64
  · exact wordsRounds_good v m c hA hv hm hb W
  · exact wordsRounds_big v m c hA hv hm (by omega) W


set_option maxRecDepth 100000 in
theorem wordsRounds_lifted (os : Os) (started : os.Started) (H : Type) (enc : TypeId × Value → H) :
    ReturnsInHanded {} Try.checked os 9 .any (Rows.wordsRoundsSpec.pre6 enc Try.prog Try.f9 Rows.wordsRoundsRow.domain false) (Rows.wordsRoundsSpec.post enc Try.prog Try.f9 false true false false) := by
  refine returnsInHanded_of_change (C := Try.checked) own_knob started (by kernel_rfl) Try.func9
    (ChangeSpec.witness6 (enc := enc) (C := Try.checked) false ⟨#[], #[.int .u64 0, .int .i64 0], []⟩ 8 (by kernel_rfl) (by kernel_rfl) (by kernel_rfl) (by kernel_rfl)) ?_
  intro W base args ds gs before hval0 hW hcnd _
  have hval : ∀ (j : Nat) t v, Try.f9.params[j]? = some t → args[j]? = some v → Value.okWide Try.prog W .any base t v := hval0
  have hW' := hW
  obtain ⟨p, q, hA0, hV, rfl, hfz, hnd⟩ := hW
  have hA : DataW.TrodAll enc Try.prog W 0 (fun _ => true) true Try.f9.params.toList args.toList ds p := hA0
  rw [Try.params9] at hA hval
  obtain ⟨v0, v1, d0, d1, p0, p1, rfl, rfl, rfl, h0, h1⟩ := trodAll_two hA
  obtain ⟨rfl, rfl⟩ := trodVars_none hV
  clear hA0 hval0
  simp only [List.append_nil] at hW'
  have hlt : ∀ x ∈ p0 ++ p1, x.block < W.heap.size := fun x hx => by simpa using hW'.lt x hx
  have g0 : ∀ W' : World, Below W.heap.size W W' → DataW.Trod enc Try.prog W' 0 (fun b => decide (b < W.heap.size)) true 22 v0 d0 p0 :=
    fun W' hn => Below.trod laid_out (by kernel_rfl) (of_decide_eq_true (by kernel_rfl)) h0 hn (fun x hx => hlt x (by simp [hx]))
  have g1 : ∀ W' : World, Below W.heap.size W W' → DataW.Trod enc Try.prog W' 0 (fun b => decide (b < W.heap.size)) true 3 v1 d1 p1 :=
    fun W' hn => Below.trod laid_out (by kernel_rfl) (of_decide_eq_true (by kernel_rfl)) h1 hn (fun x hx => hlt x (by simp [hx]))
  obtain ⟨i0, rfl, _, _, w0⟩ := open_int Try.underlying22 (hval 0 22 v0 rfl rfl) h0
  obtain ⟨v, rfl, l0⟩ := word_of_wf w0
  obtain ⟨c, rfl, _, _, w1⟩ := open_int Try.underlying3 (hval 1 3 v1 rfl rfl) h1
  have l1 := int_of_wf w1
  refine (wordsRounds_walk v c ⟨l0⟩ W).mono fun e W' ⟨he, hn⟩ => ?_
  subst he
  exact ⟨_, rfl, _, _, _, [], p0 ++ p1, [], hW', trodAll_mk1 (shut_bool Try.underlying4 true), (trodAll_mk2 (g0 W' hn) (g1 W' hn)), rfl, hn.frame _, fun h => by cases h⟩

theorem wordsRounds_holds : Rows.WordsRoundsSaid :=
  OpenClaim.holds_of_wide 9 Try.f9 rfl rfl rfl rfl rfl rfl rfl ⟨rfl, rfl, rfl, rfl, rfl⟩ rfl rfl rfl rfl rfl (by kernel_rfl) Try.func9 (by kernel_rfl)
    (of_decide_eq_true (by kernel_rfl)) (by unfold Func.isWrapper; first | (rw [if_pos (by decide +kernel)]; kernel_rfl) | (rw [if_neg (by decide +kernel)]; exact ⟨rfl, rfl⟩))
    (fun os started H enc _ => wordsRounds_lifted os started H enc)
#print axioms wordsRounds_holds
end Go.Proofs.Ytbmdnbjkphmmpaa
