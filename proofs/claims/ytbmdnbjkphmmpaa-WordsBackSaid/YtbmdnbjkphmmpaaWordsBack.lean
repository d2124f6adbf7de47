/- What is put into a word is found there, and all other bits are as they were; put back, the word is as it was: for every input, no condition. -/
import Derived.Test.YtbmdnbjkphmmpaaFrame
import Derived.Test.YtbmdnbjkphmmpaaFixed
namespace Go.Proofs.Ytbmdnbjkphmmpaa
open Go.ChangeShapes Go.WideShapes Go.ChangeAt Go.RowKit Go.Joins Wd

theorem field_low (v m k x : Nat) (h : m + k ≤ 64) (w : World) :
    Calls Try.prog 12 #[.int .u64 (wth v m k (lowN x k)), .int .i64 m, .int .i64 k] w fun e w' => e = .returned (.tuple #[.int .u64 (lowN x k), .int .i64 0]) ∧ ∃ k, w' = w.drewN k := by
  have c := field_any (wth v m k (lowN x k)) m k ⟨wth_lt _ _ _ _⟩ h w
  rwa [fld_wth v m k _ h (lowN_lt x k)] at c
theorem with_back (v m k y : Nat) (hv : Word v) (h : m + k ≤ 64) (w : World) :
    Calls Try.prog 14 #[.int .u64 (wth v m k y), .int .i64 m, .int .i64 k, .int .u64 (fld v m k)] w fun e w' => e = .returned (.tuple #[.int .u64 v, .int .i64 0]) ∧ ∃ k, w' = w.drewN k := by
  have c := with_any (wth v m k y) m k (fld v m k) ⟨wth_lt _ _ _ _⟩ ⟨fld_word v m k (by omega)⟩ h (fld_lt v m k) w
  rwa [wth_wth v m k y hv] at c

set_option maxRecDepth 100000 in
set_option maxHeartbeats 1600000 in
theorem wordsBack_walk (v x : Nat) (a n : Int) (hv : Word v) (hx : Word x) (W : World) :
    Calls Try.prog 6 #[.int .u64 v, .agg #[.int .i64 a, .int .i64 n], .int .u64 x] W fun e w' => e = .returned (.bool true) ∧ Below W.heap.size W w' := by
  obtain ⟨m, hm, hA⟩ := and63 a
  obtain ⟨r, hr, hR⟩ := and65535 n
  obtain ⟨k, hmk, hN⟩ := rem_in r m (by omega)
  have hk64 : k ≤ 64 := by omega
  have hX := low_and x k hx hk64
  have C1 := Lib.hid (field_low v m k x hmk)
  have C2 := Lib.hid (with_back v m k (lowN x k) hv hmk)
  have H3 := others_stay v m k (lowN x k) hv hmk
  go_enter Try.func6, Try.ntmps6
  go_wp2_with fail
  refine (mask_any k hk64 _).mono ?_
  rintro e w' ⟨rfl, rfl⟩
  go_wp2_with fail
  refine (field_any v m k hv hmk _).mono ?_
  rintro e w' ⟨rfl, k1, rfl⟩
  go_wp2_with fail
  refine (with_any v m k (lowN x k) hv (lowN_word x k hk64) hmk (lowN_lt x k) _).mono ?_
  rintro e w' ⟨rfl, k2, rfl⟩
  go_wp2_with fail
  refine (C1.out _).mono ?_
  rintro e w' ⟨rfl, k3, rfl⟩
  go_wp2_with fail
  refine (C2.out _).mono ?_
  rintro e w' ⟨rfl, k4, rfl⟩
  go_wp2_with fail
  refine (fixed_true _).mono ?_
  rintro e w1 ⟨rfl, hb⟩
  have HB := Lib.hid hb
  clear hb
  go_wp2_with fail
  go_ret
  exact ⟨rfl, below_then (below_new (Below.refl _ _) _) (below_drawn HB.out)⟩


set_option maxRecDepth 100000 in
theorem wordsBack_lifted (os : Os) (started : os.Started) (H : Type) (enc : TypeId × Value → H) :
    ReturnsInHanded {} Try.checked os 6 .any (Rows.wordsBackSpec.pre6 enc Try.prog Try.f6 Rows.wordsBackRow.domain false) (Rows.wordsBackSpec.post enc Try.prog Try.f6 false true false false) := by
  refine returnsInHanded_of_change (C := Try.checked) own_knob started (by kernel_rfl) Try.func6
    (ChangeSpec.witness6 (enc := enc) (C := Try.checked) false ⟨#[], #[.int .u64 0, .agg #[.int .i64 0, .int .i64 0], .int .u64 0], []⟩ 8 (by kernel_rfl) (by kernel_rfl) (by kernel_rfl) (by kernel_rfl)) ?_
  intro W base args ds gs before hval0 hW hcnd _
  have hval : ∀ (j : Nat) t v, Try.f6.params[j]? = some t → args[j]? = some v → Value.okWide Try.prog W .any base t v := hval0
  have hW' := hW
  obtain ⟨p, q, hA0, hV, rfl, hfz, hnd⟩ := hW
  have hA : DataW.TrodAll enc Try.prog W 0 (fun _ => true) true Try.f6.params.toList args.toList ds p := hA0
  rw [Try.params6] at hA hval
  obtain ⟨v0, v1, v2, d0, d1, d2, p0, p1, p2, rfl, rfl, rfl, h0, h1, h2⟩ := trodAll_three hA
  obtain ⟨rfl, rfl⟩ := trodVars_none hV
  clear hA0 hval0
  simp only [List.append_nil] at hW'
  have hlt : ∀ x ∈ p0 ++ p1 ++ p2, x.block < W.heap.size := fun x hx => by simpa using hW'.lt x hx
  have g0 : ∀ W' : World, Below W.heap.size W W' → DataW.Trod enc Try.prog W' 0 (fun b => decide (b < W.heap.size)) true 22 v0 d0 p0 :=
    fun W' hn => Below.trod laid_out (by kernel_rfl) (of_decide_eq_true (by kernel_rfl)) h0 hn (fun x hx => hlt x (by simp [hx]))
  have g1 : ∀ W' : World, Below W.heap.size W W' → DataW.Trod enc Try.prog W' 0 (fun b => decide (b < W.heap.size)) true 24 v1 d1 p1 :=
    fun W' hn => Below.trod laid_out (by kernel_rfl) (of_decide_eq_true (by kernel_rfl)) h1 hn (fun x hx => hlt x (by simp [hx]))
  have g2 : ∀ W' : World, Below W.heap.size W W' → DataW.Trod enc Try.prog W' 0 (fun b => decide (b < W.heap.size)) true 22 v2 d2 p2 :=
    fun W' hn => Below.trod laid_out (by kernel_rfl) (of_decide_eq_true (by kernel_rfl)) h2 hn (fun x hx => hlt x (by simp [hx]))
  obtain ⟨i0, rfl, _, _, w0⟩ := open_int Try.underlying22 (hval 0 22 v0 rfl rfl) h0
  obtain ⟨v, rfl, l0⟩ := word_of_wf w0
  obtain ⟨a, n, rfl, l1a, l1n⟩ := open_part (hval 1 24 v1 rfl rfl) h1
  obtain ⟨i2, rfl, _, _, w2⟩ := open_int Try.underlying22 (hval 2 22 v2 rfl rfl) h2
  obtain ⟨x, rfl, l2⟩ := word_of_wf w2
  refine (wordsBack_walk v x a n ⟨l0⟩ ⟨l2⟩ W).mono fun e W' ⟨he, hn⟩ => ?_
  subst he
  exact ⟨_, rfl, _, _, _, [], p0 ++ p1 ++ p2, [], hW', trodAll_mk1 (shut_bool Try.underlying4 true), (by rw [List.append_assoc p0 p1 p2]; exact trodAll_mk3 (g0 W' hn) (g1 W' hn) (g2 W' hn)), rfl, hn.frame _, fun h => by cases h⟩

theorem wordsBack_holds : Rows.WordsBackSaid :=
  OpenClaim.holds_of_wide 6 Try.f6 rfl rfl rfl rfl rfl rfl rfl ⟨rfl, rfl, rfl, rfl, rfl⟩ rfl rfl rfl rfl rfl (by kernel_rfl) Try.func6 (by kernel_rfl)
    (of_decide_eq_true (by kernel_rfl)) (by unfold Func.isWrapper; first | (rw [if_pos (by decide +kernel)]; kernel_rfl) | (rw [if_neg (by decide +kernel)]; exact ⟨rfl, rfl⟩))
    (fun os started H enc _ => wordsBack_lifted os started H enc)
#print axioms wordsBack_holds
end Go.Proofs.Ytbmdnbjkphmmpaa
