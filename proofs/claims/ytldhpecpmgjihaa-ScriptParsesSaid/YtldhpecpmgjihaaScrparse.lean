/- The reference's Parse over the translation. -/
import Derived.Test.YtldhpecpmgjihaaScsl
set_option linter.unusedVariables false
set_option linter.unusedSimpArgs false
namespace Go.Proofs.Ytldhpecpmgjihaa
open Go.RowKit Sc
namespace Sc
theorem byt_get (s : ByteArray) (k : Nat) (h : k < s.size) : IntKind.i64.wrap (((s[k]'h).toNat : Nat) : Int) = byt s k := by
  have e2 : byt s k = ((s[k]'h).toNat : Int) := by
    unfold byt
    have h3 : k < s.data.toList.length := by simpa using h
    rw [List.getD_eq_getElem?_getD, List.getElem?_eq_getElem h3]
    rfl
  rw [e2, IntKind.wrap_i64]
  have := UInt8.toNat_lt (s[k]'h)
  omega
theorem own_empty {w : World} {B : Nat} (h : B ≤ w.heap.size) : (w.alloc (.cells #[] 29)).ownsRow B 29 4 (.slice (some ⟨w.heap.size, 0, none⟩) 0 0) 0 [] :=
  ⟨rfl, .inr ⟨w.heap.size, 0, #[], rfl, h, by show (w.heap.push _)[_]? = _; simp, Nat.le_refl _, Nat.zero_le _, rfl, rfl⟩⟩
end Sc
set_option maxRecDepth 100000 in
set_option maxHeartbeats 6400000 in
theorem rparse_own (s : ByteArray) (c : Int) (hs : s.size ≤ 1000000) (w : World) : Calls Try.prog 13 #[.string s, .int .i64 c] w fun e w' => ∃ v, e = .returned v ∧ w'.ownsRow w.heap.size 29 4 v (parseU s c (s.size / 4)).length (its (parseU s c (s.size / 4))) ∧ Below w.heap.size w w' := by
  obtain ⟨i0, hi, hy0, hy1, hy2⟩ := info_parts info_item
  have hs' : (s.size : Int) ≤ 1000000 := by omega
  go_enter Try.func13, Try.ntmps13
  go_wp2
  go_loopw [5, 6] (fun v iv wr => ∃ j q : Nat, 4 * j ≤ s.size ∧ Hid (q = 4 * j) ∧ q ≤ 1000000 ∧ iv = .int .i64 q ∧ Hid (wr.ownsRow w.heap.size 29 4 v (parseU s c j).length (its (parseU s c j))) ∧ Hid (Below w.heap.size w wr)) (fun _ iv _ => s.size - (intOf iv).toNat)
  case atStart => exact ⟨0, 0, by omega, Lib.hid rfl, by omega, rfl, Lib.hid (own_empty (Nat.le_refl _)), Lib.hid (below_new (Below.refl _ _) _)⟩
  case round =>
    obtain ⟨j, q, hj, hq, hq6, rfl, hown, hbw⟩ := hrel
    by_cases hlt : 4 * (j + 1) ≤ s.size
    · have hqs : (q : Int) + 4 ≤ (s.size : Int) := by have := hq.out; omega
      have hq0 : (0 : Int) ≤ (q : Int) := by omega
      have t0 : q < s.size := by have := hq.out; omega
      have t1 : q + 1 < s.size := by have := hq.out; omega
      have t2 : q + 2 < s.size := by have := hq.out; omega
      have t3 : q + 3 < s.size := by have := hq.out; omega
      obtain ⟨x, hx⟩ : ∃ x, itAt s j = x := ⟨_, rfl⟩
      have e0 : IntKind.i64.wrap (((s[q]'t0).toNat : Nat) : Int) = x.k := by rw [byt_get, ← hx, hq.out]; rfl
      have e1 : IntKind.i64.wrap (((s[q + 1]'t1).toNat : Nat) : Int) = x.c := by rw [byt_get, ← hx, hq.out]; rfl
      have e2 : IntKind.i64.wrap (((s[q + 2]'t2).toNat : Nat) : Int) = x.a := by rw [byt_get, ← hx, hq.out]; rfl
      have e3 : IntKind.i64.wrap (((s[q + 3]'t3).toNat : Nat) : Int) = x.b := by rw [byt_get, ← hx, hq.out]; rfl
      have u0 : (q : Int) < (s.size : Int) := by omega
      have u1 : (q : Int) + 1 < (s.size : Int) := by omega
      have u2 : (q : Int) + 2 < (s.size : Int) := by omega
      have u3 : (q : Int) + 3 < (s.size : Int) := by omega
      have n1 : ((q : Int) + 1).toNat = q + 1 := by omega
      have n2 : ((q : Int) + 2).toNat = q + 2 := by omega
      have n3 : ((q : Int) + 3).toNat = q + 3 := by omega
      have m1 : (0 : Int) ≤ (q : Int) + 1 := by omega
      have m2 : (0 : Int) ≤ (q : Int) + 2 := by omega
      have m3 : (0 : Int) ≤ (q : Int) + 3 := by omega
      have w1' : IntKind.i64.wrap ((q : Int) + 1) = (q : Int) + 1 := by rw [IntKind.wrap_i64]; omega
      have w2' : IntKind.i64.wrap ((q : Int) + 2) = (q : Int) + 2 := by rw [IntKind.wrap_i64]; omega
      have w3' : IntKind.i64.wrap ((q : Int) + 3) = (q : Int) + 3 := by rw [IntKind.wrap_i64]; omega
      have HX := Lib.hid hx
      clear hx
      go_wp2_with fail
      go_region
      have w4' : IntKind.i64.wrap ((q : Int) + 4) = (q : Int) + 4 := by rw [IntKind.wrap_i64]; omega
      have step : ∀ t : Bool, rightU x c = t → Hid (∀ w : World, Calls Try.prog 15 #[(.agg #[.int .i64 x.k, .int .i64 x.c, .int .i64 x.a, .int .i64 x.b]), .int .i64 c] w fun e w' => e = .returned (.bool t) ∧ Below w.heap.size w w') := fun t ht => Lib.hid (fun w => by
        have h := rright_any x c w
        rw [ht] at h
        exact h)
      have hzr : w.heap.size ≤ wr.heap.size := hbw.out.size
      by_cases hrt : rightU x c = true
      · have RC := step true hrt
        have eP : Hid (parseU s c (j + 1) = parseU s c j ++ [x]) := Lib.hid (by
          show (if rightU (itAt s j) c then _ else _) = _
          rw [HX.out, hrt, if_pos rfl])
        clear step hrt
        go_wp2_with fail
        refine (RC.out _).mono ?_
        rintro e w2 ⟨rfl, hb⟩
        have c0 : w2.cell? ⟨wr.heap.size, 0, none⟩ = some (.int .i64 x.k) := (hb.cell (p := ⟨wr.heap.size, 0, none⟩) (by simp)).trans (by simp [go_sem])
        have c1 : w2.cell? ⟨wr.heap.size, 1, none⟩ = some (.int .i64 x.c) := (hb.cell (p := ⟨wr.heap.size, 1, none⟩) (by simp)).trans (by simp [go_sem])
        have c2 : w2.cell? ⟨wr.heap.size, 2, none⟩ = some (.int .i64 x.a) := (hb.cell (p := ⟨wr.heap.size, 2, none⟩) (by simp)).trans (by simp [go_sem])
        have c3 : w2.cell? ⟨wr.heap.size, 3, none⟩ = some (.int .i64 x.b) := (hb.cell (p := ⟨wr.heap.size, 3, none⟩) (by simp)).trans (by simp [go_sem])
        have HB2 : Hid (Below wr.heap.size wr w2) := Lib.hid (below_from (Below.drew (below_new (Below.refl wr.heap.size wr) _)) hb)
        have HO2 := Lib.hid (own_keep hown.out HB2.out)
        have hlen := parse_len s c j
        have hz2 : wr.heap.size < w2.heap.size := by have := hb.size; simp at this; omega
        clear hb
        go_wp2_with (first | (at_builtin; refine wpList_append_own _ rfl (.tmp 39) (.tmp 41) 24 rfl w.heap.size 29 i0 (.agg #[.int .i64 0, .int .i64 0, .int .i64 0, .int .i64 0]) 4 32 ul_items hi hy0 hy1 hy2 rfl (by decide) _ _ _ rfl (HO2.out.alloc _) ⟨w2.heap.size, 0, none⟩ 1 1 [.int .i64 x.k, .int .i64 x.c, .int .i64 x.a, .int .i64 x.b] rfl rfl ?c1 ?c2 ?c3 ?c4 ?c5 ?_) | fail)
        case c1 =>
          intro j u hj
          match j, hj with
          | 0, hj => simp at hj; subst hj; simp [Addr.add]
          | 1, hj => simp at hj; subst hj; simp [Addr.add]
          | 2, hj => simp at hj; subst hj; simp [Addr.add]
          | 3, hj => simp at hj; subst hj; simp [Addr.add]
        case c2 =>
          intro u hu
          simp at hu
          rcases hu with rfl | rfl | rfl | rfl <;> rfl
        case c3 => unfold maxLen; omega
        case c4 => omega
        case c5 => simp; omega
        · intro v' w4 hown' hgrow _
          have HOW : Hid (w4.ownsRow w.heap.size 29 4 v' (parseU s c (j + 1)).length (its (parseU s c (j + 1)))) := Lib.hid (by
            rw [eP.out, its_snoc, List.length_append]
            exact hown')
          have HB4 : Hid (Below w.heap.size w w4) := Lib.hid ((below_new (hbw.out.trans (HB2.out.mono hzr)) _).grown hgrow (by simp; omega) (own_below HO2.out))
          clear hown' hgrow c0 c1 c2 c3
          go_wp2
          go_roundw
          case rel => exact ⟨j + 1, q + 4, by omega, Lib.hid (by have := hq.out; omega), by have := hq.out; omega, by go_num, HOW, HB4⟩
          case measure => simp [intOf]; omega
      · have hrf : rightU x c = false := by simpa using hrt
        have RC := step false hrf
        have eP : Hid (parseU s c (j + 1) = parseU s c j) := Lib.hid (by
          show (if rightU (itAt s j) c then _ else _) = _
          rw [HX.out, hrf]
          rfl)
        clear step hrt hrf
        go_wp2_with fail
        refine (RC.out _).mono ?_
        rintro e w2 ⟨rfl, hb⟩
        have HB2 : Hid (Below wr.heap.size wr w2) := Lib.hid (below_from (Below.drew (below_new (Below.refl wr.heap.size wr) _)) hb)
        have HO2 := Lib.hid (own_keep hown.out HB2.out)
        clear hb
        go_wp2
        go_roundw
        case rel => exact ⟨j + 1, q + 4, by omega, Lib.hid (by have := hq.out; omega), by have := hq.out; omega, by go_num, Lib.hid (by rw [eP.out]; exact HO2.out), Lib.hid (hbw.out.trans (HB2.out.mono hzr))⟩
        case measure => simp [intOf]; omega
    · have hqs : (s.size : Int) < (q : Int) + 4 := by have := hq.out; omega
      have hje : j = s.size / 4 := by omega
      have w4' : IntKind.i64.wrap ((q : Int) + 4) = (q : Int) + 4 := by rw [IntKind.wrap_i64]; omega
      have HJ := Lib.hid hje
      clear hje
      go_wp2_with fail
      go_ret
      exact ⟨_, rfl, by rw [← HJ.out]; exact hown.out, hbw.out⟩
theorem rparse_any (s : ByteArray) (c : Int) (hs : s.size ≤ 1000000) (w : World) : Calls Try.prog 13 #[.string s, .int .i64 c] w fun e w' => ∃ v, e = .returned v ∧ SlIt w' v (parseL s c) ∧ Below w.heap.size w w' := by
  refine (rparse_own s c hs w).mono ?_
  rintro e w' ⟨v, h1, h2, h3⟩
  exact ⟨v, h1, slIt_own h2, h3⟩
end Go.Proofs.Ytldhpecpmgjihaa
