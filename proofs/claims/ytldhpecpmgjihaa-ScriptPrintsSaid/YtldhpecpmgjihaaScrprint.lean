/- The reference's Print over the translation. -/
import Derived.Test.YtldhpecpmgjihaaScsl
import Derived.Laws.IdiomStrings
import Derived.Laws.BytesArg
set_option linter.unusedVariables false
set_option linter.unusedSimpArgs false
namespace Go.Proofs.Ytldhpecpmgjihaa
open Go.RowKit Sc
theorem ub_str : Try.prog.underlying 9 = some .string := by kernel_rfl
theorem ub_u8 : Try.prog.underlying 5 = some (.int .u8) := by kernel_rfl
theorem own_bytes0 {w : World} {B : Nat} (h : B ≤ w.heap.size) : (w.alloc (.cells #[] 5)).ownsRow B 5 1 (.slice (some ⟨w.heap.size, 0, none⟩) 0 0) 0 [] :=
  ⟨rfl, .inr ⟨w.heap.size, 0, #[], rfl, h, by show (w.heap.push _)[_]? = _; simp, Nat.le_refl _, Nat.zero_le _, rfl, rfl⟩⟩
/-- 'string(b)' of a row of bytes of the call's own. -/
theorem own_string {w : World} {B : Nat} {v : Value} {l : List UInt8} (h : w.ownsRow B 5 1 v l.length (Lib.byteCells l)) : (convert 39 9 v).run Try.prog w = .ok (.string ⟨l.toArray⟩) w := by
  obtain ⟨h0, ⟨h1, h2⟩ | ⟨g, cap, cur, hv, hg, hh, hc, hm, hs, ht⟩⟩ := h
  · rw [h1]
    have : l = [] := List.eq_nil_of_length_eq_zero h2
    subst this
    have hn := run_convert_bytes_nil (P := Try.prog) w 39 5 ub_bytes ub_u8 0 0 9 ub_str
    exact hn
  · rw [hv]
    refine run_convert_bytes_back w 39 9 5 ⟨g, 0, none⟩ cap l ub_bytes ub_u8 ub_str fun j hj => ?_
    have e : (Lib.byteCells l)[j]? = some (.int .u8 (l[j].toNat : Int)) := by simp [Lib.byteCells, hj]
    have hx : w.cell? ((⟨g, 0, none⟩ : Addr).add j) = some (.int .u8 (l[j].toNat : Int)) := World.ownsRow.cells ⟨h0, .inr ⟨g, cap, cur, hv, hg, hh, hc, hm, hs, ht⟩⟩ (by rw [hv]; rfl) j _ e
    exact hx
set_option maxRecDepth 100000 in
set_option maxHeartbeats 800000 in
theorem rprint_nil (ao : Option Addr) (cap : Nat) (c : Int) (w : World) :
    Calls Try.prog 17 #[.slice ao 0 cap, .int .i64 c] w fun e w' => e = .returned (.string ⟨#[]⟩) ∧ Below w.heap.size w w' := by
  have hcv : (convert 39 9 (.slice (some ⟨w.heap.size, 0, none⟩) 0 0)).run Try.prog (w.alloc (.cells #[] 5)) = .ok (.string ⟨#[]⟩) (w.alloc (.cells #[] 5)) := own_string (l := []) (own_bytes0 (Nat.le_refl _))
  go_enter Try.func17, Try.ntmps17
  go_wp2
  refine wp_loop_rounds 1 ?_
  rw [rounds_succ]
  go_wp2_with fail
  go_ret
  exact ⟨rfl, below_new (Below.refl _ _) _⟩
set_option maxRecDepth 100000 in
set_option maxHeartbeats 6400000 in
theorem rprint_cells (g o n cap : Nat) (f : Nat → It) (c : Int) (hn : n ≤ 1000000) (w : World) (hg : g < w.heap.size) (hc : ∀ j, j < n → w.cell? ⟨g, o + j * 4, none⟩ = some (.int .i64 (f j).k) ∧ w.cell? ⟨g, o + j * 4 + 1, none⟩ = some (.int .i64 (f j).c) ∧ w.cell? ⟨g, o + j * 4 + 2, none⟩ = some (.int .i64 (f j).a) ∧ w.cell? ⟨g, o + j * 4 + 3, none⟩ = some (.int .i64 (f j).b)) :
    Calls Try.prog 17 #[.slice (some ⟨g, o, none⟩) n cap, .int .i64 c] w fun e w' => e = .returned (.string ⟨(printU f c n).toArray⟩) ∧ Below w.heap.size w w' := by
  obtain ⟨i0, hi, hy0, hy1, hy2⟩ := info_parts info_u8
  have HC := Lib.hid hc
  clear hc
  go_enter Try.func17, Try.ntmps17
  go_wp2
  go_loopw [5, 6] (fun v i wr => ∃ k : Nat, k ≤ n ∧ i = .int .i64 k ∧ Hid (wr.ownsRow w.heap.size 5 1 v (printU f c k).length (Lib.byteCells (printU f c k))) ∧ Hid (Below w.heap.size w wr)) (fun _ i _ => n - (intOf i).toNat)
  case atStart => exact ⟨0, Nat.zero_le _, rfl, Lib.hid (own_bytes0 (Nat.le_refl _)), Lib.hid (below_new (Below.refl _ _) _)⟩
  case round =>
    obtain ⟨k, hk, rfl, hown, hnx⟩ := hrel
    have hzr : w.heap.size ≤ wr.heap.size := hnx.out.size
    have hpl := print_len f c k
    by_cases hlt : k < n
    · have hlt' : (k : Int) < (n : Int) := by omega
      have hk0 : (0 : Int) ≤ (k : Int) := by omega
      obtain ⟨x, hx⟩ : ∃ x, f k = x := ⟨_, rfl⟩
      obtain ⟨R0, R1, R2, R3⟩ := HC.out k hlt
      rw [hx] at R0 R1 R2 R3
      have P0 := (hnx.out.cell (p := ⟨g, o + k * 4, none⟩) hg).trans R0
      have P1 := (hnx.out.cell (p := ⟨g, o + k * 4 + 1, none⟩) hg).trans R1
      have P2 := (hnx.out.cell (p := ⟨g, o + k * 4 + 2, none⟩) hg).trans R2
      have P3 := (hnx.out.cell (p := ⟨g, o + k * 4 + 3, none⟩) hg).trans R3
      have HX := Lib.hid hx
      clear hx
      have step : ∀ t : Bool, rightU x c = t → Hid (∀ w : World, Calls Try.prog 15 #[(.agg #[.int .i64 x.k, .int .i64 x.c, .int .i64 x.a, .int .i64 x.b]), .int .i64 c] w fun e w' => e = .returned (.bool t) ∧ Below w.heap.size w w') := fun t ht => Lib.hid (fun w => by
        have h := rright_any x c w
        rw [ht] at h
        exact h)
      by_cases hrt : rightU x c = true
      · have RC := step true hrt
        have hR' : x.Right c := of_decide_eq_true hrt
        unfold It.Right at hR'
        have e0 : IntKind.u8.wrap x.k = x.k := by simp [IntKind.wrap, IntKind.bits, IntKind.signed]; omega
        have e1 : IntKind.u8.wrap x.c = x.c := by simp [IntKind.wrap, IntKind.bits, IntKind.signed]; omega
        have e2 : IntKind.u8.wrap x.a = x.a := by simp [IntKind.wrap, IntKind.bits, IntKind.signed]; omega
        have e3 : IntKind.u8.wrap x.b = x.b := by simp [IntKind.wrap, IntKind.bits, IntKind.signed]; omega
        obtain ⟨b0, b1, b2, b3, hb0, hb1, hb2, hb3⟩ : ∃ b0 b1 b2 b3 : UInt8, b0 = x.k.toNat.toUInt8 ∧ b1 = x.c.toNat.toUInt8 ∧ b2 = x.a.toNat.toUInt8 ∧ b3 = x.b.toNat.toUInt8 := ⟨_, _, _, _, rfl, rfl, rfl, rfl⟩
        have eP : Hid (printU f c (k + 1) = printU f c k ++ [b0, b1, b2, b3]) := Lib.hid (by
          show (if rightU (f k) c then _ else _) = _
          rw [HX.out, hrt, if_pos rfl, hb0, hb1, hb2, hb3]
          rfl)
        have Y0 := Lib.hid (show (b0.toNat : Int) = x.k by rw [hb0]; exact byte_of (x := x.k) (by omega))
        have Y1 := Lib.hid (show (b1.toNat : Int) = x.c by rw [hb1]; exact byte_of (x := x.c) (by omega))
        have Y2 := Lib.hid (show (b2.toNat : Int) = x.a by rw [hb2]; exact byte_of (x := x.a) (by omega))
        have Y3 := Lib.hid (show (b3.toNat : Int) = x.b by rw [hb3]; exact byte_of (x := x.b) (by omega))
        clear hb0 hb1 hb2 hb3
        clear step hrt hR'
        go_wp2_with fail
        refine (RC.out _).mono ?_
        rintro e w2 ⟨rfl, hb⟩
        have HB2 : Hid (Below w.heap.size w w2) := Lib.hid (below_from hnx.out hb)
        have HO2 := Lib.hid (own_keep hown.out hb)
        have hz2 : w.heap.size ≤ w2.heap.size := HB2.out.size
        clear hb P0 P1 P2 P3
        have P0 : w2.cell? ⟨g, o + k * 4, none⟩ = some (.int .i64 x.k) := (HB2.out.cell (p := ⟨g, o + k * 4, none⟩) hg).trans R0
        go_wp2_with (first | (at_builtin; refine wpList_append_own _ rfl (.tmp 20) (.tmp 27) 39 rfl w.heap.size 5 i0 (.int .u8 0) 1 1 ub_bytes hi hy0 hy1 hy2 rfl (by decide) _ _ _ rfl (HO2.out.alloc _) ⟨w2.heap.size, 0, none⟩ 1 1 [.int .u8 x.k] rfl rfl ?c1 ?c2 ?c3 ?c4 ?c5 ?_) | fail)
        case c1 =>
          intro j u hj
          match j, hj with
          | 0, hj => simp at hj; subst hj; simp [Addr.add]
        case c2 =>
          intro u hu
          simp at hu
          subst hu
          rfl
        case c3 => unfold maxLen; simp; omega
        case c4 => simp; omega
        case c5 => simp; omega
        intro v1 w3 hown' hgrow _
        have HO3 : Hid (w3.ownsRow w.heap.size 5 1 v1 ((printU f c k).length + 1) (Lib.byteCells (printU f c k ++ [b0]))) := Lib.hid (by
          have e : Lib.byteCells (printU f c k ++ [b0]) = Lib.byteCells (printU f c k) ++ [.int .u8 x.k] := by simp [Lib.byteCells, Y0.out]
          rw [e]
          exact hown')
        have HB3 : Hid (Below w.heap.size w w3) := Lib.hid ((below_new HB2.out _).grown hgrow (by simp; omega) (own_below HO2.out))
        have hz3 : w.heap.size ≤ w3.heap.size := HB3.out.size
        clear hown' hgrow P0
        have P1 : w3.cell? ⟨g, o + k * 4 + 1, none⟩ = some (.int .i64 x.c) := (HB3.out.cell (p := ⟨g, o + k * 4 + 1, none⟩) hg).trans R1
        go_wp2_with (first | (at_builtin; refine wpList_append_own _ rfl (.tmp 29) (.tmp 36) 39 rfl w.heap.size 5 i0 (.int .u8 0) 1 1 ub_bytes hi hy0 hy1 hy2 rfl (by decide) _ _ _ rfl (HO3.out.alloc _) ⟨w3.heap.size, 0, none⟩ 1 1 [.int .u8 x.c] rfl rfl ?c1 ?c2 ?c3 ?c4 ?c5 ?_) | fail)
        case c1 =>
          intro j u hj
          match j, hj with
          | 0, hj => simp at hj; subst hj; simp [Addr.add]
        case c2 =>
          intro u hu
          simp at hu
          subst hu
          rfl
        case c3 => unfold maxLen; simp; omega
        case c4 => simp; omega
        case c5 => simp; omega
        intro v2 w4 hown' hgrow _
        have HO4 : Hid (w4.ownsRow w.heap.size 5 1 v2 ((printU f c k).length + 2) (Lib.byteCells (printU f c k ++ [b0, b1]))) := Lib.hid (by
          have e : Lib.byteCells (printU f c k ++ [b0, b1]) = Lib.byteCells (printU f c k ++ [b0]) ++ [.int .u8 x.c] := by simp [Lib.byteCells, Y1.out]
          rw [e]
          exact hown')
        have HB4 : Hid (Below w.heap.size w w4) := Lib.hid ((below_new HB3.out _).grown hgrow (by simp; omega) (own_below HO3.out))
        have hz4 : w.heap.size ≤ w4.heap.size := HB4.out.size
        clear hown' hgrow P1
        have P2 : w4.cell? ⟨g, o + k * 4 + 2, none⟩ = some (.int .i64 x.a) := (HB4.out.cell (p := ⟨g, o + k * 4 + 2, none⟩) hg).trans R2
        go_wp2_with (first | (at_builtin; refine wpList_append_own _ rfl (.tmp 38) (.tmp 45) 39 rfl w.heap.size 5 i0 (.int .u8 0) 1 1 ub_bytes hi hy0 hy1 hy2 rfl (by decide) _ _ _ rfl (HO4.out.alloc _) ⟨w4.heap.size, 0, none⟩ 1 1 [.int .u8 x.a] rfl rfl ?c1 ?c2 ?c3 ?c4 ?c5 ?_) | fail)
        case c1 =>
          intro j u hj
          match j, hj with
          | 0, hj => simp at hj; subst hj; simp [Addr.add]
        case c2 =>
          intro u hu
          simp at hu
          subst hu
          rfl
        case c3 => unfold maxLen; simp; omega
        case c4 => simp; omega
        case c5 => simp; omega
        intro v3 w5 hown' hgrow _
        have HO5 : Hid (w5.ownsRow w.heap.size 5 1 v3 ((printU f c k).length + 3) (Lib.byteCells (printU f c k ++ [b0, b1, b2]))) := Lib.hid (by
          have e : Lib.byteCells (printU f c k ++ [b0, b1, b2]) = Lib.byteCells (printU f c k ++ [b0, b1]) ++ [.int .u8 x.a] := by simp [Lib.byteCells, Y2.out]
          rw [e]
          exact hown')
        have HB5 : Hid (Below w.heap.size w w5) := Lib.hid ((below_new HB4.out _).grown hgrow (by simp; omega) (own_below HO4.out))
        have hz5 : w.heap.size ≤ w5.heap.size := HB5.out.size
        clear hown' hgrow P2
        have P3 : w5.cell? ⟨g, o + k * 4 + 3, none⟩ = some (.int .i64 x.b) := (HB5.out.cell (p := ⟨g, o + k * 4 + 3, none⟩) hg).trans R3
        go_wp2_with (first | (at_builtin; refine wpList_append_own _ rfl (.tmp 47) (.tmp 54) 39 rfl w.heap.size 5 i0 (.int .u8 0) 1 1 ub_bytes hi hy0 hy1 hy2 rfl (by decide) _ _ _ rfl (HO5.out.alloc _) ⟨w5.heap.size, 0, none⟩ 1 1 [.int .u8 x.b] rfl rfl ?c1 ?c2 ?c3 ?c4 ?c5 ?_) | fail)
        case c1 =>
          intro j u hj
          match j, hj with
          | 0, hj => simp at hj; subst hj; simp [Addr.add]
        case c2 =>
          intro u hu
          simp at hu
          subst hu
          rfl
        case c3 => unfold maxLen; simp; omega
        case c4 => simp; omega
        case c5 => simp; omega
        intro v4 w6 hown' hgrow _
        have HO6 : Hid (w6.ownsRow w.heap.size 5 1 v4 ((printU f c k).length + 4) (Lib.byteCells (printU f c k ++ [b0, b1, b2, b3]))) := Lib.hid (by
          have e : Lib.byteCells (printU f c k ++ [b0, b1, b2, b3]) = Lib.byteCells (printU f c k ++ [b0, b1, b2]) ++ [.int .u8 x.b] := by simp [Lib.byteCells, Y3.out]
          rw [e]
          exact hown')
        have HB6 : Hid (Below w.heap.size w w6) := Lib.hid ((below_new HB5.out _).grown hgrow (by simp; omega) (own_below HO5.out))
        have hz6 : w.heap.size ≤ w6.heap.size := HB6.out.size
        clear hown' hgrow P3
        go_wp2
        go_roundw
        case rel => exact ⟨k + 1, by omega, by go_num, Lib.hid (by rw [eP.out, show (printU f c k ++ [b0, b1, b2, b3]).length = (printU f c k).length + 4 by simp]; exact HO6.out), HB6⟩
        case measure => simp [intOf]; omega
      · have hrf : rightU x c = false := by simpa using hrt
        have RC := step false hrf
        have eP : Hid (printU f c (k + 1) = printU f c k) := Lib.hid (by
          show (if rightU (f k) c then _ else _) = _
          rw [HX.out, hrf]
          rfl)
        clear step hrt hrf
        go_wp2_with fail
        refine (RC.out _).mono ?_
        rintro e w2 ⟨rfl, hb⟩
        have HB2 : Hid (Below w.heap.size w w2) := Lib.hid (below_from hnx.out hb)
        have HO2 := Lib.hid (own_keep hown.out hb)
        clear hb P0 P1 P2 P3 R0 R1 R2 R3
        go_wp2
        go_roundw
        case rel => exact ⟨k + 1, by omega, by go_num, Lib.hid (by rw [eP.out]; exact HO2.out), HB2⟩
        case measure => simp [intOf]; omega
    · have hke : k = n := by omega
      subst hke
      have hnl : ¬ (k : Int) < (k : Int) := by omega
      have hcv := own_string hown.out
      go_wp2_with fail
      go_ret
      exact ⟨rfl, hnx.out⟩
theorem rprint_any (v : Value) (l : List It) (c : Int) (hn : l.length ≤ 1000000) (w : World) (h : SlIt w v l) :
    Calls Try.prog 17 #[v, .int .i64 c] w fun e w' => e = .returned (.string ⟨(printL l c).toArray⟩) ∧ Below w.heap.size w w' := by
  obtain ⟨ao, cap, rfl, h'⟩ := h
  by_cases h0 : l = []
  · subst h0
    exact rprint_nil ao cap c w
  · obtain ⟨g, o, rfl, hg, hc⟩ := h' h0
    exact rprint_cells g o l.length cap (fun j => l.getD j Sc.zero) c hn w hg hc
end Go.Proofs.Ytldhpecpmgjihaa
