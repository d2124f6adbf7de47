/- The iterator over a script's bytes, walked with the loop's rounds as its argument. -/
import Derived.Test.YtldhpecpmgjihaaScsame
import Derived.RangeFuncBox
import Derived.RangeFuncNested
import Derived.RangeFuncBound
import Derived.RangeFuncCalls
import Derived.RangeFuncLeaves
import Derived.OwnWalkIn
import Derived.TacticsInMore
import Derived.LoopNIn
import Derived.LoopIn
import Derived.Test.YtldhpecpmgjihaaSctail
set_option linter.unusedVariables false
set_option linter.unusedSimpArgs false
namespace Go.Proofs.Ytldhpecpmgjihaa
open Go.RowKit Sc
attribute [local go_sem] Oper.semAt_some

namespace Sc
def byt (s : ByteArray) (j : Nat) : Int := ((s.data.toList.getD j 0).toNat : Int)
def suf (s : ByteArray) (j : Nat) : ByteArray := s.extract (4 * j) s.size
def itAt (s : ByteArray) (j : Nat) : It := ⟨byt s (4 * j), byt s (4 * j + 1), byt s (4 * j + 2), byt s (4 * j + 3)⟩
def left (b : Nat) (w : World) : Nat := match w.cell? ⟨b, 0, none⟩ with | some (.string t) => t.size | _ => 0
theorem left_eq {w : World} {b : Nat} {t : ByteArray} (h : w.cell? ⟨b, 0, none⟩ = some (.string t)) : left b w = t.size := by simp [left, h]
theorem suf_get (s : ByteArray) (j i : Nat) (hi : i < (suf s j).size) : IntKind.i64.wrap ((((suf s j)[i]'hi).toNat : Nat) : Int) = byt s (4 * j + i) := by
  have hsz : (suf s j).size = s.size - 4 * j := by simp [suf, ByteArray.size_extract]
  have h2 : 4 * j + i < s.size := by omega
  have e : (suf s j)[i]'hi = s[4 * j + i]'h2 := by
    unfold suf
    exact ByteArray.getElem_extract hi
  have e2 : byt s (4 * j + i) = ((s[4 * j + i]'h2).toNat : Int) := by
    unfold byt
    have h3 : 4 * j + i < s.data.toList.length := by simpa using h2
    rw [List.getD_eq_getElem?_getD, List.getElem?_eq_getElem h3]
    rfl
  rw [e, e2, IntKind.wrap_i64]
  have := UInt8.toNat_lt (s[4 * j + i]'h2)
  omega
theorem suf_next (s : ByteArray) (j : Nat) (h : 4 * (j + 1) ≤ s.size) : (suf s j).extract 4 (suf s j).size = suf s (j + 1) := by
  have hsz : (suf s j).size = s.size - 4 * j := by simp [suf, ByteArray.size_extract]
  rw [hsz]
  unfold suf
  rw [ByteArray.extract_extract]
  congr 1 <;> omega
theorem byt_in8 (s : ByteArray) (i : Nat) : 0 ≤ byt s i ∧ byt s i ≤ 255 := by
  unfold byt
  have := UInt8.toNat_lt (s.data.toList.getD i 0)
  omega
end Sc
set_option maxRecDepth 100000 in
set_option maxHeartbeats 3200000 in
theorem items_any (n : Nat) (hn : 1 ≤ n) (l Bs : Nat) (R : Loop) (hR : R.params.size = 1) (s : ByteArray) (J : Nat → World → Prop)
    (hJ : ∀ j W, J j W → W.heap[l]? = some (.loop R) ∧ Boxed W Bs 9 (.string (suf s j)))
    (hJd : ∀ j W k, J j W → J j (W.drewN k))
    (hY : ∀ j W, 4 * (j + 1) ≤ s.size → J j W → RoundIn Fence.wide (n - 1) Try.prog l R.fn ((R.params.zip #[(.agg #[.int .i64 (itAt s j).k, .int .i64 (itAt s j).c, .int .i64 (itAt s j).a, .int .i64 (itAt s j).b])]).foldl (fun tmps (t, a) => tmps.setIfInBounds t a) R.tmps) R.assign R.body W fun e W' =>
      e = .returned (.bool true) ∧ Boxed W' Bs 9 (.string (suf s j)) ∧ J (j + 1) (W'.setCell ⟨Bs, 0, none⟩ (.string (suf s (j + 1)))))
    (W : World) (h0 : J 0 W) : CallsIn Fence.wide n Try.prog 22 #[.func (.yield l) #[] #[], .pointer (some ⟨Bs, 0, none⟩)] W fun e W' => (∃ v, e = .returned v) ∧ J (s.size / 4) W' := by
  refine callsIn_of_wp Try.func22 rfl trivial ?_ rfl
  simp only [Try.ntmps22, List.size_toArray, List.length_cons, List.length_nil, Nat.reduceAdd, Nat.reduceSub, Array.replicate_succ, Array.replicate_zero, List.push_toArray, List.append_toArray, List.nil_append, List.cons_append]
  gi_wp2
  gi_loopw [3] (fun p wr => ∃ j : Nat, 4 * j ≤ s.size ∧ J j wr) (fun p wr => left Bs wr)
  case atStart => exact ⟨0, by omega, h0⟩
  case round =>
    obtain ⟨j, hj, hJj⟩ := hrel
    have hb := (hJ j wr hJj).2
    have hc := hb.cell
    have hf := hb.frozen
    have hsz : (suf s j).size = s.size - 4 * j := by simp [suf, ByteArray.size_extract]
    obtain ⟨t, ht⟩ : ∃ t, suf s j = t := ⟨_, rfl⟩
    by_cases hlt : 4 * (j + 1) ≤ s.size
    · have hRj := hY j wr hlt hJj
      have h4 : 4 ≤ t.size := by rw [← ht]; omega
      have h4' : (4 : Int) ≤ (t.size : Int) := by omega
      rw [ht] at hc hsz hb
      have hJd' : J j wr.drew := hJd j wr 1 hJj
      have hRj := hY j wr.drew hlt hJd'
      obtain ⟨x, hx⟩ : ∃ x, itAt s j = x := ⟨_, rfl⟩
      rw [hx] at hRj
      have hy0 : (Instr.yield l #[(.agg #[.int .i64 x.k, .int .i64 x.c, .int .i64 x.a, .int .i64 x.b])]).run Try.prog wr.drew = .ok (.round l R.fn ((R.params.zip #[(.agg #[.int .i64 x.k, .int .i64 x.c, .int .i64 x.a, .int .i64 x.b])]).foldl (fun tmps (t, a) => tmps.setIfInBounds t a) R.tmps) R.assign R.body) wr.drew := run_yield (hJ j wr.drew hJd').1 (by rw [hR]; rfl)
      obtain ⟨tm, htm⟩ : ∃ tm, (R.params.zip #[(.agg #[.int .i64 x.k, .int .i64 x.c, .int .i64 x.a, .int .i64 x.b])]).foldl (fun tmps (t, a) => tmps.setIfInBounds t a) R.tmps = tm := ⟨_, rfl⟩
      have hy : (Instr.yield l #[(.agg #[.int .i64 x.k, .int .i64 x.c, .int .i64 x.a, .int .i64 x.b])]).run Try.prog wr.drew = .ok (.round l R.fn tm R.assign R.body) wr.drew := by rw [← htm]; exact hy0
      rw [htm] at hRj
      have HRj := Lib.hid hRj
      clear hy0 htm hRj
      have t0 : 0 < t.size := by omega
      have t1 : 1 < t.size := by omega
      have t2 : 2 < t.size := by omega
      have t3 : 3 < t.size := by omega
      have gb : ∀ (i : Nat) (hi : i < t.size), IntKind.i64.wrap (((t[i]'hi).toNat : Nat) : Int) = byt s (4 * j + i) := by
        subst ht
        exact suf_get s j
      have e0 : IntKind.i64.wrap (((t[0]'t0).toNat : Nat) : Int) = x.k := (gb 0 t0).trans (by rw [← hx]; rfl)
      have e1 : IntKind.i64.wrap (((t[1]'t1).toNat : Nat) : Int) = x.c := (gb 1 t1).trans (by rw [← hx]; rfl)
      have e2 : IntKind.i64.wrap (((t[2]'t2).toNat : Nat) : Int) = x.a := (gb 2 t2).trans (by rw [← hx]; rfl)
      have e3 : IntKind.i64.wrap (((t[3]'t3).toNat : Nat) : Int) = x.b := (gb 3 t3).trans (by rw [← hx]; rfl)
      have HX := Lib.hid hx
      have HT := Lib.hid ht
      clear hx gb ht
      have HJ := Lib.hid hJ
      have HJd := Lib.hid hJd
      have HY := Lib.hid hY
      have HB := Lib.hid hb
      clear hJ hJd hY hb
      gi_wp2
      refine wide_region_tail 14 (by kernel_rfl) (by kernel_rfl) ?_
      simp only [List.take_succ_cons, List.take_zero, List.drop_succ_cons, List.drop_zero]
      have HSZ := Lib.hid hsz
      clear hsz
      have u1 : (1 : Int) < (t.size : Int) := by omega
      have u2 : (2 : Int) < (t.size : Int) := by omega
      have u3 : (3 : Int) < (t.size : Int) := by omega
      repeat still_step
      try refine wpStill_nil ?_
      gi_wp2
      refine HRj.out.mono ?_
      rintro e W' ⟨rfl, hB', hJ'⟩
      rw [HT.out] at hB'
      have hc' := hB'.cell
      have hf' := hB'.frozen
      have HB' := Lib.hid hB'
      have HJ' := Lib.hid hJ'
      have hsl : t.extract 4 t.size = suf s (j + 1) := by
        rw [← HT.out]
        exact suf_next s j hlt
      have h4n : 4 ≤ t.size := h4
      clear hB' hJ' hc hf hy hJd' hJj e0 e1 e2 e3
      gi_wp2
      go_roundw
      case rel => exact ⟨j + 1, hlt, HJ'.out⟩
      case measure =>
        have hl := (HJ.out (j + 1) _ HJ'.out).2.cell
        have hs1 : (suf s (j + 1)).size = s.size - 4 * (j + 1) := by simp [suf, ByteArray.size_extract]
        rw [left_eq hl, left_eq HB.out.cell]
        have := HSZ.out
        omega
    · have hlt' : (t.size : Int) < 4 := by rw [← ht]; omega
      have hje : j = s.size / 4 := by omega
      rw [ht] at hc hb
      have HJ := Lib.hid hJ
      have HJd := Lib.hid hJd
      have HY := Lib.hid hY
      have HB := Lib.hid hb
      have HJj := Lib.hid hJj
      have HJE := Lib.hid hje
      rw [ht] at hsz
      clear hJ hJd hY hb hJj hje hsz ht
      gi_wp2
      go_end0
      exact ⟨⟨_, rfl⟩, by rw [← HJE.out]; exact HJj.out⟩
end Go.Proofs.Ytldhpecpmgjihaa
