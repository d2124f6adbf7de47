/- Print over the translation. -/
import Derived.Test.YtldhpecpmgjihaaScsame
import Derived.Test.YtldhpecpmgjihaaScbuild
set_option linter.unusedVariables false
set_option linter.unusedSimpArgs false
namespace Go.Proofs.Ytldhpecpmgjihaa
open Go.RowKit Go.Shelf Sc

namespace Sc
def bytesU (x : It) : List UInt8 := [x.k.toNat.toUInt8, x.c.toNat.toUInt8, x.a.toNat.toUInt8, x.b.toNat.toUInt8]
/-- The bytes of the right ones of so many items. -/
def printU (f : Nat → It) (c : Int) : Nat → List UInt8
  | 0 => []
  | k + 1 => if rightU (f k) c then printU f c k ++ bytesU (f k) else printU f c k
theorem print_len (f : Nat → It) (c : Int) (k : Nat) : (printU f c k).length ≤ 4 * k := by
  induction k with
  | zero => exact Nat.le_refl _
  | succ k ih =>
    unfold printU
    split
    · simp [bytesU]; omega
    · omega
theorem byte_of {x : Int} (h : 0 ≤ x ∧ x ≤ 255) : ((x.toNat.toUInt8).toNat : Int) = x := by
  have : (x.toNat.toUInt8).toNat = x.toNat % 256 := by simp
  rw [this]
  omega
theorem bytes_cells {x : It} {c : Int} (h : rightU x c = true) : Lib.byteCells (bytesU x) = [Value.int .u8 x.k, Value.int .u8 x.c, Value.int .u8 x.a, Value.int .u8 x.b] := by
  have h' : x.Right c := of_decide_eq_true h
  unfold It.Right at h'
  simp only [Lib.byteCells, bytesU, List.map_cons, List.map_nil]
  rw [byte_of (by omega), byte_of (by omega), byte_of (by omega), byte_of (by omega)]
end Sc
theorem Lib.heap_new (w : World) (o : Obj) : (w.alloc o).heap[w.heap.size]? = some o := by show (w.heap.push o)[_]? = _; simp
theorem isb_keep {T e : TypeId} {B b : Nat} {bs : List Value} {w w' : World} (h : Lib.IsBuilder T e B b bs w) (hb : Below w.heap.size w w') : Lib.IsBuilder T e B b bs w' := by
  have key : ∀ p, Lib.BuilderAt T e B b p bs w → Lib.BuilderAt T e B b p bs w' := by
    rintro p ⟨hB, v, hbk, hown, hne⟩
    refine ⟨hB, v, (hb.block b (Array.getElem?_eq_some_iff.1 hbk).1).trans hbk, ?_, hne⟩
    obtain ⟨h0, h | ⟨g, cap, cur, hv, hg, hh, r⟩⟩ := hown
    · exact ⟨h0, .inl h⟩
    · exact ⟨h0, .inr ⟨g, cap, cur, hv, hg, (hb.block g (Array.getElem?_eq_some_iff.1 hh).1).trans hh, r⟩⟩
  exact h.elim (fun x => .inl (key _ x)) (fun x => .inr (key _ x))
theorem isb_lt {T e : TypeId} {B b : Nat} {bs : List Value} {w : World} (h : Lib.IsBuilder T e B b bs w) : b < w.heap.size := h.elim (fun x => x.lt) (fun x => x.lt)
set_option maxRecDepth 100000 in
set_option maxHeartbeats 800000 in
theorem print_nil (ao : Option Addr) (cap : Nat) (c : Int) (w : World) :
    Calls Try.prog 16 #[.slice ao 0 cap, .int .i64 c] w fun e w' => e = .returned (.string ⟨#[]⟩) ∧ Below w.heap.size w w' := by
  go_enter Try.func16, Try.ntmps16
  go_wp2
  refine wp_loop_rounds 1 ?_
  rw [rounds_succ]
  go_wp2_with fail
  refine (bstring_nil w.heap.size (.pointer none) _ (Lib.heap_new w _)).mono ?_
  rintro e w1 ⟨rfl, hb⟩
  have HB := Lib.hid (below_from (below_new (Below.refl _ _) _) hb)
  clear hb
  go_wp2
  go_ret
  exact ⟨rfl, HB.out⟩
set_option maxRecDepth 100000 in
set_option maxHeartbeats 3200000 in
theorem print_cells (g o n cap : Nat) (f : Nat → It) (c : Int) (hn : n ≤ 1000000) (w : World) (hg : g < w.heap.size) (hc : ∀ j, j < n → w.cell? ⟨g, o + j * 4, none⟩ = some (.int .i64 (f j).k) ∧ w.cell? ⟨g, o + j * 4 + 1, none⟩ = some (.int .i64 (f j).c) ∧ w.cell? ⟨g, o + j * 4 + 2, none⟩ = some (.int .i64 (f j).a) ∧ w.cell? ⟨g, o + j * 4 + 3, none⟩ = some (.int .i64 (f j).b)) :
    Calls Try.prog 16 #[.slice (some ⟨g, o, none⟩) n cap, .int .i64 c] w fun e w' => e = .returned (.string ⟨(printU f c n).toArray⟩) ∧ Below w.heap.size w w' := by
  have HC := Lib.hid hc
  clear hc
  go_enter Try.func16, Try.ntmps16
  go_wp2
  go_loopw [10] (fun i wr => ∃ k : Nat, k ≤ n ∧ i = .int .i64 k ∧ Hid (Lib.IsBuilder 41 5 w.heap.size w.heap.size (Lib.byteCells (printU f c k)) wr) ∧ Hid (printU f c k = [] → wr.heap[w.heap.size]? = some (.cells #[.pointer none, .slice none 0 0] 41 (0, 0))) ∧ Below w.heap.size w wr) (fun i _ => n - (intOf i).toNat)
  case atStart => exact ⟨0, Nat.zero_le _, rfl, Lib.hid (Lib.fresh_isBuilder 41 5 w), Lib.hid (fun _ => Lib.heap_new w _), below_new (Below.refl _ _) _⟩
  case round =>
    obtain ⟨k, hk, rfl, hisb, hfr, hnx⟩ := hrel
    have HN := Lib.hid hnx
    have hzr : w.heap.size < wr.heap.size := isb_lt hisb.out
    by_cases hlt : k < n
    · have hlt' : (k : Int) < (n : Int) := by omega
      have hk0 : (0 : Int) ≤ (k : Int) := by omega
      obtain ⟨x, hx⟩ : ∃ x, f k = x := ⟨_, rfl⟩
      obtain ⟨p0, p1, p2, p3⟩ := HC.out k hlt
      rw [hx] at p0 p1 p2 p3
      have P0 := (hnx.cell (p := ⟨g, o + k * 4, none⟩) hg).trans p0
      have P1 := (hnx.cell (p := ⟨g, o + k * 4 + 1, none⟩) hg).trans p1
      have P2 := (hnx.cell (p := ⟨g, o + k * 4 + 2, none⟩) hg).trans p2
      have P3 := (hnx.cell (p := ⟨g, o + k * 4 + 3, none⟩) hg).trans p3
      have HX := Lib.hid hx
      clear hnx p0 p1 p2 p3 hx
      have step : ∀ t : Bool, rightU x c = t → Hid (∀ w : World, Calls Try.prog 14 #[(.agg #[.int .i64 x.k, .int .i64 x.c, .int .i64 x.a, .int .i64 x.b]), .int .i64 c] w fun e w' => e = .returned (.bool t) ∧ Below w.heap.size w w') := fun t ht => Lib.hid (fun w => by
        have h := right_any x c w
        rw [ht] at h
        exact h)
      by_cases hrt : rightU x c = true
      · have RC := step true hrt
        have hR' : x.Right c := of_decide_eq_true hrt
        unfold It.Right at hR'
        have y0 : 0 ≤ x.k ∧ x.k ≤ 255 := by omega
        have y1 : 0 ≤ x.c ∧ x.c ≤ 255 := by omega
        have y2 : 0 ≤ x.a ∧ x.a ≤ 255 := by omega
        have y3 : 0 ≤ x.b ∧ x.b ≤ 255 := by omega
        have e0 : IntKind.u8.wrap x.k = x.k := by simp [IntKind.wrap, IntKind.bits, IntKind.signed]; omega
        have e1 : IntKind.u8.wrap x.c = x.c := by simp [IntKind.wrap, IntKind.bits, IntKind.signed]; omega
        have e2 : IntKind.u8.wrap x.a = x.a := by simp [IntKind.wrap, IntKind.bits, IntKind.signed]; omega
        have e3 : IntKind.u8.wrap x.b = x.b := by simp [IntKind.wrap, IntKind.bits, IntKind.signed]; omega
        have HT := Lib.hid hrt
        have HBC := Lib.hid (bytes_cells hrt)
        clear step hrt hR' y0 y1 y2 y3
        go_wp2_with fail
        refine (RC.out _).mono ?_
        rintro e w2 ⟨rfl, hb⟩
        have q0 : w2.cell? ⟨wr.heap.size, 0, none⟩ = some (.int .i64 x.k) := (hb.cell (p := ⟨wr.heap.size, 0, none⟩) (by simp)).trans (by simp [go_sem])
        have q1 : w2.cell? ⟨wr.heap.size, 1, none⟩ = some (.int .i64 x.c) := (hb.cell (p := ⟨wr.heap.size, 1, none⟩) (by simp)).trans (by simp [go_sem])
        have q2 : w2.cell? ⟨wr.heap.size, 2, none⟩ = some (.int .i64 x.a) := (hb.cell (p := ⟨wr.heap.size, 2, none⟩) (by simp)).trans (by simp [go_sem])
        have q3 : w2.cell? ⟨wr.heap.size, 3, none⟩ = some (.int .i64 x.b) := (hb.cell (p := ⟨wr.heap.size, 3, none⟩) (by simp)).trans (by simp [go_sem])
        have hz2 : wr.heap.size + 1 ≤ w2.heap.size := by have := hb.size; simp at this; omega
        have HB2 : Hid (Below wr.heap.size wr w2) := Lib.hid (below_from (below_new (Below.refl _ _) _) hb)
        clear hb P0 P1 P2 P3
        go_wp2_with fail
        refine (bwrite_any w.heap.size w.heap.size (Lib.byteCells (printU f c k)) ⟨w2.heap.size, 0, none⟩ 4 4 [.int .u8 x.k, .int .u8 x.c, .int .u8 x.a, .int .u8 x.b] _ (isb_keep hisb.out (below_new HB2.out _)) rfl ?_ (by show w2.heap.size ≠ w.heap.size; omega) ?_ ?_ (by simp; omega)).mono ?_
        · intro j u hj
          match j, hj with
          | 0, hj => simp at hj; subst hj; simp [Addr.add]
          | 1, hj => simp at hj; subst hj; simp [Addr.add]
          | 2, hj => simp at hj; subst hj; simp [Addr.add]
          | 3, hj => simp at hj; subst hj; simp [Addr.add]
        · intro u hu
          simp at hu
          rcases hu with rfl | rfl | rfl | rfl <;> rfl
        · have := print_len f c k
          rw [Lib.byteCells_length]
          omega
        rintro e w3 ⟨rfl, hbd, hb3⟩
        have HBD := Lib.hid hbd
        have HB3 : Hid (Below w.heap.size w w3) := Lib.hid (HN.out.trans (((below_new HB2.out _).mono (by omega)).trans hb3))
        clear hbd hb3 q0 q1 q2 q3 e0 e1 e2 e3
        have eP : Hid (printU f c (k + 1) = printU f c k ++ bytesU x) := Lib.hid (by
          show (if rightU (f k) c then _ else _) = _
          rw [HX.out, HT.out, if_pos rfl])
        go_wp2
        go_roundw
        case rel => exact ⟨k + 1, by omega, by go_num, Lib.hid (.inr (by rw [eP.out, Lib.byteCells_append, HBC.out]; exact HBD.out)), Lib.hid (fun h => absurd h (by rw [eP.out]; simp [bytesU])), HB3.out⟩
        case measure => simp [intOf]; omega
      · have hrf : rightU x c = false := by simpa using hrt
        have RC := step false hrf
        have HT := Lib.hid hrf
        clear step hrt hrf
        go_wp2_with fail
        refine (RC.out _).mono ?_
        rintro e w2 ⟨rfl, hb⟩
        have HB2 : Hid (Below wr.heap.size wr w2) := Lib.hid (below_from (below_new (Below.refl _ _) _) hb)
        clear hb P0 P1 P2 P3
        have eP : Hid (printU f c (k + 1) = printU f c k) := Lib.hid (by
          show (if rightU (f k) c then _ else _) = _
          rw [HX.out, HT.out]
          rfl)
        go_wp2
        go_roundw
        case rel => exact ⟨k + 1, by omega, by go_num, Lib.hid (by rw [eP.out]; exact isb_keep hisb.out HB2.out), Lib.hid (fun h => (HB2.out.block _ hzr).trans (hfr.out (by rw [← eP.out]; exact h))), HN.out.trans (HB2.out.mono (by omega))⟩
        case measure => simp [intOf]; omega
    · have hke : k = n := by omega
      subst hke
      have hnl : ¬ (k : Int) < (k : Int) := by omega
      have SC : Hid (Calls Try.prog 21 #[.pointer (some ⟨w.heap.size, 0, none⟩)] wr fun e w' => e = .returned (.string ⟨(printU f c k).toArray⟩) ∧ Below w.heap.size wr w') := Lib.hid (by
        by_cases h0 : printU f c k = []
        · rw [h0]
          exact (bstring_nil w.heap.size _ wr (hfr.out h0)).mono fun e w' h => ⟨h.1, h.2.mono (by omega)⟩
        · exact bstring_row w.heap.size w.heap.size (printU f c k) wr hisb.out h0)
      clear hnx
      go_wp2_with fail
      refine SC.out.mono ?_
      rintro e w1 ⟨rfl, hb⟩
      have HB1 : Hid (Below w.heap.size w w1) := Lib.hid (HN.out.trans hb)
      clear hb
      go_wp2
      go_ret
      exact ⟨rfl, HB1.out⟩
end Go.Proofs.Ytldhpecpmgjihaa
