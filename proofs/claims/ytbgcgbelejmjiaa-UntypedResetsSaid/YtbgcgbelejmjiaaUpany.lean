/- Place as one contract, the program's and the reference's, over the translation. -/
import Derived.Test.YtbgcgbelejmjiaaUplace
import Derived.Test.YtbgcgbelejmjiaaUrplace
set_option linter.unusedVariables false
set_option linter.unusedSimpArgs false
namespace Go.Proofs.Ytbgcgbelejmjiaa
open Go.RowKit Wd Ud

namespace Ud
theorem upTo_facts (v s : Nat) : v ≤ upTo v s ∧ upTo v s < v + pw s ∧ upTo v s % pw s = 0 := by
  have hp : 0 < pw s := Nat.two_pow_pos s
  have e : upTo v s = (v + (pw s - 1)) / pw s * pw s := rfl
  have h1 := Nat.div_add_mod (v + (pw s - 1)) (pw s)
  have h2 := Nat.mod_lt (v + (pw s - 1)) hp
  rw [Nat.mul_comm] at h1
  refine ⟨by rw [e]; omega, by rw [e]; omega, by rw [e]; exact Nat.mul_mod_left _ _⟩
theorem upTo_yes {v s : Nat} (h : v % pw s = 0) : upTo v s = v := by
  have hp : 0 < pw s := Nat.two_pow_pos s
  have e : upTo v s = (v + (pw s - 1)) / pw s * pw s := rfl
  obtain ⟨k, rfl⟩ := Nat.dvd_of_mod_eq_zero h
  rw [e, Nat.mul_add_div hp, Nat.div_eq_of_lt (by omega), Nat.add_zero, Nat.mul_comm]
theorem upTo_no {v s : Nat} (h : v % pw s ≠ 0) : upTo v s + v % pw s = v + pw s := by
  have hp : 0 < pw s := Nat.two_pow_pos s
  have e : upTo v s = (v + (pw s - 1)) / pw s * pw s := rfl
  have h1 := Nat.div_add_mod v (pw s)
  have h2 := Nat.mod_lt v hp
  have h3 : (v + (pw s - 1)) / pw s = v / pw s + 1 := by
    have : v + (pw s - 1) = pw s * (v / pw s) + (pw s + (v % pw s - 1)) := by omega
    rw [this, Nat.mul_add_div hp, Nat.add_div_left _ hp, Nat.div_eq_of_lt (show v % pw s - 1 < pw s by omega)]
  rw [e, h3, Nat.add_mul, Nat.one_mul, Nat.mul_comm]
  omega
theorem size_in {k n : Int} (h : (sizeU k n).2 = 0) : 2 ≤ (sizeU k n).1 ∧ (sizeU k n).1 ≤ 20 := by
  unfold sizeU at *
  repeat' split at *
  all_goals (first | (simp at h; done) | (simp; done) | (simp; omega))
end Ud
/-- What Place has left behind it. -/
def PlaceIs (w w' : World) (e : Ending) (q : List Nat × Ut × Int) : Prop :=
  ∃ v, e = .returned (.tuple #[v, (.agg #[.int .u64 q.2.1.b, .int .i64 q.2.1.n, .int .u64 q.2.1.u]), .int .i64 q.2.2]) ∧ w'.ownsRow w.heap.size 22 1 v q.1.length (us q.1) ∧ Below w.heap.size w w'
theorem placeIs_err {w w' : World} {e : Ending} {c : Int} (h : e = .returned (.tuple #[.slice Option.none 0 0, (.agg #[.int .u64 0, .int .i64 0, .int .u64 0]), .int .i64 c]) ∧ Below w.heap.size w w') : PlaceIs w w' e ([], Ud.none, c) :=
  ⟨_, h.1, World.ownsRow_nil _ _ _ _, h.2⟩
theorem placeIs_ok {w w' : World} {e : Ending} {b p s i t : Nat} {m : Int} (h : ∃ v, e = .returned (.tuple #[v, (.agg #[.int .u64 b, .int .i64 m, .int .u64 (((p + t - b : Nat)) : Int)]), .int .i64 0]) ∧ w'.ownsRow w.heap.size 22 1 v i (us (lst p s i)) ∧ Below w.heap.size w w') :
    PlaceIs w w' e (lst p s i, ⟨b, m, p + t - b⟩, 0) := by
  obtain ⟨v, h1, h2, h3⟩ := h
  exact ⟨v, h1, by rw [lst_len]; exact h2, h3⟩
set_option maxHeartbeats 800000 in
theorem place_any (x : Ut) (hb : Word x.b) (hu : Word x.u) (k n c : Int) (w : World) :
    Calls Try.prog 10 #[(.agg #[.int .u64 x.b, .int .i64 x.n, .int .u64 x.u]), .int .i64 k, .int .i64 n, .int .i64 c] w fun e w' => PlaceIs w w' e (placeU x k n c) := by
  by_cases ok : x.Ok
  · have hc0 : chkU x = 0 := by simp [chkU, ok]
    have hc : ((chkU x : Int) != 0) = false := by rw [hc0]; rfl
    by_cases hs : (sizeU k n).2 = 0
    · obtain ⟨hs2, hs20⟩ := size_in hs
      obtain ⟨s, hs1⟩ : ∃ s : Nat, (sizeU k n).1 = (s : Int) := ⟨(sizeU k n).1.toNat, by omega⟩
      have SZ : Hid (∀ w : World, Calls Try.prog 12 #[.int .i64 k, .int .i64 n] w fun e w' => e = .returned (.tuple #[.int .i64 (s : Int), .int .i64 0]) ∧ Below w.heap.size w w') := Lib.hid (fun w => by
        have h := size_any k n w
        rw [hs1, hs] at h
        exact h)
      by_cases h1 : c < 1
      · have e : placeU x k n c = ([], Ud.none, 1) := by simp [placeU, ok, hs, h1]
        rw [e]
        exact (place_lo x hb hu k n c s SZ hc h1 w).mono fun _ _ h => placeIs_err h
      by_cases h64 : 64 < c
      · have e : placeU x k n c = ([], Ud.none, 1) := by simp [placeU, ok, hs, h64]
        rw [e]
        exact (place_hi x hb hu k n c s SZ hc h64 w).mono fun _ _ h => placeIs_err h
      obtain ⟨i, rfl⟩ : ∃ i : Nat, c = (i : Int) := ⟨c.toNat, by omega⟩
      obtain ⟨b, N, u⟩ := x
      obtain ⟨m, rfl⟩ : ∃ m : Nat, N = (m : Int) := ⟨N.toNat, by have := ok.1; simp at this; omega⟩
      have CHC : Hid (∀ w : World, Calls Try.prog 16 #[.agg #[.int .u64 b, .int .i64 (m : Int), .int .u64 u]] w fun e w' => e = .returned (.int .i64 0) ∧ Below w.heap.size w w') := Lib.hid (fun w => by
        have h := check_any ⟨b, m, u⟩ hb hu w
        rw [hc0] at h
        exact h)
      obtain ⟨k0, k1, k2, k3, k4⟩ := ok
      simp only [Int.toNat_natCast] at k0 k1 k2 k3 k4
      have p40 : (2 : Nat) ^ 40 = 1099511627776 := by decide
      have hm : m ≤ 20 := by omega
      have hs9 : s ≤ 20 := by omega
      have pm : pw m ≤ 1048576 := Nat.pow_le_pow_right (by decide) hm
      have ps : pw s ≤ 1048576 := Nat.pow_le_pow_right (by decide) hs9
      have ht6 : i * pw s ≤ 67108864 := Nat.mul_le_mul (show i ≤ 64 by omega) ps
      obtain ⟨q1, q2, q3⟩ := upTo_facts (b + u) s
      have e64 : (2 : Nat) ^ 64 = 18446744073709551616 := by decide
      have e2 : pw s = 2 ^ s := rfl
      have UPC : Hid (∀ w : World, Calls Try.prog 20 #[.int .u64 ((b : Int) + (u : Int)), .int .i64 (s : Int)] w fun e w' => e = .returned (.tuple #[.int .u64 (upTo (b + u) s : Int), .int .i64 0]) ∧ w' = w) := Lib.hid (fun w => by
        have h := up_any (b + u) s ⟨by omega⟩ (by omega) (by omega) w
        rw [Int.natCast_add] at h
        exact h)
      have HH := fun (hf : b + pw m < upTo (b + u) s + i * pw s) => place_full b m u s (upTo (b + u) s) i (i * pw s) k n CHC SZ UPC hm hs9 (by omega) (by omega) (by omega) (by omega) (by omega) (Lib.hid rfl) ht6 hf w
      have HG := fun (hf : upTo (b + u) s + i * pw s ≤ b + pw m) => place_fit b m u s (upTo (b + u) s) i (i * pw s) k n CHC SZ UPC hm hs9 (by omega) (by omega) (by omega) (by omega) (by omega) (Lib.hid rfl) ht6 hf (by omega) w
      have ok2 : Ut.Ok ⟨b, m, u⟩ := ⟨k0, k1, k2, by simpa using k3, by simpa using k4⟩
      by_cases hf : b + pw m < upTo (b + u) s + i * pw s
      · have e : placeU ⟨b, m, u⟩ k n i = ([], Ud.none, 81) := by
          simp [placeU, ok2, hs, hs1, atU, hf]
          omega
        rw [e]
        exact (HH hf).mono fun _ _ h => placeIs_err h
      · have e : placeU ⟨b, m, u⟩ k n i = (lst (upTo (b + u) s) s i, ⟨b, m, upTo (b + u) s + i * pw s - b⟩, 0) := by
          simp [placeU, ok2, hs, hs1, atU, hf]
          omega
        rw [e]
        exact (HG (by omega)).mono fun _ _ h => placeIs_ok h
    · have e : placeU x k n c = ([], Ud.none, (sizeU k n).2) := by simp [placeU, ok, hs]
      rw [e]
      have SZ : Hid (∀ w : World, Calls Try.prog 12 #[.int .i64 k, .int .i64 n] w fun e w' => e = .returned (.tuple #[.int .i64 (sizeU k n).1, .int .i64 (sizeU k n).2]) ∧ Below w.heap.size w w') := Lib.hid (fun w => size_any k n w)
      exact (place_bad x hb hu k n c _ _ SZ hc (by simpa using hs) w).mono fun _ _ h => placeIs_err h
  · have hc0 : chkU x = 1 := by simp [chkU, ok]
    have e : placeU x k n c = ([], Ud.none, chkU x) := by simp [placeU, ok, hc0]
    rw [e]
    exact (place_chk x hb hu k n c (Lib.hid (fun w => size_any k n w)) (by rw [hc0]; rfl) w).mono fun _ _ h => placeIs_err h
set_option maxHeartbeats 800000 in
theorem rplace_any (x : Ut) (hb : Word x.b) (hu : Word x.u) (k n c : Int) (w : World) :
    Calls Try.prog 11 #[(.agg #[.int .u64 x.b, .int .i64 x.n, .int .u64 x.u]), .int .i64 k, .int .i64 n, .int .i64 c] w fun e w' => PlaceIs w w' e (placeU x k n c) := by
  by_cases ok : x.Ok
  · have hc0 : chkU x = 0 := by simp [chkU, ok]
    have hc : ((chkU x : Int) != 0) = false := by rw [hc0]; rfl
    by_cases hs : (sizeU k n).2 = 0
    · obtain ⟨hs2, hs20⟩ := size_in hs
      obtain ⟨s, hs1⟩ : ∃ s : Nat, (sizeU k n).1 = (s : Int) := ⟨(sizeU k n).1.toNat, by omega⟩
      have SZ : Hid (∀ w : World, Calls Try.prog 13 #[.int .i64 k, .int .i64 n] w fun e w' => e = .returned (.tuple #[.int .i64 (s : Int), .int .i64 0]) ∧ Below w.heap.size w w') := Lib.hid (fun w => by
        have h := rsize_any k n w
        rw [hs1, hs] at h
        exact h)
      by_cases h1 : c < 1
      · have e : placeU x k n c = ([], Ud.none, 1) := by simp [placeU, ok, hs, h1]
        rw [e]
        exact (rplace_lo x hb hu k n c s SZ hc h1 w).mono fun _ _ h => placeIs_err h
      by_cases h64 : 64 < c
      · have e : placeU x k n c = ([], Ud.none, 1) := by simp [placeU, ok, hs, h64]
        rw [e]
        exact (rplace_hi x hb hu k n c s SZ hc h64 w).mono fun _ _ h => placeIs_err h
      obtain ⟨i, rfl⟩ : ∃ i : Nat, c = (i : Int) := ⟨c.toNat, by omega⟩
      obtain ⟨b, N, u⟩ := x
      obtain ⟨m, rfl⟩ : ∃ m : Nat, N = (m : Int) := ⟨N.toNat, by have := ok.1; simp at this; omega⟩
      have CHC : Hid (∀ w : World, Calls Try.prog 17 #[.agg #[.int .u64 b, .int .i64 (m : Int), .int .u64 u]] w fun e w' => e = .returned (.int .i64 0) ∧ Below w.heap.size w w') := Lib.hid (fun w => by
        have h := rcheck_any ⟨b, m, u⟩ hb hu w
        rw [hc0] at h
        exact h)
      obtain ⟨k0, k1, k2, k3, k4⟩ := ok
      simp only [Int.toNat_natCast] at k0 k1 k2 k3 k4
      have p40 : (2 : Nat) ^ 40 = 1099511627776 := by decide
      have hm : m ≤ 20 := by omega
      have hs9 : s ≤ 20 := by omega
      have pm : pw m ≤ 1048576 := Nat.pow_le_pow_right (by decide) hm
      have ps : pw s ≤ 1048576 := Nat.pow_le_pow_right (by decide) hs9
      have ht6 : i * pw s ≤ 67108864 := Nat.mul_le_mul (show i ≤ 64 by omega) ps
      obtain ⟨q1, q2, q3⟩ := upTo_facts (b + u) s
      have e64 : (2 : Nat) ^ 64 = 18446744073709551616 := by decide
      have e2 : pw s = 2 ^ s := rfl
      have hR : ((b : Int) + (u : Int)) % (pw s : Int) = (((b + u) % pw s : Nat) : Int) := by rw [Int.natCast_emod, Int.natCast_add]
      have hrs : (b + u) % pw s ≤ pw s := Nat.le_of_lt (Nat.mod_lt _ (Nat.two_pow_pos s))
      have hra : (b + u) % pw s ≤ b + u := Nat.mod_le _ _
      have HH : b + pw m < upTo (b + u) s + i * pw s → Calls Try.prog 11 #[.agg #[.int .u64 b, .int .i64 (m : Int), .int .u64 u], .int .i64 k, .int .i64 n, .int .i64 (i : Int)] w fun e w' => e = .returned (.tuple #[.slice Option.none 0 0, (.agg #[.int .u64 0, .int .i64 0, .int .u64 0]), .int .i64 81]) ∧ Below w.heap.size w w' := fun hf => by
        by_cases h0 : (b + u) % pw s = 0
        · exact rplace_full_y b m u s (upTo (b + u) s) i (i * pw s) ((b + u) % pw s) k n CHC SZ hm hs9 (by omega) (by omega) (by omega) (by omega) (by omega) (Lib.hid rfl) ht6 hR hra hrs (by rw [h0]; rfl) (upTo_yes h0) hf (by omega) w
        · exact rplace_full_n b m u s (upTo (b + u) s) i (i * pw s) ((b + u) % pw s) k n CHC SZ hm hs9 (by omega) (by omega) (by omega) (by omega) (by omega) (Lib.hid rfl) ht6 hR hra hrs (by simpa using fun h => h0 (by omega)) (upTo_no h0) hf (by omega) w
      have HG := fun (hf : upTo (b + u) s + i * pw s ≤ b + pw m) => show Calls Try.prog 11 #[.agg #[.int .u64 b, .int .i64 (m : Int), .int .u64 u], .int .i64 k, .int .i64 n, .int .i64 (i : Int)] w fun e w' => ∃ v, e = .returned (.tuple #[v, (.agg #[.int .u64 b, .int .i64 (m : Int), .int .u64 (((upTo (b + u) s + i * pw s - b : Nat)) : Int)]), .int .i64 0]) ∧ w'.ownsRow w.heap.size 22 1 v i (us (lst (upTo (b + u) s) s i)) ∧ Below w.heap.size w w' from by
        by_cases h0 : (b + u) % pw s = 0
        · exact rplace_fit_y b m u s (upTo (b + u) s) i (i * pw s) ((b + u) % pw s) k n CHC SZ hm hs9 (by omega) (by omega) (by omega) (by omega) (by omega) (Lib.hid rfl) ht6 hR hra hrs (by rw [h0]; rfl) (upTo_yes h0) hf (by omega) w
        · exact rplace_fit_n b m u s (upTo (b + u) s) i (i * pw s) ((b + u) % pw s) k n CHC SZ hm hs9 (by omega) (by omega) (by omega) (by omega) (by omega) (Lib.hid rfl) ht6 hR hra hrs (by simpa using fun h => h0 (by omega)) (upTo_no h0) hf (by omega) w
      have ok2 : Ut.Ok ⟨b, m, u⟩ := ⟨k0, k1, k2, by simpa using k3, by simpa using k4⟩
      by_cases hf : b + pw m < upTo (b + u) s + i * pw s
      · have e : placeU ⟨b, m, u⟩ k n i = ([], Ud.none, 81) := by
          simp [placeU, ok2, hs, hs1, atU, hf]
          omega
        rw [e]
        exact (HH hf).mono fun _ _ h => placeIs_err h
      · have e : placeU ⟨b, m, u⟩ k n i = (lst (upTo (b + u) s) s i, ⟨b, m, upTo (b + u) s + i * pw s - b⟩, 0) := by
          simp [placeU, ok2, hs, hs1, atU, hf]
          omega
        rw [e]
        exact (HG (by omega)).mono fun _ _ h => placeIs_ok h
    · have e : placeU x k n c = ([], Ud.none, (sizeU k n).2) := by simp [placeU, ok, hs]
      rw [e]
      have SZ : Hid (∀ w : World, Calls Try.prog 13 #[.int .i64 k, .int .i64 n] w fun e w' => e = .returned (.tuple #[.int .i64 (sizeU k n).1, .int .i64 (sizeU k n).2]) ∧ Below w.heap.size w w') := Lib.hid (fun w => rsize_any k n w)
      exact (rplace_bad x hb hu k n c _ _ SZ hc (by simpa using hs) w).mono fun _ _ h => placeIs_err h
  · have hc0 : chkU x = 1 := by simp [chkU, ok]
    have e : placeU x k n c = ([], Ud.none, chkU x) := by simp [placeU, ok, hc0]
    rw [e]
    exact (rplace_chk x hb hu k n c (by rw [hc0]; rfl) w).mono fun _ _ h => placeIs_err h
end Go.Proofs.Ytbgcgbelejmjiaa
