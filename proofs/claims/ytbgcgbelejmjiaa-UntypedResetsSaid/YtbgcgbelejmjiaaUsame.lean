/- Same of two lists of words, over the translation. -/
import Derived.Test.YtbgcgbelejmjiaaUpany
set_option linter.unusedVariables false
set_option linter.unusedSimpArgs false
namespace Go.Proofs.Ytbgcgbelejmjiaa
open Go.RowKit Wd Ud

set_option maxRecDepth 100000 in
set_option maxHeartbeats 800000 in
theorem same_len (ao bo : Option Addr) (n1 n2 c1 c2 : Nat) (h : ((n1 : Int) != (n2 : Int)) = true) (w : World) :
    Calls Try.prog 15 #[.slice ao n1 c1, .slice bo n2 c2] w fun e w' => e = .returned (.bool false) ∧ Below w.heap.size w w' := by
  go_enter Try.func15, Try.ntmps15
  go_wp2
  go_ret
  exact ⟨rfl, Below.refl _ _⟩
set_option maxRecDepth 100000 in
set_option maxHeartbeats 800000 in
theorem same_nil (ao bo : Option Addr) (c1 c2 : Nat) (w : World) :
    Calls Try.prog 15 #[.slice ao 0 c1, .slice bo 0 c2] w fun e w' => e = .returned (.bool true) ∧ Below w.heap.size w w' := by
  go_enter Try.func15, Try.ntmps15
  go_wp2
  refine wp_loop_rounds 1 ?_
  rw [rounds_succ]
  go_wp2
  go_ret
  exact ⟨rfl, Below.refl _ _⟩
set_option maxRecDepth 100000 in
set_option maxHeartbeats 1600000 in
theorem same_cells (g1 g2 n c1 c2 : Nat) (f1 f2 : Nat → Nat) (hn : n ≤ 1000000) (w : World) (hb1 : g1 < w.heap.size) (hb2 : g2 < w.heap.size) (h1 : ∀ j, j < n → w.cell? ⟨g1, j, Option.none⟩ = some (.int .u64 (f1 j))) (h2 : ∀ j, j < n → w.cell? ⟨g2, j, Option.none⟩ = some (.int .u64 (f2 j))) :
    Calls Try.prog 15 #[.slice (some ⟨g1, 0, Option.none⟩) n c1, .slice (some ⟨g2, 0, Option.none⟩) n c2] w fun e w' => e = .returned (.bool (decide (∀ j, j < n → f1 j = f2 j))) ∧ Below w.heap.size w w' := by
  have H1 := Lib.hid h1
  have H2 := Lib.hid h2
  clear h1 h2
  go_enter Try.func15, Try.ntmps15
  go_wp2
  go_loopw [5] (fun i wr => ∃ k : Nat, k ≤ n ∧ i = .int .i64 k ∧ Hid (∀ j, j < k → f1 j = f2 j) ∧ Below w.heap.size w wr) (fun i _ => n - (intOf i).toNat)
  case atStart => exact ⟨0, Nat.zero_le _, rfl, Lib.hid (fun j h => absurd h (by omega)), Below.refl _ _⟩
  case round =>
    obtain ⟨k, hk, rfl, hall, hnx⟩ := hrel
    have HN := Lib.hid hnx
    by_cases hlt : k < n
    · have hlt' : (k : Int) < (n : Int) := by omega
      have hk0 : (0 : Int) ≤ (k : Int) := by omega
      have q1 : wr.cell? ⟨g1, k, Option.none⟩ = some (.int .u64 (f1 k)) := (hnx.cell (p := ⟨g1, k, Option.none⟩) hb1).trans (H1.out k hlt)
      have q2 : wr.cell? ⟨g2, k, Option.none⟩ = some (.int .u64 (f2 k)) := (hnx.cell (p := ⟨g2, k, Option.none⟩) hb2).trans (H2.out k hlt)
      clear hnx
      by_cases he : f1 k = f2 k
      · have hb : ((f1 k : Int) != (f2 k : Int)) = false := by rw [he]; simp
        have HE := Lib.hid he
        clear he
        go_wp2_with fail
        go_quiet (fail)
        go_wp2_with fail
        go_roundw
        case rel => exact ⟨k + 1, by omega, by go_num, Lib.hid (fun j hj => by
          by_cases e : j = k
          · rw [e]; exact HE.out
          · exact hall.out j (by omega)), below_drawsB HN.out _⟩
        case measure => simp [intOf]; omega
      · have hb : ((f1 k : Int) != (f2 k : Int)) = true := by simpa using fun h => he (by omega)
        have HE : Hid (decide (∀ j, j < n → f1 j = f2 j) = false) := Lib.hid (decide_eq_false fun h => he (h k hlt))
        clear he
        go_wp2_with fail
        go_quiet (fail)
        go_wp2_with fail
        go_ret
        exact ⟨by rw [HE.out]; rfl, below_drawsB HN.out _⟩
    · have hnl : ¬ (k : Int) < (n : Int) := by omega
      have HE : Hid (decide (∀ j, j < n → f1 j = f2 j) = true) := Lib.hid (decide_eq_true fun j hj => hall.out j (by omega))
      go_wp2_with fail
      go_ret
      exact ⟨by rw [HE.out]; rfl, HN.out⟩

/-- A slice of words. -/
def SlIs (w : World) (v : Value) (l : List Nat) : Prop :=
  (v = .slice Option.none 0 0 ∧ l = []) ∨ ∃ g cap, v = .slice (some ⟨g, 0, Option.none⟩) l.length cap ∧ g < w.heap.size ∧ ∀ j, j < l.length → w.cell? ⟨g, j, Option.none⟩ = some (.int .u64 ((l.getD j 0 : Nat) : Int))
theorem same_any (va vb : Value) (la lb : List Nat) (hn : la.length ≤ 1000000) (w : World) (ha : SlIs w va la) (hb : SlIs w vb lb) :
    Calls Try.prog 15 #[va, vb] w fun e w' => e = .returned (.bool (decide (la = lb))) ∧ Below w.heap.size w w' := by
  obtain ⟨ao, c1, rfl, ha'⟩ : ∃ ao c1, va = .slice ao la.length c1 ∧ (la ≠ [] → ∃ g, ao = some ⟨g, 0, Option.none⟩ ∧ g < w.heap.size ∧ ∀ j, j < la.length → w.cell? ⟨g, j, Option.none⟩ = some (.int .u64 ((la.getD j 0 : Nat) : Int))) := by
    rcases ha with ⟨h1, rfl⟩ | ⟨g, cap, h1, h2, h3⟩
    · exact ⟨_, _, h1, fun h => absurd rfl h⟩
    · exact ⟨_, _, h1, fun _ => ⟨g, rfl, h2, h3⟩⟩
  obtain ⟨bo, c2, rfl, hb'⟩ : ∃ ao c1, vb = .slice ao lb.length c1 ∧ (lb ≠ [] → ∃ g, ao = some ⟨g, 0, Option.none⟩ ∧ g < w.heap.size ∧ ∀ j, j < lb.length → w.cell? ⟨g, j, Option.none⟩ = some (.int .u64 ((lb.getD j 0 : Nat) : Int))) := by
    rcases hb with ⟨h1, rfl⟩ | ⟨g, cap, h1, h2, h3⟩
    · exact ⟨_, _, h1, fun h => absurd rfl h⟩
    · exact ⟨_, _, h1, fun _ => ⟨g, rfl, h2, h3⟩⟩
  by_cases hl : la.length = lb.length
  · by_cases h0 : la = []
    · subst h0
      have h1 : lb = [] := List.eq_nil_of_length_eq_zero hl.symm
      subst h1
      exact same_nil ao bo c1 c2 w
    · have h1 : lb ≠ [] := fun h => h0 (List.eq_nil_of_length_eq_zero (by rw [hl, h]; rfl))
      obtain ⟨g1, rfl, hg1, hc1⟩ := ha' h0
      obtain ⟨g2, rfl, hg2, hc2⟩ := hb' h1
      rw [← hl] at hc2 ⊢
      have e : decide (la = lb) = decide (∀ j, j < la.length → la.getD j 0 = lb.getD j 0) := by
        apply decide_eq_decide.2
        constructor
        · intro h j _
          rw [h]
        · intro h
          apply List.ext_getElem hl
          intro j h1 h2
          have := h j h1
          simpa [List.getD, h1, h2] using this
      rw [e]
      exact same_cells g1 g2 la.length c1 c2 (fun j => la.getD j 0) (fun j => lb.getD j 0) hn w hg1 hg2 hc1 hc2
  · have e : decide (la = lb) = false := decide_eq_false fun h => hl (by rw [h])
    rw [e]
    exact same_len ao bo _ _ c1 c2 (by simpa using fun h => hl (by omega)) w
theorem us_get {l : List Nat} {j : Nat} (h : j < l.length) : (us l)[j]? = some (.int .u64 ((l.getD j 0 : Nat) : Int)) := by
  simp [us, List.getD, h]
theorem slIs_own {w : World} {B : Nat} {v : Value} {l : List Nat} (h : w.ownsRow B 22 1 v l.length (us l)) : SlIs w v l := by
  obtain ⟨h0, ⟨h1, h2⟩ | ⟨g, cap, cur, hv, hg, hh, hc, hm, hs, ht⟩⟩ := h
  · exact .inl ⟨h1, List.eq_nil_of_length_eq_zero h2⟩
  · refine .inr ⟨g, cap, hv, ?_, ?_⟩
    · have := Array.getElem?_eq_some_iff.1 hh
      exact this.1
    · intro j hj
      have hj1 : j < cur.size := by omega
      have e1 : cur.toList[j]? = some (.int .u64 ((l.getD j 0 : Nat) : Int)) := by
        rw [← us_get hj, ← ht, List.getElem?_take, if_pos (by omega)]
      have e2 : cur[j]? = some (.int .u64 ((l.getD j 0 : Nat) : Int)) := by simpa using e1
      simp [World.cell?, hh, e2]
theorem SlIs.keep {w w1 : World} {v : Value} {l : List Nat} (h : SlIs w v l) (hb : Below w.heap.size w w1) : SlIs w1 v l := by
  rcases h with h | ⟨g, cap, h1, h2, h3⟩
  · exact .inl h
  · exact .inr ⟨g, cap, h1, Nat.lt_of_lt_of_le h2 hb.size, fun j hj => (hb.cell (p := ⟨g, j, Option.none⟩) h2).trans (h3 j hj)⟩
end Go.Proofs.Ytbgcgbelejmjiaa
