/- Contracts of Mint, Guarded, Pack and Unpack, each as one, over the translation: the program's and the reference's alike. -/
import Derived.Test.YthgiofgedeijoaaCrpack
import Derived.Test.YthgiofgedeijoaaCrmint
import Derived.Test.YthgiofgedeijoaaCguard
set_option linter.unusedVariables false
set_option linter.unusedSimpArgs false
namespace Go.Proofs.Ythgiofgedeijoaa
open Go.RowKit Wd Cd

namespace Cd
open Classical
noncomputable def mintU (c : Cp) (s : Int) (v : Nat) : Cp × Int :=
  if c.Ok then
    if rigB s = true then
      if c.k = 0 ∨ v ≠ 0 ∧ (badB c.k = false ∨ c.b ≠ 0) then (zero, 41)
      else (⟨c.k, c.o, if limB c.k = true then bits .and .i64 c.r s else c.r, if v = 0 then c.b else v, c.g, c.n⟩, 0)
    else (zero, 1)
  else (zero, 40)
noncomputable def guaU (c : Cp) (v : Nat) (n : Int) : Cp × Int :=
  if c.Ok then
    if c.k = 2 then
      if guaB v n = true then (⟨c.k, c.o, c.r, c.b, v, n⟩, 0) else (zero, 1)
    else (zero, 41)
  else (zero, 40)
noncomputable def packU (c : Cp) : Nat × Nat × Int :=
  if c.Ok then (pk c.k.toNat c.r.toNat c.n.toNat c.o.toNat 4, if c.k = 2 then c.g else c.b, 0) else (0, 0, 40)
def rawC (x y : Nat) : Cp :=
  if fld x 0 4 = 2 then ⟨(fld x 0 4 : Int), (fld x 16 31 : Int), (fld x 4 3 : Int), 0, y, (fld x 7 7 : Int)⟩
  else ⟨(fld x 0 4 : Int), (fld x 16 31 : Int), (fld x 4 3 : Int), y, 0, (fld x 7 7 : Int)⟩
noncomputable def unpU (x y : Nat) : Cp × Int :=
  if (rawC x y).Ok ∧ pk (fld x 0 4) (fld x 4 3) (fld x 7 7) (fld x 16 31) 4 = x then (rawC x y, 0) else (zero, 40)
theorem Cp.Ok.zero_or {c : Cp} (h : c.Ok) : c = zero ∨ c.Form := by
  rcases h with h | h
  · left
    have h' := of_decide_eq_true h
    obtain ⟨k, o, r, b, g, n⟩ := c
    obtain ⟨rfl, rfl, rfl, rfl, rfl, rfl⟩ := h'
    rfl
  · exact .inr h
/-- The numbers of one that may be. -/
theorem Cp.Ok.nats {c : Cp} (h : c.Ok) : ∃ k r n o : Nat, c = ⟨(k : Int), (o : Int), (r : Int), c.b, c.g, (n : Int)⟩ ∧ k < 2 ^ 4 ∧ r < 2 ^ 3 ∧ n < 2 ^ 7 ∧ o < 2 ^ 31 ∧ (c.k = 2 → c.b = 0) ∧ (c.k ≠ 2 → c.g = 0 ∧ c.n = 0) := by
  rcases h.zero_or with rfl | f
  · exact ⟨0, 0, 0, 0, rfl, by decide, by decide, by decide, by decide, fun _ => rfl, fun _ => ⟨rfl, rfl⟩⟩
  · obtain ⟨k, o, r, b, g, n⟩ := c
    obtain ⟨k1, k2, o1, o2, hr, hg, hl, hb, hn⟩ := f
    simp only at *
    have hr' := of_decide_eq_true hr
    have hg' := of_decide_eq_true hg
    obtain ⟨k, rfl⟩ := Int.eq_ofNat_of_zero_le (show 0 ≤ k by omega)
    obtain ⟨o, rfl⟩ := Int.eq_ofNat_of_zero_le o1
    obtain ⟨r, rfl⟩ := Int.eq_ofNat_of_zero_le hr'.1
    obtain ⟨n, rfl⟩ := Int.eq_ofNat_of_zero_le hg'.1
    refine ⟨k, r, n, o, rfl, by omega, by omega, by omega, by omega, ?_, ?_⟩
    · intro e
      rcases hb with hb | hb
      · exact hb
      · have := of_decide_eq_true hb
        omega
    · intro e
      have e0 : (n : Int) = 0 := by
        rcases hn with hn | hn
        · exact hn
        · exact absurd hn e
      refine ⟨?_, e0⟩
      have h3 := hg'.2.2
      rw [e0] at h3
      have h4 : g < 1 := by simpa using h3
      omega
end Cd

set_option maxHeartbeats 1600000 in
theorem mint_any (c : Cp) (s : Int) (v : Nat) (hg : Word c.g) (w : World) :
    Calls Try.prog 11 #[(.agg #[.int .i64 c.k, .int .i64 c.o, .int .i64 c.r, .int .u64 c.b, .int .u64 c.g, .int .i64 c.n]), .int .i64 s, .int .u64 v] w fun e w' => e = .returned (.tuple #[(.agg #[.int .i64 (mintU c s v).1.k, .int .i64 (mintU c s v).1.o, .int .i64 (mintU c s v).1.r, .int .u64 (mintU c s v).1.b, .int .u64 (mintU c s v).1.g, .int .i64 (mintU c s v).1.n]), .int .i64 (mintU c s v).2]) ∧ Below w.heap.size w w' := by
  by_cases ok : c.Ok
  · cases hs : rigB s
    · have e : mintU c s v = (zero, 1) := by simp [mintU, ok, hs]
      rw [e]
      exact mint_arg c s v hg ok hs w
    · skip
      by_cases k0 : c.k = 0
      · have e : mintU c s v = (zero, 41) := by simp [mintU, ok, hs, k0]
        rw [e]
        exact mint_none c s v hg ok hs (by simp [k0]) w
      · have k1 : (c.k == 0) = false := by simpa using k0
        by_cases v0 : v = 0
        · cases hl : limB c.k
          · have e : mintU c s v = (⟨c.k, c.o, c.r, c.b, c.g, c.n⟩, 0) := by simp [mintU, ok, hs, k0, v0, hl]
            rw [e]
            exact mint_plain_false c s v hg ok hs k1 (by simp [v0]) hl w
          · have e : mintU c s v = (⟨c.k, c.o, bits .and .i64 c.r s, c.b, c.g, c.n⟩, 0) := by simp [mintU, ok, hs, k0, v0, hl]
            rw [e]
            exact mint_plain_true c s v hg ok hs k1 (by simp [v0]) hl w
        · cases hb : badB c.k
          · have e : mintU c s v = (zero, 41) := by simp [mintU, ok, hs, v0, hb]
            rw [e]
            exact mint_unbadged c s v hg ok hs k1 (by simp [v0]) hb w
          · by_cases b0 : c.b = 0
            · cases hl : limB c.k
              · have e : mintU c s v = (⟨c.k, c.o, c.r, v, c.g, c.n⟩, 0) := by simp [mintU, ok, hs, k0, v0, hb, b0, hl]
                rw [e]
                exact mint_badge_false c s v hg ok hs k1 (by simp [v0]) hb (by simp [b0]) hl w
              · have e : mintU c s v = (⟨c.k, c.o, bits .and .i64 c.r s, v, c.g, c.n⟩, 0) := by simp [mintU, ok, hs, k0, v0, hb, b0, hl]
                rw [e]
                exact mint_badge_true c s v hg ok hs k1 (by simp [v0]) hb (by simp [b0]) hl w
            · have e : mintU c s v = (zero, 41) := by simp [mintU, ok, hs, v0, hb, b0]
              rw [e]
              exact mint_again c s v hg ok hs k1 (by simp [v0]) hb (by simp [b0]) w
  · have e : mintU c s v = (zero, 40) := by simp [mintU, ok]
    rw [e]
    exact mint_form c s v hg ok w
theorem guarded_any (c : Cp) (v : Nat) (n : Int) (hg : Word c.g) (hv : Word v) (w : World) :
    Calls Try.prog 13 #[(.agg #[.int .i64 c.k, .int .i64 c.o, .int .i64 c.r, .int .u64 c.b, .int .u64 c.g, .int .i64 c.n]), .int .u64 v, .int .i64 n] w fun e w' => e = .returned (.tuple #[(.agg #[.int .i64 (guaU c v n).1.k, .int .i64 (guaU c v n).1.o, .int .i64 (guaU c v n).1.r, .int .u64 (guaU c v n).1.b, .int .u64 (guaU c v n).1.g, .int .i64 (guaU c v n).1.n]), .int .i64 (guaU c v n).2]) ∧ Below w.heap.size w w' := by
  by_cases ok : c.Ok
  · by_cases k0 : c.k = 2
    · cases hb : guaB v n
      · have e : guaU c v n = (zero, 1) := by simp [guaU, ok, k0, hb]
        rw [e]
        exact guarded_arg c v n hg hv ok (by simp [k0]) hb w
      · have e : guaU c v n = (⟨c.k, c.o, c.r, c.b, v, n⟩, 0) := by simp [guaU, ok, k0, hb]
        rw [e]
        exact guarded_good c v n hg hv ok (by simp [k0]) hb w
    · have e : guaU c v n = (zero, 41) := by simp [guaU, ok, k0]
      rw [e]
      exact guarded_kind c v n hg hv ok (by simp [k0]) w
  · have e : guaU c v n = (zero, 40) := by simp [guaU, ok]
    rw [e]
    exact guarded_form c v n hg hv ok w
theorem pack_any (c : Cp) (hb : Word c.b) (hg : Word c.g) (w : World) :
    Calls Try.prog 18 #[(.agg #[.int .i64 c.k, .int .i64 c.o, .int .i64 c.r, .int .u64 c.b, .int .u64 c.g, .int .i64 c.n])] w fun e w' => e = .returned (.tuple #[(.agg #[.int .u64 (packU c).1, .int .u64 (packU c).2.1]), .int .i64 (packU c).2.2]) ∧ Below w.heap.size w w' := by
  by_cases ok : c.Ok
  · obtain ⟨k, r, n, o, hc, kh, rh, nh, oh, h1, h2⟩ := ok.nats
    obtain ⟨k', o', r', b, g, n'⟩ := c
    injection hc with e1 e2 e3 _ _ e4
    subst e1 e2 e3 e4
    simp only at h1 h2 hb hg
    by_cases k0 : (k : Int) = 2
    · have kk : k = 2 := by omega
      subst kk
      have e : packU ⟨((2 : Nat) : Int), (o : Int), (r : Int), b, g, (n : Int)⟩ = (pk 2 r n o 4, g, 0) := by rw [packU, if_pos ok]; rfl
      rw [e]
      exact pack_node 2 r n o b g kh rh nh oh hg ok rfl w
    · have e : packU ⟨(k : Int), (o : Int), (r : Int), b, g, (n : Int)⟩ = (pk k r n o 4, b, 0) := by simp [packU, ok, k0]
      rw [e]
      exact pack_other k r n o b g kh rh nh oh hg ok (by simpa using k0) w
  · have e : packU c = (0, 0, 40) := by simp [packU, ok]
    rw [e]
    exact pack_form c hg ok w
theorem unpack_any (x y : Nat) (hx : Word x) (hy : Word y) (w : World) :
    Calls Try.prog 20 #[(.agg #[.int .u64 x, .int .u64 y])] w fun e w' => e = .returned (.tuple #[(.agg #[.int .i64 (unpU x y).1.k, .int .i64 (unpU x y).1.o, .int .i64 (unpU x y).1.r, .int .u64 (unpU x y).1.b, .int .u64 (unpU x y).1.g, .int .i64 (unpU x y).1.n]), .int .i64 (unpU x y).2]) ∧ Below w.heap.size w w' := by
  by_cases k0 : fld x 0 4 = 2
  · have hk : (((fld x 0 4) : Int) == 2) = true := by simp [k0]
    have er : rawC x y = ⟨(fld x 0 4 : Int), (fld x 16 31 : Int), (fld x 4 3 : Int), 0, y, (fld x 7 7 : Int)⟩ := by rw [rawC, if_pos k0]
    by_cases ok : (rawC x y).Ok
    · by_cases hp : pk (fld x 0 4) (fld x 4 3) (fld x 7 7) (fld x 16 31) 4 = x
      · have e : unpU x y = (rawC x y, 0) := by rw [unpU, if_pos ⟨ok, hp⟩]
        rw [e, er]
        rw [er] at ok
        exact unpack_node_good x y hx hy hk ok hp w
      · have e : unpU x y = (zero, 40) := by rw [unpU, if_neg (fun h => hp h.2)]
        rw [e]
        rw [er] at ok
        exact unpack_node_ne x y hx hy hk ok hp w
    · have e : unpU x y = (zero, 40) := by rw [unpU, if_neg (fun h => ok h.1)]
      rw [e]
      rw [er] at ok
      exact unpack_node_form x y hx hy hk ok w
  · have hk : (((fld x 0 4) : Int) == 2) = false := by
      have : (fld x 0 4 : Int) ≠ 2 := by omega
      simpa using this
    have er : rawC x y = ⟨(fld x 0 4 : Int), (fld x 16 31 : Int), (fld x 4 3 : Int), y, 0, (fld x 7 7 : Int)⟩ := by rw [rawC, if_neg k0]
    by_cases ok : (rawC x y).Ok
    · by_cases hp : pk (fld x 0 4) (fld x 4 3) (fld x 7 7) (fld x 16 31) 4 = x
      · have e : unpU x y = (rawC x y, 0) := by rw [unpU, if_pos ⟨ok, hp⟩]
        rw [e, er]
        rw [er] at ok
        exact unpack_other_good x y hx hy hk ok hp w
      · have e : unpU x y = (zero, 40) := by rw [unpU, if_neg (fun h => hp h.2)]
        rw [e]
        rw [er] at ok
        exact unpack_other_ne x y hx hy hk ok hp w
    · have e : unpU x y = (zero, 40) := by rw [unpU, if_neg (fun h => ok h.1)]
      rw [e]
      rw [er] at ok
      exact unpack_other_form x y hx hy hk ok w
set_option maxHeartbeats 1600000 in
theorem rmint_any (c : Cp) (s : Int) (v : Nat) (hg : Word c.g) (w : World) :
    Calls Try.prog 16 #[(.agg #[.int .i64 c.k, .int .i64 c.o, .int .i64 c.r, .int .u64 c.b, .int .u64 c.g, .int .i64 c.n]), .int .i64 s, .int .u64 v] w fun e w' => e = .returned (.tuple #[(.agg #[.int .i64 (mintU c s v).1.k, .int .i64 (mintU c s v).1.o, .int .i64 (mintU c s v).1.r, .int .u64 (mintU c s v).1.b, .int .u64 (mintU c s v).1.g, .int .i64 (mintU c s v).1.n]), .int .i64 (mintU c s v).2]) ∧ Below w.heap.size w w' := by
  by_cases ok : c.Ok
  · cases hs : rigB s
    · have e : mintU c s v = (zero, 1) := by simp [mintU, ok, hs]
      rw [e]
      by_cases hs0 : s < 0
      · exact rmint_arg0 c s v hg ok hs0 w
      · have hs7 : 7 < s := by
          have := of_decide_eq_false hs
          omega
        exact rmint_arg7 c s v hg ok (by omega) hs7 w
    · have hs' := of_decide_eq_true hs
      have hs1 := hs'.1
      have hs2 := hs'.2
      by_cases k0 : c.k = 0
      · have e : mintU c s v = (zero, 41) := by simp [mintU, ok, hs, k0]
        rw [e]
        exact rmint_none c s v hg ok hs1 hs2 (by simp [k0]) w
      · have k1 : (c.k == 0) = false := by simpa using k0
        by_cases v0 : v = 0
        · cases hl : limB c.k
          · have e : mintU c s v = (⟨c.k, c.o, c.r, c.b, c.g, c.n⟩, 0) := by simp [mintU, ok, hs, k0, v0, hl]
            rw [e]
            exact rmint_plain_false c s v hg ok hs1 hs2 k1 (decide_eq_false (by omega)) (decide_eq_false (by omega)) hl w
          · have e : mintU c s v = (⟨c.k, c.o, bits .and .i64 c.r s, c.b, c.g, c.n⟩, 0) := by simp [mintU, ok, hs, k0, v0, hl]
            rw [e]
            exact rmint_plain_true c s v hg ok hs1 hs2 k1 (decide_eq_false (by omega)) (decide_eq_false (by omega)) hl w
        · cases hb : badB c.k
          · have e : mintU c s v = (zero, 41) := by simp [mintU, ok, hs, v0, hb]
            rw [e]
            exact rmint_unbadged c s v hg ok hs1 hs2 k1 (decide_eq_true (by omega)) (decide_eq_true (by omega)) hb w
          · by_cases b0 : c.b = 0
            · cases hl : limB c.k
              · have e : mintU c s v = (⟨c.k, c.o, c.r, v, c.g, c.n⟩, 0) := by simp [mintU, ok, hs, k0, v0, hb, b0, hl]
                rw [e]
                exact rmint_badge_false c s v hg ok hs1 hs2 k1 (decide_eq_true (by omega)) (decide_eq_true (by omega)) hb (decide_eq_false (by omega)) (decide_eq_false (by omega)) hl w
              · have e : mintU c s v = (⟨c.k, c.o, bits .and .i64 c.r s, v, c.g, c.n⟩, 0) := by simp [mintU, ok, hs, k0, v0, hb, b0, hl]
                rw [e]
                exact rmint_badge_true c s v hg ok hs1 hs2 k1 (decide_eq_true (by omega)) (decide_eq_true (by omega)) hb (decide_eq_false (by omega)) (decide_eq_false (by omega)) hl w
            · have e : mintU c s v = (zero, 41) := by simp [mintU, ok, hs, v0, hb, b0]
              rw [e]
              exact rmint_again c s v hg ok hs1 hs2 k1 (decide_eq_true (by omega)) (decide_eq_true (by omega)) hb (decide_eq_true (by omega)) (decide_eq_true (by omega)) w
  · have e : mintU c s v = (zero, 40) := by simp [mintU, ok]
    rw [e]
    exact rmint_form c s v hg ok w
theorem rguarded_any (c : Cp) (v : Nat) (n : Int) (hg : Word c.g) (hv : Word v) (w : World) :
    Calls Try.prog 17 #[(.agg #[.int .i64 c.k, .int .i64 c.o, .int .i64 c.r, .int .u64 c.b, .int .u64 c.g, .int .i64 c.n]), .int .u64 v, .int .i64 n] w fun e w' => e = .returned (.tuple #[(.agg #[.int .i64 (guaU c v n).1.k, .int .i64 (guaU c v n).1.o, .int .i64 (guaU c v n).1.r, .int .u64 (guaU c v n).1.b, .int .u64 (guaU c v n).1.g, .int .i64 (guaU c v n).1.n]), .int .i64 (guaU c v n).2]) ∧ Below w.heap.size w w' := by
  by_cases ok : c.Ok
  · by_cases k0 : c.k = 2
    · cases hb : guaB v n
      · have e : guaU c v n = (zero, 1) := by simp [guaU, ok, k0, hb]
        rw [e]
        exact rguarded_arg c v n hg hv ok (by simp [k0]) hb w
      · have e : guaU c v n = (⟨c.k, c.o, c.r, c.b, v, n⟩, 0) := by simp [guaU, ok, k0, hb]
        rw [e]
        exact rguarded_good c v n hg hv ok (by simp [k0]) hb w
    · have e : guaU c v n = (zero, 41) := by simp [guaU, ok, k0]
      rw [e]
      exact rguarded_kind c v n hg hv ok (by simp [k0]) w
  · have e : guaU c v n = (zero, 40) := by simp [guaU, ok]
    rw [e]
    exact rguarded_form c v n hg hv ok w
theorem rpack_any (c : Cp) (hb : Word c.b) (hg : Word c.g) (w : World) :
    Calls Try.prog 19 #[(.agg #[.int .i64 c.k, .int .i64 c.o, .int .i64 c.r, .int .u64 c.b, .int .u64 c.g, .int .i64 c.n])] w fun e w' => e = .returned (.tuple #[(.agg #[.int .u64 (packU c).1, .int .u64 (packU c).2.1]), .int .i64 (packU c).2.2]) ∧ Below w.heap.size w w' := by
  by_cases ok : c.Ok
  · obtain ⟨k, r, n, o, hc, kh, rh, nh, oh, h1, h2⟩ := ok.nats
    obtain ⟨k', o', r', b, g, n'⟩ := c
    injection hc with e1 e2 e3 _ _ e4
    subst e1 e2 e3 e4
    simp only at h1 h2 hb hg
    by_cases k0 : (k : Int) = 2
    · have kk : k = 2 := by omega
      subst kk
      have e : packU ⟨((2 : Nat) : Int), (o : Int), (r : Int), b, g, (n : Int)⟩ = (pk 2 r n o 4, g, 0) := by rw [packU, if_pos ok]; rfl
      rw [e]
      exact rpack_ok 2 r n o b g kh rh nh oh hg g (by have : b = 0 := h1 rfl; omega) hg ok w
    · have e : packU ⟨(k : Int), (o : Int), (r : Int), b, g, (n : Int)⟩ = (pk k r n o 4, b, 0) := by simp [packU, ok, k0]
      rw [e]
      exact rpack_ok k r n o b g kh rh nh oh hg b (by have := (h2 k0).1; omega) hb ok w
  · have e : packU c = (0, 0, 40) := by simp [packU, ok]
    rw [e]
    exact rpack_form c hg ok w
theorem runpack_any (x y : Nat) (hx : Word x) (hy : Word y) (w : World) :
    Calls Try.prog 21 #[(.agg #[.int .u64 x, .int .u64 y])] w fun e w' => e = .returned (.tuple #[(.agg #[.int .i64 (unpU x y).1.k, .int .i64 (unpU x y).1.o, .int .i64 (unpU x y).1.r, .int .u64 (unpU x y).1.b, .int .u64 (unpU x y).1.g, .int .i64 (unpU x y).1.n]), .int .i64 (unpU x y).2]) ∧ Below w.heap.size w w' := by
  by_cases k0 : fld x 0 4 = 2
  · have hk : (((fld x 0 4) : Int) == 2) = true := by simp [k0]
    have er : rawC x y = ⟨(fld x 0 4 : Int), (fld x 16 31 : Int), (fld x 4 3 : Int), 0, y, (fld x 7 7 : Int)⟩ := by rw [rawC, if_pos k0]
    by_cases ok : (rawC x y).Ok
    · by_cases hp : pk (fld x 0 4) (fld x 4 3) (fld x 7 7) (fld x 16 31) 4 = x
      · have e : unpU x y = (rawC x y, 0) := by rw [unpU, if_pos ⟨ok, hp⟩]
        rw [e, er]
        rw [er] at ok
        exact runpack_node_good x y hx hy hk ok hp w
      · have e : unpU x y = (zero, 40) := by rw [unpU, if_neg (fun h => hp h.2)]
        rw [e]
        rw [er] at ok
        exact runpack_node_ne x y hx hy hk ok hp w
    · have e : unpU x y = (zero, 40) := by rw [unpU, if_neg (fun h => ok h.1)]
      rw [e]
      rw [er] at ok
      exact runpack_node_form x y hx hy hk ok w
  · have hk : (((fld x 0 4) : Int) == 2) = false := by
      have : (fld x 0 4 : Int) ≠ 2 := by omega
      simpa using this
    have er : rawC x y = ⟨(fld x 0 4 : Int), (fld x 16 31 : Int), (fld x 4 3 : Int), y, 0, (fld x 7 7 : Int)⟩ := by rw [rawC, if_neg k0]
    by_cases ok : (rawC x y).Ok
    · by_cases hp : pk (fld x 0 4) (fld x 4 3) (fld x 7 7) (fld x 16 31) 4 = x
      · have e : unpU x y = (rawC x y, 0) := by rw [unpU, if_pos ⟨ok, hp⟩]
        rw [e, er]
        rw [er] at ok
        exact runpack_other_good x y hx hy hk ok hp w
      · have e : unpU x y = (zero, 40) := by rw [unpU, if_neg (fun h => hp h.2)]
        rw [e]
        rw [er] at ok
        exact runpack_other_ne x y hx hy hk ok hp w
    · have e : unpU x y = (zero, 40) := by rw [unpU, if_neg (fun h => ok h.1)]
      rw [e]
      rw [er] at ok
      exact runpack_other_form x y hx hy hk ok w
end Go.Proofs.Ythgiofgedeijoaa
