/- Plain facts on what is minted, guarded, packed and unpacked. -/
import Derived.Test.YthgiofgedeijoaaCuni
namespace Go.Proofs.Ythgiofgedeijoaa
namespace Cd
open Wd

/-! ### Rights -/
theorem and_num : ∀ x y : Fin 8, bits .and .i64 (x.val : Int) (y.val : Int) = (((x.val &&& y.val : Nat)) : Int) := by decide +kernel
theorem not_num : ∀ x y : Fin 8, (bits .andNot .i64 (x.val : Int) (y.val : Int) == 0) = decide (x.val &&& y.val = x.val) := by decide +kernel
theorem fin_of {x : Int} (h : rigB x = true) : ∃ i : Fin 8, x = (i.val : Int) := by
  have h' := of_decide_eq_true h
  exact ⟨⟨x.toNat, by omega⟩, by simp; omega⟩
theorem fin_rig (i : Fin 8) : rigB (i.val : Int) = true := decide_eq_true ⟨by omega, by omega⟩
theorem and_lt8 : ∀ x y : Fin 8, x.val &&& y.val < 8 := by decide +kernel
theorem and_rig {x y : Int} (hx : rigB x = true) (hy : rigB y = true) : rigB (bits .and .i64 x y) = true := by
  obtain ⟨i, rfl⟩ := fin_of hx
  obtain ⟨j, rfl⟩ := fin_of hy
  rw [and_num]
  exact fin_rig ⟨_, and_lt8 i j⟩
theorem and_three : ∀ x y z : Fin 8, bits .and .i64 (bits .and .i64 (x.val : Int) (y.val : Int)) (z.val : Int) = bits .and .i64 (x.val : Int) (bits .and .i64 (y.val : Int) (z.val : Int)) := by decide +kernel
theorem and_assoc {x y z : Int} (hx : rigB x = true) (hy : rigB y = true) (hz : rigB z = true) : bits .and .i64 (bits .and .i64 x y) z = bits .and .i64 x (bits .and .i64 y z) := by
  obtain ⟨i, rfl⟩ := fin_of hx
  obtain ⟨j, rfl⟩ := fin_of hy
  obtain ⟨k, rfl⟩ := fin_of hz
  exact and_three i j k
theorem less_and0 : ∀ x y : Fin 8, (bits .andNot .i64 (bits .and .i64 (x.val : Int) (y.val : Int)) (x.val : Int) == 0) = true := by decide +kernel
theorem less_and {x y : Int} (hx : rigB x = true) (hy : rigB y = true) : (bits .andNot .i64 (bits .and .i64 x y) x == 0) = true := by
  obtain ⟨i, rfl⟩ := fin_of hx
  obtain ⟨j, rfl⟩ := fin_of hy
  exact less_and0 i j
theorem less_self0 : ∀ x : Fin 8, (bits .andNot .i64 (x.val : Int) (x.val : Int) == 0) = true := by decide +kernel
theorem less_self {x : Int} (hx : rigB x = true) : (bits .andNot .i64 x x == 0) = true := by
  obtain ⟨i, rfl⟩ := fin_of hx
  exact less_self0 i
theorem less_trans0 : ∀ x y z : Fin 8, (bits .andNot .i64 (y.val : Int) (x.val : Int) == 0) = true → (bits .andNot .i64 (z.val : Int) (y.val : Int) == 0) = true → (bits .andNot .i64 (z.val : Int) (x.val : Int) == 0) = true := by decide +kernel
theorem less_trans {x y z : Int} (hx : rigB x = true) (hy : rigB y = true) (hz : rigB z = true) (h1 : (bits .andNot .i64 y x == 0) = true) (h2 : (bits .andNot .i64 z y == 0) = true) : (bits .andNot .i64 z x == 0) = true := by
  obtain ⟨i, rfl⟩ := fin_of hx
  obtain ⟨j, rfl⟩ := fin_of hy
  obtain ⟨k, rfl⟩ := fin_of hz
  exact less_trans0 i j k h1 h2
theorem less_anti0 : ∀ x y : Fin 8, (bits .andNot .i64 (y.val : Int) (x.val : Int) == 0) = true → (bits .andNot .i64 (x.val : Int) (y.val : Int) == 0) = true → x = y := by decide +kernel
theorem less_anti {x y : Int} (hx : rigB x = true) (hy : rigB y = true) (h1 : (bits .andNot .i64 y x == 0) = true) (h2 : (bits .andNot .i64 x y == 0) = true) : x = y := by
  obtain ⟨i, rfl⟩ := fin_of hx
  obtain ⟨j, rfl⟩ := fin_of hy
  rw [less_anti0 i j h1 h2]
theorem and7 (c : Int) : rigB (bits .and .i64 c 7) = true := by
  have e := bits_i64_mask c 3 (by decide)
  have e2 : bits .and .i64 c 7 = (((BitVec.ofInt 64 c).toNat % 2 ^ 3 : Nat) : Int) := e
  have h := Nat.mod_lt (BitVec.ofInt 64 c).toNat (show 0 < 2 ^ 3 by decide)
  rw [e2]
  exact decide_eq_true ⟨by omega, by omega⟩
theorem ofInt_bits (x y : Int) : BitVec.ofInt 64 (bits .and .i64 x y) = BitVec.ofInt 64 x &&& BitVec.ofInt 64 y := by
  apply BitVec.eq_of_toNat_eq
  have h := (BitVec.ofInt 64 x &&& BitVec.ofInt 64 y).isLt
  show (BitVec.ofInt 64 (IntKind.i64.wrap ((BitVec.ofInt 64 x &&& BitVec.ofInt 64 y).toNat : Int))).toNat = _
  generalize (BitVec.ofInt 64 x &&& BitVec.ofInt 64 y).toNat = X at *
  rw [IntKind.wrap_i64, BitVec.toNat_ofInt]
  have e : (2 : Nat) ^ 64 = 18446744073709551616 := by decide
  omega
theorem bits_congr {x y x' y' : Int} (h : BitVec.ofInt 64 x &&& BitVec.ofInt 64 y = BitVec.ofInt 64 x' &&& BitVec.ofInt 64 y') : bits .and .i64 x y = bits .and .i64 x' y' := by
  show IntKind.i64.wrap ((BitVec.ofInt 64 x &&& BitVec.ofInt 64 y).toNat : Int) = IntKind.i64.wrap ((BitVec.ofInt 64 x' &&& BitVec.ofInt 64 y').toNat : Int)
  rw [h]
theorem and7_and (n k : Int) : bits .and .i64 (bits .and .i64 n k) 7 = bits .and .i64 (bits .and .i64 n 7) (bits .and .i64 k 7) := by
  apply bits_congr
  rw [ofInt_bits, ofInt_bits, ofInt_bits]
  generalize BitVec.ofInt 64 n = N
  generalize BitVec.ofInt 64 k = K
  generalize BitVec.ofInt 64 7 = S
  ext i
  simp
  cases N[i] <;> cases K[i] <;> cases S[i] <;> rfl

/-! ### What is minted -/
theorem mint_zero {c : Cp} {s : Int} {v : Nat} {a : Cp} {e : Int} (h : mintU c s v = (a, e)) (he : e ≠ 0) : a = zero := by
  unfold mintU at h
  split at h
  · split at h
    · split at h
      · injection h with h1 h2; exact h1.symm
      · injection h with h1 h2; exact absurd h2.symm he
    · injection h with h1 h2; exact h1.symm
  · injection h with h1 h2; exact h1.symm
theorem mint_inv {c : Cp} {s : Int} {v : Nat} {a : Cp} (h : mintU c s v = (a, 0)) :
    c.Ok ∧ rigB s = true ∧ c.k ≠ 0 ∧ (v = 0 ∨ badB c.k = true ∧ c.b = 0) ∧ a = ⟨c.k, c.o, if limB c.k = true then bits .and .i64 c.r s else c.r, if v = 0 then c.b else v, c.g, c.n⟩ := by
  unfold mintU at h
  split at h
  · rename_i ok
    split at h
    · rename_i hs
      split at h
      · injection h with h1 h2; exact absurd h2 (by decide)
      · rename_i hk
        injection h with h1 h2
        refine ⟨ok, hs, fun h0 => hk (.inl h0), ?_, h1.symm⟩
        by_cases v0 : v = 0
        · exact .inl v0
        · right
          constructor
          · cases hb : badB c.k
            · exact absurd (.inr ⟨v0, .inl hb⟩) hk
            · rfl
          · by_cases hb : c.b = 0
            · exact hb
            · exact absurd (.inr ⟨v0, .inr hb⟩) hk
    · injection h with h1 h2; exact absurd h2 (by decide)
  · injection h with h1 h2; exact absurd h2 (by decide)
theorem mint_good {c : Cp} {s : Int} (ok : c.Ok) (hs : rigB s = true) (hk : c.k ≠ 0) : mintU c s 0 = (⟨c.k, c.o, if limB c.k = true then bits .and .i64 c.r s else c.r, c.b, c.g, c.n⟩, 0) := by
  rw [mintU, if_pos ok, if_pos hs, if_neg (by simp [hk])]
  simp
theorem Cp.Ok.form {c : Cp} (ok : c.Ok) (hk : c.k ≠ 0) : c.Form := by
  rcases ok.zero_or with h | h
  · exact absurd (by rw [h]; rfl) hk
  · exact h
theorem mint_ok {c : Cp} {s : Int} {v : Nat} {a : Cp} (h : mintU c s v = (a, 0)) : a.Form ∧ c.Form := by
  obtain ⟨ok, hs, hk, hv, rfl⟩ := mint_inv h
  have f := ok.form hk
  refine ⟨⟨f.k1, f.k2, f.o1, f.o2, ?_, f.g, ?_, ?_, f.nod⟩, f⟩
  · show rigB (if limB c.k = true then bits .and .i64 c.r s else c.r) = true
    split
    · exact and_rig f.r hs
    · exact f.r
  · show limB c.k = true ∨ (if limB c.k = true then bits .and .i64 c.r s else c.r) = 7
    by_cases hl : limB c.k = true
    · exact .inl hl
    · rw [if_neg hl]
      exact f.lim
  · show (if v = 0 then c.b else v) = 0 ∨ badB c.k = true
    rcases hv with hv | hv
    · rw [if_pos hv]
      exact f.bad
    · exact .inr hv.1
/-- The law of minting twice. -/
theorem less_good {c a : Cp} {s1 s2 : Int} (h : mintU c s1 0 = (a, 0)) (h2 : rigB s2 = true) :
    ∃ b, mintU a s2 0 = (b, 0) ∧ mintU c (bits .and .i64 s1 s2) 0 = (b, 0) ∧ (bits .andNot .i64 b.r c.r == 0) = true := by
  obtain ⟨fa, fc⟩ := mint_ok h
  obtain ⟨ok, h1, hk, _, rfl⟩ := mint_inv h
  have e1 := mint_good (s := s2) (.inr fa) h2 hk
  have e2 := mint_good (s := bits .and .i64 s1 s2) (.inr fc) (and_rig h1 h2) hk
  refine ⟨_, e1, ?_, ?_⟩
  · rw [e2]
    simp only [Prod.mk.injEq, Cp.mk.injEq, and_true, true_and]
    by_cases hl : limB c.k = true
    · simp only [if_pos hl]
      rw [and_assoc fc.r h1 h2]
      simp
    · simp [hl]
  · by_cases hl : limB c.k = true
    · simp only [if_pos hl]
      rw [and_assoc fc.r h1 h2]
      exact less_and fc.r (and_rig h1 h2)
    · simp only [if_neg hl]
      exact less_self fc.r
theorem less_bad {c a : Cp} {s1 s2 : Int} {e : Int} (h : mintU c s1 0 = (a, e)) (h1 : rigB s1 = true) (h2 : rigB s2 = true) (he : e ≠ 0) :
    a = zero ∧ mintU a s2 0 = (zero, 41) ∧ mintU c (bits .and .i64 s1 s2) 0 = (zero, e) := by
  have ha := mint_zero h he
  subst ha
  refine ⟨rfl, ?_, ?_⟩
  · rw [mintU, if_pos (.inl (by decide)), if_pos h2, if_pos (.inl rfl)]
  · unfold mintU at h ⊢
    by_cases ok : c.Ok
    · rw [if_pos ok, if_pos h1] at h
      rw [if_pos ok, if_pos (and_rig h1 h2)]
      split at h
      · rename_i hq
        rw [if_pos hq]
        injection h with _ h4
        rw [h4]
      · injection h with _ h4
        exact absurd h4.symm he
    · rw [if_neg ok] at h ⊢
      injection h with _ h4
      rw [h4]

/-! ### What derives -/
theorem der_of {p c : Cp} (hk : p.k ≠ 0) (h1 : p.k = c.k) (h2 : p.o = c.o) (h3 : (bits .andNot .i64 c.r p.r == 0) = true) (h4 : p.b = 0 ∨ p.b = c.b) : derB p c = true := by
  unfold derB sameB
  have hb : (decide (p.b = 0) || decide (p.b = c.b)) = true := by
    rcases h4 with h | h <;> simp [h]
  rw [h3, hb, decide_eq_true hk, decide_eq_true h1, decide_eq_true h2]
  rfl
theorem der_inv {p c : Cp} (h : derB p c = true) : p.k ≠ 0 ∧ p.k = c.k ∧ p.o = c.o ∧ (bits .andNot .i64 c.r p.r == 0) = true ∧ (p.b = 0 ∨ p.b = c.b) := by
  unfold derB sameB at h
  simp only [Bool.and_eq_true, Bool.or_eq_true, decide_eq_true_eq] at h
  exact ⟨h.1.1, h.1.2.1, h.1.2.2, h.2.1, h.2.2⟩
theorem mint_der {c : Cp} {s : Int} {v : Nat} {a : Cp} (h : mintU c s v = (a, 0)) : derB c a = true := by
  obtain ⟨fa, fc⟩ := mint_ok h
  obtain ⟨ok, hs, hk, hv, rfl⟩ := mint_inv h
  refine der_of hk rfl rfl ?_ ?_
  · show (bits .andNot .i64 (if limB c.k = true then bits .and .i64 c.r s else c.r) c.r == 0) = true
    split
    · exact less_and fc.r hs
    · exact less_self fc.r
  · show c.b = 0 ∨ c.b = (if v = 0 then c.b else v)
    rcases hv with hv | hv
    · rw [if_pos hv]
      exact .inr rfl
    · exact .inl hv.2
theorem der_trans {a b c : Cp} (ha : rigB a.r = true) (hb : rigB b.r = true) (hc : rigB c.r = true) (h1 : derB a b = true) (h2 : derB b c = true) : derB a c = true := by
  obtain ⟨k1, e1, o1, r1, b1⟩ := der_inv h1
  obtain ⟨k2, e2, o2, r2, b2⟩ := der_inv h2
  refine der_of k1 (e1.trans e2) (o1.trans o2) (less_trans ha hb hc r1 r2) ?_
  rcases b1 with b1 | b1
  · exact .inl b1
  · rcases b2 with b2 | b2
    · exact .inl (b1.trans b2)
    · exact .inr (b1.trans b2)
/-- The law of what derives. -/
theorem derive_good {c a : Cp} {s s2 : Int} {v : Nat} (h : mintU c s v = (a, 0)) (h2 : rigB s2 = true) :
    ∃ b, mintU a s2 0 = (b, 0) ∧ a.Ok ∧ b.Ok ∧ derB c a = true ∧ derB a b = true ∧ derB c b = true ∧ b.b = a.b ∧ sameB b c = true ∧ ∀ d g, mintU b 7 99 = (d, g) → a.b = 0 ∨ g = 41 := by
  obtain ⟨fa, fc⟩ := mint_ok h
  have hk : a.k ≠ 0 := by have := fa.k1; omega
  have e1 := mint_good (.inr fa) h2 hk
  obtain ⟨fb, _⟩ := mint_ok e1
  have d1 := mint_der h
  have d2 := mint_der e1
  have d3 := der_trans fc.r fa.r fb.r d1 d2
  refine ⟨_, e1, .inr fa, .inr fb, d1, d2, d3, rfl, ?_, ?_⟩
  · obtain ⟨k, e, o, _, _⟩ := der_inv d3
    unfold sameB
    rw [← e, ← o]
    simp [k]
  · intro d g hg
    by_cases ab : a.b = 0
    · exact .inl ab
    · right
      rw [mintU, if_pos (.inr fb), if_pos (by decide), if_pos (.inr ⟨by decide, .inr ab⟩)] at hg
      injection hg with _ h4
      exact h4.symm
theorem order_anti {a b : Cp} (ha : a.Ok) (hb : b.Ok) (h1 : derB a b = true) (h2 : derB b a = true) : a.k = b.k ∧ a.o = b.o ∧ a.r = b.r ∧ (a.b = b.b ∨ a.b = 0 ∨ b.b = 0) := by
  obtain ⟨k1, e1, o1, r1, b1⟩ := der_inv h1
  obtain ⟨k2, e2, o2, r2, b2⟩ := der_inv h2
  refine ⟨e1, o1, less_anti (ha.form k1).r (hb.form k2).r r1 r2, ?_⟩
  rcases b1 with b1 | b1
  · exact .inr (.inl b1)
  · exact .inl b1
theorem ok_rig {c : Cp} (ok : c.Ok) : rigB c.r = true := by
  rcases ok.zero_or with rfl | f
  · decide
  · exact f.r

/-! ### Guards -/
theorem guard_zero {c : Cp} {v : Nat} {n : Int} {a : Cp} {e : Int} (h : guaU c v n = (a, e)) (he : e ≠ 0) : a = zero := by
  unfold guaU at h
  split at h
  · split at h
    · split at h
      · injection h with h1 h2; exact absurd h2.symm he
      · injection h with h1 h2; exact h1.symm
    · injection h with h1 h2; exact h1.symm
  · injection h with h1 h2; exact h1.symm
theorem guard_why {c : Cp} {v : Nat} {n : Int} {a : Cp} {e : Int} (h : guaU c v n = (a, e)) (he : e ≠ 0) (hg : guaB v n = true) : ¬ c.Ok ∨ c.k ≠ 2 := by
  by_cases ok : c.Ok
  · by_cases hk : c.k = 2
    · rw [guaU, if_pos ok, if_pos hk, if_pos hg] at h
      injection h with h1 h2
      exact absurd h2.symm he
    · exact .inr hk
  · exact .inl ok
/-- The law of guards. -/
theorem guard_good {c : Cp} {v : Nat} {n : Int} {a : Cp} (h : guaU c v n = (a, 0)) : guaU a c.g c.n = (c, 0) ∧ a.o = c.o ∧ a.g = v ∧ a.n = n ∧ sameB a c = true ∧ a.Ok := by
  unfold guaU at h
  split at h
  · rename_i ok
    split at h
    · rename_i hk
      split at h
      · rename_i hb
        injection h with h1 h2
        subst h1
        have f := ok.form (by omega)
        have fa : Cp.Form ⟨c.k, c.o, c.r, c.b, v, n⟩ := ⟨f.k1, f.k2, f.o1, f.o2, f.r, hb, f.lim, f.bad, .inr hk⟩
        refine ⟨?_, rfl, rfl, rfl, ?_, .inr fa⟩
        · rw [guaU, if_pos (.inr fa), if_pos hk, if_pos f.g]
        · unfold sameB
          simp [hk]
      · injection h with h1 h2; exact absurd h2 (by decide)
    · injection h with h1 h2; exact absurd h2 (by decide)
  · injection h with h1 h2; exact absurd h2 (by decide)

/-! ### Words -/
theorem fld_pk0 (k r n o : Nat) (kh : k < 2 ^ 4) (rh : r < 2 ^ 3) (nh : n < 2 ^ 7) (oh : o < 2 ^ 31) : fld (pk k r n o 4) 0 4 = k ∧ fld (pk k r n o 4) 4 3 = r ∧ fld (pk k r n o 4) 7 7 = n ∧ fld (pk k r n o 4) 16 31 = o := by
  rw [pk_sum k r n o kh rh nh oh]
  unfold fld
  refine ⟨?_, ?_, ?_, ?_⟩ <;> omega
/-- What is packed is unpacked as it was. -/
theorem pack_back {a : Cp} {x y : Nat} (h : packU a = (x, y, 0)) : a.Ok ∧ unpU x y = (a, 0) := by
  unfold packU at h
  split at h
  · rename_i ok
    refine ⟨ok, ?_⟩
    obtain ⟨k, r, n, o, hc, kh, rh, nh, oh, h1, h2⟩ := ok.nats
    obtain ⟨k', o', r', b, g, n'⟩ := a
    injection hc with e1 e2 e3 _ _ e4
    subst e1 e2 e3 e4
    injection h with e5 e6
    injection e6 with e6 _
    have e7 : pk k r n o 4 = x := e5
    subst e7
    obtain ⟨f0, f1, f2, f3⟩ := fld_pk0 k r n o kh rh nh oh
    have er : rawC (pk k r n o 4) y = ⟨(k : Int), (o : Int), (r : Int), b, g, (n : Int)⟩ := by
      unfold rawC
      rw [f0, f1, f2, f3]
      by_cases k0 : k = 2
      · rw [if_pos k0]
        have h3 : b = 0 := h1 (by simp [k0])
        have h4 : g = y := by simpa [k0] using e6
        rw [h3, h4]
      · rw [if_neg k0]
        have h3 : g = 0 := (h2 (by simp; omega)).1
        have h5 : ¬ (k : Int) = 2 := by omega
        have h4 : b = y := by simpa [h5] using e6
        rw [h3, h4]
    rw [unpU, if_pos, er]
    rw [er, f0, f1, f2, f3]
    exact ⟨ok, rfl⟩
  · injection h with _ h2
    injection h2 with _ h3
    exact absurd h3 (by decide)
/-- No two are packed alike. -/
theorem pack_one {a b : Cp} {x y u v : Nat} (h : packU a = (x, y, 0)) (k : packU b = (u, v, 0)) : decide ((x, y) = (u, v)) = eqB a b := by
  by_cases e : a = b
  · subst e
    rw [h] at k
    injection k with k1 k2
    injection k2 with k2 _
    rw [k1, k2, decide_eq_true rfl]
    exact (decide_eq_true ⟨rfl, rfl, rfl, rfl, rfl, rfl⟩ : eqB a a = true).symm
  · rw [decide_eq_false]
    · refine (decide_eq_false ?_ : eqB a b = false).symm
      rintro ⟨e1, e2, e3, e4, e5, e6⟩
      apply e
      obtain ⟨_, _, _, _, _, _⟩ := a
      obtain ⟨_, _, _, _, _, _⟩ := b
      simp only at e1 e2 e3 e4 e5 e6
      subst e1 e2 e3 e4 e5 e6
      rfl
    · intro h1
      injection h1 with h1 h2
      subst h1 h2
      have e1 := (pack_back h).2
      have e2 := (pack_back k).2
      rw [e1] at e2
      injection e2 with e2 _
      exact e e2
theorem unp_bad {x y : Nat} {c : Cp} {g : Int} (h : unpU x y = (c, g)) (hg : g ≠ 0) : c = zero := by
  unfold unpU at h
  split at h
  · injection h with h1 h2; exact absurd h2.symm hg
  · injection h with h1 h2; exact h1.symm
/-- What is unpacked may be, and, packed, is these words. -/
theorem unp_good {x y : Nat} {c : Cp} (h : unpU x y = (c, 0)) : c.Ok ∧ packU c = (x, y, 0) := by
  unfold unpU at h
  split at h
  · rename_i hq
    injection h with h1 h2
    subst h1
    refine ⟨hq.1, ?_⟩
    rw [packU, if_pos hq.1]
    have e2 := hq.2
    unfold rawC
    by_cases k0 : fld x 0 4 = 2
    · simp only [if_pos k0]
      have k1 : ((fld x 0 4 : Nat) : Int) = 2 := by omega
      simp only [if_pos k1]
      simp only [Int.toNat_natCast]
      rw [e2]
    · simp only [if_neg k0]
      have k1 : ¬ ((fld x 0 4 : Nat) : Int) = 2 := by omega
      simp only [if_neg k1]
      simp only [Int.toNat_natCast]
      rw [e2]
  · injection h with h1 h2; exact absurd h2 (by decide)
theorem unp_words {x y : Nat} {c : Cp} (hy : Word y) {g : Int} (h : unpU x y = (c, g)) : Word c.b ∧ Word c.g := by
  have z : Word 0 := ⟨by decide⟩
  unfold unpU at h
  split at h
  · injection h with h1 h2
    subst h1
    unfold rawC
    split
    · exact ⟨z, hy⟩
    · exact ⟨hy, z⟩
  · injection h with h1 h2
    subst h1
    exact ⟨z, z⟩
theorem mint_words {c : Cp} {s : Int} {v : Nat} {a : Cp} {e : Int} (hg : Word c.g) (h : mintU c s v = (a, e)) : Word a.g := by
  by_cases he : e = 0
  · subst he
    obtain ⟨_, _, _, _, rfl⟩ := mint_inv h
    exact hg
  · rw [mint_zero h he]
    exact ⟨by decide⟩
theorem guard_words {c : Cp} {v : Nat} {n : Int} {a : Cp} {e : Int} (hv : Word v) (h : guaU c v n = (a, e)) : Word a.g := by
  by_cases he : e = 0
  · subst he
    rw [(guard_good h).2.2.1]
    exact hv
  · rw [guard_zero h he]
    exact ⟨by decide⟩
theorem pack_words {a : Cp} {x y : Nat} {e : Int} (hb : Word a.b) (hg : Word a.g) (h : packU a = (x, y, e)) : Word x ∧ Word y := by
  unfold packU at h
  split at h
  · injection h with h1 h2
    injection h2 with h2 _
    subst h1 h2
    refine ⟨pk_word _ _ _ _ _, ?_⟩
    split
    · exact hg
    · exact hb
  · injection h with h1 h2
    injection h2 with h2 _
    subst h1 h2
    exact ⟨⟨by decide⟩, ⟨by decide⟩⟩
end Cd
end Go.Proofs.Ythgiofgedeijoaa
