/- What is printed is parsed: bytes as a list. -/
import Derived.Test.YtldhpecpmgjihaaSccut
set_option linter.unusedVariables false
set_option linter.unusedSimpArgs false
namespace Go.Proofs.Ytldhpecpmgjihaa
open Go.RowKit Sc
namespace Sc
/-- An item out of four bytes. -/
def itOf (a b c d : UInt8) : It := ⟨(a.toNat : Int), (b.toNat : Int), (c.toNat : Int), (d.toNat : Int)⟩
/-- The right ones of a list of bytes. -/
def parseB (n : Int) : List UInt8 → List It
  | a :: b :: c :: d :: r => (if rightU (itOf a b c d) n then [itOf a b c d] else []) ++ parseB n r
  | _ => []
theorem parseB_cons (n : Int) (a b c d : UInt8) (r : List UInt8) : parseB n (a :: b :: c :: d :: r) = (if rightU (itOf a b c d) n then [itOf a b c d] else []) ++ parseB n r := by rw [parseB]
theorem parseB_bytes (n : Int) (x : It) (r : List UInt8) (h : rightU x n = true) : parseB n (bytesU x ++ r) = x :: parseB n r := by
  have h' : x.Right n := of_decide_eq_true h
  unfold It.Right at h'
  have e : itOf x.k.toNat.toUInt8 x.c.toNat.toUInt8 x.a.toNat.toUInt8 x.b.toNat.toUInt8 = x := by
    unfold itOf
    rw [byte_of (by omega), byte_of (by omega), byte_of (by omega), byte_of (by omega)]
  show parseB n (x.k.toNat.toUInt8 :: x.c.toNat.toUInt8 :: x.a.toNat.toUInt8 :: x.b.toNat.toUInt8 :: r) = _
  rw [parseB_cons, e, if_pos h]
  rfl
theorem parseB_snoc (n : Int) : ∀ (m : Nat) (l r : List UInt8), l.length = 4 * m → parseB n (l ++ r) = parseB n l ++ parseB n r
  | 0, l, r, h => by
    have : l = [] := List.eq_nil_of_length_eq_zero (by omega)
    subst this
    rfl
  | m + 1, l, r, h => by
    match l, h with
    | a :: b :: c :: d :: l, h =>
      have h' : l.length = 4 * m := by simp at h; omega
      show parseB n (a :: b :: c :: d :: (l ++ r)) = parseB n (a :: b :: c :: d :: l) ++ _
      rw [parseB_cons, parseB_cons, parseB_snoc n m l r h', List.append_assoc]
theorem itAt_eq (s : ByteArray) (j : Nat) (a b c d : UInt8) (h : (s.data.toList.drop (4 * j)).take 4 = [a, b, c, d]) : itAt s j = itOf a b c d := by
  have g : ∀ i (u : UInt8), i < 4 → [a, b, c, d][i]? = some u → byt s (4 * j + i) = (u.toNat : Int) := by
    intro i u hi hu
    rw [← h, List.getElem?_take, if_pos hi, List.getElem?_drop] at hu
    unfold byt
    rw [List.getD_eq_getElem?_getD, hu]
    rfl
  unfold itAt itOf
  rw [show byt s (4 * j) = _ from g 0 a (by decide) rfl, g 1 b (by decide) rfl, g 2 c (by decide) rfl, g 3 d (by decide) rfl]
theorem parseU_eq (s : ByteArray) (n : Int) (j : Nat) (h : 4 * j ≤ s.size) : parseU s n j = parseB n (s.data.toList.take (4 * j)) := by
  induction j with
  | zero => rfl
  | succ j ih =>
    have hl : s.data.toList.length = s.size := by simp
    have hlen : ((s.data.toList.drop (4 * j)).take 4).length = 4 := by simp; omega
    obtain ⟨a, b, c, d, e⟩ : ∃ a b c d, (s.data.toList.drop (4 * j)).take 4 = [a, b, c, d] := by
      match hm : (s.data.toList.drop (4 * j)).take 4, hlen with
      | [a, b, c, d], _ => exact ⟨a, b, c, d, rfl⟩
    have e2 : s.data.toList.take (4 * (j + 1)) = s.data.toList.take (4 * j) ++ [a, b, c, d] := by
      rw [← e, show 4 * (j + 1) = 4 * j + 4 by omega, List.take_add]
    rw [e2, parseB_snoc n j _ _ (by simp; omega), ← ih (by omega), parseB_cons]
    show (if rightU (itAt s j) n then _ else _) = _
    rw [itAt_eq s j a b c d e]
    by_cases hr : rightU (itOf a b c d) n = true
    · rw [if_pos hr, if_pos hr]; rfl
    · rw [if_neg hr, if_neg hr]; simp [parseB]
theorem parseB_short (n : Int) (l : List UInt8) (h : l.length < 4) : parseB n l = [] := by
  match l, h with
  | [], _ => simp [parseB]
  | [_], _ => simp [parseB]
  | [_, _], _ => simp [parseB]
  | [_, _, _], _ => simp [parseB]
theorem parseL_eq (s : ByteArray) (n : Int) : parseL s n = parseB n s.data.toList := by
  have hl : s.data.toList.length = s.size := by simp
  unfold parseL
  rw [parseU_eq s n (s.size / 4) (by omega)]
  have e : s.data.toList = s.data.toList.take (4 * (s.size / 4)) ++ s.data.toList.drop (4 * (s.size / 4)) := (List.take_append_drop _ _).symm
  have e2 := parseB_snoc n (s.size / 4) (s.data.toList.take (4 * (s.size / 4))) (s.data.toList.drop (4 * (s.size / 4))) (by simp; omega)
  rw [← e, parseB_short n (s.data.toList.drop _) (by simp; omega), List.append_nil] at e2
  exact e2.symm
/-- The right ones of items. -/
def rights (l : List It) (n : Int) : List It := l.filter (fun x => rightU x n)
theorem parse_printed (n : Int) (ys : List It) (r : List UInt8) (h : ∀ x ∈ ys, rightU x n = true) : parseB n (ys.flatMap bytesU ++ r) = ys ++ parseB n r := by
  induction ys with
  | nil => rfl
  | cons x ys ih =>
    rw [List.flatMap_cons, List.append_assoc, parseB_bytes n x _ (h x (by simp)), ih (fun z hz => h z (by simp [hz]))]
    rfl
theorem printU_eq (f : Nat → It) (n : Int) (k : Nat) : printU f n k = (rights ((List.range k).map f) n).flatMap bytesU := by
  induction k with
  | zero => rfl
  | succ k ih =>
    unfold printU
    rw [List.range_succ, List.map_append, rights, List.filter_append, List.flatMap_append, ih]
    by_cases h : rightU (f k) n = true
    · simp [h, rights]
    · simp [h, rights]
theorem range_getD (l : List It) : (List.range l.length).map (fun j => l.getD j zero) = l := by
  apply List.ext_getElem (by simp)
  intro i h1 h2
  simp [List.getD_eq_getElem?_getD, h2]
theorem printL_eq (l : List It) (n : Int) : printL l n = (rights l n).flatMap bytesU := by
  unfold printL
  rw [printU_eq, range_getD]
theorem rights_right (l : List It) (n : Int) : ∀ x ∈ rights l n, rightU x n = true := fun x hx => (List.mem_filter.1 hx).2
/-- What is printed is parsed: those that may be, in order. -/
theorem parse_print (l : List It) (n : Int) : parseL ⟨(printL l n).toArray⟩ n = rights l n := by
  rw [parseL_eq, printL_eq]
  have h := parse_printed n (rights l n) [] (rights_right l n)
  simp only [List.append_nil, parseB_short n [] (by decide)] at h
  simpa using h
/-- Bytes behind others are parsed behind them. -/
theorem parse_both (l : List It) (s : ByteArray) (n : Int) : parseL (⟨(printL l n).toArray⟩ ++ s) n = rights l n ++ parseL s n := by
  rw [parseL_eq, parseL_eq, printL_eq]
  have h := parse_printed n (rights l n) s.data.toList (rights_right l n)
  simpa using h
end Sc
end Go.Proofs.Ytldhpecpmgjihaa
