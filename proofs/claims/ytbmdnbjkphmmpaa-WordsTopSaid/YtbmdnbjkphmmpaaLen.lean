/- The contract of the library's Len64 at this translation: the shelf's own contract, laid by the kit's tool and written out. -/
import Derived.Shelf.Strconv.Itoa0
import Derived.Lib.ItoaNum
import Derived.Test.YtbmdnbjkphmmpaaProg
namespace Go.Proofs.Ytbmdnbjkphmmpaa
open Go.Shelf
def lays129_ren : Go.Shelf.Ren := ⟨fun | 129 => 33 | n => n, fun | 53 => 22 | 3 => 3 | 4 => 4 | 46 => 49 | 5 => 5 | 9 => 9 | n => n, fun | n => n⟩
theorem lays129 : Go.Proofs.Lays.n129 Try.prog lays129_ren := {
  mixed := by kernel_rfl
  f129 := Try.func33.trans (congrArg some (by kernel_rfl))
  t3 := Try.underlying3
  a3 := Try.isAgg3
  z3 := Try.sizeOf3
  v3 := Try.zeroValue3
  t4 := Try.underlying4
  a4 := Try.isAgg4
  z4 := Try.sizeOf4
  v4 := Try.zeroValue4
  t5 := Try.underlying5
  a5 := Try.isAgg5
  z5 := Try.sizeOf5
  v5 := Try.zeroValue5
  t9 := Try.underlying9
  a9 := Try.isAgg9
  z9 := Try.sizeOf9
  v9 := Try.zeroValue9
  t46 := Try.underlying49
  a46 := Try.isAgg49
  z46 := Try.sizeOf49
  v46 := Try.zeroValue49
  t53 := Try.underlying22
  a53 := Try.isAgg22
  z53 := Try.sizeOf22
  v53 := Try.zeroValue22 }
def blen (x : Nat) : Nat := Lib.bitLen x
theorem len_any (x : Nat) (hx : x < 2 ^ 64) (w : World) :
    Calls Try.prog 33 #[.int .u64 x] w fun e w' => e = .returned (.int .i64 (blen x)) ∧ w' = w := by
  have e : (2 : Nat) ^ 64 = 18446744073709551616 := by decide
  exact Any.bits_Len64 lays129 (x : Int) w (by omega) (by omega)
theorem blen_bounds (x : Nat) (hx : x < 2 ^ 64) (h0 : x ≠ 0) : 1 ≤ blen x ∧ blen x ≤ 64 ∧ 2 ^ (blen x - 1) ≤ x ∧ x < 2 ^ blen x := by
  obtain ⟨h1, h2, h3⟩ := Lib.bitLenAux_bounds 64 x hx h0
  refine ⟨h1, ?_, h2, h3⟩
  have h4 : 2 ^ (blen x - 1) < 2 ^ 64 := Nat.lt_of_le_of_lt h2 hx
  have h5 := (Nat.pow_lt_pow_iff_right (a := 2) (by decide)).1 h4
  omega
end Go.Proofs.Ytbmdnbjkphmmpaa
