/-
  No cell of these rows narrows 'for every input' (looked for: loops, veiled, ifaces, maps, wideKeys, modest, calm, conditions, laid).
  DERIVED. THE GIVEN ROWS OF THIS SEAT. 9 by the template 'for every input the law returns true; each argument reads behind the call as it read before'; 0 by the template 'total and deterministic' (their statements: YtbmdnbjkphmmpaaTotals.lean).
  GIVEN WITH THE SEED: the statements are not yours to turn. If you find one false, say at which input.
  Laid BY PROGRAM, IN A SANDBOX (cutbox-rows.mjs): the forced cells as the released guide's own fill.sh prints them over the translation 995e8bc0c520b0f8… (all of the seat's roots in one cut). By AI agents, Wed Nov 11 2026. No macro, syntax, notation, axiom, sorry.
-/
import Derived.Test.YtbmdnbjkphmmpaaChecked
import GoSem.Claim
import GoSem.ClaimJoined
import GoSem.ClaimMapViews
import Derived.JoinedTies
import Derived.KernelRfl
namespace Go.Proofs.Ytbmdnbjkphmmpaa
/- THE CELL 'sum', in the pinned program and in every row, IS THE sha256 OF THE DUMP (.gsa) THAT YtbmdnbjkphmmpaaProg.lean LOADS. Nothing in Lean hashes anything: it is a label: what it is worth is what the hold of that sum in a sandbox is worth. -/
noncomputable def Try.pinned : Pinned := { name := "ytbmdnbjkphmmpaa", sum := "995e8bc0c520b0f8b8c08a1556c3c58fee5cbcfc14bc31753a5ef76b345cd1b7", checked := Try.checked }
namespace Rows
def none {H : Type} : Left H := { results := [], args := [] }

/-- 'buttresslaw01.WordsFields': WHATEVER THE INPUT: true; the input reads as it did. -/
def wordsFieldsSpec : ChangeSpec := { name := "wordsFields", fn := fun _ => fun
  | [d1, d2, d3] => { results := [.lit (.bool true)], args := [d1, d2, d3] }
  | _ => none }
def wordsFieldsRow : OpenClaim := { program := "ytbmdnbjkphmmpaa", sum := "995e8bc0c520b0f8b8c08a1556c3c58fee5cbcfc14bc31753a5ef76b345cd1b7", func := "buttress/buttresslaw01.WordsFields", spec := "wordsFields", inPlace := ["math/bits.Add64"], apart := false }
def WordsFieldsSaid : Prop := wordsFieldsRow.holds Try.pinned (OpenSpec.ofChange wordsFieldsSpec)

/-- ITS FALSE NEIGHBOUR: 'it returns false'. Refute it at one input. -/
def wordsFieldsWrong : ChangeSpec := { name := "wordsFields", fn := fun _ => fun
  | [d1, d2, d3] => { results := [.lit (.bool false)], args := [d1, d2, d3] }
  | _ => none }
def WordsFieldsWrongFalsely : Prop := wordsFieldsRow.holds Try.pinned (OpenSpec.ofChange wordsFieldsWrong)

/-- 'buttresslaw01.WordsUps': WHATEVER THE INPUT: true; the input reads as it did. -/
def wordsUpsSpec : ChangeSpec := { name := "wordsUps", fn := fun _ => fun
  | [d1, d2] => { results := [.lit (.bool true)], args := [d1, d2] }
  | _ => none }
def wordsUpsRow : OpenClaim := { program := "ytbmdnbjkphmmpaa", sum := "995e8bc0c520b0f8b8c08a1556c3c58fee5cbcfc14bc31753a5ef76b345cd1b7", func := "buttress/buttresslaw01.WordsUps", spec := "wordsUps", inPlace := ["math/bits.Add64"], apart := false }
def WordsUpsSaid : Prop := wordsUpsRow.holds Try.pinned (OpenSpec.ofChange wordsUpsSpec)

/-- ITS FALSE NEIGHBOUR: 'it returns false'. Refute it at one input. -/
def wordsUpsWrong : ChangeSpec := { name := "wordsUps", fn := fun _ => fun
  | [d1, d2] => { results := [.lit (.bool false)], args := [d1, d2] }
  | _ => none }
def WordsUpsWrongFalsely : Prop := wordsUpsRow.holds Try.pinned (OpenSpec.ofChange wordsUpsWrong)

/-- 'buttresslaw01.WordsSets': WHATEVER THE INPUT: true; the input reads as it did. -/
def wordsSetsSpec : ChangeSpec := { name := "wordsSets", fn := fun _ => fun
  | [d1, d2, d3] => { results := [.lit (.bool true)], args := [d1, d2, d3] }
  | _ => none }
def wordsSetsRow : OpenClaim := { program := "ytbmdnbjkphmmpaa", sum := "995e8bc0c520b0f8b8c08a1556c3c58fee5cbcfc14bc31753a5ef76b345cd1b7", func := "buttress/buttresslaw01.WordsSets", spec := "wordsSets", inPlace := ["math/bits.Add64"], apart := false }
def WordsSetsSaid : Prop := wordsSetsRow.holds Try.pinned (OpenSpec.ofChange wordsSetsSpec)

/-- ITS FALSE NEIGHBOUR: 'it returns false'. Refute it at one input. -/
def wordsSetsWrong : ChangeSpec := { name := "wordsSets", fn := fun _ => fun
  | [d1, d2, d3] => { results := [.lit (.bool false)], args := [d1, d2, d3] }
  | _ => none }
def WordsSetsWrongFalsely : Prop := wordsSetsRow.holds Try.pinned (OpenSpec.ofChange wordsSetsWrong)

/-- 'buttresslaw01.WordsBack': WHATEVER THE INPUT: true; the input reads as it did. -/
def wordsBackSpec : ChangeSpec := { name := "wordsBack", fn := fun _ => fun
  | [d1, d2, d3] => { results := [.lit (.bool true)], args := [d1, d2, d3] }
  | _ => none }
def wordsBackRow : OpenClaim := { program := "ytbmdnbjkphmmpaa", sum := "995e8bc0c520b0f8b8c08a1556c3c58fee5cbcfc14bc31753a5ef76b345cd1b7", func := "buttress/buttresslaw01.WordsBack", spec := "wordsBack", inPlace := ["math/bits.Add64"], apart := false }
def WordsBackSaid : Prop := wordsBackRow.holds Try.pinned (OpenSpec.ofChange wordsBackSpec)

/-- ITS FALSE NEIGHBOUR: 'it returns false'. Refute it at one input. -/
def wordsBackWrong : ChangeSpec := { name := "wordsBack", fn := fun _ => fun
  | [d1, d2, d3] => { results := [.lit (.bool false)], args := [d1, d2, d3] }
  | _ => none }
def WordsBackWrongFalsely : Prop := wordsBackRow.holds Try.pinned (OpenSpec.ofChange wordsBackWrong)

/-- 'buttresslaw01.WordsTop': WHATEVER THE INPUT: true; the input reads as it did. -/
def wordsTopSpec : ChangeSpec := { name := "wordsTop", fn := fun _ => fun
  | [d1, d2] => { results := [.lit (.bool true)], args := [d1, d2] }
  | _ => none }
def wordsTopRow : OpenClaim := { program := "ytbmdnbjkphmmpaa", sum := "995e8bc0c520b0f8b8c08a1556c3c58fee5cbcfc14bc31753a5ef76b345cd1b7", func := "buttress/buttresslaw01.WordsTop", spec := "wordsTop", inPlace := ["math/bits.Add64"], apart := false }
def WordsTopSaid : Prop := wordsTopRow.holds Try.pinned (OpenSpec.ofChange wordsTopSpec)

/-- ITS FALSE NEIGHBOUR: 'it returns false'. Refute it at one input. -/
def wordsTopWrong : ChangeSpec := { name := "wordsTop", fn := fun _ => fun
  | [d1, d2] => { results := [.lit (.bool false)], args := [d1, d2] }
  | _ => none }
def WordsTopWrongFalsely : Prop := wordsTopRow.holds Try.pinned (OpenSpec.ofChange wordsTopWrong)

/-- 'buttresslaw01.WordsParts': WHATEVER THE INPUT: true; the input reads as it did. -/
def wordsPartsSpec : ChangeSpec := { name := "wordsParts", fn := fun _ => fun
  | [d1, d2] => { results := [.lit (.bool true)], args := [d1, d2] }
  | _ => none }
def wordsPartsRow : OpenClaim := { program := "ytbmdnbjkphmmpaa", sum := "995e8bc0c520b0f8b8c08a1556c3c58fee5cbcfc14bc31753a5ef76b345cd1b7", func := "buttress/buttresslaw01.WordsParts", spec := "wordsParts", inPlace := ["math/bits.Add64"], apart := false }
def WordsPartsSaid : Prop := wordsPartsRow.holds Try.pinned (OpenSpec.ofChange wordsPartsSpec)

/-- ITS FALSE NEIGHBOUR: 'it returns false'. Refute it at one input. -/
def wordsPartsWrong : ChangeSpec := { name := "wordsParts", fn := fun _ => fun
  | [d1, d2] => { results := [.lit (.bool false)], args := [d1, d2] }
  | _ => none }
def WordsPartsWrongFalsely : Prop := wordsPartsRow.holds Try.pinned (OpenSpec.ofChange wordsPartsWrong)

/-- 'buttresslaw01.WordsRounds': WHATEVER THE INPUT: true; the input reads as it did. -/
def wordsRoundsSpec : ChangeSpec := { name := "wordsRounds", fn := fun _ => fun
  | [d1, d2] => { results := [.lit (.bool true)], args := [d1, d2] }
  | _ => none }
def wordsRoundsRow : OpenClaim := { program := "ytbmdnbjkphmmpaa", sum := "995e8bc0c520b0f8b8c08a1556c3c58fee5cbcfc14bc31753a5ef76b345cd1b7", func := "buttress/buttresslaw01.WordsRounds", spec := "wordsRounds", inPlace := ["math/bits.Add64"], apart := false }
def WordsRoundsSaid : Prop := wordsRoundsRow.holds Try.pinned (OpenSpec.ofChange wordsRoundsSpec)

/-- ITS FALSE NEIGHBOUR: 'it returns false'. Refute it at one input. -/
def wordsRoundsWrong : ChangeSpec := { name := "wordsRounds", fn := fun _ => fun
  | [d1, d2] => { results := [.lit (.bool false)], args := [d1, d2] }
  | _ => none }
def WordsRoundsWrongFalsely : Prop := wordsRoundsRow.holds Try.pinned (OpenSpec.ofChange wordsRoundsWrong)

/-- 'buttresslaw01.WordsRefuses': WHATEVER THE INPUT: true; the input reads as it did. -/
def wordsRefusesSpec : ChangeSpec := { name := "wordsRefuses", fn := fun _ => fun
  | [d1, d2, d3] => { results := [.lit (.bool true)], args := [d1, d2, d3] }
  | _ => none }
def wordsRefusesRow : OpenClaim := { program := "ytbmdnbjkphmmpaa", sum := "995e8bc0c520b0f8b8c08a1556c3c58fee5cbcfc14bc31753a5ef76b345cd1b7", func := "buttress/buttresslaw01.WordsRefuses", spec := "wordsRefuses", inPlace := ["math/bits.Add64"], apart := false }
def WordsRefusesSaid : Prop := wordsRefusesRow.holds Try.pinned (OpenSpec.ofChange wordsRefusesSpec)

/-- ITS FALSE NEIGHBOUR: 'it returns false'. Refute it at one input. -/
def wordsRefusesWrong : ChangeSpec := { name := "wordsRefuses", fn := fun _ => fun
  | [d1, d2, d3] => { results := [.lit (.bool false)], args := [d1, d2, d3] }
  | _ => none }
def WordsRefusesWrongFalsely : Prop := wordsRefusesRow.holds Try.pinned (OpenSpec.ofChange wordsRefusesWrong)

/-- 'buttresslaw01.WordsTwice': WHATEVER THE INPUT: true; the input reads as it did. -/
def wordsTwiceSpec : ChangeSpec := { name := "wordsTwice", fn := fun _ => fun
  | [d1, d2, d3] => { results := [.lit (.bool true)], args := [d1, d2, d3] }
  | _ => none }
def wordsTwiceRow : OpenClaim := { program := "ytbmdnbjkphmmpaa", sum := "995e8bc0c520b0f8b8c08a1556c3c58fee5cbcfc14bc31753a5ef76b345cd1b7", func := "buttress/buttresslaw01.WordsTwice", spec := "wordsTwice", inPlace := ["math/bits.Add64"], apart := false }
def WordsTwiceSaid : Prop := wordsTwiceRow.holds Try.pinned (OpenSpec.ofChange wordsTwiceSpec)

/-- ITS FALSE NEIGHBOUR: 'it returns false'. Refute it at one input. -/
def wordsTwiceWrong : ChangeSpec := { name := "wordsTwice", fn := fun _ => fun
  | [d1, d2, d3] => { results := [.lit (.bool false)], args := [d1, d2, d3] }
  | _ => none }
def WordsTwiceWrongFalsely : Prop := wordsTwiceRow.holds Try.pinned (OpenSpec.ofChange wordsTwiceWrong)

/- THE SECOND FORM. 'bulk': how many values and letters a reading holds, each counted each time it is reached (what is shared counts as often as it is met; a slice's spare places count too). A statement '..UptoSaid' is the law's where the arguments, and the package variables that the reading takes, are together of bulk at most 1048576: NARROWER than '..Said'. Prove '..Said' where nothing that the law and all that it calls make is longer than what came in: it says more and counts as full. Else prove '..UptoSaid'. A law counts once. -/
mutual
def uptoBulk {H : Type} : DataW H → Nat
  | .lit (.string bytes) => bytes.length + 1
  | .lit _ => 1
  | .nil => 1
  | .ptr d => uptoBulk d + 1
  | .slice elems spare => uptoBulkAll elems + uptoBulkAll spare + 1
  | .agg parts => uptoBulkAll parts + 1
  | .iface _ d => uptoBulk d + 1
  | .map entries => uptoBulkEntries entries + 1
  | .held _ => 1
def uptoBulkAll {H : Type} : List (DataW H) → Nat
  | [] => 0
  | d :: r => uptoBulk d + uptoBulkAll r
def uptoBulkEntries {H : Type} : List (Lit × DataW H) → Nat
  | [] => 0
  | x :: r => uptoBulkEntry x + uptoBulkEntries r
def uptoBulkEntry {H : Type} : Lit × DataW H → Nat
  | (.string bytes, d) => bytes.length + uptoBulk d + 1
  | (_, d) => uptoBulk d + 1
 end
def uptoSmall : (H : Type) → List (DataW H) → Bool := fun _ ds => decide (uptoBulkAll ds ≤ 1048576)
def OpenSpec.upto (s : _root_.Go.ChangeSpec) : _root_.Go.OpenSpec := { _root_.Go.OpenSpec.ofChange s with cond := some uptoSmall }

/-- 'buttresslaw01.WordsFields', WHERE WHAT IT READS IS OF BULK AT MOST 1048576: true; the input reads as it did. -/
def wordsFieldsUptoRow : OpenClaim := { program := "ytbmdnbjkphmmpaa", sum := "995e8bc0c520b0f8b8c08a1556c3c58fee5cbcfc14bc31753a5ef76b345cd1b7", func := "buttress/buttresslaw01.WordsFields", spec := "wordsFields", inPlace := ["math/bits.Add64"], apart := false, narrowed := true }
def WordsFieldsUptoSaid : Prop := wordsFieldsUptoRow.holds Try.pinned (OpenSpec.upto wordsFieldsSpec)

/-- 'buttresslaw01.WordsUps', WHERE WHAT IT READS IS OF BULK AT MOST 1048576: true; the input reads as it did. -/
def wordsUpsUptoRow : OpenClaim := { program := "ytbmdnbjkphmmpaa", sum := "995e8bc0c520b0f8b8c08a1556c3c58fee5cbcfc14bc31753a5ef76b345cd1b7", func := "buttress/buttresslaw01.WordsUps", spec := "wordsUps", inPlace := ["math/bits.Add64"], apart := false, narrowed := true }
def WordsUpsUptoSaid : Prop := wordsUpsUptoRow.holds Try.pinned (OpenSpec.upto wordsUpsSpec)

/-- 'buttresslaw01.WordsSets', WHERE WHAT IT READS IS OF BULK AT MOST 1048576: true; the input reads as it did. -/
def wordsSetsUptoRow : OpenClaim := { program := "ytbmdnbjkphmmpaa", sum := "995e8bc0c520b0f8b8c08a1556c3c58fee5cbcfc14bc31753a5ef76b345cd1b7", func := "buttress/buttresslaw01.WordsSets", spec := "wordsSets", inPlace := ["math/bits.Add64"], apart := false, narrowed := true }
def WordsSetsUptoSaid : Prop := wordsSetsUptoRow.holds Try.pinned (OpenSpec.upto wordsSetsSpec)

/-- 'buttresslaw01.WordsBack', WHERE WHAT IT READS IS OF BULK AT MOST 1048576: true; the input reads as it did. -/
def wordsBackUptoRow : OpenClaim := { program := "ytbmdnbjkphmmpaa", sum := "995e8bc0c520b0f8b8c08a1556c3c58fee5cbcfc14bc31753a5ef76b345cd1b7", func := "buttress/buttresslaw01.WordsBack", spec := "wordsBack", inPlace := ["math/bits.Add64"], apart := false, narrowed := true }
def WordsBackUptoSaid : Prop := wordsBackUptoRow.holds Try.pinned (OpenSpec.upto wordsBackSpec)

/-- 'buttresslaw01.WordsTop', WHERE WHAT IT READS IS OF BULK AT MOST 1048576: true; the input reads as it did. -/
def wordsTopUptoRow : OpenClaim := { program := "ytbmdnbjkphmmpaa", sum := "995e8bc0c520b0f8b8c08a1556c3c58fee5cbcfc14bc31753a5ef76b345cd1b7", func := "buttress/buttresslaw01.WordsTop", spec := "wordsTop", inPlace := ["math/bits.Add64"], apart := false, narrowed := true }
def WordsTopUptoSaid : Prop := wordsTopUptoRow.holds Try.pinned (OpenSpec.upto wordsTopSpec)

/-- 'buttresslaw01.WordsParts', WHERE WHAT IT READS IS OF BULK AT MOST 1048576: true; the input reads as it did. -/
def wordsPartsUptoRow : OpenClaim := { program := "ytbmdnbjkphmmpaa", sum := "995e8bc0c520b0f8b8c08a1556c3c58fee5cbcfc14bc31753a5ef76b345cd1b7", func := "buttress/buttresslaw01.WordsParts", spec := "wordsParts", inPlace := ["math/bits.Add64"], apart := false, narrowed := true }
def WordsPartsUptoSaid : Prop := wordsPartsUptoRow.holds Try.pinned (OpenSpec.upto wordsPartsSpec)

/-- 'buttresslaw01.WordsRounds', WHERE WHAT IT READS IS OF BULK AT MOST 1048576: true; the input reads as it did. -/
def wordsRoundsUptoRow : OpenClaim := { program := "ytbmdnbjkphmmpaa", sum := "995e8bc0c520b0f8b8c08a1556c3c58fee5cbcfc14bc31753a5ef76b345cd1b7", func := "buttress/buttresslaw01.WordsRounds", spec := "wordsRounds", inPlace := ["math/bits.Add64"], apart := false, narrowed := true }
def WordsRoundsUptoSaid : Prop := wordsRoundsUptoRow.holds Try.pinned (OpenSpec.upto wordsRoundsSpec)

/-- 'buttresslaw01.WordsRefuses', WHERE WHAT IT READS IS OF BULK AT MOST 1048576: true; the input reads as it did. -/
def wordsRefusesUptoRow : OpenClaim := { program := "ytbmdnbjkphmmpaa", sum := "995e8bc0c520b0f8b8c08a1556c3c58fee5cbcfc14bc31753a5ef76b345cd1b7", func := "buttress/buttresslaw01.WordsRefuses", spec := "wordsRefuses", inPlace := ["math/bits.Add64"], apart := false, narrowed := true }
def WordsRefusesUptoSaid : Prop := wordsRefusesUptoRow.holds Try.pinned (OpenSpec.upto wordsRefusesSpec)

/-- 'buttresslaw01.WordsTwice', WHERE WHAT IT READS IS OF BULK AT MOST 1048576: true; the input reads as it did. -/
def wordsTwiceUptoRow : OpenClaim := { program := "ytbmdnbjkphmmpaa", sum := "995e8bc0c520b0f8b8c08a1556c3c58fee5cbcfc14bc31753a5ef76b345cd1b7", func := "buttress/buttresslaw01.WordsTwice", spec := "wordsTwice", inPlace := ["math/bits.Add64"], apart := false, narrowed := true }
def WordsTwiceUptoSaid : Prop := wordsTwiceUptoRow.holds Try.pinned (OpenSpec.upto wordsTwiceSpec)

end Rows
end Go.Proofs.Ytbmdnbjkphmmpaa
