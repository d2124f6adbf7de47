/-
  No cell of these rows narrows 'for every input' (looked for: loops, veiled, ifaces, maps, wideKeys, modest, calm, conditions, laid).
  DERIVED. THE GIVEN ROWS OF THIS SEAT. 7 by the template 'for every input the law returns true; each argument reads behind the call as it read before'; 0 by the template 'total and deterministic' (their statements: YtbgcgbelejmjiaaTotals.lean).
  GIVEN WITH THE SEED: the statements are not yours to turn. If you find one false, say at which input.
  Laid BY PROGRAM, IN A SANDBOX (cutbox-rows.mjs): the forced cells as the released guide's own fill.sh prints them over the translation 8b0f9def4f719c23… (all of the seat's roots in one cut). By AI agents, Wed Nov 11 2026. No macro, syntax, notation, axiom, sorry.
-/
import Derived.Test.YtbgcgbelejmjiaaChecked
import GoSem.Claim
import GoSem.ClaimJoined
import GoSem.ClaimMapViews
import Derived.JoinedTies
import Derived.KernelRfl
namespace Go.Proofs.Ytbgcgbelejmjiaa
/- THE CELL 'sum', in the pinned program and in every row, IS THE sha256 OF THE DUMP (.gsa) THAT YtbgcgbelejmjiaaProg.lean LOADS. Nothing in Lean hashes anything: it is a label: what it is worth is what the hold of that sum in a sandbox is worth. -/
noncomputable def Try.pinned : Pinned := { name := "ytbgcgbelejmjiaa", sum := "8b0f9def4f719c23b879c336a685bdeefa73f1a6432d54ea97bf1a83412be9c8", checked := Try.checked }
namespace Rows
def none {H : Type} : Left H := { results := [], args := [] }

/-- 'buttresslaw08.UntypedPlaces': WHATEVER THE INPUT: true; the input reads as it did. -/
def untypedPlacesSpec : ChangeSpec := { name := "untypedPlaces", fn := fun _ => fun
  | [d1, d2] => { results := [.lit (.bool true)], args := [d1, d2] }
  | _ => none }
def untypedPlacesRow : OpenClaim := { program := "ytbgcgbelejmjiaa", sum := "8b0f9def4f719c23b879c336a685bdeefa73f1a6432d54ea97bf1a83412be9c8", func := "buttress/buttresslaw08.UntypedPlaces", spec := "untypedPlaces", inPlace := ["math/bits.Add64"], apart := false }
def UntypedPlacesSaid : Prop := untypedPlacesRow.holds Try.pinned (OpenSpec.ofChange untypedPlacesSpec)

/-- ITS FALSE NEIGHBOUR: 'it returns false'. Refute it at one input. -/
def untypedPlacesWrong : ChangeSpec := { name := "untypedPlaces", fn := fun _ => fun
  | [d1, d2] => { results := [.lit (.bool false)], args := [d1, d2] }
  | _ => none }
def UntypedPlacesWrongFalsely : Prop := untypedPlacesRow.holds Try.pinned (OpenSpec.ofChange untypedPlacesWrong)

/-- 'buttresslaw08.UntypedApart': WHATEVER THE INPUT: true; the input reads as it did. -/
def untypedApartSpec : ChangeSpec := { name := "untypedApart", fn := fun _ => fun
  | [d1, d2] => { results := [.lit (.bool true)], args := [d1, d2] }
  | _ => none }
def untypedApartRow : OpenClaim := { program := "ytbgcgbelejmjiaa", sum := "8b0f9def4f719c23b879c336a685bdeefa73f1a6432d54ea97bf1a83412be9c8", func := "buttress/buttresslaw08.UntypedApart", spec := "untypedApart", inPlace := ["math/bits.Add64"], apart := false }
def UntypedApartSaid : Prop := untypedApartRow.holds Try.pinned (OpenSpec.ofChange untypedApartSpec)

/-- ITS FALSE NEIGHBOUR: 'it returns false'. Refute it at one input. -/
def untypedApartWrong : ChangeSpec := { name := "untypedApart", fn := fun _ => fun
  | [d1, d2] => { results := [.lit (.bool false)], args := [d1, d2] }
  | _ => none }
def UntypedApartWrongFalsely : Prop := untypedApartRow.holds Try.pinned (OpenSpec.ofChange untypedApartWrong)

/-- 'buttresslaw08.UntypedOnes': WHATEVER THE INPUT: true; the input reads as it did. -/
def untypedOnesSpec : ChangeSpec := { name := "untypedOnes", fn := fun _ => fun
  | [d1, d2] => { results := [.lit (.bool true)], args := [d1, d2] }
  | _ => none }
def untypedOnesRow : OpenClaim := { program := "ytbgcgbelejmjiaa", sum := "8b0f9def4f719c23b879c336a685bdeefa73f1a6432d54ea97bf1a83412be9c8", func := "buttress/buttresslaw08.UntypedOnes", spec := "untypedOnes", inPlace := ["math/bits.Add64"], apart := false }
def UntypedOnesSaid : Prop := untypedOnesRow.holds Try.pinned (OpenSpec.ofChange untypedOnesSpec)

/-- ITS FALSE NEIGHBOUR: 'it returns false'. Refute it at one input. -/
def untypedOnesWrong : ChangeSpec := { name := "untypedOnes", fn := fun _ => fun
  | [d1, d2] => { results := [.lit (.bool false)], args := [d1, d2] }
  | _ => none }
def UntypedOnesWrongFalsely : Prop := untypedOnesRow.holds Try.pinned (OpenSpec.ofChange untypedOnesWrong)

/-- 'buttresslaw08.UntypedSizes': WHATEVER THE INPUT: true; the input reads as it did. -/
def untypedSizesSpec : ChangeSpec := { name := "untypedSizes", fn := fun _ => fun
  | [d1, d2, d3] => { results := [.lit (.bool true)], args := [d1, d2, d3] }
  | _ => none }
def untypedSizesRow : OpenClaim := { program := "ytbgcgbelejmjiaa", sum := "8b0f9def4f719c23b879c336a685bdeefa73f1a6432d54ea97bf1a83412be9c8", func := "buttress/buttresslaw08.UntypedSizes", spec := "untypedSizes", inPlace := ["math/bits.Add64"], apart := false }
def UntypedSizesSaid : Prop := untypedSizesRow.holds Try.pinned (OpenSpec.ofChange untypedSizesSpec)

/-- ITS FALSE NEIGHBOUR: 'it returns false'. Refute it at one input. -/
def untypedSizesWrong : ChangeSpec := { name := "untypedSizes", fn := fun _ => fun
  | [d1, d2, d3] => { results := [.lit (.bool false)], args := [d1, d2, d3] }
  | _ => none }
def UntypedSizesWrongFalsely : Prop := untypedSizesRow.holds Try.pinned (OpenSpec.ofChange untypedSizesWrong)

/-- 'buttresslaw08.UntypedResets': WHATEVER THE INPUT: true; the input reads as it did. -/
def untypedResetsSpec : ChangeSpec := { name := "untypedResets", fn := fun _ => fun
  | [d1, d2] => { results := [.lit (.bool true)], args := [d1, d2] }
  | _ => none }
def untypedResetsRow : OpenClaim := { program := "ytbgcgbelejmjiaa", sum := "8b0f9def4f719c23b879c336a685bdeefa73f1a6432d54ea97bf1a83412be9c8", func := "buttress/buttresslaw08.UntypedResets", spec := "untypedResets", inPlace := ["math/bits.Add64"], apart := false }
def UntypedResetsSaid : Prop := untypedResetsRow.holds Try.pinned (OpenSpec.ofChange untypedResetsSpec)

/-- ITS FALSE NEIGHBOUR: 'it returns false'. Refute it at one input. -/
def untypedResetsWrong : ChangeSpec := { name := "untypedResets", fn := fun _ => fun
  | [d1, d2] => { results := [.lit (.bool false)], args := [d1, d2] }
  | _ => none }
def UntypedResetsWrongFalsely : Prop := untypedResetsRow.holds Try.pinned (OpenSpec.ofChange untypedResetsWrong)

/-- 'buttresslaw08.UntypedFull': WHATEVER THE INPUT: true; the input reads as it did. -/
def untypedFullSpec : ChangeSpec := { name := "untypedFull", fn := fun _ => fun
  | [d1, d2] => { results := [.lit (.bool true)], args := [d1, d2] }
  | _ => none }
def untypedFullRow : OpenClaim := { program := "ytbgcgbelejmjiaa", sum := "8b0f9def4f719c23b879c336a685bdeefa73f1a6432d54ea97bf1a83412be9c8", func := "buttress/buttresslaw08.UntypedFull", spec := "untypedFull", inPlace := ["math/bits.Add64"], apart := false }
def UntypedFullSaid : Prop := untypedFullRow.holds Try.pinned (OpenSpec.ofChange untypedFullSpec)

/-- ITS FALSE NEIGHBOUR: 'it returns false'. Refute it at one input. -/
def untypedFullWrong : ChangeSpec := { name := "untypedFull", fn := fun _ => fun
  | [d1, d2] => { results := [.lit (.bool false)], args := [d1, d2] }
  | _ => none }
def UntypedFullWrongFalsely : Prop := untypedFullRow.holds Try.pinned (OpenSpec.ofChange untypedFullWrong)

/-- 'buttresslaw08.UntypedChecks': WHATEVER THE INPUT: true; the input reads as it did. -/
def untypedChecksSpec : ChangeSpec := { name := "untypedChecks", fn := fun _ => fun
  | [d1, d2, d3] => { results := [.lit (.bool true)], args := [d1, d2, d3] }
  | _ => none }
def untypedChecksRow : OpenClaim := { program := "ytbgcgbelejmjiaa", sum := "8b0f9def4f719c23b879c336a685bdeefa73f1a6432d54ea97bf1a83412be9c8", func := "buttress/buttresslaw08.UntypedChecks", spec := "untypedChecks", inPlace := ["math/bits.Add64"], apart := false }
def UntypedChecksSaid : Prop := untypedChecksRow.holds Try.pinned (OpenSpec.ofChange untypedChecksSpec)

/-- ITS FALSE NEIGHBOUR: 'it returns false'. Refute it at one input. -/
def untypedChecksWrong : ChangeSpec := { name := "untypedChecks", fn := fun _ => fun
  | [d1, d2, d3] => { results := [.lit (.bool false)], args := [d1, d2, d3] }
  | _ => none }
def UntypedChecksWrongFalsely : Prop := untypedChecksRow.holds Try.pinned (OpenSpec.ofChange untypedChecksWrong)

/- THE SECOND FORM. 'bulk': how many values and letters a reading holds, each counted each time it is reached (what is shared counts as often as it is met; a slice's spare places count too). A statement '..UptoSaid' is the law's where the arguments, and the package variables that the reading takes, are together of bulk at most 1048576: NARROWER than '..Said'. Prove '..Said' where nothing that the law and all that it calls make is longer than what came in: it says more and counts as full. Else prove '..UptoSaid'. A law counts once. -/
mutual
def uptoBulk {H : Type} : DataW H → Nat
  | .lit (.string bytes) => bytes.length + 1
  | .lit _ => 1
  | .nil => 1
  | .ptr d => uptoBulk d + 1
  | .slice elems spare => uptoBulkAll elems + uptoBulkAll spare + 1
  | .agg parts => uptoBulkAll parts + 1
  | .iface _ d => uptoBulk d + 1
  | .map entries => uptoBulkEntries entries + 1
  | .held _ => 1
def uptoBulkAll {H : Type} : List (DataW H) → Nat
  | [] => 0
  | d :: r => uptoBulk d + uptoBulkAll r
def uptoBulkEntries {H : Type} : List (Lit × DataW H) → Nat
  | [] => 0
  | x :: r => uptoBulkEntry x + uptoBulkEntries r
def uptoBulkEntry {H : Type} : Lit × DataW H → Nat
  | (.string bytes, d) => bytes.length + uptoBulk d + 1
  | (_, d) => uptoBulk d + 1
 end
def uptoSmall : (H : Type) → List (DataW H) → Bool := fun _ ds => decide (uptoBulkAll ds ≤ 1048576)
def OpenSpec.upto (s : _root_.Go.ChangeSpec) : _root_.Go.OpenSpec := { _root_.Go.OpenSpec.ofChange s with cond := some uptoSmall }

/-- 'buttresslaw08.UntypedPlaces', WHERE WHAT IT READS IS OF BULK AT MOST 1048576: true; the input reads as it did. -/
def untypedPlacesUptoRow : OpenClaim := { program := "ytbgcgbelejmjiaa", sum := "8b0f9def4f719c23b879c336a685bdeefa73f1a6432d54ea97bf1a83412be9c8", func := "buttress/buttresslaw08.UntypedPlaces", spec := "untypedPlaces", inPlace := ["math/bits.Add64"], apart := false, narrowed := true }
def UntypedPlacesUptoSaid : Prop := untypedPlacesUptoRow.holds Try.pinned (OpenSpec.upto untypedPlacesSpec)

/-- 'buttresslaw08.UntypedApart', WHERE WHAT IT READS IS OF BULK AT MOST 1048576: true; the input reads as it did. -/
def untypedApartUptoRow : OpenClaim := { program := "ytbgcgbelejmjiaa", sum := "8b0f9def4f719c23b879c336a685bdeefa73f1a6432d54ea97bf1a83412be9c8", func := "buttress/buttresslaw08.UntypedApart", spec := "untypedApart", inPlace := ["math/bits.Add64"], apart := false, narrowed := true }
def UntypedApartUptoSaid : Prop := untypedApartUptoRow.holds Try.pinned (OpenSpec.upto untypedApartSpec)

/-- 'buttresslaw08.UntypedOnes', WHERE WHAT IT READS IS OF BULK AT MOST 1048576: true; the input reads as it did. -/
def untypedOnesUptoRow : OpenClaim := { program := "ytbgcgbelejmjiaa", sum := "8b0f9def4f719c23b879c336a685bdeefa73f1a6432d54ea97bf1a83412be9c8", func := "buttress/buttresslaw08.UntypedOnes", spec := "untypedOnes", inPlace := ["math/bits.Add64"], apart := false, narrowed := true }
def UntypedOnesUptoSaid : Prop := untypedOnesUptoRow.holds Try.pinned (OpenSpec.upto untypedOnesSpec)

/-- 'buttresslaw08.UntypedSizes', WHERE WHAT IT READS IS OF BULK AT MOST 1048576: true; the input reads as it did. -/
def untypedSizesUptoRow : OpenClaim := { program := "ytbgcgbelejmjiaa", sum := "8b0f9def4f719c23b879c336a685bdeefa73f1a6432d54ea97bf1a83412be9c8", func := "buttress/buttresslaw08.UntypedSizes", spec := "untypedSizes", inPlace := ["math/bits.Add64"], apart := false, narrowed := true }
def UntypedSizesUptoSaid : Prop := untypedSizesUptoRow.holds Try.pinned (OpenSpec.upto untypedSizesSpec)

/-- 'buttresslaw08.UntypedResets', WHERE WHAT IT READS IS OF BULK AT MOST 1048576: true; the input reads as it did. -/
def untypedResetsUptoRow : OpenClaim := { program := "ytbgcgbelejmjiaa", sum := "8b0f9def4f719c23b879c336a685bdeefa73f1a6432d54ea97bf1a83412be9c8", func := "buttress/buttresslaw08.UntypedResets", spec := "untypedResets", inPlace := ["math/bits.Add64"], apart := false, narrowed := true }
def UntypedResetsUptoSaid : Prop := untypedResetsUptoRow.holds Try.pinned (OpenSpec.upto untypedResetsSpec)

/-- 'buttresslaw08.UntypedFull', WHERE WHAT IT READS IS OF BULK AT MOST 1048576: true; the input reads as it did. -/
def untypedFullUptoRow : OpenClaim := { program := "ytbgcgbelejmjiaa", sum := "8b0f9def4f719c23b879c336a685bdeefa73f1a6432d54ea97bf1a83412be9c8", func := "buttress/buttresslaw08.UntypedFull", spec := "untypedFull", inPlace := ["math/bits.Add64"], apart := false, narrowed := true }
def UntypedFullUptoSaid : Prop := untypedFullUptoRow.holds Try.pinned (OpenSpec.upto untypedFullSpec)

/-- 'buttresslaw08.UntypedChecks', WHERE WHAT IT READS IS OF BULK AT MOST 1048576: true; the input reads as it did. -/
def untypedChecksUptoRow : OpenClaim := { program := "ytbgcgbelejmjiaa", sum := "8b0f9def4f719c23b879c336a685bdeefa73f1a6432d54ea97bf1a83412be9c8", func := "buttress/buttresslaw08.UntypedChecks", spec := "untypedChecks", inPlace := ["math/bits.Add64"], apart := false, narrowed := true }
def UntypedChecksUptoSaid : Prop := untypedChecksUptoRow.holds Try.pinned (OpenSpec.upto untypedChecksSpec)

end Rows
end Go.Proofs.Ytbgcgbelejmjiaa
