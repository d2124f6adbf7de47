/-
  No cell of these rows narrows 'for every input' (looked for: loops, veiled, ifaces, maps, wideKeys, modest, calm, conditions, laid).
  DERIVED. THE GIVEN ROWS OF THIS SEAT. 8 by the template 'for every input the law returns true; each argument reads behind the call as it read before'; 0 by the template 'total and deterministic' (their statements: YthgiofgedeijoaaTotals.lean).
  GIVEN WITH THE SEED: the statements are not yours to turn. If you find one false, say at which input.
  Laid BY PROGRAM, IN A SANDBOX (cutbox-rows.mjs): the forced cells as the released guide's own fill.sh prints them over the translation 491eef132bd85b37… (all of the seat's roots in one cut). By AI agents, Wed Nov 11 2026. No macro, syntax, notation, axiom, sorry.
-/
import Derived.Test.YthgiofgedeijoaaChecked
import GoSem.Claim
import GoSem.ClaimJoined
import GoSem.ClaimMapViews
import Derived.JoinedTies
import Derived.KernelRfl
namespace Go.Proofs.Ythgiofgedeijoaa
/- THE CELL 'sum', in the pinned program and in every row, IS THE sha256 OF THE DUMP (.gsa) THAT YthgiofgedeijoaaProg.lean LOADS. Nothing in Lean hashes anything: it is a label: what it is worth is what the hold of that sum in a sandbox is worth. -/
noncomputable def Try.pinned : Pinned := { name := "ythgiofgedeijoaa", sum := "491eef132bd85b37778b0c3e027c3a7895d30e40895973cfdcf20e0354b4156a", checked := Try.checked }
namespace Rows
def none {H : Type} : Left H := { results := [], args := [] }

/-- 'buttresslaw04.CapsLess': WHATEVER THE INPUT: true; the input reads as it did. -/
def capsLessSpec : ChangeSpec := { name := "capsLess", fn := fun _ => fun
  | [d1, d2, d3] => { results := [.lit (.bool true)], args := [d1, d2, d3] }
  | _ => none }
def capsLessRow : OpenClaim := { program := "ythgiofgedeijoaa", sum := "491eef132bd85b37778b0c3e027c3a7895d30e40895973cfdcf20e0354b4156a", func := "buttress/buttresslaw04.CapsLess", spec := "capsLess", unfollowed := true, recurses := true, apart := false }
def CapsLessSaid : Prop := capsLessRow.holds Try.pinned (OpenSpec.ofChange capsLessSpec)

/-- ITS FALSE NEIGHBOUR: 'it returns false'. Refute it at one input. -/
def capsLessWrong : ChangeSpec := { name := "capsLess", fn := fun _ => fun
  | [d1, d2, d3] => { results := [.lit (.bool false)], args := [d1, d2, d3] }
  | _ => none }
def CapsLessWrongFalsely : Prop := capsLessRow.holds Try.pinned (OpenSpec.ofChange capsLessWrong)

/-- 'buttresslaw04.CapsGuards': WHATEVER THE INPUT: true; the input reads as it did. -/
def capsGuardsSpec : ChangeSpec := { name := "capsGuards", fn := fun _ => fun
  | [d1, d2, d3] => { results := [.lit (.bool true)], args := [d1, d2, d3] }
  | _ => none }
def capsGuardsRow : OpenClaim := { program := "ythgiofgedeijoaa", sum := "491eef132bd85b37778b0c3e027c3a7895d30e40895973cfdcf20e0354b4156a", func := "buttress/buttresslaw04.CapsGuards", spec := "capsGuards", unfollowed := true, recurses := true, apart := false }
def CapsGuardsSaid : Prop := capsGuardsRow.holds Try.pinned (OpenSpec.ofChange capsGuardsSpec)

/-- ITS FALSE NEIGHBOUR: 'it returns false'. Refute it at one input. -/
def capsGuardsWrong : ChangeSpec := { name := "capsGuards", fn := fun _ => fun
  | [d1, d2, d3] => { results := [.lit (.bool false)], args := [d1, d2, d3] }
  | _ => none }
def CapsGuardsWrongFalsely : Prop := capsGuardsRow.holds Try.pinned (OpenSpec.ofChange capsGuardsWrong)

/-- 'buttresslaw04.CapsMints': WHATEVER THE INPUT: true; the input reads as it did. -/
def capsMintsSpec : ChangeSpec := { name := "capsMints", fn := fun _ => fun
  | [d1, d2, d3] => { results := [.lit (.bool true)], args := [d1, d2, d3] }
  | _ => none }
def capsMintsRow : OpenClaim := { program := "ythgiofgedeijoaa", sum := "491eef132bd85b37778b0c3e027c3a7895d30e40895973cfdcf20e0354b4156a", func := "buttress/buttresslaw04.CapsMints", spec := "capsMints", unfollowed := true, recurses := true, apart := false }
def CapsMintsSaid : Prop := capsMintsRow.holds Try.pinned (OpenSpec.ofChange capsMintsSpec)

/-- ITS FALSE NEIGHBOUR: 'it returns false'. Refute it at one input. -/
def capsMintsWrong : ChangeSpec := { name := "capsMints", fn := fun _ => fun
  | [d1, d2, d3] => { results := [.lit (.bool false)], args := [d1, d2, d3] }
  | _ => none }
def CapsMintsWrongFalsely : Prop := capsMintsRow.holds Try.pinned (OpenSpec.ofChange capsMintsWrong)

/-- 'buttresslaw04.CapsPacks': WHATEVER THE INPUT: true; the input reads as it did. -/
def capsPacksSpec : ChangeSpec := { name := "capsPacks", fn := fun _ => fun
  | [d1, d2] => { results := [.lit (.bool true)], args := [d1, d2] }
  | _ => none }
def capsPacksRow : OpenClaim := { program := "ythgiofgedeijoaa", sum := "491eef132bd85b37778b0c3e027c3a7895d30e40895973cfdcf20e0354b4156a", func := "buttress/buttresslaw04.CapsPacks", spec := "capsPacks", unfollowed := true, recurses := true, apart := false }
def CapsPacksSaid : Prop := capsPacksRow.holds Try.pinned (OpenSpec.ofChange capsPacksSpec)

/-- ITS FALSE NEIGHBOUR: 'it returns false'. Refute it at one input. -/
def capsPacksWrong : ChangeSpec := { name := "capsPacks", fn := fun _ => fun
  | [d1, d2] => { results := [.lit (.bool false)], args := [d1, d2] }
  | _ => none }
def CapsPacksWrongFalsely : Prop := capsPacksRow.holds Try.pinned (OpenSpec.ofChange capsPacksWrong)

/-- 'buttresslaw04.CapsBack': WHATEVER THE INPUT: true; the input reads as it did. -/
def capsBackSpec : ChangeSpec := { name := "capsBack", fn := fun _ => fun
  | [d1, d2, d3] => { results := [.lit (.bool true)], args := [d1, d2, d3] }
  | _ => none }
def capsBackRow : OpenClaim := { program := "ythgiofgedeijoaa", sum := "491eef132bd85b37778b0c3e027c3a7895d30e40895973cfdcf20e0354b4156a", func := "buttress/buttresslaw04.CapsBack", spec := "capsBack", unfollowed := true, recurses := true, apart := false }
def CapsBackSaid : Prop := capsBackRow.holds Try.pinned (OpenSpec.ofChange capsBackSpec)

/-- ITS FALSE NEIGHBOUR: 'it returns false'. Refute it at one input. -/
def capsBackWrong : ChangeSpec := { name := "capsBack", fn := fun _ => fun
  | [d1, d2, d3] => { results := [.lit (.bool false)], args := [d1, d2, d3] }
  | _ => none }
def CapsBackWrongFalsely : Prop := capsBackRow.holds Try.pinned (OpenSpec.ofChange capsBackWrong)

/-- 'buttresslaw04.CapsDerive': WHATEVER THE INPUT: true; the input reads as it did. -/
def capsDeriveSpec : ChangeSpec := { name := "capsDerive", fn := fun _ => fun
  | [d1, d2, d3] => { results := [.lit (.bool true)], args := [d1, d2, d3] }
  | _ => none }
def capsDeriveRow : OpenClaim := { program := "ythgiofgedeijoaa", sum := "491eef132bd85b37778b0c3e027c3a7895d30e40895973cfdcf20e0354b4156a", func := "buttress/buttresslaw04.CapsDerive", spec := "capsDerive", unfollowed := true, recurses := true, apart := false }
def CapsDeriveSaid : Prop := capsDeriveRow.holds Try.pinned (OpenSpec.ofChange capsDeriveSpec)

/-- ITS FALSE NEIGHBOUR: 'it returns false'. Refute it at one input. -/
def capsDeriveWrong : ChangeSpec := { name := "capsDerive", fn := fun _ => fun
  | [d1, d2, d3] => { results := [.lit (.bool false)], args := [d1, d2, d3] }
  | _ => none }
def CapsDeriveWrongFalsely : Prop := capsDeriveRow.holds Try.pinned (OpenSpec.ofChange capsDeriveWrong)

/-- 'buttresslaw04.CapsSame': WHATEVER THE INPUT: true; the input reads as it did. -/
def capsSameSpec : ChangeSpec := { name := "capsSame", fn := fun _ => fun
  | [d1, d2, d3] => { results := [.lit (.bool true)], args := [d1, d2, d3] }
  | _ => none }
def capsSameRow : OpenClaim := { program := "ythgiofgedeijoaa", sum := "491eef132bd85b37778b0c3e027c3a7895d30e40895973cfdcf20e0354b4156a", func := "buttress/buttresslaw04.CapsSame", spec := "capsSame", unfollowed := true, recurses := true, apart := false }
def CapsSameSaid : Prop := capsSameRow.holds Try.pinned (OpenSpec.ofChange capsSameSpec)

/-- ITS FALSE NEIGHBOUR: 'it returns false'. Refute it at one input. -/
def capsSameWrong : ChangeSpec := { name := "capsSame", fn := fun _ => fun
  | [d1, d2, d3] => { results := [.lit (.bool false)], args := [d1, d2, d3] }
  | _ => none }
def CapsSameWrongFalsely : Prop := capsSameRow.holds Try.pinned (OpenSpec.ofChange capsSameWrong)

/-- 'buttresslaw04.CapsOrder': WHATEVER THE INPUT: true; the input reads as it did. -/
def capsOrderSpec : ChangeSpec := { name := "capsOrder", fn := fun _ => fun
  | [d1, d2, d3] => { results := [.lit (.bool true)], args := [d1, d2, d3] }
  | _ => none }
def capsOrderRow : OpenClaim := { program := "ythgiofgedeijoaa", sum := "491eef132bd85b37778b0c3e027c3a7895d30e40895973cfdcf20e0354b4156a", func := "buttress/buttresslaw04.CapsOrder", spec := "capsOrder", unfollowed := true, recurses := true, apart := false }
def CapsOrderSaid : Prop := capsOrderRow.holds Try.pinned (OpenSpec.ofChange capsOrderSpec)

/-- ITS FALSE NEIGHBOUR: 'it returns false'. Refute it at one input. -/
def capsOrderWrong : ChangeSpec := { name := "capsOrder", fn := fun _ => fun
  | [d1, d2, d3] => { results := [.lit (.bool false)], args := [d1, d2, d3] }
  | _ => none }
def CapsOrderWrongFalsely : Prop := capsOrderRow.holds Try.pinned (OpenSpec.ofChange capsOrderWrong)

/- THE SECOND FORM. 'bulk': how many values and letters a reading holds, each counted each time it is reached (what is shared counts as often as it is met; a slice's spare places count too). A statement '..UptoSaid' is the law's where the arguments, and the package variables that the reading takes, are together of bulk at most 1048576: NARROWER than '..Said'. Prove '..Said' where nothing that the law and all that it calls make is longer than what came in: it says more and counts as full. Else prove '..UptoSaid'. A law counts once. -/
mutual
def uptoBulk {H : Type} : DataW H → Nat
  | .lit (.string bytes) => bytes.length + 1
  | .lit _ => 1
  | .nil => 1
  | .ptr d => uptoBulk d + 1
  | .slice elems spare => uptoBulkAll elems + uptoBulkAll spare + 1
  | .agg parts => uptoBulkAll parts + 1
  | .iface _ d => uptoBulk d + 1
  | .map entries => uptoBulkEntries entries + 1
  | .held _ => 1
def uptoBulkAll {H : Type} : List (DataW H) → Nat
  | [] => 0
  | d :: r => uptoBulk d + uptoBulkAll r
def uptoBulkEntries {H : Type} : List (Lit × DataW H) → Nat
  | [] => 0
  | x :: r => uptoBulkEntry x + uptoBulkEntries r
def uptoBulkEntry {H : Type} : Lit × DataW H → Nat
  | (.string bytes, d) => bytes.length + uptoBulk d + 1
  | (_, d) => uptoBulk d + 1
 end
def uptoSmall : (H : Type) → List (DataW H) → Bool := fun _ ds => decide (uptoBulkAll ds ≤ 1048576)
def OpenSpec.upto (s : _root_.Go.ChangeSpec) : _root_.Go.OpenSpec := { _root_.Go.OpenSpec.ofChange s with cond := some uptoSmall }

/-- 'buttresslaw04.CapsLess', WHERE WHAT IT READS IS OF BULK AT MOST 1048576: true; the input reads as it did. -/
def capsLessUptoRow : OpenClaim := { program := "ythgiofgedeijoaa", sum := "491eef132bd85b37778b0c3e027c3a7895d30e40895973cfdcf20e0354b4156a", func := "buttress/buttresslaw04.CapsLess", spec := "capsLess", unfollowed := true, recurses := true, apart := false, narrowed := true }
def CapsLessUptoSaid : Prop := capsLessUptoRow.holds Try.pinned (OpenSpec.upto capsLessSpec)

/-- 'buttresslaw04.CapsGuards', WHERE WHAT IT READS IS OF BULK AT MOST 1048576: true; the input reads as it did. -/
def capsGuardsUptoRow : OpenClaim := { program := "ythgiofgedeijoaa", sum := "491eef132bd85b37778b0c3e027c3a7895d30e40895973cfdcf20e0354b4156a", func := "buttress/buttresslaw04.CapsGuards", spec := "capsGuards", unfollowed := true, recurses := true, apart := false, narrowed := true }
def CapsGuardsUptoSaid : Prop := capsGuardsUptoRow.holds Try.pinned (OpenSpec.upto capsGuardsSpec)

/-- 'buttresslaw04.CapsMints', WHERE WHAT IT READS IS OF BULK AT MOST 1048576: true; the input reads as it did. -/
def capsMintsUptoRow : OpenClaim := { program := "ythgiofgedeijoaa", sum := "491eef132bd85b37778b0c3e027c3a7895d30e40895973cfdcf20e0354b4156a", func := "buttress/buttresslaw04.CapsMints", spec := "capsMints", unfollowed := true, recurses := true, apart := false, narrowed := true }
def CapsMintsUptoSaid : Prop := capsMintsUptoRow.holds Try.pinned (OpenSpec.upto capsMintsSpec)

/-- 'buttresslaw04.CapsPacks', WHERE WHAT IT READS IS OF BULK AT MOST 1048576: true; the input reads as it did. -/
def capsPacksUptoRow : OpenClaim := { program := "ythgiofgedeijoaa", sum := "491eef132bd85b37778b0c3e027c3a7895d30e40895973cfdcf20e0354b4156a", func := "buttress/buttresslaw04.CapsPacks", spec := "capsPacks", unfollowed := true, recurses := true, apart := false, narrowed := true }
def CapsPacksUptoSaid : Prop := capsPacksUptoRow.holds Try.pinned (OpenSpec.upto capsPacksSpec)

/-- 'buttresslaw04.CapsBack', WHERE WHAT IT READS IS OF BULK AT MOST 1048576: true; the input reads as it did. -/
def capsBackUptoRow : OpenClaim := { program := "ythgiofgedeijoaa", sum := "491eef132bd85b37778b0c3e027c3a7895d30e40895973cfdcf20e0354b4156a", func := "buttress/buttresslaw04.CapsBack", spec := "capsBack", unfollowed := true, recurses := true, apart := false, narrowed := true }
def CapsBackUptoSaid : Prop := capsBackUptoRow.holds Try.pinned (OpenSpec.upto capsBackSpec)

/-- 'buttresslaw04.CapsDerive', WHERE WHAT IT READS IS OF BULK AT MOST 1048576: true; the input reads as it did. -/
def capsDeriveUptoRow : OpenClaim := { program := "ythgiofgedeijoaa", sum := "491eef132bd85b37778b0c3e027c3a7895d30e40895973cfdcf20e0354b4156a", func := "buttress/buttresslaw04.CapsDerive", spec := "capsDerive", unfollowed := true, recurses := true, apart := false, narrowed := true }
def CapsDeriveUptoSaid : Prop := capsDeriveUptoRow.holds Try.pinned (OpenSpec.upto capsDeriveSpec)

/-- 'buttresslaw04.CapsSame', WHERE WHAT IT READS IS OF BULK AT MOST 1048576: true; the input reads as it did. -/
def capsSameUptoRow : OpenClaim := { program := "ythgiofgedeijoaa", sum := "491eef132bd85b37778b0c3e027c3a7895d30e40895973cfdcf20e0354b4156a", func := "buttress/buttresslaw04.CapsSame", spec := "capsSame", unfollowed := true, recurses := true, apart := false, narrowed := true }
def CapsSameUptoSaid : Prop := capsSameUptoRow.holds Try.pinned (OpenSpec.upto capsSameSpec)

/-- 'buttresslaw04.CapsOrder', WHERE WHAT IT READS IS OF BULK AT MOST 1048576: true; the input reads as it did. -/
def capsOrderUptoRow : OpenClaim := { program := "ythgiofgedeijoaa", sum := "491eef132bd85b37778b0c3e027c3a7895d30e40895973cfdcf20e0354b4156a", func := "buttress/buttresslaw04.CapsOrder", spec := "capsOrder", unfollowed := true, recurses := true, apart := false, narrowed := true }
def CapsOrderUptoSaid : Prop := capsOrderUptoRow.holds Try.pinned (OpenSpec.upto capsOrderSpec)

end Rows
end Go.Proofs.Ythgiofgedeijoaa
