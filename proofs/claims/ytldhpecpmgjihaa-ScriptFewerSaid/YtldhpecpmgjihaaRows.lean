/-
  No cell of these rows narrows 'for every input' (looked for: loops, veiled, ifaces, maps, wideKeys, modest, calm, conditions, laid).
  DERIVED. THE GIVEN ROWS OF THIS SEAT. 7 by the template 'for every input the law returns true; each argument reads behind the call as it read before'; 0 by the template 'total and deterministic' (their statements: YtldhpecpmgjihaaTotals.lean).
  GIVEN WITH THE SEED: the statements are not yours to turn. If you find one false, say at which input.
  Laid BY PROGRAM, IN A SANDBOX (cutbox-rows.mjs): the forced cells as the released guide's own fill.sh prints them over the translation 22b1fd75d8408f73… (all of the seat's roots in one cut). By AI agents, Wed Nov 11 2026. No macro, syntax, notation, axiom, sorry.
-/
import Derived.Test.YtldhpecpmgjihaaChecked
import GoSem.Claim
import GoSem.ClaimJoined
import GoSem.ClaimMapViews
import Derived.JoinedTies
import Derived.KernelRfl
namespace Go.Proofs.Ytldhpecpmgjihaa
/- THE CELL 'sum', in the pinned program and in every row, IS THE sha256 OF THE DUMP (.gsa) THAT YtldhpecpmgjihaaProg.lean LOADS. Nothing in Lean hashes anything: it is a label: what it is worth is what the hold of that sum in a sandbox is worth. -/
noncomputable def Try.pinned : Pinned := { name := "ytldhpecpmgjihaa", sum := "22b1fd75d8408f7372ff4034f7860065beb15cbe4e9b35b44ec15ff03439d170", checked := Try.checked }
namespace Rows
def none {H : Type} : Left H := { results := [], args := [] }

/-- 'buttresslaw03.ScriptParses': WHATEVER THE INPUT: true; the input reads as it did. -/
def scriptParsesSpec : ChangeSpec := { name := "scriptParses", fn := fun _ => fun
  | [d1, d2] => { results := [.lit (.bool true)], args := [d1, d2] }
  | _ => none }
def scriptParsesRow : OpenClaim := { program := "ytldhpecpmgjihaa", sum := "22b1fd75d8408f7372ff4034f7860065beb15cbe4e9b35b44ec15ff03439d170", func := "buttress/buttresslaw03.ScriptParses", spec := "scriptParses", inPlace := ["internal/abi.NoEscape"], unfollowed := true, recurses := true, apart := false }
def ScriptParsesSaid : Prop := scriptParsesRow.holds Try.pinned (OpenSpec.ofChange scriptParsesSpec)

/-- ITS FALSE NEIGHBOUR: 'it returns false'. Refute it at one input. -/
def scriptParsesWrong : ChangeSpec := { name := "scriptParses", fn := fun _ => fun
  | [d1, d2] => { results := [.lit (.bool false)], args := [d1, d2] }
  | _ => none }
def ScriptParsesWrongFalsely : Prop := scriptParsesRow.holds Try.pinned (OpenSpec.ofChange scriptParsesWrong)

/-- 'buttresslaw03.ScriptPrints': WHATEVER THE INPUT: true; the input reads as it did. -/
def scriptPrintsSpec : ChangeSpec := { name := "scriptPrints", fn := fun _ => fun
  | [d1, d2] => { results := [.lit (.bool true)], args := [d1, d2] }
  | _ => none }
def scriptPrintsRow : OpenClaim := { program := "ytldhpecpmgjihaa", sum := "22b1fd75d8408f7372ff4034f7860065beb15cbe4e9b35b44ec15ff03439d170", func := "buttress/buttresslaw03.ScriptPrints", spec := "scriptPrints", inPlace := ["internal/abi.NoEscape"], unfollowed := true, recurses := true, apart := false }
def ScriptPrintsSaid : Prop := scriptPrintsRow.holds Try.pinned (OpenSpec.ofChange scriptPrintsSpec)

/-- ITS FALSE NEIGHBOUR: 'it returns false'. Refute it at one input. -/
def scriptPrintsWrong : ChangeSpec := { name := "scriptPrints", fn := fun _ => fun
  | [d1, d2] => { results := [.lit (.bool false)], args := [d1, d2] }
  | _ => none }
def ScriptPrintsWrongFalsely : Prop := scriptPrintsRow.holds Try.pinned (OpenSpec.ofChange scriptPrintsWrong)

/-- 'buttresslaw03.ScriptBack': WHATEVER THE INPUT: true; the input reads as it did. -/
def scriptBackSpec : ChangeSpec := { name := "scriptBack", fn := fun _ => fun
  | [d1, d2, d3] => { results := [.lit (.bool true)], args := [d1, d2, d3] }
  | _ => none }
def scriptBackRow : OpenClaim := { program := "ytldhpecpmgjihaa", sum := "22b1fd75d8408f7372ff4034f7860065beb15cbe4e9b35b44ec15ff03439d170", func := "buttress/buttresslaw03.ScriptBack", spec := "scriptBack", inPlace := ["internal/abi.NoEscape"], unfollowed := true, recurses := true, apart := false }
def ScriptBackSaid : Prop := scriptBackRow.holds Try.pinned (OpenSpec.ofChange scriptBackSpec)

/-- ITS FALSE NEIGHBOUR: 'it returns false'. Refute it at one input. -/
def scriptBackWrong : ChangeSpec := { name := "scriptBack", fn := fun _ => fun
  | [d1, d2, d3] => { results := [.lit (.bool false)], args := [d1, d2, d3] }
  | _ => none }
def ScriptBackWrongFalsely : Prop := scriptBackRow.holds Try.pinned (OpenSpec.ofChange scriptBackWrong)

/-- 'buttresslaw03.ScriptCores': WHATEVER THE INPUT: true; the input reads as it did. -/
def scriptCoresSpec : ChangeSpec := { name := "scriptCores", fn := fun _ => fun
  | [d1, d2] => { results := [.lit (.bool true)], args := [d1, d2] }
  | _ => none }
def scriptCoresRow : OpenClaim := { program := "ytldhpecpmgjihaa", sum := "22b1fd75d8408f7372ff4034f7860065beb15cbe4e9b35b44ec15ff03439d170", func := "buttress/buttresslaw03.ScriptCores", spec := "scriptCores", inPlace := ["internal/abi.NoEscape"], unfollowed := true, recurses := true, apart := false }
def ScriptCoresSaid : Prop := scriptCoresRow.holds Try.pinned (OpenSpec.ofChange scriptCoresSpec)

/-- ITS FALSE NEIGHBOUR: 'it returns false'. Refute it at one input. -/
def scriptCoresWrong : ChangeSpec := { name := "scriptCores", fn := fun _ => fun
  | [d1, d2] => { results := [.lit (.bool false)], args := [d1, d2] }
  | _ => none }
def ScriptCoresWrongFalsely : Prop := scriptCoresRow.holds Try.pinned (OpenSpec.ofChange scriptCoresWrong)

/-- 'buttresslaw03.ScriptLength': WHATEVER THE INPUT: true; the input reads as it did. -/
def scriptLengthSpec : ChangeSpec := { name := "scriptLength", fn := fun _ => fun
  | [d1, d2] => { results := [.lit (.bool true)], args := [d1, d2] }
  | _ => none }
def scriptLengthRow : OpenClaim := { program := "ytldhpecpmgjihaa", sum := "22b1fd75d8408f7372ff4034f7860065beb15cbe4e9b35b44ec15ff03439d170", func := "buttress/buttresslaw03.ScriptLength", spec := "scriptLength", inPlace := ["internal/abi.NoEscape"], unfollowed := true, recurses := true, apart := false }
def ScriptLengthSaid : Prop := scriptLengthRow.holds Try.pinned (OpenSpec.ofChange scriptLengthSpec)

/-- ITS FALSE NEIGHBOUR: 'it returns false'. Refute it at one input. -/
def scriptLengthWrong : ChangeSpec := { name := "scriptLength", fn := fun _ => fun
  | [d1, d2] => { results := [.lit (.bool false)], args := [d1, d2] }
  | _ => none }
def ScriptLengthWrongFalsely : Prop := scriptLengthRow.holds Try.pinned (OpenSpec.ofChange scriptLengthWrong)

/-- 'buttresslaw03.ScriptOne': WHATEVER THE INPUT: true; the input reads as it did. -/
def scriptOneSpec : ChangeSpec := { name := "scriptOne", fn := fun _ => fun
  | [d1, d2] => { results := [.lit (.bool true)], args := [d1, d2] }
  | _ => none }
def scriptOneRow : OpenClaim := { program := "ytldhpecpmgjihaa", sum := "22b1fd75d8408f7372ff4034f7860065beb15cbe4e9b35b44ec15ff03439d170", func := "buttress/buttresslaw03.ScriptOne", spec := "scriptOne", inPlace := ["internal/abi.NoEscape"], unfollowed := true, recurses := true, apart := false }
def ScriptOneSaid : Prop := scriptOneRow.holds Try.pinned (OpenSpec.ofChange scriptOneSpec)

/-- ITS FALSE NEIGHBOUR: 'it returns false'. Refute it at one input. -/
def scriptOneWrong : ChangeSpec := { name := "scriptOne", fn := fun _ => fun
  | [d1, d2] => { results := [.lit (.bool false)], args := [d1, d2] }
  | _ => none }
def ScriptOneWrongFalsely : Prop := scriptOneRow.holds Try.pinned (OpenSpec.ofChange scriptOneWrong)

/-- 'buttresslaw03.ScriptFewer': WHATEVER THE INPUT: true; the input reads as it did. -/
def scriptFewerSpec : ChangeSpec := { name := "scriptFewer", fn := fun _ => fun
  | [d1, d2, d3] => { results := [.lit (.bool true)], args := [d1, d2, d3] }
  | _ => none }
def scriptFewerRow : OpenClaim := { program := "ytldhpecpmgjihaa", sum := "22b1fd75d8408f7372ff4034f7860065beb15cbe4e9b35b44ec15ff03439d170", func := "buttress/buttresslaw03.ScriptFewer", spec := "scriptFewer", inPlace := ["internal/abi.NoEscape"], unfollowed := true, recurses := true, apart := false }
def ScriptFewerSaid : Prop := scriptFewerRow.holds Try.pinned (OpenSpec.ofChange scriptFewerSpec)

/-- ITS FALSE NEIGHBOUR: 'it returns false'. Refute it at one input. -/
def scriptFewerWrong : ChangeSpec := { name := "scriptFewer", fn := fun _ => fun
  | [d1, d2, d3] => { results := [.lit (.bool false)], args := [d1, d2, d3] }
  | _ => none }
def ScriptFewerWrongFalsely : Prop := scriptFewerRow.holds Try.pinned (OpenSpec.ofChange scriptFewerWrong)

/- THE SECOND FORM. 'bulk': how many values and letters a reading holds, each counted each time it is reached (what is shared counts as often as it is met; a slice's spare places count too). A statement '..UptoSaid' is the law's where the arguments, and the package variables that the reading takes, are together of bulk at most 1048576: NARROWER than '..Said'. Prove '..Said' where nothing that the law and all that it calls make is longer than what came in: it says more and counts as full. Else prove '..UptoSaid'. A law counts once. -/
mutual
def uptoBulk {H : Type} : DataW H → Nat
  | .lit (.string bytes) => bytes.length + 1
  | .lit _ => 1
  | .nil => 1
  | .ptr d => uptoBulk d + 1
  | .slice elems spare => uptoBulkAll elems + uptoBulkAll spare + 1
  | .agg parts => uptoBulkAll parts + 1
  | .iface _ d => uptoBulk d + 1
  | .map entries => uptoBulkEntries entries + 1
  | .held _ => 1
def uptoBulkAll {H : Type} : List (DataW H) → Nat
  | [] => 0
  | d :: r => uptoBulk d + uptoBulkAll r
def uptoBulkEntries {H : Type} : List (Lit × DataW H) → Nat
  | [] => 0
  | x :: r => uptoBulkEntry x + uptoBulkEntries r
def uptoBulkEntry {H : Type} : Lit × DataW H → Nat
  | (.string bytes, d) => bytes.length + uptoBulk d + 1
  | (_, d) => uptoBulk d + 1
 end
def uptoSmall : (H : Type) → List (DataW H) → Bool := fun _ ds => decide (uptoBulkAll ds ≤ 1048576)
def OpenSpec.upto (s : _root_.Go.ChangeSpec) : _root_.Go.OpenSpec := { _root_.Go.OpenSpec.ofChange s with cond := some uptoSmall }

/-- 'buttresslaw03.ScriptParses', WHERE WHAT IT READS IS OF BULK AT MOST 1048576: true; the input reads as it did. -/
def scriptParsesUptoRow : OpenClaim := { program := "ytldhpecpmgjihaa", sum := "22b1fd75d8408f7372ff4034f7860065beb15cbe4e9b35b44ec15ff03439d170", func := "buttress/buttresslaw03.ScriptParses", spec := "scriptParses", inPlace := ["internal/abi.NoEscape"], unfollowed := true, recurses := true, apart := false, narrowed := true }
def ScriptParsesUptoSaid : Prop := scriptParsesUptoRow.holds Try.pinned (OpenSpec.upto scriptParsesSpec)

/-- 'buttresslaw03.ScriptPrints', WHERE WHAT IT READS IS OF BULK AT MOST 1048576: true; the input reads as it did. -/
def scriptPrintsUptoRow : OpenClaim := { program := "ytldhpecpmgjihaa", sum := "22b1fd75d8408f7372ff4034f7860065beb15cbe4e9b35b44ec15ff03439d170", func := "buttress/buttresslaw03.ScriptPrints", spec := "scriptPrints", inPlace := ["internal/abi.NoEscape"], unfollowed := true, recurses := true, apart := false, narrowed := true }
def ScriptPrintsUptoSaid : Prop := scriptPrintsUptoRow.holds Try.pinned (OpenSpec.upto scriptPrintsSpec)

/-- 'buttresslaw03.ScriptBack', WHERE WHAT IT READS IS OF BULK AT MOST 1048576: true; the input reads as it did. -/
def scriptBackUptoRow : OpenClaim := { program := "ytldhpecpmgjihaa", sum := "22b1fd75d8408f7372ff4034f7860065beb15cbe4e9b35b44ec15ff03439d170", func := "buttress/buttresslaw03.ScriptBack", spec := "scriptBack", inPlace := ["internal/abi.NoEscape"], unfollowed := true, recurses := true, apart := false, narrowed := true }
def ScriptBackUptoSaid : Prop := scriptBackUptoRow.holds Try.pinned (OpenSpec.upto scriptBackSpec)

/-- 'buttresslaw03.ScriptCores', WHERE WHAT IT READS IS OF BULK AT MOST 1048576: true; the input reads as it did. -/
def scriptCoresUptoRow : OpenClaim := { program := "ytldhpecpmgjihaa", sum := "22b1fd75d8408f7372ff4034f7860065beb15cbe4e9b35b44ec15ff03439d170", func := "buttress/buttresslaw03.ScriptCores", spec := "scriptCores", inPlace := ["internal/abi.NoEscape"], unfollowed := true, recurses := true, apart := false, narrowed := true }
def ScriptCoresUptoSaid : Prop := scriptCoresUptoRow.holds Try.pinned (OpenSpec.upto scriptCoresSpec)

/-- 'buttresslaw03.ScriptLength', WHERE WHAT IT READS IS OF BULK AT MOST 1048576: true; the input reads as it did. -/
def scriptLengthUptoRow : OpenClaim := { program := "ytldhpecpmgjihaa", sum := "22b1fd75d8408f7372ff4034f7860065beb15cbe4e9b35b44ec15ff03439d170", func := "buttress/buttresslaw03.ScriptLength", spec := "scriptLength", inPlace := ["internal/abi.NoEscape"], unfollowed := true, recurses := true, apart := false, narrowed := true }
def ScriptLengthUptoSaid : Prop := scriptLengthUptoRow.holds Try.pinned (OpenSpec.upto scriptLengthSpec)

/-- 'buttresslaw03.ScriptOne', WHERE WHAT IT READS IS OF BULK AT MOST 1048576: true; the input reads as it did. -/
def scriptOneUptoRow : OpenClaim := { program := "ytldhpecpmgjihaa", sum := "22b1fd75d8408f7372ff4034f7860065beb15cbe4e9b35b44ec15ff03439d170", func := "buttress/buttresslaw03.ScriptOne", spec := "scriptOne", inPlace := ["internal/abi.NoEscape"], unfollowed := true, recurses := true, apart := false, narrowed := true }
def ScriptOneUptoSaid : Prop := scriptOneUptoRow.holds Try.pinned (OpenSpec.upto scriptOneSpec)

/-- 'buttresslaw03.ScriptFewer', WHERE WHAT IT READS IS OF BULK AT MOST 1048576: true; the input reads as it did. -/
def scriptFewerUptoRow : OpenClaim := { program := "ytldhpecpmgjihaa", sum := "22b1fd75d8408f7372ff4034f7860065beb15cbe4e9b35b44ec15ff03439d170", func := "buttress/buttresslaw03.ScriptFewer", spec := "scriptFewer", inPlace := ["internal/abi.NoEscape"], unfollowed := true, recurses := true, apart := false, narrowed := true }
def ScriptFewerUptoSaid : Prop := scriptFewerUptoRow.holds Try.pinned (OpenSpec.upto scriptFewerSpec)

end Rows
end Go.Proofs.Ytldhpecpmgjihaa
