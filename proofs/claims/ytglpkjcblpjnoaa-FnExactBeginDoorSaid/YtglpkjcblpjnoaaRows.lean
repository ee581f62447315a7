/-
  No cell of these rows narrows 'for every input' (looked for: loops, veiled, ifaces, maps, wideKeys, modest, calm, conditions, laid).
  DERIVED. THE GIVEN ROWS OF THIS SEAT. 10 by the template 'for every input the law returns true; each argument reads behind the call as it read before'; 0 by the template 'total and deterministic' (their statements: YtglpkjcblpjnoaaTotals.lean).
  GIVEN WITH THE SEED: the statements are not yours to turn. If you find one false, say at which input.
  Laid BY PROGRAM, IN A SANDBOX (cutbox-rows.mjs): the forced cells as the released guide's own fill.sh prints them over the translation 4ba942ac1487ac5e… (all of the seat's roots in one cut). By AI agents, Wed Nov 11 2026. No macro, syntax, notation, axiom, sorry.
-/
import Derived.Test.YtglpkjcblpjnoaaChecked
import GoSem.Claim
import GoSem.ClaimJoined
import GoSem.ClaimMapViews
import Derived.JoinedTies
import Derived.KernelRfl
namespace Go.Proofs.Ytglpkjcblpjnoaa
/- THE CELL 'sum', in the pinned program and in every row, IS THE sha256 OF THE DUMP (.gsa) THAT YtglpkjcblpjnoaaProg.lean LOADS. Nothing in Lean hashes anything: it is a label: what it is worth is what the hold of that sum in a sandbox is worth. -/
noncomputable def Try.pinned : Pinned := { name := "ytglpkjcblpjnoaa", sum := "4ba942ac1487ac5efdf648d18dbed2cf83e61e350ab00d0b6bf0730f2201309a", checked := Try.checked }
namespace Rows
def none {H : Type} : Left H := { results := [], args := [] }

/-- 'laws.FnExactStepName': WHATEVER THE INPUT: true; the input reads as it did. -/
def fnExactStepNameSpec : ChangeSpec := { name := "fnExactStepName", fn := fun _ => fun
  | [d] => { results := [.lit (.bool true)], args := [d] }
  | _ => none }
def fnExactStepNameRow : OpenClaim := { program := "ytglpkjcblpjnoaa", sum := "4ba942ac1487ac5efdf648d18dbed2cf83e61e350ab00d0b6bf0730f2201309a", func := "loop.example/g03318/laws.FnExactStepName", spec := "fnExactStepName", apart := false }
def FnExactStepNameSaid : Prop := fnExactStepNameRow.holds Try.pinned (OpenSpec.ofChange fnExactStepNameSpec)

/-- ITS FALSE NEIGHBOUR: 'it returns false'. Refute it at one input. -/
def fnExactStepNameWrong : ChangeSpec := { name := "fnExactStepName", fn := fun _ => fun
  | [d] => { results := [.lit (.bool false)], args := [d] }
  | _ => none }
def FnExactStepNameWrongFalsely : Prop := fnExactStepNameRow.holds Try.pinned (OpenSpec.ofChange fnExactStepNameWrong)

/-- 'laws.FnExactVerdictName': WHATEVER THE INPUT: true; the input reads as it did. -/
def fnExactVerdictNameSpec : ChangeSpec := { name := "fnExactVerdictName", fn := fun _ => fun
  | [d] => { results := [.lit (.bool true)], args := [d] }
  | _ => none }
def fnExactVerdictNameRow : OpenClaim := { program := "ytglpkjcblpjnoaa", sum := "4ba942ac1487ac5efdf648d18dbed2cf83e61e350ab00d0b6bf0730f2201309a", func := "loop.example/g03318/laws.FnExactVerdictName", spec := "fnExactVerdictName", apart := false }
def FnExactVerdictNameSaid : Prop := fnExactVerdictNameRow.holds Try.pinned (OpenSpec.ofChange fnExactVerdictNameSpec)

/-- ITS FALSE NEIGHBOUR: 'it returns false'. Refute it at one input. -/
def fnExactVerdictNameWrong : ChangeSpec := { name := "fnExactVerdictName", fn := fun _ => fun
  | [d] => { results := [.lit (.bool false)], args := [d] }
  | _ => none }
def FnExactVerdictNameWrongFalsely : Prop := fnExactVerdictNameRow.holds Try.pinned (OpenSpec.ofChange fnExactVerdictNameWrong)

/-- 'laws.FnExactFaultsOk': WHATEVER THE INPUT: true; the input reads as it did. -/
def fnExactFaultsOkSpec : ChangeSpec := { name := "fnExactFaultsOk", fn := fun _ => fun
  | [d] => { results := [.lit (.bool true)], args := [d] }
  | _ => none }
def fnExactFaultsOkRow : OpenClaim := { program := "ytglpkjcblpjnoaa", sum := "4ba942ac1487ac5efdf648d18dbed2cf83e61e350ab00d0b6bf0730f2201309a", func := "loop.example/g03318/laws.FnExactFaultsOk", spec := "fnExactFaultsOk", apart := false }
def FnExactFaultsOkSaid : Prop := fnExactFaultsOkRow.holds Try.pinned (OpenSpec.ofChange fnExactFaultsOkSpec)

/-- ITS FALSE NEIGHBOUR: 'it returns false'. Refute it at one input. -/
def fnExactFaultsOkWrong : ChangeSpec := { name := "fnExactFaultsOk", fn := fun _ => fun
  | [d] => { results := [.lit (.bool false)], args := [d] }
  | _ => none }
def FnExactFaultsOkWrongFalsely : Prop := fnExactFaultsOkRow.holds Try.pinned (OpenSpec.ofChange fnExactFaultsOkWrong)

/-- 'laws.FnExactCountFaults': WHATEVER THE INPUT: true; the input reads as it did. -/
def fnExactCountFaultsSpec : ChangeSpec := { name := "fnExactCountFaults", fn := fun _ => fun
  | [d] => { results := [.lit (.bool true)], args := [d] }
  | _ => none }
def fnExactCountFaultsRow : OpenClaim := { program := "ytglpkjcblpjnoaa", sum := "4ba942ac1487ac5efdf648d18dbed2cf83e61e350ab00d0b6bf0730f2201309a", func := "loop.example/g03318/laws.FnExactCountFaults", spec := "fnExactCountFaults", apart := false }
def FnExactCountFaultsSaid : Prop := fnExactCountFaultsRow.holds Try.pinned (OpenSpec.ofChange fnExactCountFaultsSpec)

/-- ITS FALSE NEIGHBOUR: 'it returns false'. Refute it at one input. -/
def fnExactCountFaultsWrong : ChangeSpec := { name := "fnExactCountFaults", fn := fun _ => fun
  | [d] => { results := [.lit (.bool false)], args := [d] }
  | _ => none }
def FnExactCountFaultsWrongFalsely : Prop := fnExactCountFaultsRow.holds Try.pinned (OpenSpec.ofChange fnExactCountFaultsWrong)

/-- 'laws.FnExactVerdict': WHATEVER THE INPUT: true; the input reads as it did. -/
def fnExactVerdictSpec : ChangeSpec := { name := "fnExactVerdict", fn := fun _ => fun
  | [d1, d2] => { results := [.lit (.bool true)], args := [d1, d2] }
  | _ => none }
def fnExactVerdictRow : OpenClaim := { program := "ytglpkjcblpjnoaa", sum := "4ba942ac1487ac5efdf648d18dbed2cf83e61e350ab00d0b6bf0730f2201309a", func := "loop.example/g03318/laws.FnExactVerdict", spec := "fnExactVerdict", apart := false }
def FnExactVerdictSaid : Prop := fnExactVerdictRow.holds Try.pinned (OpenSpec.ofChange fnExactVerdictSpec)

/-- ITS FALSE NEIGHBOUR: 'it returns false'. Refute it at one input. -/
def fnExactVerdictWrong : ChangeSpec := { name := "fnExactVerdict", fn := fun _ => fun
  | [d1, d2] => { results := [.lit (.bool false)], args := [d1, d2] }
  | _ => none }
def FnExactVerdictWrongFalsely : Prop := fnExactVerdictRow.holds Try.pinned (OpenSpec.ofChange fnExactVerdictWrong)

/-- 'laws.FnExactDoorOk': WHATEVER THE INPUT: true; the input reads as it did. -/
def fnExactDoorOkSpec : ChangeSpec := { name := "fnExactDoorOk", fn := fun _ => fun
  | [d] => { results := [.lit (.bool true)], args := [d] }
  | _ => none }
def fnExactDoorOkRow : OpenClaim := { program := "ytglpkjcblpjnoaa", sum := "4ba942ac1487ac5efdf648d18dbed2cf83e61e350ab00d0b6bf0730f2201309a", func := "loop.example/g03318/laws.FnExactDoorOk", spec := "fnExactDoorOk", apart := false }
def FnExactDoorOkSaid : Prop := fnExactDoorOkRow.holds Try.pinned (OpenSpec.ofChange fnExactDoorOkSpec)

/-- ITS FALSE NEIGHBOUR: 'it returns false'. Refute it at one input. -/
def fnExactDoorOkWrong : ChangeSpec := { name := "fnExactDoorOk", fn := fun _ => fun
  | [d] => { results := [.lit (.bool false)], args := [d] }
  | _ => none }
def FnExactDoorOkWrongFalsely : Prop := fnExactDoorOkRow.holds Try.pinned (OpenSpec.ofChange fnExactDoorOkWrong)

/-- 'laws.FnExactTruthOf': WHATEVER THE INPUT: true; the input reads as it did. -/
def fnExactTruthOfSpec : ChangeSpec := { name := "fnExactTruthOf", fn := fun _ => fun
  | [d] => { results := [.lit (.bool true)], args := [d] }
  | _ => none }
def fnExactTruthOfRow : OpenClaim := { program := "ytglpkjcblpjnoaa", sum := "4ba942ac1487ac5efdf648d18dbed2cf83e61e350ab00d0b6bf0730f2201309a", func := "loop.example/g03318/laws.FnExactTruthOf", spec := "fnExactTruthOf", apart := false }
def FnExactTruthOfSaid : Prop := fnExactTruthOfRow.holds Try.pinned (OpenSpec.ofChange fnExactTruthOfSpec)

/-- ITS FALSE NEIGHBOUR: 'it returns false'. Refute it at one input. -/
def fnExactTruthOfWrong : ChangeSpec := { name := "fnExactTruthOf", fn := fun _ => fun
  | [d] => { results := [.lit (.bool false)], args := [d] }
  | _ => none }
def FnExactTruthOfWrongFalsely : Prop := fnExactTruthOfRow.holds Try.pinned (OpenSpec.ofChange fnExactTruthOfWrong)

/-- 'laws.FnExactCutPower': WHATEVER THE INPUT: true; the input reads as it did. -/
def fnExactCutPowerSpec : ChangeSpec := { name := "fnExactCutPower", fn := fun _ => fun
  | [d] => { results := [.lit (.bool true)], args := [d] }
  | _ => none }
def fnExactCutPowerRow : OpenClaim := { program := "ytglpkjcblpjnoaa", sum := "4ba942ac1487ac5efdf648d18dbed2cf83e61e350ab00d0b6bf0730f2201309a", func := "loop.example/g03318/laws.FnExactCutPower", spec := "fnExactCutPower", apart := false }
def FnExactCutPowerSaid : Prop := fnExactCutPowerRow.holds Try.pinned (OpenSpec.ofChange fnExactCutPowerSpec)

/-- ITS FALSE NEIGHBOUR: 'it returns false'. Refute it at one input. -/
def fnExactCutPowerWrong : ChangeSpec := { name := "fnExactCutPower", fn := fun _ => fun
  | [d] => { results := [.lit (.bool false)], args := [d] }
  | _ => none }
def FnExactCutPowerWrongFalsely : Prop := fnExactCutPowerRow.holds Try.pinned (OpenSpec.ofChange fnExactCutPowerWrong)

/-- 'laws.FnExactBeginDoor': WHATEVER THE INPUT: true; the input reads as it did. -/
def fnExactBeginDoorSpec : ChangeSpec := { name := "fnExactBeginDoor", fn := fun _ => fun
  | [d1, d2] => { results := [.lit (.bool true)], args := [d1, d2] }
  | _ => none }
def fnExactBeginDoorRow : OpenClaim := { program := "ytglpkjcblpjnoaa", sum := "4ba942ac1487ac5efdf648d18dbed2cf83e61e350ab00d0b6bf0730f2201309a", func := "loop.example/g03318/laws.FnExactBeginDoor", spec := "fnExactBeginDoor", apart := false }
def FnExactBeginDoorSaid : Prop := fnExactBeginDoorRow.holds Try.pinned (OpenSpec.ofChange fnExactBeginDoorSpec)

/-- ITS FALSE NEIGHBOUR: 'it returns false'. Refute it at one input. -/
def fnExactBeginDoorWrong : ChangeSpec := { name := "fnExactBeginDoor", fn := fun _ => fun
  | [d1, d2] => { results := [.lit (.bool false)], args := [d1, d2] }
  | _ => none }
def FnExactBeginDoorWrongFalsely : Prop := fnExactBeginDoorRow.holds Try.pinned (OpenSpec.ofChange fnExactBeginDoorWrong)

/-- 'laws.FnExactSignsOf': WHATEVER THE INPUT: true; the input reads as it did. -/
def fnExactSignsOfSpec : ChangeSpec := { name := "fnExactSignsOf", fn := fun _ => fun
  | [d1, d2] => { results := [.lit (.bool true)], args := [d1, d2] }
  | _ => none }
def fnExactSignsOfRow : OpenClaim := { program := "ytglpkjcblpjnoaa", sum := "4ba942ac1487ac5efdf648d18dbed2cf83e61e350ab00d0b6bf0730f2201309a", func := "loop.example/g03318/laws.FnExactSignsOf", spec := "fnExactSignsOf", unfollowed := true, recurses := true, apart := false }
def FnExactSignsOfSaid : Prop := fnExactSignsOfRow.holds Try.pinned (OpenSpec.ofChange fnExactSignsOfSpec)

/-- ITS FALSE NEIGHBOUR: 'it returns false'. Refute it at one input. -/
def fnExactSignsOfWrong : ChangeSpec := { name := "fnExactSignsOf", fn := fun _ => fun
  | [d1, d2] => { results := [.lit (.bool false)], args := [d1, d2] }
  | _ => none }
def FnExactSignsOfWrongFalsely : Prop := fnExactSignsOfRow.holds Try.pinned (OpenSpec.ofChange fnExactSignsOfWrong)

/- THE SECOND FORM. 'bulk': how many values and letters a reading holds, each counted each time it is reached (what is shared counts as often as it is met; a slice's spare places count too). A statement '..UptoSaid' is the law's where the arguments, and the package variables that the reading takes, are together of bulk at most 1048576: NARROWER than '..Said'. Prove '..Said' where nothing that the law and all that it calls make is longer than what came in: it says more and counts as full. Else prove '..UptoSaid'. A law counts once. -/
mutual
def uptoBulk {H : Type} : DataW H → Nat
  | .lit (.string bytes) => bytes.length + 1
  | .lit _ => 1
  | .nil => 1
  | .ptr d => uptoBulk d + 1
  | .slice elems spare => uptoBulkAll elems + uptoBulkAll spare + 1
  | .agg parts => uptoBulkAll parts + 1
  | .iface _ d => uptoBulk d + 1
  | .map entries => uptoBulkEntries entries + 1
  | .held _ => 1
def uptoBulkAll {H : Type} : List (DataW H) → Nat
  | [] => 0
  | d :: r => uptoBulk d + uptoBulkAll r
def uptoBulkEntries {H : Type} : List (Lit × DataW H) → Nat
  | [] => 0
  | x :: r => uptoBulkEntry x + uptoBulkEntries r
def uptoBulkEntry {H : Type} : Lit × DataW H → Nat
  | (.string bytes, d) => bytes.length + uptoBulk d + 1
  | (_, d) => uptoBulk d + 1
 end
def uptoSmall : (H : Type) → List (DataW H) → Bool := fun _ ds => decide (uptoBulkAll ds ≤ 1048576)
def OpenSpec.upto (s : _root_.Go.ChangeSpec) : _root_.Go.OpenSpec := { _root_.Go.OpenSpec.ofChange s with cond := some uptoSmall }

/-- 'laws.FnExactStepName', WHERE WHAT IT READS IS OF BULK AT MOST 1048576: true; the input reads as it did. -/
def fnExactStepNameUptoRow : OpenClaim := { program := "ytglpkjcblpjnoaa", sum := "4ba942ac1487ac5efdf648d18dbed2cf83e61e350ab00d0b6bf0730f2201309a", func := "loop.example/g03318/laws.FnExactStepName", spec := "fnExactStepName", apart := false, narrowed := true }
def FnExactStepNameUptoSaid : Prop := fnExactStepNameUptoRow.holds Try.pinned (OpenSpec.upto fnExactStepNameSpec)

/-- 'laws.FnExactVerdictName', WHERE WHAT IT READS IS OF BULK AT MOST 1048576: true; the input reads as it did. -/
def fnExactVerdictNameUptoRow : OpenClaim := { program := "ytglpkjcblpjnoaa", sum := "4ba942ac1487ac5efdf648d18dbed2cf83e61e350ab00d0b6bf0730f2201309a", func := "loop.example/g03318/laws.FnExactVerdictName", spec := "fnExactVerdictName", apart := false, narrowed := true }
def FnExactVerdictNameUptoSaid : Prop := fnExactVerdictNameUptoRow.holds Try.pinned (OpenSpec.upto fnExactVerdictNameSpec)

/-- 'laws.FnExactFaultsOk', WHERE WHAT IT READS IS OF BULK AT MOST 1048576: true; the input reads as it did. -/
def fnExactFaultsOkUptoRow : OpenClaim := { program := "ytglpkjcblpjnoaa", sum := "4ba942ac1487ac5efdf648d18dbed2cf83e61e350ab00d0b6bf0730f2201309a", func := "loop.example/g03318/laws.FnExactFaultsOk", spec := "fnExactFaultsOk", apart := false, narrowed := true }
def FnExactFaultsOkUptoSaid : Prop := fnExactFaultsOkUptoRow.holds Try.pinned (OpenSpec.upto fnExactFaultsOkSpec)

/-- 'laws.FnExactCountFaults', WHERE WHAT IT READS IS OF BULK AT MOST 1048576: true; the input reads as it did. -/
def fnExactCountFaultsUptoRow : OpenClaim := { program := "ytglpkjcblpjnoaa", sum := "4ba942ac1487ac5efdf648d18dbed2cf83e61e350ab00d0b6bf0730f2201309a", func := "loop.example/g03318/laws.FnExactCountFaults", spec := "fnExactCountFaults", apart := false, narrowed := true }
def FnExactCountFaultsUptoSaid : Prop := fnExactCountFaultsUptoRow.holds Try.pinned (OpenSpec.upto fnExactCountFaultsSpec)

/-- 'laws.FnExactVerdict', WHERE WHAT IT READS IS OF BULK AT MOST 1048576: true; the input reads as it did. -/
def fnExactVerdictUptoRow : OpenClaim := { program := "ytglpkjcblpjnoaa", sum := "4ba942ac1487ac5efdf648d18dbed2cf83e61e350ab00d0b6bf0730f2201309a", func := "loop.example/g03318/laws.FnExactVerdict", spec := "fnExactVerdict", apart := false, narrowed := true }
def FnExactVerdictUptoSaid : Prop := fnExactVerdictUptoRow.holds Try.pinned (OpenSpec.upto fnExactVerdictSpec)

/-- 'laws.FnExactDoorOk', WHERE WHAT IT READS IS OF BULK AT MOST 1048576: true; the input reads as it did. -/
def fnExactDoorOkUptoRow : OpenClaim := { program := "ytglpkjcblpjnoaa", sum := "4ba942ac1487ac5efdf648d18dbed2cf83e61e350ab00d0b6bf0730f2201309a", func := "loop.example/g03318/laws.FnExactDoorOk", spec := "fnExactDoorOk", apart := false, narrowed := true }
def FnExactDoorOkUptoSaid : Prop := fnExactDoorOkUptoRow.holds Try.pinned (OpenSpec.upto fnExactDoorOkSpec)

/-- 'laws.FnExactTruthOf', WHERE WHAT IT READS IS OF BULK AT MOST 1048576: true; the input reads as it did. -/
def fnExactTruthOfUptoRow : OpenClaim := { program := "ytglpkjcblpjnoaa", sum := "4ba942ac1487ac5efdf648d18dbed2cf83e61e350ab00d0b6bf0730f2201309a", func := "loop.example/g03318/laws.FnExactTruthOf", spec := "fnExactTruthOf", apart := false, narrowed := true }
def FnExactTruthOfUptoSaid : Prop := fnExactTruthOfUptoRow.holds Try.pinned (OpenSpec.upto fnExactTruthOfSpec)

/-- 'laws.FnExactCutPower', WHERE WHAT IT READS IS OF BULK AT MOST 1048576: true; the input reads as it did. -/
def fnExactCutPowerUptoRow : OpenClaim := { program := "ytglpkjcblpjnoaa", sum := "4ba942ac1487ac5efdf648d18dbed2cf83e61e350ab00d0b6bf0730f2201309a", func := "loop.example/g03318/laws.FnExactCutPower", spec := "fnExactCutPower", apart := false, narrowed := true }
def FnExactCutPowerUptoSaid : Prop := fnExactCutPowerUptoRow.holds Try.pinned (OpenSpec.upto fnExactCutPowerSpec)

/-- 'laws.FnExactBeginDoor', WHERE WHAT IT READS IS OF BULK AT MOST 1048576: true; the input reads as it did. -/
def fnExactBeginDoorUptoRow : OpenClaim := { program := "ytglpkjcblpjnoaa", sum := "4ba942ac1487ac5efdf648d18dbed2cf83e61e350ab00d0b6bf0730f2201309a", func := "loop.example/g03318/laws.FnExactBeginDoor", spec := "fnExactBeginDoor", apart := false, narrowed := true }
def FnExactBeginDoorUptoSaid : Prop := fnExactBeginDoorUptoRow.holds Try.pinned (OpenSpec.upto fnExactBeginDoorSpec)

/-- 'laws.FnExactSignsOf', WHERE WHAT IT READS IS OF BULK AT MOST 1048576: true; the input reads as it did. -/
def fnExactSignsOfUptoRow : OpenClaim := { program := "ytglpkjcblpjnoaa", sum := "4ba942ac1487ac5efdf648d18dbed2cf83e61e350ab00d0b6bf0730f2201309a", func := "loop.example/g03318/laws.FnExactSignsOf", spec := "fnExactSignsOf", unfollowed := true, recurses := true, apart := false, narrowed := true }
def FnExactSignsOfUptoSaid : Prop := fnExactSignsOfUptoRow.holds Try.pinned (OpenSpec.upto fnExactSignsOfSpec)

end Rows
end Go.Proofs.Ytglpkjcblpjnoaa
