/-
  No cell of these rows narrows 'for every input' (looked for: loops, veiled, ifaces, maps, wideKeys, modest, calm, conditions, laid).
  DERIVED. THE GIVEN ROWS OF THIS SEAT. 10 by the template 'for every input the law returns true; each argument reads behind the call as it read before'; 0 by the template 'total and deterministic' (their statements: YtglpkjcblpjnoabTotals.lean).
  GIVEN WITH THE SEED: the statements are not yours to turn. If you find one false, say at which input.
  Laid BY PROGRAM, IN A SANDBOX (cutbox-rows.mjs): the forced cells as the released guide's own fill.sh prints them over the translation c9613aa86dbad98f… (all of the seat's roots in one cut). By AI agents, Wed Nov 11 2026. No macro, syntax, notation, axiom, sorry.
-/
import Derived.Test.YtglpkjcblpjnoabChecked
import GoSem.Claim
import GoSem.ClaimJoined
import GoSem.ClaimMapViews
import Derived.JoinedTies
import Derived.KernelRfl
namespace Go.Proofs.Ytglpkjcblpjnoab
/- THE CELL 'sum', in the pinned program and in every row, IS THE sha256 OF THE DUMP (.gsa) THAT YtglpkjcblpjnoabProg.lean LOADS. Nothing in Lean hashes anything: it is a label: what it is worth is what the hold of that sum in a sandbox is worth. -/
noncomputable def Try.pinned : Pinned := { name := "ytglpkjcblpjnoab", sum := "c9613aa86dbad98f5bf1e2a94c69aadef5543bc77dd937e90c6e5c01a35275a8", checked := Try.checked }
namespace Rows
def none {H : Type} : Left H := { results := [], args := [] }

/-- 'laws.FnExactInspect': WHATEVER THE INPUT: true; the input reads as it did. -/
def fnExactInspectSpec : ChangeSpec := { name := "fnExactInspect", fn := fun _ => fun
  | [d] => { results := [.lit (.bool true)], args := [d] }
  | _ => none }
def fnExactInspectRow : OpenClaim := { program := "ytglpkjcblpjnoab", sum := "c9613aa86dbad98f5bf1e2a94c69aadef5543bc77dd937e90c6e5c01a35275a8", func := "loop.example/g03318/laws.FnExactInspect", spec := "fnExactInspect", apart := false }
def FnExactInspectSaid : Prop := fnExactInspectRow.holds Try.pinned (OpenSpec.ofChange fnExactInspectSpec)

/-- ITS FALSE NEIGHBOUR: 'it returns false'. Refute it at one input. -/
def fnExactInspectWrong : ChangeSpec := { name := "fnExactInspect", fn := fun _ => fun
  | [d] => { results := [.lit (.bool false)], args := [d] }
  | _ => none }
def FnExactInspectWrongFalsely : Prop := fnExactInspectRow.holds Try.pinned (OpenSpec.ofChange fnExactInspectWrong)

/-- 'laws.FnExactRelent': WHATEVER THE INPUT: true; the input reads as it did. -/
def fnExactRelentSpec : ChangeSpec := { name := "fnExactRelent", fn := fun _ => fun
  | [d] => { results := [.lit (.bool true)], args := [d] }
  | _ => none }
def fnExactRelentRow : OpenClaim := { program := "ytglpkjcblpjnoab", sum := "c9613aa86dbad98f5bf1e2a94c69aadef5543bc77dd937e90c6e5c01a35275a8", func := "loop.example/g03318/laws.FnExactRelent", spec := "fnExactRelent", apart := false }
def FnExactRelentSaid : Prop := fnExactRelentRow.holds Try.pinned (OpenSpec.ofChange fnExactRelentSpec)

/-- ITS FALSE NEIGHBOUR: 'it returns false'. Refute it at one input. -/
def fnExactRelentWrong : ChangeSpec := { name := "fnExactRelent", fn := fun _ => fun
  | [d] => { results := [.lit (.bool false)], args := [d] }
  | _ => none }
def FnExactRelentWrongFalsely : Prop := fnExactRelentRow.holds Try.pinned (OpenSpec.ofChange fnExactRelentWrong)

/-- 'laws.FnExactHand': WHATEVER THE INPUT: true; the input reads as it did. -/
def fnExactHandSpec : ChangeSpec := { name := "fnExactHand", fn := fun _ => fun
  | [d1, d2] => { results := [.lit (.bool true)], args := [d1, d2] }
  | _ => none }
def fnExactHandRow : OpenClaim := { program := "ytglpkjcblpjnoab", sum := "c9613aa86dbad98f5bf1e2a94c69aadef5543bc77dd937e90c6e5c01a35275a8", func := "loop.example/g03318/laws.FnExactHand", spec := "fnExactHand", apart := false }
def FnExactHandSaid : Prop := fnExactHandRow.holds Try.pinned (OpenSpec.ofChange fnExactHandSpec)

/-- ITS FALSE NEIGHBOUR: 'it returns false'. Refute it at one input. -/
def fnExactHandWrong : ChangeSpec := { name := "fnExactHand", fn := fun _ => fun
  | [d1, d2] => { results := [.lit (.bool false)], args := [d1, d2] }
  | _ => none }
def FnExactHandWrongFalsely : Prop := fnExactHandRow.holds Try.pinned (OpenSpec.ofChange fnExactHandWrong)

/-- 'laws.FnExactAdvance': WHATEVER THE INPUT: true; the input reads as it did. -/
def fnExactAdvanceSpec : ChangeSpec := { name := "fnExactAdvance", fn := fun _ => fun
  | [d] => { results := [.lit (.bool true)], args := [d] }
  | _ => none }
def fnExactAdvanceRow : OpenClaim := { program := "ytglpkjcblpjnoab", sum := "c9613aa86dbad98f5bf1e2a94c69aadef5543bc77dd937e90c6e5c01a35275a8", func := "loop.example/g03318/laws.FnExactAdvance", spec := "fnExactAdvance", apart := false }
def FnExactAdvanceSaid : Prop := fnExactAdvanceRow.holds Try.pinned (OpenSpec.ofChange fnExactAdvanceSpec)

/-- ITS FALSE NEIGHBOUR: 'it returns false'. Refute it at one input. -/
def fnExactAdvanceWrong : ChangeSpec := { name := "fnExactAdvance", fn := fun _ => fun
  | [d] => { results := [.lit (.bool false)], args := [d] }
  | _ => none }
def FnExactAdvanceWrongFalsely : Prop := fnExactAdvanceRow.holds Try.pinned (OpenSpec.ofChange fnExactAdvanceWrong)

/-- 'laws.FnExactRecover': WHATEVER THE INPUT: true; the input reads as it did. -/
def fnExactRecoverSpec : ChangeSpec := { name := "fnExactRecover", fn := fun _ => fun
  | [d1, d2] => { results := [.lit (.bool true)], args := [d1, d2] }
  | _ => none }
def fnExactRecoverRow : OpenClaim := { program := "ytglpkjcblpjnoab", sum := "c9613aa86dbad98f5bf1e2a94c69aadef5543bc77dd937e90c6e5c01a35275a8", func := "loop.example/g03318/laws.FnExactRecover", spec := "fnExactRecover", unfollowed := true, recurses := true, apart := false }
def FnExactRecoverSaid : Prop := fnExactRecoverRow.holds Try.pinned (OpenSpec.ofChange fnExactRecoverSpec)

/-- ITS FALSE NEIGHBOUR: 'it returns false'. Refute it at one input. -/
def fnExactRecoverWrong : ChangeSpec := { name := "fnExactRecover", fn := fun _ => fun
  | [d1, d2] => { results := [.lit (.bool false)], args := [d1, d2] }
  | _ => none }
def FnExactRecoverWrongFalsely : Prop := fnExactRecoverRow.holds Try.pinned (OpenSpec.ofChange fnExactRecoverWrong)

/-- 'laws.FnOpenings': WHATEVER THE INPUT: true; the input reads as it did. -/
def fnOpeningsSpec : ChangeSpec := { name := "fnOpenings", fn := fun _ => fun
  | [d] => { results := [.lit (.bool true)], args := [d] }
  | _ => none }
def fnOpeningsRow : OpenClaim := { program := "ytglpkjcblpjnoab", sum := "c9613aa86dbad98f5bf1e2a94c69aadef5543bc77dd937e90c6e5c01a35275a8", func := "loop.example/g03318/laws.FnOpenings", spec := "fnOpenings", apart := false }
def FnOpeningsSaid : Prop := fnOpeningsRow.holds Try.pinned (OpenSpec.ofChange fnOpeningsSpec)

/-- ITS FALSE NEIGHBOUR: 'it returns false'. Refute it at one input. -/
def fnOpeningsWrong : ChangeSpec := { name := "fnOpenings", fn := fun _ => fun
  | [d] => { results := [.lit (.bool false)], args := [d] }
  | _ => none }
def FnOpeningsWrongFalsely : Prop := fnOpeningsRow.holds Try.pinned (OpenSpec.ofChange fnOpeningsWrong)

/-- 'laws.FnVerdicts': WHATEVER THE INPUT: true; the input reads as it did. -/
def fnVerdictsSpec : ChangeSpec := { name := "fnVerdicts", fn := fun _ => fun
  | [d] => { results := [.lit (.bool true)], args := [d] }
  | _ => none }
def fnVerdictsRow : OpenClaim := { program := "ytglpkjcblpjnoab", sum := "c9613aa86dbad98f5bf1e2a94c69aadef5543bc77dd937e90c6e5c01a35275a8", func := "loop.example/g03318/laws.FnVerdicts", spec := "fnVerdicts", unfollowed := true, recurses := true, apart := false }
def FnVerdictsSaid : Prop := fnVerdictsRow.holds Try.pinned (OpenSpec.ofChange fnVerdictsSpec)

/-- ITS FALSE NEIGHBOUR: 'it returns false'. Refute it at one input. -/
def fnVerdictsWrong : ChangeSpec := { name := "fnVerdicts", fn := fun _ => fun
  | [d] => { results := [.lit (.bool false)], args := [d] }
  | _ => none }
def FnVerdictsWrongFalsely : Prop := fnVerdictsRow.holds Try.pinned (OpenSpec.ofChange fnVerdictsWrong)

/-- 'laws.FnSigns': WHATEVER THE INPUT: true; the input reads as it did. -/
def fnSignsSpec : ChangeSpec := { name := "fnSigns", fn := fun _ => fun
  | [d] => { results := [.lit (.bool true)], args := [d] }
  | _ => none }
def fnSignsRow : OpenClaim := { program := "ytglpkjcblpjnoab", sum := "c9613aa86dbad98f5bf1e2a94c69aadef5543bc77dd937e90c6e5c01a35275a8", func := "loop.example/g03318/laws.FnSigns", spec := "fnSigns", unfollowed := true, recurses := true, apart := false }
def FnSignsSaid : Prop := fnSignsRow.holds Try.pinned (OpenSpec.ofChange fnSignsSpec)

/-- ITS FALSE NEIGHBOUR: 'it returns false'. Refute it at one input. -/
def fnSignsWrong : ChangeSpec := { name := "fnSigns", fn := fun _ => fun
  | [d] => { results := [.lit (.bool false)], args := [d] }
  | _ => none }
def FnSignsWrongFalsely : Prop := fnSignsRow.holds Try.pinned (OpenSpec.ofChange fnSignsWrong)

/-- 'laws.FnExactDoActs': WHATEVER THE INPUT: true; the input reads as it did. -/
def fnExactDoActsSpec : ChangeSpec := { name := "fnExactDoActs", fn := fun _ => fun
  | [d1, d2] => { results := [.lit (.bool true)], args := [d1, d2] }
  | _ => none }
def fnExactDoActsRow : OpenClaim := { program := "ytglpkjcblpjnoab", sum := "c9613aa86dbad98f5bf1e2a94c69aadef5543bc77dd937e90c6e5c01a35275a8", func := "loop.example/g03318/laws.FnExactDoActs", spec := "fnExactDoActs", unfollowed := true, recurses := true, apart := false }
def FnExactDoActsSaid : Prop := fnExactDoActsRow.holds Try.pinned (OpenSpec.ofChange fnExactDoActsSpec)

/-- ITS FALSE NEIGHBOUR: 'it returns false'. Refute it at one input. -/
def fnExactDoActsWrong : ChangeSpec := { name := "fnExactDoActs", fn := fun _ => fun
  | [d1, d2] => { results := [.lit (.bool false)], args := [d1, d2] }
  | _ => none }
def FnExactDoActsWrongFalsely : Prop := fnExactDoActsRow.holds Try.pinned (OpenSpec.ofChange fnExactDoActsWrong)

/-- 'laws.FnDoors': WHATEVER THE INPUT: true; the input reads as it did. -/
def fnDoorsSpec : ChangeSpec := { name := "fnDoors", fn := fun _ => fun
  | [d] => { results := [.lit (.bool true)], args := [d] }
  | _ => none }
def fnDoorsRow : OpenClaim := { program := "ytglpkjcblpjnoab", sum := "c9613aa86dbad98f5bf1e2a94c69aadef5543bc77dd937e90c6e5c01a35275a8", func := "loop.example/g03318/laws.FnDoors", spec := "fnDoors", unfollowed := true, recurses := true, apart := false }
def FnDoorsSaid : Prop := fnDoorsRow.holds Try.pinned (OpenSpec.ofChange fnDoorsSpec)

/-- ITS FALSE NEIGHBOUR: 'it returns false'. Refute it at one input. -/
def fnDoorsWrong : ChangeSpec := { name := "fnDoors", fn := fun _ => fun
  | [d] => { results := [.lit (.bool false)], args := [d] }
  | _ => none }
def FnDoorsWrongFalsely : Prop := fnDoorsRow.holds Try.pinned (OpenSpec.ofChange fnDoorsWrong)

/- THE SECOND FORM. 'bulk': how many values and letters a reading holds, each counted each time it is reached (what is shared counts as often as it is met; a slice's spare places count too). A statement '..UptoSaid' is the law's where the arguments, and the package variables that the reading takes, are together of bulk at most 1048576: NARROWER than '..Said'. Prove '..Said' where nothing that the law and all that it calls make is longer than what came in: it says more and counts as full. Else prove '..UptoSaid'. A law counts once. -/
mutual
def uptoBulk {H : Type} : DataW H → Nat
  | .lit (.string bytes) => bytes.length + 1
  | .lit _ => 1
  | .nil => 1
  | .ptr d => uptoBulk d + 1
  | .slice elems spare => uptoBulkAll elems + uptoBulkAll spare + 1
  | .agg parts => uptoBulkAll parts + 1
  | .iface _ d => uptoBulk d + 1
  | .map entries => uptoBulkEntries entries + 1
  | .held _ => 1
def uptoBulkAll {H : Type} : List (DataW H) → Nat
  | [] => 0
  | d :: r => uptoBulk d + uptoBulkAll r
def uptoBulkEntries {H : Type} : List (Lit × DataW H) → Nat
  | [] => 0
  | x :: r => uptoBulkEntry x + uptoBulkEntries r
def uptoBulkEntry {H : Type} : Lit × DataW H → Nat
  | (.string bytes, d) => bytes.length + uptoBulk d + 1
  | (_, d) => uptoBulk d + 1
 end
def uptoSmall : (H : Type) → List (DataW H) → Bool := fun _ ds => decide (uptoBulkAll ds ≤ 1048576)
def OpenSpec.upto (s : _root_.Go.ChangeSpec) : _root_.Go.OpenSpec := { _root_.Go.OpenSpec.ofChange s with cond := some uptoSmall }

/-- 'laws.FnExactInspect', WHERE WHAT IT READS IS OF BULK AT MOST 1048576: true; the input reads as it did. -/
def fnExactInspectUptoRow : OpenClaim := { program := "ytglpkjcblpjnoab", sum := "c9613aa86dbad98f5bf1e2a94c69aadef5543bc77dd937e90c6e5c01a35275a8", func := "loop.example/g03318/laws.FnExactInspect", spec := "fnExactInspect", apart := false, narrowed := true }
def FnExactInspectUptoSaid : Prop := fnExactInspectUptoRow.holds Try.pinned (OpenSpec.upto fnExactInspectSpec)

/-- 'laws.FnExactRelent', WHERE WHAT IT READS IS OF BULK AT MOST 1048576: true; the input reads as it did. -/
def fnExactRelentUptoRow : OpenClaim := { program := "ytglpkjcblpjnoab", sum := "c9613aa86dbad98f5bf1e2a94c69aadef5543bc77dd937e90c6e5c01a35275a8", func := "loop.example/g03318/laws.FnExactRelent", spec := "fnExactRelent", apart := false, narrowed := true }
def FnExactRelentUptoSaid : Prop := fnExactRelentUptoRow.holds Try.pinned (OpenSpec.upto fnExactRelentSpec)

/-- 'laws.FnExactHand', WHERE WHAT IT READS IS OF BULK AT MOST 1048576: true; the input reads as it did. -/
def fnExactHandUptoRow : OpenClaim := { program := "ytglpkjcblpjnoab", sum := "c9613aa86dbad98f5bf1e2a94c69aadef5543bc77dd937e90c6e5c01a35275a8", func := "loop.example/g03318/laws.FnExactHand", spec := "fnExactHand", apart := false, narrowed := true }
def FnExactHandUptoSaid : Prop := fnExactHandUptoRow.holds Try.pinned (OpenSpec.upto fnExactHandSpec)

/-- 'laws.FnExactAdvance', WHERE WHAT IT READS IS OF BULK AT MOST 1048576: true; the input reads as it did. -/
def fnExactAdvanceUptoRow : OpenClaim := { program := "ytglpkjcblpjnoab", sum := "c9613aa86dbad98f5bf1e2a94c69aadef5543bc77dd937e90c6e5c01a35275a8", func := "loop.example/g03318/laws.FnExactAdvance", spec := "fnExactAdvance", apart := false, narrowed := true }
def FnExactAdvanceUptoSaid : Prop := fnExactAdvanceUptoRow.holds Try.pinned (OpenSpec.upto fnExactAdvanceSpec)

/-- 'laws.FnExactRecover', WHERE WHAT IT READS IS OF BULK AT MOST 1048576: true; the input reads as it did. -/
def fnExactRecoverUptoRow : OpenClaim := { program := "ytglpkjcblpjnoab", sum := "c9613aa86dbad98f5bf1e2a94c69aadef5543bc77dd937e90c6e5c01a35275a8", func := "loop.example/g03318/laws.FnExactRecover", spec := "fnExactRecover", unfollowed := true, recurses := true, apart := false, narrowed := true }
def FnExactRecoverUptoSaid : Prop := fnExactRecoverUptoRow.holds Try.pinned (OpenSpec.upto fnExactRecoverSpec)

/-- 'laws.FnOpenings', WHERE WHAT IT READS IS OF BULK AT MOST 1048576: true; the input reads as it did. -/
def fnOpeningsUptoRow : OpenClaim := { program := "ytglpkjcblpjnoab", sum := "c9613aa86dbad98f5bf1e2a94c69aadef5543bc77dd937e90c6e5c01a35275a8", func := "loop.example/g03318/laws.FnOpenings", spec := "fnOpenings", apart := false, narrowed := true }
def FnOpeningsUptoSaid : Prop := fnOpeningsUptoRow.holds Try.pinned (OpenSpec.upto fnOpeningsSpec)

/-- 'laws.FnVerdicts', WHERE WHAT IT READS IS OF BULK AT MOST 1048576: true; the input reads as it did. -/
def fnVerdictsUptoRow : OpenClaim := { program := "ytglpkjcblpjnoab", sum := "c9613aa86dbad98f5bf1e2a94c69aadef5543bc77dd937e90c6e5c01a35275a8", func := "loop.example/g03318/laws.FnVerdicts", spec := "fnVerdicts", unfollowed := true, recurses := true, apart := false, narrowed := true }
def FnVerdictsUptoSaid : Prop := fnVerdictsUptoRow.holds Try.pinned (OpenSpec.upto fnVerdictsSpec)

/-- 'laws.FnSigns', WHERE WHAT IT READS IS OF BULK AT MOST 1048576: true; the input reads as it did. -/
def fnSignsUptoRow : OpenClaim := { program := "ytglpkjcblpjnoab", sum := "c9613aa86dbad98f5bf1e2a94c69aadef5543bc77dd937e90c6e5c01a35275a8", func := "loop.example/g03318/laws.FnSigns", spec := "fnSigns", unfollowed := true, recurses := true, apart := false, narrowed := true }
def FnSignsUptoSaid : Prop := fnSignsUptoRow.holds Try.pinned (OpenSpec.upto fnSignsSpec)

/-- 'laws.FnExactDoActs', WHERE WHAT IT READS IS OF BULK AT MOST 1048576: true; the input reads as it did. -/
def fnExactDoActsUptoRow : OpenClaim := { program := "ytglpkjcblpjnoab", sum := "c9613aa86dbad98f5bf1e2a94c69aadef5543bc77dd937e90c6e5c01a35275a8", func := "loop.example/g03318/laws.FnExactDoActs", spec := "fnExactDoActs", unfollowed := true, recurses := true, apart := false, narrowed := true }
def FnExactDoActsUptoSaid : Prop := fnExactDoActsUptoRow.holds Try.pinned (OpenSpec.upto fnExactDoActsSpec)

/-- 'laws.FnDoors', WHERE WHAT IT READS IS OF BULK AT MOST 1048576: true; the input reads as it did. -/
def fnDoorsUptoRow : OpenClaim := { program := "ytglpkjcblpjnoab", sum := "c9613aa86dbad98f5bf1e2a94c69aadef5543bc77dd937e90c6e5c01a35275a8", func := "loop.example/g03318/laws.FnDoors", spec := "fnDoors", unfollowed := true, recurses := true, apart := false, narrowed := true }
def FnDoorsUptoSaid : Prop := fnDoorsUptoRow.holds Try.pinned (OpenSpec.upto fnDoorsSpec)

end Rows
end Go.Proofs.Ytglpkjcblpjnoab
