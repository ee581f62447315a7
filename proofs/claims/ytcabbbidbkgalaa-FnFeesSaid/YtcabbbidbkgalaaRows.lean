/-
  No cell of these rows narrows 'for every input' (looked for: loops, veiled, ifaces, maps, wideKeys, modest, calm, conditions, laid).
  DERIVED. THE GIVEN ROWS OF THIS SEAT. 10 by the template 'for every input the law returns true; each argument reads behind the call as it read before'; 0 by the template 'total and deterministic' (their statements: YtcabbbidbkgalaaTotals.lean).
  GIVEN WITH THE SEED: the statements are not yours to turn. If you find one false, say at which input.
  Laid BY PROGRAM, IN A SANDBOX (cutbox-rows.mjs): the forced cells as the released guide's own fill.sh prints them over the translation 56352eeef2e5ff4e… (all of the seat's roots in one cut). By AI agents, Wed Nov 11 2026. No macro, syntax, notation, axiom, sorry.
-/
import Derived.Test.YtcabbbidbkgalaaChecked
import GoSem.Claim
import GoSem.ClaimJoined
import GoSem.ClaimMapViews
import Derived.JoinedTies
import Derived.KernelRfl
namespace Go.Proofs.Ytcabbbidbkgalaa
/- THE CELL 'sum', in the pinned program and in every row, IS THE sha256 OF THE DUMP (.gsa) THAT YtcabbbidbkgalaaProg.lean LOADS. Nothing in Lean hashes anything: it is a label: what it is worth is what the hold of that sum in a sandbox is worth. -/
noncomputable def Try.pinned : Pinned := { name := "ytcabbbidbkgalaa", sum := "56352eeef2e5ff4e67f709f8c11b9bf5e2b7a3dd7396480bcbfaeb932381b216", checked := Try.checked }
namespace Rows
def none {H : Type} : Left H := { results := [], args := [] }

/-- 'laws.FnExactTermsOk': WHATEVER THE INPUT: true; the input reads as it did. -/
def fnExactTermsOkSpec : ChangeSpec := { name := "fnExactTermsOk", fn := fun _ => fun
  | [d] => { results := [.lit (.bool true)], args := [d] }
  | _ => none }
def fnExactTermsOkRow : OpenClaim := { program := "ytcabbbidbkgalaa", sum := "56352eeef2e5ff4e67f709f8c11b9bf5e2b7a3dd7396480bcbfaeb932381b216", func := "loop.example/g03318/laws.FnExactTermsOk", spec := "fnExactTermsOk", apart := false }
def FnExactTermsOkSaid : Prop := fnExactTermsOkRow.holds Try.pinned (OpenSpec.ofChange fnExactTermsOkSpec)

/-- ITS FALSE NEIGHBOUR: 'it returns false'. Refute it at one input. -/
def fnExactTermsOkWrong : ChangeSpec := { name := "fnExactTermsOk", fn := fun _ => fun
  | [d] => { results := [.lit (.bool false)], args := [d] }
  | _ => none }
def FnExactTermsOkWrongFalsely : Prop := fnExactTermsOkRow.holds Try.pinned (OpenSpec.ofChange fnExactTermsOkWrong)

/-- 'laws.FnExactDeadlineOf': WHATEVER THE INPUT: true; the input reads as it did. -/
def fnExactDeadlineOfSpec : ChangeSpec := { name := "fnExactDeadlineOf", fn := fun _ => fun
  | [d1, d2, d3, d4] => { results := [.lit (.bool true)], args := [d1, d2, d3, d4] }
  | _ => none }
def fnExactDeadlineOfRow : OpenClaim := { program := "ytcabbbidbkgalaa", sum := "56352eeef2e5ff4e67f709f8c11b9bf5e2b7a3dd7396480bcbfaeb932381b216", func := "loop.example/g03318/laws.FnExactDeadlineOf", spec := "fnExactDeadlineOf", apart := false }
def FnExactDeadlineOfSaid : Prop := fnExactDeadlineOfRow.holds Try.pinned (OpenSpec.ofChange fnExactDeadlineOfSpec)

/-- ITS FALSE NEIGHBOUR: 'it returns false'. Refute it at one input. -/
def fnExactDeadlineOfWrong : ChangeSpec := { name := "fnExactDeadlineOf", fn := fun _ => fun
  | [d1, d2, d3, d4] => { results := [.lit (.bool false)], args := [d1, d2, d3, d4] }
  | _ => none }
def FnExactDeadlineOfWrongFalsely : Prop := fnExactDeadlineOfRow.holds Try.pinned (OpenSpec.ofChange fnExactDeadlineOfWrong)

/-- 'laws.FnExactFreeUntil': WHATEVER THE INPUT: true; the input reads as it did. -/
def fnExactFreeUntilSpec : ChangeSpec := { name := "fnExactFreeUntil", fn := fun _ => fun
  | [d1, d2, d3] => { results := [.lit (.bool true)], args := [d1, d2, d3] }
  | _ => none }
def fnExactFreeUntilRow : OpenClaim := { program := "ytcabbbidbkgalaa", sum := "56352eeef2e5ff4e67f709f8c11b9bf5e2b7a3dd7396480bcbfaeb932381b216", func := "loop.example/g03318/laws.FnExactFreeUntil", spec := "fnExactFreeUntil", apart := false }
def FnExactFreeUntilSaid : Prop := fnExactFreeUntilRow.holds Try.pinned (OpenSpec.ofChange fnExactFreeUntilSpec)

/-- ITS FALSE NEIGHBOUR: 'it returns false'. Refute it at one input. -/
def fnExactFreeUntilWrong : ChangeSpec := { name := "fnExactFreeUntil", fn := fun _ => fun
  | [d1, d2, d3] => { results := [.lit (.bool false)], args := [d1, d2, d3] }
  | _ => none }
def FnExactFreeUntilWrongFalsely : Prop := fnExactFreeUntilRow.holds Try.pinned (OpenSpec.ofChange fnExactFreeUntilWrong)

/-- 'laws.FnExactFeeOf': WHATEVER THE INPUT: true; the input reads as it did. -/
def fnExactFeeOfSpec : ChangeSpec := { name := "fnExactFeeOf", fn := fun _ => fun
  | [d1, d2, d3, d4, d5, d6] => { results := [.lit (.bool true)], args := [d1, d2, d3, d4, d5, d6] }
  | _ => none }
def fnExactFeeOfRow : OpenClaim := { program := "ytcabbbidbkgalaa", sum := "56352eeef2e5ff4e67f709f8c11b9bf5e2b7a3dd7396480bcbfaeb932381b216", func := "loop.example/g03318/laws.FnExactFeeOf", spec := "fnExactFeeOf", apart := false }
def FnExactFeeOfSaid : Prop := fnExactFeeOfRow.holds Try.pinned (OpenSpec.ofChange fnExactFeeOfSpec)

/-- ITS FALSE NEIGHBOUR: 'it returns false'. Refute it at one input. -/
def fnExactFeeOfWrong : ChangeSpec := { name := "fnExactFeeOf", fn := fun _ => fun
  | [d1, d2, d3, d4, d5, d6] => { results := [.lit (.bool false)], args := [d1, d2, d3, d4, d5, d6] }
  | _ => none }
def FnExactFeeOfWrongFalsely : Prop := fnExactFeeOfRow.holds Try.pinned (OpenSpec.ofChange fnExactFeeOfWrong)

/-- 'laws.FnExactOverdue': WHATEVER THE INPUT: true; the input reads as it did. -/
def fnExactOverdueSpec : ChangeSpec := { name := "fnExactOverdue", fn := fun _ => fun
  | [d1, d2, d3, d4, d5] => { results := [.lit (.bool true)], args := [d1, d2, d3, d4, d5] }
  | _ => none }
def fnExactOverdueRow : OpenClaim := { program := "ytcabbbidbkgalaa", sum := "56352eeef2e5ff4e67f709f8c11b9bf5e2b7a3dd7396480bcbfaeb932381b216", func := "loop.example/g03318/laws.FnExactOverdue", spec := "fnExactOverdue", apart := false }
def FnExactOverdueSaid : Prop := fnExactOverdueRow.holds Try.pinned (OpenSpec.ofChange fnExactOverdueSpec)

/-- ITS FALSE NEIGHBOUR: 'it returns false'. Refute it at one input. -/
def fnExactOverdueWrong : ChangeSpec := { name := "fnExactOverdue", fn := fun _ => fun
  | [d1, d2, d3, d4, d5] => { results := [.lit (.bool false)], args := [d1, d2, d3, d4, d5] }
  | _ => none }
def FnExactOverdueWrongFalsely : Prop := fnExactOverdueRow.holds Try.pinned (OpenSpec.ofChange fnExactOverdueWrong)

/-- 'laws.FnExactLeastExtensions': WHATEVER THE INPUT: true; the input reads as it did. -/
def fnExactLeastExtensionsSpec : ChangeSpec := { name := "fnExactLeastExtensions", fn := fun _ => fun
  | [d1, d2, d3, d4] => { results := [.lit (.bool true)], args := [d1, d2, d3, d4] }
  | _ => none }
def fnExactLeastExtensionsRow : OpenClaim := { program := "ytcabbbidbkgalaa", sum := "56352eeef2e5ff4e67f709f8c11b9bf5e2b7a3dd7396480bcbfaeb932381b216", func := "loop.example/g03318/laws.FnExactLeastExtensions", spec := "fnExactLeastExtensions", apart := false }
def FnExactLeastExtensionsSaid : Prop := fnExactLeastExtensionsRow.holds Try.pinned (OpenSpec.ofChange fnExactLeastExtensionsSpec)

/-- ITS FALSE NEIGHBOUR: 'it returns false'. Refute it at one input. -/
def fnExactLeastExtensionsWrong : ChangeSpec := { name := "fnExactLeastExtensions", fn := fun _ => fun
  | [d1, d2, d3, d4] => { results := [.lit (.bool false)], args := [d1, d2, d3, d4] }
  | _ => none }
def FnExactLeastExtensionsWrongFalsely : Prop := fnExactLeastExtensionsRow.holds Try.pinned (OpenSpec.ofChange fnExactLeastExtensionsWrong)

/-- 'laws.FnExactCanExtend': WHATEVER THE INPUT: true; the input reads as it did. -/
def fnExactCanExtendSpec : ChangeSpec := { name := "fnExactCanExtend", fn := fun _ => fun
  | [d1, d2, d3, d4, d5] => { results := [.lit (.bool true)], args := [d1, d2, d3, d4, d5] }
  | _ => none }
def fnExactCanExtendRow : OpenClaim := { program := "ytcabbbidbkgalaa", sum := "56352eeef2e5ff4e67f709f8c11b9bf5e2b7a3dd7396480bcbfaeb932381b216", func := "loop.example/g03318/laws.FnExactCanExtend", spec := "fnExactCanExtend", apart := false }
def FnExactCanExtendSaid : Prop := fnExactCanExtendRow.holds Try.pinned (OpenSpec.ofChange fnExactCanExtendSpec)

/-- ITS FALSE NEIGHBOUR: 'it returns false'. Refute it at one input. -/
def fnExactCanExtendWrong : ChangeSpec := { name := "fnExactCanExtend", fn := fun _ => fun
  | [d1, d2, d3, d4, d5] => { results := [.lit (.bool false)], args := [d1, d2, d3, d4, d5] }
  | _ => none }
def FnExactCanExtendWrongFalsely : Prop := fnExactCanExtendRow.holds Try.pinned (OpenSpec.ofChange fnExactCanExtendWrong)

/-- 'laws.FnExactNextRise': WHATEVER THE INPUT: true; the input reads as it did. -/
def fnExactNextRiseSpec : ChangeSpec := { name := "fnExactNextRise", fn := fun _ => fun
  | [d1, d2, d3, d4, d5, d6] => { results := [.lit (.bool true)], args := [d1, d2, d3, d4, d5, d6] }
  | _ => none }
def fnExactNextRiseRow : OpenClaim := { program := "ytcabbbidbkgalaa", sum := "56352eeef2e5ff4e67f709f8c11b9bf5e2b7a3dd7396480bcbfaeb932381b216", func := "loop.example/g03318/laws.FnExactNextRise", spec := "fnExactNextRise", apart := false }
def FnExactNextRiseSaid : Prop := fnExactNextRiseRow.holds Try.pinned (OpenSpec.ofChange fnExactNextRiseSpec)

/-- ITS FALSE NEIGHBOUR: 'it returns false'. Refute it at one input. -/
def fnExactNextRiseWrong : ChangeSpec := { name := "fnExactNextRise", fn := fun _ => fun
  | [d1, d2, d3, d4, d5, d6] => { results := [.lit (.bool false)], args := [d1, d2, d3, d4, d5, d6] }
  | _ => none }
def FnExactNextRiseWrongFalsely : Prop := fnExactNextRiseRow.holds Try.pinned (OpenSpec.ofChange fnExactNextRiseWrong)

/-- 'laws.FnDeadlines': WHATEVER THE INPUT: true; the input reads as it did. -/
def fnDeadlinesSpec : ChangeSpec := { name := "fnDeadlines", fn := fun _ => fun
  | [d] => { results := [.lit (.bool true)], args := [d] }
  | _ => none }
def fnDeadlinesRow : OpenClaim := { program := "ytcabbbidbkgalaa", sum := "56352eeef2e5ff4e67f709f8c11b9bf5e2b7a3dd7396480bcbfaeb932381b216", func := "loop.example/g03318/laws.FnDeadlines", spec := "fnDeadlines", apart := false }
def FnDeadlinesSaid : Prop := fnDeadlinesRow.holds Try.pinned (OpenSpec.ofChange fnDeadlinesSpec)

/-- ITS FALSE NEIGHBOUR: 'it returns false'. Refute it at one input. -/
def fnDeadlinesWrong : ChangeSpec := { name := "fnDeadlines", fn := fun _ => fun
  | [d] => { results := [.lit (.bool false)], args := [d] }
  | _ => none }
def FnDeadlinesWrongFalsely : Prop := fnDeadlinesRow.holds Try.pinned (OpenSpec.ofChange fnDeadlinesWrong)

/-- 'laws.FnFees': WHATEVER THE INPUT: true; the input reads as it did. -/
def fnFeesSpec : ChangeSpec := { name := "fnFees", fn := fun _ => fun
  | [d] => { results := [.lit (.bool true)], args := [d] }
  | _ => none }
def fnFeesRow : OpenClaim := { program := "ytcabbbidbkgalaa", sum := "56352eeef2e5ff4e67f709f8c11b9bf5e2b7a3dd7396480bcbfaeb932381b216", func := "loop.example/g03318/laws.FnFees", spec := "fnFees", apart := false }
def FnFeesSaid : Prop := fnFeesRow.holds Try.pinned (OpenSpec.ofChange fnFeesSpec)

/-- ITS FALSE NEIGHBOUR: 'it returns false'. Refute it at one input. -/
def fnFeesWrong : ChangeSpec := { name := "fnFees", fn := fun _ => fun
  | [d] => { results := [.lit (.bool false)], args := [d] }
  | _ => none }
def FnFeesWrongFalsely : Prop := fnFeesRow.holds Try.pinned (OpenSpec.ofChange fnFeesWrong)

/- THE SECOND FORM. 'bulk': how many values and letters a reading holds, each counted each time it is reached (what is shared counts as often as it is met; a slice's spare places count too). A statement '..UptoSaid' is the law's where the arguments, and the package variables that the reading takes, are together of bulk at most 1048576: NARROWER than '..Said'. Prove '..Said' where nothing that the law and all that it calls make is longer than what came in: it says more and counts as full. Else prove '..UptoSaid'. A law counts once. -/
mutual
def uptoBulk {H : Type} : DataW H → Nat
  | .lit (.string bytes) => bytes.length + 1
  | .lit _ => 1
  | .nil => 1
  | .ptr d => uptoBulk d + 1
  | .slice elems spare => uptoBulkAll elems + uptoBulkAll spare + 1
  | .agg parts => uptoBulkAll parts + 1
  | .iface _ d => uptoBulk d + 1
  | .map entries => uptoBulkEntries entries + 1
  | .held _ => 1
def uptoBulkAll {H : Type} : List (DataW H) → Nat
  | [] => 0
  | d :: r => uptoBulk d + uptoBulkAll r
def uptoBulkEntries {H : Type} : List (Lit × DataW H) → Nat
  | [] => 0
  | x :: r => uptoBulkEntry x + uptoBulkEntries r
def uptoBulkEntry {H : Type} : Lit × DataW H → Nat
  | (.string bytes, d) => bytes.length + uptoBulk d + 1
  | (_, d) => uptoBulk d + 1
 end
def uptoSmall : (H : Type) → List (DataW H) → Bool := fun _ ds => decide (uptoBulkAll ds ≤ 1048576)
def OpenSpec.upto (s : _root_.Go.ChangeSpec) : _root_.Go.OpenSpec := { _root_.Go.OpenSpec.ofChange s with cond := some uptoSmall }

/-- 'laws.FnExactTermsOk', WHERE WHAT IT READS IS OF BULK AT MOST 1048576: true; the input reads as it did. -/
def fnExactTermsOkUptoRow : OpenClaim := { program := "ytcabbbidbkgalaa", sum := "56352eeef2e5ff4e67f709f8c11b9bf5e2b7a3dd7396480bcbfaeb932381b216", func := "loop.example/g03318/laws.FnExactTermsOk", spec := "fnExactTermsOk", apart := false, narrowed := true }
def FnExactTermsOkUptoSaid : Prop := fnExactTermsOkUptoRow.holds Try.pinned (OpenSpec.upto fnExactTermsOkSpec)

/-- 'laws.FnExactDeadlineOf', WHERE WHAT IT READS IS OF BULK AT MOST 1048576: true; the input reads as it did. -/
def fnExactDeadlineOfUptoRow : OpenClaim := { program := "ytcabbbidbkgalaa", sum := "56352eeef2e5ff4e67f709f8c11b9bf5e2b7a3dd7396480bcbfaeb932381b216", func := "loop.example/g03318/laws.FnExactDeadlineOf", spec := "fnExactDeadlineOf", apart := false, narrowed := true }
def FnExactDeadlineOfUptoSaid : Prop := fnExactDeadlineOfUptoRow.holds Try.pinned (OpenSpec.upto fnExactDeadlineOfSpec)

/-- 'laws.FnExactFreeUntil', WHERE WHAT IT READS IS OF BULK AT MOST 1048576: true; the input reads as it did. -/
def fnExactFreeUntilUptoRow : OpenClaim := { program := "ytcabbbidbkgalaa", sum := "56352eeef2e5ff4e67f709f8c11b9bf5e2b7a3dd7396480bcbfaeb932381b216", func := "loop.example/g03318/laws.FnExactFreeUntil", spec := "fnExactFreeUntil", apart := false, narrowed := true }
def FnExactFreeUntilUptoSaid : Prop := fnExactFreeUntilUptoRow.holds Try.pinned (OpenSpec.upto fnExactFreeUntilSpec)

/-- 'laws.FnExactFeeOf', WHERE WHAT IT READS IS OF BULK AT MOST 1048576: true; the input reads as it did. -/
def fnExactFeeOfUptoRow : OpenClaim := { program := "ytcabbbidbkgalaa", sum := "56352eeef2e5ff4e67f709f8c11b9bf5e2b7a3dd7396480bcbfaeb932381b216", func := "loop.example/g03318/laws.FnExactFeeOf", spec := "fnExactFeeOf", apart := false, narrowed := true }
def FnExactFeeOfUptoSaid : Prop := fnExactFeeOfUptoRow.holds Try.pinned (OpenSpec.upto fnExactFeeOfSpec)

/-- 'laws.FnExactOverdue', WHERE WHAT IT READS IS OF BULK AT MOST 1048576: true; the input reads as it did. -/
def fnExactOverdueUptoRow : OpenClaim := { program := "ytcabbbidbkgalaa", sum := "56352eeef2e5ff4e67f709f8c11b9bf5e2b7a3dd7396480bcbfaeb932381b216", func := "loop.example/g03318/laws.FnExactOverdue", spec := "fnExactOverdue", apart := false, narrowed := true }
def FnExactOverdueUptoSaid : Prop := fnExactOverdueUptoRow.holds Try.pinned (OpenSpec.upto fnExactOverdueSpec)

/-- 'laws.FnExactLeastExtensions', WHERE WHAT IT READS IS OF BULK AT MOST 1048576: true; the input reads as it did. -/
def fnExactLeastExtensionsUptoRow : OpenClaim := { program := "ytcabbbidbkgalaa", sum := "56352eeef2e5ff4e67f709f8c11b9bf5e2b7a3dd7396480bcbfaeb932381b216", func := "loop.example/g03318/laws.FnExactLeastExtensions", spec := "fnExactLeastExtensions", apart := false, narrowed := true }
def FnExactLeastExtensionsUptoSaid : Prop := fnExactLeastExtensionsUptoRow.holds Try.pinned (OpenSpec.upto fnExactLeastExtensionsSpec)

/-- 'laws.FnExactCanExtend', WHERE WHAT IT READS IS OF BULK AT MOST 1048576: true; the input reads as it did. -/
def fnExactCanExtendUptoRow : OpenClaim := { program := "ytcabbbidbkgalaa", sum := "56352eeef2e5ff4e67f709f8c11b9bf5e2b7a3dd7396480bcbfaeb932381b216", func := "loop.example/g03318/laws.FnExactCanExtend", spec := "fnExactCanExtend", apart := false, narrowed := true }
def FnExactCanExtendUptoSaid : Prop := fnExactCanExtendUptoRow.holds Try.pinned (OpenSpec.upto fnExactCanExtendSpec)

/-- 'laws.FnExactNextRise', WHERE WHAT IT READS IS OF BULK AT MOST 1048576: true; the input reads as it did. -/
def fnExactNextRiseUptoRow : OpenClaim := { program := "ytcabbbidbkgalaa", sum := "56352eeef2e5ff4e67f709f8c11b9bf5e2b7a3dd7396480bcbfaeb932381b216", func := "loop.example/g03318/laws.FnExactNextRise", spec := "fnExactNextRise", apart := false, narrowed := true }
def FnExactNextRiseUptoSaid : Prop := fnExactNextRiseUptoRow.holds Try.pinned (OpenSpec.upto fnExactNextRiseSpec)

/-- 'laws.FnDeadlines', WHERE WHAT IT READS IS OF BULK AT MOST 1048576: true; the input reads as it did. -/
def fnDeadlinesUptoRow : OpenClaim := { program := "ytcabbbidbkgalaa", sum := "56352eeef2e5ff4e67f709f8c11b9bf5e2b7a3dd7396480bcbfaeb932381b216", func := "loop.example/g03318/laws.FnDeadlines", spec := "fnDeadlines", apart := false, narrowed := true }
def FnDeadlinesUptoSaid : Prop := fnDeadlinesUptoRow.holds Try.pinned (OpenSpec.upto fnDeadlinesSpec)

/-- 'laws.FnFees', WHERE WHAT IT READS IS OF BULK AT MOST 1048576: true; the input reads as it did. -/
def fnFeesUptoRow : OpenClaim := { program := "ytcabbbidbkgalaa", sum := "56352eeef2e5ff4e67f709f8c11b9bf5e2b7a3dd7396480bcbfaeb932381b216", func := "loop.example/g03318/laws.FnFees", spec := "fnFees", apart := false, narrowed := true }
def FnFeesUptoSaid : Prop := fnFeesUptoRow.holds Try.pinned (OpenSpec.upto fnFeesSpec)

end Rows
end Go.Proofs.Ytcabbbidbkgalaa
