/-
  No cell of these rows narrows 'for every input' (looked for: loops, veiled, ifaces, maps, wideKeys, modest, calm, conditions, laid).
  DERIVED. THE GIVEN ROWS OF THIS SEAT. 15 by the template 'for every input the law returns true; each argument reads behind the call as it read before'; 0 by the template 'total and deterministic' (their statements: YtcpjfkagbnoagaaTotals.lean).
  GIVEN WITH THE SEED: the statements are not yours to turn. If you find one false, say at which input.
  Laid BY PROGRAM, IN A SANDBOX (cutbox-rows.mjs): the forced cells as the released guide's own fill.sh prints them over the translation 3829834f32c82414… (all of the seat's roots in one cut). By AI agents, Wed Nov 11 2026. No macro, syntax, notation, axiom, sorry.
-/
import Derived.Test.YtcpjfkagbnoagaaChecked
import GoSem.Claim
import GoSem.ClaimJoined
import GoSem.ClaimMapViews
import Derived.JoinedTies
import Derived.KernelRfl
namespace Go.Proofs.Ytcpjfkagbnoagaa
/- THE CELL 'sum', in the pinned program and in every row, IS THE sha256 OF THE DUMP (.gsa) THAT YtcpjfkagbnoagaaProg.lean LOADS. Nothing in Lean hashes anything: it is a label: what it is worth is what the hold of that sum in a sandbox is worth. -/
noncomputable def Try.pinned : Pinned := { name := "ytcpjfkagbnoagaa", sum := "3829834f32c8241451ba399b7ea87e28b9ceebcf674c0ce1a1d59679a433a174", checked := Try.checked }
namespace Rows
def none {H : Type} : Left H := { results := [], args := [] }

/-- 'laws.FnExactGrantOk': WHATEVER THE INPUT: true; the input reads as it did. -/
def fnExactGrantOkSpec : ChangeSpec := { name := "fnExactGrantOk", fn := fun _ => fun
  | [d] => { results := [.lit (.bool true)], args := [d] }
  | _ => none }
def fnExactGrantOkRow : OpenClaim := { program := "ytcpjfkagbnoagaa", sum := "3829834f32c8241451ba399b7ea87e28b9ceebcf674c0ce1a1d59679a433a174", func := "loop.example/g03318/laws.FnExactGrantOk", spec := "fnExactGrantOk", apart := false }
def FnExactGrantOkSaid : Prop := fnExactGrantOkRow.holds Try.pinned (OpenSpec.ofChange fnExactGrantOkSpec)

/-- ITS FALSE NEIGHBOUR: 'it returns false'. Refute it at one input. -/
def fnExactGrantOkWrong : ChangeSpec := { name := "fnExactGrantOk", fn := fun _ => fun
  | [d] => { results := [.lit (.bool false)], args := [d] }
  | _ => none }
def FnExactGrantOkWrongFalsely : Prop := fnExactGrantOkRow.holds Try.pinned (OpenSpec.ofChange fnExactGrantOkWrong)

/-- 'laws.FnExactApplies': WHATEVER THE INPUT: true; the input reads as it did. -/
def fnExactAppliesSpec : ChangeSpec := { name := "fnExactApplies", fn := fun _ => fun
  | [d1, d2, d3] => { results := [.lit (.bool true)], args := [d1, d2, d3] }
  | _ => none }
def fnExactAppliesRow : OpenClaim := { program := "ytcpjfkagbnoagaa", sum := "3829834f32c8241451ba399b7ea87e28b9ceebcf674c0ce1a1d59679a433a174", func := "loop.example/g03318/laws.FnExactApplies", spec := "fnExactApplies", apart := false }
def FnExactAppliesSaid : Prop := fnExactAppliesRow.holds Try.pinned (OpenSpec.ofChange fnExactAppliesSpec)

/-- ITS FALSE NEIGHBOUR: 'it returns false'. Refute it at one input. -/
def fnExactAppliesWrong : ChangeSpec := { name := "fnExactApplies", fn := fun _ => fun
  | [d1, d2, d3] => { results := [.lit (.bool false)], args := [d1, d2, d3] }
  | _ => none }
def FnExactAppliesWrongFalsely : Prop := fnExactAppliesRow.holds Try.pinned (OpenSpec.ofChange fnExactAppliesWrong)

/-- 'laws.FnExactGrantsOk': WHATEVER THE INPUT: true; the input reads as it did. -/
def fnExactGrantsOkSpec : ChangeSpec := { name := "fnExactGrantsOk", fn := fun _ => fun
  | [d] => { results := [.lit (.bool true)], args := [d] }
  | _ => none }
def fnExactGrantsOkRow : OpenClaim := { program := "ytcpjfkagbnoagaa", sum := "3829834f32c8241451ba399b7ea87e28b9ceebcf674c0ce1a1d59679a433a174", func := "loop.example/g03318/laws.FnExactGrantsOk", spec := "fnExactGrantsOk", unfollowed := true, recurses := true, apart := false }
def FnExactGrantsOkSaid : Prop := fnExactGrantsOkRow.holds Try.pinned (OpenSpec.ofChange fnExactGrantsOkSpec)

/-- ITS FALSE NEIGHBOUR: 'it returns false'. Refute it at one input. -/
def fnExactGrantsOkWrong : ChangeSpec := { name := "fnExactGrantsOk", fn := fun _ => fun
  | [d] => { results := [.lit (.bool false)], args := [d] }
  | _ => none }
def FnExactGrantsOkWrongFalsely : Prop := fnExactGrantsOkRow.holds Try.pinned (OpenSpec.ofChange fnExactGrantsOkWrong)

/-- 'laws.FnExactAddGrant': WHATEVER THE INPUT: true; the input reads as it did. -/
def fnExactAddGrantSpec : ChangeSpec := { name := "fnExactAddGrant", fn := fun _ => fun
  | [d1, d2] => { results := [.lit (.bool true)], args := [d1, d2] }
  | _ => none }
def fnExactAddGrantRow : OpenClaim := { program := "ytcpjfkagbnoagaa", sum := "3829834f32c8241451ba399b7ea87e28b9ceebcf674c0ce1a1d59679a433a174", func := "loop.example/g03318/laws.FnExactAddGrant", spec := "fnExactAddGrant", unfollowed := true, recurses := true, apart := false }
def FnExactAddGrantSaid : Prop := fnExactAddGrantRow.holds Try.pinned (OpenSpec.ofChange fnExactAddGrantSpec)

/-- ITS FALSE NEIGHBOUR: 'it returns false'. Refute it at one input. -/
def fnExactAddGrantWrong : ChangeSpec := { name := "fnExactAddGrant", fn := fun _ => fun
  | [d1, d2] => { results := [.lit (.bool false)], args := [d1, d2] }
  | _ => none }
def FnExactAddGrantWrongFalsely : Prop := fnExactAddGrantRow.holds Try.pinned (OpenSpec.ofChange fnExactAddGrantWrong)

/-- 'laws.FnExactRevoke': WHATEVER THE INPUT: true; the input reads as it did. -/
def fnExactRevokeSpec : ChangeSpec := { name := "fnExactRevoke", fn := fun _ => fun
  | [d1, d2] => { results := [.lit (.bool true)], args := [d1, d2] }
  | _ => none }
def fnExactRevokeRow : OpenClaim := { program := "ytcpjfkagbnoagaa", sum := "3829834f32c8241451ba399b7ea87e28b9ceebcf674c0ce1a1d59679a433a174", func := "loop.example/g03318/laws.FnExactRevoke", spec := "fnExactRevoke", unfollowed := true, recurses := true, apart := false }
def FnExactRevokeSaid : Prop := fnExactRevokeRow.holds Try.pinned (OpenSpec.ofChange fnExactRevokeSpec)

/-- ITS FALSE NEIGHBOUR: 'it returns false'. Refute it at one input. -/
def fnExactRevokeWrong : ChangeSpec := { name := "fnExactRevoke", fn := fun _ => fun
  | [d1, d2] => { results := [.lit (.bool false)], args := [d1, d2] }
  | _ => none }
def FnExactRevokeWrongFalsely : Prop := fnExactRevokeRow.holds Try.pinned (OpenSpec.ofChange fnExactRevokeWrong)

/-- 'laws.FnChains': WHATEVER THE INPUT: true; the input reads as it did. -/
def fnChainsSpec : ChangeSpec := { name := "fnChains", fn := fun _ => fun
  | [d] => { results := [.lit (.bool true)], args := [d] }
  | _ => none }
def fnChainsRow : OpenClaim := { program := "ytcpjfkagbnoagaa", sum := "3829834f32c8241451ba399b7ea87e28b9ceebcf674c0ce1a1d59679a433a174", func := "loop.example/g03318/laws.FnChains", spec := "fnChains", unfollowed := true, recurses := true, apart := false }
def FnChainsSaid : Prop := fnChainsRow.holds Try.pinned (OpenSpec.ofChange fnChainsSpec)

/-- ITS FALSE NEIGHBOUR: 'it returns false'. Refute it at one input. -/
def fnChainsWrong : ChangeSpec := { name := "fnChains", fn := fun _ => fun
  | [d] => { results := [.lit (.bool false)], args := [d] }
  | _ => none }
def FnChainsWrongFalsely : Prop := fnChainsRow.holds Try.pinned (OpenSpec.ofChange fnChainsWrong)

/-- 'laws.FnExactChainOf': WHATEVER THE INPUT: true; the input reads as it did. -/
def fnExactChainOfSpec : ChangeSpec := { name := "fnExactChainOf", fn := fun _ => fun
  | [d1, d2, d3, d4, d5] => { results := [.lit (.bool true)], args := [d1, d2, d3, d4, d5] }
  | _ => none }
def fnExactChainOfRow : OpenClaim := { program := "ytcpjfkagbnoagaa", sum := "3829834f32c8241451ba399b7ea87e28b9ceebcf674c0ce1a1d59679a433a174", func := "loop.example/g03318/laws.FnExactChainOf", spec := "fnExactChainOf", unfollowed := true, recurses := true, apart := false }
def FnExactChainOfSaid : Prop := fnExactChainOfRow.holds Try.pinned (OpenSpec.ofChange fnExactChainOfSpec)

/-- ITS FALSE NEIGHBOUR: 'it returns false'. Refute it at one input. -/
def fnExactChainOfWrong : ChangeSpec := { name := "fnExactChainOf", fn := fun _ => fun
  | [d1, d2, d3, d4, d5] => { results := [.lit (.bool false)], args := [d1, d2, d3, d4, d5] }
  | _ => none }
def FnExactChainOfWrongFalsely : Prop := fnExactChainOfRow.holds Try.pinned (OpenSpec.ofChange fnExactChainOfWrong)

/-- 'laws.FnExactMayTake': WHATEVER THE INPUT: true; the input reads as it did. -/
def fnExactMayTakeSpec : ChangeSpec := { name := "fnExactMayTake", fn := fun _ => fun
  | [d1, d2, d3, d4, d5] => { results := [.lit (.bool true)], args := [d1, d2, d3, d4, d5] }
  | _ => none }
def fnExactMayTakeRow : OpenClaim := { program := "ytcpjfkagbnoagaa", sum := "3829834f32c8241451ba399b7ea87e28b9ceebcf674c0ce1a1d59679a433a174", func := "loop.example/g03318/laws.FnExactMayTake", spec := "fnExactMayTake", unfollowed := true, recurses := true, apart := false }
def FnExactMayTakeSaid : Prop := fnExactMayTakeRow.holds Try.pinned (OpenSpec.ofChange fnExactMayTakeSpec)

/-- ITS FALSE NEIGHBOUR: 'it returns false'. Refute it at one input. -/
def fnExactMayTakeWrong : ChangeSpec := { name := "fnExactMayTake", fn := fun _ => fun
  | [d1, d2, d3, d4, d5] => { results := [.lit (.bool false)], args := [d1, d2, d3, d4, d5] }
  | _ => none }
def FnExactMayTakeWrongFalsely : Prop := fnExactMayTakeRow.holds Try.pinned (OpenSpec.ofChange fnExactMayTakeWrong)

/-- 'laws.FnExactSpareOf': WHATEVER THE INPUT: true; the input reads as it did. -/
def fnExactSpareOfSpec : ChangeSpec := { name := "fnExactSpareOf", fn := fun _ => fun
  | [d1, d2, d3, d4, d5] => { results := [.lit (.bool true)], args := [d1, d2, d3, d4, d5] }
  | _ => none }
def fnExactSpareOfRow : OpenClaim := { program := "ytcpjfkagbnoagaa", sum := "3829834f32c8241451ba399b7ea87e28b9ceebcf674c0ce1a1d59679a433a174", func := "loop.example/g03318/laws.FnExactSpareOf", spec := "fnExactSpareOf", unfollowed := true, recurses := true, apart := false }
def FnExactSpareOfSaid : Prop := fnExactSpareOfRow.holds Try.pinned (OpenSpec.ofChange fnExactSpareOfSpec)

/-- ITS FALSE NEIGHBOUR: 'it returns false'. Refute it at one input. -/
def fnExactSpareOfWrong : ChangeSpec := { name := "fnExactSpareOf", fn := fun _ => fun
  | [d1, d2, d3, d4, d5] => { results := [.lit (.bool false)], args := [d1, d2, d3, d4, d5] }
  | _ => none }
def FnExactSpareOfWrongFalsely : Prop := fnExactSpareOfRow.holds Try.pinned (OpenSpec.ofChange fnExactSpareOfWrong)

/-- 'laws.FnExactEndOf': WHATEVER THE INPUT: true; the input reads as it did. -/
def fnExactEndOfSpec : ChangeSpec := { name := "fnExactEndOf", fn := fun _ => fun
  | [d1, d2, d3, d4, d5] => { results := [.lit (.bool true)], args := [d1, d2, d3, d4, d5] }
  | _ => none }
def fnExactEndOfRow : OpenClaim := { program := "ytcpjfkagbnoagaa", sum := "3829834f32c8241451ba399b7ea87e28b9ceebcf674c0ce1a1d59679a433a174", func := "loop.example/g03318/laws.FnExactEndOf", spec := "fnExactEndOf", unfollowed := true, recurses := true, apart := false }
def FnExactEndOfSaid : Prop := fnExactEndOfRow.holds Try.pinned (OpenSpec.ofChange fnExactEndOfSpec)

/-- ITS FALSE NEIGHBOUR: 'it returns false'. Refute it at one input. -/
def fnExactEndOfWrong : ChangeSpec := { name := "fnExactEndOf", fn := fun _ => fun
  | [d1, d2, d3, d4, d5] => { results := [.lit (.bool false)], args := [d1, d2, d3, d4, d5] }
  | _ => none }
def FnExactEndOfWrongFalsely : Prop := fnExactEndOfRow.holds Try.pinned (OpenSpec.ofChange fnExactEndOfWrong)

/-- 'laws.FnExactHoldersOf': WHATEVER THE INPUT: true; the input reads as it did. -/
def fnExactHoldersOfSpec : ChangeSpec := { name := "fnExactHoldersOf", fn := fun _ => fun
  | [d1, d2, d3, d4] => { results := [.lit (.bool true)], args := [d1, d2, d3, d4] }
  | _ => none }
def fnExactHoldersOfRow : OpenClaim := { program := "ytcpjfkagbnoagaa", sum := "3829834f32c8241451ba399b7ea87e28b9ceebcf674c0ce1a1d59679a433a174", func := "loop.example/g03318/laws.FnExactHoldersOf", spec := "fnExactHoldersOf", unfollowed := true, recurses := true, apart := false }
def FnExactHoldersOfSaid : Prop := fnExactHoldersOfRow.holds Try.pinned (OpenSpec.ofChange fnExactHoldersOfSpec)

/-- ITS FALSE NEIGHBOUR: 'it returns false'. Refute it at one input. -/
def fnExactHoldersOfWrong : ChangeSpec := { name := "fnExactHoldersOf", fn := fun _ => fun
  | [d1, d2, d3, d4] => { results := [.lit (.bool false)], args := [d1, d2, d3, d4] }
  | _ => none }
def FnExactHoldersOfWrongFalsely : Prop := fnExactHoldersOfRow.holds Try.pinned (OpenSpec.ofChange fnExactHoldersOfWrong)

/-- 'laws.FnExactNeededFor': WHATEVER THE INPUT: true; the input reads as it did. -/
def fnExactNeededForSpec : ChangeSpec := { name := "fnExactNeededFor", fn := fun _ => fun
  | [d1, d2, d3, d4, d5] => { results := [.lit (.bool true)], args := [d1, d2, d3, d4, d5] }
  | _ => none }
def fnExactNeededForRow : OpenClaim := { program := "ytcpjfkagbnoagaa", sum := "3829834f32c8241451ba399b7ea87e28b9ceebcf674c0ce1a1d59679a433a174", func := "loop.example/g03318/laws.FnExactNeededFor", spec := "fnExactNeededFor", unfollowed := true, recurses := true, apart := false }
def FnExactNeededForSaid : Prop := fnExactNeededForRow.holds Try.pinned (OpenSpec.ofChange fnExactNeededForSpec)

/-- ITS FALSE NEIGHBOUR: 'it returns false'. Refute it at one input. -/
def fnExactNeededForWrong : ChangeSpec := { name := "fnExactNeededFor", fn := fun _ => fun
  | [d1, d2, d3, d4, d5] => { results := [.lit (.bool false)], args := [d1, d2, d3, d4, d5] }
  | _ => none }
def FnExactNeededForWrongFalsely : Prop := fnExactNeededForRow.holds Try.pinned (OpenSpec.ofChange fnExactNeededForWrong)

/-- 'laws.FnGranting': WHATEVER THE INPUT: true; the input reads as it did. -/
def fnGrantingSpec : ChangeSpec := { name := "fnGranting", fn := fun _ => fun
  | [d] => { results := [.lit (.bool true)], args := [d] }
  | _ => none }
def fnGrantingRow : OpenClaim := { program := "ytcpjfkagbnoagaa", sum := "3829834f32c8241451ba399b7ea87e28b9ceebcf674c0ce1a1d59679a433a174", func := "loop.example/g03318/laws.FnGranting", spec := "fnGranting", unfollowed := true, recurses := true, apart := false }
def FnGrantingSaid : Prop := fnGrantingRow.holds Try.pinned (OpenSpec.ofChange fnGrantingSpec)

/-- ITS FALSE NEIGHBOUR: 'it returns false'. Refute it at one input. -/
def fnGrantingWrong : ChangeSpec := { name := "fnGranting", fn := fun _ => fun
  | [d] => { results := [.lit (.bool false)], args := [d] }
  | _ => none }
def FnGrantingWrongFalsely : Prop := fnGrantingRow.holds Try.pinned (OpenSpec.ofChange fnGrantingWrong)

/-- 'laws.FnEnds': WHATEVER THE INPUT: true; the input reads as it did. -/
def fnEndsSpec : ChangeSpec := { name := "fnEnds", fn := fun _ => fun
  | [d] => { results := [.lit (.bool true)], args := [d] }
  | _ => none }
def fnEndsRow : OpenClaim := { program := "ytcpjfkagbnoagaa", sum := "3829834f32c8241451ba399b7ea87e28b9ceebcf674c0ce1a1d59679a433a174", func := "loop.example/g03318/laws.FnEnds", spec := "fnEnds", unfollowed := true, recurses := true, apart := false }
def FnEndsSaid : Prop := fnEndsRow.holds Try.pinned (OpenSpec.ofChange fnEndsSpec)

/-- ITS FALSE NEIGHBOUR: 'it returns false'. Refute it at one input. -/
def fnEndsWrong : ChangeSpec := { name := "fnEnds", fn := fun _ => fun
  | [d] => { results := [.lit (.bool false)], args := [d] }
  | _ => none }
def FnEndsWrongFalsely : Prop := fnEndsRow.holds Try.pinned (OpenSpec.ofChange fnEndsWrong)

/-- 'laws.FnRevoking': WHATEVER THE INPUT: true; the input reads as it did. -/
def fnRevokingSpec : ChangeSpec := { name := "fnRevoking", fn := fun _ => fun
  | [d] => { results := [.lit (.bool true)], args := [d] }
  | _ => none }
def fnRevokingRow : OpenClaim := { program := "ytcpjfkagbnoagaa", sum := "3829834f32c8241451ba399b7ea87e28b9ceebcf674c0ce1a1d59679a433a174", func := "loop.example/g03318/laws.FnRevoking", spec := "fnRevoking", unfollowed := true, recurses := true, apart := false }
def FnRevokingSaid : Prop := fnRevokingRow.holds Try.pinned (OpenSpec.ofChange fnRevokingSpec)

/-- ITS FALSE NEIGHBOUR: 'it returns false'. Refute it at one input. -/
def fnRevokingWrong : ChangeSpec := { name := "fnRevoking", fn := fun _ => fun
  | [d] => { results := [.lit (.bool false)], args := [d] }
  | _ => none }
def FnRevokingWrongFalsely : Prop := fnRevokingRow.holds Try.pinned (OpenSpec.ofChange fnRevokingWrong)

/- THE SECOND FORM. 'bulk': how many values and letters a reading holds, each counted each time it is reached (what is shared counts as often as it is met; a slice's spare places count too). A statement '..UptoSaid' is the law's where the arguments, and the package variables that the reading takes, are together of bulk at most 1048576: NARROWER than '..Said'. Prove '..Said' where nothing that the law and all that it calls make is longer than what came in: it says more and counts as full. Else prove '..UptoSaid'. A law counts once. -/
mutual
def uptoBulk {H : Type} : DataW H → Nat
  | .lit (.string bytes) => bytes.length + 1
  | .lit _ => 1
  | .nil => 1
  | .ptr d => uptoBulk d + 1
  | .slice elems spare => uptoBulkAll elems + uptoBulkAll spare + 1
  | .agg parts => uptoBulkAll parts + 1
  | .iface _ d => uptoBulk d + 1
  | .map entries => uptoBulkEntries entries + 1
  | .held _ => 1
def uptoBulkAll {H : Type} : List (DataW H) → Nat
  | [] => 0
  | d :: r => uptoBulk d + uptoBulkAll r
def uptoBulkEntries {H : Type} : List (Lit × DataW H) → Nat
  | [] => 0
  | x :: r => uptoBulkEntry x + uptoBulkEntries r
def uptoBulkEntry {H : Type} : Lit × DataW H → Nat
  | (.string bytes, d) => bytes.length + uptoBulk d + 1
  | (_, d) => uptoBulk d + 1
 end
def uptoSmall : (H : Type) → List (DataW H) → Bool := fun _ ds => decide (uptoBulkAll ds ≤ 1048576)
def OpenSpec.upto (s : _root_.Go.ChangeSpec) : _root_.Go.OpenSpec := { _root_.Go.OpenSpec.ofChange s with cond := some uptoSmall }

/-- 'laws.FnExactGrantOk', WHERE WHAT IT READS IS OF BULK AT MOST 1048576: true; the input reads as it did. -/
def fnExactGrantOkUptoRow : OpenClaim := { program := "ytcpjfkagbnoagaa", sum := "3829834f32c8241451ba399b7ea87e28b9ceebcf674c0ce1a1d59679a433a174", func := "loop.example/g03318/laws.FnExactGrantOk", spec := "fnExactGrantOk", apart := false, narrowed := true }
def FnExactGrantOkUptoSaid : Prop := fnExactGrantOkUptoRow.holds Try.pinned (OpenSpec.upto fnExactGrantOkSpec)

/-- 'laws.FnExactApplies', WHERE WHAT IT READS IS OF BULK AT MOST 1048576: true; the input reads as it did. -/
def fnExactAppliesUptoRow : OpenClaim := { program := "ytcpjfkagbnoagaa", sum := "3829834f32c8241451ba399b7ea87e28b9ceebcf674c0ce1a1d59679a433a174", func := "loop.example/g03318/laws.FnExactApplies", spec := "fnExactApplies", apart := false, narrowed := true }
def FnExactAppliesUptoSaid : Prop := fnExactAppliesUptoRow.holds Try.pinned (OpenSpec.upto fnExactAppliesSpec)

/-- 'laws.FnExactGrantsOk', WHERE WHAT IT READS IS OF BULK AT MOST 1048576: true; the input reads as it did. -/
def fnExactGrantsOkUptoRow : OpenClaim := { program := "ytcpjfkagbnoagaa", sum := "3829834f32c8241451ba399b7ea87e28b9ceebcf674c0ce1a1d59679a433a174", func := "loop.example/g03318/laws.FnExactGrantsOk", spec := "fnExactGrantsOk", unfollowed := true, recurses := true, apart := false, narrowed := true }
def FnExactGrantsOkUptoSaid : Prop := fnExactGrantsOkUptoRow.holds Try.pinned (OpenSpec.upto fnExactGrantsOkSpec)

/-- 'laws.FnExactAddGrant', WHERE WHAT IT READS IS OF BULK AT MOST 1048576: true; the input reads as it did. -/
def fnExactAddGrantUptoRow : OpenClaim := { program := "ytcpjfkagbnoagaa", sum := "3829834f32c8241451ba399b7ea87e28b9ceebcf674c0ce1a1d59679a433a174", func := "loop.example/g03318/laws.FnExactAddGrant", spec := "fnExactAddGrant", unfollowed := true, recurses := true, apart := false, narrowed := true }
def FnExactAddGrantUptoSaid : Prop := fnExactAddGrantUptoRow.holds Try.pinned (OpenSpec.upto fnExactAddGrantSpec)

/-- 'laws.FnExactRevoke', WHERE WHAT IT READS IS OF BULK AT MOST 1048576: true; the input reads as it did. -/
def fnExactRevokeUptoRow : OpenClaim := { program := "ytcpjfkagbnoagaa", sum := "3829834f32c8241451ba399b7ea87e28b9ceebcf674c0ce1a1d59679a433a174", func := "loop.example/g03318/laws.FnExactRevoke", spec := "fnExactRevoke", unfollowed := true, recurses := true, apart := false, narrowed := true }
def FnExactRevokeUptoSaid : Prop := fnExactRevokeUptoRow.holds Try.pinned (OpenSpec.upto fnExactRevokeSpec)

/-- 'laws.FnChains', WHERE WHAT IT READS IS OF BULK AT MOST 1048576: true; the input reads as it did. -/
def fnChainsUptoRow : OpenClaim := { program := "ytcpjfkagbnoagaa", sum := "3829834f32c8241451ba399b7ea87e28b9ceebcf674c0ce1a1d59679a433a174", func := "loop.example/g03318/laws.FnChains", spec := "fnChains", unfollowed := true, recurses := true, apart := false, narrowed := true }
def FnChainsUptoSaid : Prop := fnChainsUptoRow.holds Try.pinned (OpenSpec.upto fnChainsSpec)

/-- 'laws.FnExactChainOf', WHERE WHAT IT READS IS OF BULK AT MOST 1048576: true; the input reads as it did. -/
def fnExactChainOfUptoRow : OpenClaim := { program := "ytcpjfkagbnoagaa", sum := "3829834f32c8241451ba399b7ea87e28b9ceebcf674c0ce1a1d59679a433a174", func := "loop.example/g03318/laws.FnExactChainOf", spec := "fnExactChainOf", unfollowed := true, recurses := true, apart := false, narrowed := true }
def FnExactChainOfUptoSaid : Prop := fnExactChainOfUptoRow.holds Try.pinned (OpenSpec.upto fnExactChainOfSpec)

/-- 'laws.FnExactMayTake', WHERE WHAT IT READS IS OF BULK AT MOST 1048576: true; the input reads as it did. -/
def fnExactMayTakeUptoRow : OpenClaim := { program := "ytcpjfkagbnoagaa", sum := "3829834f32c8241451ba399b7ea87e28b9ceebcf674c0ce1a1d59679a433a174", func := "loop.example/g03318/laws.FnExactMayTake", spec := "fnExactMayTake", unfollowed := true, recurses := true, apart := false, narrowed := true }
def FnExactMayTakeUptoSaid : Prop := fnExactMayTakeUptoRow.holds Try.pinned (OpenSpec.upto fnExactMayTakeSpec)

/-- 'laws.FnExactSpareOf', WHERE WHAT IT READS IS OF BULK AT MOST 1048576: true; the input reads as it did. -/
def fnExactSpareOfUptoRow : OpenClaim := { program := "ytcpjfkagbnoagaa", sum := "3829834f32c8241451ba399b7ea87e28b9ceebcf674c0ce1a1d59679a433a174", func := "loop.example/g03318/laws.FnExactSpareOf", spec := "fnExactSpareOf", unfollowed := true, recurses := true, apart := false, narrowed := true }
def FnExactSpareOfUptoSaid : Prop := fnExactSpareOfUptoRow.holds Try.pinned (OpenSpec.upto fnExactSpareOfSpec)

/-- 'laws.FnExactEndOf', WHERE WHAT IT READS IS OF BULK AT MOST 1048576: true; the input reads as it did. -/
def fnExactEndOfUptoRow : OpenClaim := { program := "ytcpjfkagbnoagaa", sum := "3829834f32c8241451ba399b7ea87e28b9ceebcf674c0ce1a1d59679a433a174", func := "loop.example/g03318/laws.FnExactEndOf", spec := "fnExactEndOf", unfollowed := true, recurses := true, apart := false, narrowed := true }
def FnExactEndOfUptoSaid : Prop := fnExactEndOfUptoRow.holds Try.pinned (OpenSpec.upto fnExactEndOfSpec)

/-- 'laws.FnExactHoldersOf', WHERE WHAT IT READS IS OF BULK AT MOST 1048576: true; the input reads as it did. -/
def fnExactHoldersOfUptoRow : OpenClaim := { program := "ytcpjfkagbnoagaa", sum := "3829834f32c8241451ba399b7ea87e28b9ceebcf674c0ce1a1d59679a433a174", func := "loop.example/g03318/laws.FnExactHoldersOf", spec := "fnExactHoldersOf", unfollowed := true, recurses := true, apart := false, narrowed := true }
def FnExactHoldersOfUptoSaid : Prop := fnExactHoldersOfUptoRow.holds Try.pinned (OpenSpec.upto fnExactHoldersOfSpec)

/-- 'laws.FnExactNeededFor', WHERE WHAT IT READS IS OF BULK AT MOST 1048576: true; the input reads as it did. -/
def fnExactNeededForUptoRow : OpenClaim := { program := "ytcpjfkagbnoagaa", sum := "3829834f32c8241451ba399b7ea87e28b9ceebcf674c0ce1a1d59679a433a174", func := "loop.example/g03318/laws.FnExactNeededFor", spec := "fnExactNeededFor", unfollowed := true, recurses := true, apart := false, narrowed := true }
def FnExactNeededForUptoSaid : Prop := fnExactNeededForUptoRow.holds Try.pinned (OpenSpec.upto fnExactNeededForSpec)

/-- 'laws.FnGranting', WHERE WHAT IT READS IS OF BULK AT MOST 1048576: true; the input reads as it did. -/
def fnGrantingUptoRow : OpenClaim := { program := "ytcpjfkagbnoagaa", sum := "3829834f32c8241451ba399b7ea87e28b9ceebcf674c0ce1a1d59679a433a174", func := "loop.example/g03318/laws.FnGranting", spec := "fnGranting", unfollowed := true, recurses := true, apart := false, narrowed := true }
def FnGrantingUptoSaid : Prop := fnGrantingUptoRow.holds Try.pinned (OpenSpec.upto fnGrantingSpec)

/-- 'laws.FnEnds', WHERE WHAT IT READS IS OF BULK AT MOST 1048576: true; the input reads as it did. -/
def fnEndsUptoRow : OpenClaim := { program := "ytcpjfkagbnoagaa", sum := "3829834f32c8241451ba399b7ea87e28b9ceebcf674c0ce1a1d59679a433a174", func := "loop.example/g03318/laws.FnEnds", spec := "fnEnds", unfollowed := true, recurses := true, apart := false, narrowed := true }
def FnEndsUptoSaid : Prop := fnEndsUptoRow.holds Try.pinned (OpenSpec.upto fnEndsSpec)

/-- 'laws.FnRevoking', WHERE WHAT IT READS IS OF BULK AT MOST 1048576: true; the input reads as it did. -/
def fnRevokingUptoRow : OpenClaim := { program := "ytcpjfkagbnoagaa", sum := "3829834f32c8241451ba399b7ea87e28b9ceebcf674c0ce1a1d59679a433a174", func := "loop.example/g03318/laws.FnRevoking", spec := "fnRevoking", unfollowed := true, recurses := true, apart := false, narrowed := true }
def FnRevokingUptoSaid : Prop := fnRevokingUptoRow.holds Try.pinned (OpenSpec.upto fnRevokingSpec)

end Rows
end Go.Proofs.Ytcpjfkagbnoagaa
