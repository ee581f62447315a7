/- The pure statement of FnExactDoActs, as rowgen.py wrote it: no memory, no Go. -/
import Derived.Test.YtglpkjcblpjnoabQFnExactDoActsx12
namespace Go.Proofs.Ytglpkjcblpjnoab.Stm
open Go.RowKit Go.Proofs.Ytglpkjcblpjnoab.QFnExactDoActs Go.Proofs.YtglpkjcblpjnoabW.PrintWords Go.Proofs.YtglpkjcblpjnoabW.PrintLast
def FnExactDoActs : Prop := ∀ (a0_0 : Int) (a0_1 : Int) (a0_2 : Bool) (a0_3 : Bool) (a0_4 : Bool) (l1 : List Int), (Lit.int .i64 a0_0).wf = true → (Lit.int .i64 a0_1).wf = true → l1.length ≤ maxLen → (∀ x ∈ l1, (Lit.int .i64 x).wf = true) → ∃ k, laws_FnExactDoActs.f k a0_0 a0_1 a0_2 a0_3 a0_4 l1 = some true
end Go.Proofs.Ytglpkjcblpjnoab.Stm
