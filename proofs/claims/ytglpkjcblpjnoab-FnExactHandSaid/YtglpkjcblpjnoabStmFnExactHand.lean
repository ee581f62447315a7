/- The pure statement of FnExactHand, as rowgen.py wrote it: no memory, no Go. -/
import Derived.Test.YtglpkjcblpjnoabPFnExactHandx4
namespace Go.Proofs.Ytglpkjcblpjnoab.Stm
open Go.RowKit Go.Proofs.Ytglpkjcblpjnoab.PFnExactHand Go.Proofs.YtglpkjcblpjnoabW.PrintWords Go.Proofs.YtglpkjcblpjnoabW.PrintLast
def FnExactHand : Prop := ∀ (a0_0 : Int) (a0_1 : Int) (a0_2 : Bool) (a0_3 : Bool) (a0_4 : Bool) (a1 : Int), (Lit.int .i64 a0_0).wf = true → (Lit.int .i64 a0_1).wf = true → (Lit.int .i64 a1).wf = true → ∃ k, laws_FnExactHand.f k a0_0 a0_1 a0_2 a0_3 a0_4 a1 = some true
end Go.Proofs.Ytglpkjcblpjnoab.Stm
