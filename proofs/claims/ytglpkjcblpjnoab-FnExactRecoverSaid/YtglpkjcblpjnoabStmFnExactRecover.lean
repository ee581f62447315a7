/- The pure statement of FnExactRecover, as rowgen.py wrote it: no memory, no Go. -/
import Derived.Test.YtglpkjcblpjnoabQFnExactRecoverx6
namespace Go.Proofs.Ytglpkjcblpjnoab.Stm
open Go.RowKit Go.Proofs.Ytglpkjcblpjnoab.QFnExactRecover Go.Proofs.YtglpkjcblpjnoabW.PrintWords Go.Proofs.YtglpkjcblpjnoabW.PrintLast
def FnExactRecover : Prop := ∀ (a0_0 : Int) (a0_1 : Int) (a0_2 : Bool) (a0_3 : Bool) (a0_4 : Bool) (a1_0 : Int) (a1_1 : Int) (a1_2 : Int) (a1_3 : Int), (Lit.int .i64 a0_0).wf = true → (Lit.int .i64 a0_1).wf = true → (Lit.int .i64 a1_0).wf = true → (Lit.int .i64 a1_1).wf = true → (Lit.int .i64 a1_2).wf = true → (Lit.int .i64 a1_3).wf = true → ∃ k, laws_FnExactRecover.f k a0_0 a0_1 a0_2 a0_3 a0_4 a1_0 a1_1 a1_2 a1_3 = some true
end Go.Proofs.Ytglpkjcblpjnoab.Stm
