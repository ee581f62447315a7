/- The pure statement of FnExactCountFaults, as rowgen.py wrote it: no memory, no Go. -/
import Derived.Test.YtglpkjcblpjnoaaPFnExactCountFaultsx1
namespace Go.Proofs.Ytglpkjcblpjnoaa.Stm
open Go.RowKit Go.Proofs.Ytglpkjcblpjnoaa.PFnExactCountFaults Go.Proofs.YtglpkjcblpjnoaaW.PrintWords Go.Proofs.YtglpkjcblpjnoaaW.PrintLast
def FnExactCountFaults : Prop := ∀ (a0_0 : Int) (a0_1 : Int) (a0_2 : Int) (a0_3 : Int), (Lit.int .i64 a0_0).wf = true → (Lit.int .i64 a0_1).wf = true → (Lit.int .i64 a0_2).wf = true → (Lit.int .i64 a0_3).wf = true → ∃ k, laws_FnExactCountFaults.f k a0_0 a0_1 a0_2 a0_3 = some true
end Go.Proofs.Ytglpkjcblpjnoaa.Stm
