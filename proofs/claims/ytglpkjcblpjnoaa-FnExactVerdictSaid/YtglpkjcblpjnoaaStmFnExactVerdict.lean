/- The pure statement of FnExactVerdict, as rowgen.py wrote it: no memory, no Go. -/
import Derived.Test.YtglpkjcblpjnoaaPFnExactVerdictx1
namespace Go.Proofs.Ytglpkjcblpjnoaa.Stm
open Go.RowKit Go.Proofs.Ytglpkjcblpjnoaa.PFnExactVerdict Go.Proofs.YtglpkjcblpjnoaaW.PrintWords Go.Proofs.YtglpkjcblpjnoaaW.PrintLast
def FnExactVerdict : Prop := ∀ (a0 : Int) (a1_0 : Bool) (a1_1 : Bool) (a1_2 : Bool) (a1_3 : Bool), (Lit.int .i64 a0).wf = true → ∃ k, laws_FnExactVerdict.f k a0 a1_0 a1_1 a1_2 a1_3 = some true
end Go.Proofs.Ytglpkjcblpjnoaa.Stm
