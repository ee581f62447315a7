/- The pure statement of FnExactAdvance, as rowgen.py wrote it: no memory, no Go. -/
import Derived.Test.YtglpkjcblpjnoabPFnExactAdvancex4
namespace Go.Proofs.Ytglpkjcblpjnoab.Stm
open Go.RowKit Go.Proofs.Ytglpkjcblpjnoab.PFnExactAdvance Go.Proofs.YtglpkjcblpjnoabW.PrintWords Go.Proofs.YtglpkjcblpjnoabW.PrintLast
def FnExactAdvance : Prop := ∀ (a0_0 : Int) (a0_1 : Int) (a0_2 : Bool) (a0_3 : Bool) (a0_4 : Bool), (Lit.int .i64 a0_0).wf = true → (Lit.int .i64 a0_1).wf = true → ∃ k, laws_FnExactAdvance.f k a0_0 a0_1 a0_2 a0_3 a0_4 = some true
end Go.Proofs.Ytglpkjcblpjnoab.Stm
