/- The pure statement of FnExactBeginDoor, as rowgen.py wrote it: no memory, no Go. -/
import Derived.Test.YtglpkjcblpjnoaaQFnExactBeginDoorx2
namespace Go.Proofs.Ytglpkjcblpjnoaa.Stm
open Go.RowKit Go.Proofs.Ytglpkjcblpjnoaa.QFnExactBeginDoor Go.Proofs.YtglpkjcblpjnoaaW.PrintWords Go.Proofs.YtglpkjcblpjnoaaW.PrintLast
def FnExactBeginDoor : Prop := ∀ (a0_0 : Int) (a0_1 : Int) (a0_2 : Bool) (a0_3 : Bool) (a0_4 : Bool) (a1 : Int), (Lit.int .i64 a0_0).wf = true → (Lit.int .i64 a0_1).wf = true → (Lit.int .i64 a1).wf = true → ∃ k, laws_FnExactBeginDoor.f k a0_0 a0_1 a0_2 a0_3 a0_4 a1 = some true
end Go.Proofs.Ytglpkjcblpjnoaa.Stm
