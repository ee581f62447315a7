/- The pure statement of FnExactFaultsOk, as rowgen.py wrote it: no memory, no Go. -/
import Derived.Test.YtglpkjcblpjnoaaPFnExactFaultsOkx1
namespace Go.Proofs.Ytglpkjcblpjnoaa.Stm
open Go.RowKit Go.Proofs.Ytglpkjcblpjnoaa.PFnExactFaultsOk Go.Proofs.YtglpkjcblpjnoaaW.PrintWords Go.Proofs.YtglpkjcblpjnoaaW.PrintLast
def FnExactFaultsOk : Prop := ∀ (a0_0 : Int) (a0_1 : Int) (a0_2 : Int) (a0_3 : Int), (Lit.int .i64 a0_0).wf = true → (Lit.int .i64 a0_1).wf = true → (Lit.int .i64 a0_2).wf = true → (Lit.int .i64 a0_3).wf = true → laws_FnExactFaultsOk.f a0_0 a0_1 a0_2 a0_3 = some true
end Go.Proofs.Ytglpkjcblpjnoaa.Stm
