/- The pure statement of FnExactTry, as rowgen.py wrote it: no memory, no Go. -/
import Derived.Test.YtdhinnolfpacgaaDoorQFnExactTryx3
namespace Go.Proofs.YtdhinnolfpacgaaDoor.Stm
open Go.RowKit Go.Proofs.YtdhinnolfpacgaaDoor.QFnExactTry Go.Proofs.YtdhinnolfpacgaaDoorW.PrintWords Go.Proofs.YtdhinnolfpacgaaDoorW.PrintLast
def FnExactTry : Prop := ∀ (a0_0 : Int) (a0_1 : Int) (a0_2 : Int) (a0_3 : Int) (a0_4 : Int) (a1 : ByteArray) (a2 : Int), (Lit.int .i64 a0_0).wf = true → (Lit.int .i64 a0_1).wf = true → (Lit.int .i64 a0_2).wf = true → (Lit.int .i64 a0_3).wf = true → (Lit.int .i64 a0_4).wf = true → a1.size ≤ 140737488351232 → (Lit.int .i64 a2).wf = true → ∃ k, laws_FnExactTry.f k a0_0 a0_1 a0_2 a0_3 a0_4 a1 a2 = some true
end Go.Proofs.YtdhinnolfpacgaaDoor.Stm
