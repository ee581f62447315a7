/- The pure statement of FnExactResync, as rowgen.py wrote it: no memory, no Go. -/
import Derived.Test.YtdhinnolfpacgaaDoorQFnExactResyncx4
namespace Go.Proofs.YtdhinnolfpacgaaDoor.Stm
open Go.RowKit Go.Proofs.YtdhinnolfpacgaaDoor.QFnExactResync Go.Proofs.YtdhinnolfpacgaaDoorW.PrintWords Go.Proofs.YtdhinnolfpacgaaDoorW.PrintLast
def FnExactResync : Prop := ∀ (a0_0 : Int) (a0_1 : Int) (a0_2 : Int) (a0_3 : Int) (a0_4 : Int) (a1 : ByteArray) (a2 : ByteArray) (a3 : Int), (Lit.int .i64 a0_0).wf = true → (Lit.int .i64 a0_1).wf = true → (Lit.int .i64 a0_2).wf = true → (Lit.int .i64 a0_3).wf = true → (Lit.int .i64 a0_4).wf = true → a1.size ≤ 140737488351232 → a2.size ≤ 140737488351232 → (Lit.int .i64 a3).wf = true → ∃ k, laws_FnExactResync.f k a0_0 a0_1 a0_2 a0_3 a0_4 a1 a2 a3 = some true
end Go.Proofs.YtdhinnolfpacgaaDoor.Stm
