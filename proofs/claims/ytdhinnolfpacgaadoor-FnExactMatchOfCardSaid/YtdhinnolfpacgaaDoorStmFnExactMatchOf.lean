/- The pure statement of FnExactMatchOf, as rowgen.py wrote it: no memory, no Go. -/
import Derived.Test.YtdhinnolfpacgaaDoorQFnExactMatchOfx2
namespace Go.Proofs.YtdhinnolfpacgaaDoor.Stm
open Go.RowKit Go.Proofs.YtdhinnolfpacgaaDoor.QFnExactMatchOf Go.Proofs.YtdhinnolfpacgaaDoorW.PrintWords Go.Proofs.YtdhinnolfpacgaaDoorW.PrintLast
def FnExactMatchOf : Prop := ∀ (a0_0 : Int) (a0_1 : Int) (a0_2 : Int) (a0_3 : Int) (a0_4 : Int) (a1 : ByteArray), (Lit.int .i64 a0_0).wf = true → (Lit.int .i64 a0_1).wf = true → (Lit.int .i64 a0_2).wf = true → (Lit.int .i64 a0_3).wf = true → (Lit.int .i64 a0_4).wf = true → a1.size ≤ 140737488351232 → ∃ k, laws_FnExactMatchOf.f k a0_0 a0_1 a0_2 a0_3 a0_4 a1 = some true
end Go.Proofs.YtdhinnolfpacgaaDoor.Stm
