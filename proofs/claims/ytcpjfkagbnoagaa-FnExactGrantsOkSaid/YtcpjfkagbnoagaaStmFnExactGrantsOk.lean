/- The pure statement of FnExactGrantsOk, as rowgen.py wrote it: no memory, no Go. -/
import Derived.Test.YtcpjfkagbnoagaaQFnExactGrantsOkx2
namespace Go.Proofs.Ytcpjfkagbnoagaa.Stm
open Go.RowKit Go.Proofs.Ytcpjfkagbnoagaa.QFnExactGrantsOk Go.Proofs.YtcpjfkagbnoagaaW.PrintWords Go.Proofs.YtcpjfkagbnoagaaW.PrintLast
def FnExactGrantsOk : Prop := ∀ (l0 : List S23), l0.length ≤ 9223372036854775807 → (∀ y ∈ l0, (Lit.int .i64 y.f0).wf = true ∧ (Lit.int .i64 y.f1).wf = true ∧ (Lit.int .i64 y.f2).wf = true ∧ (Lit.int .i64 y.f3).wf = true ∧ (Lit.int .i64 y.f4).wf = true ∧ (Lit.int .i64 y.f5).wf = true) → ∃ k, laws_FnExactGrantsOk.f k l0 = some true
end Go.Proofs.Ytcpjfkagbnoagaa.Stm
