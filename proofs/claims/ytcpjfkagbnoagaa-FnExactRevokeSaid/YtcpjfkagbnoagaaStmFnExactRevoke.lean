/- The pure statement of FnExactRevoke, as rowgen.py wrote it: no memory, no Go. -/
import Derived.Test.YtcpjfkagbnoagaaQFnExactRevokex4
namespace Go.Proofs.Ytcpjfkagbnoagaa.Stm
open Go.RowKit Go.Proofs.Ytcpjfkagbnoagaa.QFnExactRevoke Go.Proofs.YtcpjfkagbnoagaaW.PrintWords Go.Proofs.YtcpjfkagbnoagaaW.PrintLast
def FnExactRevoke : Prop := ∀ (l0 : List S23) (a1 : Int), l0.length ≤ 9223372036854775807 → (∀ y ∈ l0, (Lit.int .i64 y.f0).wf = true ∧ (Lit.int .i64 y.f1).wf = true ∧ (Lit.int .i64 y.f2).wf = true ∧ (Lit.int .i64 y.f3).wf = true ∧ (Lit.int .i64 y.f4).wf = true ∧ (Lit.int .i64 y.f5).wf = true) → (Lit.int .i64 a1).wf = true → ∃ k, laws_FnExactRevoke.f k l0 a1 = some true
end Go.Proofs.Ytcpjfkagbnoagaa.Stm
