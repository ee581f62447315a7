/- The pure statement of FnExactEndOf, as rowgen.py wrote it: no memory, no Go. -/
import Derived.Test.YtcpjfkagbnoagaaQFnExactEndOfx9
namespace Go.Proofs.Ytcpjfkagbnoagaa.Stm
open Go.RowKit Go.Proofs.Ytcpjfkagbnoagaa.QFnExactEndOf Go.Proofs.YtcpjfkagbnoagaaW.PrintWords Go.Proofs.YtcpjfkagbnoagaaW.PrintLast
def FnExactEndOf : Prop := ∀ (l0 : List S23) (a1 : Int) (a2 : Int) (a3 : Int) (a4 : Int), l0.length ≤ 9223372036854775807 → (∀ y ∈ l0, (Lit.int .i64 y.f0).wf = true ∧ (Lit.int .i64 y.f1).wf = true ∧ (Lit.int .i64 y.f2).wf = true ∧ (Lit.int .i64 y.f3).wf = true ∧ (Lit.int .i64 y.f4).wf = true ∧ (Lit.int .i64 y.f5).wf = true) → (Lit.int .i64 a1).wf = true → (Lit.int .i64 a2).wf = true → (Lit.int .i64 a3).wf = true → (Lit.int .i64 a4).wf = true → ∃ k, laws_FnExactEndOf.f k l0 a1 a2 a3 a4 = some true
end Go.Proofs.Ytcpjfkagbnoagaa.Stm
