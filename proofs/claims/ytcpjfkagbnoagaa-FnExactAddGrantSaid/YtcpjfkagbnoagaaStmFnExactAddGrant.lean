/- The pure statement of FnExactAddGrant, as rowgen.py wrote it: no memory, no Go. -/
import Derived.Test.YtcpjfkagbnoagaaQFnExactAddGrantx4
namespace Go.Proofs.Ytcpjfkagbnoagaa.Stm
open Go.RowKit Go.Proofs.Ytcpjfkagbnoagaa.QFnExactAddGrant Go.Proofs.YtcpjfkagbnoagaaW.PrintWords Go.Proofs.YtcpjfkagbnoagaaW.PrintLast
def FnExactAddGrant : Prop := ∀ (l0 : List S23) (a1_0 : Int) (a1_1 : Int) (a1_2 : Int) (a1_3 : Int) (a1_4 : Int) (a1_5 : Int) (a1_6 : Bool), l0.length ≤ 9223372036854775807 → (∀ y ∈ l0, (Lit.int .i64 y.f0).wf = true ∧ (Lit.int .i64 y.f1).wf = true ∧ (Lit.int .i64 y.f2).wf = true ∧ (Lit.int .i64 y.f3).wf = true ∧ (Lit.int .i64 y.f4).wf = true ∧ (Lit.int .i64 y.f5).wf = true) → (Lit.int .i64 a1_0).wf = true → (Lit.int .i64 a1_1).wf = true → (Lit.int .i64 a1_2).wf = true → (Lit.int .i64 a1_3).wf = true → (Lit.int .i64 a1_4).wf = true → (Lit.int .i64 a1_5).wf = true → ∃ k, laws_FnExactAddGrant.f k l0 a1_0 a1_1 a1_2 a1_3 a1_4 a1_5 a1_6 = some true
end Go.Proofs.Ytcpjfkagbnoagaa.Stm
