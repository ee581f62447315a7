/- The pure statement of FnExactApplies, as rowgen.py wrote it: no memory, no Go. -/
import Derived.Test.YtcpjfkagbnoagaaPFnExactAppliesx1
namespace Go.Proofs.Ytcpjfkagbnoagaa.Stm
open Go.RowKit Go.Proofs.Ytcpjfkagbnoagaa.PFnExactApplies Go.Proofs.YtcpjfkagbnoagaaW.PrintWords Go.Proofs.YtcpjfkagbnoagaaW.PrintLast
def FnExactApplies : Prop := ∀ (a0_0 : Int) (a0_1 : Int) (a0_2 : Int) (a0_3 : Int) (a0_4 : Int) (a0_5 : Int) (a0_6 : Bool) (a1 : Int) (a2 : Int), (Lit.int .i64 a0_0).wf = true → (Lit.int .i64 a0_1).wf = true → (Lit.int .i64 a0_2).wf = true → (Lit.int .i64 a0_3).wf = true → (Lit.int .i64 a0_4).wf = true → (Lit.int .i64 a0_5).wf = true → (Lit.int .i64 a1).wf = true → (Lit.int .i64 a2).wf = true → laws_FnExactApplies.f a0_0 a0_1 a0_2 a0_3 a0_4 a0_5 a0_6 a1 a2 = some true
end Go.Proofs.Ytcpjfkagbnoagaa.Stm
