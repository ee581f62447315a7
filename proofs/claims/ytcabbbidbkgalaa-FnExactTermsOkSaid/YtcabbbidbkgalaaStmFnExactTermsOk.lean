/- The pure statement of FnExactTermsOk, as rowgen.py wrote it: no memory, no Go. -/
import Derived.Test.YtcabbbidbkgalaaPFnExactTermsOkx1
namespace Go.Proofs.Ytcabbbidbkgalaa.Stm
open Go.RowKit Go.Proofs.Ytcabbbidbkgalaa.PFnExactTermsOk Go.Proofs.YtcabbbidbkgalaaW.PrintWords Go.Proofs.YtcabbbidbkgalaaW.PrintLast
def FnExactTermsOk : Prop := ∀ (a0_0 : Int) (a0_1 : Int) (a0_2 : Int) (a0_3 : Int) (a0_4 : Int) (a0_5 : Int) (a0_6 : Int) (a0_7 : Int), (Lit.int .i64 a0_0).wf = true → (Lit.int .i64 a0_1).wf = true → (Lit.int .i64 a0_2).wf = true → (Lit.int .i64 a0_3).wf = true → (Lit.int .i64 a0_4).wf = true → (Lit.int .i64 a0_5).wf = true → (Lit.int .i64 a0_6).wf = true → (Lit.int .i64 a0_7).wf = true → laws_FnExactTermsOk.f a0_0 a0_1 a0_2 a0_3 a0_4 a0_5 a0_6 a0_7 = some true
end Go.Proofs.Ytcabbbidbkgalaa.Stm
