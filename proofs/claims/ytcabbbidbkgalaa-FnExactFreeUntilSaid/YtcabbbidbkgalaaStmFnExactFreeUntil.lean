/- The pure statement of FnExactFreeUntil, as rowgen.py wrote it: no memory, no Go. -/
import Derived.Test.YtcabbbidbkgalaaPFnExactFreeUntilx5
namespace Go.Proofs.Ytcabbbidbkgalaa.Stm
open Go.RowKit Go.Proofs.Ytcabbbidbkgalaa.PFnExactFreeUntil Go.Proofs.YtcabbbidbkgalaaW.PrintWords Go.Proofs.YtcabbbidbkgalaaW.PrintLast
def FnExactFreeUntil : Prop := ∀ (l0_0 : List S73) (l0_1 : List S73) (a1_0 : Int) (a1_1 : Int) (a1_2 : Int) (a1_3 : Int) (a1_4 : Int) (a1_5 : Int) (a1_6 : Int) (a1_7 : Int) (a2 : Int), l0_0.length ≤ 9223372036854775807 → (∀ y ∈ l0_0, (Lit.int .i64 y.f0).wf = true ∧ (Lit.int .i64 y.f1).wf = true) → l0_1.length ≤ 9223372036854775807 → (∀ y ∈ l0_1, (Lit.int .i64 y.f0).wf = true ∧ (Lit.int .i64 y.f1).wf = true) → (Lit.int .i64 a1_0).wf = true → (Lit.int .i64 a1_1).wf = true → (Lit.int .i64 a1_2).wf = true → (Lit.int .i64 a1_3).wf = true → (Lit.int .i64 a1_4).wf = true → (Lit.int .i64 a1_5).wf = true → (Lit.int .i64 a1_6).wf = true → (Lit.int .i64 a1_7).wf = true → (Lit.int .i64 a2).wf = true → ∃ k, laws_FnExactFreeUntil.f k l0_0 l0_1 a1_0 a1_1 a1_2 a1_3 a1_4 a1_5 a1_6 a1_7 a2 = some true
end Go.Proofs.Ytcabbbidbkgalaa.Stm
