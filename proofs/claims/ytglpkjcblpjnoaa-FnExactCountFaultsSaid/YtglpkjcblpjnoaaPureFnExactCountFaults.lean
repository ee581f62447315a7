/- The program's CountFaults returns what the reference's returns, for all faults. No condition. -/
import Derived.Test.YtglpkjcblpjnoaaStmFnExactCountFaults
namespace Go.Proofs.Ytglpkjcblpjnoaa.Pure
open Go.RowKit Go.Proofs.Ytglpkjcblpjnoaa.PFnExactCountFaults Go.Proofs.YtglpkjcblpjnoaaW.PrintWords Go.Proofs.YtglpkjcblpjnoaaW.PrintLast

theorem FnExactCountFaults : Stm.FnExactCountFaults := by
  intro a b c d _ _ _ _
  refine ⟨5, ?_⟩
  unfold laws_FnExactCountFaults.f laws_toFaults.f spec_CountFaults.f spec_l04One.f impl_CountFaults.f
  by_cases h1 : a = 0 <;> by_cases h2 : b = 0 <;> by_cases h3 : c = 0 <;> by_cases h4 : d = 0 <;>
    simp [impl_CountFaults.l0, rd, h1, h2, h3, h4, wrap64]

end Go.Proofs.Ytglpkjcblpjnoaa.Pure
