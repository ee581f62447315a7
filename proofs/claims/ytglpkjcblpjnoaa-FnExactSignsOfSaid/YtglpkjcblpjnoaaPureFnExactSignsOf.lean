/- The program's SignsOf returns what the reference's returns, for all doors and faults. No condition. -/
import Derived.Test.YtglpkjcblpjnoaaStmFnExactSignsOf
import Derived.Test.YtglpkjcblpjnoaaDsFnExactSignsOf
namespace Go.Proofs.Ytglpkjcblpjnoaa.Pure
open Go.RowKit Go.Proofs.Ytglpkjcblpjnoaa.QFnExactSignsOf Go.Proofs.Ytglpkjcblpjnoaa.DlFnExactSignsOf Go.Proofs.YtglpkjcblpjnoaaW.PrintWords Go.Proofs.YtglpkjcblpjnoaaW.PrintLast
set_option linter.unusedVariables false
set_option linter.unusedSimpArgs false

theorem FnExactSignsOf : Stm.FnExactSignsOf := by
  intro a b l o f p q r s _ _ _ _ _ _
  refine ⟨3, ?_⟩
  unfold laws_FnExactSignsOf.f laws_toDoor.f laws_toFaults.f
  simp only [Option.bind_some]
  rw [spec_signs 2]
  simp only [Option.bind_some]
  rw [impl_signs 2]
  simp [laws_eqSigns.f]
end Go.Proofs.Ytglpkjcblpjnoaa.Pure
