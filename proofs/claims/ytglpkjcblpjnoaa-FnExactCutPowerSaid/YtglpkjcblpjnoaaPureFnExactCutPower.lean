/- The program's CutPower returns what the reference's returns, for all doors. No condition. -/
import Derived.Test.YtglpkjcblpjnoaaStmFnExactCutPower
import Derived.Test.YtglpkjcblpjnoaaDlFnExactCutPower
namespace Go.Proofs.Ytglpkjcblpjnoaa.Pure
open Go.RowKit Go.Proofs.Ytglpkjcblpjnoaa.PFnExactCutPower Go.Proofs.Ytglpkjcblpjnoaa.DlFnExactCutPower Go.Proofs.YtglpkjcblpjnoaaW.PrintWords Go.Proofs.YtglpkjcblpjnoaaW.PrintLast

theorem FnExactCutPower : Stm.FnExactCutPower := by
  intro a b l o f _ _
  refine ⟨1, ?_⟩
  unfold laws_FnExactCutPower.f laws_toDoor.f spec_CutPower.f impl_CutPower.f
  simp only [Option.bind_some, spec_ok 0, impl_ok 0]
  cases h : okD a b l o f <;> simp [laws_eqDoor.f]

end Go.Proofs.Ytglpkjcblpjnoaa.Pure
