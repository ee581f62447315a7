/- The program's DoorOk returns what the reference's returns, for all doors. No condition. -/
import Derived.Test.YtglpkjcblpjnoaaStmFnExactDoorOk
import Derived.Test.YtglpkjcblpjnoaaDlFnExactDoorOk
namespace Go.Proofs.Ytglpkjcblpjnoaa.Pure
open Go.RowKit Go.Proofs.Ytglpkjcblpjnoaa.PFnExactDoorOk Go.Proofs.Ytglpkjcblpjnoaa.DlFnExactDoorOk Go.Proofs.YtglpkjcblpjnoaaW.PrintWords Go.Proofs.YtglpkjcblpjnoaaW.PrintLast

theorem FnExactDoorOk : Stm.FnExactDoorOk := by
  intro a b l o f _ _
  refine ⟨1, ?_⟩
  unfold laws_FnExactDoorOk.f laws_toDoor.f
  simp only [Option.bind_some, spec_ok 0, impl_ok 0]
  simp

end Go.Proofs.Ytglpkjcblpjnoaa.Pure
