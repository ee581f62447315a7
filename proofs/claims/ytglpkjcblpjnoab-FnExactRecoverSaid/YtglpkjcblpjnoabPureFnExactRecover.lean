/- The program's Recover returns what the reference's returns, for all doors and faults. No condition. -/
import Derived.Test.YtglpkjcblpjnoabStmFnExactRecover
import Derived.Test.YtglpkjcblpjnoabDrFnExactRecover
namespace Go.Proofs.Ytglpkjcblpjnoab.Pure
open Go.RowKit Go.Proofs.Ytglpkjcblpjnoab.QFnExactRecover Go.Proofs.Ytglpkjcblpjnoab.DlFnExactRecover Go.Proofs.YtglpkjcblpjnoabW.PrintWords Go.Proofs.YtglpkjcblpjnoabW.PrintLast
set_option linter.unusedVariables false
set_option linter.unusedSimpArgs false

theorem FnExactRecover : Stm.FnExactRecover := by
  intro a b l o f p q r s _ _ _ _ _ _
  refine ⟨6, ?_⟩
  unfold laws_FnExactRecover.f laws_toDoor.f laws_toFaults.f
  simp only [Option.bind_some]
  rw [spec_rec 4]
  simp only [Option.bind_some]
  rw [impl_rec 0]
  simp [laws_eqDoor.f]
end Go.Proofs.Ytglpkjcblpjnoab.Pure
