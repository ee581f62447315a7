/- The program's Advance returns what the reference's returns, for all doors. No condition. -/
import Derived.Test.YtglpkjcblpjnoabStmFnExactAdvance
import Derived.Test.YtglpkjcblpjnoabDlFnExactAdvance
namespace Go.Proofs.Ytglpkjcblpjnoab.Pure
open Go.RowKit Go.Proofs.Ytglpkjcblpjnoab.PFnExactAdvance Go.Proofs.Ytglpkjcblpjnoab.DlFnExactAdvance Go.Proofs.YtglpkjcblpjnoabW.PrintWords Go.Proofs.YtglpkjcblpjnoabW.PrintLast
set_option linter.unusedVariables false
set_option linter.unusedSimpArgs false

theorem FnExactAdvance : Stm.FnExactAdvance := by
  intro a b l o f _ _
  refine ⟨4, ?_⟩
  cases h : okD a b l o f with
  | true =>
    obtain ⟨h1, h2, h3, h4⟩ := ok_range h
    unfold laws_FnExactAdvance.f laws_toDoor.f spec_Advance.f impl_Advance.f
    rcases in_seven h3 h4 with rfl | rfl | rfl | rfl | rfl | rfl | rfl <;> simp [spec_ok 3, impl_ok 3, h, laws_eqDoor.f, spec_Advance.j0, impl_Advance.j0]
  | false =>
    unfold laws_FnExactAdvance.f laws_toDoor.f spec_Advance.f impl_Advance.f 
    simp [spec_ok 3, impl_ok 3, h, laws_eqDoor.f, spec_Advance.j0, impl_Advance.j0]

end Go.Proofs.Ytglpkjcblpjnoab.Pure
