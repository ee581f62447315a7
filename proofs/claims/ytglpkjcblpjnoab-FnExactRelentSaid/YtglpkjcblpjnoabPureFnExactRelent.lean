/- The program's Relent returns what the reference's returns, for all doors. No condition. -/
import Derived.Test.YtglpkjcblpjnoabStmFnExactRelent
import Derived.Test.YtglpkjcblpjnoabDlFnExactRelent
namespace Go.Proofs.Ytglpkjcblpjnoab.Pure
open Go.RowKit Go.Proofs.Ytglpkjcblpjnoab.PFnExactRelent Go.Proofs.Ytglpkjcblpjnoab.DlFnExactRelent Go.Proofs.YtglpkjcblpjnoabW.PrintWords Go.Proofs.YtglpkjcblpjnoabW.PrintLast
set_option linter.unusedVariables false
set_option linter.unusedSimpArgs false

theorem FnExactRelent : Stm.FnExactRelent := by
  intro a b l o f _ _
  refine ⟨4, ?_⟩
  cases h : okD a b l o f with
  | true =>
    obtain ⟨h1, h2, h3, h4⟩ := ok_range h
    rcases in_three h1 h2 with rfl | rfl | rfl <;> rcases in_seven h3 h4 with rfl | rfl | rfl | rfl | rfl | rfl | rfl <;> cases l <;> cases o <;> cases f <;> first | rfl | exact absurd h (by decide)
  | false =>
    unfold laws_FnExactRelent.f laws_toDoor.f spec_Relent.f impl_Relent.f 
    simp [spec_ok 3, impl_ok 3, h, laws_eqDoor.f, spec_Relent.j0]

end Go.Proofs.Ytglpkjcblpjnoab.Pure
