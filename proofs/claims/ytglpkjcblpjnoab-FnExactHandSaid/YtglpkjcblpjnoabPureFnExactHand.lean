/- The program's Hand returns what the reference's returns, for all doors and acts. No condition. -/
import Derived.Test.YtglpkjcblpjnoabStmFnExactHand
import Derived.Test.YtglpkjcblpjnoabDlFnExactHand
namespace Go.Proofs.Ytglpkjcblpjnoab.Pure
open Go.RowKit Go.Proofs.Ytglpkjcblpjnoab.PFnExactHand Go.Proofs.Ytglpkjcblpjnoab.DlFnExactHand Go.Proofs.YtglpkjcblpjnoabW.PrintWords Go.Proofs.YtglpkjcblpjnoabW.PrintLast
set_option linter.unusedVariables false
set_option linter.unusedSimpArgs false

theorem FnExactHand : Stm.FnExactHand := by
  intro a b l o f c _ _ _
  refine ⟨4, ?_⟩
  cases h : okD a b l o f with
  | true =>
    by_cases c1 : c = 1
    · subst c1
      obtain ⟨h1, h2, h3, h4⟩ := ok_range h
      rcases in_three h1 h2 with rfl | rfl | rfl <;> rcases in_seven h3 h4 with rfl | rfl | rfl | rfl | rfl | rfl | rfl <;> cases l <;> cases o <;> cases f <;> first | rfl | exact absurd h (by decide)
    by_cases c2 : c = 2
    · subst c2
      obtain ⟨h1, h2, h3, h4⟩ := ok_range h
      rcases in_three h1 h2 with rfl | rfl | rfl <;> rcases in_seven h3 h4 with rfl | rfl | rfl | rfl | rfl | rfl | rfl <;> cases l <;> cases o <;> cases f <;> first | rfl | exact absurd h (by decide)
    by_cases c3 : c = 3
    · subst c3
      obtain ⟨h1, h2, h3, h4⟩ := ok_range h
      rcases in_three h1 h2 with rfl | rfl | rfl <;> rcases in_seven h3 h4 with rfl | rfl | rfl | rfl | rfl | rfl | rfl <;> cases l <;> cases o <;> cases f <;> first | rfl | exact absurd h (by decide)
    unfold laws_FnExactHand.f laws_toDoor.f spec_Hand.f impl_Hand.f spec_l04Dark.f impl_isCut.f
    simp only [spec_ok 3, impl_ok 3, h, Option.bind_some, if_true]
    by_cases a0 : a = 0
    · simp [a0, laws_eqDoor.f]
    · by_cases b0 : b = 0
      · simp [a0, b0, c1, c2, c3, spec_Hand.j0, spec_Hand.j1, impl_Hand.j0, impl_Hand.j1, laws_eqDoor.f]
      · simp [a0, b0, laws_eqDoor.f]
  | false =>
    unfold laws_FnExactHand.f laws_toDoor.f spec_Hand.f impl_Hand.f spec_l04Dark.f impl_isCut.f
    simp [spec_ok 3, impl_ok 3, h, laws_eqDoor.f]

end Go.Proofs.Ytglpkjcblpjnoab.Pure
