/- Weeks: one bundle of what is known of a week (plain). -/
import Derived.Test.YtcabbbidbkgalaaWkFnFees
namespace Go.Proofs.Ytcabbbidbkgalaa.WkFnFees
open Go.RowKit Go.Proofs.Ytcabbbidbkgalaa.QFnFees Go.Proofs.YtcabbbidbkgalaaW.PrintWords Go.Proofs.YtcabbbidbkgalaaW.PrintLast
set_option linter.unusedVariables false
set_option linter.unusedSimpArgs false

/-- b: is the week right; p: which hours are open (asked of right weeks alone). -/
structure WkOf (l0 l1 : List S71) (b : Bool) (p : Int → Bool) : Prop where
  week : ∀ k, 20 < k → spec_WeekOk.f k l0 l1 = some b ∧ impl_WeekOk.f k l0 l1 = some b
  opn : b = true → ∀ h k, 20 < k → spec_l01Open.f k l0 l1 h = some (p h) ∧ impl_isOpen.f k l0 l1 h = some (p h)
theorem wk_ex (l0 l1 : List S71) : ∃ b p, WkOf l0 l1 b p := by
  obtain ⟨b, h1, h2⟩ := week_ex l0 l1
  cases b with
  | false => exact ⟨false, fun _ => false, h1, fun h => by cases h⟩
  | true =>
    obtain ⟨p, hp⟩ := open_ex l0 l1 (h2 rfl).1 (h2 rfl).2
    exact ⟨true, p, h1, fun _ => hp⟩
end Go.Proofs.Ytcabbbidbkgalaa.WkFnFees
