/- The program's VerdictName returns what the reference's returns, for every int. No condition. -/
import Derived.Test.YtglpkjcblpjnoaaPFnExactVerdictNamex1
namespace Go.Proofs.Ytglpkjcblpjnoaa.Pure
open Go.RowKit Go.Proofs.Ytglpkjcblpjnoaa.PFnExactVerdictName Go.Proofs.YtglpkjcblpjnoaaW.PrintWords Go.Proofs.YtglpkjcblpjnoaaW.PrintLast

theorem FnExactVerdictName_same (a0 : Int) : impl_VerdictName.f a0 = spec_VerdictName.f a0 := rfl
theorem FnExactVerdictName_some (a0 : Int) : ∃ r, spec_VerdictName.f a0 = some r := by
  unfold spec_VerdictName.f spec_l01In.f
  by_cases h : a0 ≥ 0
  · rw [if_pos h]
    by_cases h2 : a0 ≤ 4
    · simp only [Option.bind_some, h2, decide_true, if_true]
      rw [if_pos h, if_pos (by simp; omega)]
      exact ⟨_, rfl⟩
    · simp only [Option.bind_some, h2, decide_false, Bool.false_eq_true, if_false]
      exact ⟨_, rfl⟩
  · rw [if_neg h]
    simp only [Option.bind_some, Bool.false_eq_true, if_false]
    exact ⟨_, rfl⟩
theorem FnExactVerdictName : laws_FnExactVerdictName.Pure := by
  intro a0 _
  unfold laws_FnExactVerdictName.f
  obtain ⟨r, hr⟩ := FnExactVerdictName_some a0
  rw [FnExactVerdictName_same, hr]
  simp

end Go.Proofs.Ytglpkjcblpjnoaa.Pure
