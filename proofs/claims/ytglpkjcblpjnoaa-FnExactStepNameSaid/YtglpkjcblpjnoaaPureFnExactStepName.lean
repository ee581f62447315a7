/- The program's StepName returns what the reference's returns, for every int. No condition. -/
import Derived.Test.YtglpkjcblpjnoaaPFnExactStepNamex1
namespace Go.Proofs.Ytglpkjcblpjnoaa.Pure
open Go.RowKit Go.Proofs.Ytglpkjcblpjnoaa.PFnExactStepName Go.Proofs.YtglpkjcblpjnoaaW.PrintWords Go.Proofs.YtglpkjcblpjnoaaW.PrintLast

theorem FnExactStepName_same (a0 : Int) : impl_StepName.f a0 = spec_StepName.f a0 := rfl
theorem FnExactStepName_some (a0 : Int) : ∃ r, spec_StepName.f a0 = some r := by
  unfold spec_StepName.f spec_l01In.f
  by_cases h : a0 ≥ 0
  · rw [if_pos h]
    by_cases h2 : a0 ≤ 6
    · simp only [Option.bind_some, h2, decide_true, if_true]
      rw [if_pos h, if_pos (by simp; omega)]
      exact ⟨_, rfl⟩
    · simp only [Option.bind_some, h2, decide_false, Bool.false_eq_true, if_false]
      exact ⟨_, rfl⟩
  · rw [if_neg h]
    simp only [Option.bind_some, Bool.false_eq_true, if_false]
    exact ⟨_, rfl⟩
theorem FnExactStepName : laws_FnExactStepName.Pure := by
  intro a0 _
  unfold laws_FnExactStepName.f
  obtain ⟨r, hr⟩ := FnExactStepName_some a0
  rw [FnExactStepName_same, hr]
  simp

end Go.Proofs.Ytglpkjcblpjnoaa.Pure
