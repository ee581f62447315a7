/- The program's Verdict returns what the reference's returns, for all kinds and signs. No condition. -/
import Derived.Test.YtglpkjcblpjnoaaStmFnExactVerdict
namespace Go.Proofs.Ytglpkjcblpjnoaa.Pure
open Go.RowKit Go.Proofs.Ytglpkjcblpjnoaa.PFnExactVerdict Go.Proofs.YtglpkjcblpjnoaaW.PrintWords Go.Proofs.YtglpkjcblpjnoaaW.PrintLast

theorem FnExactVerdict_same (k : Nat) (a : Int) (p q r s : Bool) : impl_Verdict.f (k + 1) a p q r s = spec_Verdict.f (k + 1) a p q r s := rfl
theorem FnExactVerdict_some (a : Int) (p q r s : Bool) : ∃ x, spec_Verdict.f 1 a p q r s = some x := by
  unfold spec_Verdict.f
  by_cases h : a = 1
  · rw [if_pos h]; simp only [spec_Verdict.j0]; repeat' split
    all_goals exact ⟨_, rfl⟩
  · rw [if_neg h]; simp only [spec_Verdict.j0]; repeat' split
    all_goals exact ⟨_, rfl⟩
theorem FnExactVerdict : Stm.FnExactVerdict := by
  intro a p q r s _
  refine ⟨1, ?_⟩
  unfold laws_FnExactVerdict.f laws_toSigns.f
  simp only [Option.bind_some]
  obtain ⟨x, hx⟩ := FnExactVerdict_some a p q r s
  rw [FnExactVerdict_same 0, hx]
  simp

end Go.Proofs.Ytglpkjcblpjnoaa.Pure
