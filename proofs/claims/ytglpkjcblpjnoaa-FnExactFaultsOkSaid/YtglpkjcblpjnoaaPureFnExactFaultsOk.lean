/- The program's FaultsOk returns what the reference's returns, for all faults. No condition. -/
import Derived.Test.YtglpkjcblpjnoaaStmFnExactFaultsOk
namespace Go.Proofs.Ytglpkjcblpjnoaa.Pure
open Go.RowKit Go.Proofs.Ytglpkjcblpjnoaa.PFnExactFaultsOk Go.Proofs.YtglpkjcblpjnoaaW.PrintWords Go.Proofs.YtglpkjcblpjnoaaW.PrintLast

theorem FnExactFaultsOk_in (x a b : Int) : impl_within.f x a b = spec_l01In.f x a b := rfl
theorem FnExactFaultsOk_some (x a b : Int) : ∃ r, spec_l01In.f x a b = some r := by
  unfold spec_l01In.f
  split <;> exact ⟨_, rfl⟩
theorem FnExactFaultsOk : Stm.FnExactFaultsOk := by
  intro a b c d _ _ _ _
  unfold laws_FnExactFaultsOk.f laws_toFaults.f spec_FaultsOk.f impl_FaultsOk.f
  simp only [Option.bind_some, FnExactFaultsOk_in]
  obtain ⟨p, hp⟩ := FnExactFaultsOk_some a 0 2
  obtain ⟨q, hq⟩ := FnExactFaultsOk_some b 0 2
  obtain ⟨r, hr⟩ := FnExactFaultsOk_some c 0 2
  obtain ⟨s, hs⟩ := FnExactFaultsOk_some d 0 2
  simp only [hp, hq, hr, hs, Option.bind_some]
  cases p <;> cases q <;> cases r <;> cases s <;> rfl

end Go.Proofs.Ytglpkjcblpjnoaa.Pure
