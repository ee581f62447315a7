/- The program's Applies returns what the reference's returns, for all grants, parcels and times. No condition. -/
import Derived.Test.YtcpjfkagbnoagaaStmFnExactApplies
namespace Go.Proofs.Ytcpjfkagbnoagaa.Pure
open Go.RowKit Go.Proofs.Ytcpjfkagbnoagaa.PFnExactApplies Go.Proofs.YtcpjfkagbnoagaaW.PrintWords Go.Proofs.YtcpjfkagbnoagaaW.PrintLast
set_option linter.unusedVariables false
set_option linter.unusedSimpArgs false

theorem FnExactApplies_in (x a b : Int) : ∃ r, spec_l01In.f x a b = some r ∧ impl_within.f x a b = some r := by
  unfold spec_l01In.f impl_within.f
  split <;> exact ⟨_, rfl, rfl⟩
theorem FnExactApplies_ok (a b c d e f : Int) (g : Bool) : ∃ r, spec_GrantOk.f a b c d e f g = some r ∧ impl_GrantOk.f a b c d e f g = some r := by
  unfold spec_GrantOk.f impl_GrantOk.f spec_l05Person.f impl_personOk.f spec_l05Time.f impl_timeOk.f
  obtain ⟨r1, s1, i1⟩ := FnExactApplies_in a 1 40
  obtain ⟨r2, s2, i2⟩ := FnExactApplies_in b 1 40
  obtain ⟨r3, s3, i3⟩ := FnExactApplies_in c 0 999
  obtain ⟨r4, s4, i4⟩ := FnExactApplies_in d 0 5
  obtain ⟨r5, s5, i5⟩ := FnExactApplies_in e 0 20000
  obtain ⟨r6, s6, i6⟩ := FnExactApplies_in f 0 20000
  simp only [s1, i1, s2, i2, s3, i3, s4, i4, s5, i5, s6, i6, Option.bind_some]
  by_cases h : a = b
  · cases r1 <;> cases r2 <;> simp [h]
  · cases r1 <;> cases r2 <;> cases r3 <;> cases r4 <;> cases r5 <;> cases r6 <;> simp [h]
theorem FnExactApplies : Stm.FnExactApplies := by
  intro a b c d e f g p n _ _ _ _ _ _ _ _
  unfold laws_FnExactApplies.f laws_toGrant.f spec_Applies.f impl_Applies.f
  simp only [Option.bind_some]
  obtain ⟨r, h1, h2⟩ := FnExactApplies_ok a b c d e f g
  rw [h1, h2]
  simp only [Option.bind_some]
  by_cases h3 : c = 0 <;> by_cases h4 : c = p <;> by_cases h5 : e ≤ n <;> by_cases h6 : n < f <;> cases r <;> cases g <;> simp [h3, h4, h5, h6]

end Go.Proofs.Ytcpjfkagbnoagaa.Pure
