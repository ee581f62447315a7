/- The program's TermsOk returns what the reference's returns, for all terms. No condition. -/
import Derived.Test.YtcabbbidbkgalaaStmFnExactTermsOk
namespace Go.Proofs.Ytcabbbidbkgalaa.Pure
open Go.RowKit Go.Proofs.Ytcabbbidbkgalaa.PFnExactTermsOk Go.Proofs.YtcabbbidbkgalaaW.PrintWords Go.Proofs.YtcabbbidbkgalaaW.PrintLast

theorem FnExactTermsOk_in (x a b : Int) : ∃ r, spec_l01In.f x a b = some r ∧ impl_within.f x a b = some r := by
  unfold spec_l01In.f impl_within.f
  split <;> exact ⟨_, rfl, rfl⟩
theorem FnExactTermsOk : Stm.FnExactTermsOk := by
  intro a b c d e f g h _ _ _ _ _ _ _ _
  unfold laws_FnExactTermsOk.f laws_toTerms.f spec_TermsOk.f impl_TermsOk.f
  simp only [Option.bind_some]
  obtain ⟨r1, s1, i1⟩ := FnExactTermsOk_in a 1 2000
  obtain ⟨r2, s2, i2⟩ := FnExactTermsOk_in c 1 2000
  obtain ⟨r3, s3, i3⟩ := FnExactTermsOk_in f 1 2000
  obtain ⟨r4, s4, i4⟩ := FnExactTermsOk_in b 0 2000
  obtain ⟨r5, s5, i5⟩ := FnExactTermsOk_in d 0 10000
  obtain ⟨r6, s6, i6⟩ := FnExactTermsOk_in e 0 1000000
  obtain ⟨r7, s7, i7⟩ := FnExactTermsOk_in g 0 100000
  obtain ⟨r8, s8, i8⟩ := FnExactTermsOk_in h 0 20
  simp only [s1, i1, s2, i2, s3, i3, s4, i4, s5, i5, s6, i6, s7, i7, s8, i8, Option.bind_some]
  cases r1 <;> cases r2 <;> cases r3 <;> cases r4 <;> cases r5 <;> cases r6 <;> cases r7 <;> cases r8 <;> rfl

end Go.Proofs.Ytcabbbidbkgalaa.Pure
