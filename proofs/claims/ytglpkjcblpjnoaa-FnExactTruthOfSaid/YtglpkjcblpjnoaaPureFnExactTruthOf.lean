/- The program's TruthOf returns what the reference's returns, for all doors. No condition. -/
import Derived.Test.YtglpkjcblpjnoaaStmFnExactTruthOf
import Derived.Test.YtglpkjcblpjnoaaDlFnExactTruthOf
namespace Go.Proofs.Ytglpkjcblpjnoaa.Pure
open Go.RowKit Go.Proofs.Ytglpkjcblpjnoaa.PFnExactTruthOf Go.Proofs.Ytglpkjcblpjnoaa.DlFnExactTruthOf Go.Proofs.YtglpkjcblpjnoaaW.PrintWords Go.Proofs.YtglpkjcblpjnoaaW.PrintLast

theorem FnExactTruthOf : Stm.FnExactTruthOf := by
  intro a b l o f _ _
  refine ⟨2, ?_⟩
  unfold laws_FnExactTruthOf.f laws_toDoor.f spec_TruthOf.f impl_TruthOf.f
  cases h : okD a b l o f with
  | true =>
    obtain ⟨h1, h2, h3, h4⟩ := ok_range h
    rcases in_three h1 h2 with rfl | rfl | rfl <;> rcases in_seven h3 h4 with rfl | rfl | rfl | rfl | rfl | rfl | rfl <;> cases l <;> cases o <;> cases f <;> first | rfl | exact absurd h (by decide)
  | false =>
    by_cases h0 : a = 0 <;> simp [spec_ok 1, impl_ok 1, h, h0, spec_TruthOf.j0, impl_TruthOf.j0]

end Go.Proofs.Ytglpkjcblpjnoaa.Pure
