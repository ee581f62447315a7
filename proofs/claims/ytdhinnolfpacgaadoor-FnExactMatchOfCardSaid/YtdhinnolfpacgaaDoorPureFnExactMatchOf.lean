/- MatchOf of both packages tells the same count (plain). -/
import Derived.Test.YtdhinnolfpacgaaDoorStmFnExactMatchOf
import Derived.Test.YtdhinnolfpacgaaDoorCbFnExactMatchOf
namespace Go.Proofs.YtdhinnolfpacgaaDoor.Pure
open Go.RowKit Go.Proofs.YtdhinnolfpacgaaDoor.QFnExactMatchOf Go.Proofs.YtdhinnolfpacgaaDoor.CbFnExactMatchOf Go.Proofs.YtdhinnolfpacgaaDoorW.PrintWords Go.Proofs.YtdhinnolfpacgaaDoorW.PrintLast
theorem FnExactMatchOf : Stm.FnExactMatchOf := by
  intro s n t p u x _ _ _ _ _ _
  refine ⟨50, ?_⟩
  unfold laws_FnExactMatchOf.f laws_toLock.f
  by_cases h : (x.size : Int) > 1048576
  · rw [if_pos h]
  · rw [if_neg h]
    simp only [Option.bind_some]
    rw [match_spec 50 _ _ _ _ _ _ (by decide), match_impl 50 _ _ _ _ _ _ (by decide)]
    simp
end Go.Proofs.YtdhinnolfpacgaaDoor.Pure
