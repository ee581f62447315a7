/- Resync of both packages tells the same (plain). -/
import Derived.Test.YtdhinnolfpacgaaDoorStmFnExactResync
import Derived.Test.YtdhinnolfpacgaaDoorCrFnExactResync
namespace Go.Proofs.YtdhinnolfpacgaaDoor.Pure
open Go.RowKit Go.Proofs.YtdhinnolfpacgaaDoor.QFnExactResync Go.Proofs.YtdhinnolfpacgaaDoor.CbFnExactResync Go.Proofs.YtdhinnolfpacgaaDoor.CtFnExactResync Go.Proofs.YtdhinnolfpacgaaDoor.CrFnExactResync Go.Proofs.YtdhinnolfpacgaaDoorW.PrintWords Go.Proofs.YtdhinnolfpacgaaDoorW.PrintLast
theorem FnExactResync : Stm.FnExactResync := by
  intro s n t p u x y now _ _ _ _ _ _ _ _
  refine ⟨140, ?_⟩
  unfold laws_FnExactResync.f laws_toLock.f
  by_cases h : (x.size : Int) > 1048576
  · rw [if_pos h]
  · rw [if_neg h]
    by_cases h2 : (y.size : Int) > 1048576
    · rw [if_pos h2]
    · rw [if_neg h2]
      simp only [Option.bind_some]
      rw [resync_spec 140 _ _ _ _ _ _ _ _ (by decide), resync_impl 140 _ _ _ _ _ _ _ _ (by decide)]
      simp [laws_eqLock.f]
end Go.Proofs.YtdhinnolfpacgaaDoor.Pure
