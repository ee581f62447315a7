/- Try of both packages tells the same (plain). -/
import Derived.Test.YtdhinnolfpacgaaDoorStmFnExactTry
import Derived.Test.YtdhinnolfpacgaaDoorCtFnExactTry
namespace Go.Proofs.YtdhinnolfpacgaaDoor.Pure
open Go.RowKit Go.Proofs.YtdhinnolfpacgaaDoor.QFnExactTry Go.Proofs.YtdhinnolfpacgaaDoor.CbFnExactTry Go.Proofs.YtdhinnolfpacgaaDoor.CtFnExactTry Go.Proofs.YtdhinnolfpacgaaDoorW.PrintWords Go.Proofs.YtdhinnolfpacgaaDoorW.PrintLast
theorem FnExactTry : Stm.FnExactTry := by
  intro s n t p u x now _ _ _ _ _ _ _
  refine ⟨60, ?_⟩
  unfold laws_FnExactTry.f laws_toLock.f
  by_cases h : (x.size : Int) > 1048576
  · rw [if_pos h]
  · rw [if_neg h]
    simp only [Option.bind_some]
    rw [try_spec 60 _ _ _ _ _ _ _ (by decide), try_impl 60 _ _ _ _ _ _ _ (by decide)]
    simp [laws_eqLock.f]
end Go.Proofs.YtdhinnolfpacgaaDoor.Pure
