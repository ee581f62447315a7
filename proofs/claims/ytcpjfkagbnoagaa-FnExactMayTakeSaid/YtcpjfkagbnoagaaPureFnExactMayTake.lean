/- The program's MayTake returns what the reference's returns, for all lists of grants, persons, parcels and times. No condition. -/
import Derived.Test.YtcpjfkagbnoagaaStmFnExactMayTake
import Derived.Test.YtcpjfkagbnoagaaGcFnExactMayTake
namespace Go.Proofs.Ytcpjfkagbnoagaa.Pure
open Go.RowKit Go.Proofs.Ytcpjfkagbnoagaa.QFnExactMayTake Go.Proofs.Ytcpjfkagbnoagaa.GrFnExactMayTake Go.Proofs.Ytcpjfkagbnoagaa.GcFnExactMayTake Go.Proofs.YtcpjfkagbnoagaaW.PrintWords Go.Proofs.YtcpjfkagbnoagaaW.PrintLast

theorem FnExactMayTake : Stm.FnExactMayTake := by
  intro l a1 a2 a3 a4 hl _ _ _ _ _
  refine ⟨l.length + 600, ?_⟩
  unfold laws_FnExactMayTake.f
  obtain ⟨t, ht, hc⟩ := szS l (by omega)
  rw [ht]
  simp only [Option.bind_some]
  rcases hc with hc | hc
  · rw [if_pos hc]
  · by_cases h0 : t < 0
    · rw [if_pos h0]
    · rw [if_neg h0, toS l hc _ (by omega)]
      simp only [Option.bind_some]
      rw [spec_may _ (by simpa using hc) _ _ _ _ _ (by rw [List.length_map]; omega), impl_may _ (by simpa using hc) _ _ _ _ _ (by simp)]
      simp only [Option.bind_some, bne_self_eq_false, Bool.false_eq_true, if_false]
      rw [eqS _ (by simpa using hc) _ (by simp)]
      rfl

end Go.Proofs.Ytcpjfkagbnoagaa.Pure
