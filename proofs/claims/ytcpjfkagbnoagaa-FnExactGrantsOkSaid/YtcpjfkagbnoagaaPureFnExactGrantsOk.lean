/- The program's GrantsOk returns what the reference's returns, for all lists of grants. No condition. -/
import Derived.Test.YtcpjfkagbnoagaaStmFnExactGrantsOk
import Derived.Test.YtcpjfkagbnoagaaGrFnExactGrantsOk
namespace Go.Proofs.Ytcpjfkagbnoagaa.Pure
open Go.RowKit Go.Proofs.Ytcpjfkagbnoagaa.QFnExactGrantsOk Go.Proofs.Ytcpjfkagbnoagaa.GrFnExactGrantsOk Go.Proofs.YtcpjfkagbnoagaaW.PrintWords Go.Proofs.YtcpjfkagbnoagaaW.PrintLast

theorem FnExactGrantsOk : Stm.FnExactGrantsOk := by
  intro l hl _
  refine ⟨l.length + 1, ?_⟩
  unfold laws_FnExactGrantsOk.f
  obtain ⟨t, ht, hc⟩ := szS l (by omega)
  rw [ht]
  simp only [Option.bind_some]
  rcases hc with hc | hc
  · rw [if_pos hc]
  · by_cases h0 : t < 0
    · rw [if_pos h0]
    · rw [if_neg h0, toS l hc _ (by omega)]
      simp only [Option.bind_some]
      rw [spec_oks _ (by simpa using hc) _ (by simp), impl_oks _ (by simpa using hc) _ (by simp)]
      simp only [Option.bind_some, bne_self_eq_false, Bool.false_eq_true, if_false]
      rw [eqS _ (by simpa using hc) _ (by simp)]
      rfl

end Go.Proofs.Ytcpjfkagbnoagaa.Pure
