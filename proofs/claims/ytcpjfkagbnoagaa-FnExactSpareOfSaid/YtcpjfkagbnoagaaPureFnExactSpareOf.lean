/- The program's SpareOf returns what the reference's returns, for all lists of grants, persons, parcels and times. No condition. -/
import Derived.Test.YtcpjfkagbnoagaaStmFnExactSpareOf
import Derived.Test.YtcpjfkagbnoagaaGcFnExactSpareOf
import Derived.Test.YtcpjfkagbnoagaaGsFnExactSpareOf
namespace Go.Proofs.Ytcpjfkagbnoagaa.Pure
open Go.RowKit Go.Proofs.Ytcpjfkagbnoagaa.QFnExactSpareOf Go.Proofs.Ytcpjfkagbnoagaa.GrFnExactSpareOf Go.Proofs.Ytcpjfkagbnoagaa.GcFnExactSpareOf Go.Proofs.YtcpjfkagbnoagaaW.PrintWords Go.Proofs.YtcpjfkagbnoagaaW.PrintLast

theorem FnExactSpareOf : Stm.FnExactSpareOf := by
  intro l a1 a2 a3 a4 hl _ _ _ _ _
  refine ⟨l.length + 600, ?_⟩
  unfold laws_FnExactSpareOf.f
  obtain ⟨t, ht, hc⟩ := szS l (by omega)
  rw [ht]
  simp only [Option.bind_some]
  rcases hc with hc | hc
  · rw [if_pos hc]
  · by_cases h0 : t < 0
    · rw [if_pos h0]
    · rw [if_neg h0, toS l hc _ (by omega)]
      simp only [Option.bind_some]
      rw [spec_spare _ (by simpa using hc) _ _ _ _ _ (by rw [List.length_map]; omega), impl_spare _ (by simpa using hc) _ _ _ _ _ (by rw [List.length_map]; omega)]
      simp only [Option.bind_some, if_true]
      rw [eqS _ (by simpa using hc) _ (by simp)]
      rfl

end Go.Proofs.Ytcpjfkagbnoagaa.Pure
