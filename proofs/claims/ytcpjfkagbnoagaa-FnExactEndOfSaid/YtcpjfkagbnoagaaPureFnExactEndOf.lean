/- The program's EndOf returns what the reference's returns: the first time above now at which the right to take is gone. No condition. -/
import Derived.Test.YtcpjfkagbnoagaaStmFnExactEndOf
import Derived.Test.YtcpjfkagbnoagaaGeFnExactEndOf
namespace Go.Proofs.Ytcpjfkagbnoagaa.Pure
open Go.RowKit Go.Proofs.Ytcpjfkagbnoagaa.QFnExactEndOf Go.Proofs.Ytcpjfkagbnoagaa.GrFnExactEndOf Go.Proofs.Ytcpjfkagbnoagaa.GcFnExactEndOf Go.Proofs.YtcpjfkagbnoagaaW.PrintWords Go.Proofs.YtcpjfkagbnoagaaW.PrintLast

theorem ends_same (l : List S25) (hl : l.length ≤ 1048576) (o w p now : Int) : ∃ T K, ∀ k, K ≤ k → spec_EndOf.f k l o w p now = some T ∧ impl_EndOf.f k l o w p now = some T := by
  cases h0 : mayB l o w p now with
  | false => exact ⟨-1, l.length + 500, fun k hk => ends_no l hl o w p now h0 k hk⟩
  | true =>
    obtain ⟨T, hT, K, hK⟩ := spec_end l hl o w p now h0
    exact ⟨T, K + 2 * l.length + 600, fun k hk => ⟨hK k (by omega), impl_end l hl o w p now T h0 hT k (by omega)⟩⟩
theorem FnExactEndOf : Stm.FnExactEndOf := by
  intro l a1 a2 a3 a4 hl _ _ _ _ _
  obtain ⟨t, ht, hc⟩ := szS l (by omega)
  rcases hc with hc | hc
  · refine ⟨0, ?_⟩
    unfold laws_FnExactEndOf.f
    rw [ht]
    simp only [Option.bind_some]
    rw [if_pos hc]
  · have hm : (l.map conv).length ≤ 1048576 := by simpa using hc
    obtain ⟨T, K, hK⟩ := ends_same (l.map conv) hm a1 a2 a3 a4
    refine ⟨K + l.length + 1, ?_⟩
    unfold laws_FnExactEndOf.f
    rw [ht]
    simp only [Option.bind_some]
    by_cases h0 : t < 0
    · rw [if_pos h0]
    · rw [if_neg h0, toS l hc _ (by omega)]
      simp only [Option.bind_some]
      rw [(hK _ (by omega)).1, (hK _ (by omega)).2]
      simp only [Option.bind_some, if_true]
      rw [eqS _ hm _ (by rw [List.length_map]; omega)]
      rfl

end Go.Proofs.Ytcpjfkagbnoagaa.Pure
