/- The program's HoldersOf returns what the reference's returns, for all lists of grants, persons, parcels and times. No condition. -/
import Derived.Test.YtcpjfkagbnoagaaStmFnExactHoldersOf
import Derived.Test.YtcpjfkagbnoagaaGcFnExactHoldersOf
import Derived.Test.YtcpjfkagbnoagaaGiFnExactHoldersOf
import Derived.Test.YtcpjfkagbnoagaaGmFnExactHoldersOf
import Derived.Test.YtcpjfkagbnoagaaGhFnExactHoldersOf
namespace Go.Proofs.Ytcpjfkagbnoagaa.Pure
open Go.RowKit Go.Proofs.Ytcpjfkagbnoagaa.QFnExactHoldersOf Go.Proofs.Ytcpjfkagbnoagaa.GrFnExactHoldersOf Go.Proofs.Ytcpjfkagbnoagaa.GcFnExactHoldersOf Go.Proofs.YtcpjfkagbnoagaaW.PrintWords Go.Proofs.YtcpjfkagbnoagaaW.PrintLast

theorem FnExactHoldersOf : Stm.FnExactHoldersOf := by
  intro l a1 a2 a3 hl _ _ _ _
  refine ⟨l.length + 700, ?_⟩
  unfold laws_FnExactHoldersOf.f
  obtain ⟨t, ht, hc⟩ := szS l (by omega)
  rw [ht]
  simp only [Option.bind_some]
  rcases hc with hc | hc
  · rw [if_pos hc]
  · by_cases h0 : t < 0
    · rw [if_pos h0]
    · have hm : (l.map conv).length ≤ 1048576 := by rw [List.length_map]; exact hc
      have hlen := holders_len (l.map conv) a1 a2 a3
      have hr : (holders (l.map conv) a1 a2 a3).length ≤ 1048576 := by omega
      obtain ⟨ym, m1, m2, m3⟩ := markS (l.map conv) hm
      obtain ⟨yi, i1, i2, i3⟩ := markI (holders (l.map conv) a1 a2 a3) hr
      have hl2 : (l.map conv).length = l.length := List.length_map ..
      rw [if_neg h0, toS l hc _ (by omega)]
      simp only [Option.bind_some]
      rw [spec_holders _ hm _ _ _ _ (by omega), impl_holders _ hm _ _ _ _ (by omega)]
      simp only [Option.bind_some]
      rw [eqI _ hr _ (by omega)]
      simp only [Option.bind_some, if_true]
      rw [eqS _ hm _ (by omega)]
      simp only [Option.bind_some, if_true]
      rw [m1 _ (by omega)]
      simp only [Option.bind_some]
      rw [if_neg (by omega)]
      obtain ⟨k1, hk1⟩ : ∃ k1, l.length + 700 = k1 + 1 := ⟨l.length + 699, rfl⟩
      rw [hk1]
      simp only [Bool.not_true, laws_FnExactHoldersOf.j0, Bool.false_eq_true, if_false]
      rw [i3 _ (by omega)]
      simp only [Option.bind_some]
      rw [heldI yi (by omega) i2 _ (by omega)]
      simp only [Option.bind_some]
      rw [if_neg (by omega), if_pos (by omega), toS l hc _ (by omega)]
      simp only [Option.bind_some]
      rw [impl_holders _ hm _ _ _ _ (by omega)]
      simp only [Option.bind_some]
      rw [eqI _ hr _ (by omega)]
      simp only [Option.bind_some, if_true]
      rw [if_neg (by omega), if_pos (by omega)]

end Go.Proofs.Ytcpjfkagbnoagaa.Pure
