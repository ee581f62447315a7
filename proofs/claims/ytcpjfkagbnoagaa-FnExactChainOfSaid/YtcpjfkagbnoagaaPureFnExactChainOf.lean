/- The program's ChainOf returns what the reference's returns, for all lists of grants, persons, parcels and times. No condition. -/
import Derived.Test.YtcpjfkagbnoagaaStmFnExactChainOf
import Derived.Test.YtcpjfkagbnoagaaGcFnExactChainOf
import Derived.Test.YtcpjfkagbnoagaaGiFnExactChainOf
import Derived.Test.YtcpjfkagbnoagaaGmFnExactChainOf
namespace Go.Proofs.Ytcpjfkagbnoagaa.Pure
open Go.RowKit Go.Proofs.Ytcpjfkagbnoagaa.QFnExactChainOf Go.Proofs.Ytcpjfkagbnoagaa.GrFnExactChainOf Go.Proofs.Ytcpjfkagbnoagaa.GcFnExactChainOf Go.Proofs.YtcpjfkagbnoagaaW.PrintWords Go.Proofs.YtcpjfkagbnoagaaW.PrintLast

theorem FnExactChainOf : Stm.FnExactChainOf := by
  intro l a1 a2 a3 a4 hl _ _ _ _ _
  refine ⟨l.length + 700, ?_⟩
  unfold laws_FnExactChainOf.f
  obtain ⟨t, ht, hc⟩ := szS l (by omega)
  rw [ht]
  simp only [Option.bind_some]
  rcases hc with hc | hc
  · rw [if_pos hc]
  · by_cases h0 : t < 0
    · rw [if_pos h0]
    · have hm : (l.map conv).length ≤ 1048576 := by rw [List.length_map]; exact hc
      have hr : (chainB (l.map conv) a1 a2 a3 a4).1.length ≤ 1048576 := by
        have := chainB_len (l.map conv) a1 a2 a3 a4
        omega
      obtain ⟨ym, m1, m2, m3⟩ := markS (l.map conv) hm
      obtain ⟨yi, i1, i2, i3⟩ := markI (chainB (l.map conv) a1 a2 a3 a4).1 hr
      have hlen := chainB_len (l.map conv) a1 a2 a3 a4
      have hl2 : (l.map conv).length = l.length := List.length_map ..
      rw [if_neg h0, toS l hc _ (by omega)]
      simp only [Option.bind_some]
      rw [spec_chainOf _ hm _ _ _ _ _ (by omega), impl_chainOf _ hm _ _ _ _ _ (by omega)]
      simp only [Option.bind_some]
      rw [eqI _ hr _ (by omega)]
      simp only [Option.bind_some, if_true, bne_self_eq_false]
      obtain ⟨k1, hk1⟩ : ∃ k1, l.length + 700 = k1 + 1 := ⟨l.length + 699, rfl⟩
      rw [hk1]
      simp only [laws_FnExactChainOf.j0, Bool.false_eq_true, if_false]
      rw [toS l hc _ (by omega)]
      simp only [Option.bind_some]
      rw [eqS _ hm _ (by omega)]
      simp only [Option.bind_some, if_true]
      rw [m1 _ (by omega)]
      simp only [Option.bind_some]
      rw [if_neg (by omega), eqI _ hr _ (by omega)]
      simp only [Option.bind_some, if_true, bne_self_eq_false]
      obtain ⟨k2, rfl⟩ : ∃ k2, k1 = k2 + 1 := ⟨k1 - 1, by omega⟩
      simp only [laws_FnExactChainOf.j1, Bool.false_eq_true, if_false]
      rw [i3 _ (by omega)]
      simp only [Option.bind_some]
      rw [heldI yi (by omega) i2 _ (by omega)]
      simp only [Option.bind_some]
      rw [if_neg (by omega), if_pos (by omega), toS l hc _ (by omega)]
      simp only [Option.bind_some]
      rw [impl_chainOf _ hm _ _ _ _ _ (by omega)]
      simp only [Option.bind_some]
      rw [eqI _ hr _ (by omega)]
      simp only [Option.bind_some, if_true, bne_self_eq_false]
      obtain ⟨k3, rfl⟩ : ∃ k3, k2 = k3 + 1 := ⟨k2 - 1, by omega⟩
      simp only [laws_FnExactChainOf.j2, Bool.false_eq_true, if_false]
      rw [heldI yi (by omega) i2 _ (by omega)]
      simp only [Option.bind_some]
      rw [if_neg (by omega), if_pos (by omega)]

end Go.Proofs.Ytcpjfkagbnoagaa.Pure
