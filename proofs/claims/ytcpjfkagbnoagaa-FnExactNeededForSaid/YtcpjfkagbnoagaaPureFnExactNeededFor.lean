/- The program's NeededFor returns what the reference's returns, for all lists of grants, persons, parcels and times. No condition. -/
import Derived.Test.YtcpjfkagbnoagaaStmFnExactNeededFor
import Derived.Test.YtcpjfkagbnoagaaGcFnExactNeededFor
import Derived.Test.YtcpjfkagbnoagaaGiFnExactNeededFor
import Derived.Test.YtcpjfkagbnoagaaGmFnExactNeededFor
import Derived.Test.YtcpjfkagbnoagaaGnFnExactNeededFor
namespace Go.Proofs.Ytcpjfkagbnoagaa.Pure
open Go.RowKit Go.Proofs.Ytcpjfkagbnoagaa.QFnExactNeededFor Go.Proofs.Ytcpjfkagbnoagaa.GrFnExactNeededFor Go.Proofs.Ytcpjfkagbnoagaa.GcFnExactNeededFor Go.Proofs.YtcpjfkagbnoagaaW.PrintWords Go.Proofs.YtcpjfkagbnoagaaW.PrintLast

theorem FnExactNeededFor : Stm.FnExactNeededFor := by
  intro l a1 a2 a3 a4 hl _ _ _ _ _
  refine ⟨2 * l.length + 800, ?_⟩
  unfold laws_FnExactNeededFor.f
  obtain ⟨t, ht, hc⟩ := szS l (by omega)
  rw [ht]
  simp only [Option.bind_some]
  rcases hc with hc | hc
  · rw [if_pos hc]
  · by_cases h0 : t < 0
    · rw [if_pos h0]
    · have hm : (l.map conv).length ≤ 1048576 := by rw [List.length_map]; exact hc
      have hlen := needed_len (l.map conv) a1 a2 a3 a4
      have hr : (needed (l.map conv) a1 a2 a3 a4).length ≤ 1048576 := by omega
      obtain ⟨ym, m1, m2, m3⟩ := markS (l.map conv) hm
      obtain ⟨yi, i1, i2, i3⟩ := markI (needed (l.map conv) a1 a2 a3 a4) hr
      have hl2 : (l.map conv).length = l.length := List.length_map ..
      rw [if_neg h0, toS l hc _ (by omega)]
      simp only [Option.bind_some]
      rw [spec_needed _ hm _ _ _ _ _ (by omega), impl_needed _ hm _ _ _ _ _ (by omega)]
      simp only [Option.bind_some]
      rw [eqI _ hr _ (by omega)]
      simp only [Option.bind_some, if_true]
      rw [eqS _ hm _ (by omega)]
      simp only [Option.bind_some, if_true]
      rw [m1 _ (by omega)]
      simp only [Option.bind_some]
      rw [if_neg (by omega)]
      obtain ⟨k1, hk1⟩ : ∃ k1, 2 * l.length + 800 = k1 + 1 := ⟨2 * l.length + 799, rfl⟩
      rw [hk1]
      simp only [Bool.not_true, laws_FnExactNeededFor.j0, Bool.false_eq_true, if_false]
      rw [i3 _ (by omega)]
      simp only [Option.bind_some]
      rw [heldI yi (by omega) i2 _ (by omega)]
      simp only [Option.bind_some]
      rw [if_neg (by omega), if_pos (by omega), toS l hc _ (by omega)]
      simp only [Option.bind_some]
      rw [impl_needed _ hm _ _ _ _ _ (by omega)]
      simp only [Option.bind_some]
      rw [eqI _ hr _ (by omega)]
      simp only [Option.bind_some, if_true]
      rw [if_neg (by omega), if_pos (by omega)]

end Go.Proofs.Ytcpjfkagbnoagaa.Pure
