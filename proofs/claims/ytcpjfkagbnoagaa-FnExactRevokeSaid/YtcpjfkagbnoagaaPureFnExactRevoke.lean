/- The program's Revoke returns what the reference's returns, leaves its argument, and shares nothing with it. No condition. -/
import Derived.Test.YtcpjfkagbnoagaaStmFnExactRevoke
import Derived.Test.YtcpjfkagbnoagaaGdFnExactRevoke
namespace Go.Proofs.Ytcpjfkagbnoagaa.Pure
open Go.RowKit Go.Proofs.Ytcpjfkagbnoagaa.QFnExactRevoke Go.Proofs.Ytcpjfkagbnoagaa.GrFnExactRevoke Go.Proofs.Ytcpjfkagbnoagaa.GcFnExactRevoke Go.Proofs.YtcpjfkagbnoagaaW.PrintWords Go.Proofs.YtcpjfkagbnoagaaW.PrintLast

def rv (l : List S25) (a : Int) : List S25 × Bool :=
  if okGs l = true then (if 0 ≤ a ∧ a ≤ (l.length : Int) - 1 then (if (rd_T25 l a).f6 = true then (l, false) else (l.set a.toNat ⟨(rd_T25 l a).f0, (rd_T25 l a).f1, (rd_T25 l a).f2, (rd_T25 l a).f3, (rd_T25 l a).f4, (rd_T25 l a).f5, true⟩, true)) else (l, false)) else (l, false)
theorem rv_len (l : List S25) (a : Int) : (rv l a).1.length = l.length := by
  unfold rv
  (repeat' split) <;> simp
theorem spec_rv (l : List S25) (hl : l.length ≤ 1048576) (a : Int) : ∀ k, l.length < k → spec_Revoke.f k l a = some (rv l a) := by
  intro k hk
  unfold spec_Revoke.f rv
  simp only [Option.bind_some, List.nil_append, List.length_nil, Nat.zero_add]
  rw [if_pos (by omega), spec_oks l hl k hk]
  simp only [Option.bind_some]
  rw [w64 (by omega) (by omega), sin]
  simp only [Option.bind_some, decide_eq_true_eq]
  by_cases h1 : okGs l = true
  · rw [if_pos h1, if_pos h1]
    by_cases h2 : 0 ≤ a ∧ a ≤ (l.length : Int) - 1
    · rw [if_pos h2, if_pos h2, if_pos h2.1, if_pos (by omega)]
      by_cases h3 : (rd_T25 l a).f6 = true
      · rw [if_pos h3, if_pos h3]
      · rw [if_neg h3, if_neg h3, if_pos (by omega)]
    · rw [if_neg h2, if_neg h2]
  · rw [if_neg h1, if_neg h1]
theorem impl_rv (l : List S25) (hl : l.length ≤ 1048576) (a : Int) : ∀ k, l.length < k → impl_Revoke.f k l a = some (rv l a) := by
  intro k hk
  unfold impl_Revoke.f impl_Grant_68.f rv
  rw [if_pos (by omega), impl_oks l hl k hk]
  simp only [Option.bind_some]
  rw [w64 (by omega) (by omega), win]
  simp only [Option.bind_some, decide_eq_true_eq]
  by_cases h1 : okGs l = true
  · rw [if_pos h1, if_pos h1]
    by_cases h2 : 0 ≤ a ∧ a ≤ (l.length : Int) - 1
    · rw [if_pos h2, if_pos h2, if_pos h2.1, if_pos (by omega)]
      by_cases h3 : (rd_T25 l a).f6 = true
      · rw [if_pos h3, if_pos h3]
      · rw [if_neg h3, if_neg h3, if_pos (by omega)]
    · rw [if_neg h2, if_neg h2]
  · rw [if_neg h1, if_neg h1]
theorem j2_ok (y : List S25) (hy : y.length ≤ 1048576) (hm : ∀ j : Nat, ∀ hj : j < y.length, y[j] = mk_ j) (k : Nat) (hk : y.length < k) : laws_FnExactRevoke.j2 (k + 1) y (7 * (y.length : Int) + 1) false = some true := by
  simp only [laws_FnExactRevoke.j2, Bool.false_eq_true, if_false]
  rw [heldS y hy hm k hk]
  simp only [Option.bind_some]
  rw [if_neg (by omega), if_pos trivial]
theorem j1_ok (l : List S23) (hl : l.length ≤ 1048576) (a : Int) (x9 : List S25) (hx : x9.length ≤ 1048576) (k : Nat) (hk : l.length < k) (hk2 : x9.length < k) :
    laws_FnExactRevoke.j1 (k + 1 + 1) l a (rv (l.map conv) a).1 (rv (l.map conv) a).2 x9 false = some true := by
  simp only [laws_FnExactRevoke.j1, Bool.false_eq_true, if_false]
  obtain ⟨y, h1, h2, h3⟩ := markS x9 hx
  rw [h1 (k + 1) (by omega)]
  simp only [Option.bind_some]
  rw [heldS y (by omega) h3 _ (by omega), h2]
  simp only [Option.bind_some]
  rw [if_neg (by omega), if_pos trivial, toS l hl _ (by omega)]
  simp only [Option.bind_some]
  rw [impl_rv _ (by simpa using hl) a _ (by rw [List.length_map]; omega)]
  simp only [Option.bind_some]
  have hr := rv_len (l.map conv) a
  rw [List.length_map] at hr
  rw [eqS _ (by omega) _ (by omega)]
  simp only [Option.bind_some, if_true, bne_self_eq_false]
  rw [← h2]
  exact j2_ok y (by omega) h3 k (by omega)
theorem j0_ok (l : List S23) (hl : l.length ≤ 1048576) (a : Int) (k : Nat) (hk : l.length < k) :
    laws_FnExactRevoke.j0 (k + 1 + 1 + 1) l a (rv (l.map conv) a).1 (rv (l.map conv) a).2 (l.map conv) (rv (l.map conv) a).1 (rv (l.map conv) a).2 false = some true := by
  simp only [laws_FnExactRevoke.j0, Bool.false_eq_true, if_false]
  rw [toS l hl _ (by omega)]
  simp only [Option.bind_some]
  have hm : (l.map conv).length ≤ 1048576 := by simpa using hl
  rw [eqS _ hm _ (by rw [List.length_map]; omega)]
  simp only [Option.bind_some, if_true]
  obtain ⟨y, h1, h2, h3⟩ := markS (l.map conv) hm
  rw [h1 _ (by rw [List.length_map]; omega)]
  simp only [Option.bind_some]
  have hr := rv_len (l.map conv) a
  rw [List.length_map] at hr
  rw [if_neg (by omega), eqS _ (by omega) _ (by omega)]
  simp only [Option.bind_some, if_true, bne_self_eq_false]
  exact j1_ok l hl a _ (by omega) k hk (by omega)

theorem FnExactRevoke : Stm.FnExactRevoke := by
  intro l a hl _ _
  refine ⟨l.length + 1 + 1 + 1 + 1, ?_⟩
  unfold laws_FnExactRevoke.f
  obtain ⟨t, ht, hc⟩ := szS l (by omega)
  rw [ht]
  simp only [Option.bind_some]
  rcases hc with hc | hc
  · rw [if_pos hc]
  · by_cases h0 : t < 0
    · rw [if_pos h0]
    · have hm : (l.map conv).length ≤ 1048576 := by simpa using hc
      have hr := rv_len (l.map conv) a
      rw [List.length_map] at hr
      rw [if_neg h0, toS l hc _ (by omega)]
      simp only [Option.bind_some]
      rw [spec_rv _ hm a _ (by rw [List.length_map]; omega), impl_rv _ hm a _ (by rw [List.length_map]; omega)]
      simp only [Option.bind_some]
      rw [eqS _ (by omega) _ (by omega)]
      simp only [Option.bind_some, if_true, bne_self_eq_false]
      exact j0_ok l hc a (l.length + 1) (by omega)

end Go.Proofs.Ytcpjfkagbnoagaa.Pure
