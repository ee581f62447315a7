/- The program's AddGrant returns what the reference's returns, leaves its argument, and shares nothing with it. No condition. -/
import Derived.Test.YtcpjfkagbnoagaaStmFnExactAddGrant
import Derived.Test.YtcpjfkagbnoagaaGdFnExactAddGrant
namespace Go.Proofs.Ytcpjfkagbnoagaa.Pure
open Go.RowKit Go.Proofs.Ytcpjfkagbnoagaa.QFnExactAddGrant Go.Proofs.Ytcpjfkagbnoagaa.GrFnExactAddGrant Go.Proofs.Ytcpjfkagbnoagaa.GcFnExactAddGrant Go.Proofs.YtcpjfkagbnoagaaW.PrintWords Go.Proofs.YtcpjfkagbnoagaaW.PrintLast

def ag (l : List S25) (g : S25) : List S25 × Bool :=
  if okGs l = true then (if (l.length : Int) = 30 then (l, false) else (if okG g = true then (if g.f6 = true then (l, false) else (l ++ [g], true)) else (l, false))) else (l, false)
theorem ag_len (l : List S25) (g : S25) : (ag l g).1.length ≤ l.length + 1 := by
  unfold ag
  (repeat' split) <;> simp
theorem ag_len2 (l : List S25) (hl : l.length ≤ 1048576) (g : S25) : (ag l g).1.length ≤ 1048576 := by
  unfold ag
  by_cases h : okGs l = true
  · have h2 : l.length ≤ 30 := by
      have h3 := h
      unfold okGs at h3
      simp only [Bool.and_eq_true, decide_eq_true_eq] at h3
      exact h3.1
    have h5 := ag_len l g
    unfold ag at h5
    omega
  · rw [if_neg h]; exact hl
theorem spec_ag (l : List S25) (hl : l.length ≤ 1048576) (g : S25) : ∀ k, l.length < k → spec_AddGrant.f k l g.f0 g.f1 g.f2 g.f3 g.f4 g.f5 g.f6 = some (ag l g) := by
  intro k hk
  unfold spec_AddGrant.f ag
  simp only [Option.bind_some, List.nil_append, List.length_nil, Nat.zero_add]
  rw [if_pos (by omega), spec_oks l hl k hk]
  simp only [Option.bind_some]
  rw [spec_ok]
  simp only [Option.bind_some]
  by_cases h1 : okGs l = true
  · rw [if_pos h1, if_pos h1]
    by_cases h2 : (l.length : Int) = 30
    · rw [if_pos h2, if_pos h2]
    · rw [if_neg h2, if_neg h2]
      by_cases h3 : okG g = true
      · rw [if_pos h3, if_pos h3]
        by_cases h4 : g.f6 = true
        · rw [if_pos h4, if_pos h4]
        · rw [if_neg h4, if_neg h4, if_pos (by omega)]
      · rw [if_neg h3, if_neg h3]
  · rw [if_neg h1, if_neg h1]
theorem impl_ag (l : List S25) (hl : l.length ≤ 1048576) (g : S25) : ∀ k, l.length < k → impl_AddGrant.f k l g.f0 g.f1 g.f2 g.f3 g.f4 g.f5 g.f6 = some (ag l g) := by
  intro k hk
  unfold impl_AddGrant.f impl_Grant_68.f ag
  rw [if_pos (by omega), impl_oks l hl k hk, impl_ok]
  simp only [Option.bind_some]
  by_cases h1 : okGs l = true
  · rw [if_pos h1, if_pos h1]
    by_cases h2 : (l.length : Int) = 30
    · rw [if_pos h2, if_pos h2]
    · rw [if_neg h2, if_neg h2]
      by_cases h3 : okG g = true
      · rw [if_pos h3, if_pos h3]
        by_cases h4 : g.f6 = true
        · rw [if_pos h4, if_pos h4]
        · rw [if_neg h4, if_neg h4, if_pos (by omega)]
      · rw [if_neg h3, if_neg h3]
  · rw [if_neg h1, if_neg h1]
theorem toG (a b c d e f : Int) (g : Bool) : laws_toGrant.f a b c d e f g = some (a, b, c, d, e, f, g) := rfl
theorem j2_ok (y : List S25) (hy : y.length ≤ 1048576) (hm : ∀ j : Nat, ∀ hj : j < y.length, y[j] = mk_ j) (k : Nat) (hk : y.length < k) : laws_FnExactAddGrant.j2 (k + 1) y (7 * (y.length : Int) + 1) false = some true := by
  simp only [laws_FnExactAddGrant.j2, Bool.false_eq_true, if_false]
  rw [heldS y hy hm k hk]
  simp only [Option.bind_some]
  rw [if_neg (by omega), if_pos trivial]
theorem j1_ok (l : List S23) (hl : l.length ≤ 1048576) (g : S25) (x9 : List S25) (hx : x9.length ≤ 1048576) (k : Nat) (hk : l.length < k) (hk2 : x9.length < k) :
    laws_FnExactAddGrant.j1 (k + 1 + 1) l (ag (l.map conv) g).1 (ag (l.map conv) g).2 x9 false g.f0 g.f1 g.f2 g.f3 g.f4 g.f5 g.f6 = some true := by
  simp only [laws_FnExactAddGrant.j1, Bool.false_eq_true, if_false]
  obtain ⟨y, h1, h2, h3⟩ := markS x9 hx
  rw [h1 (k + 1) (by omega)]
  simp only [Option.bind_some]
  rw [heldS y (by omega) h3 _ (by omega), h2]
  simp only [Option.bind_some]
  rw [if_neg (by omega), if_pos trivial, toS l hl _ (by omega)]
  simp only [Option.bind_some]
  rw [toG]
  simp only [Option.bind_some]
  rw [impl_ag _ (by simpa using hl) g _ (by rw [List.length_map]; omega)]
  simp only [Option.bind_some]
  have hr := ag_len (l.map conv) g
  have hr2 := ag_len2 (l.map conv) (by simpa using hl) g
  rw [List.length_map] at hr
  rw [eqS _ (by omega) _ (by omega)]
  simp only [Option.bind_some, if_true, bne_self_eq_false]
  rw [← h2]
  exact j2_ok y (by omega) h3 k (by omega)
theorem j0_ok (l : List S23) (hl : l.length ≤ 1048576) (g : S25) (k : Nat) (hk : l.length + 1 < k) :
    laws_FnExactAddGrant.j0 (k + 1 + 1 + 1) l (ag (l.map conv) g).1 (ag (l.map conv) g).2 (l.map conv) (ag (l.map conv) g).1 (ag (l.map conv) g).2 false g.f0 g.f1 g.f2 g.f3 g.f4 g.f5 g.f6 = some true := by
  simp only [laws_FnExactAddGrant.j0, Bool.false_eq_true, if_false]
  rw [toS l hl _ (by omega)]
  simp only [Option.bind_some]
  have hm : (l.map conv).length ≤ 1048576 := by simpa using hl
  rw [eqS _ hm _ (by rw [List.length_map]; omega)]
  simp only [Option.bind_some, if_true]
  obtain ⟨y, h1, h2, h3⟩ := markS (l.map conv) hm
  rw [h1 _ (by rw [List.length_map]; omega)]
  simp only [Option.bind_some]
  have hr := ag_len (l.map conv) g
  have hr2 := ag_len2 (l.map conv) (by simpa using hl) g
  rw [List.length_map] at hr
  rw [if_neg (by omega), eqS _ (by omega) _ (by omega)]
  simp only [Option.bind_some, if_true, bne_self_eq_false]
  exact j1_ok l hl g _ (by omega) k (by omega) (by omega)

theorem FnExactAddGrant : Stm.FnExactAddGrant := by
  intro l a1_0 a1_1 a1_2 a1_3 a1_4 a1_5 a1_6 hl _ _ _ _ _ _ _
  refine ⟨l.length + 3 + 1 + 1 + 1, ?_⟩
  unfold laws_FnExactAddGrant.f
  obtain ⟨t, ht, hc⟩ := szS l (by omega)
  rw [ht]
  simp only [Option.bind_some]
  rcases hc with hc | hc
  · rw [if_pos hc]
  · by_cases h0 : t < 0
    · rw [if_pos h0]
    · have hm : (l.map conv).length ≤ 1048576 := by simpa using hc
      have hr := ag_len (l.map conv) ⟨a1_0, a1_1, a1_2, a1_3, a1_4, a1_5, a1_6⟩
      have hr2 := ag_len2 (l.map conv) hm ⟨a1_0, a1_1, a1_2, a1_3, a1_4, a1_5, a1_6⟩
      rw [List.length_map] at hr
      rw [if_neg h0, toS l hc _ (by omega), toG]
      simp only [Option.bind_some]
      have e1 := spec_ag _ hm ⟨a1_0, a1_1, a1_2, a1_3, a1_4, a1_5, a1_6⟩ (l.length + 3 + 1 + 1 + 1) (by rw [List.length_map]; omega)
      have e2 := impl_ag _ hm ⟨a1_0, a1_1, a1_2, a1_3, a1_4, a1_5, a1_6⟩ (l.length + 3 + 1 + 1 + 1) (by rw [List.length_map]; omega)
      simp only at e1 e2
      rw [e1, e2]
      simp only [Option.bind_some]
      rw [eqS _ hr2 _ (by omega)]
      simp only [Option.bind_some, if_true, bne_self_eq_false]
      exact j0_ok l hc ⟨a1_0, a1_1, a1_2, a1_3, a1_4, a1_5, a1_6⟩ (l.length + 3) (by omega)

end Go.Proofs.Ytcpjfkagbnoagaa.Pure
