/- Calling a grant off gives nobody a right; it ends one just if the grant is needed for it, and those lie in the chain: for every code (plain). -/
import Derived.Test.YtcpjfkagbnoagaaGvFnRevoking
import Derived.Test.YtcpjfkagbnoagaaDgFnRevoking
namespace Go.Proofs.Ytcpjfkagbnoagaa.Pure
open Go.RowKit Go.Proofs.Ytcpjfkagbnoagaa.QFnRevoking Go.Proofs.Ytcpjfkagbnoagaa.GrFnRevoking Go.Proofs.Ytcpjfkagbnoagaa.GcFnRevoking Go.Proofs.YtcpjfkagbnoagaaW.PrintWords Go.Proofs.YtcpjfkagbnoagaaW.PrintLast

theorem each (l : List S25) (hl : l.length ≤ 31) (o w p now : Int) : ∀ (d i : Nat), i + d = 12 ∨ i + d = l.length → i ≤ 12 → i ≤ l.length → ∀ k, 3000 + 3 * d < k → laws_FnRevoking.l1 k l o w p now (needed l o w p now) (mayB l o w p now) (i : Int) = some true := by
  have hn6 := needed_six l o w p now
  have fin : ∀ k (i : Int) b, 0 < k → b = false → laws_FnRevoking.j2 k l o w p now (needed l o w p now) (mayB l o w p now) i b = some true := by
    intro k i b hk hb
    obtain ⟨m, rfl, _⟩ := succ_of hk
    rw [hb]
    simp only [laws_FnRevoking.j2, Bool.false_eq_true, if_false]
    rw [decide_eq_true (by omega)]
  have main : ∀ (i : Nat) k, i < l.length → i < 12 → 1000 < k → laws_FnRevoking.l1 k l o w p now (needed l o w p now) (mayB l o w p now) ((i + 1 : Nat) : Int) = some true → laws_FnRevoking.j2 (k + 1 + 1) l o w p now (needed l o w p now) (mayB l o w p now) (i : Int) true = some true := by
    intro i k hi hi2 hk hnext
    have e1 : wrap64 ((i : Int) + 1) = ((i + 1 : Nat) : Int) := w64 (by omega) (by omega)
    have hr := rv_len l (i : Int)
    simp only [laws_FnRevoking.j2, if_true]
    rw [impl_rv l (by omega) _ _ (by omega), spec_rv l (by omega) _ _ (by omega)]
    simp only [Option.bind_some, bne_self_eq_false, Bool.false_eq_true, if_false]
    rw [sameG _ (by omega) _ (by omega)]
    simp only [Option.bind_some, Bool.not_true, laws_FnRevoking.j3, Bool.false_eq_true, if_false]
    rw [impl_may _ (by omega) _ _ _ _ _ (by omega)]
    simp only [Option.bind_some]
    rw [rv_at l i hi, hasI _ (by omega) _ _ (by omega), e1, hnext]
    simp only [Option.bind_some]
    cases hok : okGs l with
    | false =>
      have hM : mayB l o w p now = false := by
        cases h : mayB l o w p now with
        | false => rfl
        | true => rw [good_oks (may_good h)] at hok; cases hok
      simp only [Bool.false_eq_true, if_false, hM]
    | true =>
      simp only [if_true]
      by_cases hf : l[i].f6 = true
      · simp only [hf, if_true]
        cases hM : mayB l o w p now <;> simp
      · simp only [if_neg hf]
        cases hO : mayB (offL l i) o w p now with
        | true =>
          have hM := off_less hi hok hO
          have hnot : ¬ (i : Int) ∈ needed l o w p now := fun h => by
            obtain ⟨_, j, _, hj, hf2⟩ := needed_mem.1 h
            have : i = j := by omega
            rw [← this, hO] at hf2; cases hf2
          rw [decide_eq_false hnot, hM]
          simp
        | false =>
          cases hM : mayB l o w p now with
          | false => simp
          | true =>
            rw [decide_eq_true (needed_mem.2 ⟨hM, i, hi, rfl, hO⟩)]
            simp
  intro d
  induction d with
  | zero =>
    intro i hi h12 hil k hk
    obtain ⟨m, rfl, hm⟩ := succ_of hk
    rw [laws_FnRevoking.l1]
    by_cases c : (i : Int) < (l.length : Int)
    · rw [if_pos c, decide_eq_false (by omega)]; exact fin _ _ _ (by omega) rfl
    · rw [if_neg c]; exact fin _ _ _ (by omega) rfl
  | succ d ih =>
    intro i hi h12 hil k hk
    obtain ⟨m, rfl, hm⟩ := succ_of hk
    obtain ⟨m, rfl, hm⟩ := succ_of (show 3000 + 3 * d + 1 < m by omega)
    obtain ⟨m, rfl, hm⟩ := succ_of (show 3000 + 3 * d < m by omega)
    rw [laws_FnRevoking.l1]
    by_cases c : (i : Int) < (l.length : Int)
    · rw [if_pos c]
      by_cases c2 : i < 12
      · rw [decide_eq_true (by omega)]
        exact main i m (by omega) c2 (by omega) (ih (i + 1) (by omega) (by omega) (by omega) m (by omega))
      · rw [decide_eq_false (by omega)]; exact fin _ _ _ (by omega) rfl
    · rw [if_neg c]; exact fin _ _ _ (by omega) rfl
theorem inside (l : List S25) (hl : l.length ≤ 31) (o w p now : Int) : ∀ (d i : Nat), i + d = (needed l o w p now).length → ∀ k, 5000 + d < k → laws_FnRevoking.l0 k l o w p now (needed l o w p now) (chainB l o w p now).1 (mayB l o w p now) (i : Int) = some true := by
  have hn6 := needed_six l o w p now
  have hc6 := chainB_len l o w p now
  intro d
  induction d with
  | zero =>
    intro i hi k hk
    obtain ⟨m, rfl, hm⟩ := succ_of hk
    simp only [laws_FnRevoking.l0]
    rw [if_neg (by omega)]
    by_cases c : l.length ≤ 12
    · exact each l hl o w p now l.length 0 (by omega) (by omega) (by omega) m (by omega)
    · exact each l hl o w p now 12 0 (by omega) (by omega) (by omega) m (by omega)
  | succ d ih =>
    intro i hi k hk
    obtain ⟨m, rfl, hm⟩ := succ_of hk
    have hil : i < (needed l o w p now).length := by omega
    have e1 : wrap64 ((i : Int) + 1) = ((i + 1 : Nat) : Int) := w64 (by omega) (by omega)
    have hmem := List.getElem_mem hil
    simp only [laws_FnRevoking.l0]
    rw [if_pos (by omega), if_pos (needed_mem.1 hmem).1, if_pos (by omega), rdI2 _ i hil, hasI _ (by omega) _ _ (by omega), decide_eq_true (need_chain hmem), e1]
    simp only [Option.bind_some, if_true]
    exact ih (i + 1) (by omega) m (by omega)
theorem FnRevoking : laws_FnRevoking.Pure := by
  intro x hx
  intros
  by_cases hl : (x.length : Int) > 1048576
  · refine ⟨1, ?_⟩
    unfold laws_FnRevoking.f laws_big.f
    rw [decide_eq_true hl]
    rfl
  · have hx' : x.length ≤ 1048576 := by omega
    obtain ⟨l, o, w, p, now, hl31, hn, hd⟩ := DwFnRevoking.four_ex x hx'
    have hn6 := needed_six l o w p now
    refine ⟨10000, ?_⟩
    unfold laws_FnRevoking.f laws_big.f
    rw [decide_eq_false hl]
    simp only [Option.bind_some, Bool.false_eq_true, if_false]
    unfold spec_DrawNeededFor.f
    rw [hd _ (by omega)]
    simp only [Option.bind_some]
    rw [impl_needed _ (by omega) _ _ _ _ _ (by omega), spec_needed _ (by omega) _ _ _ _ _ (by omega)]
    simp only [Option.bind_some]
    rw [sameI _ (by omega) _ (by omega)]
    simp only [Option.bind_some, if_true]
    rw [spec_chainOf _ (by omega) _ _ _ _ _ (by omega)]
    simp only [Option.bind_some, chainB_snd]
    exact inside l hl31 o w p now (needed l o w p now).length 0 (by omega) _ (by omega)

end Go.Proofs.Ytcpjfkagbnoagaa.Pure
