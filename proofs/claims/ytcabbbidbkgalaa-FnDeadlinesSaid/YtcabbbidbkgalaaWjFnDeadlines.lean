/- Deadlines: the law's own rounds (plain). -/
import Derived.Test.YtcabbbidbkgalaaWiFnDeadlines
namespace Go.Proofs.Ytcabbbidbkgalaa.WkFnDeadlines
open Go.RowKit Go.Proofs.Ytcabbbidbkgalaa.QFnDeadlines Go.Proofs.YtcabbbidbkgalaaW.PrintWords Go.Proofs.YtcabbbidbkgalaaW.PrintLast
set_option linter.unusedVariables false
set_option linter.unusedSimpArgs false

theorem law_l0 {w0 w1 : List S71} {b : Bool} {p : Int → Bool} (W : WkOf w0 w1 b p) {a0 a1 a2 a3 a4 a5 a6 a7 : Int} (h0 : 1 ≤ a0) (h02 : a0 ≤ 2000) (h5 : 1 ≤ a5) (h52 : a5 ≤ 2000) (h7 : 0 ≤ a7) (h72 : a7 ≤ 20)
    (s2 : impl_TermsOk.f a0 a1 a2 a3 a4 a5 a6 a7 = some true)
    (hd : ∀ t x k, 40100 < k → spec_DeadlineOf.f k w0 w1 a0 a1 a2 a3 a4 a5 a6 a7 t x = some (deadB b p true a0 a5 a7 t x) ∧ impl_DeadlineOf.f k w0 w1 a0 a1 a2 a3 a4 a5 a6 a7 t x = some (deadB b p true a0 a5 a7 t x))
    (t u : Int) (ht : 0 ≤ t) (ht2 : t ≤ 20000) :
    ∀ (d : Nat) (n last lst : Int), n + d = a7 + 1 → 0 ≤ n → (t ≤ last ∧ cnt p (last - t).toNat t < a0 + a5 * n) →
    ((lst = -1 ∧ least (deadB b p true a0 a5 a7 t) u (a7 + 1).toNat 0 = least (deadB b p true a0 a5 a7 t) u d n) ∨ (0 ≤ lst ∧ least (deadB b p true a0 a5 a7 t) u (a7 + 1).toNat 0 = (lst, true))) →
    ∀ k, 40300 + 4 * d < k → laws_FnDeadlines.l0 k t u last lst n w0 w1 a0 a1 a2 a3 a4 a5 a6 a7 = some true := by
  intro d
  induction d with
  | zero =>
    intro n last lst hn hn0 hlast hl k hk
    obtain ⟨m, rfl, hm⟩ := succ_of hk
    have e1 : wrap64 (a7 + 1) = a7 + 1 := w64 (by omega) (by omega)
    simp only [laws_FnDeadlines.l0]
    rw [if_neg (by omega), least_ok s2 h7 h72 hd t u m (by omega), e1, (hd t (a7 + 1) m (by omega)).2, s2, deadB_no (by omega)]
    simp only [Option.bind_some, if_true, Bool.false_eq_true, if_false]
    rcases hl with ⟨rfl, hl⟩ | ⟨hl0, hl⟩
    · rw [hl]
      simp [least]
    · rw [hl]
      simp [hl0]
  | succ d ih =>
    intro n last lst hn hn0 hlast hl k hk
    obtain ⟨k1, rfl, hk1⟩ := succ_of hk
    obtain ⟨k2, rfl, hk2⟩ := succ_of (show 40302 + 4 * d < k1 by omega)
    obtain ⟨k3, rfl, hk3⟩ := succ_of (show 40301 + 4 * d < k2 by omega)
    obtain ⟨k4, rfl, hk4⟩ := succ_of (show 40300 + 4 * d < k3 by omega)
    have e1 : wrap64 (n + 1) = n + 1 := w64 (by omega) (by omega)
    have em : a5 * (n + 1) = a5 * n + a5 := by rw [Int.mul_add, Int.mul_one]
    have hb := mul_bound h5 h52 hn0 (show n ≤ 20 by omega)
    rw [laws_FnDeadlines.l0, if_pos (by omega), (hd t n _ (by omega)).2, (hd t n _ (by omega)).1]
    simp only [Option.bind_some, bne_self_eq_false, Bool.false_eq_true, if_false]
    rw [laws_FnDeadlines.j1, if_neg (by decide)]
    cases hok : (deadB b p true a0 a5 a7 t n).2 with
    | false =>
      rw [if_neg (by decide), e1]
      have hs : least (deadB b p true a0 a5 a7 t) u (d + 1) n = least (deadB b p true a0 a5 a7 t) u d (n + 1) := by
        rw [least, hok, if_neg (fun h => by cases h.1)]
      refine ih (n + 1) last lst (by omega) (by omega) ⟨hlast.1, by omega⟩ ?_ _ (by omega)
      rw [← hs]
      exact hl
    | true =>
      obtain ⟨hb1, _, hy1, hy2, hy3⟩ := dead_cnt hok
      have hov : ∀ z k, 40100 < k → impl_Overdue.f k w0 w1 a0 a1 a2 a3 a4 a5 a6 a7 t z n = some (overB (deadB b p true a0 a5 a7 t n) z) := fun z k hk => over_ok hd t z n k hk
      have hcan : ∀ z k, 40100 < k → impl_CanExtend.f k w0 w1 a0 a1 a2 a3 a4 a5 a6 a7 t z n = some (canB (deadB b p true a0 a5 a7 t n) (deadB b p true a0 a5 a7 t (wrap64 (n + 1))) t z) := fun z k hk => can_ok hd t z n k hk
      have hlt : last < (deadB b p true a0 a5 a7 t n).1 := by
        by_cases h : last < (deadB b p true a0 a5 a7 t n).1
        · exact h
        · have := cnt_mono p ((deadB b p true a0 a5 a7 t n).1 - t).toNat (last - t).toNat t (by omega)
          omega
      have hs : least (deadB b p true a0 a5 a7 t) u (d + 1) n = if (deadB b p true a0 a5 a7 t n).1 ≥ u then (n, true) else least (deadB b p true a0 a5 a7 t) u d (n + 1) := by
        rw [least, hok]
        simp
      have hspec := fun k hk => (hd t (n + 1) k hk).1
      rw [e1] at hcan
      have hov1 : overB (deadB b p true a0 a5 a7 t n) (deadB b p true a0 a5 a7 t n).1 = false := by
        simp [overB]
      have hcan1 : canB (deadB b p true a0 a5 a7 t n) (deadB b p true a0 a5 a7 t (n + 1)) t (deadB b p true a0 a5 a7 t n).1 = (deadB b p true a0 a5 a7 t (n + 1)).2 := by
        unfold canB
        rw [hov1, hok, decide_eq_true hy1, decide_eq_true (show 0 ≤ (deadB b p true a0 a5 a7 t n).1 by omega), decide_eq_true hy2]
        simp
      have hov2 : (deadB b p true a0 a5 a7 t n).1 < 20000 → overB (deadB b p true a0 a5 a7 t n) ((deadB b p true a0 a5 a7 t n).1 + 1) = true := by
        intro h
        unfold overB
        rw [hok, decide_eq_true (show 0 ≤ (deadB b p true a0 a5 a7 t n).1 + 1 by omega), decide_eq_true (show (deadB b p true a0 a5 a7 t n).1 + 1 ≤ 20000 by omega), decide_eq_true (show (deadB b p true a0 a5 a7 t n).1 < (deadB b p true a0 a5 a7 t n).1 + 1 by omega)]
        rfl
      have hcan2 : (deadB b p true a0 a5 a7 t n).1 < 20000 → canB (deadB b p true a0 a5 a7 t n) (deadB b p true a0 a5 a7 t (n + 1)) t ((deadB b p true a0 a5 a7 t n).1 + 1) = false := by
        intro h
        unfold canB
        rw [hov2 h]
        simp
      have hh := hours W t (deadB b p true a0 a5 a7 t n).1
      subst hb1
      rw [hoursB_yes ht ht2 (by omega) hy2, hy3] at hh
      have emul : wrap64 (a0 + wrap64 (n * a5)) = a0 + a5 * n := by
        rw [Int.mul_comm n a5, w64 (x := a5 * n) (by omega) (by omega), w64 (by omega) (by omega)]
      have ey : (deadB true p true a0 a5 a7 t n).1 < 20000 → wrap64 ((deadB true p true a0 a5 a7 t n).1 + 1) = (deadB true p true a0 a5 a7 t n).1 + 1 := fun h => w64 (by omega) (by omega)
      have hlast2 : t ≤ (deadB true p true a0 a5 a7 t n).1 ∧ cnt p ((deadB true p true a0 a5 a7 t n).1 - t).toNat t < a0 + a5 * (n + 1) := ⟨hy1, by omega⟩
      rw [if_pos rfl, if_neg (by omega), hov _ _ (by omega), hov1]
      simp only [Option.bind_some, Bool.false_eq_true, if_false]
      suffices hj2 : laws_FnDeadlines.j2 (k4 + 1 + 1) t u lst n (deadB true p true a0 a5 a7 t n).1 false w0 w1 a0 a1 a2 a3 a4 a5 a6 a7 = some true by
        by_cases hyl : (deadB true p true a0 a5 a7 t n).1 < 20000
        · rw [if_pos hyl, ey hyl, hov _ _ (by omega), hov2 hyl]
          simp only [Option.bind_some, if_true]
          rw [hh _ (by omega)]
          simp only [Option.bind_some, emul, bne_self_eq_false]
          exact hj2
        · rw [if_neg hyl, hh _ (by omega)]
          simp only [Option.bind_some, emul, bne_self_eq_false]
          exact hj2
      rw [laws_FnDeadlines.j2, if_neg (by decide), e1, hspec _ (by omega), hcan _ _ (by omega), hcan1]
      simp only [Option.bind_some, bne_self_eq_false, Bool.false_eq_true, if_false]
      suffices hj3 : laws_FnDeadlines.j3 (k4 + 1) t u lst n (deadB true p true a0 a5 a7 t n).1 false w0 w1 a0 a1 a2 a3 a4 a5 a6 a7 = some true by
        by_cases hyl : (deadB true p true a0 a5 a7 t n).1 < 20000
        · rw [if_pos hyl, ey hyl, hcan _ _ (by omega), hcan2 hyl]
          exact hj3
        · rw [if_neg hyl]
          exact hj3
      rw [laws_FnDeadlines.j3, if_neg (by decide)]
      by_cases hyu : (deadB true p true a0 a5 a7 t n).1 ≥ u
      · rw [if_pos hyu] at hs
        rw [if_pos hyu]
        rcases hl with ⟨rfl, hl⟩ | ⟨hl0, hl⟩
        · rw [if_pos (by decide), e1]
          exact ih (n + 1) _ n (by omega) (by omega) hlast2 (.inr ⟨hn0, by rw [hl, hs]⟩) _ (by omega)
        · rw [if_neg (by omega), e1]
          exact ih (n + 1) _ lst (by omega) (by omega) hlast2 (.inr ⟨hl0, hl⟩) _ (by omega)
      · rw [if_neg hyu] at hs
        rw [if_neg hyu, e1]
        refine ih (n + 1) _ lst (by omega) (by omega) hlast2 ?_ _ (by omega)
        rw [← hs]
        exact hl
end Go.Proofs.Ytcabbbidbkgalaa.WkFnDeadlines
