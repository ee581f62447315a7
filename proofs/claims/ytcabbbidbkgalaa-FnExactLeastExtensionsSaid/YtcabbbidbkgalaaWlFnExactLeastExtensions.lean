/- Deadlines: the least number of extensions, in both (plain). -/
import Derived.Test.YtcabbbidbkgalaaWaFnExactLeastExtensions
namespace Go.Proofs.Ytcabbbidbkgalaa.WkFnExactLeastExtensions
open Go.RowKit Go.Proofs.Ytcabbbidbkgalaa.PFnExactLeastExtensions Go.Proofs.YtcabbbidbkgalaaW.PrintWords Go.Proofs.YtcabbbidbkgalaaW.PrintLast
set_option linter.unusedVariables false
set_option linter.unusedSimpArgs false

/-- The first number from n on, d numbers at most, whose deadline is at least u. -/
def least (dl : Int → Int × Bool) (u : Int) : Nat → Int → Int × Bool
  | 0, _ => (0, false)
  | d + 1, n => if (dl n).2 = true ∧ (dl n).1 ≥ u then (n, true) else least dl u d (n + 1)

theorem least_l0 {l0 l1 : List S71} {b : Bool} {p : Int → Bool} {a0 a1 a2 a3 a4 a5 a6 a7 : Int} (s1 : spec_TermsOk.f a0 a1 a2 a3 a4 a5 a6 a7 = some true) (ha : 0 ≤ a7) (ha2 : a7 ≤ 20) (t u : Int)
    (hd : ∀ t x k, 40100 < k → spec_DeadlineOf.f k l0 l1 a0 a1 a2 a3 a4 a5 a6 a7 t x = some (deadB b p true a0 a5 a7 t x) ∧ impl_DeadlineOf.f k l0 l1 a0 a1 a2 a3 a4 a5 a6 a7 t x = some (deadB b p true a0 a5 a7 t x)) :
    ∀ (d : Nat) (n : Int), n + d = a7 + 1 → 0 ≤ n → ∀ k, 40110 + 2 * d < k →
    spec_LeastExtensions.l0 k t u n l0 l1 a0 a1 a2 a3 a4 a5 a6 a7 = some (least (deadB b p true a0 a5 a7 t) u d n) ∧ impl_LeastExtensions.l0 k t u n l0 l1 a0 a1 a2 a3 a4 a5 a6 a7 = some (least (deadB b p true a0 a5 a7 t) u d n) := by
  intro d
  induction d with
  | zero =>
    intro n hn h0 k hk
    obtain ⟨m, rfl, hm⟩ := succ_of hk
    obtain ⟨q, rfl, hq⟩ := succ_of (show 40000 < m by omega)
    have c : ¬ n ≤ a7 := by omega
    rw [spec_LeastExtensions.l0, impl_LeastExtensions.l0, s1, if_neg c]
    simp [c, spec_LeastExtensions.j1, least]
  | succ d ih =>
    intro n hn h0 k hk
    obtain ⟨m, rfl, hm⟩ := succ_of hk
    obtain ⟨q, rfl, hq⟩ := succ_of (show 40000 < m by omega)
    have c : n ≤ a7 := by omega
    have e1 : wrap64 (n + 1) = n + 1 := w64 (by omega) (by omega)
    have i1 := (ih (n + 1) (by omega) (by omega) q (by omega)).1
    have i2 := (ih (n + 1) (by omega) (by omega) (q + 1) (by omega)).2
    rw [spec_LeastExtensions.l0, impl_LeastExtensions.l0, s1, if_pos c, (hd t n (q + 1) (by omega)).2]
    simp only [Option.bind_some, if_true]
    rw [spec_LeastExtensions.j1, if_pos (by simpa using c), (hd t n q (by omega)).1]
    simp only [Option.bind_some, e1, i1, i2, least]
    by_cases c1 : (deadB b p true a0 a5 a7 t n).2 = true
    · by_cases c2 : (deadB b p true a0 a5 a7 t n).1 ≥ u
      · simp [c1, c2]
      · simp [c1, c2]
    · simp [c1]

def leastB (b : Bool) (p : Int → Bool) (T : Bool) (keep longer most t u : Int) : Int × Bool := if T = true then least (deadB b p T keep longer most t) u (most + 1).toNat 0 else (0, false)
theorem least_ok {l0 l1 : List S71} {b : Bool} {p : Int → Bool} (W : WkOf l0 l1 b p) (a0 a1 a2 a3 a4 a5 a6 a7 : Int) : ∃ T, (spec_TermsOk.f a0 a1 a2 a3 a4 a5 a6 a7 = some T ∧ impl_TermsOk.f a0 a1 a2 a3 a4 a5 a6 a7 = some T ∧ (T = true ↔ (1 ≤ a0 ∧ a0 ≤ 2000) ∧ (0 ≤ a1 ∧ a1 ≤ 2000) ∧ (1 ≤ a2 ∧ a2 ≤ 2000) ∧ (0 ≤ a3 ∧ a3 ≤ 10000) ∧ (0 ≤ a4 ∧ a4 ≤ 1000000) ∧ (1 ≤ a5 ∧ a5 ≤ 2000) ∧ (0 ≤ a6 ∧ a6 ≤ 100000) ∧ (0 ≤ a7 ∧ a7 ≤ 20))) ∧ ∀ t u k, 40200 < k →
    spec_LeastExtensions.f k l0 l1 a0 a1 a2 a3 a4 a5 a6 a7 t u = some (leastB b p T a0 a5 a7 t u) ∧ impl_LeastExtensions.f k l0 l1 a0 a1 a2 a3 a4 a5 a6 a7 t u = some (leastB b p T a0 a5 a7 t u) := by
  obtain ⟨T, ⟨s1, s2, s3⟩, hd⟩ := dead_ok W a0 a1 a2 a3 a4 a5 a6 a7
  refine ⟨T, ⟨s1, s2, s3⟩, fun t u k hk => ?_⟩
  unfold spec_LeastExtensions.f impl_LeastExtensions.f
  rw [s2]
  simp only [Option.bind_some]
  cases T with
  | false =>
    obtain ⟨m, rfl, hm⟩ := succ_of hk
    obtain ⟨q, rfl, hq⟩ := succ_of (show 40000 < m by omega)
    rw [spec_LeastExtensions.l0, s1]
    simp [spec_LeastExtensions.j1, leastB]
  | true =>
    have hT := s3.1 rfl
    rw [if_pos rfl, show leastB b p true a0 a5 a7 t u = _ from if_pos rfl]
    exact least_l0 s1 hT.2.2.2.2.2.2.2.1 hT.2.2.2.2.2.2.2.2 t u hd (a7 + 1).toNat 0 (by omega) (by omega) k (by omega)
end Go.Proofs.Ytcabbbidbkgalaa.WkFnExactLeastExtensions
