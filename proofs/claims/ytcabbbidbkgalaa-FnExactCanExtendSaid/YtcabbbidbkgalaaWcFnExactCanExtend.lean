/- Deadlines: may a parcel's time be made longer, in both (plain). -/
import Derived.Test.YtcabbbidbkgalaaWaFnExactCanExtend
namespace Go.Proofs.Ytcabbbidbkgalaa.WkFnExactCanExtend
open Go.RowKit Go.Proofs.Ytcabbbidbkgalaa.PFnExactCanExtend Go.Proofs.YtcabbbidbkgalaaW.PrintWords Go.Proofs.YtcabbbidbkgalaaW.PrintLast
set_option linter.unusedVariables false
set_option linter.unusedSimpArgs false

/-- Overdue, given the deadline. -/
def overB (dl : Int × Bool) (n : Int) : Bool := dl.2 && (decide (0 ≤ n) && decide (n ≤ 20000) && decide (dl.1 < n))
def canB (dl dl2 : Int × Bool) (t n : Int) : Bool := dl.2 && dl2.2 && (decide (0 ≤ n) && decide (n ≤ 20000)) && decide (t ≤ n) && !(overB dl n)

theorem over_ok {l0 l1 : List S71} {b : Bool} {p : Int → Bool} {T : Bool} {a0 a1 a2 a3 a4 a5 a6 a7 : Int}
    (hd : ∀ t x k, 40100 < k → spec_DeadlineOf.f k l0 l1 a0 a1 a2 a3 a4 a5 a6 a7 t x = some (deadB b p T a0 a5 a7 t x) ∧ impl_DeadlineOf.f k l0 l1 a0 a1 a2 a3 a4 a5 a6 a7 t x = some (deadB b p T a0 a5 a7 t x)) (t n x : Int) (k : Nat) (hk : 40100 < k) :
    spec_Overdue.f k l0 l1 a0 a1 a2 a3 a4 a5 a6 a7 t n x = some (overB (deadB b p T a0 a5 a7 t x) n) ∧ impl_Overdue.f k l0 l1 a0 a1 a2 a3 a4 a5 a6 a7 t n x = some (overB (deadB b p T a0 a5 a7 t x) n) := by
  obtain ⟨f1, f2⟩ := hd t x k hk
  unfold spec_Overdue.f impl_Overdue.f
  have hr := deadB_range b p T a0 a5 a7 t x
  rw [f1, f2]
  simp only [Option.bind_some]
  obtain ⟨r, q1, q2, q3⟩ := time_ex n
  obtain ⟨s, o1, o2, o3⟩ := in_ex n ((deadB b p T a0 a5 a7 t x).1 + 1) 20000
  rw [w64 (x := (deadB b p T a0 a5 a7 t x).1 + 1) (by omega) (by omega), o1, q2]
  simp only [Option.bind_some]
  have er : r = (decide (0 ≤ n) && decide (n ≤ 20000)) := by
    rw [Bool.eq_iff_iff, q3, Bool.and_eq_true, decide_eq_true_eq, decide_eq_true_eq]
  have es : s = (r && decide ((deadB b p T a0 a5 a7 t x).1 < n)) := by
    rw [Bool.eq_iff_iff, o3, Bool.and_eq_true, q3, decide_eq_true_eq]
    omega
  unfold overB
  rw [← er]
  subst es
  clear er q1 q2 q3 o1 o2 o3 f1 f2 hd
  cases (deadB b p T a0 a5 a7 t x).2 <;> cases r <;> simp

theorem can_ok {l0 l1 : List S71} {b : Bool} {p : Int → Bool} (W : WkOf l0 l1 b p) (a0 a1 a2 a3 a4 a5 a6 a7 : Int) : ∃ T, (spec_TermsOk.f a0 a1 a2 a3 a4 a5 a6 a7 = some T ∧ impl_TermsOk.f a0 a1 a2 a3 a4 a5 a6 a7 = some T) ∧ ∀ t n x k, 40200 < k →
    spec_CanExtend.f k l0 l1 a0 a1 a2 a3 a4 a5 a6 a7 t n x = some (canB (deadB b p T a0 a5 a7 t x) (deadB b p T a0 a5 a7 t (wrap64 (x + 1))) t n) ∧ impl_CanExtend.f k l0 l1 a0 a1 a2 a3 a4 a5 a6 a7 t n x = some (canB (deadB b p T a0 a5 a7 t x) (deadB b p T a0 a5 a7 t (wrap64 (x + 1))) t n) := by
  obtain ⟨T, ⟨s1, s2, s3⟩, hd⟩ := dead_ok W a0 a1 a2 a3 a4 a5 a6 a7
  refine ⟨T, ⟨s1, s2⟩, fun t n x k hk => ?_⟩
  obtain ⟨f1, f2⟩ := hd t x k (by omega)
  obtain ⟨g1, g2⟩ := hd t (wrap64 (x + 1)) k (by omega)
  obtain ⟨v1, v2⟩ := over_ok hd t n x k (by omega)
  obtain ⟨r, q1, q2, q3⟩ := time_ex n
  have hb : (deadB b p T a0 a5 a7 t x).2 = true → 0 ≤ t := by
    unfold deadB afterB
    intro h
    split at h
    · split at h
      · rename_i h2
        exact h2.2.1
      · cases h
    · cases h
  obtain ⟨s, o1, o2, o3⟩ := in_ex n t 20000
  have er : r = (decide (0 ≤ n) && decide (n ≤ 20000)) := by
    rw [Bool.eq_iff_iff, q3, Bool.and_eq_true, decide_eq_true_eq, decide_eq_true_eq]
  unfold spec_CanExtend.f impl_CanExtend.f spec_l06More.f canB
  rw [f1, f2, g1, g2, v1, v2, o1, q2]
  rw [← er]
  generalize overB (deadB b p T a0 a5 a7 t x) n = v
  generalize ed : deadB b p T a0 a5 a7 t x = dd at *
  generalize eg : deadB b p T a0 a5 a7 t (wrap64 (x + 1)) = dg at *
  clear f1 f2 g1 g2 v1 v2 o1 o2 q1 q2 hd er
  simp only [Option.bind_some]
  cases hdd : dd.2 with
  | false => simp
  | true =>
    have ht := hb hdd
    have es : s = (r && decide (t ≤ n)) := by
      rw [Bool.eq_iff_iff, o3, Bool.and_eq_true, q3, decide_eq_true_eq]
      omega
    subst es
    clear o3 q3
    cases hdg : dg.2 with
    | false => simp
    | true =>
      cases r with
      | false => simp
      | true =>
        by_cases c : t ≤ n
        · simp [c]
        · simp [c]
end Go.Proofs.Ytcabbbidbkgalaa.WkFnExactCanExtend
