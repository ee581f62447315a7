/- Weeks: the time after so many open hours, and a parcel's deadline (plain). -/
import Derived.Test.YtcabbbidbkgalaaWoFnDeadlines
namespace Go.Proofs.Ytcabbbidbkgalaa.WkFnDeadlines
open Go.RowKit Go.Proofs.Ytcabbbidbkgalaa.QFnDeadlines Go.Proofs.YtcabbbidbkgalaaW.PrintWords Go.Proofs.YtcabbbidbkgalaaW.PrintLast
set_option linter.unusedVariables false
set_option linter.unusedSimpArgs false

/-- From the time t on, d hours before the last time: the first time with n open hours behind t. -/
def after (p : Int → Bool) : Nat → Int → Int → Int × Bool
  | 0, t, n => if n = 0 then (t, true) else (0, false)
  | d + 1, t, n => if n = 0 then (t, true) else after p d (t + 1) (if p t = true then n - 1 else n)
theorem after_range (p : Int → Bool) : ∀ (d : Nat) (t n : Int), 0 ≤ t → t + d = 20000 → 0 ≤ (after p d t n).1 ∧ (after p d t n).1 ≤ 20000 := by
  intro d
  induction d with
  | zero =>
    intro t n ht hd
    simp only [after]
    split
    · exact ⟨ht, by simp; omega⟩
    · simp
  | succ d ih =>
    intro t n ht hd
    simp only [after]
    split
    · exact ⟨ht, by simp; omega⟩
    · exact ih (t + 1) _ (by omega) (by omega)

theorem after_l0 {l0 l1 : List S71} {p : Int → Bool} (W : WkOf l0 l1 true p) : ∀ (d : Nat) (t n : Int), t + d = 20000 → 0 ≤ t → 0 ≤ n → n ≤ 9223372036854775807 → ∀ k, 24 + 2 * d < k →
    spec_AfterOpen.l0 k n t l0 l1 = some (after p d t n) ∧ impl_AfterOpen.l0 k n t l0 l1 = some (after p d t n) := by
  intro d
  induction d with
  | zero =>
    intro t n hd ht hn hn2 k hk
    obtain ⟨m, rfl, hm⟩ := succ_of hk
    obtain ⟨q, rfl, hq⟩ := succ_of (show 22 < m by omega)
    have e1 : wrap64 (t + 1) = t + 1 := w64 (by omega) (by omega)
    simp only [spec_AfterOpen.l0, impl_AfterOpen.l0, spec_AfterOpen.j2, after]
    have c1 : ¬ t < 20000 := by omega
    have c2 : t ≤ 20000 := by omega
    have c3 : ¬ wrap64 (t + 1) ≤ 20000 := by omega
    by_cases h0 : n = 0
    · subst h0
      simp [c2]
    · have h1 : n > 0 := by omega
      obtain ⟨z, rfl, _⟩ := succ_of hq
      simp only [h0, h1, c1, c2, c3, decide_false, Bool.false_eq_true, if_false, if_true, impl_AfterOpen.l0]
      exact ⟨trivial, trivial⟩
  | succ d ih =>
    intro t n hd ht hn hn2 k hk
    obtain ⟨m, rfl, hm⟩ := succ_of hk
    obtain ⟨q, rfl, hq⟩ := succ_of (show 22 < m by omega)
    have e1 : wrap64 (t + 1) = t + 1 := w64 (by omega) (by omega)
    have c1 : t < 20000 := by omega
    have c2 : t ≤ 20000 := by omega
    by_cases h0 : n = 0
    · subst h0
      simp [spec_AfterOpen.l0, impl_AfterOpen.l0, spec_AfterOpen.j2, after, c2]
    · have h1 : n > 0 := by omega
      have e2 : wrap64 (n - 1) = n - 1 := w64 (by omega) (by omega)
      have s1 := (W.opn rfl t q (by omega)).1
      have s2 := (W.opn rfl t (q + 1) (by omega)).2
      rw [spec_AfterOpen.l0, impl_AfterOpen.l0, if_pos h1, if_pos c2, if_neg h0, if_pos c1, s2]
      rw [spec_AfterOpen.j2, if_pos (by simpa using c1), s1]
      simp only [Option.bind_some, e1, e2, after, h0, if_false]
      cases hp : p t with
      | true =>
        simp only [if_true]
        exact ⟨(ih (t + 1) (n - 1) (by omega) (by omega) (by omega) (by omega) q (by omega)).1, (ih (t + 1) (n - 1) (by omega) (by omega) (by omega) (by omega) (q + 1) (by omega)).2⟩
      | false =>
        simp only [Bool.false_eq_true, if_false]
        exact ⟨(ih (t + 1) n (by omega) (by omega) (by omega) (by omega) q (by omega)).1, (ih (t + 1) n (by omega) (by omega) (by omega) (by omega) (q + 1) (by omega)).2⟩

def afterB (b : Bool) (p : Int → Bool) (t n : Int) : Int × Bool := if b = true ∧ 0 ≤ t ∧ t ≤ 20000 then after p (20000 - t).toNat t n else (0, false)
theorem afterB_no {b : Bool} {p : Int → Bool} {t n : Int} (h : ¬ (b = true ∧ 0 ≤ t ∧ t ≤ 20000)) : afterB b p t n = (0, false) := if_neg h
theorem afterB_yes {p : Int → Bool} {t n : Int} (h1 : 0 ≤ t) (h2 : t ≤ 20000) : afterB true p t n = after p (20000 - t).toNat t n := if_pos ⟨rfl, h1, h2⟩

theorem after_ok {l0 l1 : List S71} {b : Bool} {p : Int → Bool} (W : WkOf l0 l1 b p) (t n : Int) (hn : 0 ≤ n) (hn2 : n ≤ 9223372036854775807) : ∀ k, 40100 < k → spec_AfterOpen.f k l0 l1 t n = some (afterB b p t n) ∧ impl_AfterOpen.f k l0 l1 t n = some (afterB b p t n) := by
  intro k hk
  obtain ⟨m, rfl, hm⟩ := succ_of hk
  unfold spec_AfterOpen.f impl_AfterOpen.f
  obtain ⟨w1, w2⟩ := W.week (m + 1) (by omega)
  obtain ⟨r1, s1, t1, e1⟩ := time_ex t
  rw [w1, w2, if_neg (show ¬ n < 0 by omega)]
  simp only [Option.bind_some]
  cases b with
  | false =>
    rw [afterB_no (fun h => by cases h.1)]
    simp [spec_AfterOpen.j0, impl_AfterOpen.j0]
  | true =>
    simp only [if_true, s1, t1, Option.bind_some]
    cases r1 with
    | false =>
      rw [afterB_no (fun h => by have := e1.2 h.2; cases this)]
      simp [spec_AfterOpen.j0, impl_AfterOpen.j0]
    | true =>
      have ht := e1.1 rfl
      rw [afterB_yes ht.1 ht.2]
      simp only [spec_AfterOpen.j0, impl_AfterOpen.j0, Bool.not_true, Bool.false_eq_true, if_false]
      exact after_l0 W (20000 - t).toNat t n (by omega) ht.1 hn hn2 m (by omega)

theorem afterB_range (b : Bool) (p : Int → Bool) (t n : Int) : 0 ≤ (afterB b p t n).1 ∧ (afterB b p t n).1 ≤ 20000 := by
  unfold afterB
  split
  · rename_i h
    exact after_range p _ t n h.2.1 (by omega)
  · simp

/-- A deadline: what both tell. -/
def deadB (b : Bool) (p : Int → Bool) (T : Bool) (keep longer most t x : Int) : Int × Bool := if T = true ∧ 0 ≤ x ∧ x ≤ most then afterB b p t (keep + longer * x) else (0, false)
theorem deadB_no {b : Bool} {p : Int → Bool} {T : Bool} {keep longer most t x : Int} (h : ¬ (T = true ∧ 0 ≤ x ∧ x ≤ most)) : deadB b p T keep longer most t x = (0, false) := if_neg h
theorem deadB_yes {b : Bool} {p : Int → Bool} {keep longer most t x : Int} (h1 : 0 ≤ x) (h2 : x ≤ most) : deadB b p true keep longer most t x = afterB b p t (keep + longer * x) := if_pos ⟨rfl, h1, h2⟩
theorem deadB_range (b : Bool) (p : Int → Bool) (T : Bool) (keep longer most t x : Int) : 0 ≤ (deadB b p T keep longer most t x).1 ∧ (deadB b p T keep longer most t x).1 ≤ 20000 := by
  unfold deadB
  split
  · exact afterB_range ..
  · simp

theorem mul_bound {l x : Int} (h1 : 1 ≤ l) (h2 : l ≤ 2000) (h3 : 0 ≤ x) (h4 : x ≤ 20) : 0 ≤ l * x ∧ l * x ≤ 40000 := by
  constructor
  · exact Int.mul_nonneg (by omega) h3
  · calc l * x ≤ 2000 * x := Int.mul_le_mul_of_nonneg_right h2 h3
      _ ≤ 2000 * 20 := Int.mul_le_mul_of_nonneg_left h4 (by omega)
      _ = 40000 := by omega

theorem dead_ok {l0 l1 : List S71} {b : Bool} {p : Int → Bool} (W : WkOf l0 l1 b p) (a0 a1 a2 a3 a4 a5 a6 a7 : Int) : ∃ T, (spec_TermsOk.f a0 a1 a2 a3 a4 a5 a6 a7 = some T ∧ impl_TermsOk.f a0 a1 a2 a3 a4 a5 a6 a7 = some T ∧ (T = true ↔ (1 ≤ a0 ∧ a0 ≤ 2000) ∧ (0 ≤ a1 ∧ a1 ≤ 2000) ∧ (1 ≤ a2 ∧ a2 ≤ 2000) ∧ (0 ≤ a3 ∧ a3 ≤ 10000) ∧ (0 ≤ a4 ∧ a4 ≤ 1000000) ∧ (1 ≤ a5 ∧ a5 ≤ 2000) ∧ (0 ≤ a6 ∧ a6 ≤ 100000) ∧ (0 ≤ a7 ∧ a7 ≤ 20))) ∧ ∀ t x k, 40100 < k →
    spec_DeadlineOf.f k l0 l1 a0 a1 a2 a3 a4 a5 a6 a7 t x = some (deadB b p T a0 a5 a7 t x) ∧ impl_DeadlineOf.f k l0 l1 a0 a1 a2 a3 a4 a5 a6 a7 t x = some (deadB b p T a0 a5 a7 t x) := by
  obtain ⟨T, s1, s2, s3⟩ := terms_ex a0 a1 a2 a3 a4 a5 a6 a7
  refine ⟨T, ⟨s1, s2, s3⟩, fun t x k hk => ?_⟩
  unfold spec_DeadlineOf.f impl_DeadlineOf.f
  obtain ⟨w1, w2⟩ := W.week k (by omega)
  rw [s1, s2, w2]
  simp only [Option.bind_some]
  cases T with
  | false =>
    rw [deadB_no (fun h => by cases h.1)]
    cases b <;> simp
  | true =>
    have hT := s3.1 rfl
    obtain ⟨r1, i1, i2, i3⟩ := in_ex x 0 a7
    obtain ⟨r2, j1, j2, j3⟩ := time_ex t
    simp only [if_true, i1, i2, j2, Option.bind_some]
    cases r1 with
    | false =>
      rw [deadB_no (fun h => by have := i3.2 h.2; cases this)]
      cases b <;> cases r2 <;> simp
    | true =>
      have hx := i3.1 rfl
      rw [deadB_yes hx.1 hx.2]
      have hm := mul_bound hT.2.2.2.2.2.1.1 hT.2.2.2.2.2.1.2 hx.1 (by omega)
      have e1 : wrap64 (a5 * x) = a5 * x := w64 (by omega) (by omega)
      have e2 : wrap64 (a0 + a5 * x) = a0 + a5 * x := w64 (by omega) (by omega)
      simp only [e1, e2, if_true]
      obtain ⟨f1, f2⟩ := after_ok W t (a0 + a5 * x) (by omega) (by omega) k hk
      rw [f1, f2]
      simp only [Option.bind_some]
      cases b with
      | false =>
        rw [afterB_no (fun h => by cases h.1)]
        simp
      | true =>
        simp only [if_true]
        cases r2 with
        | true => simp
        | false =>
          rw [afterB_no (fun h => by have := j3.2 h.2; cases this)]
          simp
end Go.Proofs.Ytcabbbidbkgalaa.WkFnDeadlines
