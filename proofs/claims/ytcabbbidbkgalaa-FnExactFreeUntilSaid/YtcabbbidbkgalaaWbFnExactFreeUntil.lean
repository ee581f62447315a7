/- Weeks: the last time with at most so many open hours, and until when a parcel is free (plain). -/
import Derived.Test.YtcabbbidbkgalaaWoFnExactFreeUntil
namespace Go.Proofs.Ytcabbbidbkgalaa.WkFnExactFreeUntil
open Go.RowKit Go.Proofs.Ytcabbbidbkgalaa.PFnExactFreeUntil Go.Proofs.YtcabbbidbkgalaaW.PrintWords Go.Proofs.YtcabbbidbkgalaaW.PrintLast
set_option linter.unusedVariables false
set_option linter.unusedSimpArgs false

/-- From the time t on, d hours before the last time: the last time with at most n open hours behind t. -/
def before (p : Int → Bool) : Nat → Int → Int → Int
  | 0, t, _ => t
  | d + 1, t, n => if p t = true then (if n = 0 then t else before p d (t + 1) (n - 1)) else before p d (t + 1) n

theorem before_l0 {l0 l1 : List S71} {p : Int → Bool} (W : WkOf l0 l1 true p) : ∀ (d : Nat) (t n : Int), t + d = 20000 → 0 ≤ t → 0 ≤ n → n ≤ 9223372036854775807 → ∀ k, 21 + d < k →
    spec_BeforeOpen.l0 k n t l0 l1 = some (before p d t n, true) ∧ impl_BeforeOpen.l0 k n t l0 l1 = some (before p d t n, true) := by
  intro d
  induction d with
  | zero =>
    intro t n hd ht hn hn2 k hk
    obtain ⟨m, rfl, hm⟩ := succ_of hk
    have e0 : t = 20000 := by simpa using hd
    subst e0
    simp only [spec_BeforeOpen.l0, impl_BeforeOpen.l0, before]
    simp
  | succ d ih =>
    intro t n hd ht hn hn2 k hk
    obtain ⟨m, rfl, hm⟩ := succ_of hk
    have e1 : wrap64 (t + 1) = t + 1 := w64 (by omega) (by omega)
    have c1 : t < 20000 := by omega
    obtain ⟨o1, o2⟩ := W.opn rfl t m (by omega)
    simp only [spec_BeforeOpen.l0, impl_BeforeOpen.l0, c1, if_true, o1, o2, Option.bind_some, e1, before]
    cases hp : p t with
    | true =>
      simp only [if_true]
      by_cases h0 : n = 0
      · simp only [h0, if_true]
        exact ⟨trivial, trivial⟩
      · have e2 : wrap64 (n - 1) = n - 1 := w64 (by omega) (by omega)
        simp only [h0, if_false, e2]
        exact ih (t + 1) (n - 1) (by omega) (by omega) (by omega) (by omega) m (by omega)
    | false =>
      simp only [Bool.false_eq_true, if_false]
      exact ih (t + 1) n (by omega) (by omega) (by omega) (by omega) m (by omega)

def beforeB (b : Bool) (p : Int → Bool) (t n : Int) : Int × Bool := if b = true ∧ 0 ≤ t ∧ t ≤ 20000 then (before p (20000 - t).toNat t n, true) else (0, false)
theorem beforeB_no {b : Bool} {p : Int → Bool} {t n : Int} (h : ¬ (b = true ∧ 0 ≤ t ∧ t ≤ 20000)) : beforeB b p t n = (0, false) := if_neg h
theorem beforeB_yes {p : Int → Bool} {t n : Int} (h1 : 0 ≤ t) (h2 : t ≤ 20000) : beforeB true p t n = (before p (20000 - t).toNat t n, true) := if_pos ⟨rfl, h1, h2⟩

theorem before_ok {l0 l1 : List S71} {b : Bool} {p : Int → Bool} (W : WkOf l0 l1 b p) (t n : Int) (hn : 0 ≤ n) (hn2 : n ≤ 9223372036854775807) : ∀ k, 20100 < k → spec_BeforeOpen.f k l0 l1 t n = some (beforeB b p t n) ∧ impl_BeforeOpen.f k l0 l1 t n = some (beforeB b p t n) := by
  intro k hk
  obtain ⟨m, rfl, hm⟩ := succ_of hk
  unfold spec_BeforeOpen.f impl_BeforeOpen.f
  obtain ⟨w1, w2⟩ := W.week (m + 1) (by omega)
  obtain ⟨r1, s1, t1, e1⟩ := time_ex t
  rw [w1, w2, if_neg (show ¬ n < 0 by omega), if_neg (show ¬ n < 0 by omega)]
  simp only [Option.bind_some]
  cases b with
  | false =>
    rw [beforeB_no (fun h => by cases h.1)]
    simp [spec_BeforeOpen.j0, impl_BeforeOpen.j0]
  | true =>
    simp only [if_true, s1, t1, Option.bind_some]
    cases r1 with
    | false =>
      rw [beforeB_no (fun h => by have := e1.2 h.2; cases this)]
      simp [spec_BeforeOpen.j0, impl_BeforeOpen.j0]
    | true =>
      have ht := e1.1 rfl
      rw [beforeB_yes ht.1 ht.2]
      simp only [spec_BeforeOpen.j0, impl_BeforeOpen.j0, Bool.not_true, Bool.false_eq_true, if_false]
      exact before_l0 W (20000 - t).toNat t n (by omega) ht.1 hn hn2 m (by omega)

/-- Until when storage is free: what both tell. -/
def freeB (b : Bool) (p : Int → Bool) (T : Bool) (free t : Int) : Int × Bool := if T = true then beforeB b p t free else (0, false)
theorem free_ok {l0 l1 : List S71} {b : Bool} {p : Int → Bool} (W : WkOf l0 l1 b p) (a0 a1 a2 a3 a4 a5 a6 a7 : Int) : ∃ T, (T = true ↔ (1 ≤ a0 ∧ a0 ≤ 2000) ∧ (0 ≤ a1 ∧ a1 ≤ 2000) ∧ (1 ≤ a2 ∧ a2 ≤ 2000) ∧ (0 ≤ a3 ∧ a3 ≤ 10000) ∧ (0 ≤ a4 ∧ a4 ≤ 1000000) ∧ (1 ≤ a5 ∧ a5 ≤ 2000) ∧ (0 ≤ a6 ∧ a6 ≤ 100000) ∧ (0 ≤ a7 ∧ a7 ≤ 20)) ∧ ∀ t k, 20100 < k →
    spec_FreeUntil.f k l0 l1 a0 a1 a2 a3 a4 a5 a6 a7 t = some (freeB b p T a1 t) ∧ impl_FreeUntil.f k l0 l1 a0 a1 a2 a3 a4 a5 a6 a7 t = some (freeB b p T a1 t) := by
  obtain ⟨T, s1, s2, s3⟩ := terms_ex a0 a1 a2 a3 a4 a5 a6 a7
  refine ⟨T, s3, fun t k hk => ?_⟩
  unfold spec_FreeUntil.f impl_FreeUntil.f
  obtain ⟨w1, w2⟩ := W.week k (by omega)
  rw [s1, s2, w2]
  simp only [Option.bind_some]
  cases T with
  | false => cases b <;> simp [freeB]
  | true =>
    have hT := s3.1 rfl
    obtain ⟨r2, j1, j2, j3⟩ := time_ex t
    obtain ⟨f1, f2⟩ := before_ok W t a1 (by omega) (by omega) k hk
    rw [show freeB b p true a1 t = beforeB b p t a1 from if_pos rfl]
    simp only [if_true, j2, f1, f2, Option.bind_some]
    cases b with
    | false =>
      rw [beforeB_no (fun h => by cases h.1)]
      simp
    | true =>
      simp only [if_true]
      cases r2 with
      | true => simp
      | false =>
        rw [beforeB_no (fun h => by have := j3.2 h.2; cases this)]
        simp
end Go.Proofs.Ytcabbbidbkgalaa.WkFnExactFreeUntil
