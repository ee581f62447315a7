/- Weeks: the program's open hours, least extensions, overdue and can-extend alone (plain). -/
import Derived.Test.YtcabbbidbkgalaaWaFnDeadlines
namespace Go.Proofs.Ytcabbbidbkgalaa.WkFnDeadlines
open Go.RowKit Go.Proofs.Ytcabbbidbkgalaa.QFnDeadlines Go.Proofs.YtcabbbidbkgalaaW.PrintWords Go.Proofs.YtcabbbidbkgalaaW.PrintLast
set_option linter.unusedVariables false
set_option linter.unusedSimpArgs false

/-- How many of the n hours from a on are open. -/
def cnt (p : Int → Bool) : Nat → Int → Int
  | 0, _ => 0
  | n + 1, a => (if p a = true then 1 else 0) + cnt p n (a + 1)
theorem cnt_range (p : Int → Bool) : ∀ n a, 0 ≤ cnt p n a ∧ cnt p n a ≤ n
  | 0, _ => by simp [cnt]
  | n + 1, a => by
    have := cnt_range p n (a + 1)
    simp only [cnt]
    split <;> omega
/-- More hours have no fewer open ones. -/
theorem cnt_mono (p : Int → Bool) : ∀ (n m : Nat) (a : Int), n ≤ m → cnt p n a ≤ cnt p m a
  | 0, m, a, _ => (cnt_range p m a).1
  | n + 1, 0, a, h => by omega
  | n + 1, m + 1, a, h => by
    have := cnt_mono p n m (a + 1) (by omega)
    simp only [cnt]
    omega

def hoursB (b : Bool) (p : Int → Bool) (a c : Int) : Int := if b = true ∧ 0 ≤ a ∧ a ≤ 20000 ∧ 0 ≤ c ∧ c ≤ 20000 then cnt p (c - a).toNat a else 0
theorem hoursB_no {b : Bool} {p : Int → Bool} {a c : Int} (h : ¬ (b = true ∧ 0 ≤ a ∧ a ≤ 20000 ∧ 0 ≤ c ∧ c ≤ 20000)) : hoursB b p a c = 0 := if_neg h
theorem hoursB_yes {p : Int → Bool} {a c : Int} (h1 : 0 ≤ a) (h2 : a ≤ 20000) (h3 : 0 ≤ c) (h4 : c ≤ 20000) : hoursB true p a c = cnt p (c - a).toNat a := if_pos ⟨rfl, h1, h2, h3, h4⟩

theorem hours_l0 {l0 l1 : List S71} {p : Int → Bool} (W : WkOf l0 l1 true p) (c : Int) (hc : c ≤ 20000) : ∀ (d : Nat) (a n : Int), (c - a).toNat = d → 0 ≤ a → 0 ≤ n → n ≤ 20000 → n + d ≤ 20000 → ∀ k, 21 + d < k →
    impl_OpenHours.l0 k c n a l0 l1 = some (n + cnt p d a) := by
  intro d
  induction d with
  | zero =>
    intro a n hd ha hn hn2 hb k hk
    obtain ⟨m, rfl, _⟩ := succ_of hk
    simp only [impl_OpenHours.l0]
    rw [if_neg (by omega)]
    simp [cnt]
  | succ d ih =>
    intro a n hd ha hn hn2 hb k hk
    obtain ⟨m, rfl, hm⟩ := succ_of hk
    have hlt : a < c := by omega
    have e1 : wrap64 (a + 1) = a + 1 := w64 (by omega) (by omega)
    have e2 : wrap64 (n + 1) = n + 1 := w64 (by omega) (by omega)
    obtain ⟨o1, o2⟩ := W.opn rfl a m (by omega)
    simp only [impl_OpenHours.l0]
    rw [if_pos hlt, o2]
    simp only [Option.bind_some, e1, e2, cnt]
    cases hp : p a with
    | true =>
      simp only [if_true]
      rw [ih (a + 1) (n + 1) (by omega) (by omega) (by omega) (by omega) (by omega) m (by omega), Int.add_assoc]
    | false =>
      simp only [Bool.false_eq_true, if_false, Int.zero_add]
      exact ih (a + 1) n (by omega) (by omega) (by omega) (by omega) (by omega) m (by omega)

theorem hours {l0 l1 : List S71} {b : Bool} {p : Int → Bool} (W : WkOf l0 l1 b p) (a c : Int) : ∀ k, 20100 < k → impl_OpenHours.f k l0 l1 a c = some (hoursB b p a c) := by
  intro k hk
  obtain ⟨m, rfl, hm⟩ := succ_of hk
  unfold impl_OpenHours.f
  obtain ⟨w1, w2⟩ := W.week (m + 1) (by omega)
  obtain ⟨r1, s1, t1, e1⟩ := time_ex a
  obtain ⟨r2, s2, t2, e2⟩ := time_ex c
  rw [w2]
  simp only [Option.bind_some]
  cases b with
  | false =>
    rw [hoursB_no (fun h => by cases h.1)]
    simp [impl_OpenHours.j0]
  | true =>
    simp only [if_true, t1, Option.bind_some]
    cases r1 with
    | false =>
      rw [hoursB_no (fun h => by have := e1.2 ⟨h.2.1, h.2.2.1⟩; cases this)]
      simp [impl_OpenHours.j0]
    | true =>
      simp only [if_true, t2, Option.bind_some]
      cases r2 with
      | false =>
        rw [hoursB_no (fun h => by have := e2.2 ⟨h.2.2.2.1, h.2.2.2.2⟩; cases this)]
        simp [impl_OpenHours.j0]
      | true =>
        have ha := e1.1 rfl
        have hc := e2.1 rfl
        rw [hoursB_yes ha.1 ha.2 hc.1 hc.2]
        simp only [impl_OpenHours.j0, Bool.not_true, Bool.false_eq_true, if_false]
        have h := hours_l0 W c hc.2 (c - a).toNat a 0 rfl ha.1 (by omega) (by omega) (by omega) m (by omega)
        rw [Int.zero_add] at h
        exact h

/-- The first number from n on, d numbers at most, whose deadline is at least u. -/
def least (dl : Int → Int × Bool) (u : Int) : Nat → Int → Int × Bool
  | 0, _ => (0, false)
  | d + 1, n => if (dl n).2 = true ∧ (dl n).1 ≥ u then (n, true) else least dl u d (n + 1)

theorem least_l0 {l0 l1 : List S71} {b : Bool} {p : Int → Bool} {a0 a1 a2 a3 a4 a5 a6 a7 : Int} (ha : 0 ≤ a7) (ha2 : a7 ≤ 20) (t u : Int)
    (hd : ∀ t x k, 40100 < k → spec_DeadlineOf.f k l0 l1 a0 a1 a2 a3 a4 a5 a6 a7 t x = some (deadB b p true a0 a5 a7 t x) ∧ impl_DeadlineOf.f k l0 l1 a0 a1 a2 a3 a4 a5 a6 a7 t x = some (deadB b p true a0 a5 a7 t x)) :
    ∀ (d : Nat) (n : Int), n + d = a7 + 1 → 0 ≤ n → ∀ k, 40110 + 2 * d < k →
    impl_LeastExtensions.l0 k t u n l0 l1 a0 a1 a2 a3 a4 a5 a6 a7 = some (least (deadB b p true a0 a5 a7 t) u d n) := by
  intro d
  induction d with
  | zero =>
    intro n hn h0 k hk
    obtain ⟨m, rfl, hm⟩ := succ_of hk
    have c : ¬ n ≤ a7 := by omega
    rw [impl_LeastExtensions.l0, if_neg c]
    simp [least]
  | succ d ih =>
    intro n hn h0 k hk
    obtain ⟨m, rfl, hm⟩ := succ_of hk
    have c : n ≤ a7 := by omega
    have e1 : wrap64 (n + 1) = n + 1 := w64 (by omega) (by omega)
    have i2 := ih (n + 1) (by omega) (by omega) m (by omega)
    rw [impl_LeastExtensions.l0, if_pos c, (hd t n m (by omega)).2]
    simp only [Option.bind_some, e1, i2, least]
    by_cases c1 : (deadB b p true a0 a5 a7 t n).2 = true
    · by_cases c2 : (deadB b p true a0 a5 a7 t n).1 ≥ u
      · simp [c1, c2]
      · simp [c1, c2]
    · simp [c1]

theorem least_ok {l0 l1 : List S71} {b : Bool} {p : Int → Bool} {a0 a1 a2 a3 a4 a5 a6 a7 : Int} (s2 : impl_TermsOk.f a0 a1 a2 a3 a4 a5 a6 a7 = some true) (ha : 0 ≤ a7) (ha2 : a7 ≤ 20)
    (hd : ∀ t x k, 40100 < k → spec_DeadlineOf.f k l0 l1 a0 a1 a2 a3 a4 a5 a6 a7 t x = some (deadB b p true a0 a5 a7 t x) ∧ impl_DeadlineOf.f k l0 l1 a0 a1 a2 a3 a4 a5 a6 a7 t x = some (deadB b p true a0 a5 a7 t x)) (t u : Int) (k : Nat) (hk : 40200 < k) :
    impl_LeastExtensions.f k l0 l1 a0 a1 a2 a3 a4 a5 a6 a7 t u = some (least (deadB b p true a0 a5 a7 t) u (a7 + 1).toNat 0) := by
  unfold impl_LeastExtensions.f
  rw [s2]
  simp only [Option.bind_some, if_true]
  exact least_l0 ha ha2 t u hd (a7 + 1).toNat 0 (by omega) (by omega) k (by omega)

/-- Overdue, given the deadline. -/
def overB (dl : Int × Bool) (n : Int) : Bool := dl.2 && (decide (0 ≤ n) && decide (n ≤ 20000) && decide (dl.1 < n))
def canB (dl dl2 : Int × Bool) (t n : Int) : Bool := dl.2 && dl2.2 && (decide (0 ≤ n) && decide (n ≤ 20000)) && decide (t ≤ n) && !(overB dl n)

theorem over_ok {l0 l1 : List S71} {b : Bool} {p : Int → Bool} {T : Bool} {a0 a1 a2 a3 a4 a5 a6 a7 : Int}
    (hd : ∀ t x k, 40100 < k → spec_DeadlineOf.f k l0 l1 a0 a1 a2 a3 a4 a5 a6 a7 t x = some (deadB b p T a0 a5 a7 t x) ∧ impl_DeadlineOf.f k l0 l1 a0 a1 a2 a3 a4 a5 a6 a7 t x = some (deadB b p T a0 a5 a7 t x)) (t n x : Int) (k : Nat) (hk : 40100 < k) :
    impl_Overdue.f k l0 l1 a0 a1 a2 a3 a4 a5 a6 a7 t n x = some (overB (deadB b p T a0 a5 a7 t x) n) := by
  obtain ⟨f1, f2⟩ := hd t x k hk
  unfold impl_Overdue.f
  rw [f2]
  simp only [Option.bind_some]
  obtain ⟨r, q1, q2, q3⟩ := time_ex n
  rw [q2]
  simp only [Option.bind_some]
  have er : r = (decide (0 ≤ n) && decide (n ≤ 20000)) := by
    rw [Bool.eq_iff_iff, q3, Bool.and_eq_true, decide_eq_true_eq, decide_eq_true_eq]
  unfold overB
  rw [← er]
  clear er q1 q2 q3 f1 f2 hd
  cases (deadB b p T a0 a5 a7 t x).2 <;> cases r <;> simp

theorem can_ok {l0 l1 : List S71} {b : Bool} {p : Int → Bool} {T : Bool} {a0 a1 a2 a3 a4 a5 a6 a7 : Int}
    (hd : ∀ t x k, 40100 < k → spec_DeadlineOf.f k l0 l1 a0 a1 a2 a3 a4 a5 a6 a7 t x = some (deadB b p T a0 a5 a7 t x) ∧ impl_DeadlineOf.f k l0 l1 a0 a1 a2 a3 a4 a5 a6 a7 t x = some (deadB b p T a0 a5 a7 t x)) (t n x : Int) (k : Nat) (hk : 40100 < k) :
    impl_CanExtend.f k l0 l1 a0 a1 a2 a3 a4 a5 a6 a7 t n x = some (canB (deadB b p T a0 a5 a7 t x) (deadB b p T a0 a5 a7 t (wrap64 (x + 1))) t n) := by
  obtain ⟨f1, f2⟩ := hd t x k (by omega)
  obtain ⟨g1, g2⟩ := hd t (wrap64 (x + 1)) k (by omega)
  have v2 := over_ok hd t n x k (by omega)
  obtain ⟨r, q1, q2, q3⟩ := time_ex n
  have er : r = (decide (0 ≤ n) && decide (n ≤ 20000)) := by
    rw [Bool.eq_iff_iff, q3, Bool.and_eq_true, decide_eq_true_eq, decide_eq_true_eq]
  unfold impl_CanExtend.f canB
  rw [f2, g2, v2, q2]
  rw [← er]
  generalize overB (deadB b p T a0 a5 a7 t x) n = v
  generalize deadB b p T a0 a5 a7 t x = dd
  generalize deadB b p T a0 a5 a7 t (wrap64 (x + 1)) = dg
  simp only [Option.bind_some]
  cases hdd : dd.2 with
  | false => simp
  | true =>
    cases hdg : dg.2 with
    | false => simp
    | true =>
      cases r with
      | false => simp
      | true =>
        by_cases c : t ≤ n
        · simp [c]
        · simp [c]

/-- A time found has its open hours behind it. -/
theorem after_cnt (p : Int → Bool) : ∀ (d : Nat) (t n : Int), (after p d t n).2 = true → t ≤ (after p d t n).1 ∧ (after p d t n).1 ≤ t + d ∧ cnt p ((after p d t n).1 - t).toNat t = n := by
  intro d
  induction d with
  | zero =>
    intro t n h
    simp only [after] at h ⊢
    by_cases h0 : n = 0
    · simp [h0, cnt]
    · simp [h0] at h
  | succ d ih =>
    intro t n h
    simp only [after] at h ⊢
    by_cases h0 : n = 0
    · simp [h0, cnt]; omega
    · rw [if_neg h0] at h ⊢
      obtain ⟨i1, i2, i3⟩ := ih _ _ h
      refine ⟨by omega, by omega, ?_⟩
      generalize (after p d (t + 1) (if p t = true then n - 1 else n)).1 = y at *
      rw [show (y - t).toNat = (y - (t + 1)).toNat + 1 by omega]
      simp only [cnt]
      rw [i3]
      split <;> omega

/-- A deadline that is told: when, and how many open hours lie before it. -/
theorem dead_cnt {b : Bool} {p : Int → Bool} {keep longer most t x : Int} (h : (deadB b p true keep longer most t x).2 = true) :
    b = true ∧ 0 ≤ t ∧ t ≤ (deadB b p true keep longer most t x).1 ∧ (deadB b p true keep longer most t x).1 ≤ 20000 ∧ cnt p ((deadB b p true keep longer most t x).1 - t).toNat t = keep + longer * x := by
  unfold deadB afterB at h ⊢
  by_cases c1 : true = true ∧ 0 ≤ x ∧ x ≤ most
  · rw [if_pos c1] at h ⊢
    by_cases c2 : b = true ∧ 0 ≤ t ∧ t ≤ 20000
    · rw [if_pos c2] at h ⊢
      obtain ⟨i1, i2, i3⟩ := after_cnt p _ t _ h
      exact ⟨c2.1, c2.2.1, i1, by omega, i3⟩
    · rw [if_neg c2] at h
      cases h
  · rw [if_neg c1] at h
    cases h
end Go.Proofs.Ytcabbbidbkgalaa.WkFnDeadlines
