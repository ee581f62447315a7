/- Weeks: the open hours between two times, counted (plain). -/
import Derived.Test.YtcabbbidbkgalaaWoFnFees
namespace Go.Proofs.Ytcabbbidbkgalaa.WkFnFees
open Go.RowKit Go.Proofs.Ytcabbbidbkgalaa.QFnFees Go.Proofs.YtcabbbidbkgalaaW.PrintWords Go.Proofs.YtcabbbidbkgalaaW.PrintLast
set_option linter.unusedVariables false
set_option linter.unusedSimpArgs false

/-- How many of the n hours from a on are open. -/
def cnt (p : Int → Bool) : Nat → Int → Int
  | 0, _ => 0
  | n + 1, a => (if p a = true then 1 else 0) + cnt p n (a + 1)
theorem cnt_range (p : Int → Bool) : ∀ n a, 0 ≤ cnt p n a ∧ cnt p n a ≤ n
  | 0, _ => by simp [cnt]
  | n + 1, a => by
    have := cnt_range p n (a + 1)
    simp only [cnt]
    split <;> omega

def hoursB (b : Bool) (p : Int → Bool) (a c : Int) : Int := if b = true ∧ 0 ≤ a ∧ a ≤ 20000 ∧ 0 ≤ c ∧ c ≤ 20000 then cnt p (c - a).toNat a else 0
theorem hoursB_no {b : Bool} {p : Int → Bool} {a c : Int} (h : ¬ (b = true ∧ 0 ≤ a ∧ a ≤ 20000 ∧ 0 ≤ c ∧ c ≤ 20000)) : hoursB b p a c = 0 := if_neg h
theorem hoursB_yes {p : Int → Bool} {a c : Int} (h1 : 0 ≤ a) (h2 : a ≤ 20000) (h3 : 0 ≤ c) (h4 : c ≤ 20000) : hoursB true p a c = cnt p (c - a).toNat a := if_pos ⟨rfl, h1, h2, h3, h4⟩
theorem hoursB_range (b : Bool) (p : Int → Bool) (a c : Int) : 0 ≤ hoursB b p a c ∧ hoursB b p a c ≤ 20000 := by
  unfold hoursB
  split
  · have := cnt_range p (c - a).toNat a
    omega
  · omega

theorem hours_l0 {l0 l1 : List S71} {p : Int → Bool} (W : WkOf l0 l1 true p) (c : Int) (hc : c ≤ 20000) : ∀ (d : Nat) (a n : Int), (c - a).toNat = d → 0 ≤ a → 0 ≤ n → n ≤ 20000 → n + d ≤ 20000 → ∀ k, 21 + d < k →
    spec_OpenHours.l0 k c n a l0 l1 = some (n + cnt p d a) ∧ impl_OpenHours.l0 k c n a l0 l1 = some (n + cnt p d a) := by
  intro d
  induction d with
  | zero =>
    intro a n hd ha hn hn2 hb k hk
    obtain ⟨m, rfl, _⟩ := succ_of hk
    simp only [spec_OpenHours.l0, impl_OpenHours.l0]
    rw [if_neg (by omega), if_neg (by omega)]
    simp [cnt]
  | succ d ih =>
    intro a n hd ha hn hn2 hb k hk
    obtain ⟨m, rfl, hm⟩ := succ_of hk
    have hlt : a < c := by omega
    have e1 : wrap64 (a + 1) = a + 1 := w64 (by omega) (by omega)
    have e2 : wrap64 (n + 1) = n + 1 := w64 (by omega) (by omega)
    obtain ⟨o1, o2⟩ := W.opn rfl a m (by omega)
    simp only [spec_OpenHours.l0, impl_OpenHours.l0]
    rw [if_pos hlt, if_pos hlt, o1, o2]
    simp only [Option.bind_some, e1, e2, cnt]
    cases hp : p a with
    | true =>
      simp only [if_true]
      obtain ⟨i1, i2⟩ := ih (a + 1) (n + 1) (by omega) (by omega) (by omega) (by omega) (by omega) m (by omega)
      rw [i1, i2]
      exact ⟨by rw [Int.add_assoc], by rw [Int.add_assoc]⟩
    | false =>
      simp only [Bool.false_eq_true, if_false, Int.zero_add]
      exact ih (a + 1) n (by omega) (by omega) (by omega) (by omega) (by omega) m (by omega)

theorem hours {l0 l1 : List S71} {b : Bool} {p : Int → Bool} (W : WkOf l0 l1 b p) (a c : Int) : ∀ k, 20100 < k → spec_OpenHours.f k l0 l1 a c = some (hoursB b p a c) ∧ impl_OpenHours.f k l0 l1 a c = some (hoursB b p a c) := by
  intro k hk
  obtain ⟨m, rfl, hm⟩ := succ_of hk
  unfold spec_OpenHours.f impl_OpenHours.f
  obtain ⟨w1, w2⟩ := W.week (m + 1) (by omega)
  obtain ⟨r1, s1, t1, e1⟩ := time_ex a
  obtain ⟨r2, s2, t2, e2⟩ := time_ex c
  rw [w1, w2]
  simp only [Option.bind_some]
  cases b with
  | false =>
    rw [hoursB_no (fun h => by cases h.1)]
    simp [spec_OpenHours.j0, impl_OpenHours.j0]
  | true =>
    simp only [if_true, s1, t1, Option.bind_some]
    cases r1 with
    | false =>
      rw [hoursB_no (fun h => by have := e1.2 ⟨h.2.1, h.2.2.1⟩; cases this)]
      simp [spec_OpenHours.j0, impl_OpenHours.j0]
    | true =>
      simp only [if_true, s2, t2, Option.bind_some]
      cases r2 with
      | false =>
        rw [hoursB_no (fun h => by have := e2.2 ⟨h.2.2.2.1, h.2.2.2.2⟩; cases this)]
        simp [spec_OpenHours.j0, impl_OpenHours.j0]
      | true =>
        have ha := e1.1 rfl
        have hc := e2.1 rfl
        rw [hoursB_yes ha.1 ha.2 hc.1 hc.2]
        simp only [spec_OpenHours.j0, impl_OpenHours.j0, Bool.not_true, Bool.false_eq_true, if_false]
        have h := hours_l0 W c hc.2 (c - a).toNat a 0 rfl ha.1 (by omega) (by omega) (by omega) m (by omega)
        rw [Int.zero_add] at h
        exact h
end Go.Proofs.Ytcabbbidbkgalaa.WkFnFees
