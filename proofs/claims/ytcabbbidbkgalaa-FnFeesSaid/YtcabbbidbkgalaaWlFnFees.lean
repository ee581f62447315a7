/- Fees: how a fee goes with the open hours, and the program's own time until when storage is free (plain). -/
import Derived.Test.YtcabbbidbkgalaaWrFnFees
namespace Go.Proofs.Ytcabbbidbkgalaa.WkFnFees
open Go.RowKit Go.Proofs.Ytcabbbidbkgalaa.QFnFees Go.Proofs.YtcabbbidbkgalaaW.PrintWords Go.Proofs.YtcabbbidbkgalaaW.PrintLast
set_option linter.unusedVariables false
set_option linter.unusedSimpArgs false

theorem cnt_mono (p : Int → Bool) : ∀ (n m : Nat) (a : Int), n ≤ m → cnt p n a ≤ cnt p m a
  | 0, m, a, _ => (cnt_range p m a).1
  | n + 1, 0, a, h => by omega
  | n + 1, m + 1, a, h => by
    have := cnt_mono p n m (a + 1) (by omega)
    simp only [cnt]
    omega
/-- One hour more at the end. -/
theorem cnt_last (p : Int → Bool) : ∀ (n : Nat) (a : Int), cnt p (n + 1) a = cnt p n a + (if p (a + n) = true then 1 else 0)
  | 0, a => by simp [cnt]
  | n + 1, a => by
    have := cnt_last p n (a + 1)
    rw [cnt, this, cnt, show a + 1 + (n : Int) = a + ((n + 1 : Nat) : Int) by omega]
    omega

/-- More hours never cost less. -/
theorem stor_mono {free step rate cap size h1 h2 : Int} (hs : 1 ≤ step) (hr : 0 ≤ rate) (hz : 1 ≤ size) (hc : 0 ≤ cap) (h : h1 ≤ h2) : stor free step rate cap size h1 ≤ stor free step rate cap size h2 := by
  have hpos : ∀ h : Int, 0 < h - free → 0 ≤ (h - free + step - 1) / step * rate * size := fun h hh => Int.mul_nonneg (Int.mul_nonneg (Int.ediv_nonneg (by omega) (by omega)) hr) (by omega)
  unfold stor
  by_cases c1 : h1 - free ≤ 0
  · rw [if_pos c1]
    by_cases c2 : h2 - free ≤ 0
    · rw [if_pos c2]; omega
    · rw [if_neg c2, mn_range]
      have := hpos h2 (by omega)
      split <;> omega
  · rw [if_neg c1, if_neg (by omega), mn_range, mn_range]
    have q : (h1 - free + step - 1) / step ≤ (h2 - free + step - 1) / step := Int.ediv_le_ediv (by omega) (by omega)
    have m1 : (h1 - free + step - 1) / step * rate ≤ (h2 - free + step - 1) / step * rate := Int.mul_le_mul_of_nonneg_right q hr
    have m2 : (h1 - free + step - 1) / step * rate * size ≤ (h2 - free + step - 1) / step * rate * size := Int.mul_le_mul_of_nonneg_right m1 (by omega)
    split <;> split <;> omega

theorem stor_free {free step rate cap size hrs : Int} (h : hrs ≤ free) : stor free step rate cap size hrs = 0 := by
  unfold stor
  rw [if_pos (by omega)]
/-- The first hour that is not free costs something. -/
theorem stor_first {free step rate cap size : Int} (hs : 1 ≤ step) (hr : 0 < rate) (hz : 1 ≤ size) (hc : 0 < cap) : 0 < stor free step rate cap size (free + 1) := by
  unfold stor
  rw [if_neg (by omega), show free + 1 - free + step - 1 = step by omega, Int.ediv_self (by omega), Int.one_mul, mn_range]
  have : 0 < rate * size := Int.mul_pos hr (by omega)
  split <;> omega

/-- From the time t on, d hours before the last time: the last time with at most n open hours behind t. -/
def before (p : Int → Bool) : Nat → Int → Int → Int
  | 0, t, _ => t
  | d + 1, t, n => if p t = true then (if n = 0 then t else before p d (t + 1) (n - 1)) else before p d (t + 1) n
/-- The last time with at most n open hours behind t. -/
theorem before_cnt (p : Int → Bool) : ∀ (d : Nat) (t n : Int), 0 ≤ n → t ≤ before p d t n ∧ before p d t n ≤ t + d ∧ cnt p (before p d t n - t).toNat t ≤ n ∧ (before p d t n < t + d → cnt p (before p d t n + 1 - t).toNat t = n + 1) := by
  intro d
  induction d with
  | zero =>
    intro t n hn
    simp only [before]
    refine ⟨by omega, by omega, ?_, fun h => by omega⟩
    rw [Int.sub_self]
    exact hn
  | succ d ih =>
    intro t n hn
    simp only [before]
    by_cases hp : p t = true
    · rw [if_pos hp]
      by_cases h0 : n = 0
      · rw [if_pos h0]
        refine ⟨by omega, by omega, ?_, fun h => ?_⟩
        · rw [Int.sub_self]
          exact hn
        · rw [show (t + 1 - t).toNat = 0 + 1 by omega]
          simp [cnt, hp, h0]
      · rw [if_neg h0]
        obtain ⟨i1, i2, i3, i4⟩ := ih (t + 1) (n - 1) (by omega)
        generalize before p d (t + 1) (n - 1) = y at *
        refine ⟨by omega, by omega, ?_, fun h => ?_⟩
        · rw [show (y - t).toNat = (y - (t + 1)).toNat + 1 by omega]
          simp only [cnt, hp, if_true]
          omega
        · have := i4 (by omega)
          rw [show (y + 1 - t).toNat = (y + 1 - (t + 1)).toNat + 1 by omega]
          simp only [cnt, hp, if_true]
          omega
    · rw [if_neg hp]
      obtain ⟨i1, i2, i3, i4⟩ := ih (t + 1) n hn
      generalize before p d (t + 1) n = y at *
      refine ⟨by omega, by omega, ?_, fun h => ?_⟩
      · rw [show (y - t).toNat = (y - (t + 1)).toNat + 1 by omega]
        simp only [cnt, hp]
        simp
        omega
      · have := i4 (by omega)
        rw [show (y + 1 - t).toNat = (y + 1 - (t + 1)).toNat + 1 by omega]
        simp only [cnt, hp]
        simp
        omega

/-- The next rise: the first time with more hours that cost more. -/
theorem rise_cnt (p : Int → Bool) (st : Int → Int) (s : Int) (t0 : Int) : ∀ (d : Nat) (t : Int), t0 ≤ t → st (cnt p (t - t0).toNat t0) ≤ s →
    ((rise p st s d t (cnt p (t - t0).toNat t0)).2 = true → t < (rise p st s d t (cnt p (t - t0).toNat t0)).1 ∧ (rise p st s d t (cnt p (t - t0).toNat t0)).1 ≤ t + d ∧ st (cnt p ((rise p st s d t (cnt p (t - t0).toNat t0)).1 - t0).toNat t0) > s ∧ st (cnt p ((rise p st s d t (cnt p (t - t0).toNat t0)).1 - 1 - t0).toNat t0) ≤ s) ∧
    ((rise p st s d t (cnt p (t - t0).toNat t0)).2 = false → st (cnt p (t + d - t0).toNat t0) ≤ s) := by
  intro d
  induction d with
  | zero =>
    intro t ht hs
    refine ⟨fun h => by simp [rise] at h, fun _ => ?_⟩
    simpa using hs
  | succ d ih =>
    intro t ht hs
    have e : (if p t = true then cnt p (t - t0).toNat t0 + 1 else cnt p (t - t0).toNat t0) = cnt p (t + 1 - t0).toNat t0 := by
      rw [show (t + 1 - t0).toNat = (t - t0).toNat + 1 by omega, cnt_last, show t0 + ((t - t0).toNat : Int) = t by omega]
      split <;> omega
    simp only [rise]
    rw [e]
    by_cases c : st (cnt p (t + 1 - t0).toNat t0) > s
    · rw [if_pos c]
      refine ⟨fun _ => ⟨by simp; omega, by simp; omega, c, ?_⟩, fun h => by cases h⟩
      simp only [show t + 1 - 1 - t0 = t - t0 by omega]
      exact hs
    · rw [if_neg c]
      obtain ⟨i1, i2⟩ := ih (t + 1) (by omega) (by omega)
      refine ⟨fun h => ?_, fun h => ?_⟩
      · obtain ⟨j1, j2, j3, j4⟩ := i1 h
        exact ⟨by omega, by omega, j3, j4⟩
      · have := i2 h
        rw [show t + ((d + 1 : Nat) : Int) - t0 = t + 1 + (d : Int) - t0 by omega]
        exact this

theorem before_l0 {l0 l1 : List S71} {p : Int → Bool} (W : WkOf l0 l1 true p) : ∀ (d : Nat) (t n : Int), t + d = 20000 → 0 ≤ t → 0 ≤ n → n ≤ 9223372036854775807 → ∀ k, 21 + d < k →
    impl_BeforeOpen.l0 k n t l0 l1 = some (before p d t n, true) := by
  intro d
  induction d with
  | zero =>
    intro t n hd ht hn hn2 k hk
    obtain ⟨m, rfl, hm⟩ := succ_of hk
    have e0 : t = 20000 := by simpa using hd
    subst e0
    simp only [impl_BeforeOpen.l0, before]
    simp
  | succ d ih =>
    intro t n hd ht hn hn2 k hk
    obtain ⟨m, rfl, hm⟩ := succ_of hk
    have e1 : wrap64 (t + 1) = t + 1 := w64 (by omega) (by omega)
    have c1 : t < 20000 := by omega
    obtain ⟨o1, o2⟩ := W.opn rfl t m (by omega)
    simp only [impl_BeforeOpen.l0, c1, if_true, o2, Option.bind_some, e1, before]
    cases hp : p t with
    | true =>
      simp only [if_true]
      by_cases h0 : n = 0
      · simp only [h0, if_true]
      · have e2 : wrap64 (n - 1) = n - 1 := w64 (by omega) (by omega)
        simp only [h0, if_false, e2]
        exact ih (t + 1) (n - 1) (by omega) (by omega) (by omega) (by omega) m (by omega)
    | false =>
      simp only [Bool.false_eq_true, if_false]
      exact ih (t + 1) n (by omega) (by omega) (by omega) (by omega) m (by omega)

theorem free_ok {l0 l1 : List S71} {p : Int → Bool} (W : WkOf l0 l1 true p) {a0 a1 a2 a3 a4 a5 a6 a7 : Int} (T : TOk a0 a1 a2 a3 a4 a5 a6 a7) (t : Int) (ht : 0 ≤ t) (ht2 : t ≤ 20000) (k : Nat) (hk : 20100 < k) :
    impl_FreeUntil.f k l0 l1 a0 a1 a2 a3 a4 a5 a6 a7 t = some (before p (20000 - t).toNat t a1, true) := by
  obtain ⟨m, rfl, hm⟩ := succ_of hk
  obtain ⟨r, s1, s2, s3⟩ := terms_ex a0 a1 a2 a3 a4 a5 a6 a7
  obtain rfl : r = true := s3.2 T
  obtain ⟨w1, w2⟩ := W.week (m + 1) (by omega)
  obtain ⟨r2, j1, j2, j3⟩ := time_ex t
  obtain rfl : r2 = true := j3.2 ⟨ht, ht2⟩
  have hT := T.2.1
  unfold impl_FreeUntil.f
  rw [w2]
  simp only [Option.bind_some, if_true, s2, j2]
  unfold impl_BeforeOpen.f
  rw [if_neg (by omega), w2]
  simp only [Option.bind_some, if_true, j2, Bool.not_true, impl_BeforeOpen.j0, Bool.false_eq_true, if_false]
  rw [before_l0 W (20000 - t).toNat t a1 (by omega) ht (by omega) (by omega) m (by omega)]
  rfl
end Go.Proofs.Ytcabbbidbkgalaa.WkFnFees
