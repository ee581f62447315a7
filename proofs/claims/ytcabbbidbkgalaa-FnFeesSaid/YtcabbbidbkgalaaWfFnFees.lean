/- Fees: what so many open hours cost, in both (plain). -/
import Derived.Test.YtcabbbidbkgalaaWhFnFees
namespace Go.Proofs.Ytcabbbidbkgalaa.WkFnFees
open Go.RowKit Go.Proofs.Ytcabbbidbkgalaa.QFnFees Go.Proofs.YtcabbbidbkgalaaW.PrintWords Go.Proofs.YtcabbbidbkgalaaW.PrintLast
set_option linter.unusedVariables false
set_option linter.unusedSimpArgs false

/-- The terms' bounds. -/
def TOk (a0 a1 a2 a3 a4 a5 a6 a7 : Int) : Prop := (1 ≤ a0 ∧ a0 ≤ 2000) ∧ (0 ≤ a1 ∧ a1 ≤ 2000) ∧ (1 ≤ a2 ∧ a2 ≤ 2000) ∧ (0 ≤ a3 ∧ a3 ≤ 10000) ∧ (0 ≤ a4 ∧ a4 ≤ 1000000) ∧ (1 ≤ a5 ∧ a5 ≤ 2000) ∧ (0 ≤ a6 ∧ a6 ≤ 100000) ∧ (0 ≤ a7 ∧ a7 ≤ 20)

/-- Storage for so many open hours. -/
def stor (free step rate cap size hrs : Int) : Int := if hrs - free ≤ 0 then 0 else mn cap ((hrs - free + step - 1) / step * rate * size)

theorem prod_bound {q rate size : Int} (h1 : 0 ≤ q) (h2 : q ≤ 20001) (h3 : 0 ≤ rate) (h4 : rate ≤ 10000) (h5 : 1 ≤ size) (h6 : size ≤ 24) : 0 ≤ q * rate ∧ q * rate ≤ 200010000 ∧ 0 ≤ q * rate * size ∧ q * rate * size ≤ 4800240000 := by
  have a1 : 0 ≤ q * rate := Int.mul_nonneg h1 h3
  have a2 : q * rate ≤ 200010000 := by
    calc q * rate ≤ 20001 * rate := Int.mul_le_mul_of_nonneg_right h2 h3
      _ ≤ 20001 * 10000 := Int.mul_le_mul_of_nonneg_left h4 (by omega)
      _ = 200010000 := by omega
  refine ⟨a1, a2, Int.mul_nonneg a1 (by omega), ?_⟩
  calc q * rate * size ≤ 200010000 * size := Int.mul_le_mul_of_nonneg_right a2 (by omega)
    _ ≤ 200010000 * 24 := Int.mul_le_mul_of_nonneg_left h6 (by omega)
    _ = 4800240000 := by omega

theorem quo_bound {over step : Int} (h1 : 0 < over) (h2 : over ≤ 20001) (h3 : 1 ≤ step) : 0 ≤ (over + step - 1) / step ∧ (over + step - 1) / step ≤ 20001 := by
  constructor
  · exact Int.ediv_nonneg (by omega) (by omega)
  · have : (over + step - 1) / step < 20002 := by
      apply Int.ediv_lt_of_lt_mul (by omega)
      have : 20001 * step ≥ 20001 * 1 := Int.mul_le_mul_of_nonneg_left h3 (by omega)
      omega
    omega

theorem mn_range {a b : Int} : mn a b = if b < a then b else a := by
  rfl

theorem stor_range {free step rate cap size hrs : Int} (hf : 0 ≤ free) (hs : 1 ≤ step) (hr : 0 ≤ rate) (hr2 : rate ≤ 10000) (hc : 0 ≤ cap) (hz : 1 ≤ size) (hz2 : size ≤ 24) (hh : hrs ≤ 20001) : 0 ≤ stor free step rate cap size hrs ∧ stor free step rate cap size hrs ≤ cap := by
  unfold stor
  split
  · omega
  · rename_i h
    obtain ⟨q1, q2⟩ := quo_bound (over := hrs - free) (step := step) (by omega) (by omega) hs
    obtain ⟨_, _, p3, _⟩ := prod_bound q1 q2 hr hr2 hz hz2
    rw [mn_range]
    split <;> omega

theorem impl_stor {a0 a1 a2 a3 a4 a5 a6 a7 size hrs : Int} (T : TOk a0 a1 a2 a3 a4 a5 a6 a7) (hz : 1 ≤ size) (hz2 : size ≤ 24) (hh : 0 ≤ hrs) (hh2 : hrs ≤ 20001) : impl_storage.f a0 a1 a2 a3 a4 a5 a6 a7 size hrs = some (stor a1 a2 a3 a4 size hrs) := by
  obtain ⟨_, t1, t2, t3, t4, _⟩ := T
  unfold impl_storage.f stor
  have e1 : wrap64 (hrs - a1) = hrs - a1 := w64 (by omega) (by omega)
  rw [e1]
  by_cases c : hrs - a1 ≤ 0
  · rw [if_pos c, if_pos c]
  · rw [if_neg c, if_neg c, if_neg (by omega)]
    obtain ⟨q1, q2⟩ := quo_bound (over := hrs - a1) (step := a2) (by omega) (by omega) t2.1
    obtain ⟨p1, p2, p3, p4⟩ := prod_bound q1 q2 t3.1 t3.2 hz hz2
    have e2 : wrap64 (hrs - a1 + a2) = hrs - a1 + a2 := w64 (by omega) (by omega)
    have e3 : wrap64 (hrs - a1 + a2 - 1) = hrs - a1 + a2 - 1 := w64 (by omega) (by omega)
    rw [e2, e3, Int.tdiv_eq_ediv_of_nonneg (by omega), w64 (x := (hrs - a1 + a2 - 1) / a2) (by omega) (by omega), w64 (x := (hrs - a1 + a2 - 1) / a2 * a3) (by omega) (by omega), w64 (x := (hrs - a1 + a2 - 1) / a2 * a3 * size) (by omega) (by omega)]

theorem price_bound {g x : Int} (h1 : 0 ≤ g) (h2 : g ≤ 100000) (h3 : 0 ≤ x) (h4 : x ≤ 20) : 0 ≤ g * x ∧ g * x ≤ 2000000 := by
  constructor
  · exact Int.mul_nonneg h1 h3
  · calc g * x ≤ 100000 * x := Int.mul_le_mul_of_nonneg_right h2 h3
      _ ≤ 100000 * 20 := Int.mul_le_mul_of_nonneg_left h4 (by omega)
      _ = 2000000 := by omega

theorem spec_fee {a0 a1 a2 a3 a4 a5 a6 a7 size hrs x : Int} (T : TOk a0 a1 a2 a3 a4 a5 a6 a7) (hz : 1 ≤ size) (hz2 : size ≤ 24) (hh : 0 ≤ hrs) (hh2 : hrs ≤ 20001) (hx : 0 ≤ x) (hx2 : x ≤ a7) : spec_l06Fee.f a0 a1 a2 a3 a4 a5 a6 a7 size hrs x = some (stor a1 a2 a3 a4 size hrs + a6 * x) := by
  have hb := stor_range (free := a1) (step := a2) (rate := a3) (cap := a4) (size := size) (hrs := hrs) T.2.1.1 T.2.2.1.1 T.2.2.2.1.1 T.2.2.2.1.2 T.2.2.2.2.1.1 hz hz2 hh2
  obtain ⟨_, t1, t2, t3, t4, t5, t6, t7⟩ := T
  obtain ⟨g1, g2⟩ := price_bound t6.1 t6.2 hx (by omega)
  unfold spec_l06Fee.f
  unfold stor at hb ⊢
  have e1 : wrap64 (hrs - a1) = hrs - a1 := w64 (by omega) (by omega)
  have eg : wrap64 (a6 * x) = a6 * x := w64 (by omega) (by omega)
  rw [e1, eg]
  by_cases c : hrs - a1 ≤ 0
  · rw [if_neg (by omega), if_pos c, w64 (by omega) (by omega)]
  · rw [if_neg c] at hb
    rw [if_pos (by omega), if_neg c, if_neg (by omega)]
    obtain ⟨q1, q2⟩ := quo_bound (over := hrs - a1) (step := a2) (by omega) (by omega) t2.1
    obtain ⟨p1, p2, p3, p4⟩ := prod_bound q1 q2 t3.1 t3.2 hz hz2
    have e2 : wrap64 (hrs - a1 + a2) = hrs - a1 + a2 := w64 (by omega) (by omega)
    have e3 : wrap64 (hrs - a1 + a2 - 1) = hrs - a1 + a2 - 1 := w64 (by omega) (by omega)
    rw [e2, e3, Int.tdiv_eq_ediv_of_nonneg (by omega), w64 (x := (hrs - a1 + a2 - 1) / a2) (by omega) (by omega), w64 (x := (hrs - a1 + a2 - 1) / a2 * a3) (by omega) (by omega), w64 (x := (hrs - a1 + a2 - 1) / a2 * a3 * size) (by omega) (by omega), w64 (by omega) (by omega)]

/-- A fee: what both tell. -/
def FOk (b : Bool) (T : Bool) (most size t c x : Int) : Prop := b = true ∧ T = true ∧ 1 ≤ size ∧ size ≤ 24 ∧ 0 ≤ t ∧ t ≤ c ∧ c ≤ 20000 ∧ 0 ≤ x ∧ x ≤ most
instance (b T : Bool) (most size t c x : Int) : Decidable (FOk b T most size t c x) := by unfold FOk; infer_instance
def feeB (b : Bool) (p : Int → Bool) (T : Bool) (free step rate cap price most size t c x : Int) : Int := if FOk b T most size t c x then stor free step rate cap size (hoursB b p t c) + price * x else -1

theorem fee_ok {l0 l1 : List S71} {b : Bool} {p : Int → Bool} (W : WkOf l0 l1 b p) (a0 a1 a2 a3 a4 a5 a6 a7 : Int) : ∃ T, (T = true ↔ TOk a0 a1 a2 a3 a4 a5 a6 a7) ∧ ∀ size t c x k, 20200 < k →
    spec_FeeOf.f k l0 l1 a0 a1 a2 a3 a4 a5 a6 a7 size t c x = some (feeB b p T a1 a2 a3 a4 a6 a7 size t c x) ∧ impl_FeeOf.f k l0 l1 a0 a1 a2 a3 a4 a5 a6 a7 size t c x = some (feeB b p T a1 a2 a3 a4 a6 a7 size t c x) := by
  obtain ⟨T, s1, s2, s3⟩ := terms_ex a0 a1 a2 a3 a4 a5 a6 a7
  refine ⟨T, s3, fun size t c x k hk => ?_⟩
  obtain ⟨m, rfl, hm⟩ := succ_of hk
  obtain ⟨w1, w2⟩ := W.week (m + 1) (by omega)
  obtain ⟨r1, i1, i2, i3⟩ := in_ex size 1 24
  obtain ⟨r2, j1, j2, j3⟩ := time_ex t
  obtain ⟨r3, k1, k2, k3⟩ := time_ex c
  obtain ⟨r4, n1, n2, n3⟩ := in_ex t 0 c
  obtain ⟨r5, o1, o2, o3⟩ := in_ex x 0 a7
  unfold feeB
  by_cases h : FOk b T a7 size t c x
  · rw [if_pos h]
    obtain ⟨rfl, rfl, h1, h2, h3, h4, h5, h6, h7⟩ := h
    obtain rfl : r1 = true := i3.2 ⟨h1, h2⟩
    obtain rfl : r2 = true := j3.2 ⟨h3, by omega⟩
    obtain rfl : r3 = true := k3.2 ⟨by omega, h5⟩
    obtain rfl : r4 = true := n3.2 ⟨h3, h4⟩
    obtain rfl : r5 = true := o3.2 ⟨h6, h7⟩
    obtain ⟨g1, g2⟩ := hours W t c m (by omega)
    have hh := hoursB_range true p t c
    have hT := s3.1 rfl
    have hb := stor_range (free := a1) (step := a2) (rate := a3) (cap := a4) (size := size) (hrs := hoursB true p t c) hT.2.1.1 hT.2.2.1.1 hT.2.2.2.1.1 hT.2.2.2.1.2 hT.2.2.2.2.1.1 h1 h2 (by omega)
    obtain ⟨p1, p2⟩ := price_bound hT.2.2.2.2.2.2.1.1 hT.2.2.2.2.2.2.1.2 h6 (by have := hT.2.2.2.2.2.2.2; omega)
    have hcap := hT.2.2.2.2.1.2
    constructor
    · unfold spec_FeeOf.f
      simp only [w1, s1, i1, k1, n1, o1, Option.bind_some, if_true, spec_FeeOf.j0, Bool.not_true, Bool.false_eq_true, if_false, g1]
      rw [spec_fee hT h1 h2 hh.1 (by omega) h6 h7]
      rfl
    · unfold impl_FeeOf.f
      simp only [w2, s2, i2, j2, k2, o2, Option.bind_some, if_true, impl_FeeOf.j0, Bool.not_true, Bool.false_eq_true, if_false, g2]
      rw [if_neg (by omega), impl_stor hT h1 h2 hh.1 (by omega)]
      simp only [Option.bind_some]
      rw [w64 (x := a6 * x) (by omega) (by omega), w64 (by omega) (by omega)]
  · rw [if_neg h]
    unfold FOk at h
    constructor
    · unfold spec_FeeOf.f
      simp only [w1, s1, i1, k1, n1, o1, Option.bind_some]
      cases b <;> cases T <;> cases r1 <;> cases r3 <;> cases r4 <;> cases r5 <;> simp [spec_FeeOf.j0] <;>
        exact absurd ⟨rfl, rfl, (i3.1 rfl).1, (i3.1 rfl).2, (n3.1 rfl).1, (n3.1 rfl).2, (k3.1 rfl).2, (o3.1 rfl).1, (o3.1 rfl).2⟩ h
    · unfold impl_FeeOf.f
      simp only [w2, s2, i2, j2, k2, o2, Option.bind_some]
      by_cases hct : c < t
      · cases b <;> cases T <;> cases r1 <;> cases r2 <;> cases r3 <;> simp [impl_FeeOf.j0, hct]
      · cases b <;> cases T <;> cases r1 <;> cases r2 <;> cases r3 <;> cases r5 <;> simp [impl_FeeOf.j0, hct] <;>
          exact absurd ⟨rfl, rfl, (i3.1 rfl).1, (i3.1 rfl).2, (j3.1 rfl).1, by omega, (k3.1 rfl).2, (o3.1 rfl).1, (o3.1 rfl).2⟩ h
end Go.Proofs.Ytcabbbidbkgalaa.WkFnFees
