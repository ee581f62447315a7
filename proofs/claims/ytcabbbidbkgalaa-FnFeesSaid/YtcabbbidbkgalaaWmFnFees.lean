/- Fees: the law's own steps (plain). -/
import Derived.Test.YtcabbbidbkgalaaWlFnFees
import Derived.Test.YtcabbbidbkgalaaQFnFeesx7
namespace Go.Proofs.Ytcabbbidbkgalaa.WkFnFees
open Go.RowKit Go.Proofs.Ytcabbbidbkgalaa.QFnFees Go.Proofs.YtcabbbidbkgalaaW.PrintWords Go.Proofs.YtcabbbidbkgalaaW.PrintLast
set_option linter.unusedVariables false
set_option linter.unusedSimpArgs false

structure Fx (w0 w1 : List S71) (p : Int → Bool) (a0 a1 a2 a3 a4 a5 a6 a7 t c sz x : Int) : Prop where
  W : WkOf w0 w1 true p
  T : TOk a0 a1 a2 a3 a4 a5 a6 a7
  hF : ∀ size t c x k, 20200 < k → spec_FeeOf.f k w0 w1 a0 a1 a2 a3 a4 a5 a6 a7 size t c x = some (feeB true p true a1 a2 a3 a4 a6 a7 size t c x) ∧ impl_FeeOf.f k w0 w1 a0 a1 a2 a3 a4 a5 a6 a7 size t c x = some (feeB true p true a1 a2 a3 a4 a6 a7 size t c x)
  hR : ∀ size t c x k, 20300 < k → spec_NextRise.f k w0 w1 a0 a1 a2 a3 a4 a5 a6 a7 size t c x = some (riseB true p true a1 a2 a3 a4 a7 size t c x) ∧ impl_NextRise.f k w0 w1 a0 a1 a2 a3 a4 a5 a6 a7 size t c x = some (riseB true p true a1 a2 a3 a4 a7 size t c x)
  h1 : 0 ≤ t
  h2 : t ≤ c
  h3 : c ≤ 20000
  z1 : 1 ≤ sz
  z2 : sz ≤ 24
  x1 : 0 ≤ x
  x2 : x ≤ a7

/-- What storage costs at the time y. -/
def sto (p : Int → Bool) (a1 a2 a3 a4 sz t y : Int) : Int := stor a1 a2 a3 a4 sz (cnt p (y - t).toNat t)

section
variable {w0 w1 : List S71} {p : Int → Bool} {a0 a1 a2 a3 a4 a5 a6 a7 t c sz x : Int}

theorem fee_at (X : Fx w0 w1 p a0 a1 a2 a3 a4 a5 a6 a7 t c sz x) (y : Int) (h1 : t ≤ y) (h2 : y ≤ 20000) : feeB true p true a1 a2 a3 a4 a6 a7 sz t y x = sto p a1 a2 a3 a4 sz t y + a6 * x := by
  have := X.h1
  unfold feeB sto
  rw [if_pos ⟨rfl, rfl, X.z1, X.z2, X.h1, h1, h2, X.x1, X.x2⟩, hoursB_yes X.h1 (by omega) (by omega) h2]
theorem sto_mono (X : Fx w0 w1 p a0 a1 a2 a3 a4 a5 a6 a7 t c sz x) {y z : Int} (h : y ≤ z) : sto p a1 a2 a3 a4 sz t y ≤ sto p a1 a2 a3 a4 sz t z := by
  unfold sto
  exact stor_mono X.T.2.2.1.1 X.T.2.2.2.1.1 X.z1 X.T.2.2.2.2.1.1 (cnt_mono p _ _ t (by omega))
theorem sto_range (X : Fx w0 w1 p a0 a1 a2 a3 a4 a5 a6 a7 t c sz x) (y : Int) (hy : y ≤ 20000) : 0 ≤ sto p a1 a2 a3 a4 sz t y ∧ sto p a1 a2 a3 a4 sz t y ≤ a4 := by
  unfold sto
  have := cnt_range p (y - t).toNat t
  have h1 := X.h1
  exact stor_range X.T.2.1.1 X.T.2.2.1.1 X.T.2.2.2.1.1 X.T.2.2.2.1.2 X.T.2.2.2.2.1.1 X.z1 X.z2 (by omega)

theorem law_j4 (X : Fx w0 w1 p a0 a1 a2 a3 a4 a5 a6 a7 t c sz x) (k : Nat) (hk : 20400 < k) :
    laws_FnFees.j4 (k + 1) t c sz x (sto p a1 a2 a3 a4 sz t c + a6 * x) (riseB true p true a1 a2 a3 a4 a7 sz t c x).1 (riseB true p true a1 a2 a3 a4 a7 sz t c x).2 false w0 w1 a0 a1 a2 a3 a4 a5 a6 a7 = some true := by
  have X1 := X.h1
  have X2 := X.h2
  have X3 := X.h3
  obtain ⟨i1, i2⟩ := rise_cnt p (stor a1 a2 a3 a4 sz) (stor a1 a2 a3 a4 sz (cnt p (c - t).toNat t)) t (20000 - c).toNat c X2 (Int.le_refl _)
  have eR : riseB true p true a1 a2 a3 a4 a7 sz t c x = rise p (stor a1 a2 a3 a4 sz) (stor a1 a2 a3 a4 sz (cnt p (c - t).toNat t)) (20000 - c).toNat c (cnt p (c - t).toNat t) := by
    unfold riseB
    rw [if_pos ⟨rfl, rfl, X.z1, X.z2, X1, X2, X3, X.x1, X.x2⟩, hoursB_yes X1 (by omega) (by omega) X3]
  rw [eR]
  generalize rise p (stor a1 a2 a3 a4 sz) (stor a1 a2 a3 a4 sz (cnt p (c - t).toNat t)) (20000 - c).toNat c (cnt p (c - t).toNat t) = R at i1 i2 ⊢
  rw [laws_FnFees.j4, if_neg (by decide)]
  cases hr : R.2 with
  | true =>
    obtain ⟨b1, b2, b3, b4⟩ := i1 hr
    have m := sto_mono X (y := c) (z := R.1 - 1) (by omega)
    rw [if_pos rfl, if_pos b1, (X.hF sz t R.1 x k (by omega)).2, fee_at X R.1 (by omega) (by omega)]
    simp only [Option.bind_some]
    have b3' : sto p a1 a2 a3 a4 sz t R.1 > sto p a1 a2 a3 a4 sz t c := b3
    have b4' : sto p a1 a2 a3 a4 sz t (R.1 - 1) ≤ sto p a1 a2 a3 a4 sz t c := b4
    rw [if_pos (by omega), w64 (x := R.1 - 1) (by omega) (by omega), (X.hF sz t (R.1 - 1) x k (by omega)).2, fee_at X (R.1 - 1) (by omega) (by omega)]
    simp only [Option.bind_some]
    rw [show sto p a1 a2 a3 a4 sz t (R.1 - 1) = sto p a1 a2 a3 a4 sz t c by omega]
    simp
  | false =>
    have b := i2 hr
    rw [show c + ((20000 - c).toNat : Int) - t = 20000 - t by omega] at b
    have b' : sto p a1 a2 a3 a4 sz t 20000 ≤ sto p a1 a2 a3 a4 sz t c := b
    have m := sto_mono X (y := c) (z := 20000) X3
    rw [if_neg (by decide), (X.hF sz t 20000 x k (by omega)).2, fee_at X 20000 (by omega) (by omega)]
    simp only [Option.bind_some]
    rw [show sto p a1 a2 a3 a4 sz t 20000 = sto p a1 a2 a3 a4 sz t c by omega]
    simp

theorem law_j3 (X : Fx w0 w1 p a0 a1 a2 a3 a4 a5 a6 a7 t c sz x) (k : Nat) (hk : 20401 < k) :
    laws_FnFees.j3 (k + 1) t c sz x (sto p a1 a2 a3 a4 sz t c + a6 * x) false w0 w1 a0 a1 a2 a3 a4 a5 a6 a7 = some true := by
  obtain ⟨q, rfl, hq⟩ := succ_of (show 20400 < k by omega)
  rw [laws_FnFees.j3, if_neg (by decide), (X.hR sz t c x _ (by omega)).2, (X.hR sz t c x _ (by omega)).1]
  simp only [Option.bind_some, bne_self_eq_false, Bool.false_eq_true, if_false]
  exact law_j4 X q (by omega)

theorem law_j2 (X : Fx w0 w1 p a0 a1 a2 a3 a4 a5 a6 a7 t c sz x) (k : Nat) (hk : 20402 < k) :
    laws_FnFees.j2 (k + 1) t c sz x (sto p a1 a2 a3 a4 sz t c + a6 * x) (before p (20000 - t).toNat t a1) false w0 w1 a0 a1 a2 a3 a4 a5 a6 a7 = some true := by
  have X1 := X.h1
  have X2 := X.h2
  have X3 := X.h3
  have T := X.T
  obtain ⟨q, rfl, hq⟩ := succ_of (show 20401 < k by omega)
  obtain ⟨f1, f2, f3, f4⟩ := before_cnt p (20000 - t).toNat t a1 T.2.1.1
  obtain ⟨g1, g2⟩ := price_bound T.2.2.2.2.2.2.1.1 T.2.2.2.2.2.2.1.2 X.x1 (by have := T.2.2.2.2.2.2.2; have := X.x2; omega)
  rw [laws_FnFees.j2, if_neg (by decide)]
  by_cases c1 : before p (20000 - t).toNat t a1 < 20000
  · rw [if_pos c1]
    by_cases c2 : a3 > 0
    · rw [if_pos c2]
      by_cases c3 : a4 > 0
      · have hs : 0 < sto p a1 a2 a3 a4 sz t (before p (20000 - t).toNat t a1 + 1) := by
          unfold sto
          rw [f4 (by omega)]
          exact stor_first T.2.2.1.1 c2 X.z1 c3
        rw [if_pos c3, w64 (x := before p (20000 - t).toNat t a1 + 1) (by omega) (by omega), (X.hF sz t _ x _ (by omega)).2, fee_at X _ (by omega) (by omega), Int.mul_comm x a6, w64 (x := a6 * x) (by omega) (by omega)]
        simp only [Option.bind_some]
        rw [decide_eq_false (by omega)]
        exact law_j3 X q (by omega)
      · rw [if_neg c3]
        exact law_j3 X q (by omega)
    · rw [if_neg c2]
      exact law_j3 X q (by omega)
  · rw [if_neg c1]
    exact law_j3 X q (by omega)

theorem law_j1 (X : Fx w0 w1 p a0 a1 a2 a3 a4 a5 a6 a7 t c sz x) (c2 : Int) (hc : c ≤ c2) (hc2 : c2 ≤ 20000) (k : Nat) (hk : 20403 < k) :
    laws_FnFees.j1 (k + 1) t c sz x (sto p a1 a2 a3 a4 sz t c + a6 * x) (sto p a1 a2 a3 a4 sz t c2 + a6 * x) (before p (20000 - t).toNat t a1) true w0 w1 a0 a1 a2 a3 a4 a5 a6 a7 = some true := by
  have X1 := X.h1
  have X2 := X.h2
  have X3 := X.h3
  have T := X.T
  obtain ⟨q, rfl, hq⟩ := succ_of (show 20402 < k by omega)
  obtain ⟨f1, f2, f3, f4⟩ := before_cnt p (20000 - t).toNat t a1 T.2.1.1
  obtain ⟨g1, g2⟩ := price_bound T.2.2.2.2.2.2.1.1 T.2.2.2.2.2.2.1.2 X.x1 (by have := T.2.2.2.2.2.2.2; have := X.x2; omega)
  have r1 := sto_range X c X3
  have m := sto_mono X hc
  have e4 := T.2.2.2.2.1
  have eF : feeB true p true a1 a2 a3 a4 a6 a7 sz t (t - 1) x = -1 := by
    unfold feeB
    rw [if_neg (fun h => by have := h.2.2.2.2.2.1; omega)]
  rw [laws_FnFees.j1, (X.hF sz t c x _ (by omega)).1, fee_at X c X2 X3]
  simp only [Option.bind_some, if_true]
  rw [Int.mul_comm x a6, w64 (x := a6 * x) (by omega) (by omega), w64 (x := a6 * x + a4) (by omega) (by omega), w64 (x := t - 1) (by omega) (by omega), (X.hF sz t (t - 1) x _ (by omega)).2, eF]
  simp only [Option.bind_some, bne_self_eq_false]
  rw [if_neg (by omega), if_neg (by omega), if_neg (by omega)]
  by_cases cc : c ≤ before p (20000 - t).toNat t a1
  · have h0 : sto p a1 a2 a3 a4 sz t c = 0 := by
      unfold sto
      have := cnt_mono p (c - t).toNat (before p (20000 - t).toNat t a1 - t).toNat t (by omega)
      exact stor_free (by omega)
    rw [if_pos cc, if_pos (by omega)]
    exact law_j2 X q (by omega)
  · rw [if_neg cc]
    exact law_j2 X q (by omega)

theorem law_j0 (X : Fx w0 w1 p a0 a1 a2 a3 a4 a5 a6 a7 t c sz x) (r : List Int) (hr : r.length = 12) (c2 : Int) (e2 : wrap64 (c + Int.tmod (rd r 4) 100) = c2) (hc : c ≤ c2) (hc2 : c2 ≤ 20000) (k : Nat) (hk : 20404 < k) :
    laws_FnFees.j0 (k + 1) r t c sz x w0 w1 a0 a1 a2 a3 a4 a5 a6 a7 = some true := by
  have X1 := X.h1
  have X2 := X.h2
  have X3 := X.h3
  obtain ⟨q, rfl, hq⟩ := succ_of (show 20403 < k by omega)
  rw [laws_FnFees.j0, (X.hF sz t c x _ (by omega)).2, fee_at X c X2 X3, e2]
  simp only [Option.bind_some]
  rw [if_pos (by omega), (X.hF sz t c2 x _ (by omega)).2, fee_at X c2 (by omega) hc2]
  simp only [Option.bind_some]
  rw [free_ok X.W X.T t X1 (by omega) _ (by omega)]
  simp only [Option.bind_some]
  exact law_j1 X c2 hc hc2 q (by omega)
end
end Go.Proofs.Ytcabbbidbkgalaa.WkFnFees
