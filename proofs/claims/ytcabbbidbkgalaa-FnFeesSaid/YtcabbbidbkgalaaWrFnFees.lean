/- Fees: when the next rise is, in both (plain). -/
import Derived.Test.YtcabbbidbkgalaaWfFnFees
namespace Go.Proofs.Ytcabbbidbkgalaa.WkFnFees
open Go.RowKit Go.Proofs.Ytcabbbidbkgalaa.QFnFees Go.Proofs.YtcabbbidbkgalaaW.PrintWords Go.Proofs.YtcabbbidbkgalaaW.PrintLast
set_option linter.unusedVariables false
set_option linter.unusedSimpArgs false

/-- From the time t on, d hours before the last one, hrs open hours so far: the first time behind t at which storage costs more than s. -/
def rise (p : Int → Bool) (st : Int → Int) (s : Int) : Nat → Int → Int → Int × Bool
  | 0, _, _ => (0, false)
  | d + 1, t, hrs => if st (if p t = true then hrs + 1 else hrs) > s then (t + 1, true) else rise p st s d (t + 1) (if p t = true then hrs + 1 else hrs)

theorem rise_l0 {l0 l1 : List S71} {p : Int → Bool} (W : WkOf l0 l1 true p) {a0 a1 a2 a3 a4 a5 a6 a7 : Int} (T : TOk a0 a1 a2 a3 a4 a5 a6 a7) {size x : Int} (hz : 1 ≤ size) (hz2 : size ≤ 24) (hx : 0 ≤ x) (hx2 : x ≤ a7) (s : Int) (hs : 0 ≤ s) (hs2 : s ≤ 1000000) :
    ∀ (d : Nat) (t hrs : Int), t + d = 20000 → 0 ≤ t → 0 ≤ hrs → hrs ≤ t → ∀ k, 21 + d < k →
    spec_NextRise.l0 k size x (s + a6 * x) hrs (t + 1) l0 l1 a0 a1 a2 a3 a4 a5 a6 a7 = some (rise p (stor a1 a2 a3 a4 size) s d t hrs) ∧ impl_NextRise.l0 k size hrs s t l0 l1 a0 a1 a2 a3 a4 a5 a6 a7 = some (rise p (stor a1 a2 a3 a4 size) s d t hrs) := by
  intro d
  induction d with
  | zero =>
    intro t hrs hd ht hh hh2 k hk
    obtain ⟨m, rfl, hm⟩ := succ_of hk
    simp only [spec_NextRise.l0, impl_NextRise.l0, rise]
    rw [if_neg (by omega), if_neg (by omega)]
    exact ⟨rfl, rfl⟩
  | succ d ih =>
    intro t hrs hd ht hh hh2 k hk
    obtain ⟨m, rfl, hm⟩ := succ_of hk
    obtain ⟨o1, o2⟩ := W.opn rfl t m (by omega)
    have e0 : wrap64 (t + 1 - 1) = t := by rw [w64 (by omega) (by omega)]; omega
    have e1 : wrap64 (t + 1) = t + 1 := w64 (by omega) (by omega)
    have e2 : wrap64 (t + 1 + 1) = t + 1 + 1 := w64 (by omega) (by omega)
    have e3 : wrap64 (hrs + 1) = hrs + 1 := w64 (by omega) (by omega)
    have c1 : t + 1 ≤ 20000 := by omega
    have c2 : t < 20000 := by omega
    simp only [spec_NextRise.l0, impl_NextRise.l0, rise, c1, c2, if_true, e0, o1, o2, Option.bind_some, e1, e2, e3]
    cases hp : p t with
    | true =>
      simp only [if_true]
      rw [spec_fee T hz hz2 (by omega) (by omega) hx hx2, impl_stor T hz hz2 (by omega) (by omega)]
      simp only [Option.bind_some]
      by_cases c : stor a1 a2 a3 a4 size (hrs + 1) > s
      · rw [if_pos (by omega), if_pos c, if_pos c]
        exact ⟨rfl, rfl⟩
      · rw [if_neg (by omega), if_neg c, if_neg c]
        exact ih (t + 1) (hrs + 1) (by omega) (by omega) (by omega) (by omega) m (by omega)
    | false =>
      simp only [Bool.false_eq_true, if_false]
      rw [spec_fee T hz hz2 (by omega) (by omega) hx hx2, impl_stor T hz hz2 (by omega) (by omega)]
      simp only [Option.bind_some]
      by_cases c : stor a1 a2 a3 a4 size hrs > s
      · rw [if_pos (by omega), if_pos c, if_pos c]
        exact ⟨rfl, rfl⟩
      · rw [if_neg (by omega), if_neg c, if_neg c]
        exact ih (t + 1) hrs (by omega) (by omega) (by omega) (by omega) m (by omega)

def riseB (b : Bool) (p : Int → Bool) (T : Bool) (free step rate cap most size t c x : Int) : Int × Bool := if FOk b T most size t c x then rise p (stor free step rate cap size) (stor free step rate cap size (hoursB b p t c)) (20000 - c).toNat c (hoursB b p t c) else (0, false)

theorem cnt_le (p : Int → Bool) (a c : Int) (h0 : 0 ≤ a) (h : a ≤ c) : cnt p (c - a).toNat a ≤ c := by
  have := cnt_range p (c - a).toNat a
  omega

theorem rise_ok {l0 l1 : List S71} {b : Bool} {p : Int → Bool} (W : WkOf l0 l1 b p) (a0 a1 a2 a3 a4 a5 a6 a7 : Int) : ∃ T, (T = true ↔ TOk a0 a1 a2 a3 a4 a5 a6 a7) ∧ (∀ size t c x k, 20200 < k →
    spec_FeeOf.f k l0 l1 a0 a1 a2 a3 a4 a5 a6 a7 size t c x = some (feeB b p T a1 a2 a3 a4 a6 a7 size t c x) ∧ impl_FeeOf.f k l0 l1 a0 a1 a2 a3 a4 a5 a6 a7 size t c x = some (feeB b p T a1 a2 a3 a4 a6 a7 size t c x)) ∧ ∀ size t c x k, 20300 < k →
    spec_NextRise.f k l0 l1 a0 a1 a2 a3 a4 a5 a6 a7 size t c x = some (riseB b p T a1 a2 a3 a4 a7 size t c x) ∧ impl_NextRise.f k l0 l1 a0 a1 a2 a3 a4 a5 a6 a7 size t c x = some (riseB b p T a1 a2 a3 a4 a7 size t c x) := by
  obtain ⟨T, hT, hF⟩ := fee_ok W a0 a1 a2 a3 a4 a5 a6 a7
  refine ⟨T, hT, hF, fun size t c x k hk => ?_⟩
  obtain ⟨f1, f2⟩ := hF size t c x k (by omega)
  unfold spec_NextRise.f impl_NextRise.f riseB
  rw [f1, f2]
  simp only [Option.bind_some]
  unfold feeB
  by_cases h : FOk b T a7 size t c x
  · rw [if_pos h, if_pos h]
    obtain ⟨rfl, rfl, h1, h2, h3, h4, h5, h6, h7⟩ := h
    have T := hT.1 rfl
    obtain ⟨g1, g2⟩ := hours W t c k (by omega)
    have hh := hoursB_range true p t c
    have hb := stor_range (free := a1) (step := a2) (rate := a3) (cap := a4) (size := size) (hrs := hoursB true p t c) T.2.1.1 T.2.2.1.1 T.2.2.2.1.1 T.2.2.2.1.2 T.2.2.2.2.1.1 h1 h2 (by omega)
    obtain ⟨p1, p2⟩ := price_bound T.2.2.2.2.2.2.1.1 T.2.2.2.2.2.2.1.2 h6 (by have := T.2.2.2.2.2.2.2; omega)
    have hcap := T.2.2.2.2.1.2
    rw [if_neg (by omega), if_neg (by omega), g1, g2]
    simp only [Option.bind_some]
    rw [impl_stor T h1 h2 hh.1 (by omega), w64 (x := c + 1) (by omega) (by omega)]
    simp only [Option.bind_some]
    exact rise_l0 W T h1 h2 h6 h7 _ hb.1 (by omega) (20000 - c).toNat c (hoursB true p t c) (by omega) (by omega) hh.1 (by rw [hoursB_yes h3 (by omega) (by omega) h5]; exact cnt_le p t c h3 h4) k (by omega)
  · rw [if_neg h, if_neg h, if_pos (by omega), if_pos (by omega)]
    exact ⟨rfl, rfl⟩
end Go.Proofs.Ytcabbbidbkgalaa.WkFnFees
