/- A fee never falls with time, is that of the extensions alone as long as storage is free, has no more for storage than the cap, and rises next when it is told: for every code (plain). -/
import Derived.Test.YtcabbbidbkgalaaWmFnFees
import Derived.Test.YtcabbbidbkgalaaWgFnFees
namespace Go.Proofs.Ytcabbbidbkgalaa.Pure
open Go.RowKit Go.Proofs.Ytcabbbidbkgalaa.QFnFees Go.Proofs.YtcabbbidbkgalaaW.PrintWords Go.Proofs.YtcabbbidbkgalaaW.PrintLast

theorem FnFees : laws_FnFees.Pure := by
  intro x hx
  intros
  by_cases hl : (x.length : Int) > 1048576
  · refine ⟨1, ?_⟩
    unfold laws_FnFees.f laws_big.f
    rw [decide_eq_true hl]
    rfl
  · have hx' : x.length ≤ 1048576 := by omega
    obtain ⟨w0, w1, hok, hw⟩ := DwFnFees.gweek_ex x hx'
    obtain ⟨a0, a1, a2, a3, a4, a5, a6, a7, ⟨b0, b1, b2, b3, b4, b5, b6, b7⟩, ht⟩ := DwFnFees.terms_ex x hx'
    obtain ⟨r, r1, r2, hr⟩ := DwFnFees.places_ex x hx'
    obtain ⟨b, p, W⟩ := WkFnFees.wk_ex w0 w1
    obtain rfl : b = true := by
      have := (W.week 21 (by omega)).1
      rw [hok 21 (by omega)] at this
      exact (Option.some.inj this).symm
    obtain ⟨T, hT, hF, hR⟩ := WkFnFees.rise_ok W a0 a1 a2 a3 a4 a5 a6 a7
    obtain rfl : T = true := hT.2 ⟨by omega, by omega, by omega, by omega, by omega, by omega, by omega, by omega⟩
    refine ⟨100000 + 1, ?_⟩
    have P := fun i h0 h => DwFnFees.place r r1 r2 i h0 h
    have e7 : wrap64 (a7 + 1) = a7 + 1 := DwFnFees.w64 (by omega) (by omega)
    have n0 := Int.tmod_nonneg 300 (P 0 (by omega) (by omega)).1
    have m0 := Int.tmod_lt_of_pos (rd r 0) (show (0 : Int) < 300 by omega)
    have n1 := Int.tmod_nonneg 300 (P 1 (by omega) (by omega)).1
    have m1 := Int.tmod_lt_of_pos (rd r 1) (show (0 : Int) < 300 by omega)
    have n2 := Int.tmod_nonneg 6 (P 2 (by omega) (by omega)).1
    have m2 := Int.tmod_lt_of_pos (rd r 2) (show (0 : Int) < 6 by omega)
    have n3 := Int.tmod_nonneg (a7 + 1) (P 3 (by omega) (by omega)).1
    have m3 := Int.tmod_lt_of_pos (rd r 3) (show (0 : Int) < a7 + 1 by omega)
    have n4 := Int.tmod_nonneg 100 (P 4 (by omega) (by omega)).1
    have m4 := Int.tmod_lt_of_pos (rd r 4) (show (0 : Int) < 100 by omega)
    unfold laws_FnFees.f laws_big.f
    rw [decide_eq_false hl]
    simp only [Option.bind_some, Bool.false_eq_true, if_false]
    rw [hw _ (by omega), ht _ (by omega), hr _ (by omega)]
    simp only [Option.bind_some]
    rw [if_pos (by omega), if_pos (by omega), if_pos (by omega), if_pos (by omega), e7, if_neg (by omega)]
    rw [DwFnFees.w64 (x := Int.tmod (rd r 0) 300 + Int.tmod (rd r 1) 300) (by omega) (by omega), DwFnFees.w64 (x := 1 + Int.tmod (rd r 2) 6) (by omega) (by omega)]
    exact WkFnFees.law_j0 ⟨W, hT.1 rfl, hF, hR, n0, by omega, by omega, by omega, by omega, n3, by omega⟩ r r1 _ (DwFnFees.w64 (by omega) (by omega)) (by omega) (by omega) _ (by omega)

end Go.Proofs.Ytcabbbidbkgalaa.Pure
