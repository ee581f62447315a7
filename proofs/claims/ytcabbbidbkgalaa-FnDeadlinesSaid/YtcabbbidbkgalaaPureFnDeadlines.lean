/- Each extension of a parcel's time makes the deadline later, and the least number of extensions that is enough is found: for every code (plain). -/
import Derived.Test.YtcabbbidbkgalaaWjFnDeadlines
import Derived.Test.YtcabbbidbkgalaaDxFnDeadlines
namespace Go.Proofs.Ytcabbbidbkgalaa.Pure
open Go.RowKit Go.Proofs.Ytcabbbidbkgalaa.QFnDeadlines Go.Proofs.YtcabbbidbkgalaaW.PrintWords Go.Proofs.YtcabbbidbkgalaaW.PrintLast

theorem FnDeadlines : laws_FnDeadlines.Pure := by
  intro x hx
  intros
  by_cases hl : (x.length : Int) > 1048576
  · refine ⟨1, ?_⟩
    unfold laws_FnDeadlines.f laws_big.f
    rw [decide_eq_true hl]
    rfl
  · have hx' : x.length ≤ 1048576 := by omega
    obtain ⟨w0, w1, hw⟩ := DwFnDeadlines.week_ex x hx'
    obtain ⟨a0, a1, a2, a3, a4, a5, a6, a7, ⟨b0, b1, b2, b3, b4, b5, b6, b7⟩, ht⟩ := DwFnDeadlines.terms_ex x hx'
    obtain ⟨r, r1, r2, hr⟩ := DwFnDeadlines.places_ex x hx'
    obtain ⟨b, p, W⟩ := WkFnDeadlines.wk_ex w0 w1
    obtain ⟨T, ⟨s1, s2, s3⟩, hd⟩ := WkFnDeadlines.dead_ok W a0 a1 a2 a3 a4 a5 a6 a7
    have hT : T = true := s3.2 ⟨by omega, by omega, by omega, by omega, by omega, by omega, by omega, by omega⟩
    subst hT
    refine ⟨100000, ?_⟩
    obtain ⟨p0, p1⟩ := DwFnDeadlines.place r r1 r2 0 (by omega) (by omega)
    have q0 := Int.tmod_nonneg 400 p0
    have q1 := Int.tmod_lt_of_pos (rd r 0) (show (0 : Int) < 400 by omega)
    unfold laws_FnDeadlines.f laws_big.f
    rw [decide_eq_false hl]
    simp only [Option.bind_some, Bool.false_eq_true, if_false]
    rw [hw _ (by omega), ht _ (by omega), hr _ (by omega)]
    simp only [Option.bind_some]
    rw [if_pos (by omega), if_pos (by omega)]
    refine WkFnDeadlines.law_l0 W b0.1 (by omega) b5.1 (by omega) b7.1 (by omega) s2 hd _ _ q0 (by omega) (a7 + 1).toNat 0 _ (-1) (by omega) (by omega) ⟨by omega, ?_⟩ (.inl ⟨rfl, rfl⟩) _ (by omega)
    rw [Int.sub_self]
    simp [WkFnDeadlines.cnt]
    omega

end Go.Proofs.Ytcabbbidbkgalaa.Pure
