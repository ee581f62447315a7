-- Printed functions and their walks: by print.py, turned by wip/tools/myprint.py.
import Derived.Test.YtcabbbidbkgalaaQFnFeesx0
import Derived.Test.YtcabbbidbkgalaaQFnFeesx2
import Derived.Test.YtcabbbidbkgalaaQFnFeesx3
import Derived.Test.YtcabbbidbkgalaaQFnFeesx4
import Derived.Test.YtcabbbidbkgalaaQFnFeesx5
import Derived.Test.YtcabbbidbkgalaaQFnFeesx6
namespace Go.Proofs.Ytcabbbidbkgalaa.QFnFees
open Go.RowKit Go.Proofs.YtcabbbidbkgalaaW.PrintWords Go.Proofs.YtcabbbidbkgalaaW.PrintLast Go.Proofs.YtcabbbidbkgalaaW.PrintMore
attribute [local go_sem] max2_int min2_int max_two min_two max_three min_three max_four min_four   -- for this text's walks alone
set_option linter.unusedVariables false
set_option linter.unusedSimpArgs false

/-! ### laws_FnFees: function 12 -/
mutual
def laws_FnFees.j0 : Nat → List Int → Int → Int → Int → Int → List (S71) → List (S71) → Int → Int → Int → Int → Int → Int → Int → Int → Option (Bool)
 | 0, _, _, _, _, _, _, _, _, _, _, _, _, _, _, _ => none
 | k + 1, x5, x6, x7, x8, x9, x346000, x346001, x355000, x355001, x355002, x355003, x355004, x355005, x355006, x355007 => (impl_FeeOf.f k x346000 x346001 x355000 x355001 x355002 x355003 x355004 x355005 x355006 x355007 x8 x6 x7 x9).bind fun t362 => (if 4 < (x5.length : Int) then ((impl_FeeOf.f k x346000 x346001 x355000 x355001 x355002 x355003 x355004 x355005 x355006 x355007 x8 x6 (wrap64 (x7 + (Int.tmod (rd x5 4) 100))) x9).bind fun t364 => ((impl_FreeUntil.f k x346000 x346001 x355000 x355001 x355002 x355003 x355004 x355005 x355006 x355007 x6).bind fun bt365 => (laws_FnFees.j1 k x6 x7 x8 x9 t362 t364 bt365.1 bt365.2 x346000 x346001 x355000 x355001 x355002 x355003 x355004 x355005 x355006 x355007))) else (none))
def laws_FnFees.j1 : Nat → Int → Int → Int → Int → Int → Int → Int → Bool → List (S71) → List (S71) → Int → Int → Int → Int → Int → Int → Int → Int → Option (Bool)
 | 0, _, _, _, _, _, _, _, _, _, _, _, _, _, _, _, _, _, _ => none
 | k + 1, x6, x7, x8, x9, x10, x11, x12, x13, x346000, x346001, x355000, x355001, x355002, x355003, x355004, x355005, x355006, x355007 => (spec_FeeOf.f k x346000 x346001 x355000 x355001 x355002 x355003 x355004 x355005 x355006 x355007 x8 x6 x7 x9).bind fun t367 => (if x10 = t367 then (if x10 < (wrap64 (x9 * x355006)) then (laws_FnFees.j2 k x6 x7 x8 x9 x10 x12 true x346000 x346001 x355000 x355001 x355002 x355003 x355004 x355005 x355006 x355007) else (if x10 > (wrap64 ((wrap64 (x9 * x355006)) + x355004)) then (laws_FnFees.j2 k x6 x7 x8 x9 x10 x12 true x346000 x346001 x355000 x355001 x355002 x355003 x355004 x355005 x355006 x355007) else (if x11 < x10 then (laws_FnFees.j2 k x6 x7 x8 x9 x10 x12 true x346000 x346001 x355000 x355001 x355002 x355003 x355004 x355005 x355006 x355007) else (if x13 = true then (if x7 ≤ x12 then (if x10 = (wrap64 (x9 * x355006)) then ((impl_FeeOf.f k x346000 x346001 x355000 x355001 x355002 x355003 x355004 x355005 x355006 x355007 x8 x6 (wrap64 (x6 - 1)) x9).bind fun t368 => (laws_FnFees.j2 k x6 x7 x8 x9 x10 x12 (t368 != (-1)) x346000 x346001 x355000 x355001 x355002 x355003 x355004 x355005 x355006 x355007)) else (laws_FnFees.j2 k x6 x7 x8 x9 x10 x12 true x346000 x346001 x355000 x355001 x355002 x355003 x355004 x355005 x355006 x355007)) else ((impl_FeeOf.f k x346000 x346001 x355000 x355001 x355002 x355003 x355004 x355005 x355006 x355007 x8 x6 (wrap64 (x6 - 1)) x9).bind fun t369 => (laws_FnFees.j2 k x6 x7 x8 x9 x10 x12 (t369 != (-1)) x346000 x346001 x355000 x355001 x355002 x355003 x355004 x355005 x355006 x355007))) else (laws_FnFees.j2 k x6 x7 x8 x9 x10 x12 true x346000 x346001 x355000 x355001 x355002 x355003 x355004 x355005 x355006 x355007))))) else (laws_FnFees.j2 k x6 x7 x8 x9 x10 x12 true x346000 x346001 x355000 x355001 x355002 x355003 x355004 x355005 x355006 x355007))
def laws_FnFees.j2 : Nat → Int → Int → Int → Int → Int → Int → Bool → List (S71) → List (S71) → Int → Int → Int → Int → Int → Int → Int → Int → Option (Bool)
 | 0, _, _, _, _, _, _, _, _, _, _, _, _, _, _, _, _, _ => none
 | k + 1, x6, x7, x8, x9, x10, x12, x134, x346000, x346001, x355000, x355001, x355002, x355003, x355004, x355005, x355006, x355007 => if x134 = true then (none) else (if x12 < 20000 then (if x355003 > 0 then (if x355004 > 0 then ((impl_FeeOf.f k x346000 x346001 x355000 x355001 x355002 x355003 x355004 x355005 x355006 x355007 x8 x6 (wrap64 (x12 + 1)) x9).bind fun t370 => (laws_FnFees.j3 k x6 x7 x8 x9 x10 (decide (t370 ≤ (wrap64 (x9 * x355006)))) x346000 x346001 x355000 x355001 x355002 x355003 x355004 x355005 x355006 x355007)) else (laws_FnFees.j3 k x6 x7 x8 x9 x10 false x346000 x346001 x355000 x355001 x355002 x355003 x355004 x355005 x355006 x355007)) else (laws_FnFees.j3 k x6 x7 x8 x9 x10 false x346000 x346001 x355000 x355001 x355002 x355003 x355004 x355005 x355006 x355007)) else (laws_FnFees.j3 k x6 x7 x8 x9 x10 false x346000 x346001 x355000 x355001 x355002 x355003 x355004 x355005 x355006 x355007))
def laws_FnFees.j3 : Nat → Int → Int → Int → Int → Int → Bool → List (S71) → List (S71) → Int → Int → Int → Int → Int → Int → Int → Int → Option (Bool)
 | 0, _, _, _, _, _, _, _, _, _, _, _, _, _, _, _, _ => none
 | k + 1, x6, x7, x8, x9, x10, x161, x346000, x346001, x355000, x355001, x355002, x355003, x355004, x355005, x355006, x355007 => if x161 = true then (none) else ((impl_NextRise.f k x346000 x346001 x355000 x355001 x355002 x355003 x355004 x355005 x355006 x355007 x8 x6 x7 x9).bind fun bt371 => ((spec_NextRise.f k x346000 x346001 x355000 x355001 x355002 x355003 x355004 x355005 x355006 x355007 x8 x6 x7 x9).bind fun bt373 => (if (bt371.2 != bt373.2) = true then (laws_FnFees.j4 k x6 x7 x8 x9 x10 bt373.1 bt373.2 true x346000 x346001 x355000 x355001 x355002 x355003 x355004 x355005 x355006 x355007) else (laws_FnFees.j4 k x6 x7 x8 x9 x10 bt373.1 bt373.2 (bt371.1 != bt373.1) x346000 x346001 x355000 x355001 x355002 x355003 x355004 x355005 x355006 x355007))))
def laws_FnFees.j4 : Nat → Int → Int → Int → Int → Int → Int → Bool → Bool → List (S71) → List (S71) → Int → Int → Int → Int → Int → Int → Int → Int → Option (Bool)
 | 0, _, _, _, _, _, _, _, _, _, _, _, _, _, _, _, _, _, _ => none
 | k + 1, x6, x7, x8, x9, x10, x16, x17, x189, x346000, x346001, x355000, x355001, x355002, x355003, x355004, x355005, x355006, x355007 => if x189 = true then (none) else (if x17 = true then (if x16 > x7 then ((impl_FeeOf.f k x346000 x346001 x355000 x355001 x355002 x355003 x355004 x355005 x355006 x355007 x8 x6 x16 x9).bind fun t375 => (if t375 > x10 then ((impl_FeeOf.f k x346000 x346001 x355000 x355001 x355002 x355003 x355004 x355005 x355006 x355007 x8 x6 (wrap64 (x16 - 1)) x9).bind fun t376 => (some (t376 == x10))) else (none))) else (none)) else ((impl_FeeOf.f k x346000 x346001 x355000 x355001 x355002 x355003 x355004 x355005 x355006 x355007 x8 x6 20000 x9).bind fun t377 => (some (t377 == x10))))
end
def laws_FnFees.f (k : Nat) (l0 : List Int) : Option (Bool) := (laws_big.f l0).bind fun t338 => (if t338 = true then (some true) else ((spec_DrawWeek.f k l0).bind fun bt339 => ((spec_DrawTerms.f k l0).bind fun bt346 => ((spec_DrawPlaces.f k l0).bind fun t355 => (if 0 < (t355.length : Int) then (if 1 < (t355.length : Int) then (if 2 < (t355.length : Int) then (if 3 < (t355.length : Int) then (if (wrap64 (bt346.2.2.2.2.2.2.2 + 1)) = 0 then (none) else (laws_FnFees.j0 k t355 (Int.tmod (rd t355 0) 300) (wrap64 ((Int.tmod (rd t355 0) 300) + (Int.tmod (rd t355 1) 300))) (wrap64 (1 + (Int.tmod (rd t355 2) 6))) (Int.tmod (rd t355 3) (wrap64 (bt346.2.2.2.2.2.2.2 + 1))) bt339.1 bt339.2 bt346.1 bt346.2.1 bt346.2.2.1 bt346.2.2.2.1 bt346.2.2.2.2.1 bt346.2.2.2.2.2.1 bt346.2.2.2.2.2.2.1 bt346.2.2.2.2.2.2.2)) else (none)) else (none)) else (none)) else (none))))))
theorem laws_FnFees.mono_l : ∀ k, (∀ y0 y1 y2 y3 y4 y5 y6 y7 y8 y9 y10 y11 y12 y13 y14, LeO (laws_FnFees.j0 k y0 y1 y2 y3 y4 y5 y6 y7 y8 y9 y10 y11 y12 y13 y14) (laws_FnFees.j0 (k + 1) y0 y1 y2 y3 y4 y5 y6 y7 y8 y9 y10 y11 y12 y13 y14)) ∧ (∀ y0 y1 y2 y3 y4 y5 y6 y7 y8 y9 y10 y11 y12 y13 y14 y15 y16 y17, LeO (laws_FnFees.j1 k y0 y1 y2 y3 y4 y5 y6 y7 y8 y9 y10 y11 y12 y13 y14 y15 y16 y17) (laws_FnFees.j1 (k + 1) y0 y1 y2 y3 y4 y5 y6 y7 y8 y9 y10 y11 y12 y13 y14 y15 y16 y17)) ∧ (∀ y0 y1 y2 y3 y4 y5 y6 y7 y8 y9 y10 y11 y12 y13 y14 y15 y16, LeO (laws_FnFees.j2 k y0 y1 y2 y3 y4 y5 y6 y7 y8 y9 y10 y11 y12 y13 y14 y15 y16) (laws_FnFees.j2 (k + 1) y0 y1 y2 y3 y4 y5 y6 y7 y8 y9 y10 y11 y12 y13 y14 y15 y16)) ∧ (∀ y0 y1 y2 y3 y4 y5 y6 y7 y8 y9 y10 y11 y12 y13 y14 y15, LeO (laws_FnFees.j3 k y0 y1 y2 y3 y4 y5 y6 y7 y8 y9 y10 y11 y12 y13 y14 y15) (laws_FnFees.j3 (k + 1) y0 y1 y2 y3 y4 y5 y6 y7 y8 y9 y10 y11 y12 y13 y14 y15)) ∧ (∀ y0 y1 y2 y3 y4 y5 y6 y7 y8 y9 y10 y11 y12 y13 y14 y15 y16 y17, LeO (laws_FnFees.j4 k y0 y1 y2 y3 y4 y5 y6 y7 y8 y9 y10 y11 y12 y13 y14 y15 y16 y17) (laws_FnFees.j4 (k + 1) y0 y1 y2 y3 y4 y5 y6 y7 y8 y9 y10 y11 y12 y13 y14 y15 y16 y17))
 | 0 => ⟨fun _ _ _ _ _ _ _ _ _ _ _ _ _ _ _ r h => by simp [laws_FnFees.j0] at h, fun _ _ _ _ _ _ _ _ _ _ _ _ _ _ _ _ _ _ r h => by simp [laws_FnFees.j1] at h, fun _ _ _ _ _ _ _ _ _ _ _ _ _ _ _ _ _ r h => by simp [laws_FnFees.j2] at h, fun _ _ _ _ _ _ _ _ _ _ _ _ _ _ _ _ r h => by simp [laws_FnFees.j3] at h, fun _ _ _ _ _ _ _ _ _ _ _ _ _ _ _ _ _ _ r h => by simp [laws_FnFees.j4] at h⟩
 | k + 1 => by
  obtain ⟨ih0, ih1, ih2, ih3, ih4⟩ := laws_FnFees.mono_l k
  refine ⟨?_, ?_, ?_, ?_, ?_⟩
  ·intro y0 y1 y2 y3 y4 y5 y6 y7 y8 y9 y10 y11 y12 y13 y14
   unfold laws_FnFees.j0
   repeat' first
   | (with_reducible exact ih0 _ _ _ _ _ _ _ _ _ _ _ _ _ _ _)
   | (with_reducible exact ih1 _ _ _ _ _ _ _ _ _ _ _ _ _ _ _ _ _ _)
   | (with_reducible exact ih2 _ _ _ _ _ _ _ _ _ _ _ _ _ _ _ _ _)
   | (with_reducible exact ih3 _ _ _ _ _ _ _ _ _ _ _ _ _ _ _ _)
   | (with_reducible exact ih4 _ _ _ _ _ _ _ _ _ _ _ _ _ _ _ _ _ _)
   | (with_reducible exact impl_FeeOf.mono _ _ _ _ _ _ _ _ _ _ _ _ _ _ _)
   | (with_reducible exact impl_FreeUntil.mono _ _ _ _ _ _ _ _ _ _ _ _)
   | (with_reducible exact impl_NextRise.mono _ _ _ _ _ _ _ _ _ _ _ _ _ _ _)
   | (with_reducible exact spec_DrawPlaces.mono _ _)
   | (with_reducible exact spec_DrawTerms.mono _ _)
   | (with_reducible exact spec_DrawWeek.mono _ _)
   | (with_reducible exact spec_FeeOf.mono _ _ _ _ _ _ _ _ _ _ _ _ _ _ _)
   | (with_reducible exact spec_NextRise.mono _ _ _ _ _ _ _ _ _ _ _ _ _ _ _)
   | (with_reducible exact LeO.refl _)
   | (with_reducible exact LeO.none _)
   | (with_reducible refine LeO.ite ?_ ?_)
   | (with_reducible refine LeO.bind ?_ (fun _ => ?_))
   | exact ih0 _ _ _ _ _ _ _ _ _ _ _ _ _ _ _
   | exact ih1 _ _ _ _ _ _ _ _ _ _ _ _ _ _ _ _ _ _
   | exact ih2 _ _ _ _ _ _ _ _ _ _ _ _ _ _ _ _ _
   | exact ih3 _ _ _ _ _ _ _ _ _ _ _ _ _ _ _ _
   | exact ih4 _ _ _ _ _ _ _ _ _ _ _ _ _ _ _ _ _ _
   | exact impl_FeeOf.mono _ _ _ _ _ _ _ _ _ _ _ _ _ _ _
   | exact impl_FreeUntil.mono _ _ _ _ _ _ _ _ _ _ _ _
   | exact impl_NextRise.mono _ _ _ _ _ _ _ _ _ _ _ _ _ _ _
   | exact spec_DrawPlaces.mono _ _
   | exact spec_DrawTerms.mono _ _
   | exact spec_DrawWeek.mono _ _
   | exact spec_FeeOf.mono _ _ _ _ _ _ _ _ _ _ _ _ _ _ _
   | exact spec_NextRise.mono _ _ _ _ _ _ _ _ _ _ _ _ _ _ _
   | exact LeO.none _
   | refine LeO.ite ?_ ?_
   | refine LeO.bind ?_ (fun _ => ?_)
  ·intro y0 y1 y2 y3 y4 y5 y6 y7 y8 y9 y10 y11 y12 y13 y14 y15 y16 y17
   unfold laws_FnFees.j1
   repeat' first
   | (with_reducible exact ih0 _ _ _ _ _ _ _ _ _ _ _ _ _ _ _)
   | (with_reducible exact ih1 _ _ _ _ _ _ _ _ _ _ _ _ _ _ _ _ _ _)
   | (with_reducible exact ih2 _ _ _ _ _ _ _ _ _ _ _ _ _ _ _ _ _)
   | (with_reducible exact ih3 _ _ _ _ _ _ _ _ _ _ _ _ _ _ _ _)
   | (with_reducible exact ih4 _ _ _ _ _ _ _ _ _ _ _ _ _ _ _ _ _ _)
   | (with_reducible exact impl_FeeOf.mono _ _ _ _ _ _ _ _ _ _ _ _ _ _ _)
   | (with_reducible exact impl_FreeUntil.mono _ _ _ _ _ _ _ _ _ _ _ _)
   | (with_reducible exact impl_NextRise.mono _ _ _ _ _ _ _ _ _ _ _ _ _ _ _)
   | (with_reducible exact spec_DrawPlaces.mono _ _)
   | (with_reducible exact spec_DrawTerms.mono _ _)
   | (with_reducible exact spec_DrawWeek.mono _ _)
   | (with_reducible exact spec_FeeOf.mono _ _ _ _ _ _ _ _ _ _ _ _ _ _ _)
   | (with_reducible exact spec_NextRise.mono _ _ _ _ _ _ _ _ _ _ _ _ _ _ _)
   | (with_reducible exact LeO.refl _)
   | (with_reducible exact LeO.none _)
   | (with_reducible refine LeO.ite ?_ ?_)
   | (with_reducible refine LeO.bind ?_ (fun _ => ?_))
   | exact ih0 _ _ _ _ _ _ _ _ _ _ _ _ _ _ _
   | exact ih1 _ _ _ _ _ _ _ _ _ _ _ _ _ _ _ _ _ _
   | exact ih2 _ _ _ _ _ _ _ _ _ _ _ _ _ _ _ _ _
   | exact ih3 _ _ _ _ _ _ _ _ _ _ _ _ _ _ _ _
   | exact ih4 _ _ _ _ _ _ _ _ _ _ _ _ _ _ _ _ _ _
   | exact impl_FeeOf.mono _ _ _ _ _ _ _ _ _ _ _ _ _ _ _
   | exact impl_FreeUntil.mono _ _ _ _ _ _ _ _ _ _ _ _
   | exact impl_NextRise.mono _ _ _ _ _ _ _ _ _ _ _ _ _ _ _
   | exact spec_DrawPlaces.mono _ _
   | exact spec_DrawTerms.mono _ _
   | exact spec_DrawWeek.mono _ _
   | exact spec_FeeOf.mono _ _ _ _ _ _ _ _ _ _ _ _ _ _ _
   | exact spec_NextRise.mono _ _ _ _ _ _ _ _ _ _ _ _ _ _ _
   | exact LeO.none _
   | refine LeO.ite ?_ ?_
   | refine LeO.bind ?_ (fun _ => ?_)
  ·intro y0 y1 y2 y3 y4 y5 y6 y7 y8 y9 y10 y11 y12 y13 y14 y15 y16
   unfold laws_FnFees.j2
   repeat' first
   | (with_reducible exact ih0 _ _ _ _ _ _ _ _ _ _ _ _ _ _ _)
   | (with_reducible exact ih1 _ _ _ _ _ _ _ _ _ _ _ _ _ _ _ _ _ _)
   | (with_reducible exact ih2 _ _ _ _ _ _ _ _ _ _ _ _ _ _ _ _ _)
   | (with_reducible exact ih3 _ _ _ _ _ _ _ _ _ _ _ _ _ _ _ _)
   | (with_reducible exact ih4 _ _ _ _ _ _ _ _ _ _ _ _ _ _ _ _ _ _)
   | (with_reducible exact impl_FeeOf.mono _ _ _ _ _ _ _ _ _ _ _ _ _ _ _)
   | (with_reducible exact impl_FreeUntil.mono _ _ _ _ _ _ _ _ _ _ _ _)
   | (with_reducible exact impl_NextRise.mono _ _ _ _ _ _ _ _ _ _ _ _ _ _ _)
   | (with_reducible exact spec_DrawPlaces.mono _ _)
   | (with_reducible exact spec_DrawTerms.mono _ _)
   | (with_reducible exact spec_DrawWeek.mono _ _)
   | (with_reducible exact spec_FeeOf.mono _ _ _ _ _ _ _ _ _ _ _ _ _ _ _)
   | (with_reducible exact spec_NextRise.mono _ _ _ _ _ _ _ _ _ _ _ _ _ _ _)
   | (with_reducible exact LeO.refl _)
   | (with_reducible exact LeO.none _)
   | (with_reducible refine LeO.ite ?_ ?_)
   | (with_reducible refine LeO.bind ?_ (fun _ => ?_))
   | exact ih0 _ _ _ _ _ _ _ _ _ _ _ _ _ _ _
   | exact ih1 _ _ _ _ _ _ _ _ _ _ _ _ _ _ _ _ _ _
   | exact ih2 _ _ _ _ _ _ _ _ _ _ _ _ _ _ _ _ _
   | exact ih3 _ _ _ _ _ _ _ _ _ _ _ _ _ _ _ _
   | exact ih4 _ _ _ _ _ _ _ _ _ _ _ _ _ _ _ _ _ _
   | exact impl_FeeOf.mono _ _ _ _ _ _ _ _ _ _ _ _ _ _ _
   | exact impl_FreeUntil.mono _ _ _ _ _ _ _ _ _ _ _ _
   | exact impl_NextRise.mono _ _ _ _ _ _ _ _ _ _ _ _ _ _ _
   | exact spec_DrawPlaces.mono _ _
   | exact spec_DrawTerms.mono _ _
   | exact spec_DrawWeek.mono _ _
   | exact spec_FeeOf.mono _ _ _ _ _ _ _ _ _ _ _ _ _ _ _
   | exact spec_NextRise.mono _ _ _ _ _ _ _ _ _ _ _ _ _ _ _
   | exact LeO.none _
   | refine LeO.ite ?_ ?_
   | refine LeO.bind ?_ (fun _ => ?_)
  ·intro y0 y1 y2 y3 y4 y5 y6 y7 y8 y9 y10 y11 y12 y13 y14 y15
   unfold laws_FnFees.j3
   repeat' first
   | (with_reducible exact ih0 _ _ _ _ _ _ _ _ _ _ _ _ _ _ _)
   | (with_reducible exact ih1 _ _ _ _ _ _ _ _ _ _ _ _ _ _ _ _ _ _)
   | (with_reducible exact ih2 _ _ _ _ _ _ _ _ _ _ _ _ _ _ _ _ _)
   | (with_reducible exact ih3 _ _ _ _ _ _ _ _ _ _ _ _ _ _ _ _)
   | (with_reducible exact ih4 _ _ _ _ _ _ _ _ _ _ _ _ _ _ _ _ _ _)
   | (with_reducible exact impl_FeeOf.mono _ _ _ _ _ _ _ _ _ _ _ _ _ _ _)
   | (with_reducible exact impl_FreeUntil.mono _ _ _ _ _ _ _ _ _ _ _ _)
   | (with_reducible exact impl_NextRise.mono _ _ _ _ _ _ _ _ _ _ _ _ _ _ _)
   | (with_reducible exact spec_DrawPlaces.mono _ _)
   | (with_reducible exact spec_DrawTerms.mono _ _)
   | (with_reducible exact spec_DrawWeek.mono _ _)
   | (with_reducible exact spec_FeeOf.mono _ _ _ _ _ _ _ _ _ _ _ _ _ _ _)
   | (with_reducible exact spec_NextRise.mono _ _ _ _ _ _ _ _ _ _ _ _ _ _ _)
   | (with_reducible exact LeO.refl _)
   | (with_reducible exact LeO.none _)
   | (with_reducible refine LeO.ite ?_ ?_)
   | (with_reducible refine LeO.bind ?_ (fun _ => ?_))
   | exact ih0 _ _ _ _ _ _ _ _ _ _ _ _ _ _ _
   | exact ih1 _ _ _ _ _ _ _ _ _ _ _ _ _ _ _ _ _ _
   | exact ih2 _ _ _ _ _ _ _ _ _ _ _ _ _ _ _ _ _
   | exact ih3 _ _ _ _ _ _ _ _ _ _ _ _ _ _ _ _
   | exact ih4 _ _ _ _ _ _ _ _ _ _ _ _ _ _ _ _ _ _
   | exact impl_FeeOf.mono _ _ _ _ _ _ _ _ _ _ _ _ _ _ _
   | exact impl_FreeUntil.mono _ _ _ _ _ _ _ _ _ _ _ _
   | exact impl_NextRise.mono _ _ _ _ _ _ _ _ _ _ _ _ _ _ _
   | exact spec_DrawPlaces.mono _ _
   | exact spec_DrawTerms.mono _ _
   | exact spec_DrawWeek.mono _ _
   | exact spec_FeeOf.mono _ _ _ _ _ _ _ _ _ _ _ _ _ _ _
   | exact spec_NextRise.mono _ _ _ _ _ _ _ _ _ _ _ _ _ _ _
   | exact LeO.none _
   | refine LeO.ite ?_ ?_
   | refine LeO.bind ?_ (fun _ => ?_)
  ·intro y0 y1 y2 y3 y4 y5 y6 y7 y8 y9 y10 y11 y12 y13 y14 y15 y16 y17
   unfold laws_FnFees.j4
   repeat' first
   | (with_reducible exact ih0 _ _ _ _ _ _ _ _ _ _ _ _ _ _ _)
   | (with_reducible exact ih1 _ _ _ _ _ _ _ _ _ _ _ _ _ _ _ _ _ _)
   | (with_reducible exact ih2 _ _ _ _ _ _ _ _ _ _ _ _ _ _ _ _ _)
   | (with_reducible exact ih3 _ _ _ _ _ _ _ _ _ _ _ _ _ _ _ _)
   | (with_reducible exact ih4 _ _ _ _ _ _ _ _ _ _ _ _ _ _ _ _ _ _)
   | (with_reducible exact impl_FeeOf.mono _ _ _ _ _ _ _ _ _ _ _ _ _ _ _)
   | (with_reducible exact impl_FreeUntil.mono _ _ _ _ _ _ _ _ _ _ _ _)
   | (with_reducible exact impl_NextRise.mono _ _ _ _ _ _ _ _ _ _ _ _ _ _ _)
   | (with_reducible exact spec_DrawPlaces.mono _ _)
   | (with_reducible exact spec_DrawTerms.mono _ _)
   | (with_reducible exact spec_DrawWeek.mono _ _)
   | (with_reducible exact spec_FeeOf.mono _ _ _ _ _ _ _ _ _ _ _ _ _ _ _)
   | (with_reducible exact spec_NextRise.mono _ _ _ _ _ _ _ _ _ _ _ _ _ _ _)
   | (with_reducible exact LeO.refl _)
   | (with_reducible exact LeO.none _)
   | (with_reducible refine LeO.ite ?_ ?_)
   | (with_reducible refine LeO.bind ?_ (fun _ => ?_))
   | exact ih0 _ _ _ _ _ _ _ _ _ _ _ _ _ _ _
   | exact ih1 _ _ _ _ _ _ _ _ _ _ _ _ _ _ _ _ _ _
   | exact ih2 _ _ _ _ _ _ _ _ _ _ _ _ _ _ _ _ _
   | exact ih3 _ _ _ _ _ _ _ _ _ _ _ _ _ _ _ _
   | exact ih4 _ _ _ _ _ _ _ _ _ _ _ _ _ _ _ _ _ _
   | exact impl_FeeOf.mono _ _ _ _ _ _ _ _ _ _ _ _ _ _ _
   | exact impl_FreeUntil.mono _ _ _ _ _ _ _ _ _ _ _ _
   | exact impl_NextRise.mono _ _ _ _ _ _ _ _ _ _ _ _ _ _ _
   | exact spec_DrawPlaces.mono _ _
   | exact spec_DrawTerms.mono _ _
   | exact spec_DrawWeek.mono _ _
   | exact spec_FeeOf.mono _ _ _ _ _ _ _ _ _ _ _ _ _ _ _
   | exact spec_NextRise.mono _ _ _ _ _ _ _ _ _ _ _ _ _ _ _
   | exact LeO.none _
   | refine LeO.ite ?_ ?_
   | refine LeO.bind ?_ (fun _ => ?_)
theorem laws_FnFees.mono : ∀ a0 k, LeO (laws_FnFees.f k a0) (laws_FnFees.f (k + 1) a0) := by
 intro a0 k
 obtain ⟨ih0, ih1, ih2, ih3, ih4⟩ := laws_FnFees.mono_l k
 unfold laws_FnFees.f
 repeat' first
   | (with_reducible exact ih0 _ _ _ _ _ _ _ _ _ _ _ _ _ _ _)
   | (with_reducible exact ih1 _ _ _ _ _ _ _ _ _ _ _ _ _ _ _ _ _ _)
   | (with_reducible exact ih2 _ _ _ _ _ _ _ _ _ _ _ _ _ _ _ _ _)
   | (with_reducible exact ih3 _ _ _ _ _ _ _ _ _ _ _ _ _ _ _ _)
   | (with_reducible exact ih4 _ _ _ _ _ _ _ _ _ _ _ _ _ _ _ _ _ _)
   | (with_reducible exact impl_FeeOf.mono _ _ _ _ _ _ _ _ _ _ _ _ _ _ _)
   | (with_reducible exact impl_FreeUntil.mono _ _ _ _ _ _ _ _ _ _ _ _)
   | (with_reducible exact impl_NextRise.mono _ _ _ _ _ _ _ _ _ _ _ _ _ _ _)
   | (with_reducible exact spec_DrawPlaces.mono _ _)
   | (with_reducible exact spec_DrawTerms.mono _ _)
   | (with_reducible exact spec_DrawWeek.mono _ _)
   | (with_reducible exact spec_FeeOf.mono _ _ _ _ _ _ _ _ _ _ _ _ _ _ _)
   | (with_reducible exact spec_NextRise.mono _ _ _ _ _ _ _ _ _ _ _ _ _ _ _)
   | (with_reducible exact LeO.refl _)
   | (with_reducible exact LeO.none _)
   | (with_reducible refine LeO.ite ?_ ?_)
   | (with_reducible refine LeO.bind ?_ (fun _ => ?_))
   | exact ih0 _ _ _ _ _ _ _ _ _ _ _ _ _ _ _
   | exact ih1 _ _ _ _ _ _ _ _ _ _ _ _ _ _ _ _ _ _
   | exact ih2 _ _ _ _ _ _ _ _ _ _ _ _ _ _ _ _ _
   | exact ih3 _ _ _ _ _ _ _ _ _ _ _ _ _ _ _ _
   | exact ih4 _ _ _ _ _ _ _ _ _ _ _ _ _ _ _ _ _ _
   | exact impl_FeeOf.mono _ _ _ _ _ _ _ _ _ _ _ _ _ _ _
   | exact impl_FreeUntil.mono _ _ _ _ _ _ _ _ _ _ _ _
   | exact impl_NextRise.mono _ _ _ _ _ _ _ _ _ _ _ _ _ _ _
   | exact spec_DrawPlaces.mono _ _
   | exact spec_DrawTerms.mono _ _
   | exact spec_DrawWeek.mono _ _
   | exact spec_FeeOf.mono _ _ _ _ _ _ _ _ _ _ _ _ _ _ _
   | exact spec_NextRise.mono _ _ _ _ _ _ _ _ _ _ _ _ _ _ _
   | exact LeO.none _
   | refine LeO.ite ?_ ?_
   | refine LeO.bind ?_ (fun _ => ?_)
def laws_FnFees.T9 : Bool × List (List Nat × List Nat) := (true, [([], []), ([0], [0]), ([1], [1]), ([], []), ([3], [3]), ([4], [4]), ([2, 5], [2, 5]), ([6, 0, 1, 2, 3, 4, 5, 6], [6])])
def laws_FnFees.B9 : List Nat := [0, 1, 3, 0, 8, 24, 63, 127]
theorem laws_FnFees.tab9 : rtab .any (opsOf Try.f12 9) = laws_FnFees.T9 := by kernel_rfl
theorem laws_FnFees.bits9 : waitsOk laws_FnFees.T9.2 laws_FnFees.B9 = true := by kernel_rfl
def laws_FnFees.T11 : Bool × List (List Nat × List Nat) := (true, [([], []), ([], []), ([], []), ([], []), ([], []), ([], []), ([5], [5]), ([6], [6]), ([7], [7]), ([4, 8], [4, 8]), ([], []), ([0, 1, 2, 3, 9, 10], [0, 1, 2, 3, 9, 10]), ([11, 11, 0, 1, 2, 3, 4, 5, 6, 7, 8, 9, 10, 11], [11])])
def laws_FnFees.B11 : List Nat := [0, 0, 0, 0, 0, 0, 32, 96, 224, 496, 0, 2047, 4095]
theorem laws_FnFees.tab11 : rtab .any (opsOf Try.f12 11) = laws_FnFees.T11 := by kernel_rfl
theorem laws_FnFees.bits11 : waitsOk laws_FnFees.T11.2 laws_FnFees.B11 = true := by kernel_rfl
def laws_FnFees.T15 : Bool × List (List Nat × List Nat) := (true, [([], []), ([0], [0]), ([1], [1]), ([2], [2]), ([3, 2], [2, 3]), ([4, 2], [2, 4]), ([2, 5], [2, 5]), ([6, 2], [6]), ([7], [7]), ([8, 7], [7, 8]), ([9, 7], [7, 9]), ([7, 10], [7, 10]), ([11, 7], [11]), ([12], [12]), ([12], [12]), ([12], [12]), ([12], [12]), ([12], [12]), ([17, 12], [12, 17]), ([12], [12]), ([13, 14, 15, 16, 18, 19, 12, 12], [12, 13, 14, 15, 16, 18, 19]), ([12], [12]), ([12], [12]), ([22, 12], [12, 22]), ([21, 23, 12], [12, 21, 23]), ([20, 24, 12], [12, 20, 24]), ([12, 25], [12, 25])])
def laws_FnFees.B15 : List Nat := [0, 1, 3, 7, 15, 31, 63, 127, 255, 511, 1023, 2047, 4095, 8191, 8191, 8191, 8191, 8191, 139263, 8191, 1048575, 8191, 8191, 4202495, 14688255, 33554431, 67108863]
theorem laws_FnFees.tab15 : rtab .any (opsOf Try.f12 15) = laws_FnFees.T15 := by kernel_rfl
theorem laws_FnFees.bits15 : waitsOk laws_FnFees.T15.2 laws_FnFees.B15 = true := by kernel_rfl
set_option maxHeartbeats 8000000 in
set_option maxRecDepth 100000 in
theorem laws_FnFees.calls (k : Nat) (A0 : Option Addr) (c0 : Nat) (l0 : List Int) (r : Bool) (w : World) (hr0 : Kd.C (Kd.int .u8) w A0 l0.length l0) (hc0 : l0.length ≤ c0) (h : laws_FnFees.f k l0 = some r) :
  Calls Try.prog 12 #[.slice A0 l0.length c0] w fun e w' => e = .returned (.bool r) ∧ Below w.heap.size w w' := by
 have hu36 := Try.underlying36
 have hu25 := Try.underlying25
 have HR0 := aM hr0
 have HC0 := aM hc0
 clear hr0 hc0
 have HB := aM (Below.refl w.heap.size w)
 have H : ((laws_big.f l0).bind fun t338 => (if t338 = true then (some true) else ((spec_DrawWeek.f k l0).bind fun bt339 => ((spec_DrawTerms.f k l0).bind fun bt346 => ((spec_DrawPlaces.f k l0).bind fun t355 => (if 0 < (t355.length : Int) then (if 1 < (t355.length : Int) then (if 2 < (t355.length : Int) then (if 3 < (t355.length : Int) then (if (wrap64 (bt346.2.2.2.2.2.2.2 + 1)) = 0 then (none) else (laws_FnFees.j0 k t355 (Int.tmod (rd t355 0) 300) (wrap64 ((Int.tmod (rd t355 0) 300) + (Int.tmod (rd t355 1) 300))) (wrap64 (1 + (Int.tmod (rd t355 2) 6))) (Int.tmod (rd t355 3) (wrap64 (bt346.2.2.2.2.2.2.2 + 1))) bt339.1 bt339.2 bt346.1 bt346.2.1 bt346.2.2.1 bt346.2.2.2.1 bt346.2.2.2.2.1 bt346.2.2.2.2.2.1 bt346.2.2.2.2.2.2.1 bt346.2.2.2.2.2.2.2)) else (none)) else (none)) else (none)) else (none))))))) = some r := h
 clear h
 replace H := Option.bind_eq_some_iff.mp H
 obtain ⟨t338, A20, H⟩ := H
 replace H : (if t338 = true then (some true) else ((spec_DrawWeek.f k l0).bind fun bt339 => ((spec_DrawTerms.f k l0).bind fun bt346 => ((spec_DrawPlaces.f k l0).bind fun t355 => (if 0 < (t355.length : Int) then (if 1 < (t355.length : Int) then (if 2 < (t355.length : Int) then (if 3 < (t355.length : Int) then (if (wrap64 (bt346.2.2.2.2.2.2.2 + 1)) = 0 then (none) else (laws_FnFees.j0 k t355 (Int.tmod (rd t355 0) 300) (wrap64 ((Int.tmod (rd t355 0) 300) + (Int.tmod (rd t355 1) 300))) (wrap64 (1 + (Int.tmod (rd t355 2) 6))) (Int.tmod (rd t355 3) (wrap64 (bt346.2.2.2.2.2.2.2 + 1))) bt339.1 bt339.2 bt346.1 bt346.2.1 bt346.2.2.1 bt346.2.2.2.1 bt346.2.2.2.2.1 bt346.2.2.2.2.2.1 bt346.2.2.2.2.2.2.1 bt346.2.2.2.2.2.2.2)) else (none)) else (none)) else (none)) else (none)))))) = some r := H
 have A2 := aM A20
 clear A20
 by_cases c3 : t338 = true
 ·subst c3
  have H1 : (some true) = some r := by rw [if_pos rfl] at H; exact H
  clear H
  have H := H1
  clear H1
  obtain rfl := Option.some.inj H
  go_enter Try.func12, Try.ntmps12
  go_wp2_with (first | ((with_reducible refine gate_callee (f := 33) rfl ?_); refine goesL_ (some 19) rfl rfl Try.func33 (by kernel_rfl) rfl #[.slice A0 l0.length c0] rfl za ?_; (with_reducible refine (laws_big.calls _ _ l0 true _ ?side1 ?side2 A2.out).mono ?_); (case side1 => repeat (first | exact HR0.out | (with_reducible refine Kd.C_alloc ?_ _) | (with_reducible refine Kd.C_drewN ?_ _) | (with_reducible refine Kd.C_drew ?_))); (case side2 => exact HC0.out); rintro e w' ⟨rfl, ⟨nd, rfl⟩⟩; refine ⟨_, rfl, ?_⟩))
  go_ret
  exact ⟨zr, zb⟩
 ·replace c3 := Bool.eq_false_iff.mpr c3
  subst c3
  have H1 : ((spec_DrawWeek.f k l0).bind fun bt339 => ((spec_DrawTerms.f k l0).bind fun bt346 => ((spec_DrawPlaces.f k l0).bind fun t355 => (if 0 < (t355.length : Int) then (if 1 < (t355.length : Int) then (if 2 < (t355.length : Int) then (if 3 < (t355.length : Int) then (if (wrap64 (bt346.2.2.2.2.2.2.2 + 1)) = 0 then (none) else (laws_FnFees.j0 k t355 (Int.tmod (rd t355 0) 300) (wrap64 ((Int.tmod (rd t355 0) 300) + (Int.tmod (rd t355 1) 300))) (wrap64 (1 + (Int.tmod (rd t355 2) 6))) (Int.tmod (rd t355 3) (wrap64 (bt346.2.2.2.2.2.2.2 + 1))) bt339.1 bt339.2 bt346.1 bt346.2.1 bt346.2.2.1 bt346.2.2.2.1 bt346.2.2.2.2.1 bt346.2.2.2.2.2.1 bt346.2.2.2.2.2.2.1 bt346.2.2.2.2.2.2.2)) else (none)) else (none)) else (none)) else (none))))) = some r := by rw [if_neg (show ¬ (false = true) by decide)] at H; exact H
  clear H
  have H := H1
  clear H1
  replace H := Option.bind_eq_some_iff.mp H
  obtain ⟨⟨t339, t342⟩, A40, H⟩ := H
  replace H : ((spec_DrawTerms.f k l0).bind fun bt346 => ((spec_DrawPlaces.f k l0).bind fun t355 => (if 0 < (t355.length : Int) then (if 1 < (t355.length : Int) then (if 2 < (t355.length : Int) then (if 3 < (t355.length : Int) then (if (wrap64 (bt346.2.2.2.2.2.2.2 + 1)) = 0 then (none) else (laws_FnFees.j0 k t355 (Int.tmod (rd t355 0) 300) (wrap64 ((Int.tmod (rd t355 0) 300) + (Int.tmod (rd t355 1) 300))) (wrap64 (1 + (Int.tmod (rd t355 2) 6))) (Int.tmod (rd t355 3) (wrap64 (bt346.2.2.2.2.2.2.2 + 1))) t339 t342 bt346.1 bt346.2.1 bt346.2.2.1 bt346.2.2.2.1 bt346.2.2.2.2.1 bt346.2.2.2.2.2.1 bt346.2.2.2.2.2.2.1 bt346.2.2.2.2.2.2.2)) else (none)) else (none)) else (none)) else (none)))) = some r := H
  have A4 := aM A40
  clear A40
  replace H := Option.bind_eq_some_iff.mp H
  obtain ⟨⟨t346, t347, t348, t349, t350, t351, t352, t353⟩, A50, H⟩ := H
  replace H : ((spec_DrawPlaces.f k l0).bind fun t355 => (if 0 < (t355.length : Int) then (if 1 < (t355.length : Int) then (if 2 < (t355.length : Int) then (if 3 < (t355.length : Int) then (if (wrap64 (t353 + 1)) = 0 then (none) else (laws_FnFees.j0 k t355 (Int.tmod (rd t355 0) 300) (wrap64 ((Int.tmod (rd t355 0) 300) + (Int.tmod (rd t355 1) 300))) (wrap64 (1 + (Int.tmod (rd t355 2) 6))) (Int.tmod (rd t355 3) (wrap64 (t353 + 1))) t339 t342 t346 t347 t348 t349 t350 t351 t352 t353)) else (none)) else (none)) else (none)) else (none))) = some r := H
  have A5 := aM A50
  clear A50
  replace H := Option.bind_eq_some_iff.mp H
  obtain ⟨t355, A60, H⟩ := H
  replace H : (if 0 < (t355.length : Int) then (if 1 < (t355.length : Int) then (if 2 < (t355.length : Int) then (if 3 < (t355.length : Int) then (if (wrap64 (t353 + 1)) = 0 then (none) else (laws_FnFees.j0 k t355 (Int.tmod (rd t355 0) 300) (wrap64 ((Int.tmod (rd t355 0) 300) + (Int.tmod (rd t355 1) 300))) (wrap64 (1 + (Int.tmod (rd t355 2) 6))) (Int.tmod (rd t355 3) (wrap64 (t353 + 1))) t339 t342 t346 t347 t348 t349 t350 t351 t352 t353)) else (none)) else (none)) else (none)) else (none)) = some r := H
  have A6 := aM A60
  clear A60
  by_cases c7 : 0 < (t355.length : Int)
  ·rw [if_pos c7] at H
   have c7b0 : decide (0 < (t355.length : Int)) = true := decide_eq_true c7
   have c7b1 : decide (0 < t355.length) = true := decide_eq_true (by omega)
   clear c7
   by_cases c8 : 1 < (t355.length : Int)
   ·rw [if_pos c8] at H
    have c8b0 : decide (1 < (t355.length : Int)) = true := decide_eq_true c8
    have c8b1 : decide (1 < t355.length) = true := decide_eq_true (by omega)
    clear c8
    by_cases c9 : 2 < (t355.length : Int)
    ·rw [if_pos c9] at H
     have c9b0 : decide (2 < (t355.length : Int)) = true := decide_eq_true c9
     have c9b1 : decide (2 < t355.length) = true := decide_eq_true (by omega)
     clear c9
     have HC10 := aM H
     clear H
     go_enter Try.func12, Try.ntmps12
     go_upto_region 9 with (first | ((with_reducible refine gate_callee (f := 33) rfl ?_); refine goesL_ (some 19) rfl rfl Try.func33 (by kernel_rfl) rfl #[.slice A0 l0.length c0] rfl za ?_; (with_reducible refine (laws_big.calls _ _ l0 false _ ?side1 ?side2 A2.out).mono ?_); (case side1 => repeat (first | exact HR0.out | (with_reducible refine Kd.C_alloc ?_ _) | (with_reducible refine Kd.C_drewN ?_ _) | (with_reducible refine Kd.C_drew ?_))); (case side2 => exact HC0.out); rintro e w' ⟨rfl, ⟨nd, rfl⟩⟩; refine ⟨_, rfl, ?_⟩) | ((with_reducible refine gate_callee (f := 34) rfl ?_); refine goesL_ (some 21) rfl rfl Try.func34 (by kernel_rfl) rfl #[.slice A0 l0.length c0] rfl za ?_; (with_reducible refine (spec_DrawWeek.calls k _ _ l0 t339 t342 _ ?side1 ?side2 A4.out).mono ?_); (case side1 => repeat (first | exact HR0.out | (with_reducible refine Kd.C_alloc ?_ _) | (with_reducible refine Kd.C_drewN ?_ _) | (with_reducible refine Kd.C_drew ?_))); (case side2 => exact HC0.out); rintro e w11 ⟨v340, v343, rfl, ho0, ho1, hb⟩; refine ⟨_, rfl, ?_⟩; have n0_ := aM (Kd.R_lower ho0 (below_size (zb))); have n1_ := aM (Kd.R_lower ho1 (below_size (zb))); have n2_ := aM (below_step (zb) hb); clear HB; have HO341 := n0_; have HO344 := n1_; have HB := n2_; clear n0_ n1_ n2_; (try clear hb); (try clear hb2); (try clear hk); (try clear hi); (try clear ho0); (try clear ho1)) | ((with_reducible refine gate_dst (N := 3) rfl ?_); refine box_event ?hg (N := 3) ?hd (cs := #[.slice none 0 0, .slice none 0 0]) (t := 36) ?hr ?_; (case hd => rfl); (case hg => rfl); (case hr => exact zg); intro gb345 hg w12 hbox hb; have n0_ := aM (Kd.R_below (by (with_reducible repeat (first | apply Kd.R_alloc | apply Kd.R_drewN | apply Kd.R_drew)); exact HO341.out) hb); have n1_ := aM (Kd.R_below (by (with_reducible repeat (first | apply Kd.R_alloc | apply Kd.R_drewN | apply Kd.R_drew)); exact HO344.out) hb); have n2_ := aM (below_step (zb) hb); have n3_ := aM (hbox); have n4_ := aM ((by rw [hg]; exact (below_size (zb)) : w.heap.size ≤ gb345)); have n5_ := aM ((by rw [hg]; exact (below_size (zb)) : w.heap.size ≤ gb345)); clear HO341; clear HO344; clear HB; have HO341 := n0_; have HO344 := n1_; have HB := n2_; have BK345 := n3_; have GW345 := n4_; have GE345 := n5_; clear n0_ n1_ n2_ n3_ n4_ n5_; clear hb hbox hg; obtain ⟨Ao13, co13, eo13⟩ := Kd.R_slice HO341.out; subst eo13; obtain ⟨hcz14_0, hcz14_1, hfz14_0, hfz14_1⟩ := cells2 BK345.out; obtain ⟨Ao15, co15, eo15⟩ := Kd.R_slice HO344.out; subst eo15) | ((with_reducible refine gate_callee (f := 35) rfl ?_); refine goesL_ (some 23) rfl rfl Try.func35 (by kernel_rfl) rfl #[.slice A0 l0.length c0] rfl za ?_; (with_reducible refine (spec_DrawTerms.calls k _ _ l0 t346 t347 t348 t349 t350 t351 t352 t353 _ ?side1 ?side2 A5.out).mono ?_); (case side1 => exact Kd.C_below HR0.out (zb)); (case side2 => exact HC0.out); rintro e w16 ⟨rfl, hb⟩; refine ⟨_, rfl, ?_⟩; have n0_ := aM (Kd.R_below (by (with_reducible repeat (first | apply Kd.R_alloc | apply Kd.R_drewN | apply Kd.R_drew)); exact (Kd.R_mono (Kd.R_far (p := ⟨gb345, 1, none⟩) (Kd.R_far (p := ⟨gb345, 0, none⟩) (Kd.R_types HO341.out BK345.out (by decide)) (fun _ hk => hk.2) (.slice Ao13 t339.length co13)) (fun _ hk => hk.2) (.slice Ao15 t342.length co15)) (fun _ h_ => h_.1))) hb); have n1_ := aM (Kd.R_below (by (with_reducible repeat (first | apply Kd.R_alloc | apply Kd.R_drewN | apply Kd.R_drew)); exact (Kd.R_mono (Kd.R_far (p := ⟨gb345, 1, none⟩) (Kd.R_far (p := ⟨gb345, 0, none⟩) (Kd.R_types HO344.out BK345.out (by decide)) (fun _ hk => hk.2) (.slice Ao13 t339.length co13)) (fun _ hk => hk.2) (.slice Ao15 t342.length co15)) (fun _ h_ => h_.1))) hb); have n2_ := aM (blk_below (g := gb345) (o := .cells #[.slice Ao13 t339.length co13, .slice Ao15 t342.length co15] 36 (0, 0)) (by refine pq ?_; refine blk_put (cs := #[.slice Ao13 t339.length co13, .slice none 0 0]) ?_ 1 _ rfl; refine pq ?_; refine blk_put (cs := #[.slice none 0 0, .slice none 0 0]) ?_ 0 _ rfl; refine pq ?_; exact BK345.out) hb); have n3_ := aM (below_step (zb) hb); clear HO341; clear HO344; clear BK345; clear HB; have HO341 := n0_; have HO344 := n1_; have BK345 := n2_; have HB := n3_; clear n0_ n1_ n2_ n3_; (try clear hb); (try clear hb2); (try clear hk); (try clear hi)) | ((with_reducible refine gate_dst (N := 4) rfl ?_); refine box_event ?hg (N := 4) ?hd (cs := #[.int .i64 0, .int .i64 0, .int .i64 0, .int .i64 0, .int .i64 0, .int .i64 0, .int .i64 0, .int .i64 0]) (t := 25) ?hr ?_; (case hd => rfl); (case hg => rfl); (case hr => exact zg); intro gb354 hg w17 hbox hb; have n0_ := aM (Kd.R_below (by (with_reducible repeat (first | apply Kd.R_alloc | apply Kd.R_drewN | apply Kd.R_drew)); exact HO341.out) hb); have n1_ := aM (Kd.R_below (by (with_reducible repeat (first | apply Kd.R_alloc | apply Kd.R_drewN | apply Kd.R_drew)); exact HO344.out) hb); have n2_ := aM (bb BK345.out hb); have n3_ := aM (below_step (zb) hb); have n4_ := aM (hbox); have n5_ := aM ((by rw [hg]; exact (below_size (zb)) : w.heap.size ≤ gb354)); have n6_ := aM ((by rw [hg]; exact (below_size (zb)) : w.heap.size ≤ gb354)); have n7_ := aM ((by rw [hg]; exact Nat.ne_of_lt (nl BK345.out) : gb345 ≠ gb354)); have n8_ := aM ((by rw [hg]; exact Nat.ne_of_gt (nl BK345.out) : gb354 ≠ gb345)); clear HO341; clear HO344; clear BK345; clear HB; have HO341 := n0_; have HO344 := n1_; have BK345 := n2_; have HB := n3_; have BK354 := n4_; have GW354 := n5_; have GE354 := n6_; have NB345_354 := n7_; have NB354_345 := n8_; clear n0_ n1_ n2_ n3_ n4_ n5_ n6_ n7_ n8_; clear hb hbox hg; have hnb18 := NB354_345.out; have hnc18 := NB345_354.out; obtain ⟨hcz19_0, hcz19_1, hcz19_2, hcz19_3, hcz19_4, hcz19_5, hcz19_6, hcz19_7, hfz19_0, hfz19_1, hfz19_2, hfz19_3, hfz19_4, hfz19_5, hfz19_6, hfz19_7⟩ := cells8 BK354.out) | ((with_reducible refine gate_callee (f := 36) rfl ?_); refine goesL_ (some 25) rfl rfl Try.func36 (by kernel_rfl) rfl #[.slice A0 l0.length c0] rfl za ?_; (with_reducible refine (spec_DrawPlaces.calls k _ _ l0 t355 _ ?side1 ?side2 A6.out).mono ?_); (case side1 => exact Kd.C_below HR0.out (zb)); (case side2 => exact HC0.out); rintro e w20 ⟨v356, rfl, ho0, hb⟩; refine ⟨_, rfl, ?_⟩; have n0_ := aM (Kd.R_below (by (with_reducible repeat (first | apply Kd.R_alloc | apply Kd.R_drewN | apply Kd.R_drew)); exact (Kd.R_mono (Kd.R_far (p := ⟨gb354, 7, none⟩) (Kd.R_far (p := ⟨gb354, 6, none⟩) (Kd.R_far (p := ⟨gb354, 5, none⟩) (Kd.R_far (p := ⟨gb354, 4, none⟩) (Kd.R_far (p := ⟨gb354, 3, none⟩) (Kd.R_far (p := ⟨gb354, 2, none⟩) (Kd.R_far (p := ⟨gb354, 1, none⟩) (Kd.R_far (p := ⟨gb354, 0, none⟩) (Kd.R_types HO341.out BK354.out (by decide)) (fun _ hk => hk.2) (.int .i64 t346)) (fun _ hk => hk.2) (.int .i64 t347)) (fun _ hk => hk.2) (.int .i64 t348)) (fun _ hk => hk.2) (.int .i64 t349)) (fun _ hk => hk.2) (.int .i64 t350)) (fun _ hk => hk.2) (.int .i64 t351)) (fun _ hk => hk.2) (.int .i64 t352)) (fun _ hk => hk.2) (.int .i64 t353)) (fun _ h_ => h_.1))) hb); have n1_ := aM (Kd.R_below (by (with_reducible repeat (first | apply Kd.R_alloc | apply Kd.R_drewN | apply Kd.R_drew)); exact (Kd.R_mono (Kd.R_far (p := ⟨gb354, 7, none⟩) (Kd.R_far (p := ⟨gb354, 6, none⟩) (Kd.R_far (p := ⟨gb354, 5, none⟩) (Kd.R_far (p := ⟨gb354, 4, none⟩) (Kd.R_far (p := ⟨gb354, 3, none⟩) (Kd.R_far (p := ⟨gb354, 2, none⟩) (Kd.R_far (p := ⟨gb354, 1, none⟩) (Kd.R_far (p := ⟨gb354, 0, none⟩) (Kd.R_types HO344.out BK354.out (by decide)) (fun _ hk => hk.2) (.int .i64 t346)) (fun _ hk => hk.2) (.int .i64 t347)) (fun _ hk => hk.2) (.int .i64 t348)) (fun _ hk => hk.2) (.int .i64 t349)) (fun _ hk => hk.2) (.int .i64 t350)) (fun _ hk => hk.2) (.int .i64 t351)) (fun _ hk => hk.2) (.int .i64 t352)) (fun _ hk => hk.2) (.int .i64 t353)) (fun _ h_ => h_.1))) hb); have n2_ := aM (Kd.R_lower ho0 (below_size (zb))); have n3_ := aM (blk_below (g := gb345) (o := .cells #[.slice Ao13 t339.length co13, .slice Ao15 t342.length co15] 36 (0, 0)) (by refine pq ?_; refine blk_far ?_ NB345_354.out _; refine pq ?_; refine blk_far ?_ NB345_354.out _; refine pq ?_; refine blk_far ?_ NB345_354.out _; refine pq ?_; refine blk_far ?_ NB345_354.out _; refine pq ?_; refine blk_far ?_ NB345_354.out _; refine pq ?_; refine blk_far ?_ NB345_354.out _; refine pq ?_; refine blk_far ?_ NB345_354.out _; refine pq ?_; refine blk_far ?_ NB345_354.out _; refine pq ?_; exact BK345.out) hb); have n4_ := aM (blk_below (g := gb354) (o := .cells #[.int .i64 t346, .int .i64 t347, .int .i64 t348, .int .i64 t349, .int .i64 t350, .int .i64 t351, .int .i64 t352, .int .i64 t353] 25 (0, 0)) (by refine pq ?_; refine blk_put (cs := #[.int .i64 t346, .int .i64 t347, .int .i64 t348, .int .i64 t349, .int .i64 t350, .int .i64 t351, .int .i64 t352, .int .i64 0]) ?_ 7 _ rfl; refine pq ?_; refine blk_put (cs := #[.int .i64 t346, .int .i64 t347, .int .i64 t348, .int .i64 t349, .int .i64 t350, .int .i64 t351, .int .i64 0, .int .i64 0]) ?_ 6 _ rfl; refine pq ?_; refine blk_put (cs := #[.int .i64 t346, .int .i64 t347, .int .i64 t348, .int .i64 t349, .int .i64 t350, .int .i64 0, .int .i64 0, .int .i64 0]) ?_ 5 _ rfl; refine pq ?_; refine blk_put (cs := #[.int .i64 t346, .int .i64 t347, .int .i64 t348, .int .i64 t349, .int .i64 0, .int .i64 0, .int .i64 0, .int .i64 0]) ?_ 4 _ rfl; refine pq ?_; refine blk_put (cs := #[.int .i64 t346, .int .i64 t347, .int .i64 t348, .int .i64 0, .int .i64 0, .int .i64 0, .int .i64 0, .int .i64 0]) ?_ 3 _ rfl; refine pq ?_; refine blk_put (cs := #[.int .i64 t346, .int .i64 t347, .int .i64 0, .int .i64 0, .int .i64 0, .int .i64 0, .int .i64 0, .int .i64 0]) ?_ 2 _ rfl; refine pq ?_; refine blk_put (cs := #[.int .i64 t346, .int .i64 0, .int .i64 0, .int .i64 0, .int .i64 0, .int .i64 0, .int .i64 0, .int .i64 0]) ?_ 1 _ rfl; refine pq ?_; refine blk_put (cs := #[.int .i64 0, .int .i64 0, .int .i64 0, .int .i64 0, .int .i64 0, .int .i64 0, .int .i64 0, .int .i64 0]) ?_ 0 _ rfl; refine pq ?_; exact BK354.out) hb); have n5_ := aM (below_step (zb) hb); clear HO341; clear HO344; clear BK345; clear BK354; clear HB; have HO341 := n0_; have HO344 := n1_; have HO357 := n2_; have BK345 := n3_; have BK354 := n4_; have HB := n5_; clear n0_ n1_ n2_ n3_ n4_ n5_; (try clear hb); (try clear hb2); (try clear hk); (try clear hi); (try clear ho0); obtain ⟨Ao21, co21, eo21⟩ := Kd.R_slice HO357.out; subst eo21; have p358 : 0 ≤ (0 : Int) := (by omega); have q358 : 0 < (t355.length : Int) := of_decide_eq_true (by first | (with_reducible assumption) | assumption); obtain ⟨ad358, e358, hx358_0⟩ := Kd.at_int (Kd.R_reads' HO357.out).2.2 0 p358 q358; cases e358; have qi358 : (0 < t355.length) = True := eq_true (by omega); (try rw [show ((0 : Int)).toNat = 0 from rfl] at hx358_0); (try rw [Addr.add_zero'] at hx358_0); replace p358 := eq_true p358; replace q358 := eq_true q358; have p359 : 0 ≤ (1 : Int) := (by omega); have q359 : 1 < (t355.length : Int) := of_decide_eq_true (by first | (with_reducible assumption) | assumption); obtain ⟨ad359, e359, hx359_0⟩ := Kd.at_int (Kd.R_reads' HO357.out).2.2 1 p359 q359; obtain rfl : ad358 = ad359 := (by injection e359); (try simp only [show (1 : Int).toNat = 1 from rfl, Nat.reduceMul, Nat.reduceEqDiff, Go.Addr.add, ↓reduceIte] at hx359_0); have qi359 : (1 < t355.length) = True := eq_true (by omega); (try rw [show ((1 : Int)).toNat = 1 from rfl] at hx359_0); replace p359 := eq_true p359; replace q359 := eq_true q359; have p360 : 0 ≤ (2 : Int) := (by omega); have q360 : 2 < (t355.length : Int) := of_decide_eq_true (by first | (with_reducible assumption) | assumption); obtain ⟨ad360, e360, hx360_0⟩ := Kd.at_int (Kd.R_reads' HO357.out).2.2 2 p360 q360; obtain rfl : ad358 = ad360 := (by injection e360); (try simp only [show (2 : Int).toNat = 2 from rfl, Nat.reduceMul, Nat.reduceEqDiff, Go.Addr.add, ↓reduceIte] at hx360_0); have qi360 : (2 < t355.length) = True := eq_true (by omega); (try rw [show ((2 : Int)).toNat = 2 from rfl] at hx360_0); replace p360 := eq_true p360; replace q360 := eq_true q360))
     (try simp only [Act.put, List.setIfInBounds_toArray, List.set_cons_zero, List.set_cons_succ])
     go_cut [9] (fun v9 wc => ∃ (kq : Nat) (x9_9 : Int), v9 = .int .i64 x9_9 ∧ Aside0 (laws_FnFees.j0 kq t355 (Int.tmod (rd t355 0) 300) (wrap64 ((Int.tmod (rd t355 0) 300) + (Int.tmod (rd t355 1) 300))) (wrap64 (1 + (Int.tmod (rd t355 2) 6))) x9_9 t339 t342 t346 t347 t348 t349 t350 t351 t352 t353 = some r) ∧ Aside0 (kq ≤ k) ∧ Aside0 (Kd.R (Kd.int .i64) 3 wc w.heap.size (fun _ => True) (.slice (some ad358) t355.length co21) t355) ∧ Aside0 (Kd.R k71 71 wc w.heap.size (fun k_ => some k_ ≠ ((.slice Ao15 t342.length co15) : Value).ownBlock) (.slice Ao13 t339.length co13) t339) ∧ Aside0 (Kd.R k71 71 wc w.heap.size (fun k_ => some k_ ≠ ((.slice Ao13 t339.length co13) : Value).ownBlock) (.slice Ao15 t342.length co15) t342) ∧ Aside0 (wc.heap[gb345]? = some (.cells #[(.slice Ao13 t339.length co13), (.slice Ao15 t342.length co15)] 36 (0, 0))) ∧ Aside0 (wc.heap[gb354]? = some (.cells #[.int .i64 t346, .int .i64 t347, .int .i64 t348, .int .i64 t349, .int .i64 t350, .int .i64 t351, .int .i64 t352, .int .i64 t353] 25 (0, 0))) ∧ Aside0 (Below w.heap.size w wc))
     case first =>
      have H := HC10.out
      clear HC10
      by_cases c22 : 3 < (t355.length : Int)
      ·rw [if_pos c22] at H
       have c22b0 : decide (3 < (t355.length : Int)) = true := decide_eq_true c22
       have c22b1 : decide (3 < t355.length) = true := decide_eq_true (by omega)
       clear c22
       (first | rw [c22b0] | (simp only [i64_w, i32_w]; rw [c22b0]) | skip)
       by_cases c23 : (wrap64 (t353 + 1)) = 0
       ·rw [if_pos c23] at H
        exact absurd H (by simp)
       ·rw [if_neg c23] at H
        have c23b0 : ((wrap64 (t353 + 1)) == 0) = false := beq_eq_false_iff_ne.mpr c23
        have c23b1 : ((wrap64 (t353 + 1)) != 0) = true := bne_iff_ne.mpr c23
        have H' := aM H
        clear H
        try go_wp2
        have n0_ := aM (Kd.R_drew HO341.out)
        have n1_ := aM (Kd.R_drew HO344.out)
        have n2_ := aM (Kd.R_drew HO357.out)
        have n3_ := aM (blk_drew BK345.out)
        have n4_ := aM (blk_drew BK354.out)
        have n5_ := aM (below_drew1 HB.out)
        clear HO341
        clear HO344
        clear HO357
        clear BK345
        clear BK354
        clear HB
        have HO341 := n0_
        have HO344 := n1_
        have HO357 := n2_
        have BK345 := n3_
        have BK354 := n4_
        have HB := n5_
        clear n0_ n1_ n2_ n3_ n4_ n5_
        have p361 : 0 ≤ (3 : Int) := (by omega)
        have q361 : 3 < (t355.length : Int) := of_decide_eq_true (by first | (with_reducible assumption) | assumption)
        obtain ⟨ad361, e361, hx361_0⟩ := Kd.at_int (Kd.R_reads' HO357.out).2.2 3 p361 q361
        obtain rfl : ad358 = ad361 := (by injection e361)
        (try simp only [show (3 : Int).toNat = 3 from rfl, Nat.reduceMul, Nat.reduceEqDiff, Go.Addr.add, ↓reduceIte] at hx361_0)
        have qi361 : (3 < t355.length) = True := eq_true (by omega)
        (try rw [show ((3 : Int)).toNat = 3 from rfl] at hx361_0)
        replace p361 := eq_true p361
        replace q361 := eq_true q361
        refine start_ (n := 8) (S := fun w' => w'.cell? ⟨gb354, 0, none⟩ = some (.int .i64 t346) ∧ w'.cell? ⟨gb354, 1, none⟩ = some (.int .i64 t347) ∧ w'.cell? ⟨gb354, 2, none⟩ = some (.int .i64 t348) ∧ w'.cell? ⟨gb354, 3, none⟩ = some (.int .i64 t349) ∧ w'.cell? ⟨gb354, 4, none⟩ = some (.int .i64 t350) ∧ w'.cell? ⟨gb354, 5, none⟩ = some (.int .i64 t351) ∧ w'.cell? ⟨gb354, 6, none⟩ = some (.int .i64 t352) ∧ w'.cell? ⟨gb354, 7, none⟩ = some (.int .i64 t353) ∧ w'.cell? ⟨ad358.block, ad358.off + 3, none⟩ = some (.int .i64 (rd t355 3))) (ds := []) #[false, false, false, false, false, false, false, false] (by kernel_rfl) rfl rfl ⟨(blk_cell BK354.out 0).trans rfl, (blk_cell BK354.out 1).trans rfl, (blk_cell BK354.out 2).trans rfl, (blk_cell BK354.out 3).trans rfl, (blk_cell BK354.out 4).trans rfl, (blk_cell BK354.out 5).trans rfl, (blk_cell BK354.out 6).trans rfl, (blk_cell BK354.out 7).trans rfl, hx361_0⟩ (fun hHeld => ?_); refine with_tabW laws_FnFees.tab9 laws_FnFees.bits9 (fun HT_ HW_ => ?_)
        generalize w20.drew = w24 at HO341 HO344 HO357 BK345 BK354 HB hx361_0 hHeld ⊢
        refine pure_ (i := 0) (N := some 41) (v := ?_) (a' := ?_) #[true, false, false, false, false, false, false, false] rfl rfl (any_of HT_.out (by kernel_rfl)) (fun _ _ _ h => h) (Or.inl ⟨by rfl, ?_⟩) ?_ ?_
        rotate_left
        ·intro w'
         go_simp
         with_reducible rfl
        rotate_left
        ·simp only [Act.put, List.setIfInBounds_toArray, List.set_cons_zero, List.set_cons_succ, i64_w, i32_w]
         rfl
        refine pure_ (i := 1) (N := some 42) (v := ?_) (a' := ?_) #[true, true, false, false, false, false, false, false] rfl rfl (any_of HT_.out (by kernel_rfl)) (fun _ _ _ h => h) (Or.inl ⟨by rfl, ?_⟩) ?_ ?_
        rotate_left
        ·intro w'
         go_simp
         with_reducible rfl
        rotate_left
        ·simp only [Act.put, List.setIfInBounds_toArray, List.set_cons_zero, List.set_cons_succ, i64_w, i32_w]
         rfl
        refine pure_ (i := 3) (N := some 44) (v := ?_) (a' := ?_) #[true, true, false, true, false, false, false, false] rfl rfl (any_of HT_.out (by kernel_rfl)) (fun _ _ _ h => h) (Or.inl ⟨by rfl, ?_⟩) ?_ ?_
        rotate_left
        ·intro w'
         go_simp
         with_reducible rfl
        rotate_left
        ·simp only [Act.put, List.setIfInBounds_toArray, List.set_cons_zero, List.set_cons_succ, i64_w, i32_w]
         rfl
        refine take_ (i := 2) (N := some 43) (v := ?_) (a' := ?_) #[true, true, true, true, false, false, false, false] rfl rfl (take_ofW HT_.out HW_.out (by kernel_rfl)) (fun _ _ _ h => h) (Or.inl ⟨by rfl, ?_⟩) hHeld ?_ ?_
        rotate_left
        ·rintro w' ⟨s0, s1, s2, s3, s4, s5, s6, s7, s8⟩
         go_simp
         with_reducible rfl
        rotate_left
        ·simp only [Act.put, List.setIfInBounds_toArray, List.set_cons_zero, List.set_cons_succ, i64_w, i32_w]
         rfl
        refine take_ (i := 4) (N := some 45) (v := ?_) (a' := ?_) #[true, true, true, true, true, false, false, false] rfl rfl (take_ofW HT_.out HW_.out (by kernel_rfl)) (fun _ _ _ h => h) (Or.inl ⟨by rfl, ?_⟩) hHeld ?_ ?_
        rotate_left
        ·rintro w' ⟨s0, s1, s2, s3, s4, s5, s6, s7, s8⟩
         go_simp
         with_reducible rfl
        rotate_left
        ·simp only [Act.put, List.setIfInBounds_toArray, List.set_cons_zero, List.set_cons_succ, i64_w, i32_w]
         rfl
        refine pure_ (i := 5) (N := some 46) (v := ?_) (a' := ?_) #[true, true, true, true, true, true, false, false] rfl rfl (any_of HT_.out (by kernel_rfl)) (fun _ _ _ h => h) (Or.inl ⟨by rfl, ?_⟩) ?_ ?_
        rotate_left
        ·intro w'
         go_simp
         with_reducible rfl
        rotate_left
        ·simp only [Act.put, List.setIfInBounds_toArray, List.set_cons_zero, List.set_cons_succ, i64_w, i32_w]
         rfl
        refine pure_ (i := 6) (N := some 47) (v := ?_) (a' := ?_) #[true, true, true, true, true, true, true, false] rfl rfl (any_of HT_.out (by kernel_rfl)) (fun _ _ _ h => h) (Or.inl ⟨by rfl, ?_⟩) ?_ ?_
        rotate_left
        ·intro w'
         go_simp
         with_reducible rfl
        rotate_left
        ·simp only [Act.put, List.setIfInBounds_toArray, List.set_cons_zero, List.set_cons_succ, i64_w, i32_w]
         rfl
        refine pure_ (i := 7) (N := some 9) (v := ?_) (a' := ?_) #[true, true, true, true, true, true, true, true] rfl rfl (any_of HT_.out (by kernel_rfl)) (fun _ _ _ h => h) (Or.inl ⟨by rfl, ?_⟩) ?_ ?_
        rotate_left
        ·intro w'
         go_simp
         with_reducible rfl
        rotate_left
        ·simp only [Act.put, List.setIfInBounds_toArray, List.set_cons_zero, List.set_cons_succ, i64_w, i32_w]
         rfl
        refine done_ (done_of HT_.out (by kernel_rfl)) ?_
        try go_wp2
        go_meet
        case rel => exact ⟨_, (Int.tmod (rd t355 3) (wrap64 (t353 + 1))), zs, H', ⟨by first | omega | exact Nat.le_refl _⟩, ⟨by (with_reducible repeat (first | apply Kd.R_alloc | apply Kd.R_drewN | apply Kd.R_drew)); exact HO357.out⟩, ⟨by (with_reducible repeat (first | apply Kd.R_alloc | apply Kd.R_drewN | apply Kd.R_drew)); exact HO341.out⟩, ⟨by (with_reducible repeat (first | apply Kd.R_alloc | apply Kd.R_drewN | apply Kd.R_drew)); exact HO344.out⟩, ⟨by exact pk BK345.out⟩, ⟨by exact pk BK354.out⟩, ⟨zb⟩⟩
      ·rw [if_neg c22] at H
       exact absurd H (by simp)
     case rest =>
      clear HC10
      try clear c1
      try clear c2
      try clear p2
      try clear c3
      try clear p3
      try clear q3
      try clear hx3
      try clear qi3
      try clear p6
      try clear c7
      try clear c7b0
      try clear c7b1
      try clear c8
      try clear c8b0
      try clear c8b1
      try clear c9
      try clear c9b0
      try clear c9b1
      try clear c12
      try clear c18
      try clear c22
      try clear c22b0
      try clear c22b1
      try clear c23
      try clear c23b0
      try clear c23b1
      try clear hcz14_0 hcz14_1 hfz14_0 hfz14_1
      try clear hcz19_0 hcz19_1 hcz19_2 hcz19_3 hcz19_4 hcz19_5 hcz19_6 hcz19_7 hfz19_0 hfz19_1 hfz19_2 hfz19_3 hfz19_4 hfz19_5 hfz19_6 hfz19_7
      try clear hx358_0
      try clear hx359_0
      try clear hx360_0
      try clear hx361_0
      try clear p358
      try clear p359
      try clear p360
      try clear p361
      try clear q358
      try clear q359
      try clear q360
      try clear q361
      obtain ⟨kq, x9_9, rfl, HA, HJ9, HO_5, HO_346000, HO_346001, BK345, BK354, HB⟩ := hcut
      as_aux_lemma =>
       cases kq with
       | zero => exact absurd HA.out (by simp [laws_FnFees.j0])
       | succ kj9 =>
        have H := HA.out
        clear HA
        simp only [laws_FnFees.j0] at H
        replace H := Option.bind_eq_some_iff.mp H
        obtain ⟨t362, A250, H⟩ := H
        replace H : (if 4 < (t355.length : Int) then ((impl_FeeOf.f kj9 t339 t342 t346 t347 t348 t349 t350 t351 t352 t353 (wrap64 (1 + (Int.tmod (rd t355 2) 6))) (Int.tmod (rd t355 0) 300) (wrap64 ((wrap64 ((Int.tmod (rd t355 0) 300) + (Int.tmod (rd t355 1) 300))) + (Int.tmod (rd t355 4) 100))) x9_9).bind fun t364 => ((impl_FreeUntil.f kj9 t339 t342 t346 t347 t348 t349 t350 t351 t352 t353 (Int.tmod (rd t355 0) 300)).bind fun bt365 => (laws_FnFees.j1 kj9 (Int.tmod (rd t355 0) 300) (wrap64 ((Int.tmod (rd t355 0) 300) + (Int.tmod (rd t355 1) 300))) (wrap64 (1 + (Int.tmod (rd t355 2) 6))) x9_9 t362 t364 bt365.1 bt365.2 t339 t342 t346 t347 t348 t349 t350 t351 t352 t353))) else (none)) = some r := H
        have A25 := aM A250
        clear A250
        by_cases c26 : 4 < (t355.length : Int)
        ·rw [if_pos c26] at H
         have c26b0 : decide (4 < (t355.length : Int)) = true := decide_eq_true c26
         have c26b1 : decide (4 < t355.length) = true := decide_eq_true (by omega)
         clear c26
         replace H := Option.bind_eq_some_iff.mp H
         obtain ⟨t364, A270, H⟩ := H
         replace H : ((impl_FreeUntil.f kj9 t339 t342 t346 t347 t348 t349 t350 t351 t352 t353 (Int.tmod (rd t355 0) 300)).bind fun bt365 => (laws_FnFees.j1 kj9 (Int.tmod (rd t355 0) 300) (wrap64 ((Int.tmod (rd t355 0) 300) + (Int.tmod (rd t355 1) 300))) (wrap64 (1 + (Int.tmod (rd t355 2) 6))) x9_9 t362 t364 bt365.1 bt365.2 t339 t342 t346 t347 t348 t349 t350 t351 t352 t353)) = some r := H
         have A27 := aM A270
         clear A270
         have HC28 := aM H
         clear H
         have hnb29 := NB345_354.out
         have hnc29 := NB354_345.out
         obtain ⟨hcz30_0, hcz30_1, hfz30_0, hfz30_1⟩ := cells2 BK345.out
         obtain ⟨hcz31_0, hcz31_1, hcz31_2, hcz31_3, hcz31_4, hcz31_5, hcz31_6, hcz31_7, hfz31_0, hfz31_1, hfz31_2, hfz31_3, hfz31_4, hfz31_5, hfz31_6, hfz31_7⟩ := cells8 BK354.out
         try go_wp2_with (first | ((with_reducible refine gate_callee (f := 24) rfl ?_); refine goesL_ (some 54) rfl rfl Try.func24 (by kernel_rfl) rfl #[.agg #[.slice Ao13 t339.length co13, .slice Ao15 t342.length co15], .agg #[.int .i64 t346, .int .i64 t347, .int .i64 t348, .int .i64 t349, .int .i64 t350, .int .i64 t351, .int .i64 t352, .int .i64 t353], .int .i64 (wrap64 (1 + (Int.tmod (rd t355 2) 6))), .int .i64 (Int.tmod (rd t355 0) 300), .int .i64 (wrap64 ((Int.tmod (rd t355 0) 300) + (Int.tmod (rd t355 1) 300))), .int .i64 x9_9] rfl za ?_; (with_reducible refine (impl_FeeOf.calls kj9 _ _ t339 _ _ t342 t346 t347 t348 t349 t350 t351 t352 t353 (wrap64 (1 + (Int.tmod (rd t355 2) 6))) (Int.tmod (rd t355 0) 300) (wrap64 ((Int.tmod (rd t355 0) 300) + (Int.tmod (rd t355 1) 300))) x9_9 t362 _ ?side1 ?side2 ?side3 ?side4 A25.out).mono ?_); (case side1 => repeat (first | exact (Kd.R_reads' HO_346000.out).2.2 | (with_reducible refine Kd.C_alloc ?_ _) | (with_reducible refine Kd.C_drewN ?_ _) | (with_reducible refine Kd.C_drew ?_))); (case side2 => exact (Kd.R_reads' HO_346000.out).2.1); (case side3 => repeat (first | exact (Kd.R_reads' HO_346001.out).2.2 | (with_reducible refine Kd.C_alloc ?_ _) | (with_reducible refine Kd.C_drewN ?_ _) | (with_reducible refine Kd.C_drew ?_))); (case side4 => exact (Kd.R_reads' HO_346001.out).2.1); rintro e w32 ⟨rfl, hb⟩; refine ⟨_, rfl, ?_⟩; have n0_ := aM (Kd.R_below (by (with_reducible repeat (first | apply Kd.R_alloc | apply Kd.R_drewN | apply Kd.R_drew)); exact HO_5.out) hb); have n1_ := aM (Kd.R_below (by (with_reducible repeat (first | apply Kd.R_alloc | apply Kd.R_drewN | apply Kd.R_drew)); exact HO_346000.out) hb); have n2_ := aM (Kd.R_below (by (with_reducible repeat (first | apply Kd.R_alloc | apply Kd.R_drewN | apply Kd.R_drew)); exact HO_346001.out) hb); have n3_ := aM (bb BK345.out hb); have n4_ := aM (bb BK354.out hb); have n5_ := aM (below_step (zb) hb); clear HO_5; clear HO_346000; clear HO_346001; clear BK345; clear BK354; clear HB; have HO_5 := n0_; have HO_346000 := n1_; have HO_346001 := n2_; have BK345 := n3_; have BK354 := n4_; have HB := n5_; clear n0_ n1_ n2_ n3_ n4_ n5_; (try clear hb); (try clear hb2); (try clear hk); (try clear hi)))
         have n0_ := aM (Kd.R_drew HO_5.out)
         have n1_ := aM (Kd.R_drew HO_346000.out)
         have n2_ := aM (Kd.R_drew HO_346001.out)
         have n3_ := aM (blk_drew BK345.out)
         have n4_ := aM (blk_drew BK354.out)
         have n5_ := aM (below_drew1 HB.out)
         clear HO_5
         clear HO_346000
         clear HO_346001
         clear BK345
         clear BK354
         clear HB
         have HO_5 := n0_
         have HO_346000 := n1_
         have HO_346001 := n2_
         have BK345 := n3_
         have BK354 := n4_
         have HB := n5_
         clear n0_ n1_ n2_ n3_ n4_ n5_
         have p363 : 0 ≤ (4 : Int) := (by omega)
         have q363 : 4 < (t355.length : Int) := of_decide_eq_true (by first | (with_reducible assumption) | assumption)
         obtain ⟨ad363, e363, hx363_0⟩ := Kd.at_int (Kd.R_reads' HO_5.out).2.2 4 p363 q363
         obtain rfl : ad358 = ad363 := (by injection e363)
         (try simp only [show (4 : Int).toNat = 4 from rfl, Nat.reduceMul, Nat.reduceEqDiff, Go.Addr.add, ↓reduceIte] at hx363_0)
         have qi363 : (4 < t355.length) = True := eq_true (by omega)
         (try rw [show ((4 : Int)).toNat = 4 from rfl] at hx363_0)
         replace p363 := eq_true p363
         replace q363 := eq_true q363
         refine start_ (n := 13) (S := fun w' => w'.cell? ⟨gb345, 0, none⟩ = some (.slice Ao13 t339.length co13) ∧ w'.cell? ⟨gb345, 1, none⟩ = some (.slice Ao15 t342.length co15) ∧ w'.cell? ⟨gb354, 0, none⟩ = some (.int .i64 t346) ∧ w'.cell? ⟨gb354, 1, none⟩ = some (.int .i64 t347) ∧ w'.cell? ⟨gb354, 2, none⟩ = some (.int .i64 t348) ∧ w'.cell? ⟨gb354, 3, none⟩ = some (.int .i64 t349) ∧ w'.cell? ⟨gb354, 4, none⟩ = some (.int .i64 t350) ∧ w'.cell? ⟨gb354, 5, none⟩ = some (.int .i64 t351) ∧ w'.cell? ⟨gb354, 6, none⟩ = some (.int .i64 t352) ∧ w'.cell? ⟨gb354, 7, none⟩ = some (.int .i64 t353) ∧ w'.cell? ⟨ad358.block, ad358.off + 4, none⟩ = some (.int .i64 (rd t355 4))) (ds := []) #[false, false, false, false, false, false, false, false, false, false, false, false, false] (by kernel_rfl) rfl rfl ⟨(blk_cell BK345.out 0).trans rfl, (blk_cell BK345.out 1).trans rfl, (blk_cell BK354.out 0).trans rfl, (blk_cell BK354.out 1).trans rfl, (blk_cell BK354.out 2).trans rfl, (blk_cell BK354.out 3).trans rfl, (blk_cell BK354.out 4).trans rfl, (blk_cell BK354.out 5).trans rfl, (blk_cell BK354.out 6).trans rfl, (blk_cell BK354.out 7).trans rfl, hx363_0⟩ (fun hHeld => ?_); refine with_tabW laws_FnFees.tab11 laws_FnFees.bits11 (fun HT_ HW_ => ?_)
         generalize w32.drew = w33 at HO_5 HO_346000 HO_346001 BK345 BK354 HB hx363_0 hHeld ⊢
         refine pure_ (i := 2) (N := some 57) (v := ?_) (a' := ?_) #[false, false, true, false, false, false, false, false, false, false, false, false, false] rfl rfl (any_of HT_.out (by kernel_rfl)) (fun _ _ _ h => h) (Or.inl ⟨by rfl, ?_⟩) ?_ ?_
         rotate_left
         ·intro w'
          go_simp
          with_reducible rfl
         rotate_left
         ·simp only [Act.put, List.setIfInBounds_toArray, List.set_cons_zero, List.set_cons_succ, i64_w, i32_w]
          rfl
         refine pure_ (i := 3) (N := some 58) (v := ?_) (a' := ?_) #[false, false, true, true, false, false, false, false, false, false, false, false, false] rfl rfl (any_of HT_.out (by kernel_rfl)) (fun _ _ _ h => h) (Or.inl ⟨by rfl, ?_⟩) ?_ ?_
         rotate_left
         ·intro w'
          go_simp
          with_reducible rfl
         rotate_left
         ·simp only [Act.put, List.setIfInBounds_toArray, List.set_cons_zero, List.set_cons_succ, i64_w, i32_w]
          rfl
         refine pure_ (i := 4) (N := some 59) (v := ?_) (a' := ?_) #[false, false, true, true, true, false, false, false, false, false, false, false, false] rfl rfl (any_of HT_.out (by kernel_rfl)) (fun _ _ _ h => h) (Or.inl ⟨by rfl, ?_⟩) ?_ ?_
         rotate_left
         ·intro w'
          go_simp
          with_reducible rfl
         rotate_left
         ·simp only [Act.put, List.setIfInBounds_toArray, List.set_cons_zero, List.set_cons_succ, i64_w, i32_w]
          rfl
         refine pure_ (i := 5) (N := some 60) (v := ?_) (a' := ?_) #[false, false, true, true, true, true, false, false, false, false, false, false, false] rfl rfl (any_of HT_.out (by kernel_rfl)) (fun _ _ _ h => h) (Or.inl ⟨by rfl, ?_⟩) ?_ ?_
         rotate_left
         ·intro w'
          go_simp
          with_reducible rfl
         rotate_left
         ·simp only [Act.put, List.setIfInBounds_toArray, List.set_cons_zero, List.set_cons_succ, i64_w, i32_w]
          rfl
         refine pure_ (i := 6) (N := some 61) (v := ?_) (a' := ?_) #[false, false, true, true, true, true, true, false, false, false, false, false, false] rfl rfl (any_of HT_.out (by kernel_rfl)) (fun _ _ _ h => h) (Or.inl ⟨by rfl, ?_⟩) ?_ ?_
         rotate_left
         ·intro w'
          go_simp
          with_reducible rfl
         rotate_left
         ·simp only [Act.put, List.setIfInBounds_toArray, List.set_cons_zero, List.set_cons_succ, i64_w, i32_w]
          rfl
         refine pure_ (i := 10) (N := some 65) (v := ?_) (a' := ?_) #[false, false, true, true, true, true, true, false, false, false, true, false, false] rfl rfl (any_of HT_.out (by kernel_rfl)) (fun _ _ _ h => h) (Or.inl ⟨by rfl, ?_⟩) ?_ ?_
         rotate_left
         ·intro w'
          go_simp
          with_reducible rfl
         rotate_left
         ·simp only [Act.put, List.setIfInBounds_toArray, List.set_cons_zero, List.set_cons_succ, i64_w, i32_w]
          rfl
         refine take_ (i := 0) (N := some 55) (v := ?_) (a' := ?_) #[true, false, true, true, true, true, true, false, false, false, true, false, false] rfl rfl (take_ofW HT_.out HW_.out (by kernel_rfl)) (fun _ _ _ h => h) (Or.inl ⟨by rfl, ?_⟩) hHeld ?_ ?_
         rotate_left
         ·rintro w' ⟨s0, s1, s2, s3, s4, s5, s6, s7, s8, s9, s10⟩
          go_simp
          with_reducible rfl
         rotate_left
         ·simp only [Act.put, List.setIfInBounds_toArray, List.set_cons_zero, List.set_cons_succ, i64_w, i32_w]
          rfl
         refine take_ (i := 1) (N := some 56) (v := ?_) (a' := ?_) #[true, true, true, true, true, true, true, false, false, false, true, false, false] rfl rfl (take_ofW HT_.out HW_.out (by kernel_rfl)) (fun _ _ _ h => h) (Or.inl ⟨by rfl, ?_⟩) hHeld ?_ ?_
         rotate_left
         ·rintro w' ⟨s0, s1, s2, s3, s4, s5, s6, s7, s8, s9, s10⟩
          go_simp
          with_reducible rfl
         rotate_left
         ·simp only [Act.put, List.setIfInBounds_toArray, List.set_cons_zero, List.set_cons_succ, i64_w, i32_w]
          rfl
         refine take_ (i := 7) (N := some 62) (v := ?_) (a' := ?_) #[true, true, true, true, true, true, true, true, false, false, true, false, false] rfl rfl (take_ofW HT_.out HW_.out (by kernel_rfl)) (fun _ _ _ h => h) (Or.inl ⟨by rfl, ?_⟩) hHeld ?_ ?_
         rotate_left
         ·rintro w' ⟨s0, s1, s2, s3, s4, s5, s6, s7, s8, s9, s10⟩
          go_simp
          with_reducible rfl
         rotate_left
         ·simp only [Act.put, List.setIfInBounds_toArray, List.set_cons_zero, List.set_cons_succ, i64_w, i32_w]
          rfl
         refine pure_ (i := 8) (N := some 63) (v := ?_) (a' := ?_) #[true, true, true, true, true, true, true, true, true, false, true, false, false] rfl rfl (any_of HT_.out (by kernel_rfl)) (fun _ _ _ h => h) (Or.inl ⟨by rfl, ?_⟩) ?_ ?_
         rotate_left
         ·intro w'
          go_simp
          with_reducible rfl
         rotate_left
         ·simp only [Act.put, List.setIfInBounds_toArray, List.set_cons_zero, List.set_cons_succ, i64_w, i32_w]
          rfl
         refine pure_ (i := 9) (N := some 64) (v := ?_) (a' := ?_) #[true, true, true, true, true, true, true, true, true, true, true, false, false] rfl rfl (any_of HT_.out (by kernel_rfl)) (fun _ _ _ h => h) (Or.inl ⟨by rfl, ?_⟩) ?_ ?_
         rotate_left
         ·intro w'
          go_simp
          with_reducible rfl
         rotate_left
         ·simp only [Act.put, List.setIfInBounds_toArray, List.set_cons_zero, List.set_cons_succ, i64_w, i32_w]
          rfl
         refine one_ (i := 11) (N := some 66) #[true, true, true, true, true, true, true, true, true, true, true, true, false] rfl rfl (one_of HT_.out (by kernel_rfl)) (by decide) (fun K hK => ?_)
         refine goes_ Try.func24 (by kernel_rfl) rfl #[.agg #[.slice Ao13 t339.length co13, .slice Ao15 t342.length co15], .agg #[.int .i64 t346, .int .i64 t347, .int .i64 t348, .int .i64 t349, .int .i64 t350, .int .i64 t351, .int .i64 t352, .int .i64 t353], .int .i64 (wrap64 (1 + (Int.tmod (rd t355 2) 6))), .int .i64 (Int.tmod (rd t355 0) 300), .int .i64 (wrap64 ((wrap64 ((Int.tmod (rd t355 0) 300) + (Int.tmod (rd t355 1) 300))) + (Int.tmod (rd t355 4) 100))), .int .i64 x9_9] (by rfl) rfl rfl za ?_
         with_reducible refine (impl_FeeOf.calls kj9 _ _ t339 _ _ t342 t346 t347 t348 t349 t350 t351 t352 t353 (wrap64 (1 + (Int.tmod (rd t355 2) 6))) (Int.tmod (rd t355 0) 300) (wrap64 ((wrap64 ((Int.tmod (rd t355 0) 300) + (Int.tmod (rd t355 1) 300))) + (Int.tmod (rd t355 4) 100))) x9_9 t364 _ ?side1 ?side2 ?side3 ?side4 A27.out).mono ?_
         (case side1 => repeat (first | exact (Kd.R_reads' HO_346000.out).2.2 | (with_reducible refine Kd.C_alloc ?_ _) | (with_reducible refine Kd.C_drewN ?_ _) | (with_reducible refine Kd.C_drew ?_)))
         (case side2 => exact (Kd.R_reads' HO_346000.out).2.1)
         (case side3 => repeat (first | exact (Kd.R_reads' HO_346001.out).2.2 | (with_reducible refine Kd.C_alloc ?_ _) | (with_reducible refine Kd.C_drewN ?_ _) | (with_reducible refine Kd.C_drew ?_)))
         (case side4 => exact (Kd.R_reads' HO_346001.out).2.1)
         rintro e w34 ⟨rfl, hb⟩
         have HS10_ := (hb.cell (World.block_lt_of_cell? _ _ (hHeld.2.2.2.2.2.2.2.2.2.2))).trans (hHeld.2.2.2.2.2.2.2.2.2.2)
         refine ⟨_, rfl, ?_⟩
         have n0_ := aM (Kd.R_below (by (with_reducible repeat (first | apply Kd.R_alloc | apply Kd.R_drewN | apply Kd.R_drew)); exact HO_5.out) hb)
         have n1_ := aM (Kd.R_below (by (with_reducible repeat (first | apply Kd.R_alloc | apply Kd.R_drewN | apply Kd.R_drew)); exact HO_346000.out) hb)
         have n2_ := aM (Kd.R_below (by (with_reducible repeat (first | apply Kd.R_alloc | apply Kd.R_drewN | apply Kd.R_drew)); exact HO_346001.out) hb)
         have n3_ := aM (bb BK345.out hb)
         have n4_ := aM (bb BK354.out hb)
         have n5_ := aM (below_step (zb) hb)
         clear HO_5
         clear HO_346000
         clear HO_346001
         clear BK345
         clear BK354
         clear HB
         have HO_5 := n0_
         have HO_346000 := n1_
         have HO_346001 := n2_
         have BK345 := n3_
         have BK354 := n4_
         have HB := n5_
         clear n0_ n1_ n2_ n3_ n4_ n5_
         (try clear hb)
         (try clear hb2)
         (try clear hk)
         (try clear hi)
         refine hK.out _ _ ⟨(blk_cell BK345.out 0).trans rfl, (blk_cell BK345.out 1).trans rfl, (blk_cell BK354.out 0).trans rfl, (blk_cell BK354.out 1).trans rfl, (blk_cell BK354.out 2).trans rfl, (blk_cell BK354.out 3).trans rfl, (blk_cell BK354.out 4).trans rfl, (blk_cell BK354.out 5).trans rfl, (blk_cell BK354.out 6).trans rfl, (blk_cell BK354.out 7).trans rfl, HS10_⟩ (fun hHeld => ?_)
         clear hK K
         refine norm_ (a' := ?_) ?_ ?_
         rotate_left
         ·show Act.put _ (some 66) _ = _
          simp only [Act.put, List.setIfInBounds_toArray, List.set_cons_zero, List.set_cons_succ, i64_w, i32_w]
          rfl
         refine pure_ (i := 12) (N := some 11) (v := ?_) (a' := ?_) #[true, true, true, true, true, true, true, true, true, true, true, true, true] rfl rfl (any_of HT_.out (by kernel_rfl)) (fun _ _ _ h => h) (Or.inl ⟨by rfl, ?_⟩) ?_ ?_
         rotate_left
         ·intro w'
          go_simp
          with_reducible rfl
         rotate_left
         ·simp only [Act.put, List.setIfInBounds_toArray, List.set_cons_zero, List.set_cons_succ, i64_w, i32_w]
          rfl
         refine done_ (done_of HT_.out (by kernel_rfl)) ?_
         go_upto_region 12 with (fail)
         go_cut [12, 13] (fun v12 v13 wc => ∃ (kq : Nat) (x12_27 : Int) (x13_27 : Bool), v12 = .int .i64 x12_27 ∧ v13 = .bool x13_27 ∧ Aside0 (laws_FnFees.j1 kq (Int.tmod (rd t355 0) 300) (wrap64 ((Int.tmod (rd t355 0) 300) + (Int.tmod (rd t355 1) 300))) (wrap64 (1 + (Int.tmod (rd t355 2) 6))) x9_9 t362 t364 x12_27 x13_27 t339 t342 t346 t347 t348 t349 t350 t351 t352 t353 = some r) ∧ Aside0 (kq ≤ kj9) ∧ Aside0 (Kd.R k71 71 wc w.heap.size (fun k_ => some k_ ≠ ((.slice Ao15 t342.length co15) : Value).ownBlock) (.slice Ao13 t339.length co13) t339) ∧ Aside0 (Kd.R k71 71 wc w.heap.size (fun k_ => some k_ ≠ ((.slice Ao13 t339.length co13) : Value).ownBlock) (.slice Ao15 t342.length co15) t342) ∧ Aside0 (wc.heap[gb345]? = some (.cells #[(.slice Ao13 t339.length co13), (.slice Ao15 t342.length co15)] 36 (0, 0))) ∧ Aside0 (wc.heap[gb354]? = some (.cells #[.int .i64 t346, .int .i64 t347, .int .i64 t348, .int .i64 t349, .int .i64 t350, .int .i64 t351, .int .i64 t352, .int .i64 t353] 25 (0, 0))) ∧ Aside0 (Below w.heap.size w wc))
         case first =>
          have H := HC28.out
          clear HC28
          replace H := Option.bind_eq_some_iff.mp H
          obtain ⟨⟨t365, t366⟩, A350, H⟩ := H
          replace H : (laws_FnFees.j1 kj9 (Int.tmod (rd t355 0) 300) (wrap64 ((Int.tmod (rd t355 0) 300) + (Int.tmod (rd t355 1) 300))) (wrap64 (1 + (Int.tmod (rd t355 2) 6))) x9_9 t362 t364 t365 t366 t339 t342 t346 t347 t348 t349 t350 t351 t352 t353) = some r := H
          have A35 := aM A350
          clear A350
          have H' := aM H
          clear H
          have hnb36 := NB345_354.out
          have hnc36 := NB354_345.out
          obtain ⟨hcz37_0, hcz37_1, hfz37_0, hfz37_1⟩ := cells2 BK345.out
          obtain ⟨hcz38_0, hcz38_1, hcz38_2, hcz38_3, hcz38_4, hcz38_5, hcz38_6, hcz38_7, hfz38_0, hfz38_1, hfz38_2, hfz38_3, hfz38_4, hfz38_5, hfz38_6, hfz38_7⟩ := cells8 BK354.out
          go_wp2_with (first | ((with_reducible refine gate_callee (f := 22) rfl ?_); refine goesL_ (some 71) rfl rfl Try.func22 (by kernel_rfl) rfl #[.agg #[.slice Ao13 t339.length co13, .slice Ao15 t342.length co15], .agg #[.int .i64 t346, .int .i64 t347, .int .i64 t348, .int .i64 t349, .int .i64 t350, .int .i64 t351, .int .i64 t352, .int .i64 t353], .int .i64 (Int.tmod (rd t355 0) 300)] rfl za ?_; (with_reducible refine (impl_FreeUntil.calls kj9 _ _ t339 _ _ t342 t346 t347 t348 t349 t350 t351 t352 t353 (Int.tmod (rd t355 0) 300) t365 t366 _ ?side1 ?side2 ?side3 ?side4 A35.out).mono ?_); (case side1 => repeat (first | exact (Kd.R_reads' HO_346000.out).2.2 | (with_reducible refine Kd.C_alloc ?_ _) | (with_reducible refine Kd.C_drewN ?_ _) | (with_reducible refine Kd.C_drew ?_))); (case side2 => exact (Kd.R_reads' HO_346000.out).2.1); (case side3 => repeat (first | exact (Kd.R_reads' HO_346001.out).2.2 | (with_reducible refine Kd.C_alloc ?_ _) | (with_reducible refine Kd.C_drewN ?_ _) | (with_reducible refine Kd.C_drew ?_))); (case side4 => exact (Kd.R_reads' HO_346001.out).2.1); rintro e w39 ⟨rfl, hb⟩; refine ⟨_, rfl, ?_⟩; have n0_ := aM (Kd.R_below (by (with_reducible repeat (first | apply Kd.R_alloc | apply Kd.R_drewN | apply Kd.R_drew)); exact HO_5.out) hb); have n1_ := aM (Kd.R_below (by (with_reducible repeat (first | apply Kd.R_alloc | apply Kd.R_drewN | apply Kd.R_drew)); exact HO_346000.out) hb); have n2_ := aM (Kd.R_below (by (with_reducible repeat (first | apply Kd.R_alloc | apply Kd.R_drewN | apply Kd.R_drew)); exact HO_346001.out) hb); have n3_ := aM (bb BK345.out hb); have n4_ := aM (bb BK354.out hb); have n5_ := aM (below_step (zb) hb); clear HO_5; clear HO_346000; clear HO_346001; clear BK345; clear BK354; clear HB; have HO_5 := n0_; have HO_346000 := n1_; have HO_346001 := n2_; have BK345 := n3_; have BK354 := n4_; have HB := n5_; clear n0_ n1_ n2_ n3_ n4_ n5_; (try clear hb); (try clear hb2); (try clear hk); (try clear hi)))
          go_meet
          case rel => exact ⟨_, (t365), (t366), zs, zs, H', ⟨by have := HJ9.out; first | omega | exact Nat.le_refl _⟩, ⟨by (with_reducible repeat (first | apply Kd.R_alloc | apply Kd.R_drewN | apply Kd.R_drew)); exact HO_346000.out⟩, ⟨by (with_reducible repeat (first | apply Kd.R_alloc | apply Kd.R_drewN | apply Kd.R_drew)); exact HO_346001.out⟩, ⟨by exact pk BK345.out⟩, ⟨by exact pk BK354.out⟩, ⟨zb⟩⟩
         case rest =>
          clear HC28
          try clear c1
          try clear c2
          try clear p2
          try clear c3
          try clear p3
          try clear q3
          try clear hx3
          try clear qi3
          try clear p6
          try clear c7
          try clear c7b0
          try clear c7b1
          try clear c8
          try clear c8b0
          try clear c8b1
          try clear c9
          try clear c9b0
          try clear c9b1
          try clear c12
          try clear c18
          try clear c22
          try clear c22b0
          try clear c22b1
          try clear c23
          try clear c23b0
          try clear c23b1
          try clear c24
          try clear c26
          try clear c26b0
          try clear c26b1
          try clear c29
          try clear c33
          try clear c34
          try clear c35
          try clear p35
          try clear q35
          try clear hx35
          try clear qi35
          try clear c36
          try clear p36
          try clear q36
          try clear hx36
          try clear qi36
          try clear hcz14_0 hcz14_1 hfz14_0 hfz14_1
          try clear hcz19_0 hcz19_1 hcz19_2 hcz19_3 hcz19_4 hcz19_5 hcz19_6 hcz19_7 hfz19_0 hfz19_1 hfz19_2 hfz19_3 hfz19_4 hfz19_5 hfz19_6 hfz19_7
          try clear hcz30_0 hcz30_1 hfz30_0 hfz30_1
          try clear hcz31_0 hcz31_1 hcz31_2 hcz31_3 hcz31_4 hcz31_5 hcz31_6 hcz31_7 hfz31_0 hfz31_1 hfz31_2 hfz31_3 hfz31_4 hfz31_5 hfz31_6 hfz31_7
          try clear hcz37_0 hcz37_1 hfz37_0 hfz37_1
          try clear hcz38_0 hcz38_1 hcz38_2 hcz38_3 hcz38_4 hcz38_5 hcz38_6 hcz38_7 hfz38_0 hfz38_1 hfz38_2 hfz38_3 hfz38_4 hfz38_5 hfz38_6 hfz38_7
          try clear hx358_0
          try clear hx359_0
          try clear hx360_0
          try clear hx361_0
          try clear hx363_0
          try clear p2
          try clear p3
          try clear p358
          try clear p359
          try clear p360
          try clear p361
          try clear p363
          try clear p6
          try clear q3
          try clear q358
          try clear q359
          try clear q360
          try clear q361
          try clear q363
          obtain ⟨kq, x12_27, x13_27, rfl, rfl, HA, HJ27, HO_346000, HO_346001, BK345, BK354, HB⟩ := hcut
          as_aux_lemma =>
           cases kq with
           | zero => exact absurd HA.out (by simp [laws_FnFees.j1])
           | succ kj27 =>
            have H := HA.out
            clear HA
            simp only [laws_FnFees.j1] at H
            have HC40 := aM H
            clear H
            go_upto_region 13 with (fail)
            go_cut [134] (fun v134 wc => ∃ (kq : Nat) (x134_39 : Bool), v134 = .bool x134_39 ∧ Aside0 (laws_FnFees.j2 kq (Int.tmod (rd t355 0) 300) (wrap64 ((Int.tmod (rd t355 0) 300) + (Int.tmod (rd t355 1) 300))) (wrap64 (1 + (Int.tmod (rd t355 2) 6))) x9_9 t362 x12_27 x134_39 t339 t342 t346 t347 t348 t349 t350 t351 t352 t353 = some r) ∧ Aside0 (kq ≤ kj27) ∧ Aside0 (Kd.R k71 71 wc w.heap.size (fun k_ => some k_ ≠ ((.slice Ao15 t342.length co15) : Value).ownBlock) (.slice Ao13 t339.length co13) t339) ∧ Aside0 (Kd.R k71 71 wc w.heap.size (fun k_ => some k_ ≠ ((.slice Ao13 t339.length co13) : Value).ownBlock) (.slice Ao15 t342.length co15) t342) ∧ Aside0 (wc.heap[gb345]? = some (.cells #[(.slice Ao13 t339.length co13), (.slice Ao15 t342.length co15)] 36 (0, 0))) ∧ Aside0 (wc.heap[gb354]? = some (.cells #[.int .i64 t346, .int .i64 t347, .int .i64 t348, .int .i64 t349, .int .i64 t350, .int .i64 t351, .int .i64 t352, .int .i64 t353] 25 (0, 0))) ∧ Aside0 (Below w.heap.size w wc))
            case first =>
             have H := HC40.out
             clear HC40
             replace H := Option.bind_eq_some_iff.mp H
             obtain ⟨t367, A410, H⟩ := H
             replace H : (if t362 = t367 then (if t362 < (wrap64 (x9_9 * t352)) then (laws_FnFees.j2 kj27 (Int.tmod (rd t355 0) 300) (wrap64 ((Int.tmod (rd t355 0) 300) + (Int.tmod (rd t355 1) 300))) (wrap64 (1 + (Int.tmod (rd t355 2) 6))) x9_9 t362 x12_27 true t339 t342 t346 t347 t348 t349 t350 t351 t352 t353) else (if t362 > (wrap64 ((wrap64 (x9_9 * t352)) + t350)) then (laws_FnFees.j2 kj27 (Int.tmod (rd t355 0) 300) (wrap64 ((Int.tmod (rd t355 0) 300) + (Int.tmod (rd t355 1) 300))) (wrap64 (1 + (Int.tmod (rd t355 2) 6))) x9_9 t362 x12_27 true t339 t342 t346 t347 t348 t349 t350 t351 t352 t353) else (if t364 < t362 then (laws_FnFees.j2 kj27 (Int.tmod (rd t355 0) 300) (wrap64 ((Int.tmod (rd t355 0) 300) + (Int.tmod (rd t355 1) 300))) (wrap64 (1 + (Int.tmod (rd t355 2) 6))) x9_9 t362 x12_27 true t339 t342 t346 t347 t348 t349 t350 t351 t352 t353) else (if x13_27 = true then (if (wrap64 ((Int.tmod (rd t355 0) 300) + (Int.tmod (rd t355 1) 300))) ≤ x12_27 then (if t362 = (wrap64 (x9_9 * t352)) then ((impl_FeeOf.f kj27 t339 t342 t346 t347 t348 t349 t350 t351 t352 t353 (wrap64 (1 + (Int.tmod (rd t355 2) 6))) (Int.tmod (rd t355 0) 300) (wrap64 ((Int.tmod (rd t355 0) 300) - 1)) x9_9).bind fun t368 => (laws_FnFees.j2 kj27 (Int.tmod (rd t355 0) 300) (wrap64 ((Int.tmod (rd t355 0) 300) + (Int.tmod (rd t355 1) 300))) (wrap64 (1 + (Int.tmod (rd t355 2) 6))) x9_9 t362 x12_27 (t368 != (-1)) t339 t342 t346 t347 t348 t349 t350 t351 t352 t353)) else (laws_FnFees.j2 kj27 (Int.tmod (rd t355 0) 300) (wrap64 ((Int.tmod (rd t355 0) 300) + (Int.tmod (rd t355 1) 300))) (wrap64 (1 + (Int.tmod (rd t355 2) 6))) x9_9 t362 x12_27 true t339 t342 t346 t347 t348 t349 t350 t351 t352 t353)) else ((impl_FeeOf.f kj27 t339 t342 t346 t347 t348 t349 t350 t351 t352 t353 (wrap64 (1 + (Int.tmod (rd t355 2) 6))) (Int.tmod (rd t355 0) 300) (wrap64 ((Int.tmod (rd t355 0) 300) - 1)) x9_9).bind fun t369 => (laws_FnFees.j2 kj27 (Int.tmod (rd t355 0) 300) (wrap64 ((Int.tmod (rd t355 0) 300) + (Int.tmod (rd t355 1) 300))) (wrap64 (1 + (Int.tmod (rd t355 2) 6))) x9_9 t362 x12_27 (t369 != (-1)) t339 t342 t346 t347 t348 t349 t350 t351 t352 t353))) else (laws_FnFees.j2 kj27 (Int.tmod (rd t355 0) 300) (wrap64 ((Int.tmod (rd t355 0) 300) + (Int.tmod (rd t355 1) 300))) (wrap64 (1 + (Int.tmod (rd t355 2) 6))) x9_9 t362 x12_27 true t339 t342 t346 t347 t348 t349 t350 t351 t352 t353))))) else (laws_FnFees.j2 kj27 (Int.tmod (rd t355 0) 300) (wrap64 ((Int.tmod (rd t355 0) 300) + (Int.tmod (rd t355 1) 300))) (wrap64 (1 + (Int.tmod (rd t355 2) 6))) x9_9 t362 x12_27 true t339 t342 t346 t347 t348 t349 t350 t351 t352 t353)) = some r := H
             have A41 := aM A410
             clear A410
             by_cases c42 : t362 = t367
             ·rw [if_pos c42] at H
              have c42b0 : (t362 == t367) = true := beq_iff_eq.mpr c42
              have c42b1 : (t362 != t367) = false := bne_eq_false_iff_eq.mpr c42
              clear c42
              (first | rw [c42b0] | (simp only [i64_w, i32_w]; rw [c42b0]) | skip)
              by_cases c43 : t362 < (wrap64 (x9_9 * t352))
              ·rw [if_pos c43] at H
               have c43b0 : decide (t362 < (wrap64 (x9_9 * t352))) = true := decide_eq_true c43
               clear c43
               have H' := aM H
               clear H
               have hnb44 := NB345_354.out
               have hnc44 := NB354_345.out
               obtain ⟨hcz45_0, hcz45_1, hfz45_0, hfz45_1⟩ := cells2 BK345.out
               obtain ⟨hcz46_0, hcz46_1, hcz46_2, hcz46_3, hcz46_4, hcz46_5, hcz46_6, hcz46_7, hfz46_0, hfz46_1, hfz46_2, hfz46_3, hfz46_4, hfz46_5, hfz46_6, hfz46_7⟩ := cells8 BK354.out
               go_wp2_with (first | ((with_reducible refine gate_callee (f := 23) rfl ?_); refine goesL_ (some 81) rfl rfl Try.func23 (by kernel_rfl) rfl #[.agg #[.slice Ao13 t339.length co13, .slice Ao15 t342.length co15], .agg #[.int .i64 t346, .int .i64 t347, .int .i64 t348, .int .i64 t349, .int .i64 t350, .int .i64 t351, .int .i64 t352, .int .i64 t353], .int .i64 (wrap64 (1 + (Int.tmod (rd t355 2) 6))), .int .i64 (Int.tmod (rd t355 0) 300), .int .i64 (wrap64 ((Int.tmod (rd t355 0) 300) + (Int.tmod (rd t355 1) 300))), .int .i64 x9_9] rfl za ?_; (with_reducible refine (spec_FeeOf.calls kj27 _ _ t339 _ _ t342 t346 t347 t348 t349 t350 t351 t352 t353 (wrap64 (1 + (Int.tmod (rd t355 2) 6))) (Int.tmod (rd t355 0) 300) (wrap64 ((Int.tmod (rd t355 0) 300) + (Int.tmod (rd t355 1) 300))) x9_9 t367 _ ?side1 ?side2 ?side3 ?side4 A41.out).mono ?_); (case side1 => repeat (first | exact (Kd.R_reads' HO_346000.out).2.2 | (with_reducible refine Kd.C_alloc ?_ _) | (with_reducible refine Kd.C_drewN ?_ _) | (with_reducible refine Kd.C_drew ?_))); (case side2 => exact (Kd.R_reads' HO_346000.out).2.1); (case side3 => repeat (first | exact (Kd.R_reads' HO_346001.out).2.2 | (with_reducible refine Kd.C_alloc ?_ _) | (with_reducible refine Kd.C_drewN ?_ _) | (with_reducible refine Kd.C_drew ?_))); (case side4 => exact (Kd.R_reads' HO_346001.out).2.1); rintro e w47 ⟨rfl, hb⟩; refine ⟨_, rfl, ?_⟩; have n0_ := aM (Kd.R_below (by (with_reducible repeat (first | apply Kd.R_alloc | apply Kd.R_drewN | apply Kd.R_drew)); exact HO_346000.out) hb); have n1_ := aM (Kd.R_below (by (with_reducible repeat (first | apply Kd.R_alloc | apply Kd.R_drewN | apply Kd.R_drew)); exact HO_346001.out) hb); have n2_ := aM (bb BK345.out hb); have n3_ := aM (bb BK354.out hb); have n4_ := aM (below_step (zb) hb); clear HO_346000; clear HO_346001; clear BK345; clear BK354; clear HB; have HO_346000 := n0_; have HO_346001 := n1_; have BK345 := n2_; have BK354 := n3_; have HB := n4_; clear n0_ n1_ n2_ n3_ n4_; (try clear hb); (try clear hb2); (try clear hk); (try clear hi); obtain ⟨hcz48_0, hcz48_1, hcz48_2, hcz48_3, hcz48_4, hcz48_5, hcz48_6, hcz48_7, hfz48_0, hfz48_1, hfz48_2, hfz48_3, hfz48_4, hfz48_5, hfz48_6, hfz48_7⟩ := cells8 BK354.out))
               go_meet
               case rel => exact ⟨_, (true), zs, H', ⟨by have := HJ9.out; have := HJ27.out; first | omega | exact Nat.le_refl _⟩, ⟨by (with_reducible repeat (first | apply Kd.R_alloc | apply Kd.R_drewN | apply Kd.R_drew)); exact HO_346000.out⟩, ⟨by (with_reducible repeat (first | apply Kd.R_alloc | apply Kd.R_drewN | apply Kd.R_drew)); exact HO_346001.out⟩, ⟨by exact pk BK345.out⟩, ⟨by exact pk BK354.out⟩, ⟨zb⟩⟩
              ·rw [if_neg c43] at H
               have c43b0 : decide (t362 < (wrap64 (x9_9 * t352))) = false := decide_eq_false c43
               clear c43
               by_cases c49 : t362 > (wrap64 ((wrap64 (x9_9 * t352)) + t350))
               ·rw [if_pos c49] at H
                have c49b0 : decide ((wrap64 ((wrap64 (x9_9 * t352)) + t350)) < t362) = true := decide_eq_true c49
                clear c49
                have H' := aM H
                clear H
                have hnb50 := NB345_354.out
                have hnc50 := NB354_345.out
                obtain ⟨hcz51_0, hcz51_1, hfz51_0, hfz51_1⟩ := cells2 BK345.out
                obtain ⟨hcz52_0, hcz52_1, hcz52_2, hcz52_3, hcz52_4, hcz52_5, hcz52_6, hcz52_7, hfz52_0, hfz52_1, hfz52_2, hfz52_3, hfz52_4, hfz52_5, hfz52_6, hfz52_7⟩ := cells8 BK354.out
                go_wp2_with (first | ((with_reducible refine gate_callee (f := 23) rfl ?_); refine goesL_ (some 81) rfl rfl Try.func23 (by kernel_rfl) rfl #[.agg #[.slice Ao13 t339.length co13, .slice Ao15 t342.length co15], .agg #[.int .i64 t346, .int .i64 t347, .int .i64 t348, .int .i64 t349, .int .i64 t350, .int .i64 t351, .int .i64 t352, .int .i64 t353], .int .i64 (wrap64 (1 + (Int.tmod (rd t355 2) 6))), .int .i64 (Int.tmod (rd t355 0) 300), .int .i64 (wrap64 ((Int.tmod (rd t355 0) 300) + (Int.tmod (rd t355 1) 300))), .int .i64 x9_9] rfl za ?_; (with_reducible refine (spec_FeeOf.calls kj27 _ _ t339 _ _ t342 t346 t347 t348 t349 t350 t351 t352 t353 (wrap64 (1 + (Int.tmod (rd t355 2) 6))) (Int.tmod (rd t355 0) 300) (wrap64 ((Int.tmod (rd t355 0) 300) + (Int.tmod (rd t355 1) 300))) x9_9 t367 _ ?side1 ?side2 ?side3 ?side4 A41.out).mono ?_); (case side1 => repeat (first | exact (Kd.R_reads' HO_346000.out).2.2 | (with_reducible refine Kd.C_alloc ?_ _) | (with_reducible refine Kd.C_drewN ?_ _) | (with_reducible refine Kd.C_drew ?_))); (case side2 => exact (Kd.R_reads' HO_346000.out).2.1); (case side3 => repeat (first | exact (Kd.R_reads' HO_346001.out).2.2 | (with_reducible refine Kd.C_alloc ?_ _) | (with_reducible refine Kd.C_drewN ?_ _) | (with_reducible refine Kd.C_drew ?_))); (case side4 => exact (Kd.R_reads' HO_346001.out).2.1); rintro e w53 ⟨rfl, hb⟩; refine ⟨_, rfl, ?_⟩; have n0_ := aM (Kd.R_below (by (with_reducible repeat (first | apply Kd.R_alloc | apply Kd.R_drewN | apply Kd.R_drew)); exact HO_346000.out) hb); have n1_ := aM (Kd.R_below (by (with_reducible repeat (first | apply Kd.R_alloc | apply Kd.R_drewN | apply Kd.R_drew)); exact HO_346001.out) hb); have n2_ := aM (bb BK345.out hb); have n3_ := aM (bb BK354.out hb); have n4_ := aM (below_step (zb) hb); clear HO_346000; clear HO_346001; clear BK345; clear BK354; clear HB; have HO_346000 := n0_; have HO_346001 := n1_; have BK345 := n2_; have BK354 := n3_; have HB := n4_; clear n0_ n1_ n2_ n3_ n4_; (try clear hb); (try clear hb2); (try clear hk); (try clear hi); obtain ⟨hcz54_0, hcz54_1, hcz54_2, hcz54_3, hcz54_4, hcz54_5, hcz54_6, hcz54_7, hfz54_0, hfz54_1, hfz54_2, hfz54_3, hfz54_4, hfz54_5, hfz54_6, hfz54_7⟩ := cells8 BK354.out))
                go_meet
                case rel => exact ⟨_, (true), zs, H', ⟨by have := HJ9.out; have := HJ27.out; first | omega | exact Nat.le_refl _⟩, ⟨by (with_reducible repeat (first | apply Kd.R_alloc | apply Kd.R_drewN | apply Kd.R_drew)); exact HO_346000.out⟩, ⟨by (with_reducible repeat (first | apply Kd.R_alloc | apply Kd.R_drewN | apply Kd.R_drew)); exact HO_346001.out⟩, ⟨by exact pk BK345.out⟩, ⟨by exact pk BK354.out⟩, ⟨zb⟩⟩
               ·rw [if_neg c49] at H
                have c49b0 : decide ((wrap64 ((wrap64 (x9_9 * t352)) + t350)) < t362) = false := decide_eq_false c49
                clear c49
                by_cases c55 : t364 < t362
                ·rw [if_pos c55] at H
                 have c55b0 : decide (t364 < t362) = true := decide_eq_true c55
                 clear c55
                 have H' := aM H
                 clear H
                 have hnb56 := NB345_354.out
                 have hnc56 := NB354_345.out
                 obtain ⟨hcz57_0, hcz57_1, hfz57_0, hfz57_1⟩ := cells2 BK345.out
                 obtain ⟨hcz58_0, hcz58_1, hcz58_2, hcz58_3, hcz58_4, hcz58_5, hcz58_6, hcz58_7, hfz58_0, hfz58_1, hfz58_2, hfz58_3, hfz58_4, hfz58_5, hfz58_6, hfz58_7⟩ := cells8 BK354.out
                 go_wp2_with (first | ((with_reducible refine gate_callee (f := 23) rfl ?_); refine goesL_ (some 81) rfl rfl Try.func23 (by kernel_rfl) rfl #[.agg #[.slice Ao13 t339.length co13, .slice Ao15 t342.length co15], .agg #[.int .i64 t346, .int .i64 t347, .int .i64 t348, .int .i64 t349, .int .i64 t350, .int .i64 t351, .int .i64 t352, .int .i64 t353], .int .i64 (wrap64 (1 + (Int.tmod (rd t355 2) 6))), .int .i64 (Int.tmod (rd t355 0) 300), .int .i64 (wrap64 ((Int.tmod (rd t355 0) 300) + (Int.tmod (rd t355 1) 300))), .int .i64 x9_9] rfl za ?_; (with_reducible refine (spec_FeeOf.calls kj27 _ _ t339 _ _ t342 t346 t347 t348 t349 t350 t351 t352 t353 (wrap64 (1 + (Int.tmod (rd t355 2) 6))) (Int.tmod (rd t355 0) 300) (wrap64 ((Int.tmod (rd t355 0) 300) + (Int.tmod (rd t355 1) 300))) x9_9 t367 _ ?side1 ?side2 ?side3 ?side4 A41.out).mono ?_); (case side1 => repeat (first | exact (Kd.R_reads' HO_346000.out).2.2 | (with_reducible refine Kd.C_alloc ?_ _) | (with_reducible refine Kd.C_drewN ?_ _) | (with_reducible refine Kd.C_drew ?_))); (case side2 => exact (Kd.R_reads' HO_346000.out).2.1); (case side3 => repeat (first | exact (Kd.R_reads' HO_346001.out).2.2 | (with_reducible refine Kd.C_alloc ?_ _) | (with_reducible refine Kd.C_drewN ?_ _) | (with_reducible refine Kd.C_drew ?_))); (case side4 => exact (Kd.R_reads' HO_346001.out).2.1); rintro e w59 ⟨rfl, hb⟩; refine ⟨_, rfl, ?_⟩; have n0_ := aM (Kd.R_below (by (with_reducible repeat (first | apply Kd.R_alloc | apply Kd.R_drewN | apply Kd.R_drew)); exact HO_346000.out) hb); have n1_ := aM (Kd.R_below (by (with_reducible repeat (first | apply Kd.R_alloc | apply Kd.R_drewN | apply Kd.R_drew)); exact HO_346001.out) hb); have n2_ := aM (bb BK345.out hb); have n3_ := aM (bb BK354.out hb); have n4_ := aM (below_step (zb) hb); clear HO_346000; clear HO_346001; clear BK345; clear BK354; clear HB; have HO_346000 := n0_; have HO_346001 := n1_; have BK345 := n2_; have BK354 := n3_; have HB := n4_; clear n0_ n1_ n2_ n3_ n4_; (try clear hb); (try clear hb2); (try clear hk); (try clear hi); obtain ⟨hcz60_0, hcz60_1, hcz60_2, hcz60_3, hcz60_4, hcz60_5, hcz60_6, hcz60_7, hfz60_0, hfz60_1, hfz60_2, hfz60_3, hfz60_4, hfz60_5, hfz60_6, hfz60_7⟩ := cells8 BK354.out))
                 go_meet
                 case rel => exact ⟨_, (true), zs, H', ⟨by have := HJ9.out; have := HJ27.out; first | omega | exact Nat.le_refl _⟩, ⟨by (with_reducible repeat (first | apply Kd.R_alloc | apply Kd.R_drewN | apply Kd.R_drew)); exact HO_346000.out⟩, ⟨by (with_reducible repeat (first | apply Kd.R_alloc | apply Kd.R_drewN | apply Kd.R_drew)); exact HO_346001.out⟩, ⟨by exact pk BK345.out⟩, ⟨by exact pk BK354.out⟩, ⟨zb⟩⟩
                ·rw [if_neg c55] at H
                 have c55b0 : decide (t364 < t362) = false := decide_eq_false c55
                 clear c55
                 by_cases c61 : x13_27 = true
                 ·subst c61
                  have H1 : (if (wrap64 ((Int.tmod (rd t355 0) 300) + (Int.tmod (rd t355 1) 300))) ≤ x12_27 then (if t362 = (wrap64 (x9_9 * t352)) then ((impl_FeeOf.f kj27 t339 t342 t346 t347 t348 t349 t350 t351 t352 t353 (wrap64 (1 + (Int.tmod (rd t355 2) 6))) (Int.tmod (rd t355 0) 300) (wrap64 ((Int.tmod (rd t355 0) 300) - 1)) x9_9).bind fun t368 => (laws_FnFees.j2 kj27 (Int.tmod (rd t355 0) 300) (wrap64 ((Int.tmod (rd t355 0) 300) + (Int.tmod (rd t355 1) 300))) (wrap64 (1 + (Int.tmod (rd t355 2) 6))) x9_9 t362 x12_27 (t368 != (-1)) t339 t342 t346 t347 t348 t349 t350 t351 t352 t353)) else (laws_FnFees.j2 kj27 (Int.tmod (rd t355 0) 300) (wrap64 ((Int.tmod (rd t355 0) 300) + (Int.tmod (rd t355 1) 300))) (wrap64 (1 + (Int.tmod (rd t355 2) 6))) x9_9 t362 x12_27 true t339 t342 t346 t347 t348 t349 t350 t351 t352 t353)) else ((impl_FeeOf.f kj27 t339 t342 t346 t347 t348 t349 t350 t351 t352 t353 (wrap64 (1 + (Int.tmod (rd t355 2) 6))) (Int.tmod (rd t355 0) 300) (wrap64 ((Int.tmod (rd t355 0) 300) - 1)) x9_9).bind fun t369 => (laws_FnFees.j2 kj27 (Int.tmod (rd t355 0) 300) (wrap64 ((Int.tmod (rd t355 0) 300) + (Int.tmod (rd t355 1) 300))) (wrap64 (1 + (Int.tmod (rd t355 2) 6))) x9_9 t362 x12_27 (t369 != (-1)) t339 t342 t346 t347 t348 t349 t350 t351 t352 t353))) = some r := by rw [if_pos rfl] at H; exact H
                  clear H
                  have H := H1
                  clear H1
                  by_cases c62 : (wrap64 ((Int.tmod (rd t355 0) 300) + (Int.tmod (rd t355 1) 300))) ≤ x12_27
                  ·rw [if_pos c62] at H
                   have c62b0 : decide ((wrap64 ((Int.tmod (rd t355 0) 300) + (Int.tmod (rd t355 1) 300))) ≤ x12_27) = true := decide_eq_true c62
                   clear c62
                   by_cases c63 : t362 = (wrap64 (x9_9 * t352))
                   ·rw [if_pos c63] at H
                    have c63b0 : (t362 == (wrap64 (x9_9 * t352))) = true := beq_iff_eq.mpr c63
                    have c63b1 : (t362 != (wrap64 (x9_9 * t352))) = false := bne_eq_false_iff_eq.mpr c63
                    clear c63
                    replace H := Option.bind_eq_some_iff.mp H
                    obtain ⟨t368, A640, H⟩ := H
                    replace H : (laws_FnFees.j2 kj27 (Int.tmod (rd t355 0) 300) (wrap64 ((Int.tmod (rd t355 0) 300) + (Int.tmod (rd t355 1) 300))) (wrap64 (1 + (Int.tmod (rd t355 2) 6))) x9_9 t362 x12_27 (t368 != (-1)) t339 t342 t346 t347 t348 t349 t350 t351 t352 t353) = some r := H
                    have A64 := aM A640
                    clear A640
                    have H' := aM H
                    clear H
                    have hnb65 := NB345_354.out
                    have hnc65 := NB354_345.out
                    obtain ⟨hcz66_0, hcz66_1, hfz66_0, hfz66_1⟩ := cells2 BK345.out
                    obtain ⟨hcz67_0, hcz67_1, hcz67_2, hcz67_3, hcz67_4, hcz67_5, hcz67_6, hcz67_7, hfz67_0, hfz67_1, hfz67_2, hfz67_3, hfz67_4, hfz67_5, hfz67_6, hfz67_7⟩ := cells8 BK354.out
                    go_wp2_with (first | ((with_reducible refine gate_callee (f := 23) rfl ?_); refine goesL_ (some 81) rfl rfl Try.func23 (by kernel_rfl) rfl #[.agg #[.slice Ao13 t339.length co13, .slice Ao15 t342.length co15], .agg #[.int .i64 t346, .int .i64 t347, .int .i64 t348, .int .i64 t349, .int .i64 t350, .int .i64 t351, .int .i64 t352, .int .i64 t353], .int .i64 (wrap64 (1 + (Int.tmod (rd t355 2) 6))), .int .i64 (Int.tmod (rd t355 0) 300), .int .i64 (wrap64 ((Int.tmod (rd t355 0) 300) + (Int.tmod (rd t355 1) 300))), .int .i64 x9_9] rfl za ?_; (with_reducible refine (spec_FeeOf.calls kj27 _ _ t339 _ _ t342 t346 t347 t348 t349 t350 t351 t352 t353 (wrap64 (1 + (Int.tmod (rd t355 2) 6))) (Int.tmod (rd t355 0) 300) (wrap64 ((Int.tmod (rd t355 0) 300) + (Int.tmod (rd t355 1) 300))) x9_9 t367 _ ?side1 ?side2 ?side3 ?side4 A41.out).mono ?_); (case side1 => repeat (first | exact (Kd.R_reads' HO_346000.out).2.2 | (with_reducible refine Kd.C_alloc ?_ _) | (with_reducible refine Kd.C_drewN ?_ _) | (with_reducible refine Kd.C_drew ?_))); (case side2 => exact (Kd.R_reads' HO_346000.out).2.1); (case side3 => repeat (first | exact (Kd.R_reads' HO_346001.out).2.2 | (with_reducible refine Kd.C_alloc ?_ _) | (with_reducible refine Kd.C_drewN ?_ _) | (with_reducible refine Kd.C_drew ?_))); (case side4 => exact (Kd.R_reads' HO_346001.out).2.1); rintro e w68 ⟨rfl, hb⟩; refine ⟨_, rfl, ?_⟩; have n0_ := aM (Kd.R_below (by (with_reducible repeat (first | apply Kd.R_alloc | apply Kd.R_drewN | apply Kd.R_drew)); exact HO_346000.out) hb); have n1_ := aM (Kd.R_below (by (with_reducible repeat (first | apply Kd.R_alloc | apply Kd.R_drewN | apply Kd.R_drew)); exact HO_346001.out) hb); have n2_ := aM (bb BK345.out hb); have n3_ := aM (bb BK354.out hb); have n4_ := aM (below_step (zb) hb); clear HO_346000; clear HO_346001; clear BK345; clear BK354; clear HB; have HO_346000 := n0_; have HO_346001 := n1_; have BK345 := n2_; have BK354 := n3_; have HB := n4_; clear n0_ n1_ n2_ n3_ n4_; (try clear hb); (try clear hb2); (try clear hk); (try clear hi); obtain ⟨hcz69_0, hcz69_1, hcz69_2, hcz69_3, hcz69_4, hcz69_5, hcz69_6, hcz69_7, hfz69_0, hfz69_1, hfz69_2, hfz69_3, hfz69_4, hfz69_5, hfz69_6, hfz69_7⟩ := cells8 BK354.out; obtain ⟨hcz70_0, hcz70_1, hfz70_0, hfz70_1⟩ := cells2 BK345.out) | (go_at_call 24; (with_reducible refine (impl_FeeOf.calls kj27 _ _ t339 _ _ t342 t346 t347 t348 t349 t350 t351 t352 t353 (wrap64 (1 + (Int.tmod (rd t355 2) 6))) (Int.tmod (rd t355 0) 300) (wrap64 ((Int.tmod (rd t355 0) 300) - 1)) x9_9 t368 _ ?side1 ?side2 ?side3 ?side4 A64.out).mono ?_); (case side1 => repeat (first | exact (Kd.R_reads' HO_346000.out).2.2 | (with_reducible refine Kd.C_alloc ?_ _) | (with_reducible refine Kd.C_drewN ?_ _) | (with_reducible refine Kd.C_drew ?_))); (case side2 => exact (Kd.R_reads' HO_346000.out).2.1); (case side3 => repeat (first | exact (Kd.R_reads' HO_346001.out).2.2 | (with_reducible refine Kd.C_alloc ?_ _) | (with_reducible refine Kd.C_drewN ?_ _) | (with_reducible refine Kd.C_drew ?_))); (case side4 => exact (Kd.R_reads' HO_346001.out).2.1); rintro e w71 ⟨rfl, hb⟩; have n0_ := aM (Kd.R_below (by (with_reducible repeat (first | apply Kd.R_alloc | apply Kd.R_drewN | apply Kd.R_drew)); exact HO_346000.out) hb); have n1_ := aM (Kd.R_below (by (with_reducible repeat (first | apply Kd.R_alloc | apply Kd.R_drewN | apply Kd.R_drew)); exact HO_346001.out) hb); have n2_ := aM (bb BK345.out hb); have n3_ := aM (bb BK354.out hb); have n4_ := aM (below_step (zb) hb); clear HO_346000; clear HO_346001; clear BK345; clear BK354; clear HB; have HO_346000 := n0_; have HO_346001 := n1_; have BK345 := n2_; have BK354 := n3_; have HB := n4_; clear n0_ n1_ n2_ n3_ n4_; (try clear hb); (try clear hb2); (try clear hk); (try clear hi)))
                    go_meet
                    case rel => exact ⟨_, ((t368 != (-1))), zs, H', ⟨by have := HJ9.out; have := HJ27.out; first | omega | exact Nat.le_refl _⟩, ⟨by (with_reducible repeat (first | apply Kd.R_alloc | apply Kd.R_drewN | apply Kd.R_drew)); exact HO_346000.out⟩, ⟨by (with_reducible repeat (first | apply Kd.R_alloc | apply Kd.R_drewN | apply Kd.R_drew)); exact HO_346001.out⟩, ⟨by exact pk BK345.out⟩, ⟨by exact pk BK354.out⟩, ⟨zb⟩⟩
                   ·rw [if_neg c63] at H
                    have c63b0 : (t362 == (wrap64 (x9_9 * t352))) = false := beq_eq_false_iff_ne.mpr c63
                    have c63b1 : (t362 != (wrap64 (x9_9 * t352))) = true := bne_iff_ne.mpr c63
                    have H' := aM H
                    clear H
                    have hnb72 := NB345_354.out
                    have hnc72 := NB354_345.out
                    obtain ⟨hcz73_0, hcz73_1, hfz73_0, hfz73_1⟩ := cells2 BK345.out
                    obtain ⟨hcz74_0, hcz74_1, hcz74_2, hcz74_3, hcz74_4, hcz74_5, hcz74_6, hcz74_7, hfz74_0, hfz74_1, hfz74_2, hfz74_3, hfz74_4, hfz74_5, hfz74_6, hfz74_7⟩ := cells8 BK354.out
                    go_wp2_with (first | ((with_reducible refine gate_callee (f := 23) rfl ?_); refine goesL_ (some 81) rfl rfl Try.func23 (by kernel_rfl) rfl #[.agg #[.slice Ao13 t339.length co13, .slice Ao15 t342.length co15], .agg #[.int .i64 t346, .int .i64 t347, .int .i64 t348, .int .i64 t349, .int .i64 t350, .int .i64 t351, .int .i64 t352, .int .i64 t353], .int .i64 (wrap64 (1 + (Int.tmod (rd t355 2) 6))), .int .i64 (Int.tmod (rd t355 0) 300), .int .i64 (wrap64 ((Int.tmod (rd t355 0) 300) + (Int.tmod (rd t355 1) 300))), .int .i64 x9_9] rfl za ?_; (with_reducible refine (spec_FeeOf.calls kj27 _ _ t339 _ _ t342 t346 t347 t348 t349 t350 t351 t352 t353 (wrap64 (1 + (Int.tmod (rd t355 2) 6))) (Int.tmod (rd t355 0) 300) (wrap64 ((Int.tmod (rd t355 0) 300) + (Int.tmod (rd t355 1) 300))) x9_9 t367 _ ?side1 ?side2 ?side3 ?side4 A41.out).mono ?_); (case side1 => repeat (first | exact (Kd.R_reads' HO_346000.out).2.2 | (with_reducible refine Kd.C_alloc ?_ _) | (with_reducible refine Kd.C_drewN ?_ _) | (with_reducible refine Kd.C_drew ?_))); (case side2 => exact (Kd.R_reads' HO_346000.out).2.1); (case side3 => repeat (first | exact (Kd.R_reads' HO_346001.out).2.2 | (with_reducible refine Kd.C_alloc ?_ _) | (with_reducible refine Kd.C_drewN ?_ _) | (with_reducible refine Kd.C_drew ?_))); (case side4 => exact (Kd.R_reads' HO_346001.out).2.1); rintro e w75 ⟨rfl, hb⟩; refine ⟨_, rfl, ?_⟩; have n0_ := aM (Kd.R_below (by (with_reducible repeat (first | apply Kd.R_alloc | apply Kd.R_drewN | apply Kd.R_drew)); exact HO_346000.out) hb); have n1_ := aM (Kd.R_below (by (with_reducible repeat (first | apply Kd.R_alloc | apply Kd.R_drewN | apply Kd.R_drew)); exact HO_346001.out) hb); have n2_ := aM (bb BK345.out hb); have n3_ := aM (bb BK354.out hb); have n4_ := aM (below_step (zb) hb); clear HO_346000; clear HO_346001; clear BK345; clear BK354; clear HB; have HO_346000 := n0_; have HO_346001 := n1_; have BK345 := n2_; have BK354 := n3_; have HB := n4_; clear n0_ n1_ n2_ n3_ n4_; (try clear hb); (try clear hb2); (try clear hk); (try clear hi); obtain ⟨hcz76_0, hcz76_1, hcz76_2, hcz76_3, hcz76_4, hcz76_5, hcz76_6, hcz76_7, hfz76_0, hfz76_1, hfz76_2, hfz76_3, hfz76_4, hfz76_5, hfz76_6, hfz76_7⟩ := cells8 BK354.out))
                    go_meet
                    case rel => exact ⟨_, (true), zs, H', ⟨by have := HJ9.out; have := HJ27.out; first | omega | exact Nat.le_refl _⟩, ⟨by (with_reducible repeat (first | apply Kd.R_alloc | apply Kd.R_drewN | apply Kd.R_drew)); exact HO_346000.out⟩, ⟨by (with_reducible repeat (first | apply Kd.R_alloc | apply Kd.R_drewN | apply Kd.R_drew)); exact HO_346001.out⟩, ⟨by exact pk BK345.out⟩, ⟨by exact pk BK354.out⟩, ⟨zb⟩⟩
                  ·rw [if_neg c62] at H
                   have c62b0 : decide ((wrap64 ((Int.tmod (rd t355 0) 300) + (Int.tmod (rd t355 1) 300))) ≤ x12_27) = false := decide_eq_false c62
                   clear c62
                   replace H := Option.bind_eq_some_iff.mp H
                   obtain ⟨t369, A770, H⟩ := H
                   replace H : (laws_FnFees.j2 kj27 (Int.tmod (rd t355 0) 300) (wrap64 ((Int.tmod (rd t355 0) 300) + (Int.tmod (rd t355 1) 300))) (wrap64 (1 + (Int.tmod (rd t355 2) 6))) x9_9 t362 x12_27 (t369 != (-1)) t339 t342 t346 t347 t348 t349 t350 t351 t352 t353) = some r := H
                   have A77 := aM A770
                   clear A770
                   have H' := aM H
                   clear H
                   have hnb78 := NB345_354.out
                   have hnc78 := NB354_345.out
                   obtain ⟨hcz79_0, hcz79_1, hfz79_0, hfz79_1⟩ := cells2 BK345.out
                   obtain ⟨hcz80_0, hcz80_1, hcz80_2, hcz80_3, hcz80_4, hcz80_5, hcz80_6, hcz80_7, hfz80_0, hfz80_1, hfz80_2, hfz80_3, hfz80_4, hfz80_5, hfz80_6, hfz80_7⟩ := cells8 BK354.out
                   go_wp2_with (first | ((with_reducible refine gate_callee (f := 23) rfl ?_); refine goesL_ (some 81) rfl rfl Try.func23 (by kernel_rfl) rfl #[.agg #[.slice Ao13 t339.length co13, .slice Ao15 t342.length co15], .agg #[.int .i64 t346, .int .i64 t347, .int .i64 t348, .int .i64 t349, .int .i64 t350, .int .i64 t351, .int .i64 t352, .int .i64 t353], .int .i64 (wrap64 (1 + (Int.tmod (rd t355 2) 6))), .int .i64 (Int.tmod (rd t355 0) 300), .int .i64 (wrap64 ((Int.tmod (rd t355 0) 300) + (Int.tmod (rd t355 1) 300))), .int .i64 x9_9] rfl za ?_; (with_reducible refine (spec_FeeOf.calls kj27 _ _ t339 _ _ t342 t346 t347 t348 t349 t350 t351 t352 t353 (wrap64 (1 + (Int.tmod (rd t355 2) 6))) (Int.tmod (rd t355 0) 300) (wrap64 ((Int.tmod (rd t355 0) 300) + (Int.tmod (rd t355 1) 300))) x9_9 t367 _ ?side1 ?side2 ?side3 ?side4 A41.out).mono ?_); (case side1 => repeat (first | exact (Kd.R_reads' HO_346000.out).2.2 | (with_reducible refine Kd.C_alloc ?_ _) | (with_reducible refine Kd.C_drewN ?_ _) | (with_reducible refine Kd.C_drew ?_))); (case side2 => exact (Kd.R_reads' HO_346000.out).2.1); (case side3 => repeat (first | exact (Kd.R_reads' HO_346001.out).2.2 | (with_reducible refine Kd.C_alloc ?_ _) | (with_reducible refine Kd.C_drewN ?_ _) | (with_reducible refine Kd.C_drew ?_))); (case side4 => exact (Kd.R_reads' HO_346001.out).2.1); rintro e w81 ⟨rfl, hb⟩; refine ⟨_, rfl, ?_⟩; have n0_ := aM (Kd.R_below (by (with_reducible repeat (first | apply Kd.R_alloc | apply Kd.R_drewN | apply Kd.R_drew)); exact HO_346000.out) hb); have n1_ := aM (Kd.R_below (by (with_reducible repeat (first | apply Kd.R_alloc | apply Kd.R_drewN | apply Kd.R_drew)); exact HO_346001.out) hb); have n2_ := aM (bb BK345.out hb); have n3_ := aM (bb BK354.out hb); have n4_ := aM (below_step (zb) hb); clear HO_346000; clear HO_346001; clear BK345; clear BK354; clear HB; have HO_346000 := n0_; have HO_346001 := n1_; have BK345 := n2_; have BK354 := n3_; have HB := n4_; clear n0_ n1_ n2_ n3_ n4_; (try clear hb); (try clear hb2); (try clear hk); (try clear hi); obtain ⟨hcz82_0, hcz82_1, hcz82_2, hcz82_3, hcz82_4, hcz82_5, hcz82_6, hcz82_7, hfz82_0, hfz82_1, hfz82_2, hfz82_3, hfz82_4, hfz82_5, hfz82_6, hfz82_7⟩ := cells8 BK354.out; obtain ⟨hcz83_0, hcz83_1, hfz83_0, hfz83_1⟩ := cells2 BK345.out) | (go_at_call 24; (with_reducible refine (impl_FeeOf.calls kj27 _ _ t339 _ _ t342 t346 t347 t348 t349 t350 t351 t352 t353 (wrap64 (1 + (Int.tmod (rd t355 2) 6))) (Int.tmod (rd t355 0) 300) (wrap64 ((Int.tmod (rd t355 0) 300) - 1)) x9_9 t369 _ ?side1 ?side2 ?side3 ?side4 A77.out).mono ?_); (case side1 => repeat (first | exact (Kd.R_reads' HO_346000.out).2.2 | (with_reducible refine Kd.C_alloc ?_ _) | (with_reducible refine Kd.C_drewN ?_ _) | (with_reducible refine Kd.C_drew ?_))); (case side2 => exact (Kd.R_reads' HO_346000.out).2.1); (case side3 => repeat (first | exact (Kd.R_reads' HO_346001.out).2.2 | (with_reducible refine Kd.C_alloc ?_ _) | (with_reducible refine Kd.C_drewN ?_ _) | (with_reducible refine Kd.C_drew ?_))); (case side4 => exact (Kd.R_reads' HO_346001.out).2.1); rintro e w84 ⟨rfl, hb⟩; have n0_ := aM (Kd.R_below (by (with_reducible repeat (first | apply Kd.R_alloc | apply Kd.R_drewN | apply Kd.R_drew)); exact HO_346000.out) hb); have n1_ := aM (Kd.R_below (by (with_reducible repeat (first | apply Kd.R_alloc | apply Kd.R_drewN | apply Kd.R_drew)); exact HO_346001.out) hb); have n2_ := aM (bb BK345.out hb); have n3_ := aM (bb BK354.out hb); have n4_ := aM (below_step (zb) hb); clear HO_346000; clear HO_346001; clear BK345; clear BK354; clear HB; have HO_346000 := n0_; have HO_346001 := n1_; have BK345 := n2_; have BK354 := n3_; have HB := n4_; clear n0_ n1_ n2_ n3_ n4_; (try clear hb); (try clear hb2); (try clear hk); (try clear hi)))
                   go_meet
                   case rel => exact ⟨_, ((t369 != (-1))), zs, H', ⟨by have := HJ9.out; have := HJ27.out; first | omega | exact Nat.le_refl _⟩, ⟨by (with_reducible repeat (first | apply Kd.R_alloc | apply Kd.R_drewN | apply Kd.R_drew)); exact HO_346000.out⟩, ⟨by (with_reducible repeat (first | apply Kd.R_alloc | apply Kd.R_drewN | apply Kd.R_drew)); exact HO_346001.out⟩, ⟨by exact pk BK345.out⟩, ⟨by exact pk BK354.out⟩, ⟨zb⟩⟩
                 ·replace c61 := Bool.eq_false_iff.mpr c61
                  subst c61
                  have H1 : (laws_FnFees.j2 kj27 (Int.tmod (rd t355 0) 300) (wrap64 ((Int.tmod (rd t355 0) 300) + (Int.tmod (rd t355 1) 300))) (wrap64 (1 + (Int.tmod (rd t355 2) 6))) x9_9 t362 x12_27 true t339 t342 t346 t347 t348 t349 t350 t351 t352 t353) = some r := by rw [if_neg (show ¬ (false = true) by decide)] at H; exact H
                  clear H
                  have H := H1
                  clear H1
                  have H' := aM H
                  clear H
                  have hnb85 := NB345_354.out
                  have hnc85 := NB354_345.out
                  obtain ⟨hcz86_0, hcz86_1, hfz86_0, hfz86_1⟩ := cells2 BK345.out
                  obtain ⟨hcz87_0, hcz87_1, hcz87_2, hcz87_3, hcz87_4, hcz87_5, hcz87_6, hcz87_7, hfz87_0, hfz87_1, hfz87_2, hfz87_3, hfz87_4, hfz87_5, hfz87_6, hfz87_7⟩ := cells8 BK354.out
                  go_wp2_with (first | ((with_reducible refine gate_callee (f := 23) rfl ?_); refine goesL_ (some 81) rfl rfl Try.func23 (by kernel_rfl) rfl #[.agg #[.slice Ao13 t339.length co13, .slice Ao15 t342.length co15], .agg #[.int .i64 t346, .int .i64 t347, .int .i64 t348, .int .i64 t349, .int .i64 t350, .int .i64 t351, .int .i64 t352, .int .i64 t353], .int .i64 (wrap64 (1 + (Int.tmod (rd t355 2) 6))), .int .i64 (Int.tmod (rd t355 0) 300), .int .i64 (wrap64 ((Int.tmod (rd t355 0) 300) + (Int.tmod (rd t355 1) 300))), .int .i64 x9_9] rfl za ?_; (with_reducible refine (spec_FeeOf.calls kj27 _ _ t339 _ _ t342 t346 t347 t348 t349 t350 t351 t352 t353 (wrap64 (1 + (Int.tmod (rd t355 2) 6))) (Int.tmod (rd t355 0) 300) (wrap64 ((Int.tmod (rd t355 0) 300) + (Int.tmod (rd t355 1) 300))) x9_9 t367 _ ?side1 ?side2 ?side3 ?side4 A41.out).mono ?_); (case side1 => repeat (first | exact (Kd.R_reads' HO_346000.out).2.2 | (with_reducible refine Kd.C_alloc ?_ _) | (with_reducible refine Kd.C_drewN ?_ _) | (with_reducible refine Kd.C_drew ?_))); (case side2 => exact (Kd.R_reads' HO_346000.out).2.1); (case side3 => repeat (first | exact (Kd.R_reads' HO_346001.out).2.2 | (with_reducible refine Kd.C_alloc ?_ _) | (with_reducible refine Kd.C_drewN ?_ _) | (with_reducible refine Kd.C_drew ?_))); (case side4 => exact (Kd.R_reads' HO_346001.out).2.1); rintro e w88 ⟨rfl, hb⟩; refine ⟨_, rfl, ?_⟩; have n0_ := aM (Kd.R_below (by (with_reducible repeat (first | apply Kd.R_alloc | apply Kd.R_drewN | apply Kd.R_drew)); exact HO_346000.out) hb); have n1_ := aM (Kd.R_below (by (with_reducible repeat (first | apply Kd.R_alloc | apply Kd.R_drewN | apply Kd.R_drew)); exact HO_346001.out) hb); have n2_ := aM (bb BK345.out hb); have n3_ := aM (bb BK354.out hb); have n4_ := aM (below_step (zb) hb); clear HO_346000; clear HO_346001; clear BK345; clear BK354; clear HB; have HO_346000 := n0_; have HO_346001 := n1_; have BK345 := n2_; have BK354 := n3_; have HB := n4_; clear n0_ n1_ n2_ n3_ n4_; (try clear hb); (try clear hb2); (try clear hk); (try clear hi); obtain ⟨hcz89_0, hcz89_1, hcz89_2, hcz89_3, hcz89_4, hcz89_5, hcz89_6, hcz89_7, hfz89_0, hfz89_1, hfz89_2, hfz89_3, hfz89_4, hfz89_5, hfz89_6, hfz89_7⟩ := cells8 BK354.out))
                  go_meet
                  case rel => exact ⟨_, (true), zs, H', ⟨by have := HJ9.out; have := HJ27.out; first | omega | exact Nat.le_refl _⟩, ⟨by (with_reducible repeat (first | apply Kd.R_alloc | apply Kd.R_drewN | apply Kd.R_drew)); exact HO_346000.out⟩, ⟨by (with_reducible repeat (first | apply Kd.R_alloc | apply Kd.R_drewN | apply Kd.R_drew)); exact HO_346001.out⟩, ⟨by exact pk BK345.out⟩, ⟨by exact pk BK354.out⟩, ⟨zb⟩⟩
             ·rw [if_neg c42] at H
              have c42b0 : (t362 == t367) = false := beq_eq_false_iff_ne.mpr c42
              have c42b1 : (t362 != t367) = true := bne_iff_ne.mpr c42
              (first | rw [c42b0] | (simp only [i64_w, i32_w]; rw [c42b0]) | skip)
              have H' := aM H
              clear H
              have hnb90 := NB345_354.out
              have hnc90 := NB354_345.out
              obtain ⟨hcz91_0, hcz91_1, hfz91_0, hfz91_1⟩ := cells2 BK345.out
              obtain ⟨hcz92_0, hcz92_1, hcz92_2, hcz92_3, hcz92_4, hcz92_5, hcz92_6, hcz92_7, hfz92_0, hfz92_1, hfz92_2, hfz92_3, hfz92_4, hfz92_5, hfz92_6, hfz92_7⟩ := cells8 BK354.out
              go_wp2_with (first | ((with_reducible refine gate_callee (f := 23) rfl ?_); refine goesL_ (some 81) rfl rfl Try.func23 (by kernel_rfl) rfl #[.agg #[.slice Ao13 t339.length co13, .slice Ao15 t342.length co15], .agg #[.int .i64 t346, .int .i64 t347, .int .i64 t348, .int .i64 t349, .int .i64 t350, .int .i64 t351, .int .i64 t352, .int .i64 t353], .int .i64 (wrap64 (1 + (Int.tmod (rd t355 2) 6))), .int .i64 (Int.tmod (rd t355 0) 300), .int .i64 (wrap64 ((Int.tmod (rd t355 0) 300) + (Int.tmod (rd t355 1) 300))), .int .i64 x9_9] rfl za ?_; (with_reducible refine (spec_FeeOf.calls kj27 _ _ t339 _ _ t342 t346 t347 t348 t349 t350 t351 t352 t353 (wrap64 (1 + (Int.tmod (rd t355 2) 6))) (Int.tmod (rd t355 0) 300) (wrap64 ((Int.tmod (rd t355 0) 300) + (Int.tmod (rd t355 1) 300))) x9_9 t367 _ ?side1 ?side2 ?side3 ?side4 A41.out).mono ?_); (case side1 => repeat (first | exact (Kd.R_reads' HO_346000.out).2.2 | (with_reducible refine Kd.C_alloc ?_ _) | (with_reducible refine Kd.C_drewN ?_ _) | (with_reducible refine Kd.C_drew ?_))); (case side2 => exact (Kd.R_reads' HO_346000.out).2.1); (case side3 => repeat (first | exact (Kd.R_reads' HO_346001.out).2.2 | (with_reducible refine Kd.C_alloc ?_ _) | (with_reducible refine Kd.C_drewN ?_ _) | (with_reducible refine Kd.C_drew ?_))); (case side4 => exact (Kd.R_reads' HO_346001.out).2.1); rintro e w93 ⟨rfl, hb⟩; refine ⟨_, rfl, ?_⟩; have n0_ := aM (Kd.R_below (by (with_reducible repeat (first | apply Kd.R_alloc | apply Kd.R_drewN | apply Kd.R_drew)); exact HO_346000.out) hb); have n1_ := aM (Kd.R_below (by (with_reducible repeat (first | apply Kd.R_alloc | apply Kd.R_drewN | apply Kd.R_drew)); exact HO_346001.out) hb); have n2_ := aM (bb BK345.out hb); have n3_ := aM (bb BK354.out hb); have n4_ := aM (below_step (zb) hb); clear HO_346000; clear HO_346001; clear BK345; clear BK354; clear HB; have HO_346000 := n0_; have HO_346001 := n1_; have BK345 := n2_; have BK354 := n3_; have HB := n4_; clear n0_ n1_ n2_ n3_ n4_; (try clear hb); (try clear hb2); (try clear hk); (try clear hi)))
              go_meet
              case rel => exact ⟨_, (true), zs, H', ⟨by have := HJ9.out; have := HJ27.out; first | omega | exact Nat.le_refl _⟩, ⟨by (with_reducible repeat (first | apply Kd.R_alloc | apply Kd.R_drewN | apply Kd.R_drew)); exact HO_346000.out⟩, ⟨by (with_reducible repeat (first | apply Kd.R_alloc | apply Kd.R_drewN | apply Kd.R_drew)); exact HO_346001.out⟩, ⟨by exact pk BK345.out⟩, ⟨by exact pk BK354.out⟩, ⟨zb⟩⟩
            case rest =>
             clear HC40
             try clear c1
             try clear c2
             try clear p2
             try clear c3
             try clear p3
             try clear q3
             try clear hx3
             try clear qi3
             try clear c4
             try clear c5
             try clear c6
             try clear p6
             try clear c7
             try clear c7b0
             try clear c7b1
             try clear c8
             try clear c8b0
             try clear c8b1
             try clear c9
             try clear c9b0
             try clear c9b1
             try clear c12
             try clear c18
             try clear c22
             try clear c22b0
             try clear c22b1
             try clear c23
             try clear c23b0
             try clear c23b1
             try clear c24
             try clear c26
             try clear c26b0
             try clear c26b1
             try clear c29
             try clear c33
             try clear c34
             try clear c35
             try clear p35
             try clear q35
             try clear hx35
             try clear qi35
             try clear c36
             try clear p36
             try clear q36
             try clear hx36
             try clear qi36
             try clear c42
             try clear c42b0
             try clear c42b1
             try clear c43
             try clear c43b0
             try clear c44
             try clear c49
             try clear c49b0
             try clear c50
             try clear c55
             try clear c55b0
             try clear c56
             try clear c61
             try clear c62
             try clear c62b0
             try clear c63
             try clear c63b0
             try clear c63b1
             try clear p64
             try clear c65
             try clear c72
             try clear c78
             try clear c85
             try clear c90
             try clear hcz14_0 hcz14_1 hfz14_0 hfz14_1
             try clear hcz19_0 hcz19_1 hcz19_2 hcz19_3 hcz19_4 hcz19_5 hcz19_6 hcz19_7 hfz19_0 hfz19_1 hfz19_2 hfz19_3 hfz19_4 hfz19_5 hfz19_6 hfz19_7
             try clear hcz30_0 hcz30_1 hfz30_0 hfz30_1
             try clear hcz31_0 hcz31_1 hcz31_2 hcz31_3 hcz31_4 hcz31_5 hcz31_6 hcz31_7 hfz31_0 hfz31_1 hfz31_2 hfz31_3 hfz31_4 hfz31_5 hfz31_6 hfz31_7
             try clear hcz37_0 hcz37_1 hfz37_0 hfz37_1
             try clear hcz38_0 hcz38_1 hcz38_2 hcz38_3 hcz38_4 hcz38_5 hcz38_6 hcz38_7 hfz38_0 hfz38_1 hfz38_2 hfz38_3 hfz38_4 hfz38_5 hfz38_6 hfz38_7
             try clear hcz45_0 hcz45_1 hfz45_0 hfz45_1
             try clear hcz46_0 hcz46_1 hcz46_2 hcz46_3 hcz46_4 hcz46_5 hcz46_6 hcz46_7 hfz46_0 hfz46_1 hfz46_2 hfz46_3 hfz46_4 hfz46_5 hfz46_6 hfz46_7
             try clear hcz48_0 hcz48_1 hcz48_2 hcz48_3 hcz48_4 hcz48_5 hcz48_6 hcz48_7 hfz48_0 hfz48_1 hfz48_2 hfz48_3 hfz48_4 hfz48_5 hfz48_6 hfz48_7
             try clear hcz51_0 hcz51_1 hfz51_0 hfz51_1
             try clear hcz52_0 hcz52_1 hcz52_2 hcz52_3 hcz52_4 hcz52_5 hcz52_6 hcz52_7 hfz52_0 hfz52_1 hfz52_2 hfz52_3 hfz52_4 hfz52_5 hfz52_6 hfz52_7
             try clear hcz54_0 hcz54_1 hcz54_2 hcz54_3 hcz54_4 hcz54_5 hcz54_6 hcz54_7 hfz54_0 hfz54_1 hfz54_2 hfz54_3 hfz54_4 hfz54_5 hfz54_6 hfz54_7
             try clear hcz57_0 hcz57_1 hfz57_0 hfz57_1
             try clear hcz58_0 hcz58_1 hcz58_2 hcz58_3 hcz58_4 hcz58_5 hcz58_6 hcz58_7 hfz58_0 hfz58_1 hfz58_2 hfz58_3 hfz58_4 hfz58_5 hfz58_6 hfz58_7
             try clear hcz60_0 hcz60_1 hcz60_2 hcz60_3 hcz60_4 hcz60_5 hcz60_6 hcz60_7 hfz60_0 hfz60_1 hfz60_2 hfz60_3 hfz60_4 hfz60_5 hfz60_6 hfz60_7
             try clear hcz66_0 hcz66_1 hfz66_0 hfz66_1
             try clear hcz67_0 hcz67_1 hcz67_2 hcz67_3 hcz67_4 hcz67_5 hcz67_6 hcz67_7 hfz67_0 hfz67_1 hfz67_2 hfz67_3 hfz67_4 hfz67_5 hfz67_6 hfz67_7
             try clear hcz69_0 hcz69_1 hcz69_2 hcz69_3 hcz69_4 hcz69_5 hcz69_6 hcz69_7 hfz69_0 hfz69_1 hfz69_2 hfz69_3 hfz69_4 hfz69_5 hfz69_6 hfz69_7
             try clear hcz70_0 hcz70_1 hfz70_0 hfz70_1
             try clear hcz73_0 hcz73_1 hfz73_0 hfz73_1
             try clear hcz74_0 hcz74_1 hcz74_2 hcz74_3 hcz74_4 hcz74_5 hcz74_6 hcz74_7 hfz74_0 hfz74_1 hfz74_2 hfz74_3 hfz74_4 hfz74_5 hfz74_6 hfz74_7
             try clear hcz76_0 hcz76_1 hcz76_2 hcz76_3 hcz76_4 hcz76_5 hcz76_6 hcz76_7 hfz76_0 hfz76_1 hfz76_2 hfz76_3 hfz76_4 hfz76_5 hfz76_6 hfz76_7
             try clear hcz79_0 hcz79_1 hfz79_0 hfz79_1
             try clear hcz80_0 hcz80_1 hcz80_2 hcz80_3 hcz80_4 hcz80_5 hcz80_6 hcz80_7 hfz80_0 hfz80_1 hfz80_2 hfz80_3 hfz80_4 hfz80_5 hfz80_6 hfz80_7
             try clear hcz82_0 hcz82_1 hcz82_2 hcz82_3 hcz82_4 hcz82_5 hcz82_6 hcz82_7 hfz82_0 hfz82_1 hfz82_2 hfz82_3 hfz82_4 hfz82_5 hfz82_6 hfz82_7
             try clear hcz83_0 hcz83_1 hfz83_0 hfz83_1
             try clear hcz86_0 hcz86_1 hfz86_0 hfz86_1
             try clear hcz87_0 hcz87_1 hcz87_2 hcz87_3 hcz87_4 hcz87_5 hcz87_6 hcz87_7 hfz87_0 hfz87_1 hfz87_2 hfz87_3 hfz87_4 hfz87_5 hfz87_6 hfz87_7
             try clear hcz89_0 hcz89_1 hcz89_2 hcz89_3 hcz89_4 hcz89_5 hcz89_6 hcz89_7 hfz89_0 hfz89_1 hfz89_2 hfz89_3 hfz89_4 hfz89_5 hfz89_6 hfz89_7
             try clear hcz91_0 hcz91_1 hfz91_0 hfz91_1
             try clear hcz92_0 hcz92_1 hcz92_2 hcz92_3 hcz92_4 hcz92_5 hcz92_6 hcz92_7 hfz92_0 hfz92_1 hfz92_2 hfz92_3 hfz92_4 hfz92_5 hfz92_6 hfz92_7
             try clear hx358_0
             try clear hx359_0
             try clear hx360_0
             try clear hx361_0
             try clear hx363_0
             try clear p2
             try clear p3
             try clear p35
             try clear p358
             try clear p359
             try clear p36
             try clear p360
             try clear p361
             try clear p363
             try clear p6
             try clear q3
             try clear q35
             try clear q358
             try clear q359
             try clear q36
             try clear q360
             try clear q361
             try clear q363
             obtain ⟨kq, x134_39, rfl, HA, HJ39, HO_346000, HO_346001, BK345, BK354, HB⟩ := hcut
             as_aux_lemma =>
              cases kq with
              | zero => exact absurd HA.out (by simp [laws_FnFees.j2])
              | succ kj39 =>
               have H := HA.out
               clear HA
               simp only [laws_FnFees.j2] at H
               by_cases c94 : x134_39 = true
               ·subst c94
                have H1 : (none) = some r := by rw [if_pos rfl] at H; exact H
                clear H
                have H := H1
                clear H1
                exact absurd H (by simp)
               ·replace c94 := Bool.eq_false_iff.mpr c94
                subst c94
                have H1 : (if x12_27 < 20000 then (if t349 > 0 then (if t350 > 0 then ((impl_FeeOf.f kj39 t339 t342 t346 t347 t348 t349 t350 t351 t352 t353 (wrap64 (1 + (Int.tmod (rd t355 2) 6))) (Int.tmod (rd t355 0) 300) (wrap64 (x12_27 + 1)) x9_9).bind fun t370 => (laws_FnFees.j3 kj39 (Int.tmod (rd t355 0) 300) (wrap64 ((Int.tmod (rd t355 0) 300) + (Int.tmod (rd t355 1) 300))) (wrap64 (1 + (Int.tmod (rd t355 2) 6))) x9_9 t362 (decide (t370 ≤ (wrap64 (x9_9 * t352)))) t339 t342 t346 t347 t348 t349 t350 t351 t352 t353)) else (laws_FnFees.j3 kj39 (Int.tmod (rd t355 0) 300) (wrap64 ((Int.tmod (rd t355 0) 300) + (Int.tmod (rd t355 1) 300))) (wrap64 (1 + (Int.tmod (rd t355 2) 6))) x9_9 t362 false t339 t342 t346 t347 t348 t349 t350 t351 t352 t353)) else (laws_FnFees.j3 kj39 (Int.tmod (rd t355 0) 300) (wrap64 ((Int.tmod (rd t355 0) 300) + (Int.tmod (rd t355 1) 300))) (wrap64 (1 + (Int.tmod (rd t355 2) 6))) x9_9 t362 false t339 t342 t346 t347 t348 t349 t350 t351 t352 t353)) else (laws_FnFees.j3 kj39 (Int.tmod (rd t355 0) 300) (wrap64 ((Int.tmod (rd t355 0) 300) + (Int.tmod (rd t355 1) 300))) (wrap64 (1 + (Int.tmod (rd t355 2) 6))) x9_9 t362 false t339 t342 t346 t347 t348 t349 t350 t351 t352 t353)) = some r := by rw [if_neg (show ¬ (false = true) by decide)] at H; exact H
                clear H
                have H := H1
                clear H1
                have HC95 := aM H
                clear H
                go_upto_region 15 with (fail)
                go_cut [161] (fun v161 wc => ∃ (kq : Nat) (x161_94 : Bool), v161 = .bool x161_94 ∧ Aside0 (laws_FnFees.j3 kq (Int.tmod (rd t355 0) 300) (wrap64 ((Int.tmod (rd t355 0) 300) + (Int.tmod (rd t355 1) 300))) (wrap64 (1 + (Int.tmod (rd t355 2) 6))) x9_9 t362 x161_94 t339 t342 t346 t347 t348 t349 t350 t351 t352 t353 = some r) ∧ Aside0 (kq ≤ kj39) ∧ Aside0 (Kd.R k71 71 wc w.heap.size (fun k_ => some k_ ≠ ((.slice Ao15 t342.length co15) : Value).ownBlock) (.slice Ao13 t339.length co13) t339) ∧ Aside0 (Kd.R k71 71 wc w.heap.size (fun k_ => some k_ ≠ ((.slice Ao13 t339.length co13) : Value).ownBlock) (.slice Ao15 t342.length co15) t342) ∧ Aside0 (wc.heap[gb345]? = some (.cells #[(.slice Ao13 t339.length co13), (.slice Ao15 t342.length co15)] 36 (0, 0))) ∧ Aside0 (wc.heap[gb354]? = some (.cells #[.int .i64 t346, .int .i64 t347, .int .i64 t348, .int .i64 t349, .int .i64 t350, .int .i64 t351, .int .i64 t352, .int .i64 t353] 25 (0, 0))) ∧ Aside0 (Below w.heap.size w wc))
                case first =>
                 have H := HC95.out
                 clear HC95
                 by_cases c96 : x12_27 < 20000
                 ·rw [if_pos c96] at H
                  have c96b0 : decide (x12_27 < 20000) = true := decide_eq_true c96
                  clear c96
                  (first | rw [c96b0] | (simp only [i64_w, i32_w]; rw [c96b0]) | skip)
                  by_cases c97 : t349 > 0
                  ·rw [if_pos c97] at H
                   have c97b0 : decide (0 < t349) = true := decide_eq_true c97
                   clear c97
                   by_cases c98 : t350 > 0
                   ·rw [if_pos c98] at H
                    have c98b0 : decide (0 < t350) = true := decide_eq_true c98
                    clear c98
                    replace H := Option.bind_eq_some_iff.mp H
                    obtain ⟨t370, A990, H⟩ := H
                    replace H : (laws_FnFees.j3 kj39 (Int.tmod (rd t355 0) 300) (wrap64 ((Int.tmod (rd t355 0) 300) + (Int.tmod (rd t355 1) 300))) (wrap64 (1 + (Int.tmod (rd t355 2) 6))) x9_9 t362 (decide (t370 ≤ (wrap64 (x9_9 * t352)))) t339 t342 t346 t347 t348 t349 t350 t351 t352 t353) = some r := H
                    have A99 := aM A990
                    clear A990
                    have H' := aM H
                    clear H
                    try go_wp2
                    have n0_ := aM (Kd.R_drew HO_346000.out)
                    have n1_ := aM (Kd.R_drew HO_346001.out)
                    have n2_ := aM (blk_drew BK345.out)
                    have n3_ := aM (blk_drew BK354.out)
                    have n4_ := aM (below_drew1 HB.out)
                    clear HO_346000
                    clear HO_346001
                    clear BK345
                    clear BK354
                    clear HB
                    have HO_346000 := n0_
                    have HO_346001 := n1_
                    have BK345 := n2_
                    have BK354 := n3_
                    have HB := n4_
                    clear n0_ n1_ n2_ n3_ n4_
                    refine start_ (n := 27) (S := fun w' => w'.cell? ⟨gb354, 0, none⟩ = some (.int .i64 t346) ∧ w'.cell? ⟨gb354, 1, none⟩ = some (.int .i64 t347) ∧ w'.cell? ⟨gb354, 2, none⟩ = some (.int .i64 t348) ∧ w'.cell? ⟨gb354, 3, none⟩ = some (.int .i64 t349) ∧ w'.cell? ⟨gb354, 4, none⟩ = some (.int .i64 t350) ∧ w'.cell? ⟨gb354, 5, none⟩ = some (.int .i64 t351) ∧ w'.cell? ⟨gb354, 6, none⟩ = some (.int .i64 t352) ∧ w'.cell? ⟨gb354, 7, none⟩ = some (.int .i64 t353) ∧ w'.cell? ⟨gb345, 0, none⟩ = some (.slice Ao13 t339.length co13) ∧ w'.cell? ⟨gb345, 1, none⟩ = some (.slice Ao15 t342.length co15)) (ds := []) #[false, false, false, false, false, false, false, false, false, false, false, false, false, false, false, false, false, false, false, false, false, false, false, false, false, false, false] (by kernel_rfl) rfl rfl ⟨(blk_cell BK354.out 0).trans rfl, (blk_cell BK354.out 1).trans rfl, (blk_cell BK354.out 2).trans rfl, (blk_cell BK354.out 3).trans rfl, (blk_cell BK354.out 4).trans rfl, (blk_cell BK354.out 5).trans rfl, (blk_cell BK354.out 6).trans rfl, (blk_cell BK354.out 7).trans rfl, (blk_cell BK345.out 0).trans rfl, (blk_cell BK345.out 1).trans rfl⟩ (fun hHeld => ?_); refine with_tabW laws_FnFees.tab15 laws_FnFees.bits15 (fun HT_ HW_ => ?_)
                    generalize wc.drew = w100 at HO_346000 HO_346001 BK345 BK354 HB hHeld ⊢
                    refine pure_ (i := 0) (N := some 135) (v := ?_) (a' := ?_) #[true, false, false, false, false, false, false, false, false, false, false, false, false, false, false, false, false, false, false, false, false, false, false, false, false, false, false] rfl rfl (any_of HT_.out (by kernel_rfl)) (fun _ _ _ h => h) (Or.inl ⟨by rfl, ?_⟩) ?_ ?_
                    rotate_left
                    ·intro w'
                     go_simp
                     with_reducible rfl
                    rotate_left
                    ·simp only [Act.put, List.setIfInBounds_toArray, List.set_cons_zero, List.set_cons_succ, i64_w, i32_w]
                     rfl
                    refine pure_ (i := 1) (N := some 136) (v := ?_) (a' := ?_) #[true, true, false, false, false, false, false, false, false, false, false, false, false, false, false, false, false, false, false, false, false, false, false, false, false, false, false] rfl rfl (any_of HT_.out (by kernel_rfl)) (fun _ _ _ h => h) (Or.inl ⟨by rfl, ?_⟩) ?_ ?_
                    rotate_left
                    ·intro w'
                     go_simp
                     with_reducible rfl
                    rotate_left
                    ·simp only [Act.put, List.setIfInBounds_toArray, List.set_cons_zero, List.set_cons_succ, i64_w, i32_w]
                     rfl
                    refine pure_ (i := 2) (N := some 137) (v := ?_) (a' := ?_) #[true, true, true, false, false, false, false, false, false, false, false, false, false, false, false, false, false, false, false, false, false, false, false, false, false, false, false] rfl rfl (any_of HT_.out (by kernel_rfl)) (fun _ _ _ h => h) (Or.inl ⟨by rfl, ?_⟩) ?_ ?_
                    rotate_left
                    ·intro w'
                     go_simp
                     with_reducible rfl
                    rotate_left
                    ·simp only [Act.put, List.setIfInBounds_toArray, List.set_cons_zero, List.set_cons_succ, i64_w, i32_w]
                     rfl
                    refine pure_ (i := 3) (N := some 138) (v := ?_) (a' := ?_) #[true, true, true, true, false, false, false, false, false, false, false, false, false, false, false, false, false, false, false, false, false, false, false, false, false, false, false] rfl rfl (any_of HT_.out (by kernel_rfl)) (fun _ _ _ h => h) (Or.inl ⟨by rfl, ?_⟩) ?_ ?_
                    rotate_left
                    ·intro w'
                     go_simp
                     with_reducible rfl
                    rotate_left
                    ·simp only [Act.put, List.setIfInBounds_toArray, List.set_cons_zero, List.set_cons_succ, i64_w, i32_w]
                     rfl
                    refine take_ (i := 4) (N := some 139) (v := ?_) (a' := ?_) #[true, true, true, true, true, false, false, false, false, false, false, false, false, false, false, false, false, false, false, false, false, false, false, false, false, false, false] rfl rfl (take_ofW HT_.out HW_.out (by kernel_rfl)) (fun _ _ _ h => h) (Or.inl ⟨by rfl, ?_⟩) hHeld ?_ ?_
                    rotate_left
                    ·rintro w' ⟨s0, s1, s2, s3, s4, s5, s6, s7, s8, s9⟩
                     go_simp
                     with_reducible rfl
                    rotate_left
                    ·simp only [Act.put, List.setIfInBounds_toArray, List.set_cons_zero, List.set_cons_succ, i64_w, i32_w]
                     rfl
                    refine pure_ (i := 5) (N := some 140) (v := ?_) (a' := ?_) #[true, true, true, true, true, true, false, false, false, false, false, false, false, false, false, false, false, false, false, false, false, false, false, false, false, false, false] rfl rfl (any_of HT_.out (by kernel_rfl)) (fun _ _ _ h => h) (Or.inl ⟨by rfl, ?_⟩) ?_ ?_
                    rotate_left
                    ·intro w'
                     go_simp
                     with_reducible rfl
                    rotate_left
                    ·simp only [Act.put, List.setIfInBounds_toArray, List.set_cons_zero, List.set_cons_succ, i64_w, i32_w]
                     rfl
                    refine pure_ (i := 6) (N := some 141) (v := ?_) (a' := ?_) #[true, true, true, true, true, true, true, false, false, false, false, false, false, false, false, false, false, false, false, false, false, false, false, false, false, false, false] rfl rfl (any_of HT_.out (by kernel_rfl)) (fun _ _ _ h => h) (Or.inl ⟨by rfl, ?_⟩) ?_ ?_
                    rotate_left
                    ·intro w'
                     go_simp
                     with_reducible rfl
                    rotate_left
                    ·simp only [Act.put, List.setIfInBounds_toArray, List.set_cons_zero, List.set_cons_succ, i64_w, i32_w]
                     rfl
                    refine pure_ (i := 7) (N := some 142) (v := ?_) (a' := ?_) #[true, true, true, true, true, true, true, true, false, false, false, false, false, false, false, false, false, false, false, false, false, false, false, false, false, false, false] rfl rfl (any_of HT_.out (by kernel_rfl)) (fun _ _ _ h => h) (Or.inl ⟨by rfl, ?_⟩) ?_ ?_
                    rotate_left
                    ·intro w'
                     go_simp
                     with_reducible rfl
                    rotate_left
                    ·simp only [Act.put, List.setIfInBounds_toArray, List.set_cons_zero, List.set_cons_succ, i64_w, i32_w]
                     rfl
                    refine pure_ (i := 8) (N := some 143) (v := ?_) (a' := ?_) #[true, true, true, true, true, true, true, true, true, false, false, false, false, false, false, false, false, false, false, false, false, false, false, false, false, false, false] rfl rfl (any_of HT_.out (by kernel_rfl)) (fun _ _ _ h => h) (Or.inl ⟨by rfl, ?_⟩) ?_ ?_
                    rotate_left
                    ·intro w'
                     go_simp
                     with_reducible rfl
                    rotate_left
                    ·simp only [Act.put, List.setIfInBounds_toArray, List.set_cons_zero, List.set_cons_succ, i64_w, i32_w]
                     rfl
                    refine take_ (i := 9) (N := some 144) (v := ?_) (a' := ?_) #[true, true, true, true, true, true, true, true, true, true, false, false, false, false, false, false, false, false, false, false, false, false, false, false, false, false, false] rfl rfl (take_ofW HT_.out HW_.out (by kernel_rfl)) (fun _ _ _ h => h) (Or.inl ⟨by rfl, ?_⟩) hHeld ?_ ?_
                    rotate_left
                    ·rintro w' ⟨s0, s1, s2, s3, s4, s5, s6, s7, s8, s9⟩
                     go_simp
                     with_reducible rfl
                    rotate_left
                    ·simp only [Act.put, List.setIfInBounds_toArray, List.set_cons_zero, List.set_cons_succ, i64_w, i32_w]
                     rfl
                    refine pure_ (i := 10) (N := some 145) (v := ?_) (a' := ?_) #[true, true, true, true, true, true, true, true, true, true, true, false, false, false, false, false, false, false, false, false, false, false, false, false, false, false, false] rfl rfl (any_of HT_.out (by kernel_rfl)) (fun _ _ _ h => h) (Or.inl ⟨by rfl, ?_⟩) ?_ ?_
                    rotate_left
                    ·intro w'
                     go_simp
                     with_reducible rfl
                    rotate_left
                    ·simp only [Act.put, List.setIfInBounds_toArray, List.set_cons_zero, List.set_cons_succ, i64_w, i32_w]
                     rfl
                    refine pure_ (i := 11) (N := some 146) (v := ?_) (a' := ?_) #[true, true, true, true, true, true, true, true, true, true, true, true, false, false, false, false, false, false, false, false, false, false, false, false, false, false, false] rfl rfl (any_of HT_.out (by kernel_rfl)) (fun _ _ _ h => h) (Or.inl ⟨by rfl, ?_⟩) ?_ ?_
                    rotate_left
                    ·intro w'
                     go_simp
                     with_reducible rfl
                    rotate_left
                    ·simp only [Act.put, List.setIfInBounds_toArray, List.set_cons_zero, List.set_cons_succ, i64_w, i32_w]
                     rfl
                    refine pure_ (i := 12) (N := some 147) (v := ?_) (a' := ?_) #[true, true, true, true, true, true, true, true, true, true, true, true, true, false, false, false, false, false, false, false, false, false, false, false, false, false, false] rfl rfl (any_of HT_.out (by kernel_rfl)) (fun _ _ _ h => h) (Or.inl ⟨by rfl, ?_⟩) ?_ ?_
                    rotate_left
                    ·intro w'
                     go_simp
                     with_reducible rfl
                    rotate_left
                    ·simp only [Act.put, List.setIfInBounds_toArray, List.set_cons_zero, List.set_cons_succ, i64_w, i32_w]
                     rfl
                    refine pure_ (i := 15) (N := some 150) (v := ?_) (a' := ?_) #[true, true, true, true, true, true, true, true, true, true, true, true, true, false, false, true, false, false, false, false, false, false, false, false, false, false, false] rfl rfl (any_of HT_.out (by kernel_rfl)) (fun _ _ _ h => h) (Or.inl ⟨by rfl, ?_⟩) ?_ ?_
                    rotate_left
                    ·intro w'
                     go_simp
                     with_reducible rfl
                    rotate_left
                    ·simp only [Act.put, List.setIfInBounds_toArray, List.set_cons_zero, List.set_cons_succ, i64_w, i32_w]
                     rfl
                    refine pure_ (i := 16) (N := some 151) (v := ?_) (a' := ?_) #[true, true, true, true, true, true, true, true, true, true, true, true, true, false, false, true, true, false, false, false, false, false, false, false, false, false, false] rfl rfl (any_of HT_.out (by kernel_rfl)) (fun _ _ _ h => h) (Or.inl ⟨by rfl, ?_⟩) ?_ ?_
                    rotate_left
                    ·intro w'
                     go_simp
                     with_reducible rfl
                    rotate_left
                    ·simp only [Act.put, List.setIfInBounds_toArray, List.set_cons_zero, List.set_cons_succ, i64_w, i32_w]
                     rfl
                    refine pure_ (i := 17) (N := some 152) (v := ?_) (a' := ?_) #[true, true, true, true, true, true, true, true, true, true, true, true, true, false, false, true, true, true, false, false, false, false, false, false, false, false, false] rfl rfl (any_of HT_.out (by kernel_rfl)) (fun _ _ _ h => h) (Or.inl ⟨by rfl, ?_⟩) ?_ ?_
                    rotate_left
                    ·intro w'
                     go_simp
                     with_reducible rfl
                    rotate_left
                    ·simp only [Act.put, List.setIfInBounds_toArray, List.set_cons_zero, List.set_cons_succ, i64_w, i32_w]
                     rfl
                    refine pure_ (i := 18) (N := some 153) (v := ?_) (a' := ?_) #[true, true, true, true, true, true, true, true, true, true, true, true, true, false, false, true, true, true, true, false, false, false, false, false, false, false, false] rfl rfl (any_of HT_.out (by kernel_rfl)) (fun _ _ _ h => h) (Or.inl ⟨by rfl, ?_⟩) ?_ ?_
                    rotate_left
                    ·intro w'
                     go_simp
                     with_reducible rfl
                    rotate_left
                    ·simp only [Act.put, List.setIfInBounds_toArray, List.set_cons_zero, List.set_cons_succ, i64_w, i32_w]
                     rfl
                    refine pure_ (i := 19) (N := some 154) (v := ?_) (a' := ?_) #[true, true, true, true, true, true, true, true, true, true, true, true, true, false, false, true, true, true, true, true, false, false, false, false, false, false, false] rfl rfl (any_of HT_.out (by kernel_rfl)) (fun _ _ _ h => h) (Or.inl ⟨by rfl, ?_⟩) ?_ ?_
                    rotate_left
                    ·intro w'
                     go_simp
                     with_reducible rfl
                    rotate_left
                    ·simp only [Act.put, List.setIfInBounds_toArray, List.set_cons_zero, List.set_cons_succ, i64_w, i32_w]
                     rfl
                    refine pure_ (i := 21) (N := some 156) (v := ?_) (a' := ?_) #[true, true, true, true, true, true, true, true, true, true, true, true, true, false, false, true, true, true, true, true, false, true, false, false, false, false, false] rfl rfl (any_of HT_.out (by kernel_rfl)) (fun _ _ _ h => h) (Or.inl ⟨by rfl, ?_⟩) ?_ ?_
                    rotate_left
                    ·intro w'
                     go_simp
                     with_reducible rfl
                    rotate_left
                    ·simp only [Act.put, List.setIfInBounds_toArray, List.set_cons_zero, List.set_cons_succ, i64_w, i32_w]
                     rfl
                    refine pure_ (i := 22) (N := some 157) (v := ?_) (a' := ?_) #[true, true, true, true, true, true, true, true, true, true, true, true, true, false, false, true, true, true, true, true, false, true, true, false, false, false, false] rfl rfl (any_of HT_.out (by kernel_rfl)) (fun _ _ _ h => h) (Or.inl ⟨by rfl, ?_⟩) ?_ ?_
                    rotate_left
                    ·intro w'
                     go_simp
                     with_reducible rfl
                    rotate_left
                    ·simp only [Act.put, List.setIfInBounds_toArray, List.set_cons_zero, List.set_cons_succ, i64_w, i32_w]
                     rfl
                    refine take_ (i := 13) (N := some 148) (v := ?_) (a' := ?_) #[true, true, true, true, true, true, true, true, true, true, true, true, true, true, false, true, true, true, true, true, false, true, true, false, false, false, false] rfl rfl (take_ofW HT_.out HW_.out (by kernel_rfl)) (fun _ _ _ h => h) (Or.inl ⟨by rfl, ?_⟩) hHeld ?_ ?_
                    rotate_left
                    ·rintro w' ⟨s0, s1, s2, s3, s4, s5, s6, s7, s8, s9⟩
                     go_simp
                     with_reducible rfl
                    rotate_left
                    ·simp only [Act.put, List.setIfInBounds_toArray, List.set_cons_zero, List.set_cons_succ, i64_w, i32_w]
                     rfl
                    refine take_ (i := 14) (N := some 149) (v := ?_) (a' := ?_) #[true, true, true, true, true, true, true, true, true, true, true, true, true, true, true, true, true, true, true, true, false, true, true, false, false, false, false] rfl rfl (take_ofW HT_.out HW_.out (by kernel_rfl)) (fun _ _ _ h => h) (Or.inl ⟨by rfl, ?_⟩) hHeld ?_ ?_
                    rotate_left
                    ·rintro w' ⟨s0, s1, s2, s3, s4, s5, s6, s7, s8, s9⟩
                     go_simp
                     with_reducible rfl
                    rotate_left
                    ·simp only [Act.put, List.setIfInBounds_toArray, List.set_cons_zero, List.set_cons_succ, i64_w, i32_w]
                     rfl
                    refine take_ (i := 23) (N := some 158) (v := ?_) (a' := ?_) #[true, true, true, true, true, true, true, true, true, true, true, true, true, true, true, true, true, true, true, true, false, true, true, true, false, false, false] rfl rfl (take_ofW HT_.out HW_.out (by kernel_rfl)) (fun _ _ _ h => h) (Or.inl ⟨by rfl, ?_⟩) hHeld ?_ ?_
                    rotate_left
                    ·rintro w' ⟨s0, s1, s2, s3, s4, s5, s6, s7, s8, s9⟩
                     go_simp
                     with_reducible rfl
                    rotate_left
                    ·simp only [Act.put, List.setIfInBounds_toArray, List.set_cons_zero, List.set_cons_succ, i64_w, i32_w]
                     rfl
                    refine pure_ (i := 24) (N := some 159) (v := ?_) (a' := ?_) #[true, true, true, true, true, true, true, true, true, true, true, true, true, true, true, true, true, true, true, true, false, true, true, true, true, false, false] rfl rfl (any_of HT_.out (by kernel_rfl)) (fun _ _ _ h => h) (Or.inl ⟨by rfl, ?_⟩) ?_ ?_
                    rotate_left
                    ·intro w'
                     go_simp
                     with_reducible rfl
                    rotate_left
                    ·simp only [Act.put, List.setIfInBounds_toArray, List.set_cons_zero, List.set_cons_succ, i64_w, i32_w]
                     rfl
                    refine one_ (i := 20) (N := some 155) #[true, true, true, true, true, true, true, true, true, true, true, true, true, true, true, true, true, true, true, true, true, true, true, true, true, false, false] rfl rfl (one_of HT_.out (by kernel_rfl)) (by decide) (fun K hK => ?_)
                    refine goes_ Try.func24 (by kernel_rfl) rfl #[.agg #[.slice Ao13 t339.length co13, .slice Ao15 t342.length co15], .agg #[.int .i64 t346, .int .i64 t347, .int .i64 t348, .int .i64 t349, .int .i64 t350, .int .i64 t351, .int .i64 t352, .int .i64 t353], .int .i64 (wrap64 (1 + (Int.tmod (rd t355 2) 6))), .int .i64 (Int.tmod (rd t355 0) 300), .int .i64 (wrap64 (x12_27 + 1)), .int .i64 x9_9] (by rfl) rfl rfl za ?_
                    with_reducible refine (impl_FeeOf.calls kj39 _ _ t339 _ _ t342 t346 t347 t348 t349 t350 t351 t352 t353 (wrap64 (1 + (Int.tmod (rd t355 2) 6))) (Int.tmod (rd t355 0) 300) (wrap64 (x12_27 + 1)) x9_9 t370 _ ?side1 ?side2 ?side3 ?side4 A99.out).mono ?_
                    (case side1 => repeat (first | exact (Kd.R_reads' HO_346000.out).2.2 | (with_reducible refine Kd.C_alloc ?_ _) | (with_reducible refine Kd.C_drewN ?_ _) | (with_reducible refine Kd.C_drew ?_)))
                    (case side2 => exact (Kd.R_reads' HO_346000.out).2.1)
                    (case side3 => repeat (first | exact (Kd.R_reads' HO_346001.out).2.2 | (with_reducible refine Kd.C_alloc ?_ _) | (with_reducible refine Kd.C_drewN ?_ _) | (with_reducible refine Kd.C_drew ?_)))
                    (case side4 => exact (Kd.R_reads' HO_346001.out).2.1)
                    rintro e w101 ⟨rfl, hb⟩
                    refine ⟨_, rfl, ?_⟩
                    have n0_ := aM (Kd.R_below (by (with_reducible repeat (first | apply Kd.R_alloc | apply Kd.R_drewN | apply Kd.R_drew)); exact HO_346000.out) hb)
                    have n1_ := aM (Kd.R_below (by (with_reducible repeat (first | apply Kd.R_alloc | apply Kd.R_drewN | apply Kd.R_drew)); exact HO_346001.out) hb)
                    have n2_ := aM (bb BK345.out hb)
                    have n3_ := aM (bb BK354.out hb)
                    have n4_ := aM (below_step (zb) hb)
                    clear HO_346000
                    clear HO_346001
                    clear BK345
                    clear BK354
                    clear HB
                    have HO_346000 := n0_
                    have HO_346001 := n1_
                    have BK345 := n2_
                    have BK354 := n3_
                    have HB := n4_
                    clear n0_ n1_ n2_ n3_ n4_
                    (try clear hb)
                    (try clear hb2)
                    (try clear hk)
                    (try clear hi)
                    refine hK.out _ _ ⟨(blk_cell BK354.out 0).trans rfl, (blk_cell BK354.out 1).trans rfl, (blk_cell BK354.out 2).trans rfl, (blk_cell BK354.out 3).trans rfl, (blk_cell BK354.out 4).trans rfl, (blk_cell BK354.out 5).trans rfl, (blk_cell BK354.out 6).trans rfl, (blk_cell BK354.out 7).trans rfl, (blk_cell BK345.out 0).trans rfl, (blk_cell BK345.out 1).trans rfl⟩ (fun hHeld => ?_)
                    clear hK K
                    refine norm_ (a' := ?_) ?_ ?_
                    rotate_left
                    ·show Act.put _ (some 155) _ = _
                     simp only [Act.put, List.setIfInBounds_toArray, List.set_cons_zero, List.set_cons_succ, i64_w, i32_w]
                     rfl
                    refine pure_ (i := 25) (N := some 160) (v := ?_) (a' := ?_) #[true, true, true, true, true, true, true, true, true, true, true, true, true, true, true, true, true, true, true, true, true, true, true, true, true, true, false] rfl rfl (any_of HT_.out (by kernel_rfl)) (fun _ _ _ h => h) (Or.inl ⟨by rfl, ?_⟩) ?_ ?_
                    rotate_left
                    ·intro w'
                     go_simp
                     with_reducible rfl
                    rotate_left
                    ·simp only [Act.put, List.setIfInBounds_toArray, List.set_cons_zero, List.set_cons_succ, i64_w, i32_w]
                     rfl
                    refine pure_ (i := 26) (N := some 161) (v := ?_) (a' := ?_) #[true, true, true, true, true, true, true, true, true, true, true, true, true, true, true, true, true, true, true, true, true, true, true, true, true, true, true] rfl rfl (any_of HT_.out (by kernel_rfl)) (fun _ _ _ h => h) (Or.inl ⟨by rfl, ?_⟩) ?_ ?_
                    rotate_left
                    ·intro w'
                     go_simp
                     with_reducible rfl
                    rotate_left
                    ·simp only [Act.put, List.setIfInBounds_toArray, List.set_cons_zero, List.set_cons_succ, i64_w, i32_w]
                     rfl
                    refine done_ (done_of HT_.out (by kernel_rfl)) ?_
                    try go_wp2
                    go_meet
                    case rel => exact ⟨_, (decide (t370 ≤ (wrap64 (x9_9 * t352)))), zs, H', ⟨by have := HJ9.out; have := HJ27.out; have := HJ39.out; first | omega | exact Nat.le_refl _⟩, ⟨by (with_reducible repeat (first | apply Kd.R_alloc | apply Kd.R_drewN | apply Kd.R_drew)); exact HO_346000.out⟩, ⟨by (with_reducible repeat (first | apply Kd.R_alloc | apply Kd.R_drewN | apply Kd.R_drew)); exact HO_346001.out⟩, ⟨by exact pk BK345.out⟩, ⟨by exact pk BK354.out⟩, ⟨zb⟩⟩
                   ·rw [if_neg c98] at H
                    have c98b0 : decide (0 < t350) = false := decide_eq_false c98
                    clear c98
                    have H' := aM H
                    clear H
                    try go_wp2
                    have n0_ := aM (Kd.R_drew HO_346000.out)
                    have n1_ := aM (Kd.R_drew HO_346001.out)
                    have n2_ := aM (blk_drew BK345.out)
                    have n3_ := aM (blk_drew BK354.out)
                    have n4_ := aM (below_drew1 HB.out)
                    clear HO_346000
                    clear HO_346001
                    clear BK345
                    clear BK354
                    clear HB
                    have HO_346000 := n0_
                    have HO_346001 := n1_
                    have BK345 := n2_
                    have BK354 := n3_
                    have HB := n4_
                    clear n0_ n1_ n2_ n3_ n4_
                    refine start_ (n := 27) (S := fun w' => w'.cell? ⟨gb354, 0, none⟩ = some (.int .i64 t346) ∧ w'.cell? ⟨gb354, 1, none⟩ = some (.int .i64 t347) ∧ w'.cell? ⟨gb354, 2, none⟩ = some (.int .i64 t348) ∧ w'.cell? ⟨gb354, 3, none⟩ = some (.int .i64 t349) ∧ w'.cell? ⟨gb354, 4, none⟩ = some (.int .i64 t350) ∧ w'.cell? ⟨gb354, 5, none⟩ = some (.int .i64 t351) ∧ w'.cell? ⟨gb354, 6, none⟩ = some (.int .i64 t352) ∧ w'.cell? ⟨gb354, 7, none⟩ = some (.int .i64 t353)) (ds := []) #[false, false, false, false, false, false, false, false, false, false, false, false, false, false, false, false, false, false, false, false, false, false, false, false, false, false, false] (by kernel_rfl) rfl rfl ⟨(blk_cell BK354.out 0).trans rfl, (blk_cell BK354.out 1).trans rfl, (blk_cell BK354.out 2).trans rfl, (blk_cell BK354.out 3).trans rfl, (blk_cell BK354.out 4).trans rfl, (blk_cell BK354.out 5).trans rfl, (blk_cell BK354.out 6).trans rfl, (blk_cell BK354.out 7).trans rfl⟩ (fun hHeld => ?_); refine with_tabW laws_FnFees.tab15 laws_FnFees.bits15 (fun HT_ HW_ => ?_)
                    generalize wc.drew = w102 at HO_346000 HO_346001 BK345 BK354 HB hHeld ⊢
                    refine pure_ (i := 0) (N := some 135) (v := ?_) (a' := ?_) #[true, false, false, false, false, false, false, false, false, false, false, false, false, false, false, false, false, false, false, false, false, false, false, false, false, false, false] rfl rfl (any_of HT_.out (by kernel_rfl)) (fun _ _ _ h => h) (Or.inl ⟨by rfl, ?_⟩) ?_ ?_
                    rotate_left
                    ·intro w'
                     go_simp
                     with_reducible rfl
                    rotate_left
                    ·simp only [Act.put, List.setIfInBounds_toArray, List.set_cons_zero, List.set_cons_succ, i64_w, i32_w]
                     rfl
                    refine pure_ (i := 1) (N := some 136) (v := ?_) (a' := ?_) #[true, true, false, false, false, false, false, false, false, false, false, false, false, false, false, false, false, false, false, false, false, false, false, false, false, false, false] rfl rfl (any_of HT_.out (by kernel_rfl)) (fun _ _ _ h => h) (Or.inl ⟨by rfl, ?_⟩) ?_ ?_
                    rotate_left
                    ·intro w'
                     go_simp
                     with_reducible rfl
                    rotate_left
                    ·simp only [Act.put, List.setIfInBounds_toArray, List.set_cons_zero, List.set_cons_succ, i64_w, i32_w]
                     rfl
                    refine pure_ (i := 2) (N := some 137) (v := ?_) (a' := ?_) #[true, true, true, false, false, false, false, false, false, false, false, false, false, false, false, false, false, false, false, false, false, false, false, false, false, false, false] rfl rfl (any_of HT_.out (by kernel_rfl)) (fun _ _ _ h => h) (Or.inl ⟨by rfl, ?_⟩) ?_ ?_
                    rotate_left
                    ·intro w'
                     go_simp
                     with_reducible rfl
                    rotate_left
                    ·simp only [Act.put, List.setIfInBounds_toArray, List.set_cons_zero, List.set_cons_succ, i64_w, i32_w]
                     rfl
                    refine pure_ (i := 3) (N := some 138) (v := ?_) (a' := ?_) #[true, true, true, true, false, false, false, false, false, false, false, false, false, false, false, false, false, false, false, false, false, false, false, false, false, false, false] rfl rfl (any_of HT_.out (by kernel_rfl)) (fun _ _ _ h => h) (Or.inl ⟨by rfl, ?_⟩) ?_ ?_
                    rotate_left
                    ·intro w'
                     go_simp
                     with_reducible rfl
                    rotate_left
                    ·simp only [Act.put, List.setIfInBounds_toArray, List.set_cons_zero, List.set_cons_succ, i64_w, i32_w]
                     rfl
                    refine take_ (i := 4) (N := some 139) (v := ?_) (a' := ?_) #[true, true, true, true, true, false, false, false, false, false, false, false, false, false, false, false, false, false, false, false, false, false, false, false, false, false, false] rfl rfl (take_ofW HT_.out HW_.out (by kernel_rfl)) (fun _ _ _ h => h) (Or.inl ⟨by rfl, ?_⟩) hHeld ?_ ?_
                    rotate_left
                    ·rintro w' ⟨s0, s1, s2, s3, s4, s5, s6, s7⟩
                     go_simp
                     with_reducible rfl
                    rotate_left
                    ·simp only [Act.put, List.setIfInBounds_toArray, List.set_cons_zero, List.set_cons_succ, i64_w, i32_w]
                     rfl
                    refine pure_ (i := 5) (N := some 140) (v := ?_) (a' := ?_) #[true, true, true, true, true, true, false, false, false, false, false, false, false, false, false, false, false, false, false, false, false, false, false, false, false, false, false] rfl rfl (any_of HT_.out (by kernel_rfl)) (fun _ _ _ h => h) (Or.inl ⟨by rfl, ?_⟩) ?_ ?_
                    rotate_left
                    ·intro w'
                     go_simp
                     with_reducible rfl
                    rotate_left
                    ·simp only [Act.put, List.setIfInBounds_toArray, List.set_cons_zero, List.set_cons_succ, i64_w, i32_w]
                     rfl
                    refine pure_ (i := 6) (N := some 141) (v := ?_) (a' := ?_) #[true, true, true, true, true, true, true, false, false, false, false, false, false, false, false, false, false, false, false, false, false, false, false, false, false, false, false] rfl rfl (any_of HT_.out (by kernel_rfl)) (fun _ _ _ h => h) (Or.inl ⟨by rfl, ?_⟩) ?_ ?_
                    rotate_left
                    ·intro w'
                     go_simp
                     with_reducible rfl
                    rotate_left
                    ·simp only [Act.put, List.setIfInBounds_toArray, List.set_cons_zero, List.set_cons_succ, i64_w, i32_w]
                     rfl
                    refine pure_ (i := 7) (N := some 142) (v := ?_) (a' := ?_) #[true, true, true, true, true, true, true, true, false, false, false, false, false, false, false, false, false, false, false, false, false, false, false, false, false, false, false] rfl rfl (any_of HT_.out (by kernel_rfl)) (fun _ _ _ h => h) (Or.inl ⟨by rfl, ?_⟩) ?_ ?_
                    rotate_left
                    ·intro w'
                     go_simp
                     with_reducible rfl
                    rotate_left
                    ·simp only [Act.put, List.setIfInBounds_toArray, List.set_cons_zero, List.set_cons_succ, i64_w, i32_w]
                     rfl
                    refine pure_ (i := 8) (N := some 143) (v := ?_) (a' := ?_) #[true, true, true, true, true, true, true, true, true, false, false, false, false, false, false, false, false, false, false, false, false, false, false, false, false, false, false] rfl rfl (any_of HT_.out (by kernel_rfl)) (fun _ _ _ h => h) (Or.inl ⟨by rfl, ?_⟩) ?_ ?_
                    rotate_left
                    ·intro w'
                     go_simp
                     with_reducible rfl
                    rotate_left
                    ·simp only [Act.put, List.setIfInBounds_toArray, List.set_cons_zero, List.set_cons_succ, i64_w, i32_w]
                     rfl
                    refine take_ (i := 9) (N := some 144) (v := ?_) (a' := ?_) #[true, true, true, true, true, true, true, true, true, true, false, false, false, false, false, false, false, false, false, false, false, false, false, false, false, false, false] rfl rfl (take_ofW HT_.out HW_.out (by kernel_rfl)) (fun _ _ _ h => h) (Or.inl ⟨by rfl, ?_⟩) hHeld ?_ ?_
                    rotate_left
                    ·rintro w' ⟨s0, s1, s2, s3, s4, s5, s6, s7⟩
                     go_simp
                     with_reducible rfl
                    rotate_left
                    ·simp only [Act.put, List.setIfInBounds_toArray, List.set_cons_zero, List.set_cons_succ, i64_w, i32_w]
                     rfl
                    refine pure_ (i := 10) (N := some 145) (v := ?_) (a' := ?_) #[true, true, true, true, true, true, true, true, true, true, true, false, false, false, false, false, false, false, false, false, false, false, false, false, false, false, false] rfl rfl (any_of HT_.out (by kernel_rfl)) (fun _ _ _ h => h) (Or.inl ⟨by rfl, ?_⟩) ?_ ?_
                    rotate_left
                    ·intro w'
                     go_simp
                     with_reducible rfl
                    rotate_left
                    ·simp only [Act.put, List.setIfInBounds_toArray, List.set_cons_zero, List.set_cons_succ, i64_w, i32_w]
                     rfl
                    refine pure_ (i := 11) (N := some 146) (v := ?_) (a' := ?_) #[true, true, true, true, true, true, true, true, true, true, true, true, false, false, false, false, false, false, false, false, false, false, false, false, false, false, false] rfl rfl (any_of HT_.out (by kernel_rfl)) (fun _ _ _ h => h) (Or.inl ⟨by rfl, ?_⟩) ?_ ?_
                    rotate_left
                    ·intro w'
                     go_simp
                     with_reducible rfl
                    rotate_left
                    ·simp only [Act.put, List.setIfInBounds_toArray, List.set_cons_zero, List.set_cons_succ, i64_w, i32_w]
                     rfl
                    refine pure_ (i := 12) (N := some 147) (v := ?_) (a' := ?_) #[true, true, true, true, true, true, true, true, true, true, true, true, true, false, false, false, false, false, false, false, false, false, false, false, false, false, false] rfl rfl (any_of HT_.out (by kernel_rfl)) (fun _ _ _ h => h) (Or.inl ⟨by rfl, ?_⟩) ?_ ?_
                    rotate_left
                    ·intro w'
                     go_simp
                     with_reducible rfl
                    rotate_left
                    ·simp only [Act.put, List.setIfInBounds_toArray, List.set_cons_zero, List.set_cons_succ, i64_w, i32_w]
                     rfl
                    refine pure_ (i := 13) (N := some 148) (v := undef) (a' := ?_) #[true, true, true, true, true, true, true, true, true, true, true, true, true, true, false, false, false, false, false, false, false, false, false, false, false, false, false] rfl rfl (any_of HT_.out (by kernel_rfl)) (fun _ _ _ h => h) (Or.inr ⟨by rfl, rfl⟩) ?_ ?_
                    rotate_left
                    ·simp only [Act.put, List.setIfInBounds_toArray, List.set_cons_zero, List.set_cons_succ, i64_w, i32_w]
                     rfl
                    refine pure_ (i := 14) (N := some 149) (v := undef) (a' := ?_) #[true, true, true, true, true, true, true, true, true, true, true, true, true, true, true, false, false, false, false, false, false, false, false, false, false, false, false] rfl rfl (any_of HT_.out (by kernel_rfl)) (fun _ _ _ h => h) (Or.inr ⟨by rfl, rfl⟩) ?_ ?_
                    rotate_left
                    ·simp only [Act.put, List.setIfInBounds_toArray, List.set_cons_zero, List.set_cons_succ, i64_w, i32_w]
                     rfl
                    refine pure_ (i := 15) (N := some 150) (v := undef) (a' := ?_) #[true, true, true, true, true, true, true, true, true, true, true, true, true, true, true, true, false, false, false, false, false, false, false, false, false, false, false] rfl rfl (any_of HT_.out (by kernel_rfl)) (fun _ _ _ h => h) (Or.inr ⟨by rfl, rfl⟩) ?_ ?_
                    rotate_left
                    ·simp only [Act.put, List.setIfInBounds_toArray, List.set_cons_zero, List.set_cons_succ, i64_w, i32_w]
                     rfl
                    refine pure_ (i := 16) (N := some 151) (v := undef) (a' := ?_) #[true, true, true, true, true, true, true, true, true, true, true, true, true, true, true, true, true, false, false, false, false, false, false, false, false, false, false] rfl rfl (any_of HT_.out (by kernel_rfl)) (fun _ _ _ h => h) (Or.inr ⟨by rfl, rfl⟩) ?_ ?_
                    rotate_left
                    ·simp only [Act.put, List.setIfInBounds_toArray, List.set_cons_zero, List.set_cons_succ, i64_w, i32_w]
                     rfl
                    refine pure_ (i := 17) (N := some 152) (v := undef) (a' := ?_) #[true, true, true, true, true, true, true, true, true, true, true, true, true, true, true, true, true, true, false, false, false, false, false, false, false, false, false] rfl rfl (any_of HT_.out (by kernel_rfl)) (fun _ _ _ h => h) (Or.inr ⟨by rfl, rfl⟩) ?_ ?_
                    rotate_left
                    ·simp only [Act.put, List.setIfInBounds_toArray, List.set_cons_zero, List.set_cons_succ, i64_w, i32_w]
                     rfl
                    refine pure_ (i := 18) (N := some 153) (v := undef) (a' := ?_) #[true, true, true, true, true, true, true, true, true, true, true, true, true, true, true, true, true, true, true, false, false, false, false, false, false, false, false] rfl rfl (any_of HT_.out (by kernel_rfl)) (fun _ _ _ h => h) (Or.inr ⟨by rfl, rfl⟩) ?_ ?_
                    rotate_left
                    ·simp only [Act.put, List.setIfInBounds_toArray, List.set_cons_zero, List.set_cons_succ, i64_w, i32_w]
                     rfl
                    refine pure_ (i := 19) (N := some 154) (v := undef) (a' := ?_) #[true, true, true, true, true, true, true, true, true, true, true, true, true, true, true, true, true, true, true, true, false, false, false, false, false, false, false] rfl rfl (any_of HT_.out (by kernel_rfl)) (fun _ _ _ h => h) (Or.inr ⟨by rfl, rfl⟩) ?_ ?_
                    rotate_left
                    ·simp only [Act.put, List.setIfInBounds_toArray, List.set_cons_zero, List.set_cons_succ, i64_w, i32_w]
                     rfl
                    refine pure_ (i := 20) (N := some 155) (v := undef) (a' := ?_) #[true, true, true, true, true, true, true, true, true, true, true, true, true, true, true, true, true, true, true, true, true, false, false, false, false, false, false] rfl rfl (any_of HT_.out (by kernel_rfl)) (fun _ _ _ h => h) (Or.inr ⟨by rfl, rfl⟩) ?_ ?_
                    rotate_left
                    ·simp only [Act.put, List.setIfInBounds_toArray, List.set_cons_zero, List.set_cons_succ, i64_w, i32_w]
                     rfl
                    refine pure_ (i := 21) (N := some 156) (v := undef) (a' := ?_) #[true, true, true, true, true, true, true, true, true, true, true, true, true, true, true, true, true, true, true, true, true, true, false, false, false, false, false] rfl rfl (any_of HT_.out (by kernel_rfl)) (fun _ _ _ h => h) (Or.inr ⟨by rfl, rfl⟩) ?_ ?_
                    rotate_left
                    ·simp only [Act.put, List.setIfInBounds_toArray, List.set_cons_zero, List.set_cons_succ, i64_w, i32_w]
                     rfl
                    refine pure_ (i := 22) (N := some 157) (v := undef) (a' := ?_) #[true, true, true, true, true, true, true, true, true, true, true, true, true, true, true, true, true, true, true, true, true, true, true, false, false, false, false] rfl rfl (any_of HT_.out (by kernel_rfl)) (fun _ _ _ h => h) (Or.inr ⟨by rfl, rfl⟩) ?_ ?_
                    rotate_left
                    ·simp only [Act.put, List.setIfInBounds_toArray, List.set_cons_zero, List.set_cons_succ, i64_w, i32_w]
                     rfl
                    refine pure_ (i := 23) (N := some 158) (v := undef) (a' := ?_) #[true, true, true, true, true, true, true, true, true, true, true, true, true, true, true, true, true, true, true, true, true, true, true, true, false, false, false] rfl rfl (any_of HT_.out (by kernel_rfl)) (fun _ _ _ h => h) (Or.inr ⟨by rfl, rfl⟩) ?_ ?_
                    rotate_left
                    ·simp only [Act.put, List.setIfInBounds_toArray, List.set_cons_zero, List.set_cons_succ, i64_w, i32_w]
                     rfl
                    refine pure_ (i := 24) (N := some 159) (v := undef) (a' := ?_) #[true, true, true, true, true, true, true, true, true, true, true, true, true, true, true, true, true, true, true, true, true, true, true, true, true, false, false] rfl rfl (any_of HT_.out (by kernel_rfl)) (fun _ _ _ h => h) (Or.inr ⟨by rfl, rfl⟩) ?_ ?_
                    rotate_left
                    ·simp only [Act.put, List.setIfInBounds_toArray, List.set_cons_zero, List.set_cons_succ, i64_w, i32_w]
                     rfl
                    refine pure_ (i := 25) (N := some 160) (v := undef) (a' := ?_) #[true, true, true, true, true, true, true, true, true, true, true, true, true, true, true, true, true, true, true, true, true, true, true, true, true, true, false] rfl rfl (any_of HT_.out (by kernel_rfl)) (fun _ _ _ h => h) (Or.inr ⟨by rfl, rfl⟩) ?_ ?_
                    rotate_left
                    ·simp only [Act.put, List.setIfInBounds_toArray, List.set_cons_zero, List.set_cons_succ, i64_w, i32_w]
                     rfl
                    refine pure_ (i := 26) (N := some 161) (v := ?_) (a' := ?_) #[true, true, true, true, true, true, true, true, true, true, true, true, true, true, true, true, true, true, true, true, true, true, true, true, true, true, true] rfl rfl (any_of HT_.out (by kernel_rfl)) (fun _ _ _ h => h) (Or.inl ⟨by rfl, ?_⟩) ?_ ?_
                    rotate_left
                    ·intro w'
                     go_simp
                     with_reducible rfl
                    rotate_left
                    ·simp only [Act.put, List.setIfInBounds_toArray, List.set_cons_zero, List.set_cons_succ, i64_w, i32_w]
                     rfl
                    refine done_ (done_of HT_.out (by kernel_rfl)) ?_
                    try go_wp2
                    go_meet
                    case rel => exact ⟨_, (false), zs, H', ⟨by have := HJ9.out; have := HJ27.out; have := HJ39.out; first | omega | exact Nat.le_refl _⟩, ⟨by (with_reducible repeat (first | apply Kd.R_alloc | apply Kd.R_drewN | apply Kd.R_drew)); exact HO_346000.out⟩, ⟨by (with_reducible repeat (first | apply Kd.R_alloc | apply Kd.R_drewN | apply Kd.R_drew)); exact HO_346001.out⟩, ⟨by exact pk BK345.out⟩, ⟨by exact pk BK354.out⟩, ⟨zb⟩⟩
                  ·rw [if_neg c97] at H
                   have c97b0 : decide (0 < t349) = false := decide_eq_false c97
                   clear c97
                   have H' := aM H
                   clear H
                   try go_wp2
                   have n0_ := aM (Kd.R_drew HO_346000.out)
                   have n1_ := aM (Kd.R_drew HO_346001.out)
                   have n2_ := aM (blk_drew BK345.out)
                   have n3_ := aM (blk_drew BK354.out)
                   have n4_ := aM (below_drew1 HB.out)
                   clear HO_346000
                   clear HO_346001
                   clear BK345
                   clear BK354
                   clear HB
                   have HO_346000 := n0_
                   have HO_346001 := n1_
                   have BK345 := n2_
                   have BK354 := n3_
                   have HB := n4_
                   clear n0_ n1_ n2_ n3_ n4_
                   refine start_ (n := 27) (S := fun w' => w'.cell? ⟨gb354, 0, none⟩ = some (.int .i64 t346) ∧ w'.cell? ⟨gb354, 1, none⟩ = some (.int .i64 t347) ∧ w'.cell? ⟨gb354, 2, none⟩ = some (.int .i64 t348) ∧ w'.cell? ⟨gb354, 3, none⟩ = some (.int .i64 t349) ∧ w'.cell? ⟨gb354, 4, none⟩ = some (.int .i64 t350) ∧ w'.cell? ⟨gb354, 5, none⟩ = some (.int .i64 t351) ∧ w'.cell? ⟨gb354, 6, none⟩ = some (.int .i64 t352) ∧ w'.cell? ⟨gb354, 7, none⟩ = some (.int .i64 t353)) (ds := []) #[false, false, false, false, false, false, false, false, false, false, false, false, false, false, false, false, false, false, false, false, false, false, false, false, false, false, false] (by kernel_rfl) rfl rfl ⟨(blk_cell BK354.out 0).trans rfl, (blk_cell BK354.out 1).trans rfl, (blk_cell BK354.out 2).trans rfl, (blk_cell BK354.out 3).trans rfl, (blk_cell BK354.out 4).trans rfl, (blk_cell BK354.out 5).trans rfl, (blk_cell BK354.out 6).trans rfl, (blk_cell BK354.out 7).trans rfl⟩ (fun hHeld => ?_); refine with_tabW laws_FnFees.tab15 laws_FnFees.bits15 (fun HT_ HW_ => ?_)
                   generalize wc.drew = w103 at HO_346000 HO_346001 BK345 BK354 HB hHeld ⊢
                   refine pure_ (i := 0) (N := some 135) (v := ?_) (a' := ?_) #[true, false, false, false, false, false, false, false, false, false, false, false, false, false, false, false, false, false, false, false, false, false, false, false, false, false, false] rfl rfl (any_of HT_.out (by kernel_rfl)) (fun _ _ _ h => h) (Or.inl ⟨by rfl, ?_⟩) ?_ ?_
                   rotate_left
                   ·intro w'
                    go_simp
                    with_reducible rfl
                   rotate_left
                   ·simp only [Act.put, List.setIfInBounds_toArray, List.set_cons_zero, List.set_cons_succ, i64_w, i32_w]
                    rfl
                   refine pure_ (i := 1) (N := some 136) (v := ?_) (a' := ?_) #[true, true, false, false, false, false, false, false, false, false, false, false, false, false, false, false, false, false, false, false, false, false, false, false, false, false, false] rfl rfl (any_of HT_.out (by kernel_rfl)) (fun _ _ _ h => h) (Or.inl ⟨by rfl, ?_⟩) ?_ ?_
                   rotate_left
                   ·intro w'
                    go_simp
                    with_reducible rfl
                   rotate_left
                   ·simp only [Act.put, List.setIfInBounds_toArray, List.set_cons_zero, List.set_cons_succ, i64_w, i32_w]
                    rfl
                   refine pure_ (i := 2) (N := some 137) (v := ?_) (a' := ?_) #[true, true, true, false, false, false, false, false, false, false, false, false, false, false, false, false, false, false, false, false, false, false, false, false, false, false, false] rfl rfl (any_of HT_.out (by kernel_rfl)) (fun _ _ _ h => h) (Or.inl ⟨by rfl, ?_⟩) ?_ ?_
                   rotate_left
                   ·intro w'
                    go_simp
                    with_reducible rfl
                   rotate_left
                   ·simp only [Act.put, List.setIfInBounds_toArray, List.set_cons_zero, List.set_cons_succ, i64_w, i32_w]
                    rfl
                   refine pure_ (i := 3) (N := some 138) (v := ?_) (a' := ?_) #[true, true, true, true, false, false, false, false, false, false, false, false, false, false, false, false, false, false, false, false, false, false, false, false, false, false, false] rfl rfl (any_of HT_.out (by kernel_rfl)) (fun _ _ _ h => h) (Or.inl ⟨by rfl, ?_⟩) ?_ ?_
                   rotate_left
                   ·intro w'
                    go_simp
                    with_reducible rfl
                   rotate_left
                   ·simp only [Act.put, List.setIfInBounds_toArray, List.set_cons_zero, List.set_cons_succ, i64_w, i32_w]
                    rfl
                   refine take_ (i := 4) (N := some 139) (v := ?_) (a' := ?_) #[true, true, true, true, true, false, false, false, false, false, false, false, false, false, false, false, false, false, false, false, false, false, false, false, false, false, false] rfl rfl (take_ofW HT_.out HW_.out (by kernel_rfl)) (fun _ _ _ h => h) (Or.inl ⟨by rfl, ?_⟩) hHeld ?_ ?_
                   rotate_left
                   ·rintro w' ⟨s0, s1, s2, s3, s4, s5, s6, s7⟩
                    go_simp
                    with_reducible rfl
                   rotate_left
                   ·simp only [Act.put, List.setIfInBounds_toArray, List.set_cons_zero, List.set_cons_succ, i64_w, i32_w]
                    rfl
                   refine pure_ (i := 5) (N := some 140) (v := ?_) (a' := ?_) #[true, true, true, true, true, true, false, false, false, false, false, false, false, false, false, false, false, false, false, false, false, false, false, false, false, false, false] rfl rfl (any_of HT_.out (by kernel_rfl)) (fun _ _ _ h => h) (Or.inl ⟨by rfl, ?_⟩) ?_ ?_
                   rotate_left
                   ·intro w'
                    go_simp
                    with_reducible rfl
                   rotate_left
                   ·simp only [Act.put, List.setIfInBounds_toArray, List.set_cons_zero, List.set_cons_succ, i64_w, i32_w]
                    rfl
                   refine pure_ (i := 6) (N := some 141) (v := ?_) (a' := ?_) #[true, true, true, true, true, true, true, false, false, false, false, false, false, false, false, false, false, false, false, false, false, false, false, false, false, false, false] rfl rfl (any_of HT_.out (by kernel_rfl)) (fun _ _ _ h => h) (Or.inl ⟨by rfl, ?_⟩) ?_ ?_
                   rotate_left
                   ·intro w'
                    go_simp
                    with_reducible rfl
                   rotate_left
                   ·simp only [Act.put, List.setIfInBounds_toArray, List.set_cons_zero, List.set_cons_succ, i64_w, i32_w]
                    rfl
                   refine pure_ (i := 7) (N := some 142) (v := ?_) (a' := ?_) #[true, true, true, true, true, true, true, true, false, false, false, false, false, false, false, false, false, false, false, false, false, false, false, false, false, false, false] rfl rfl (any_of HT_.out (by kernel_rfl)) (fun _ _ _ h => h) (Or.inl ⟨by rfl, ?_⟩) ?_ ?_
                   rotate_left
                   ·intro w'
                    go_simp
                    with_reducible rfl
                   rotate_left
                   ·simp only [Act.put, List.setIfInBounds_toArray, List.set_cons_zero, List.set_cons_succ, i64_w, i32_w]
                    rfl
                   refine pure_ (i := 8) (N := some 143) (v := undef) (a' := ?_) #[true, true, true, true, true, true, true, true, true, false, false, false, false, false, false, false, false, false, false, false, false, false, false, false, false, false, false] rfl rfl (any_of HT_.out (by kernel_rfl)) (fun _ _ _ h => h) (Or.inr ⟨by rfl, rfl⟩) ?_ ?_
                   rotate_left
                   ·simp only [Act.put, List.setIfInBounds_toArray, List.set_cons_zero, List.set_cons_succ, i64_w, i32_w]
                    rfl
                   refine pure_ (i := 9) (N := some 144) (v := undef) (a' := ?_) #[true, true, true, true, true, true, true, true, true, true, false, false, false, false, false, false, false, false, false, false, false, false, false, false, false, false, false] rfl rfl (any_of HT_.out (by kernel_rfl)) (fun _ _ _ h => h) (Or.inr ⟨by rfl, rfl⟩) ?_ ?_
                   rotate_left
                   ·simp only [Act.put, List.setIfInBounds_toArray, List.set_cons_zero, List.set_cons_succ, i64_w, i32_w]
                    rfl
                   refine pure_ (i := 10) (N := some 145) (v := undef) (a' := ?_) #[true, true, true, true, true, true, true, true, true, true, true, false, false, false, false, false, false, false, false, false, false, false, false, false, false, false, false] rfl rfl (any_of HT_.out (by kernel_rfl)) (fun _ _ _ h => h) (Or.inr ⟨by rfl, rfl⟩) ?_ ?_
                   rotate_left
                   ·simp only [Act.put, List.setIfInBounds_toArray, List.set_cons_zero, List.set_cons_succ, i64_w, i32_w]
                    rfl
                   refine pure_ (i := 11) (N := some 146) (v := ?_) (a' := ?_) #[true, true, true, true, true, true, true, true, true, true, true, true, false, false, false, false, false, false, false, false, false, false, false, false, false, false, false] rfl rfl (any_of HT_.out (by kernel_rfl)) (fun _ _ _ h => h) (Or.inl ⟨by rfl, ?_⟩) ?_ ?_
                   rotate_left
                   ·intro w'
                    go_simp
                    with_reducible rfl
                   rotate_left
                   ·simp only [Act.put, List.setIfInBounds_toArray, List.set_cons_zero, List.set_cons_succ, i64_w, i32_w]
                    rfl
                   refine pure_ (i := 12) (N := some 147) (v := ?_) (a' := ?_) #[true, true, true, true, true, true, true, true, true, true, true, true, true, false, false, false, false, false, false, false, false, false, false, false, false, false, false] rfl rfl (any_of HT_.out (by kernel_rfl)) (fun _ _ _ h => h) (Or.inl ⟨by rfl, ?_⟩) ?_ ?_
                   rotate_left
                   ·intro w'
                    go_simp
                    with_reducible rfl
                   rotate_left
                   ·simp only [Act.put, List.setIfInBounds_toArray, List.set_cons_zero, List.set_cons_succ, i64_w, i32_w]
                    rfl
                   refine pure_ (i := 13) (N := some 148) (v := undef) (a' := ?_) #[true, true, true, true, true, true, true, true, true, true, true, true, true, true, false, false, false, false, false, false, false, false, false, false, false, false, false] rfl rfl (any_of HT_.out (by kernel_rfl)) (fun _ _ _ h => h) (Or.inr ⟨by rfl, rfl⟩) ?_ ?_
                   rotate_left
                   ·simp only [Act.put, List.setIfInBounds_toArray, List.set_cons_zero, List.set_cons_succ, i64_w, i32_w]
                    rfl
                   refine pure_ (i := 14) (N := some 149) (v := undef) (a' := ?_) #[true, true, true, true, true, true, true, true, true, true, true, true, true, true, true, false, false, false, false, false, false, false, false, false, false, false, false] rfl rfl (any_of HT_.out (by kernel_rfl)) (fun _ _ _ h => h) (Or.inr ⟨by rfl, rfl⟩) ?_ ?_
                   rotate_left
                   ·simp only [Act.put, List.setIfInBounds_toArray, List.set_cons_zero, List.set_cons_succ, i64_w, i32_w]
                    rfl
                   refine pure_ (i := 15) (N := some 150) (v := undef) (a' := ?_) #[true, true, true, true, true, true, true, true, true, true, true, true, true, true, true, true, false, false, false, false, false, false, false, false, false, false, false] rfl rfl (any_of HT_.out (by kernel_rfl)) (fun _ _ _ h => h) (Or.inr ⟨by rfl, rfl⟩) ?_ ?_
                   rotate_left
                   ·simp only [Act.put, List.setIfInBounds_toArray, List.set_cons_zero, List.set_cons_succ, i64_w, i32_w]
                    rfl
                   refine pure_ (i := 16) (N := some 151) (v := undef) (a' := ?_) #[true, true, true, true, true, true, true, true, true, true, true, true, true, true, true, true, true, false, false, false, false, false, false, false, false, false, false] rfl rfl (any_of HT_.out (by kernel_rfl)) (fun _ _ _ h => h) (Or.inr ⟨by rfl, rfl⟩) ?_ ?_
                   rotate_left
                   ·simp only [Act.put, List.setIfInBounds_toArray, List.set_cons_zero, List.set_cons_succ, i64_w, i32_w]
                    rfl
                   refine pure_ (i := 17) (N := some 152) (v := undef) (a' := ?_) #[true, true, true, true, true, true, true, true, true, true, true, true, true, true, true, true, true, true, false, false, false, false, false, false, false, false, false] rfl rfl (any_of HT_.out (by kernel_rfl)) (fun _ _ _ h => h) (Or.inr ⟨by rfl, rfl⟩) ?_ ?_
                   rotate_left
                   ·simp only [Act.put, List.setIfInBounds_toArray, List.set_cons_zero, List.set_cons_succ, i64_w, i32_w]
                    rfl
                   refine pure_ (i := 18) (N := some 153) (v := undef) (a' := ?_) #[true, true, true, true, true, true, true, true, true, true, true, true, true, true, true, true, true, true, true, false, false, false, false, false, false, false, false] rfl rfl (any_of HT_.out (by kernel_rfl)) (fun _ _ _ h => h) (Or.inr ⟨by rfl, rfl⟩) ?_ ?_
                   rotate_left
                   ·simp only [Act.put, List.setIfInBounds_toArray, List.set_cons_zero, List.set_cons_succ, i64_w, i32_w]
                    rfl
                   refine pure_ (i := 19) (N := some 154) (v := undef) (a' := ?_) #[true, true, true, true, true, true, true, true, true, true, true, true, true, true, true, true, true, true, true, true, false, false, false, false, false, false, false] rfl rfl (any_of HT_.out (by kernel_rfl)) (fun _ _ _ h => h) (Or.inr ⟨by rfl, rfl⟩) ?_ ?_
                   rotate_left
                   ·simp only [Act.put, List.setIfInBounds_toArray, List.set_cons_zero, List.set_cons_succ, i64_w, i32_w]
                    rfl
                   refine pure_ (i := 20) (N := some 155) (v := undef) (a' := ?_) #[true, true, true, true, true, true, true, true, true, true, true, true, true, true, true, true, true, true, true, true, true, false, false, false, false, false, false] rfl rfl (any_of HT_.out (by kernel_rfl)) (fun _ _ _ h => h) (Or.inr ⟨by rfl, rfl⟩) ?_ ?_
                   rotate_left
                   ·simp only [Act.put, List.setIfInBounds_toArray, List.set_cons_zero, List.set_cons_succ, i64_w, i32_w]
                    rfl
                   refine pure_ (i := 21) (N := some 156) (v := undef) (a' := ?_) #[true, true, true, true, true, true, true, true, true, true, true, true, true, true, true, true, true, true, true, true, true, true, false, false, false, false, false] rfl rfl (any_of HT_.out (by kernel_rfl)) (fun _ _ _ h => h) (Or.inr ⟨by rfl, rfl⟩) ?_ ?_
                   rotate_left
                   ·simp only [Act.put, List.setIfInBounds_toArray, List.set_cons_zero, List.set_cons_succ, i64_w, i32_w]
                    rfl
                   refine pure_ (i := 22) (N := some 157) (v := undef) (a' := ?_) #[true, true, true, true, true, true, true, true, true, true, true, true, true, true, true, true, true, true, true, true, true, true, true, false, false, false, false] rfl rfl (any_of HT_.out (by kernel_rfl)) (fun _ _ _ h => h) (Or.inr ⟨by rfl, rfl⟩) ?_ ?_
                   rotate_left
                   ·simp only [Act.put, List.setIfInBounds_toArray, List.set_cons_zero, List.set_cons_succ, i64_w, i32_w]
                    rfl
                   refine pure_ (i := 23) (N := some 158) (v := undef) (a' := ?_) #[true, true, true, true, true, true, true, true, true, true, true, true, true, true, true, true, true, true, true, true, true, true, true, true, false, false, false] rfl rfl (any_of HT_.out (by kernel_rfl)) (fun _ _ _ h => h) (Or.inr ⟨by rfl, rfl⟩) ?_ ?_
                   rotate_left
                   ·simp only [Act.put, List.setIfInBounds_toArray, List.set_cons_zero, List.set_cons_succ, i64_w, i32_w]
                    rfl
                   refine pure_ (i := 24) (N := some 159) (v := undef) (a' := ?_) #[true, true, true, true, true, true, true, true, true, true, true, true, true, true, true, true, true, true, true, true, true, true, true, true, true, false, false] rfl rfl (any_of HT_.out (by kernel_rfl)) (fun _ _ _ h => h) (Or.inr ⟨by rfl, rfl⟩) ?_ ?_
                   rotate_left
                   ·simp only [Act.put, List.setIfInBounds_toArray, List.set_cons_zero, List.set_cons_succ, i64_w, i32_w]
                    rfl
                   refine pure_ (i := 25) (N := some 160) (v := undef) (a' := ?_) #[true, true, true, true, true, true, true, true, true, true, true, true, true, true, true, true, true, true, true, true, true, true, true, true, true, true, false] rfl rfl (any_of HT_.out (by kernel_rfl)) (fun _ _ _ h => h) (Or.inr ⟨by rfl, rfl⟩) ?_ ?_
                   rotate_left
                   ·simp only [Act.put, List.setIfInBounds_toArray, List.set_cons_zero, List.set_cons_succ, i64_w, i32_w]
                    rfl
                   refine pure_ (i := 26) (N := some 161) (v := ?_) (a' := ?_) #[true, true, true, true, true, true, true, true, true, true, true, true, true, true, true, true, true, true, true, true, true, true, true, true, true, true, true] rfl rfl (any_of HT_.out (by kernel_rfl)) (fun _ _ _ h => h) (Or.inl ⟨by rfl, ?_⟩) ?_ ?_
                   rotate_left
                   ·intro w'
                    go_simp
                    with_reducible rfl
                   rotate_left
                   ·simp only [Act.put, List.setIfInBounds_toArray, List.set_cons_zero, List.set_cons_succ, i64_w, i32_w]
                    rfl
                   refine done_ (done_of HT_.out (by kernel_rfl)) ?_
                   try go_wp2
                   go_meet
                   case rel => exact ⟨_, (false), zs, H', ⟨by have := HJ9.out; have := HJ27.out; have := HJ39.out; first | omega | exact Nat.le_refl _⟩, ⟨by (with_reducible repeat (first | apply Kd.R_alloc | apply Kd.R_drewN | apply Kd.R_drew)); exact HO_346000.out⟩, ⟨by (with_reducible repeat (first | apply Kd.R_alloc | apply Kd.R_drewN | apply Kd.R_drew)); exact HO_346001.out⟩, ⟨by exact pk BK345.out⟩, ⟨by exact pk BK354.out⟩, ⟨zb⟩⟩
                 ·rw [if_neg c96] at H
                  have c96b0 : decide (x12_27 < 20000) = false := decide_eq_false c96
                  clear c96
                  (first | rw [c96b0] | (simp only [i64_w, i32_w]; rw [c96b0]) | skip)
                  have H' := aM H
                  clear H
                  try go_wp2
                  have n0_ := aM (Kd.R_drew HO_346000.out)
                  have n1_ := aM (Kd.R_drew HO_346001.out)
                  have n2_ := aM (blk_drew BK345.out)
                  have n3_ := aM (blk_drew BK354.out)
                  have n4_ := aM (below_drew1 HB.out)
                  clear HO_346000
                  clear HO_346001
                  clear BK345
                  clear BK354
                  clear HB
                  have HO_346000 := n0_
                  have HO_346001 := n1_
                  have BK345 := n2_
                  have BK354 := n3_
                  have HB := n4_
                  clear n0_ n1_ n2_ n3_ n4_
                  refine start_ (n := 27) (S := fun w' => True) (ds := []) #[false, false, false, false, false, false, false, false, false, false, false, false, false, false, false, false, false, false, false, false, false, false, false, false, false, false, false] (by kernel_rfl) rfl rfl trivial (fun hHeld => ?_); refine with_tabW laws_FnFees.tab15 laws_FnFees.bits15 (fun HT_ HW_ => ?_)
                  generalize wc.drew = w104 at HO_346000 HO_346001 BK345 BK354 HB hHeld ⊢
                  refine pure_ (i := 0) (N := some 135) (v := ?_) (a' := ?_) #[true, false, false, false, false, false, false, false, false, false, false, false, false, false, false, false, false, false, false, false, false, false, false, false, false, false, false] rfl rfl (any_of HT_.out (by kernel_rfl)) (fun _ _ _ h => h) (Or.inl ⟨by rfl, ?_⟩) ?_ ?_
                  rotate_left
                  ·intro w'
                   go_simp
                   with_reducible rfl
                  rotate_left
                  ·simp only [Act.put, List.setIfInBounds_toArray, List.set_cons_zero, List.set_cons_succ, i64_w, i32_w]
                   rfl
                  refine pure_ (i := 1) (N := some 136) (v := ?_) (a' := ?_) #[true, true, false, false, false, false, false, false, false, false, false, false, false, false, false, false, false, false, false, false, false, false, false, false, false, false, false] rfl rfl (any_of HT_.out (by kernel_rfl)) (fun _ _ _ h => h) (Or.inl ⟨by rfl, ?_⟩) ?_ ?_
                  rotate_left
                  ·intro w'
                   go_simp
                   with_reducible rfl
                  rotate_left
                  ·simp only [Act.put, List.setIfInBounds_toArray, List.set_cons_zero, List.set_cons_succ, i64_w, i32_w]
                   rfl
                  refine pure_ (i := 2) (N := some 137) (v := ?_) (a' := ?_) #[true, true, true, false, false, false, false, false, false, false, false, false, false, false, false, false, false, false, false, false, false, false, false, false, false, false, false] rfl rfl (any_of HT_.out (by kernel_rfl)) (fun _ _ _ h => h) (Or.inl ⟨by rfl, ?_⟩) ?_ ?_
                  rotate_left
                  ·intro w'
                   go_simp
                   with_reducible rfl
                  rotate_left
                  ·simp only [Act.put, List.setIfInBounds_toArray, List.set_cons_zero, List.set_cons_succ, i64_w, i32_w]
                   rfl
                  refine pure_ (i := 3) (N := some 138) (v := undef) (a' := ?_) #[true, true, true, true, false, false, false, false, false, false, false, false, false, false, false, false, false, false, false, false, false, false, false, false, false, false, false] rfl rfl (any_of HT_.out (by kernel_rfl)) (fun _ _ _ h => h) (Or.inr ⟨by rfl, rfl⟩) ?_ ?_
                  rotate_left
                  ·simp only [Act.put, List.setIfInBounds_toArray, List.set_cons_zero, List.set_cons_succ, i64_w, i32_w]
                   rfl
                  refine pure_ (i := 4) (N := some 139) (v := undef) (a' := ?_) #[true, true, true, true, true, false, false, false, false, false, false, false, false, false, false, false, false, false, false, false, false, false, false, false, false, false, false] rfl rfl (any_of HT_.out (by kernel_rfl)) (fun _ _ _ h => h) (Or.inr ⟨by rfl, rfl⟩) ?_ ?_
                  rotate_left
                  ·simp only [Act.put, List.setIfInBounds_toArray, List.set_cons_zero, List.set_cons_succ, i64_w, i32_w]
                   rfl
                  refine pure_ (i := 5) (N := some 140) (v := undef) (a' := ?_) #[true, true, true, true, true, true, false, false, false, false, false, false, false, false, false, false, false, false, false, false, false, false, false, false, false, false, false] rfl rfl (any_of HT_.out (by kernel_rfl)) (fun _ _ _ h => h) (Or.inr ⟨by rfl, rfl⟩) ?_ ?_
                  rotate_left
                  ·simp only [Act.put, List.setIfInBounds_toArray, List.set_cons_zero, List.set_cons_succ, i64_w, i32_w]
                   rfl
                  refine pure_ (i := 6) (N := some 141) (v := ?_) (a' := ?_) #[true, true, true, true, true, true, true, false, false, false, false, false, false, false, false, false, false, false, false, false, false, false, false, false, false, false, false] rfl rfl (any_of HT_.out (by kernel_rfl)) (fun _ _ _ h => h) (Or.inl ⟨by rfl, ?_⟩) ?_ ?_
                  rotate_left
                  ·intro w'
                   go_simp
                   with_reducible rfl
                  rotate_left
                  ·simp only [Act.put, List.setIfInBounds_toArray, List.set_cons_zero, List.set_cons_succ, i64_w, i32_w]
                   rfl
                  refine pure_ (i := 7) (N := some 142) (v := ?_) (a' := ?_) #[true, true, true, true, true, true, true, true, false, false, false, false, false, false, false, false, false, false, false, false, false, false, false, false, false, false, false] rfl rfl (any_of HT_.out (by kernel_rfl)) (fun _ _ _ h => h) (Or.inl ⟨by rfl, ?_⟩) ?_ ?_
                  rotate_left
                  ·intro w'
                   go_simp
                   with_reducible rfl
                  rotate_left
                  ·simp only [Act.put, List.setIfInBounds_toArray, List.set_cons_zero, List.set_cons_succ, i64_w, i32_w]
                   rfl
                  refine pure_ (i := 8) (N := some 143) (v := undef) (a' := ?_) #[true, true, true, true, true, true, true, true, true, false, false, false, false, false, false, false, false, false, false, false, false, false, false, false, false, false, false] rfl rfl (any_of HT_.out (by kernel_rfl)) (fun _ _ _ h => h) (Or.inr ⟨by rfl, rfl⟩) ?_ ?_
                  rotate_left
                  ·simp only [Act.put, List.setIfInBounds_toArray, List.set_cons_zero, List.set_cons_succ, i64_w, i32_w]
                   rfl
                  refine pure_ (i := 9) (N := some 144) (v := undef) (a' := ?_) #[true, true, true, true, true, true, true, true, true, true, false, false, false, false, false, false, false, false, false, false, false, false, false, false, false, false, false] rfl rfl (any_of HT_.out (by kernel_rfl)) (fun _ _ _ h => h) (Or.inr ⟨by rfl, rfl⟩) ?_ ?_
                  rotate_left
                  ·simp only [Act.put, List.setIfInBounds_toArray, List.set_cons_zero, List.set_cons_succ, i64_w, i32_w]
                   rfl
                  refine pure_ (i := 10) (N := some 145) (v := undef) (a' := ?_) #[true, true, true, true, true, true, true, true, true, true, true, false, false, false, false, false, false, false, false, false, false, false, false, false, false, false, false] rfl rfl (any_of HT_.out (by kernel_rfl)) (fun _ _ _ h => h) (Or.inr ⟨by rfl, rfl⟩) ?_ ?_
                  rotate_left
                  ·simp only [Act.put, List.setIfInBounds_toArray, List.set_cons_zero, List.set_cons_succ, i64_w, i32_w]
                   rfl
                  refine pure_ (i := 11) (N := some 146) (v := ?_) (a' := ?_) #[true, true, true, true, true, true, true, true, true, true, true, true, false, false, false, false, false, false, false, false, false, false, false, false, false, false, false] rfl rfl (any_of HT_.out (by kernel_rfl)) (fun _ _ _ h => h) (Or.inl ⟨by rfl, ?_⟩) ?_ ?_
                  rotate_left
                  ·intro w'
                   go_simp
                   with_reducible rfl
                  rotate_left
                  ·simp only [Act.put, List.setIfInBounds_toArray, List.set_cons_zero, List.set_cons_succ, i64_w, i32_w]
                   rfl
                  refine pure_ (i := 12) (N := some 147) (v := ?_) (a' := ?_) #[true, true, true, true, true, true, true, true, true, true, true, true, true, false, false, false, false, false, false, false, false, false, false, false, false, false, false] rfl rfl (any_of HT_.out (by kernel_rfl)) (fun _ _ _ h => h) (Or.inl ⟨by rfl, ?_⟩) ?_ ?_
                  rotate_left
                  ·intro w'
                   go_simp
                   with_reducible rfl
                  rotate_left
                  ·simp only [Act.put, List.setIfInBounds_toArray, List.set_cons_zero, List.set_cons_succ, i64_w, i32_w]
                   rfl
                  refine pure_ (i := 13) (N := some 148) (v := undef) (a' := ?_) #[true, true, true, true, true, true, true, true, true, true, true, true, true, true, false, false, false, false, false, false, false, false, false, false, false, false, false] rfl rfl (any_of HT_.out (by kernel_rfl)) (fun _ _ _ h => h) (Or.inr ⟨by rfl, rfl⟩) ?_ ?_
                  rotate_left
                  ·simp only [Act.put, List.setIfInBounds_toArray, List.set_cons_zero, List.set_cons_succ, i64_w, i32_w]
                   rfl
                  refine pure_ (i := 14) (N := some 149) (v := undef) (a' := ?_) #[true, true, true, true, true, true, true, true, true, true, true, true, true, true, true, false, false, false, false, false, false, false, false, false, false, false, false] rfl rfl (any_of HT_.out (by kernel_rfl)) (fun _ _ _ h => h) (Or.inr ⟨by rfl, rfl⟩) ?_ ?_
                  rotate_left
                  ·simp only [Act.put, List.setIfInBounds_toArray, List.set_cons_zero, List.set_cons_succ, i64_w, i32_w]
                   rfl
                  refine pure_ (i := 15) (N := some 150) (v := undef) (a' := ?_) #[true, true, true, true, true, true, true, true, true, true, true, true, true, true, true, true, false, false, false, false, false, false, false, false, false, false, false] rfl rfl (any_of HT_.out (by kernel_rfl)) (fun _ _ _ h => h) (Or.inr ⟨by rfl, rfl⟩) ?_ ?_
                  rotate_left
                  ·simp only [Act.put, List.setIfInBounds_toArray, List.set_cons_zero, List.set_cons_succ, i64_w, i32_w]
                   rfl
                  refine pure_ (i := 16) (N := some 151) (v := undef) (a' := ?_) #[true, true, true, true, true, true, true, true, true, true, true, true, true, true, true, true, true, false, false, false, false, false, false, false, false, false, false] rfl rfl (any_of HT_.out (by kernel_rfl)) (fun _ _ _ h => h) (Or.inr ⟨by rfl, rfl⟩) ?_ ?_
                  rotate_left
                  ·simp only [Act.put, List.setIfInBounds_toArray, List.set_cons_zero, List.set_cons_succ, i64_w, i32_w]
                   rfl
                  refine pure_ (i := 17) (N := some 152) (v := undef) (a' := ?_) #[true, true, true, true, true, true, true, true, true, true, true, true, true, true, true, true, true, true, false, false, false, false, false, false, false, false, false] rfl rfl (any_of HT_.out (by kernel_rfl)) (fun _ _ _ h => h) (Or.inr ⟨by rfl, rfl⟩) ?_ ?_
                  rotate_left
                  ·simp only [Act.put, List.setIfInBounds_toArray, List.set_cons_zero, List.set_cons_succ, i64_w, i32_w]
                   rfl
                  refine pure_ (i := 18) (N := some 153) (v := undef) (a' := ?_) #[true, true, true, true, true, true, true, true, true, true, true, true, true, true, true, true, true, true, true, false, false, false, false, false, false, false, false] rfl rfl (any_of HT_.out (by kernel_rfl)) (fun _ _ _ h => h) (Or.inr ⟨by rfl, rfl⟩) ?_ ?_
                  rotate_left
                  ·simp only [Act.put, List.setIfInBounds_toArray, List.set_cons_zero, List.set_cons_succ, i64_w, i32_w]
                   rfl
                  refine pure_ (i := 19) (N := some 154) (v := undef) (a' := ?_) #[true, true, true, true, true, true, true, true, true, true, true, true, true, true, true, true, true, true, true, true, false, false, false, false, false, false, false] rfl rfl (any_of HT_.out (by kernel_rfl)) (fun _ _ _ h => h) (Or.inr ⟨by rfl, rfl⟩) ?_ ?_
                  rotate_left
                  ·simp only [Act.put, List.setIfInBounds_toArray, List.set_cons_zero, List.set_cons_succ, i64_w, i32_w]
                   rfl
                  refine pure_ (i := 20) (N := some 155) (v := undef) (a' := ?_) #[true, true, true, true, true, true, true, true, true, true, true, true, true, true, true, true, true, true, true, true, true, false, false, false, false, false, false] rfl rfl (any_of HT_.out (by kernel_rfl)) (fun _ _ _ h => h) (Or.inr ⟨by rfl, rfl⟩) ?_ ?_
                  rotate_left
                  ·simp only [Act.put, List.setIfInBounds_toArray, List.set_cons_zero, List.set_cons_succ, i64_w, i32_w]
                   rfl
                  refine pure_ (i := 21) (N := some 156) (v := undef) (a' := ?_) #[true, true, true, true, true, true, true, true, true, true, true, true, true, true, true, true, true, true, true, true, true, true, false, false, false, false, false] rfl rfl (any_of HT_.out (by kernel_rfl)) (fun _ _ _ h => h) (Or.inr ⟨by rfl, rfl⟩) ?_ ?_
                  rotate_left
                  ·simp only [Act.put, List.setIfInBounds_toArray, List.set_cons_zero, List.set_cons_succ, i64_w, i32_w]
                   rfl
                  refine pure_ (i := 22) (N := some 157) (v := undef) (a' := ?_) #[true, true, true, true, true, true, true, true, true, true, true, true, true, true, true, true, true, true, true, true, true, true, true, false, false, false, false] rfl rfl (any_of HT_.out (by kernel_rfl)) (fun _ _ _ h => h) (Or.inr ⟨by rfl, rfl⟩) ?_ ?_
                  rotate_left
                  ·simp only [Act.put, List.setIfInBounds_toArray, List.set_cons_zero, List.set_cons_succ, i64_w, i32_w]
                   rfl
                  refine pure_ (i := 23) (N := some 158) (v := undef) (a' := ?_) #[true, true, true, true, true, true, true, true, true, true, true, true, true, true, true, true, true, true, true, true, true, true, true, true, false, false, false] rfl rfl (any_of HT_.out (by kernel_rfl)) (fun _ _ _ h => h) (Or.inr ⟨by rfl, rfl⟩) ?_ ?_
                  rotate_left
                  ·simp only [Act.put, List.setIfInBounds_toArray, List.set_cons_zero, List.set_cons_succ, i64_w, i32_w]
                   rfl
                  refine pure_ (i := 24) (N := some 159) (v := undef) (a' := ?_) #[true, true, true, true, true, true, true, true, true, true, true, true, true, true, true, true, true, true, true, true, true, true, true, true, true, false, false] rfl rfl (any_of HT_.out (by kernel_rfl)) (fun _ _ _ h => h) (Or.inr ⟨by rfl, rfl⟩) ?_ ?_
                  rotate_left
                  ·simp only [Act.put, List.setIfInBounds_toArray, List.set_cons_zero, List.set_cons_succ, i64_w, i32_w]
                   rfl
                  refine pure_ (i := 25) (N := some 160) (v := undef) (a' := ?_) #[true, true, true, true, true, true, true, true, true, true, true, true, true, true, true, true, true, true, true, true, true, true, true, true, true, true, false] rfl rfl (any_of HT_.out (by kernel_rfl)) (fun _ _ _ h => h) (Or.inr ⟨by rfl, rfl⟩) ?_ ?_
                  rotate_left
                  ·simp only [Act.put, List.setIfInBounds_toArray, List.set_cons_zero, List.set_cons_succ, i64_w, i32_w]
                   rfl
                  refine pure_ (i := 26) (N := some 161) (v := ?_) (a' := ?_) #[true, true, true, true, true, true, true, true, true, true, true, true, true, true, true, true, true, true, true, true, true, true, true, true, true, true, true] rfl rfl (any_of HT_.out (by kernel_rfl)) (fun _ _ _ h => h) (Or.inl ⟨by rfl, ?_⟩) ?_ ?_
                  rotate_left
                  ·intro w'
                   go_simp
                   with_reducible rfl
                  rotate_left
                  ·simp only [Act.put, List.setIfInBounds_toArray, List.set_cons_zero, List.set_cons_succ, i64_w, i32_w]
                   rfl
                  refine done_ (done_of HT_.out (by kernel_rfl)) ?_
                  try go_wp2
                  go_meet
                  case rel => exact ⟨_, (false), zs, H', ⟨by have := HJ9.out; have := HJ27.out; have := HJ39.out; first | omega | exact Nat.le_refl _⟩, ⟨by (with_reducible repeat (first | apply Kd.R_alloc | apply Kd.R_drewN | apply Kd.R_drew)); exact HO_346000.out⟩, ⟨by (with_reducible repeat (first | apply Kd.R_alloc | apply Kd.R_drewN | apply Kd.R_drew)); exact HO_346001.out⟩, ⟨by exact pk BK345.out⟩, ⟨by exact pk BK354.out⟩, ⟨zb⟩⟩
                case rest =>
                 clear HC95
                 try clear c2
                 try clear p2
                 try clear p6
                 try clear c9
                 try clear c24
                 try clear p64
                 try clear c96
                 try clear c96b0
                 try clear c97
                 try clear c97b0
                 try clear c98
                 try clear c98b0
                 obtain ⟨kq, x161_94, rfl, HA, HJ94, HO_346000, HO_346001, BK345, BK354, HB⟩ := hcut
                 as_aux_lemma =>
                  cases kq with
                  | zero => exact absurd HA.out (by simp [laws_FnFees.j3])
                  | succ kj94 =>
                   have H := HA.out
                   clear HA
                   simp only [laws_FnFees.j3] at H
                   by_cases c105 : x161_94 = true
                   ·subst c105
                    have H1 : (none) = some r := by rw [if_pos rfl] at H; exact H
                    clear H
                    have H := H1
                    clear H1
                    exact absurd H (by simp)
                   ·replace c105 := Bool.eq_false_iff.mpr c105
                    subst c105
                    have H1 : ((impl_NextRise.f kj94 t339 t342 t346 t347 t348 t349 t350 t351 t352 t353 (wrap64 (1 + (Int.tmod (rd t355 2) 6))) (Int.tmod (rd t355 0) 300) (wrap64 ((Int.tmod (rd t355 0) 300) + (Int.tmod (rd t355 1) 300))) x9_9).bind fun bt371 => ((spec_NextRise.f kj94 t339 t342 t346 t347 t348 t349 t350 t351 t352 t353 (wrap64 (1 + (Int.tmod (rd t355 2) 6))) (Int.tmod (rd t355 0) 300) (wrap64 ((Int.tmod (rd t355 0) 300) + (Int.tmod (rd t355 1) 300))) x9_9).bind fun bt373 => (if (bt371.2 != bt373.2) = true then (laws_FnFees.j4 kj94 (Int.tmod (rd t355 0) 300) (wrap64 ((Int.tmod (rd t355 0) 300) + (Int.tmod (rd t355 1) 300))) (wrap64 (1 + (Int.tmod (rd t355 2) 6))) x9_9 t362 bt373.1 bt373.2 true t339 t342 t346 t347 t348 t349 t350 t351 t352 t353) else (laws_FnFees.j4 kj94 (Int.tmod (rd t355 0) 300) (wrap64 ((Int.tmod (rd t355 0) 300) + (Int.tmod (rd t355 1) 300))) (wrap64 (1 + (Int.tmod (rd t355 2) 6))) x9_9 t362 bt373.1 bt373.2 (bt371.1 != bt373.1) t339 t342 t346 t347 t348 t349 t350 t351 t352 t353)))) = some r := by rw [if_neg (show ¬ (false = true) by decide)] at H; exact H
                    clear H
                    have H := H1
                    clear H1
                    replace H := Option.bind_eq_some_iff.mp H
                    obtain ⟨⟨t371, t372⟩, A1060, H⟩ := H
                    replace H : ((spec_NextRise.f kj94 t339 t342 t346 t347 t348 t349 t350 t351 t352 t353 (wrap64 (1 + (Int.tmod (rd t355 2) 6))) (Int.tmod (rd t355 0) 300) (wrap64 ((Int.tmod (rd t355 0) 300) + (Int.tmod (rd t355 1) 300))) x9_9).bind fun bt373 => (if (t372 != bt373.2) = true then (laws_FnFees.j4 kj94 (Int.tmod (rd t355 0) 300) (wrap64 ((Int.tmod (rd t355 0) 300) + (Int.tmod (rd t355 1) 300))) (wrap64 (1 + (Int.tmod (rd t355 2) 6))) x9_9 t362 bt373.1 bt373.2 true t339 t342 t346 t347 t348 t349 t350 t351 t352 t353) else (laws_FnFees.j4 kj94 (Int.tmod (rd t355 0) 300) (wrap64 ((Int.tmod (rd t355 0) 300) + (Int.tmod (rd t355 1) 300))) (wrap64 (1 + (Int.tmod (rd t355 2) 6))) x9_9 t362 bt373.1 bt373.2 (t371 != bt373.1) t339 t342 t346 t347 t348 t349 t350 t351 t352 t353))) = some r := H
                    have A106 := aM A1060
                    clear A1060
                    replace H := Option.bind_eq_some_iff.mp H
                    obtain ⟨⟨t373, t374⟩, A1070, H⟩ := H
                    replace H : (if (t372 != t374) = true then (laws_FnFees.j4 kj94 (Int.tmod (rd t355 0) 300) (wrap64 ((Int.tmod (rd t355 0) 300) + (Int.tmod (rd t355 1) 300))) (wrap64 (1 + (Int.tmod (rd t355 2) 6))) x9_9 t362 t373 t374 true t339 t342 t346 t347 t348 t349 t350 t351 t352 t353) else (laws_FnFees.j4 kj94 (Int.tmod (rd t355 0) 300) (wrap64 ((Int.tmod (rd t355 0) 300) + (Int.tmod (rd t355 1) 300))) (wrap64 (1 + (Int.tmod (rd t355 2) 6))) x9_9 t362 t373 t374 (t371 != t373) t339 t342 t346 t347 t348 t349 t350 t351 t352 t353)) = some r := H
                    have A107 := aM A1070
                    clear A1070
                    have HC108 := aM H
                    clear H
                    have hnb109 := NB345_354.out
                    have hnc109 := NB354_345.out
                    obtain ⟨hcz110_0, hcz110_1, hfz110_0, hfz110_1⟩ := cells2 BK345.out
                    obtain ⟨hcz111_0, hcz111_1, hcz111_2, hcz111_3, hcz111_4, hcz111_5, hcz111_6, hcz111_7, hfz111_0, hfz111_1, hfz111_2, hfz111_3, hfz111_4, hfz111_5, hfz111_6, hfz111_7⟩ := cells8 BK354.out
                    go_upto_region 19 with (first | ((with_reducible refine gate_callee (f := 32) rfl ?_); refine goesL_ (some 169) rfl rfl Try.func32 (by kernel_rfl) rfl #[.agg #[.slice Ao13 t339.length co13, .slice Ao15 t342.length co15], .agg #[.int .i64 t346, .int .i64 t347, .int .i64 t348, .int .i64 t349, .int .i64 t350, .int .i64 t351, .int .i64 t352, .int .i64 t353], .int .i64 (wrap64 (1 + (Int.tmod (rd t355 2) 6))), .int .i64 (Int.tmod (rd t355 0) 300), .int .i64 (wrap64 ((Int.tmod (rd t355 0) 300) + (Int.tmod (rd t355 1) 300))), .int .i64 x9_9] rfl za ?_; (with_reducible refine (impl_NextRise.calls kj94 _ _ t339 _ _ t342 t346 t347 t348 t349 t350 t351 t352 t353 (wrap64 (1 + (Int.tmod (rd t355 2) 6))) (Int.tmod (rd t355 0) 300) (wrap64 ((Int.tmod (rd t355 0) 300) + (Int.tmod (rd t355 1) 300))) x9_9 t371 t372 _ ?side1 ?side2 ?side3 ?side4 A106.out).mono ?_); (case side1 => repeat (first | exact (Kd.R_reads' HO_346000.out).2.2 | (with_reducible refine Kd.C_alloc ?_ _) | (with_reducible refine Kd.C_drewN ?_ _) | (with_reducible refine Kd.C_drew ?_))); (case side2 => exact (Kd.R_reads' HO_346000.out).2.1); (case side3 => repeat (first | exact (Kd.R_reads' HO_346001.out).2.2 | (with_reducible refine Kd.C_alloc ?_ _) | (with_reducible refine Kd.C_drewN ?_ _) | (with_reducible refine Kd.C_drew ?_))); (case side4 => exact (Kd.R_reads' HO_346001.out).2.1); rintro e w112 ⟨rfl, hb⟩; refine ⟨_, rfl, ?_⟩; have n0_ := aM (Kd.R_below (by (with_reducible repeat (first | apply Kd.R_alloc | apply Kd.R_drewN | apply Kd.R_drew)); exact HO_346000.out) hb); have n1_ := aM (Kd.R_below (by (with_reducible repeat (first | apply Kd.R_alloc | apply Kd.R_drewN | apply Kd.R_drew)); exact HO_346001.out) hb); have n2_ := aM (bb BK345.out hb); have n3_ := aM (bb BK354.out hb); have n4_ := aM (below_step (zb) hb); clear HO_346000; clear HO_346001; clear BK345; clear BK354; clear HB; have HO_346000 := n0_; have HO_346001 := n1_; have BK345 := n2_; have BK354 := n3_; have HB := n4_; clear n0_ n1_ n2_ n3_ n4_; (try clear hb); (try clear hb2); (try clear hk); (try clear hi); obtain ⟨hcz113_0, hcz113_1, hfz113_0, hfz113_1⟩ := cells2 BK345.out; obtain ⟨hcz114_0, hcz114_1, hcz114_2, hcz114_3, hcz114_4, hcz114_5, hcz114_6, hcz114_7, hfz114_0, hfz114_1, hfz114_2, hfz114_3, hfz114_4, hfz114_5, hfz114_6, hfz114_7⟩ := cells8 BK354.out) | ((with_reducible refine gate_callee (f := 31) rfl ?_); refine goesL_ (some 179) rfl rfl Try.func31 (by kernel_rfl) rfl #[.agg #[.slice Ao13 t339.length co13, .slice Ao15 t342.length co15], .agg #[.int .i64 t346, .int .i64 t347, .int .i64 t348, .int .i64 t349, .int .i64 t350, .int .i64 t351, .int .i64 t352, .int .i64 t353], .int .i64 (wrap64 (1 + (Int.tmod (rd t355 2) 6))), .int .i64 (Int.tmod (rd t355 0) 300), .int .i64 (wrap64 ((Int.tmod (rd t355 0) 300) + (Int.tmod (rd t355 1) 300))), .int .i64 x9_9] rfl za ?_; (with_reducible refine (spec_NextRise.calls kj94 _ _ t339 _ _ t342 t346 t347 t348 t349 t350 t351 t352 t353 (wrap64 (1 + (Int.tmod (rd t355 2) 6))) (Int.tmod (rd t355 0) 300) (wrap64 ((Int.tmod (rd t355 0) 300) + (Int.tmod (rd t355 1) 300))) x9_9 t373 t374 _ ?side1 ?side2 ?side3 ?side4 A107.out).mono ?_); (case side1 => repeat (first | exact (Kd.R_reads' HO_346000.out).2.2 | (with_reducible refine Kd.C_alloc ?_ _) | (with_reducible refine Kd.C_drewN ?_ _) | (with_reducible refine Kd.C_drew ?_))); (case side2 => exact (Kd.R_reads' HO_346000.out).2.1); (case side3 => repeat (first | exact (Kd.R_reads' HO_346001.out).2.2 | (with_reducible refine Kd.C_alloc ?_ _) | (with_reducible refine Kd.C_drewN ?_ _) | (with_reducible refine Kd.C_drew ?_))); (case side4 => exact (Kd.R_reads' HO_346001.out).2.1); rintro e w115 ⟨rfl, hb⟩; refine ⟨_, rfl, ?_⟩; have n0_ := aM (Kd.R_below (by (with_reducible repeat (first | apply Kd.R_alloc | apply Kd.R_drewN | apply Kd.R_drew)); exact HO_346000.out) hb); have n1_ := aM (Kd.R_below (by (with_reducible repeat (first | apply Kd.R_alloc | apply Kd.R_drewN | apply Kd.R_drew)); exact HO_346001.out) hb); have n2_ := aM (bb BK345.out hb); have n3_ := aM (bb BK354.out hb); have n4_ := aM (below_step (zb) hb); clear HO_346000; clear HO_346001; clear BK345; clear BK354; clear HB; have HO_346000 := n0_; have HO_346001 := n1_; have BK345 := n2_; have BK354 := n3_; have HB := n4_; clear n0_ n1_ n2_ n3_ n4_; (try clear hb); (try clear hb2); (try clear hk); (try clear hi)))
                    (try simp only [Act.put, List.setIfInBounds_toArray, List.set_cons_zero, List.set_cons_succ])
                    go_cut [189] (fun v189 wc => ∃ (kq : Nat) (x189_107 : Bool), v189 = .bool x189_107 ∧ Aside0 (laws_FnFees.j4 kq (Int.tmod (rd t355 0) 300) (wrap64 ((Int.tmod (rd t355 0) 300) + (Int.tmod (rd t355 1) 300))) (wrap64 (1 + (Int.tmod (rd t355 2) 6))) x9_9 t362 t373 t374 x189_107 t339 t342 t346 t347 t348 t349 t350 t351 t352 t353 = some r) ∧ Aside0 (kq ≤ kj94) ∧ Aside0 (Kd.R k71 71 wc w.heap.size (fun k_ => some k_ ≠ ((.slice Ao15 t342.length co15) : Value).ownBlock) (.slice Ao13 t339.length co13) t339) ∧ Aside0 (Kd.R k71 71 wc w.heap.size (fun k_ => some k_ ≠ ((.slice Ao13 t339.length co13) : Value).ownBlock) (.slice Ao15 t342.length co15) t342) ∧ Aside0 (wc.heap[gb345]? = some (.cells #[(.slice Ao13 t339.length co13), (.slice Ao15 t342.length co15)] 36 (0, 0))) ∧ Aside0 (wc.heap[gb354]? = some (.cells #[.int .i64 t346, .int .i64 t347, .int .i64 t348, .int .i64 t349, .int .i64 t350, .int .i64 t351, .int .i64 t352, .int .i64 t353] 25 (0, 0))) ∧ Aside0 (Below w.heap.size w wc))
                    case first =>
                     have H := HC108.out
                     clear HC108
                     by_cases c116 : (t372 != t374) = true
                     ·rw [if_pos c116] at H
                      have c116b0 : (t372 != t374) = true := c116
                      (try (have c116b1 : decide (t372 = t374) = false := by simpa using c116))
                      (try (have c116b2 : (t372 == t374) = false := by simpa using c116))
                      (try (have c116b3 : ¬ (t372 = t374) := by simpa using c116))
                      clear c116
                      (first | rw [c116b0] | (simp only [i64_w, i32_w]; rw [c116b0]) | skip)
                      have H' := aM H
                      clear H
                      go_wp2
                      go_meet
                      case rel => exact ⟨_, (true), zs, H', ⟨by have := HJ9.out; have := HJ27.out; have := HJ39.out; have := HJ94.out; first | omega | exact Nat.le_refl _⟩, ⟨by (with_reducible repeat (first | apply Kd.R_alloc | apply Kd.R_drewN | apply Kd.R_drew)); exact HO_346000.out⟩, ⟨by (with_reducible repeat (first | apply Kd.R_alloc | apply Kd.R_drewN | apply Kd.R_drew)); exact HO_346001.out⟩, ⟨by exact pk BK345.out⟩, ⟨by exact pk BK354.out⟩, ⟨zb⟩⟩
                     ·rw [if_neg c116] at H
                      have c116b0 : (t372 != t374) = false := by simpa using c116
                      (try (have c116b1 : decide (t372 = t374) = true := by simpa using c116))
                      (try (have c116b2 : (t372 == t374) = true := by simpa using c116))
                      clear c116
                      (first | rw [c116b0] | (simp only [i64_w, i32_w]; rw [c116b0]) | skip)
                      have H' := aM H
                      clear H
                      go_wp2
                      go_meet
                      case rel => exact ⟨_, ((t371 != t373)), zs, H', ⟨by have := HJ9.out; have := HJ27.out; have := HJ39.out; have := HJ94.out; first | omega | exact Nat.le_refl _⟩, ⟨by (with_reducible repeat (first | apply Kd.R_alloc | apply Kd.R_drewN | apply Kd.R_drew)); exact HO_346000.out⟩, ⟨by (with_reducible repeat (first | apply Kd.R_alloc | apply Kd.R_drewN | apply Kd.R_drew)); exact HO_346001.out⟩, ⟨by exact pk BK345.out⟩, ⟨by exact pk BK354.out⟩, ⟨zb⟩⟩
                    case rest =>
                     clear HC108
                     try clear c1
                     try clear c2
                     try clear p2
                     try clear c3
                     try clear p6
                     try clear c9
                     try clear c10
                     try clear c11
                     try clear c24
                     try clear c31
                     try clear c32
                     try clear p64
                     try clear c96
                     try clear c96b0
                     try clear c97
                     try clear c97b0
                     try clear c98
                     try clear c98b0
                     try clear c105
                     try clear c109
                     try clear c116
                     try clear c116b0
                     try clear c116b1
                     try clear c116b2
                     try clear hcz110_0 hcz110_1 hfz110_0 hfz110_1
                     try clear hcz111_0 hcz111_1 hcz111_2 hcz111_3 hcz111_4 hcz111_5 hcz111_6 hcz111_7 hfz111_0 hfz111_1 hfz111_2 hfz111_3 hfz111_4 hfz111_5 hfz111_6 hfz111_7
                     try clear hcz113_0 hcz113_1 hfz113_0 hfz113_1
                     try clear hcz114_0 hcz114_1 hcz114_2 hcz114_3 hcz114_4 hcz114_5 hcz114_6 hcz114_7 hfz114_0 hfz114_1 hfz114_2 hfz114_3 hfz114_4 hfz114_5 hfz114_6 hfz114_7
                     try clear p2
                     try clear p6
                     try clear p64
                     obtain ⟨kq, x189_107, rfl, HA, HJ107, HO_346000, HO_346001, BK345, BK354, HB⟩ := hcut
                     as_aux_lemma =>
                      cases kq with
                      | zero => exact absurd HA.out (by simp [laws_FnFees.j4])
                      | succ kj107 =>
                       have H := HA.out
                       clear HA
                       simp only [laws_FnFees.j4] at H
                       by_cases c117 : x189_107 = true
                       ·subst c117
                        have H1 : (none) = some r := by rw [if_pos rfl] at H; exact H
                        clear H
                        have H := H1
                        clear H1
                        exact absurd H (by simp)
                       ·replace c117 := Bool.eq_false_iff.mpr c117
                        subst c117
                        have H1 : (if t374 = true then (if t373 > (wrap64 ((Int.tmod (rd t355 0) 300) + (Int.tmod (rd t355 1) 300))) then ((impl_FeeOf.f kj107 t339 t342 t346 t347 t348 t349 t350 t351 t352 t353 (wrap64 (1 + (Int.tmod (rd t355 2) 6))) (Int.tmod (rd t355 0) 300) t373 x9_9).bind fun t375 => (if t375 > t362 then ((impl_FeeOf.f kj107 t339 t342 t346 t347 t348 t349 t350 t351 t352 t353 (wrap64 (1 + (Int.tmod (rd t355 2) 6))) (Int.tmod (rd t355 0) 300) (wrap64 (t373 - 1)) x9_9).bind fun t376 => (some (t376 == t362))) else (none))) else (none)) else ((impl_FeeOf.f kj107 t339 t342 t346 t347 t348 t349 t350 t351 t352 t353 (wrap64 (1 + (Int.tmod (rd t355 2) 6))) (Int.tmod (rd t355 0) 300) 20000 x9_9).bind fun t377 => (some (t377 == t362)))) = some r := by rw [if_neg (show ¬ (false = true) by decide)] at H; exact H
                        clear H
                        have H := H1
                        clear H1
                        by_cases c118 : t374 = true
                        ·subst c118
                         have H1 : (if t373 > (wrap64 ((Int.tmod (rd t355 0) 300) + (Int.tmod (rd t355 1) 300))) then ((impl_FeeOf.f kj107 t339 t342 t346 t347 t348 t349 t350 t351 t352 t353 (wrap64 (1 + (Int.tmod (rd t355 2) 6))) (Int.tmod (rd t355 0) 300) t373 x9_9).bind fun t375 => (if t375 > t362 then ((impl_FeeOf.f kj107 t339 t342 t346 t347 t348 t349 t350 t351 t352 t353 (wrap64 (1 + (Int.tmod (rd t355 2) 6))) (Int.tmod (rd t355 0) 300) (wrap64 (t373 - 1)) x9_9).bind fun t376 => (some (t376 == t362))) else (none))) else (none)) = some r := by rw [if_pos rfl] at H; exact H
                         clear H
                         have H := H1
                         clear H1
                         by_cases c119 : t373 > (wrap64 ((Int.tmod (rd t355 0) 300) + (Int.tmod (rd t355 1) 300)))
                         ·rw [if_pos c119] at H
                          have c119b0 : decide ((wrap64 ((Int.tmod (rd t355 0) 300) + (Int.tmod (rd t355 1) 300))) < t373) = true := decide_eq_true c119
                          clear c119
                          replace H := Option.bind_eq_some_iff.mp H
                          obtain ⟨t375, A1200, H⟩ := H
                          replace H : (if t375 > t362 then ((impl_FeeOf.f kj107 t339 t342 t346 t347 t348 t349 t350 t351 t352 t353 (wrap64 (1 + (Int.tmod (rd t355 2) 6))) (Int.tmod (rd t355 0) 300) (wrap64 (t373 - 1)) x9_9).bind fun t376 => (some (t376 == t362))) else (none)) = some r := H
                          have A120 := aM A1200
                          clear A1200
                          by_cases c121 : t375 > t362
                          ·rw [if_pos c121] at H
                           have c121b0 : decide (t362 < t375) = true := decide_eq_true c121
                           clear c121
                           replace H := Option.bind_eq_some_iff.mp H
                           obtain ⟨t376, A1220, H⟩ := H
                           replace H : (some (t376 == t362)) = some r := H
                           have A122 := aM A1220
                           clear A1220
                           obtain rfl := Option.some.inj H
                           have hnb123 := NB345_354.out
                           have hnc123 := NB354_345.out
                           obtain ⟨hcz124_0, hcz124_1, hfz124_0, hfz124_1⟩ := cells2 BK345.out
                           obtain ⟨hcz125_0, hcz125_1, hcz125_2, hcz125_3, hcz125_4, hcz125_5, hcz125_6, hcz125_7, hfz125_0, hfz125_1, hfz125_2, hfz125_3, hfz125_4, hfz125_5, hfz125_6, hfz125_7⟩ := cells8 BK354.out
                           go_wp2_with (first | (go_at_call 24; (with_reducible refine (impl_FeeOf.calls kj107 _ _ t339 _ _ t342 t346 t347 t348 t349 t350 t351 t352 t353 (wrap64 (1 + (Int.tmod (rd t355 2) 6))) (Int.tmod (rd t355 0) 300) t373 x9_9 t375 _ ?side1 ?side2 ?side3 ?side4 A120.out).mono ?_); (case side1 => repeat (first | exact (Kd.R_reads' HO_346000.out).2.2 | (with_reducible refine Kd.C_alloc ?_ _) | (with_reducible refine Kd.C_drewN ?_ _) | (with_reducible refine Kd.C_drew ?_))); (case side2 => exact (Kd.R_reads' HO_346000.out).2.1); (case side3 => repeat (first | exact (Kd.R_reads' HO_346001.out).2.2 | (with_reducible refine Kd.C_alloc ?_ _) | (with_reducible refine Kd.C_drewN ?_ _) | (with_reducible refine Kd.C_drew ?_))); (case side4 => exact (Kd.R_reads' HO_346001.out).2.1); rintro e w126 ⟨rfl, hb⟩; have n0_ := aM (Kd.R_below (by (with_reducible repeat (first | apply Kd.R_alloc | apply Kd.R_drewN | apply Kd.R_drew)); exact HO_346000.out) hb); have n1_ := aM (Kd.R_below (by (with_reducible repeat (first | apply Kd.R_alloc | apply Kd.R_drewN | apply Kd.R_drew)); exact HO_346001.out) hb); have n2_ := aM (bb BK345.out hb); have n3_ := aM (bb BK354.out hb); have n4_ := aM (below_step (zb) hb); clear HO_346000; clear HO_346001; clear BK345; clear BK354; clear HB; have HO_346000 := n0_; have HO_346001 := n1_; have BK345 := n2_; have BK354 := n3_; have HB := n4_; clear n0_ n1_ n2_ n3_ n4_; (try clear hb); (try clear hb2); (try clear hk); (try clear hi); obtain ⟨hcz127_0, hcz127_1, hfz127_0, hfz127_1⟩ := cells2 BK345.out; obtain ⟨hcz128_0, hcz128_1, hcz128_2, hcz128_3, hcz128_4, hcz128_5, hcz128_6, hcz128_7, hfz128_0, hfz128_1, hfz128_2, hfz128_3, hfz128_4, hfz128_5, hfz128_6, hfz128_7⟩ := cells8 BK354.out) | (go_at_call 24; (with_reducible refine (impl_FeeOf.calls kj107 _ _ t339 _ _ t342 t346 t347 t348 t349 t350 t351 t352 t353 (wrap64 (1 + (Int.tmod (rd t355 2) 6))) (Int.tmod (rd t355 0) 300) (wrap64 (t373 - 1)) x9_9 t376 _ ?side1 ?side2 ?side3 ?side4 A122.out).mono ?_); (case side1 => repeat (first | exact (Kd.R_reads' HO_346000.out).2.2 | (with_reducible refine Kd.C_alloc ?_ _) | (with_reducible refine Kd.C_drewN ?_ _) | (with_reducible refine Kd.C_drew ?_))); (case side2 => exact (Kd.R_reads' HO_346000.out).2.1); (case side3 => repeat (first | exact (Kd.R_reads' HO_346001.out).2.2 | (with_reducible refine Kd.C_alloc ?_ _) | (with_reducible refine Kd.C_drewN ?_ _) | (with_reducible refine Kd.C_drew ?_))); (case side4 => exact (Kd.R_reads' HO_346001.out).2.1); rintro e w129 ⟨rfl, hb⟩; have n0_ := aM (Kd.R_below (by (with_reducible repeat (first | apply Kd.R_alloc | apply Kd.R_drewN | apply Kd.R_drew)); exact HO_346000.out) hb); have n1_ := aM (Kd.R_below (by (with_reducible repeat (first | apply Kd.R_alloc | apply Kd.R_drewN | apply Kd.R_drew)); exact HO_346001.out) hb); have n2_ := aM (bb BK345.out hb); have n3_ := aM (bb BK354.out hb); have n4_ := aM (below_step (zb) hb); clear HO_346000; clear HO_346001; clear BK345; clear BK354; clear HB; have HO_346000 := n0_; have HO_346001 := n1_; have BK345 := n2_; have BK354 := n3_; have HB := n4_; clear n0_ n1_ n2_ n3_ n4_; (try clear hb); (try clear hb2); (try clear hk); (try clear hi)))
                           go_ret
                           exact ⟨zr, zb⟩
                          ·rw [if_neg c121] at H
                           exact absurd H (by simp)
                         ·rw [if_neg c119] at H
                          exact absurd H (by simp)
                        ·replace c118 := Bool.eq_false_iff.mpr c118
                         subst c118
                         have H1 : ((impl_FeeOf.f kj107 t339 t342 t346 t347 t348 t349 t350 t351 t352 t353 (wrap64 (1 + (Int.tmod (rd t355 2) 6))) (Int.tmod (rd t355 0) 300) 20000 x9_9).bind fun t377 => (some (t377 == t362))) = some r := by rw [if_neg (show ¬ (false = true) by decide)] at H; exact H
                         clear H
                         have H := H1
                         clear H1
                         replace H := Option.bind_eq_some_iff.mp H
                         obtain ⟨t377, A1300, H⟩ := H
                         replace H : (some (t377 == t362)) = some r := H
                         have A130 := aM A1300
                         clear A1300
                         obtain rfl := Option.some.inj H
                         have hnb131 := NB345_354.out
                         have hnc131 := NB354_345.out
                         obtain ⟨hcz132_0, hcz132_1, hfz132_0, hfz132_1⟩ := cells2 BK345.out
                         obtain ⟨hcz133_0, hcz133_1, hcz133_2, hcz133_3, hcz133_4, hcz133_5, hcz133_6, hcz133_7, hfz133_0, hfz133_1, hfz133_2, hfz133_3, hfz133_4, hfz133_5, hfz133_6, hfz133_7⟩ := cells8 BK354.out
                         go_wp2_with (first | ((with_reducible refine gate_callee (f := 24) rfl ?_); refine goesL_ (some 197) rfl rfl Try.func24 (by kernel_rfl) rfl #[.agg #[.slice Ao13 t339.length co13, .slice Ao15 t342.length co15], .agg #[.int .i64 t346, .int .i64 t347, .int .i64 t348, .int .i64 t349, .int .i64 t350, .int .i64 t351, .int .i64 t352, .int .i64 t353], .int .i64 (wrap64 (1 + (Int.tmod (rd t355 2) 6))), .int .i64 (Int.tmod (rd t355 0) 300), .int .i64 20000, .int .i64 x9_9] rfl za ?_; (with_reducible refine (impl_FeeOf.calls kj107 _ _ t339 _ _ t342 t346 t347 t348 t349 t350 t351 t352 t353 (wrap64 (1 + (Int.tmod (rd t355 2) 6))) (Int.tmod (rd t355 0) 300) 20000 x9_9 t377 _ ?side1 ?side2 ?side3 ?side4 A130.out).mono ?_); (case side1 => repeat (first | exact (Kd.R_reads' HO_346000.out).2.2 | (with_reducible refine Kd.C_alloc ?_ _) | (with_reducible refine Kd.C_drewN ?_ _) | (with_reducible refine Kd.C_drew ?_))); (case side2 => exact (Kd.R_reads' HO_346000.out).2.1); (case side3 => repeat (first | exact (Kd.R_reads' HO_346001.out).2.2 | (with_reducible refine Kd.C_alloc ?_ _) | (with_reducible refine Kd.C_drewN ?_ _) | (with_reducible refine Kd.C_drew ?_))); (case side4 => exact (Kd.R_reads' HO_346001.out).2.1); rintro e w134 ⟨rfl, hb⟩; refine ⟨_, rfl, ?_⟩; have n0_ := aM (Kd.R_below (by (with_reducible repeat (first | apply Kd.R_alloc | apply Kd.R_drewN | apply Kd.R_drew)); exact HO_346000.out) hb); have n1_ := aM (Kd.R_below (by (with_reducible repeat (first | apply Kd.R_alloc | apply Kd.R_drewN | apply Kd.R_drew)); exact HO_346001.out) hb); have n2_ := aM (bb BK345.out hb); have n3_ := aM (bb BK354.out hb); have n4_ := aM (below_step (zb) hb); clear HO_346000; clear HO_346001; clear BK345; clear BK354; clear HB; have HO_346000 := n0_; have HO_346001 := n1_; have BK345 := n2_; have BK354 := n3_; have HB := n4_; clear n0_ n1_ n2_ n3_ n4_; (try clear hb); (try clear hb2); (try clear hk); (try clear hi)))
                         go_ret
                         exact ⟨zr, zb⟩
        ·rw [if_neg c26] at H
         exact absurd H (by simp)
    ·rw [if_neg c9] at H
     exact absurd H (by simp)
   ·rw [if_neg c8] at H
    exact absurd H (by simp)
  ·rw [if_neg c7] at H
   exact absurd H (by simp)

/-- THE ONE PURE STATEMENT of laws_FnFees: yours. -/
def laws_FnFees.Pure : Prop := ∀ (l0 : List Int), l0.length ≤ maxLen → l0.length * 1 ≤ 140737488351232 → (∀ x ∈ l0, (Lit.int .u8 x).wf = true) → ∃ k, laws_FnFees.f k l0 = some true
theorem laws_FnFees.walk (P : laws_FnFees.Pure) (a0 : Option Addr) (len0 cap0 : Nat) (z0 : List Int) (w : World) (w0 : (a0 = none ∧ len0 = 0 ∧ cap0 = 0 ∧ z0 = []) ∨ ∃ x, a0 = some x ∧ len0 ≤ cap0 ∧ cap0 ≤ maxLen ∧ z0.length = cap0 ∧ (∀ i, i < z0.length → w.cell? (x.add i) = some (.int .u8 (z0.getD i 0))) ∧ ∀ n ∈ z0, (Lit.int .u8 n).wf = true) (y0 : len0 * 1 ≤ 140737488351232) :
  Calls Try.prog 12 #[.slice a0 len0 cap0] w fun e w' => e = .returned (.bool true) ∧ Below w.heap.size w w' := by
 obtain ⟨l0, rfl, hr0, hm0, hw0, hc0⟩ := ReadsInt.ofRowC w0
 obtain ⟨k, h⟩ := P l0 hm0 y0 hw0
 refine (laws_FnFees.calls k _ _ l0 true w (Kd.C_of_reads (d := (0 : Int)) (h1 := fun _ => rfl) hr0) hc0 h).mono ?_
 rintro e w' ⟨rfl, hd⟩
 exact ⟨rfl, hd⟩

end Go.Proofs.Ytcabbbidbkgalaa.QFnFees
