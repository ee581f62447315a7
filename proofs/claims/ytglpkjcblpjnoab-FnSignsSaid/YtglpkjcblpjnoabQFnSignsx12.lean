-- Printed functions and their walks: by print.py, turned by wip/tools/myprint.py.
import Derived.Test.YtglpkjcblpjnoabQFnSignsx0
import Derived.Test.YtglpkjcblpjnoabQFnSignsx2
import Derived.Test.YtglpkjcblpjnoabQFnSignsx3
import Derived.Test.YtglpkjcblpjnoabQFnSignsx4
import Derived.Test.YtglpkjcblpjnoabQFnSignsx5
import Derived.Test.YtglpkjcblpjnoabQFnSignsx7
import Derived.Test.YtglpkjcblpjnoabQFnSignsx11
namespace Go.Proofs.Ytglpkjcblpjnoab.QFnSigns
open Go.RowKit Go.Proofs.YtglpkjcblpjnoabW.PrintWords Go.Proofs.YtglpkjcblpjnoabW.PrintLast Go.Proofs.YtglpkjcblpjnoabW.PrintMore
attribute [local go_sem] max2_int min2_int max_two min_two max_three min_three max_four min_four   -- for this text's walks alone
set_option linter.unusedVariables false
set_option linter.unusedSimpArgs false

attribute [local go_sem high] eqA50
/-! ### laws_FnSigns: function 10 -/
def laws_FnSigns.j0 : Nat → Bool → Bool → Int → Int → Bool → Bool → Bool → Int → Int → Int → Int → Bool → Bool → Bool → Bool → Option (Bool)
 | 0, _, _, _, _, _, _, _, _, _, _, _, _, _, _, _ => none
 | k + 1, x6, x45, x407000, x407001, x407002, x407003, x407004, x408000, x408001, x408002, x408003, x414000, x414001, x414002, x414003 => if x45 = true then (none) else ((impl_Recover.f k x407000 x407001 x407002 x407003 x407004 x408000 x408001 x408002 x408003).bind fun bt422 => (if x6 = true then (if x408000 = 0 then (if (x414000 == (!x407003)) = true then (if x408001 = 1 then (if x414001 = true then (none) else (if x408002 = 2 then (if x414002 = true then (if x408003 = 0 then (if (x414003 == x407004) = true then (if x407000 = 0 then (some (bt422.2.2.2.2.2.2 == false)) else (if x407001 = 0 then ((impl_CountFaults.f k x408000 x408001 x408002 x408003).bind fun t430 => (some (bt422.2.2.2.2.2.2 == (decide (t430 ≤ 1))))) else (some (bt422.2.2.2.2.2.2 == false)))) else (none)) else (if x407000 = 0 then (some (bt422.2.2.2.2.2.2 == false)) else (if x407001 = 0 then ((impl_CountFaults.f k x408000 x408001 x408002 x408003).bind fun t431 => (some (bt422.2.2.2.2.2.2 == (decide (t431 ≤ 1))))) else (some (bt422.2.2.2.2.2.2 == false))))) else (none)) else (if x408003 = 0 then (if (x414003 == x407004) = true then (if x407000 = 0 then (some (bt422.2.2.2.2.2.2 == false)) else (if x407001 = 0 then ((impl_CountFaults.f k x408000 x408001 x408002 x408003).bind fun t432 => (some (bt422.2.2.2.2.2.2 == (decide (t432 ≤ 1))))) else (some (bt422.2.2.2.2.2.2 == false)))) else (none)) else (if x407000 = 0 then (some (bt422.2.2.2.2.2.2 == false)) else (if x407001 = 0 then ((impl_CountFaults.f k x408000 x408001 x408002 x408003).bind fun t433 => (some (bt422.2.2.2.2.2.2 == (decide (t433 ≤ 1))))) else (some (bt422.2.2.2.2.2.2 == false))))))) else (if x408002 = 2 then (if x414002 = true then (if x408003 = 0 then (if (x414003 == x407004) = true then (if x407000 = 0 then (some (bt422.2.2.2.2.2.2 == false)) else (if x407001 = 0 then ((impl_CountFaults.f k x408000 x408001 x408002 x408003).bind fun t434 => (some (bt422.2.2.2.2.2.2 == (decide (t434 ≤ 1))))) else (some (bt422.2.2.2.2.2.2 == false)))) else (none)) else (if x407000 = 0 then (some (bt422.2.2.2.2.2.2 == false)) else (if x407001 = 0 then ((impl_CountFaults.f k x408000 x408001 x408002 x408003).bind fun t435 => (some (bt422.2.2.2.2.2.2 == (decide (t435 ≤ 1))))) else (some (bt422.2.2.2.2.2.2 == false))))) else (none)) else (if x408003 = 0 then (if (x414003 == x407004) = true then (if x407000 = 0 then (some (bt422.2.2.2.2.2.2 == false)) else (if x407001 = 0 then ((impl_CountFaults.f k x408000 x408001 x408002 x408003).bind fun t436 => (some (bt422.2.2.2.2.2.2 == (decide (t436 ≤ 1))))) else (some (bt422.2.2.2.2.2.2 == false)))) else (none)) else (if x407000 = 0 then (some (bt422.2.2.2.2.2.2 == false)) else (if x407001 = 0 then ((impl_CountFaults.f k x408000 x408001 x408002 x408003).bind fun t437 => (some (bt422.2.2.2.2.2.2 == (decide (t437 ≤ 1))))) else (some (bt422.2.2.2.2.2.2 == false))))))) else (none)) else (if x408001 = 1 then (if x414001 = true then (none) else (if x408002 = 2 then (if x414002 = true then (if x408003 = 0 then (if (x414003 == x407004) = true then (if x407000 = 0 then (some (bt422.2.2.2.2.2.2 == false)) else (if x407001 = 0 then ((impl_CountFaults.f k x408000 x408001 x408002 x408003).bind fun t438 => (some (bt422.2.2.2.2.2.2 == (decide (t438 ≤ 1))))) else (some (bt422.2.2.2.2.2.2 == false)))) else (none)) else (if x407000 = 0 then (some (bt422.2.2.2.2.2.2 == false)) else (if x407001 = 0 then ((impl_CountFaults.f k x408000 x408001 x408002 x408003).bind fun t439 => (some (bt422.2.2.2.2.2.2 == (decide (t439 ≤ 1))))) else (some (bt422.2.2.2.2.2.2 == false))))) else (none)) else (if x408003 = 0 then (if (x414003 == x407004) = true then (if x407000 = 0 then (some (bt422.2.2.2.2.2.2 == false)) else (if x407001 = 0 then ((impl_CountFaults.f k x408000 x408001 x408002 x408003).bind fun t440 => (some (bt422.2.2.2.2.2.2 == (decide (t440 ≤ 1))))) else (some (bt422.2.2.2.2.2.2 == false)))) else (none)) else (if x407000 = 0 then (some (bt422.2.2.2.2.2.2 == false)) else (if x407001 = 0 then ((impl_CountFaults.f k x408000 x408001 x408002 x408003).bind fun t441 => (some (bt422.2.2.2.2.2.2 == (decide (t441 ≤ 1))))) else (some (bt422.2.2.2.2.2.2 == false))))))) else (if x408002 = 2 then (if x414002 = true then (if x408003 = 0 then (if (x414003 == x407004) = true then (if x407000 = 0 then (some (bt422.2.2.2.2.2.2 == false)) else (if x407001 = 0 then ((impl_CountFaults.f k x408000 x408001 x408002 x408003).bind fun t442 => (some (bt422.2.2.2.2.2.2 == (decide (t442 ≤ 1))))) else (some (bt422.2.2.2.2.2.2 == false)))) else (none)) else (if x407000 = 0 then (some (bt422.2.2.2.2.2.2 == false)) else (if x407001 = 0 then ((impl_CountFaults.f k x408000 x408001 x408002 x408003).bind fun t443 => (some (bt422.2.2.2.2.2.2 == (decide (t443 ≤ 1))))) else (some (bt422.2.2.2.2.2.2 == false))))) else (none)) else (if x408003 = 0 then (if (x414003 == x407004) = true then (if x407000 = 0 then (some (bt422.2.2.2.2.2.2 == false)) else (if x407001 = 0 then ((impl_CountFaults.f k x408000 x408001 x408002 x408003).bind fun t444 => (some (bt422.2.2.2.2.2.2 == (decide (t444 ≤ 1))))) else (some (bt422.2.2.2.2.2.2 == false)))) else (none)) else (if x407000 = 0 then (some (bt422.2.2.2.2.2.2 == false)) else (if x407001 = 0 then ((impl_CountFaults.f k x408000 x408001 x408002 x408003).bind fun t445 => (some (bt422.2.2.2.2.2.2 == (decide (t445 ≤ 1))))) else (some (bt422.2.2.2.2.2.2 == false)))))))) else (some (!bt422.2.2.2.2.2.2))))
def laws_FnSigns.f (k : Nat) (l0 : List Int) : Option (Bool) := (laws_big.f l0).bind fun t396 => (if t396 = true then (some true) else ((spec_DrawSignsOf.f k l0).bind fun bt397 => ((impl_SignsOf.f k bt397.1 bt397.2.1 bt397.2.2.1 bt397.2.2.2.1 bt397.2.2.2.2.1 bt397.2.2.2.2.2.1 bt397.2.2.2.2.2.2.1 bt397.2.2.2.2.2.2.2.1 bt397.2.2.2.2.2.2.2.2).bind fun bt408 => ((spec_SignsOf.f k bt397.1 bt397.2.1 bt397.2.2.1 bt397.2.2.2.1 bt397.2.2.2.2.1 bt397.2.2.2.2.2.1 bt397.2.2.2.2.2.2.1 bt397.2.2.2.2.2.2.2.1 bt397.2.2.2.2.2.2.2.2).bind fun bt414 => (if (bt408.2.2.2.2 != bt414.2.2.2.2) = true then (laws_FnSigns.j0 k bt408.2.2.2.2 true bt397.1 bt397.2.1 bt397.2.2.1 bt397.2.2.2.1 bt397.2.2.2.2.1 bt397.2.2.2.2.2.1 bt397.2.2.2.2.2.2.1 bt397.2.2.2.2.2.2.2.1 bt397.2.2.2.2.2.2.2.2 bt408.1 bt408.2.1 bt408.2.2.1 bt408.2.2.2.1) else (if (!(bt408.1 == bt414.1) || (!(bt408.2.1 == bt414.2.1) || (!(bt408.2.2.1 == bt414.2.2.1) || (!(bt408.2.2.2.1 == bt414.2.2.2.1))))) = true then (laws_FnSigns.j0 k bt408.2.2.2.2 true bt397.1 bt397.2.1 bt397.2.2.1 bt397.2.2.2.1 bt397.2.2.2.2.1 bt397.2.2.2.2.2.1 bt397.2.2.2.2.2.2.1 bt397.2.2.2.2.2.2.2.1 bt397.2.2.2.2.2.2.2.2 bt408.1 bt408.2.1 bt408.2.2.1 bt408.2.2.2.1) else ((impl_FaultsOk.f bt397.2.2.2.2.2.1 bt397.2.2.2.2.2.2.1 bt397.2.2.2.2.2.2.2.1 bt397.2.2.2.2.2.2.2.2).bind fun t420 => ((spec_FaultsOk.f bt397.2.2.2.2.2.1 bt397.2.2.2.2.2.2.1 bt397.2.2.2.2.2.2.2.1 bt397.2.2.2.2.2.2.2.2).bind fun t421 => (laws_FnSigns.j0 k bt408.2.2.2.2 (t420 != t421) bt397.1 bt397.2.1 bt397.2.2.1 bt397.2.2.2.1 bt397.2.2.2.2.1 bt397.2.2.2.2.2.1 bt397.2.2.2.2.2.2.1 bt397.2.2.2.2.2.2.2.1 bt397.2.2.2.2.2.2.2.2 bt408.1 bt408.2.1 bt408.2.2.1 bt408.2.2.2.1)))))))))
theorem laws_FnSigns.mono_l : ∀ k, (∀ y0 y1 y2 y3 y4 y5 y6 y7 y8 y9 y10 y11 y12 y13 y14, LeO (laws_FnSigns.j0 k y0 y1 y2 y3 y4 y5 y6 y7 y8 y9 y10 y11 y12 y13 y14) (laws_FnSigns.j0 (k + 1) y0 y1 y2 y3 y4 y5 y6 y7 y8 y9 y10 y11 y12 y13 y14))
 | 0 => fun _ _ _ _ _ _ _ _ _ _ _ _ _ _ _ r h => by simp [laws_FnSigns.j0] at h
 | k + 1 => by
  have ih0 := laws_FnSigns.mono_l k
  ·intro y0 y1 y2 y3 y4 y5 y6 y7 y8 y9 y10 y11 y12 y13 y14
   unfold laws_FnSigns.j0
   repeat' first
   | (with_reducible exact ih0 _ _ _ _ _ _ _ _ _ _ _ _ _ _ _)
   | (with_reducible exact impl_CountFaults.mono _ _ _ _ _)
   | (with_reducible exact impl_Recover.mono _ _ _ _ _ _ _ _ _ _)
   | (with_reducible exact impl_SignsOf.mono _ _ _ _ _ _ _ _ _ _)
   | (with_reducible exact spec_DrawSignsOf.mono _ _)
   | (with_reducible exact spec_SignsOf.mono _ _ _ _ _ _ _ _ _ _)
   | (with_reducible exact LeO.refl _)
   | (with_reducible exact LeO.none _)
   | (with_reducible refine LeO.ite ?_ ?_)
   | (with_reducible refine LeO.bind ?_ (fun _ => ?_))
   | exact ih0 _ _ _ _ _ _ _ _ _ _ _ _ _ _ _
   | exact impl_CountFaults.mono _ _ _ _ _
   | exact impl_Recover.mono _ _ _ _ _ _ _ _ _ _
   | exact impl_SignsOf.mono _ _ _ _ _ _ _ _ _ _
   | exact spec_DrawSignsOf.mono _ _
   | exact spec_SignsOf.mono _ _ _ _ _ _ _ _ _ _
   | exact LeO.none _
   | refine LeO.ite ?_ ?_
   | refine LeO.bind ?_ (fun _ => ?_)
theorem laws_FnSigns.mono : ∀ a0 k, LeO (laws_FnSigns.f k a0) (laws_FnSigns.f (k + 1) a0) := by
 intro a0 k
 have ih0 := laws_FnSigns.mono_l k
 unfold laws_FnSigns.f
 repeat' first
   | (with_reducible exact ih0 _ _ _ _ _ _ _ _ _ _ _ _ _ _ _)
   | (with_reducible exact impl_CountFaults.mono _ _ _ _ _)
   | (with_reducible exact impl_Recover.mono _ _ _ _ _ _ _ _ _ _)
   | (with_reducible exact impl_SignsOf.mono _ _ _ _ _ _ _ _ _ _)
   | (with_reducible exact spec_DrawSignsOf.mono _ _)
   | (with_reducible exact spec_SignsOf.mono _ _ _ _ _ _ _ _ _ _)
   | (with_reducible exact LeO.refl _)
   | (with_reducible exact LeO.none _)
   | (with_reducible refine LeO.ite ?_ ?_)
   | (with_reducible refine LeO.bind ?_ (fun _ => ?_))
   | exact ih0 _ _ _ _ _ _ _ _ _ _ _ _ _ _ _
   | exact impl_CountFaults.mono _ _ _ _ _
   | exact impl_Recover.mono _ _ _ _ _ _ _ _ _ _
   | exact impl_SignsOf.mono _ _ _ _ _ _ _ _ _ _
   | exact spec_DrawSignsOf.mono _ _
   | exact spec_SignsOf.mono _ _ _ _ _ _ _ _ _ _
   | exact LeO.none _
   | refine LeO.ite ?_ ?_
   | refine LeO.bind ?_ (fun _ => ?_)
def laws_FnSigns.T6 : Bool × List (List Nat × List Nat) := (true, [([], []), ([], []), ([0, 1], [0, 1]), ([2], [2]), ([3], [3]), ([3], [3]), ([4, 5, 3], [3, 4, 5]), ([3, 6], [3, 6]), ([7, 3], [7]), ([8], [8]), ([9, 8, 8], [8, 9]), ([8], [8]), ([11, 10, 8], [8, 11]), ([10, 12, 8], [8, 10, 12]), ([8, 13], [8, 13])])
def laws_FnSigns.B6 : List Nat := [0, 0, 3, 7, 15, 15, 63, 127, 255, 511, 1023, 511, 4095, 8191, 16383]
theorem laws_FnSigns.tab6 : rtab .any (opsOf Try.f10 6) = laws_FnSigns.T6 := by kernel_rfl
theorem laws_FnSigns.bits6 : waitsOk laws_FnSigns.T6.2 laws_FnSigns.B6 = true := by kernel_rfl
end Go.Proofs.Ytglpkjcblpjnoab.QFnSigns
