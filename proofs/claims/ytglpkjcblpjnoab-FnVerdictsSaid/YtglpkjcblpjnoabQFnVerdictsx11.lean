-- Printed functions and their walks: by print.py, turned by wip/tools/myprint.py.
import Derived.Test.YtglpkjcblpjnoabQFnVerdictsx0
import Derived.Test.YtglpkjcblpjnoabQFnVerdictsx1
import Derived.Test.YtglpkjcblpjnoabQFnVerdictsx2
import Derived.Test.YtglpkjcblpjnoabQFnVerdictsx3
import Derived.Test.YtglpkjcblpjnoabQFnVerdictsx4
import Derived.Test.YtglpkjcblpjnoabQFnVerdictsx10
namespace Go.Proofs.Ytglpkjcblpjnoab.QFnVerdicts
open Go.RowKit Go.Proofs.YtglpkjcblpjnoabW.PrintWords Go.Proofs.YtglpkjcblpjnoabW.PrintLast Go.Proofs.YtglpkjcblpjnoabW.PrintMore
attribute [local go_sem] max2_int min2_int max_two min_two max_three min_three max_four min_four   -- for this text's walks alone
set_option linter.unusedVariables false
set_option linter.unusedSimpArgs false

attribute [local go_sem high] eqA24
/-! ### laws_FnVerdicts: function 9 -/
mutual
def laws_FnVerdicts.j0 : Nat → Int → Bool → Int → Bool → Int → Int → Bool → Bool → Bool → Int → Int → Bool → Bool → Bool → Option (Bool)
 | 0, _, _, _, _, _, _, _, _, _, _, _, _, _, _ => none
 | k + 1, x5, x6, x7, x42, x360000, x360001, x360002, x360003, x360004, x368000, x368001, x368002, x368003, x368004 => if x42 = true then (none) else (if x6 = true then (if x5 = x7 then ((impl_VerdictName.f x5).bind fun t370 => (laws_FnVerdicts.j1 k x7 (t370.toList == ([] : List UInt8)) x360000 x360001 x360002 x360003 x360004)) else (laws_FnVerdicts.j1 k x7 true x360000 x360001 x360002 x360003 x360004)) else (if (x368000 == x360000 && (x368001 == x360001 && (x368002 == x360002 && (x368003 == x360003 && (x368004 == x360004))))) = true then (if x5 = 0 then (some (x7 == 0)) else (none)) else (none)))
def laws_FnVerdicts.j1 : Nat → Int → Bool → Int → Int → Bool → Bool → Bool → Option (Bool)
 | 0, _, _, _, _, _, _, _ => none
 | k + 1, x7, x63, x360000, x360001, x360002, x360003, x360004 => if x63 = true then (none) else (laws_FnVerdicts.l0 k x7 0 x360000 x360001 x360002 x360003 x360004)
def laws_FnVerdicts.l0 : Nat → Int → Int → Int → Int → Bool → Bool → Bool → Option (Bool)
 | 0, _, _, _, _, _, _, _ => none
 | k + 1, x7, x8, x360000, x360001, x360002, x360003, x360004 => if x8 < 8 then (if (wrap64 (Int.tdiv x8 2)) = 0 then (laws_FnVerdicts.j3 k x7 x8 x360000 x360001 x360002 x360003 x360004 (wrap64 (1 + (Int.tmod x8 2))) 0 0 0) else (if (wrap64 (Int.tdiv x8 2)) = 1 then (laws_FnVerdicts.j3 k x7 x8 x360000 x360001 x360002 x360003 x360004 0 (wrap64 (1 + (Int.tmod x8 2))) 0 0) else (if (wrap64 (Int.tdiv x8 2)) = 2 then (laws_FnVerdicts.j3 k x7 x8 x360000 x360001 x360002 x360003 x360004 0 0 (wrap64 (1 + (Int.tmod x8 2))) 0) else (laws_FnVerdicts.j3 k x7 x8 x360000 x360001 x360002 x360003 x360004 0 0 0 (wrap64 (1 + (Int.tmod x8 2))))))) else ((impl_Inspect.f k x360000 x360001 x360002 x360003 x360004).bind fun bt371 => (if bt371.2.2.2.2.2.2 = true then (if (bt371.1 == 0 && (bt371.2.1 == 0 && (!bt371.2.2.1 && (!bt371.2.2.2.1 && (bt371.2.2.2.2.1 == x360004))))) = true then (some ((bt371.2.2.2.2.2.1 == 3) == (x360004 == (x360000 == 1)))) else (none)) else (none)))
def laws_FnVerdicts.j3 : Nat → Int → Int → Int → Int → Bool → Bool → Bool → Int → Int → Int → Int → Option (Bool)
 | 0, _, _, _, _, _, _, _, _, _, _, _ => none
 | k + 1, x7, x8, x360000, x360001, x360002, x360003, x360004, x380000, x380001, x380002, x380003 => (impl_SignsOf.f k x360000 x360001 x360002 x360003 x360004 x380000 x380001 x380002 x380003).bind fun bt380 => ((impl_Recover.f k x360000 x360001 x360002 x360003 x360004 x380000 x380001 x380002 x380003).bind fun bt386 => (if bt380.2.2.2.2 = true then (if bt386.2.2.2.2.2.2 = true then ((impl_Verdict.f k x360000 bt380.1 bt380.2.1 bt380.2.2.1 bt380.2.2.2.1).bind fun t394 => (if bt386.2.2.2.2.2.1 = t394 then (if bt386.2.2.2.2.2.1 = x7 then ((impl_CountFaults.f k x380000 x380001 x380002 x380003).bind fun t395 => (if t395 = 1 then ((impl_DoorOk.f k bt386.1 bt386.2.1 bt386.2.2.1 bt386.2.2.2.1 bt386.2.2.2.2.1).bind fun t396 => (if t396 = true then (laws_FnVerdicts.j4 k x7 x8 bt386.2.2.2.2.2.1 (bt386.2.2.2.2.1 != x360004) x360000 x360001 x360002 x360003 x360004 bt386.1 bt386.2.1 bt386.2.2.1 bt386.2.2.2.1 bt386.2.2.2.2.1) else (laws_FnVerdicts.j4 k x7 x8 bt386.2.2.2.2.2.1 true x360000 x360001 x360002 x360003 x360004 bt386.1 bt386.2.1 bt386.2.2.1 bt386.2.2.2.1 bt386.2.2.2.2.1))) else (laws_FnVerdicts.j4 k x7 x8 bt386.2.2.2.2.2.1 true x360000 x360001 x360002 x360003 x360004 bt386.1 bt386.2.1 bt386.2.2.1 bt386.2.2.2.1 bt386.2.2.2.2.1))) else (if bt386.2.2.2.2.2.1 = 1 then ((impl_CountFaults.f k x380000 x380001 x380002 x380003).bind fun t397 => (if t397 = 1 then ((impl_DoorOk.f k bt386.1 bt386.2.1 bt386.2.2.1 bt386.2.2.2.1 bt386.2.2.2.2.1).bind fun t398 => (if t398 = true then (laws_FnVerdicts.j4 k x7 x8 bt386.2.2.2.2.2.1 (bt386.2.2.2.2.1 != x360004) x360000 x360001 x360002 x360003 x360004 bt386.1 bt386.2.1 bt386.2.2.1 bt386.2.2.2.1 bt386.2.2.2.2.1) else (laws_FnVerdicts.j4 k x7 x8 bt386.2.2.2.2.2.1 true x360000 x360001 x360002 x360003 x360004 bt386.1 bt386.2.1 bt386.2.2.1 bt386.2.2.2.1 bt386.2.2.2.2.1))) else (laws_FnVerdicts.j4 k x7 x8 bt386.2.2.2.2.2.1 true x360000 x360001 x360002 x360003 x360004 bt386.1 bt386.2.1 bt386.2.2.1 bt386.2.2.2.1 bt386.2.2.2.2.1))) else (laws_FnVerdicts.j4 k x7 x8 bt386.2.2.2.2.2.1 true x360000 x360001 x360002 x360003 x360004 bt386.1 bt386.2.1 bt386.2.2.1 bt386.2.2.2.1 bt386.2.2.2.2.1))) else (laws_FnVerdicts.j4 k x7 x8 bt386.2.2.2.2.2.1 true x360000 x360001 x360002 x360003 x360004 bt386.1 bt386.2.1 bt386.2.2.1 bt386.2.2.2.1 bt386.2.2.2.2.1))) else (laws_FnVerdicts.j4 k x7 x8 bt386.2.2.2.2.2.1 true x360000 x360001 x360002 x360003 x360004 bt386.1 bt386.2.1 bt386.2.2.1 bt386.2.2.2.1 bt386.2.2.2.2.1)) else (laws_FnVerdicts.j4 k x7 x8 bt386.2.2.2.2.2.1 true x360000 x360001 x360002 x360003 x360004 bt386.1 bt386.2.1 bt386.2.2.1 bt386.2.2.2.1 bt386.2.2.2.2.1)))
def laws_FnVerdicts.j4 : Nat → Int → Int → Int → Bool → Int → Int → Bool → Bool → Bool → Int → Int → Bool → Bool → Bool → Option (Bool)
 | 0, _, _, _, _, _, _, _, _, _, _, _, _, _, _ => none
 | k + 1, x7, x8, x13, x145, x360000, x360001, x360002, x360003, x360004, x394000, x394001, x394002, x394003, x394004 => if x145 = true then (none) else (if x13 = 3 then (if (true != (x394000 == 0)) = true then (laws_FnVerdicts.j5 k x7 x8 true x360000 x360001 x360002 x360003 x360004) else (if x394000 = 0 then (if x394003 = true then (laws_FnVerdicts.j5 k x7 x8 true x360000 x360001 x360002 x360003 x360004) else (laws_FnVerdicts.j5 k x7 x8 x394002 x360000 x360001 x360002 x360003 x360004)) else (laws_FnVerdicts.j5 k x7 x8 false x360000 x360001 x360002 x360003 x360004))) else (if ((x13 == 4) != (x394000 == 0)) = true then (laws_FnVerdicts.j5 k x7 x8 true x360000 x360001 x360002 x360003 x360004) else (if x394000 = 0 then (if x394003 = true then (laws_FnVerdicts.j5 k x7 x8 true x360000 x360001 x360002 x360003 x360004) else (laws_FnVerdicts.j5 k x7 x8 x394002 x360000 x360001 x360002 x360003 x360004)) else (laws_FnVerdicts.j5 k x7 x8 false x360000 x360001 x360002 x360003 x360004))))
def laws_FnVerdicts.j5 : Nat → Int → Int → Bool → Int → Int → Bool → Bool → Bool → Option (Bool)
 | 0, _, _, _, _, _, _, _, _ => none
 | k + 1, x7, x8, x168, x360000, x360001, x360002, x360003, x360004 => if x168 = true then (none) else (laws_FnVerdicts.l0 k x7 (wrap64 (x8 + 1)) x360000 x360001 x360002 x360003 x360004)
end
def laws_FnVerdicts.f (k : Nat) (l0 : List Int) : Option (Bool) := (laws_big.f l0).bind fun t348 => (if t348 = true then (some true) else ((spec_DrawDoor.f k l0).bind fun bt349 => ((spec_CutPower.f k bt349.1 bt349.2.1 bt349.2.2.1 bt349.2.2.2.1 bt349.2.2.2.2).bind fun bt354 => ((impl_Recover.f k bt354.1 bt354.2.1 bt354.2.2.1 bt354.2.2.2.1 bt354.2.2.2.2 0 0 0 0).bind fun bt360 => ((impl_TruthOf.f k bt354.1 bt354.2.1 bt354.2.2.1 bt354.2.2.2.1 bt354.2.2.2.2).bind fun t368 => ((spec_TruthOf.f k bt354.1 bt354.2.1 bt354.2.2.1 bt354.2.2.2.1 bt354.2.2.2.2).bind fun t369 => (if t368 = t369 then (laws_FnVerdicts.j0 k bt360.2.2.2.2.2.1 bt360.2.2.2.2.2.2 t368 (bt360.2.2.2.2.2.2 != (bt354.1 != 0)) bt354.1 bt354.2.1 bt354.2.2.1 bt354.2.2.2.1 bt354.2.2.2.2 bt360.1 bt360.2.1 bt360.2.2.1 bt360.2.2.2.1 bt360.2.2.2.2.1) else (laws_FnVerdicts.j0 k bt360.2.2.2.2.2.1 bt360.2.2.2.2.2.2 t368 true bt354.1 bt354.2.1 bt354.2.2.1 bt354.2.2.2.1 bt354.2.2.2.2 bt360.1 bt360.2.1 bt360.2.2.1 bt360.2.2.2.1 bt360.2.2.2.2.1))))))))
theorem laws_FnVerdicts.mono_l : ∀ k, (∀ y0 y1 y2 y3 y4 y5 y6 y7 y8 y9 y10 y11 y12 y13, LeO (laws_FnVerdicts.j0 k y0 y1 y2 y3 y4 y5 y6 y7 y8 y9 y10 y11 y12 y13) (laws_FnVerdicts.j0 (k + 1) y0 y1 y2 y3 y4 y5 y6 y7 y8 y9 y10 y11 y12 y13)) ∧ (∀ y0 y1 y2 y3 y4 y5 y6, LeO (laws_FnVerdicts.j1 k y0 y1 y2 y3 y4 y5 y6) (laws_FnVerdicts.j1 (k + 1) y0 y1 y2 y3 y4 y5 y6)) ∧ (∀ y0 y1 y2 y3 y4 y5 y6, LeO (laws_FnVerdicts.l0 k y0 y1 y2 y3 y4 y5 y6) (laws_FnVerdicts.l0 (k + 1) y0 y1 y2 y3 y4 y5 y6)) ∧ (∀ y0 y1 y2 y3 y4 y5 y6 y7 y8 y9 y10, LeO (laws_FnVerdicts.j3 k y0 y1 y2 y3 y4 y5 y6 y7 y8 y9 y10) (laws_FnVerdicts.j3 (k + 1) y0 y1 y2 y3 y4 y5 y6 y7 y8 y9 y10)) ∧ (∀ y0 y1 y2 y3 y4 y5 y6 y7 y8 y9 y10 y11 y12 y13, LeO (laws_FnVerdicts.j4 k y0 y1 y2 y3 y4 y5 y6 y7 y8 y9 y10 y11 y12 y13) (laws_FnVerdicts.j4 (k + 1) y0 y1 y2 y3 y4 y5 y6 y7 y8 y9 y10 y11 y12 y13)) ∧ (∀ y0 y1 y2 y3 y4 y5 y6 y7, LeO (laws_FnVerdicts.j5 k y0 y1 y2 y3 y4 y5 y6 y7) (laws_FnVerdicts.j5 (k + 1) y0 y1 y2 y3 y4 y5 y6 y7))
 | 0 => ⟨fun _ _ _ _ _ _ _ _ _ _ _ _ _ _ r h => by simp [laws_FnVerdicts.j0] at h, fun _ _ _ _ _ _ _ r h => by simp [laws_FnVerdicts.j1] at h, fun _ _ _ _ _ _ _ r h => by simp [laws_FnVerdicts.l0] at h, fun _ _ _ _ _ _ _ _ _ _ _ r h => by simp [laws_FnVerdicts.j3] at h, fun _ _ _ _ _ _ _ _ _ _ _ _ _ _ r h => by simp [laws_FnVerdicts.j4] at h, fun _ _ _ _ _ _ _ _ r h => by simp [laws_FnVerdicts.j5] at h⟩
 | k + 1 => by
  obtain ⟨ih0, ih1, ih2, ih3, ih4, ih5⟩ := laws_FnVerdicts.mono_l k
  refine ⟨?_, ?_, ?_, ?_, ?_, ?_⟩
  ·intro y0 y1 y2 y3 y4 y5 y6 y7 y8 y9 y10 y11 y12 y13
   unfold laws_FnVerdicts.j0
   repeat' first
   | (with_reducible exact ih0 _ _ _ _ _ _ _ _ _ _ _ _ _ _)
   | (with_reducible exact ih1 _ _ _ _ _ _ _)
   | (with_reducible exact ih2 _ _ _ _ _ _ _)
   | (with_reducible exact ih3 _ _ _ _ _ _ _ _ _ _ _)
   | (with_reducible exact ih4 _ _ _ _ _ _ _ _ _ _ _ _ _ _)
   | (with_reducible exact ih5 _ _ _ _ _ _ _ _)
   | (with_reducible exact impl_CountFaults.mono _ _ _ _ _)
   | (with_reducible exact impl_DoorOk.mono _ _ _ _ _ _)
   | (with_reducible exact impl_Inspect.mono _ _ _ _ _ _)
   | (with_reducible exact impl_Recover.mono _ _ _ _ _ _ _ _ _ _)
   | (with_reducible exact impl_SignsOf.mono _ _ _ _ _ _ _ _ _ _)
   | (with_reducible exact impl_TruthOf.mono _ _ _ _ _ _)
   | (with_reducible exact impl_Verdict.mono _ _ _ _ _ _)
   | (with_reducible exact spec_CutPower.mono _ _ _ _ _ _)
   | (with_reducible exact spec_DrawDoor.mono _ _)
   | (with_reducible exact spec_TruthOf.mono _ _ _ _ _ _)
   | (with_reducible exact LeO.refl _)
   | (with_reducible exact LeO.none _)
   | (with_reducible refine LeO.ite ?_ ?_)
   | (with_reducible refine LeO.bind ?_ (fun _ => ?_))
   | exact ih0 _ _ _ _ _ _ _ _ _ _ _ _ _ _
   | exact ih1 _ _ _ _ _ _ _
   | exact ih2 _ _ _ _ _ _ _
   | exact ih3 _ _ _ _ _ _ _ _ _ _ _
   | exact ih4 _ _ _ _ _ _ _ _ _ _ _ _ _ _
   | exact ih5 _ _ _ _ _ _ _ _
   | exact impl_CountFaults.mono _ _ _ _ _
   | exact impl_DoorOk.mono _ _ _ _ _ _
   | exact impl_Inspect.mono _ _ _ _ _ _
   | exact impl_Recover.mono _ _ _ _ _ _ _ _ _ _
   | exact impl_SignsOf.mono _ _ _ _ _ _ _ _ _ _
   | exact impl_TruthOf.mono _ _ _ _ _ _
   | exact impl_Verdict.mono _ _ _ _ _ _
   | exact spec_CutPower.mono _ _ _ _ _ _
   | exact spec_DrawDoor.mono _ _
   | exact spec_TruthOf.mono _ _ _ _ _ _
   | exact LeO.none _
   | refine LeO.ite ?_ ?_
   | refine LeO.bind ?_ (fun _ => ?_)
  ·intro y0 y1 y2 y3 y4 y5 y6
   unfold laws_FnVerdicts.j1
   repeat' first
   | (with_reducible exact ih0 _ _ _ _ _ _ _ _ _ _ _ _ _ _)
   | (with_reducible exact ih1 _ _ _ _ _ _ _)
   | (with_reducible exact ih2 _ _ _ _ _ _ _)
   | (with_reducible exact ih3 _ _ _ _ _ _ _ _ _ _ _)
   | (with_reducible exact ih4 _ _ _ _ _ _ _ _ _ _ _ _ _ _)
   | (with_reducible exact ih5 _ _ _ _ _ _ _ _)
   | (with_reducible exact impl_CountFaults.mono _ _ _ _ _)
   | (with_reducible exact impl_DoorOk.mono _ _ _ _ _ _)
   | (with_reducible exact impl_Inspect.mono _ _ _ _ _ _)
   | (with_reducible exact impl_Recover.mono _ _ _ _ _ _ _ _ _ _)
   | (with_reducible exact impl_SignsOf.mono _ _ _ _ _ _ _ _ _ _)
   | (with_reducible exact impl_TruthOf.mono _ _ _ _ _ _)
   | (with_reducible exact impl_Verdict.mono _ _ _ _ _ _)
   | (with_reducible exact spec_CutPower.mono _ _ _ _ _ _)
   | (with_reducible exact spec_DrawDoor.mono _ _)
   | (with_reducible exact spec_TruthOf.mono _ _ _ _ _ _)
   | (with_reducible exact LeO.refl _)
   | (with_reducible exact LeO.none _)
   | (with_reducible refine LeO.ite ?_ ?_)
   | (with_reducible refine LeO.bind ?_ (fun _ => ?_))
   | exact ih0 _ _ _ _ _ _ _ _ _ _ _ _ _ _
   | exact ih1 _ _ _ _ _ _ _
   | exact ih2 _ _ _ _ _ _ _
   | exact ih3 _ _ _ _ _ _ _ _ _ _ _
   | exact ih4 _ _ _ _ _ _ _ _ _ _ _ _ _ _
   | exact ih5 _ _ _ _ _ _ _ _
   | exact impl_CountFaults.mono _ _ _ _ _
   | exact impl_DoorOk.mono _ _ _ _ _ _
   | exact impl_Inspect.mono _ _ _ _ _ _
   | exact impl_Recover.mono _ _ _ _ _ _ _ _ _ _
   | exact impl_SignsOf.mono _ _ _ _ _ _ _ _ _ _
   | exact impl_TruthOf.mono _ _ _ _ _ _
   | exact impl_Verdict.mono _ _ _ _ _ _
   | exact spec_CutPower.mono _ _ _ _ _ _
   | exact spec_DrawDoor.mono _ _
   | exact spec_TruthOf.mono _ _ _ _ _ _
   | exact LeO.none _
   | refine LeO.ite ?_ ?_
   | refine LeO.bind ?_ (fun _ => ?_)
  ·intro y0 y1 y2 y3 y4 y5 y6
   unfold laws_FnVerdicts.l0
   repeat' first
   | (with_reducible exact ih0 _ _ _ _ _ _ _ _ _ _ _ _ _ _)
   | (with_reducible exact ih1 _ _ _ _ _ _ _)
   | (with_reducible exact ih2 _ _ _ _ _ _ _)
   | (with_reducible exact ih3 _ _ _ _ _ _ _ _ _ _ _)
   | (with_reducible exact ih4 _ _ _ _ _ _ _ _ _ _ _ _ _ _)
   | (with_reducible exact ih5 _ _ _ _ _ _ _ _)
   | (with_reducible exact impl_CountFaults.mono _ _ _ _ _)
   | (with_reducible exact impl_DoorOk.mono _ _ _ _ _ _)
   | (with_reducible exact impl_Inspect.mono _ _ _ _ _ _)
   | (with_reducible exact impl_Recover.mono _ _ _ _ _ _ _ _ _ _)
   | (with_reducible exact impl_SignsOf.mono _ _ _ _ _ _ _ _ _ _)
   | (with_reducible exact impl_TruthOf.mono _ _ _ _ _ _)
   | (with_reducible exact impl_Verdict.mono _ _ _ _ _ _)
   | (with_reducible exact spec_CutPower.mono _ _ _ _ _ _)
   | (with_reducible exact spec_DrawDoor.mono _ _)
   | (with_reducible exact spec_TruthOf.mono _ _ _ _ _ _)
   | (with_reducible exact LeO.refl _)
   | (with_reducible exact LeO.none _)
   | (with_reducible refine LeO.ite ?_ ?_)
   | (with_reducible refine LeO.bind ?_ (fun _ => ?_))
   | exact ih0 _ _ _ _ _ _ _ _ _ _ _ _ _ _
   | exact ih1 _ _ _ _ _ _ _
   | exact ih2 _ _ _ _ _ _ _
   | exact ih3 _ _ _ _ _ _ _ _ _ _ _
   | exact ih4 _ _ _ _ _ _ _ _ _ _ _ _ _ _
   | exact ih5 _ _ _ _ _ _ _ _
   | exact impl_CountFaults.mono _ _ _ _ _
   | exact impl_DoorOk.mono _ _ _ _ _ _
   | exact impl_Inspect.mono _ _ _ _ _ _
   | exact impl_Recover.mono _ _ _ _ _ _ _ _ _ _
   | exact impl_SignsOf.mono _ _ _ _ _ _ _ _ _ _
   | exact impl_TruthOf.mono _ _ _ _ _ _
   | exact impl_Verdict.mono _ _ _ _ _ _
   | exact spec_CutPower.mono _ _ _ _ _ _
   | exact spec_DrawDoor.mono _ _
   | exact spec_TruthOf.mono _ _ _ _ _ _
   | exact LeO.none _
   | refine LeO.ite ?_ ?_
   | refine LeO.bind ?_ (fun _ => ?_)
  ·intro y0 y1 y2 y3 y4 y5 y6 y7 y8 y9 y10
   unfold laws_FnVerdicts.j3
   repeat' first
   | (with_reducible exact ih0 _ _ _ _ _ _ _ _ _ _ _ _ _ _)
   | (with_reducible exact ih1 _ _ _ _ _ _ _)
   | (with_reducible exact ih2 _ _ _ _ _ _ _)
   | (with_reducible exact ih3 _ _ _ _ _ _ _ _ _ _ _)
   | (with_reducible exact ih4 _ _ _ _ _ _ _ _ _ _ _ _ _ _)
   | (with_reducible exact ih5 _ _ _ _ _ _ _ _)
   | (with_reducible exact impl_CountFaults.mono _ _ _ _ _)
   | (with_reducible exact impl_DoorOk.mono _ _ _ _ _ _)
   | (with_reducible exact impl_Inspect.mono _ _ _ _ _ _)
   | (with_reducible exact impl_Recover.mono _ _ _ _ _ _ _ _ _ _)
   | (with_reducible exact impl_SignsOf.mono _ _ _ _ _ _ _ _ _ _)
   | (with_reducible exact impl_TruthOf.mono _ _ _ _ _ _)
   | (with_reducible exact impl_Verdict.mono _ _ _ _ _ _)
   | (with_reducible exact spec_CutPower.mono _ _ _ _ _ _)
   | (with_reducible exact spec_DrawDoor.mono _ _)
   | (with_reducible exact spec_TruthOf.mono _ _ _ _ _ _)
   | (with_reducible exact LeO.refl _)
   | (with_reducible exact LeO.none _)
   | (with_reducible refine LeO.ite ?_ ?_)
   | (with_reducible refine LeO.bind ?_ (fun _ => ?_))
   | exact ih0 _ _ _ _ _ _ _ _ _ _ _ _ _ _
   | exact ih1 _ _ _ _ _ _ _
   | exact ih2 _ _ _ _ _ _ _
   | exact ih3 _ _ _ _ _ _ _ _ _ _ _
   | exact ih4 _ _ _ _ _ _ _ _ _ _ _ _ _ _
   | exact ih5 _ _ _ _ _ _ _ _
   | exact impl_CountFaults.mono _ _ _ _ _
   | exact impl_DoorOk.mono _ _ _ _ _ _
   | exact impl_Inspect.mono _ _ _ _ _ _
   | exact impl_Recover.mono _ _ _ _ _ _ _ _ _ _
   | exact impl_SignsOf.mono _ _ _ _ _ _ _ _ _ _
   | exact impl_TruthOf.mono _ _ _ _ _ _
   | exact impl_Verdict.mono _ _ _ _ _ _
   | exact spec_CutPower.mono _ _ _ _ _ _
   | exact spec_DrawDoor.mono _ _
   | exact spec_TruthOf.mono _ _ _ _ _ _
   | exact LeO.none _
   | refine LeO.ite ?_ ?_
   | refine LeO.bind ?_ (fun _ => ?_)
  ·intro y0 y1 y2 y3 y4 y5 y6 y7 y8 y9 y10 y11 y12 y13
   unfold laws_FnVerdicts.j4
   repeat' first
   | (with_reducible exact ih0 _ _ _ _ _ _ _ _ _ _ _ _ _ _)
   | (with_reducible exact ih1 _ _ _ _ _ _ _)
   | (with_reducible exact ih2 _ _ _ _ _ _ _)
   | (with_reducible exact ih3 _ _ _ _ _ _ _ _ _ _ _)
   | (with_reducible exact ih4 _ _ _ _ _ _ _ _ _ _ _ _ _ _)
   | (with_reducible exact ih5 _ _ _ _ _ _ _ _)
   | (with_reducible exact impl_CountFaults.mono _ _ _ _ _)
   | (with_reducible exact impl_DoorOk.mono _ _ _ _ _ _)
   | (with_reducible exact impl_Inspect.mono _ _ _ _ _ _)
   | (with_reducible exact impl_Recover.mono _ _ _ _ _ _ _ _ _ _)
   | (with_reducible exact impl_SignsOf.mono _ _ _ _ _ _ _ _ _ _)
   | (with_reducible exact impl_TruthOf.mono _ _ _ _ _ _)
   | (with_reducible exact impl_Verdict.mono _ _ _ _ _ _)
   | (with_reducible exact spec_CutPower.mono _ _ _ _ _ _)
   | (with_reducible exact spec_DrawDoor.mono _ _)
   | (with_reducible exact spec_TruthOf.mono _ _ _ _ _ _)
   | (with_reducible exact LeO.refl _)
   | (with_reducible exact LeO.none _)
   | (with_reducible refine LeO.ite ?_ ?_)
   | (with_reducible refine LeO.bind ?_ (fun _ => ?_))
   | exact ih0 _ _ _ _ _ _ _ _ _ _ _ _ _ _
   | exact ih1 _ _ _ _ _ _ _
   | exact ih2 _ _ _ _ _ _ _
   | exact ih3 _ _ _ _ _ _ _ _ _ _ _
   | exact ih4 _ _ _ _ _ _ _ _ _ _ _ _ _ _
   | exact ih5 _ _ _ _ _ _ _ _
   | exact impl_CountFaults.mono _ _ _ _ _
   | exact impl_DoorOk.mono _ _ _ _ _ _
   | exact impl_Inspect.mono _ _ _ _ _ _
   | exact impl_Recover.mono _ _ _ _ _ _ _ _ _ _
   | exact impl_SignsOf.mono _ _ _ _ _ _ _ _ _ _
   | exact impl_TruthOf.mono _ _ _ _ _ _
   | exact impl_Verdict.mono _ _ _ _ _ _
   | exact spec_CutPower.mono _ _ _ _ _ _
   | exact spec_DrawDoor.mono _ _
   | exact spec_TruthOf.mono _ _ _ _ _ _
   | exact LeO.none _
   | refine LeO.ite ?_ ?_
   | refine LeO.bind ?_ (fun _ => ?_)
  ·intro y0 y1 y2 y3 y4 y5 y6 y7
   unfold laws_FnVerdicts.j5
   repeat' first
   | (with_reducible exact ih0 _ _ _ _ _ _ _ _ _ _ _ _ _ _)
   | (with_reducible exact ih1 _ _ _ _ _ _ _)
   | (with_reducible exact ih2 _ _ _ _ _ _ _)
   | (with_reducible exact ih3 _ _ _ _ _ _ _ _ _ _ _)
   | (with_reducible exact ih4 _ _ _ _ _ _ _ _ _ _ _ _ _ _)
   | (with_reducible exact ih5 _ _ _ _ _ _ _ _)
   | (with_reducible exact impl_CountFaults.mono _ _ _ _ _)
   | (with_reducible exact impl_DoorOk.mono _ _ _ _ _ _)
   | (with_reducible exact impl_Inspect.mono _ _ _ _ _ _)
   | (with_reducible exact impl_Recover.mono _ _ _ _ _ _ _ _ _ _)
   | (with_reducible exact impl_SignsOf.mono _ _ _ _ _ _ _ _ _ _)
   | (with_reducible exact impl_TruthOf.mono _ _ _ _ _ _)
   | (with_reducible exact impl_Verdict.mono _ _ _ _ _ _)
   | (with_reducible exact spec_CutPower.mono _ _ _ _ _ _)
   | (with_reducible exact spec_DrawDoor.mono _ _)
   | (with_reducible exact spec_TruthOf.mono _ _ _ _ _ _)
   | (with_reducible exact LeO.refl _)
   | (with_reducible exact LeO.none _)
   | (with_reducible refine LeO.ite ?_ ?_)
   | (with_reducible refine LeO.bind ?_ (fun _ => ?_))
   | exact ih0 _ _ _ _ _ _ _ _ _ _ _ _ _ _
   | exact ih1 _ _ _ _ _ _ _
   | exact ih2 _ _ _ _ _ _ _
   | exact ih3 _ _ _ _ _ _ _ _ _ _ _
   | exact ih4 _ _ _ _ _ _ _ _ _ _ _ _ _ _
   | exact ih5 _ _ _ _ _ _ _ _
   | exact impl_CountFaults.mono _ _ _ _ _
   | exact impl_DoorOk.mono _ _ _ _ _ _
   | exact impl_Inspect.mono _ _ _ _ _ _
   | exact impl_Recover.mono _ _ _ _ _ _ _ _ _ _
   | exact impl_SignsOf.mono _ _ _ _ _ _ _ _ _ _
   | exact impl_TruthOf.mono _ _ _ _ _ _
   | exact impl_Verdict.mono _ _ _ _ _ _
   | exact spec_CutPower.mono _ _ _ _ _ _
   | exact spec_DrawDoor.mono _ _
   | exact spec_TruthOf.mono _ _ _ _ _ _
   | exact LeO.none _
   | refine LeO.ite ?_ ?_
   | refine LeO.bind ?_ (fun _ => ?_)
theorem laws_FnVerdicts.mono : ∀ a0 k, LeO (laws_FnVerdicts.f k a0) (laws_FnVerdicts.f (k + 1) a0) := by
 intro a0 k
 obtain ⟨ih0, ih1, ih2, ih3, ih4, ih5⟩ := laws_FnVerdicts.mono_l k
 unfold laws_FnVerdicts.f
 repeat' first
   | (with_reducible exact ih0 _ _ _ _ _ _ _ _ _ _ _ _ _ _)
   | (with_reducible exact ih1 _ _ _ _ _ _ _)
   | (with_reducible exact ih2 _ _ _ _ _ _ _)
   | (with_reducible exact ih3 _ _ _ _ _ _ _ _ _ _ _)
   | (with_reducible exact ih4 _ _ _ _ _ _ _ _ _ _ _ _ _ _)
   | (with_reducible exact ih5 _ _ _ _ _ _ _ _)
   | (with_reducible exact impl_CountFaults.mono _ _ _ _ _)
   | (with_reducible exact impl_DoorOk.mono _ _ _ _ _ _)
   | (with_reducible exact impl_Inspect.mono _ _ _ _ _ _)
   | (with_reducible exact impl_Recover.mono _ _ _ _ _ _ _ _ _ _)
   | (with_reducible exact impl_SignsOf.mono _ _ _ _ _ _ _ _ _ _)
   | (with_reducible exact impl_TruthOf.mono _ _ _ _ _ _)
   | (with_reducible exact impl_Verdict.mono _ _ _ _ _ _)
   | (with_reducible exact spec_CutPower.mono _ _ _ _ _ _)
   | (with_reducible exact spec_DrawDoor.mono _ _)
   | (with_reducible exact spec_TruthOf.mono _ _ _ _ _ _)
   | (with_reducible exact LeO.refl _)
   | (with_reducible exact LeO.none _)
   | (with_reducible refine LeO.ite ?_ ?_)
   | (with_reducible refine LeO.bind ?_ (fun _ => ?_))
   | exact ih0 _ _ _ _ _ _ _ _ _ _ _ _ _ _
   | exact ih1 _ _ _ _ _ _ _
   | exact ih2 _ _ _ _ _ _ _
   | exact ih3 _ _ _ _ _ _ _ _ _ _ _
   | exact ih4 _ _ _ _ _ _ _ _ _ _ _ _ _ _
   | exact ih5 _ _ _ _ _ _ _ _
   | exact impl_CountFaults.mono _ _ _ _ _
   | exact impl_DoorOk.mono _ _ _ _ _ _
   | exact impl_Inspect.mono _ _ _ _ _ _
   | exact impl_Recover.mono _ _ _ _ _ _ _ _ _ _
   | exact impl_SignsOf.mono _ _ _ _ _ _ _ _ _ _
   | exact impl_TruthOf.mono _ _ _ _ _ _
   | exact impl_Verdict.mono _ _ _ _ _ _
   | exact spec_CutPower.mono _ _ _ _ _ _
   | exact spec_DrawDoor.mono _ _
   | exact spec_TruthOf.mono _ _ _ _ _ _
   | exact LeO.none _
   | refine LeO.ite ?_ ?_
   | refine LeO.bind ?_ (fun _ => ?_)
set_option maxHeartbeats 100000000 in
set_option maxRecDepth 100000 in
theorem laws_FnVerdicts.calls (k : Nat) (A0 : Option Addr) (c0 : Nat) (l0 : List Int) (r : Bool) (w : World) (hr0 : Kd.C (Kd.int .u8) w A0 l0.length l0) (hc0 : l0.length ≤ c0) (h : laws_FnVerdicts.f k l0 = some r) :
  Calls Try.prog 9 #[.slice A0 l0.length c0] w fun e w' => e = .returned (.bool r) ∧ Below w.heap.size w w' := by
 have hu24 := Try.underlying24
 have hu37 := Try.underlying37
 have hu50 := Try.underlying50
 have HR0 := aM hr0
 have HC0 := aM hc0
 clear hr0 hc0
 have HB := aM (Below.refl w.heap.size w)
 have H : ((laws_big.f l0).bind fun t348 => (if t348 = true then (some true) else ((spec_DrawDoor.f k l0).bind fun bt349 => ((spec_CutPower.f k bt349.1 bt349.2.1 bt349.2.2.1 bt349.2.2.2.1 bt349.2.2.2.2).bind fun bt354 => ((impl_Recover.f k bt354.1 bt354.2.1 bt354.2.2.1 bt354.2.2.2.1 bt354.2.2.2.2 0 0 0 0).bind fun bt360 => ((impl_TruthOf.f k bt354.1 bt354.2.1 bt354.2.2.1 bt354.2.2.2.1 bt354.2.2.2.2).bind fun t368 => ((spec_TruthOf.f k bt354.1 bt354.2.1 bt354.2.2.1 bt354.2.2.2.1 bt354.2.2.2.2).bind fun t369 => (if t368 = t369 then (laws_FnVerdicts.j0 k bt360.2.2.2.2.2.1 bt360.2.2.2.2.2.2 t368 (bt360.2.2.2.2.2.2 != (bt354.1 != 0)) bt354.1 bt354.2.1 bt354.2.2.1 bt354.2.2.2.1 bt354.2.2.2.2 bt360.1 bt360.2.1 bt360.2.2.1 bt360.2.2.2.1 bt360.2.2.2.2.1) else (laws_FnVerdicts.j0 k bt360.2.2.2.2.2.1 bt360.2.2.2.2.2.2 t368 true bt354.1 bt354.2.1 bt354.2.2.1 bt354.2.2.2.1 bt354.2.2.2.2 bt360.1 bt360.2.1 bt360.2.2.1 bt360.2.2.2.1 bt360.2.2.2.2.1))))))))) = some r := h
 clear h
 replace H := Option.bind_eq_some_iff.mp H
 obtain ⟨t348, A20, H⟩ := H
 replace H : (if t348 = true then (some true) else ((spec_DrawDoor.f k l0).bind fun bt349 => ((spec_CutPower.f k bt349.1 bt349.2.1 bt349.2.2.1 bt349.2.2.2.1 bt349.2.2.2.2).bind fun bt354 => ((impl_Recover.f k bt354.1 bt354.2.1 bt354.2.2.1 bt354.2.2.2.1 bt354.2.2.2.2 0 0 0 0).bind fun bt360 => ((impl_TruthOf.f k bt354.1 bt354.2.1 bt354.2.2.1 bt354.2.2.2.1 bt354.2.2.2.2).bind fun t368 => ((spec_TruthOf.f k bt354.1 bt354.2.1 bt354.2.2.1 bt354.2.2.2.1 bt354.2.2.2.2).bind fun t369 => (if t368 = t369 then (laws_FnVerdicts.j0 k bt360.2.2.2.2.2.1 bt360.2.2.2.2.2.2 t368 (bt360.2.2.2.2.2.2 != (bt354.1 != 0)) bt354.1 bt354.2.1 bt354.2.2.1 bt354.2.2.2.1 bt354.2.2.2.2 bt360.1 bt360.2.1 bt360.2.2.1 bt360.2.2.2.1 bt360.2.2.2.2.1) else (laws_FnVerdicts.j0 k bt360.2.2.2.2.2.1 bt360.2.2.2.2.2.2 t368 true bt354.1 bt354.2.1 bt354.2.2.1 bt354.2.2.2.1 bt354.2.2.2.2 bt360.1 bt360.2.1 bt360.2.2.1 bt360.2.2.2.1 bt360.2.2.2.2.1)))))))) = some r := H
 have A2 := aM A20
 clear A20
 by_cases c3 : t348 = true
 ·subst c3
  have H1 : (some true) = some r := by rw [if_pos rfl] at H; exact H
  clear H
  have H := H1
  clear H1
  obtain rfl := Option.some.inj H
  go_enter Try.func9, Try.ntmps9
  go_wp2_with (first | ((with_reducible refine gate_callee (f := 26) rfl ?_); refine goesL_ (some 19) rfl rfl Try.func26 (by kernel_rfl) rfl #[.slice A0 l0.length c0] rfl za ?_; (with_reducible refine (laws_big.calls _ _ l0 true _ ?side1 ?side2 A2.out).mono ?_); (case side1 => repeat (first | exact HR0.out | (with_reducible refine Kd.C_alloc ?_ _) | (with_reducible refine Kd.C_drewN ?_ _) | (with_reducible refine Kd.C_drew ?_))); (case side2 => exact HC0.out); rintro e w' ⟨rfl, ⟨nd, rfl⟩⟩; refine ⟨_, rfl, ?_⟩))
  go_ret
  exact ⟨zr, zb⟩
 ·replace c3 := Bool.eq_false_iff.mpr c3
  subst c3
  have H1 : ((spec_DrawDoor.f k l0).bind fun bt349 => ((spec_CutPower.f k bt349.1 bt349.2.1 bt349.2.2.1 bt349.2.2.2.1 bt349.2.2.2.2).bind fun bt354 => ((impl_Recover.f k bt354.1 bt354.2.1 bt354.2.2.1 bt354.2.2.2.1 bt354.2.2.2.2 0 0 0 0).bind fun bt360 => ((impl_TruthOf.f k bt354.1 bt354.2.1 bt354.2.2.1 bt354.2.2.2.1 bt354.2.2.2.2).bind fun t368 => ((spec_TruthOf.f k bt354.1 bt354.2.1 bt354.2.2.1 bt354.2.2.2.1 bt354.2.2.2.2).bind fun t369 => (if t368 = t369 then (laws_FnVerdicts.j0 k bt360.2.2.2.2.2.1 bt360.2.2.2.2.2.2 t368 (bt360.2.2.2.2.2.2 != (bt354.1 != 0)) bt354.1 bt354.2.1 bt354.2.2.1 bt354.2.2.2.1 bt354.2.2.2.2 bt360.1 bt360.2.1 bt360.2.2.1 bt360.2.2.2.1 bt360.2.2.2.2.1) else (laws_FnVerdicts.j0 k bt360.2.2.2.2.2.1 bt360.2.2.2.2.2.2 t368 true bt354.1 bt354.2.1 bt354.2.2.1 bt354.2.2.2.1 bt354.2.2.2.2 bt360.1 bt360.2.1 bt360.2.2.1 bt360.2.2.2.1 bt360.2.2.2.2.1))))))) = some r := by rw [if_neg (show ¬ (false = true) by decide)] at H; exact H
  clear H
  have H := H1
  clear H1
  replace H := Option.bind_eq_some_iff.mp H
  obtain ⟨⟨t349, t350, t351, t352, t353⟩, A40, H⟩ := H
  replace H : ((spec_CutPower.f k t349 t350 t351 t352 t353).bind fun bt354 => ((impl_Recover.f k bt354.1 bt354.2.1 bt354.2.2.1 bt354.2.2.2.1 bt354.2.2.2.2 0 0 0 0).bind fun bt360 => ((impl_TruthOf.f k bt354.1 bt354.2.1 bt354.2.2.1 bt354.2.2.2.1 bt354.2.2.2.2).bind fun t368 => ((spec_TruthOf.f k bt354.1 bt354.2.1 bt354.2.2.1 bt354.2.2.2.1 bt354.2.2.2.2).bind fun t369 => (if t368 = t369 then (laws_FnVerdicts.j0 k bt360.2.2.2.2.2.1 bt360.2.2.2.2.2.2 t368 (bt360.2.2.2.2.2.2 != (bt354.1 != 0)) bt354.1 bt354.2.1 bt354.2.2.1 bt354.2.2.2.1 bt354.2.2.2.2 bt360.1 bt360.2.1 bt360.2.2.1 bt360.2.2.2.1 bt360.2.2.2.2.1) else (laws_FnVerdicts.j0 k bt360.2.2.2.2.2.1 bt360.2.2.2.2.2.2 t368 true bt354.1 bt354.2.1 bt354.2.2.1 bt354.2.2.2.1 bt354.2.2.2.2 bt360.1 bt360.2.1 bt360.2.2.1 bt360.2.2.2.1 bt360.2.2.2.2.1)))))) = some r := H
  have A4 := aM A40
  clear A40
  replace H := Option.bind_eq_some_iff.mp H
  obtain ⟨⟨t354, t355, t356, t357, t358⟩, A50, H⟩ := H
  replace H : ((impl_Recover.f k t354 t355 t356 t357 t358 0 0 0 0).bind fun bt360 => ((impl_TruthOf.f k t354 t355 t356 t357 t358).bind fun t368 => ((spec_TruthOf.f k t354 t355 t356 t357 t358).bind fun t369 => (if t368 = t369 then (laws_FnVerdicts.j0 k bt360.2.2.2.2.2.1 bt360.2.2.2.2.2.2 t368 (bt360.2.2.2.2.2.2 != (t354 != 0)) t354 t355 t356 t357 t358 bt360.1 bt360.2.1 bt360.2.2.1 bt360.2.2.2.1 bt360.2.2.2.2.1) else (laws_FnVerdicts.j0 k bt360.2.2.2.2.2.1 bt360.2.2.2.2.2.2 t368 true t354 t355 t356 t357 t358 bt360.1 bt360.2.1 bt360.2.2.1 bt360.2.2.2.1 bt360.2.2.2.2.1))))) = some r := H
  have A5 := aM A50
  clear A50
  replace H := Option.bind_eq_some_iff.mp H
  obtain ⟨⟨t360, t361, t362, t363, t364, t365, t366⟩, A60, H⟩ := H
  replace H : ((impl_TruthOf.f k t354 t355 t356 t357 t358).bind fun t368 => ((spec_TruthOf.f k t354 t355 t356 t357 t358).bind fun t369 => (if t368 = t369 then (laws_FnVerdicts.j0 k t365 t366 t368 (t366 != (t354 != 0)) t354 t355 t356 t357 t358 t360 t361 t362 t363 t364) else (laws_FnVerdicts.j0 k t365 t366 t368 true t354 t355 t356 t357 t358 t360 t361 t362 t363 t364)))) = some r := H
  have A6 := aM A60
  clear A60
  replace H := Option.bind_eq_some_iff.mp H
  obtain ⟨t368, A70, H⟩ := H
  replace H : ((spec_TruthOf.f k t354 t355 t356 t357 t358).bind fun t369 => (if t368 = t369 then (laws_FnVerdicts.j0 k t365 t366 t368 (t366 != (t354 != 0)) t354 t355 t356 t357 t358 t360 t361 t362 t363 t364) else (laws_FnVerdicts.j0 k t365 t366 t368 true t354 t355 t356 t357 t358 t360 t361 t362 t363 t364))) = some r := H
  have A7 := aM A70
  clear A70
  have HC8 := aM H
  clear H
  go_enter Try.func9, Try.ntmps9
  go_upto_region 6 with (first | ((with_reducible refine gate_callee (f := 26) rfl ?_); refine goesL_ (some 19) rfl rfl Try.func26 (by kernel_rfl) rfl #[.slice A0 l0.length c0] rfl za ?_; (with_reducible refine (laws_big.calls _ _ l0 false _ ?side1 ?side2 A2.out).mono ?_); (case side1 => repeat (first | exact HR0.out | (with_reducible refine Kd.C_alloc ?_ _) | (with_reducible refine Kd.C_drewN ?_ _) | (with_reducible refine Kd.C_drew ?_))); (case side2 => exact HC0.out); rintro e w' ⟨rfl, ⟨nd, rfl⟩⟩; refine ⟨_, rfl, ?_⟩) | ((with_reducible refine gate_callee (f := 32) rfl ?_); refine goesL_ (some 21) rfl rfl Try.func32 (by kernel_rfl) rfl #[.slice A0 l0.length c0] rfl za ?_; (with_reducible refine (spec_DrawDoor.calls k _ _ l0 t349 t350 t351 t352 t353 _ ?side1 ?side2 A4.out).mono ?_); (case side1 => repeat (first | exact HR0.out | (with_reducible refine Kd.C_alloc ?_ _) | (with_reducible refine Kd.C_drewN ?_ _) | (with_reducible refine Kd.C_drew ?_))); (case side2 => exact HC0.out); rintro e w9 ⟨rfl, hb⟩; refine ⟨_, rfl, ?_⟩; have n0_ := aM (below_step (zb) hb); clear HB; have HB := n0_; clear n0_; (try clear hb); (try clear hb2); (try clear hk); (try clear hi)) | ((with_reducible refine gate_callee (f := 31) rfl ?_); refine goesL_ (some 22) rfl rfl Try.func31 (by kernel_rfl) rfl #[.agg #[.int .i64 t349, .int .i64 t350, .bool t351, .bool t352, .bool t353]] rfl za ?_; (with_reducible refine (spec_CutPower.calls k t349 t350 t351 t352 t353 t354 t355 t356 t357 t358 _ A5.out).mono ?_); rintro e w10 ⟨rfl, hb⟩; refine ⟨_, rfl, ?_⟩; have n0_ := aM (below_step (zb) hb); clear HB; have HB := n0_; clear n0_; (try clear hb); (try clear hb2); (try clear hk); (try clear hi)) | ((with_reducible refine gate_dst (N := 3) rfl ?_); refine box_event ?hg (N := 3) ?hd (cs := #[.int .i64 0, .int .i64 0, .bool false, .bool false, .bool false]) (t := 24) ?hr ?_; (case hd => rfl); (case hg => rfl); (case hr => exact zg); intro gb359 hg w11 hbox hb; have n0_ := aM (below_step (zb) hb); have n1_ := aM (hbox); have n2_ := aM ((by rw [hg]; exact (below_size (zb)) : w.heap.size ≤ gb359)); have n3_ := aM ((by rw [hg]; exact (below_size (zb)) : w.heap.size ≤ gb359)); clear HB; have HB := n0_; have BK359 := n1_; have GW359 := n2_; have GE359 := n3_; clear n0_ n1_ n2_ n3_; clear hb hbox hg; obtain ⟨hcz12_0, hcz12_1, hcz12_2, hcz12_3, hcz12_4, hfz12_0, hfz12_1, hfz12_2, hfz12_3, hfz12_4⟩ := cells5 BK359.out) | ((with_reducible refine gate_callee (f := 25) rfl ?_); refine goesL_ (some 26) rfl rfl Try.func25 (by kernel_rfl) rfl #[.agg #[.int .i64 t354, .int .i64 t355, .bool t356, .bool t357, .bool t358], .agg #[.int .i64 0, .int .i64 0, .int .i64 0, .int .i64 0]] rfl za ?_; (with_reducible refine (impl_Recover.calls k t354 t355 t356 t357 t358 0 0 0 0 t360 t361 t362 t363 t364 t365 t366 _ A6.out).mono ?_); rintro e w13 ⟨rfl, hb⟩; refine ⟨_, rfl, ?_⟩; have n0_ := aM (blk_below (g := gb359) (o := .cells #[.int .i64 t354, .int .i64 t355, .bool t356, .bool t357, .bool t358] 24 (0, 0)) (by refine pq ?_; refine blk_put (cs := #[.int .i64 t354, .int .i64 t355, .bool t356, .bool t357, .bool false]) ?_ 4 _ rfl; refine pq ?_; refine blk_put (cs := #[.int .i64 t354, .int .i64 t355, .bool t356, .bool false, .bool false]) ?_ 3 _ rfl; refine pq ?_; refine blk_put (cs := #[.int .i64 t354, .int .i64 t355, .bool false, .bool false, .bool false]) ?_ 2 _ rfl; refine pq ?_; refine blk_put (cs := #[.int .i64 t354, .int .i64 0, .bool false, .bool false, .bool false]) ?_ 1 _ rfl; refine pq ?_; refine blk_put (cs := #[.int .i64 0, .int .i64 0, .bool false, .bool false, .bool false]) ?_ 0 _ rfl; refine pq ?_; exact BK359.out) hb); have n1_ := aM (below_step (zb) hb); clear BK359; clear HB; have BK359 := n0_; have HB := n1_; clear n0_ n1_; (try clear hb); (try clear hb2); (try clear hk); (try clear hi)) | ((with_reducible refine gate_dst (N := 4) rfl ?_); refine box_event ?hg (N := 4) ?hd (cs := #[.int .i64 0, .int .i64 0, .bool false, .bool false, .bool false]) (t := 24) ?hr ?_; (case hd => rfl); (case hg => rfl); (case hr => exact zg); intro gb367 hg w14 hbox hb; have n0_ := aM (bb BK359.out hb); have n1_ := aM (below_step (zb) hb); have n2_ := aM (hbox); have n3_ := aM ((by rw [hg]; exact (below_size (zb)) : w.heap.size ≤ gb367)); have n4_ := aM ((by rw [hg]; exact (below_size (zb)) : w.heap.size ≤ gb367)); have n5_ := aM ((by rw [hg]; exact Nat.ne_of_lt (nl BK359.out) : gb359 ≠ gb367)); have n6_ := aM ((by rw [hg]; exact Nat.ne_of_gt (nl BK359.out) : gb367 ≠ gb359)); clear BK359; clear HB; have BK359 := n0_; have HB := n1_; have BK367 := n2_; have GW367 := n3_; have GE367 := n4_; have NB359_367 := n5_; have NB367_359 := n6_; clear n0_ n1_ n2_ n3_ n4_ n5_ n6_; clear hb hbox hg; have hnb15 := NB367_359.out; have hnc15 := NB359_367.out; obtain ⟨hcz16_0, hcz16_1, hcz16_2, hcz16_3, hcz16_4, hfz16_0, hfz16_1, hfz16_2, hfz16_3, hfz16_4⟩ := cells5 BK367.out; obtain ⟨hcz17_0, hcz17_1, hcz17_2, hcz17_3, hcz17_4, hfz17_0, hfz17_1, hfz17_2, hfz17_3, hfz17_4⟩ := cells5 BK359.out) | ((with_reducible refine gate_callee (f := 33) rfl ?_); refine goesL_ (some 31) rfl rfl Try.func33 (by kernel_rfl) rfl #[.agg #[.int .i64 t354, .int .i64 t355, .bool t356, .bool t357, .bool t358]] rfl za ?_; (with_reducible refine (impl_TruthOf.calls k t354 t355 t356 t357 t358 t368 _ A7.out).mono ?_); rintro e w18 ⟨rfl, hb⟩; refine ⟨_, rfl, ?_⟩; have n0_ := aM (blk_below (g := gb359) (o := .cells #[.int .i64 t354, .int .i64 t355, .bool t356, .bool t357, .bool t358] 24 (0, 0)) (by refine pq ?_; refine blk_far ?_ NB359_367.out _; refine pq ?_; refine blk_far ?_ NB359_367.out _; refine pq ?_; refine blk_far ?_ NB359_367.out _; refine pq ?_; refine blk_far ?_ NB359_367.out _; refine pq ?_; refine blk_far ?_ NB359_367.out _; refine pq ?_; exact BK359.out) hb); have n1_ := aM (blk_below (g := gb367) (o := .cells #[.int .i64 t360, .int .i64 t361, .bool t362, .bool t363, .bool t364] 24 (0, 0)) (by refine pq ?_; refine blk_put (cs := #[.int .i64 t360, .int .i64 t361, .bool t362, .bool t363, .bool false]) ?_ 4 _ rfl; refine pq ?_; refine blk_put (cs := #[.int .i64 t360, .int .i64 t361, .bool t362, .bool false, .bool false]) ?_ 3 _ rfl; refine pq ?_; refine blk_put (cs := #[.int .i64 t360, .int .i64 t361, .bool false, .bool false, .bool false]) ?_ 2 _ rfl; refine pq ?_; refine blk_put (cs := #[.int .i64 t360, .int .i64 0, .bool false, .bool false, .bool false]) ?_ 1 _ rfl; refine pq ?_; refine blk_put (cs := #[.int .i64 0, .int .i64 0, .bool false, .bool false, .bool false]) ?_ 0 _ rfl; refine pq ?_; exact BK367.out) hb); have n2_ := aM (below_step (zb) hb); clear BK359; clear BK367; clear HB; have BK359 := n0_; have BK367 := n1_; have HB := n2_; clear n0_ n1_ n2_; (try clear hb); (try clear hb2); (try clear hk); (try clear hi)))
  (try simp only [Act.put, List.setIfInBounds_toArray, List.set_cons_zero, List.set_cons_succ])
  go_cut [42] (fun v42 wc => ∃ (kq : Nat) (x42_7 : Bool), v42 = .bool x42_7 ∧ Aside0 (laws_FnVerdicts.j0 kq t365 t366 t368 x42_7 t354 t355 t356 t357 t358 t360 t361 t362 t363 t364 = some r) ∧ Aside0 (kq ≤ k) ∧ Aside0 (wc.heap[gb359]? = some (.cells #[.int .i64 t354, .int .i64 t355, .bool t356, .bool t357, .bool t358] 24 (0, 0))) ∧ Aside0 (wc.heap[gb367]? = some (.cells #[.int .i64 t360, .int .i64 t361, .bool t362, .bool t363, .bool t364] 24 (0, 0))) ∧ Aside0 (Below w.heap.size w wc))
  case first =>
   have H := HC8.out
   clear HC8
   replace H := Option.bind_eq_some_iff.mp H
   obtain ⟨t369, A190, H⟩ := H
   replace H : (if t368 = t369 then (laws_FnVerdicts.j0 k t365 t366 t368 (t366 != (t354 != 0)) t354 t355 t356 t357 t358 t360 t361 t362 t363 t364) else (laws_FnVerdicts.j0 k t365 t366 t368 true t354 t355 t356 t357 t358 t360 t361 t362 t363 t364)) = some r := H
   have A19 := aM A190
   clear A190
   by_cases c20 : t368 = t369
   ·rw [if_pos c20] at H
    have c20b0 : (t368 == t369) = true := beq_iff_eq.mpr c20
    have c20b1 : (t368 != t369) = false := bne_eq_false_iff_eq.mpr c20
    clear c20
    (first | rw [c20b0] | (simp only [i64_w, i32_w]; rw [c20b0]) | skip)
    have H' := aM H
    clear H
    have hnb21 := NB359_367.out
    have hnc21 := NB367_359.out
    obtain ⟨hcz22_0, hcz22_1, hcz22_2, hcz22_3, hcz22_4, hfz22_0, hfz22_1, hfz22_2, hfz22_3, hfz22_4⟩ := cells5 BK359.out
    go_wp2_with (first | ((with_reducible refine gate_callee (f := 34) rfl ?_); refine goesL_ (some 34) rfl rfl Try.func34 (by kernel_rfl) rfl #[.agg #[.int .i64 t354, .int .i64 t355, .bool t356, .bool t357, .bool t358]] rfl za ?_; (with_reducible refine (spec_TruthOf.calls k t354 t355 t356 t357 t358 t369 _ A19.out).mono ?_); rintro e w23 ⟨rfl, hb⟩; refine ⟨_, rfl, ?_⟩; have n0_ := aM (bb BK359.out hb); have n1_ := aM (bb BK367.out hb); have n2_ := aM (below_step (zb) hb); clear BK359; clear BK367; clear HB; have BK359 := n0_; have BK367 := n1_; have HB := n2_; clear n0_ n1_ n2_; (try clear hb); (try clear hb2); (try clear hk); (try clear hi); obtain ⟨hcz24_0, hcz24_1, hcz24_2, hcz24_3, hcz24_4, hfz24_0, hfz24_1, hfz24_2, hfz24_3, hfz24_4⟩ := cells5 BK359.out))
    go_meet
    case rel => exact ⟨_, ((t366 != (t354 != 0))), zs, H', ⟨by first | omega | exact Nat.le_refl _⟩, ⟨by exact pk BK359.out⟩, ⟨by exact pk BK367.out⟩, ⟨zb⟩⟩
   ·rw [if_neg c20] at H
    have c20b0 : (t368 == t369) = false := beq_eq_false_iff_ne.mpr c20
    have c20b1 : (t368 != t369) = true := bne_iff_ne.mpr c20
    (first | rw [c20b0] | (simp only [i64_w, i32_w]; rw [c20b0]) | skip)
    have H' := aM H
    clear H
    have hnb25 := NB359_367.out
    have hnc25 := NB367_359.out
    obtain ⟨hcz26_0, hcz26_1, hcz26_2, hcz26_3, hcz26_4, hfz26_0, hfz26_1, hfz26_2, hfz26_3, hfz26_4⟩ := cells5 BK359.out
    go_wp2_with (first | ((with_reducible refine gate_callee (f := 34) rfl ?_); refine goesL_ (some 34) rfl rfl Try.func34 (by kernel_rfl) rfl #[.agg #[.int .i64 t354, .int .i64 t355, .bool t356, .bool t357, .bool t358]] rfl za ?_; (with_reducible refine (spec_TruthOf.calls k t354 t355 t356 t357 t358 t369 _ A19.out).mono ?_); rintro e w27 ⟨rfl, hb⟩; refine ⟨_, rfl, ?_⟩; have n0_ := aM (bb BK359.out hb); have n1_ := aM (bb BK367.out hb); have n2_ := aM (below_step (zb) hb); clear BK359; clear BK367; clear HB; have BK359 := n0_; have BK367 := n1_; have HB := n2_; clear n0_ n1_ n2_; (try clear hb); (try clear hb2); (try clear hk); (try clear hi)))
    go_meet
    case rel => exact ⟨_, (true), zs, H', ⟨by first | omega | exact Nat.le_refl _⟩, ⟨by exact pk BK359.out⟩, ⟨by exact pk BK367.out⟩, ⟨zb⟩⟩
  case rest =>
   clear HC8
   try clear c1
   try clear c2
   try clear p2
   try clear c3
   try clear c9
   try clear c15
   try clear c20
   try clear c20b0
   try clear c20b1
   try clear c21
   try clear c25
   try clear c26
   try clear hcz12_0 hcz12_1 hcz12_2 hcz12_3 hcz12_4 hfz12_0 hfz12_1 hfz12_2 hfz12_3 hfz12_4
   try clear hcz16_0 hcz16_1 hcz16_2 hcz16_3 hcz16_4 hfz16_0 hfz16_1 hfz16_2 hfz16_3 hfz16_4
   try clear hcz17_0 hcz17_1 hcz17_2 hcz17_3 hcz17_4 hfz17_0 hfz17_1 hfz17_2 hfz17_3 hfz17_4
   try clear hcz22_0 hcz22_1 hcz22_2 hcz22_3 hcz22_4 hfz22_0 hfz22_1 hfz22_2 hfz22_3 hfz22_4
   try clear hcz24_0 hcz24_1 hcz24_2 hcz24_3 hcz24_4 hfz24_0 hfz24_1 hfz24_2 hfz24_3 hfz24_4
   try clear hcz26_0 hcz26_1 hcz26_2 hcz26_3 hcz26_4 hfz26_0 hfz26_1 hfz26_2 hfz26_3 hfz26_4
   obtain ⟨kq, x42_7, rfl, HA, HJ7, BK359, BK367, HB⟩ := hcut
   as_aux_lemma =>
    cases kq with
    | zero => exact absurd HA.out (by simp [laws_FnVerdicts.j0])
    | succ kj7 =>
     have H := HA.out
     clear HA
     simp only [laws_FnVerdicts.j0] at H
     by_cases c28 : x42_7 = true
     ·subst c28
      have H1 : (none) = some r := by rw [if_pos rfl] at H; exact H
      clear H
      have H := H1
      clear H1
      exact absurd H (by simp)
     ·replace c28 := Bool.eq_false_iff.mpr c28
      subst c28
      have H1 : (if t366 = true then (if t365 = t368 then ((impl_VerdictName.f t365).bind fun t370 => (laws_FnVerdicts.j1 kj7 t368 (t370.toList == ([] : List UInt8)) t354 t355 t356 t357 t358)) else (laws_FnVerdicts.j1 kj7 t368 true t354 t355 t356 t357 t358)) else (if (t360 == t354 && (t361 == t355 && (t362 == t356 && (t363 == t357 && (t364 == t358))))) = true then (if t365 = 0 then (some (t368 == 0)) else (none)) else (none))) = some r := by rw [if_neg (show ¬ (false = true) by decide)] at H; exact H
      clear H
      have H := H1
      clear H1
      by_cases c29 : t366 = true
      ·subst c29
       have H1 : (if t365 = t368 then ((impl_VerdictName.f t365).bind fun t370 => (laws_FnVerdicts.j1 kj7 t368 (t370.toList == ([] : List UInt8)) t354 t355 t356 t357 t358)) else (laws_FnVerdicts.j1 kj7 t368 true t354 t355 t356 t357 t358)) = some r := by rw [if_pos rfl] at H; exact H
       clear H
       have H := H1
       clear H1
       have HC30 := aM H
       clear H
       go_upto_region 10 with (fail)
       go_cut [63] (fun v63 wc => ∃ (kq : Nat) (x63_29 : Bool), v63 = .bool x63_29 ∧ Aside0 (laws_FnVerdicts.j1 kq t368 x63_29 t354 t355 t356 t357 t358 = some r) ∧ Aside0 (kq ≤ kj7) ∧ Aside0 (wc.heap[gb359]? = some (.cells #[.int .i64 t354, .int .i64 t355, .bool t356, .bool t357, .bool t358] 24 (0, 0))) ∧ Aside0 (wc.heap[gb367]? = some (.cells #[.int .i64 t360, .int .i64 t361, .bool t362, .bool t363, .bool t364] 24 (0, 0))) ∧ Aside0 (Below w.heap.size w wc))
       case first =>
        have H := HC30.out
        clear HC30
        by_cases c31 : t365 = t368
        ·rw [if_pos c31] at H
         have c31b0 : (t365 == t368) = true := beq_iff_eq.mpr c31
         have c31b1 : (t365 != t368) = false := bne_eq_false_iff_eq.mpr c31
         clear c31
         (first | rw [c31b0] | (simp only [i64_w, i32_w]; rw [c31b0]) | skip)
         replace H := Option.bind_eq_some_iff.mp H
         obtain ⟨t370, A320, H⟩ := H
         replace H : (laws_FnVerdicts.j1 kj7 t368 (t370.toList == ([] : List UInt8)) t354 t355 t356 t357 t358) = some r := H
         have A32 := aM A320
         clear A320
         have H' := aM H
         clear H
         go_wp2_with (first | (go_at_call 35; (with_reducible refine (impl_VerdictName.calls t365 t370 _ A32.out).mono ?_); rintro e w33 ⟨rfl, hb⟩; have n0_ := aM (bb BK359.out hb); have n1_ := aM (bb BK367.out hb); have n2_ := aM (below_step (zb) hb); clear BK359; clear BK367; clear HB; have BK359 := n0_; have BK367 := n1_; have HB := n2_; clear n0_ n1_ n2_; (try clear hb); (try clear hb2); (try clear hk); (try clear hi)))
         go_meet
         case rel => exact ⟨_, ((t370.toList == ([] : List UInt8))), zs, H', ⟨by have := HJ7.out; first | omega | exact Nat.le_refl _⟩, ⟨by exact pk BK359.out⟩, ⟨by exact pk BK367.out⟩, ⟨zb⟩⟩
        ·rw [if_neg c31] at H
         have c31b0 : (t365 == t368) = false := beq_eq_false_iff_ne.mpr c31
         have c31b1 : (t365 != t368) = true := bne_iff_ne.mpr c31
         (first | rw [c31b0] | (simp only [i64_w, i32_w]; rw [c31b0]) | skip)
         have H' := aM H
         clear H
         go_wp2
         go_meet
         case rel => exact ⟨_, (true), zs, H', ⟨by have := HJ7.out; first | omega | exact Nat.le_refl _⟩, ⟨by exact pk BK359.out⟩, ⟨by exact pk BK367.out⟩, ⟨zb⟩⟩
       case rest =>
        clear HC30
        try clear c1
        try clear c2
        try clear p2
        try clear c3
        try clear c9
        try clear c15
        try clear c20
        try clear c20b0
        try clear c20b1
        try clear c21
        try clear c25
        try clear c26
        try clear c28
        try clear c29
        try clear c31
        try clear c31b0
        try clear c31b1
        try clear c32
        try clear c33
        try clear hcz12_0 hcz12_1 hcz12_2 hcz12_3 hcz12_4 hfz12_0 hfz12_1 hfz12_2 hfz12_3 hfz12_4
        try clear hcz16_0 hcz16_1 hcz16_2 hcz16_3 hcz16_4 hfz16_0 hfz16_1 hfz16_2 hfz16_3 hfz16_4
        try clear hcz17_0 hcz17_1 hcz17_2 hcz17_3 hcz17_4 hfz17_0 hfz17_1 hfz17_2 hfz17_3 hfz17_4
        try clear hcz22_0 hcz22_1 hcz22_2 hcz22_3 hcz22_4 hfz22_0 hfz22_1 hfz22_2 hfz22_3 hfz22_4
        try clear hcz24_0 hcz24_1 hcz24_2 hcz24_3 hcz24_4 hfz24_0 hfz24_1 hfz24_2 hfz24_3 hfz24_4
        try clear hcz26_0 hcz26_1 hcz26_2 hcz26_3 hcz26_4 hfz26_0 hfz26_1 hfz26_2 hfz26_3 hfz26_4
        try clear p2
        obtain ⟨kq, x63_29, rfl, HA, HJ29, BK359, BK367, HB⟩ := hcut
        as_aux_lemma =>
         cases kq with
         | zero => exact absurd HA.out (by simp [laws_FnVerdicts.j1])
         | succ kj29 =>
          have H := HA.out
          clear HA
          simp only [laws_FnVerdicts.j1] at H
          by_cases c34 : x63_29 = true
          ·subst c34
           have H1 : (none) = some r := by rw [if_pos rfl] at H; exact H
           clear H
           have H := H1
           clear H1
           exact absurd H (by simp)
          ·replace c34 := Bool.eq_false_iff.mpr c34
           subst c34
           have H1 : (laws_FnVerdicts.l0 kj29 t368 0 t354 t355 t356 t357 t358) = some r := by rw [if_neg (show ¬ (false = true) by decide)] at H; exact H
           clear H
           have H := H1
           clear H1
           have H' := aM H
           clear H
           go_wp2
           go_loopg [8] kj29 (fun kq v8 w' => ∃ (x8_3 : Int), v8 = .int .i64 x8_3 ∧ Aside0 (laws_FnVerdicts.l0 kq t368 x8_3 t354 t355 t356 t357 t358 = some r) ∧ Aside0 (kq ≤ kj29) ∧ Aside0 (w'.heap[gb359]? = some (.cells #[.int .i64 t354, .int .i64 t355, .bool t356, .bool t357, .bool t358] 24 (0, 0))) ∧ Aside0 (w'.heap[gb367]? = some (.cells #[.int .i64 t360, .int .i64 t361, .bool t362, .bool t363, .bool t364] 24 (0, 0))) ∧ Aside0 (Below w.heap.size w w'))
           case atStart => exact ⟨(0), zs, H', ⟨Nat.le_refl _⟩, ⟨by exact pk BK359.out⟩, ⟨by exact pk BK367.out⟩, ⟨zb⟩⟩
           case round =>
            clear H'
            try clear c1
            try clear c2
            try clear p2
            try clear c3
            try clear c9
            try clear c15
            try clear c20
            try clear c20b0
            try clear c20b1
            try clear c21
            try clear c25
            try clear c26
            try clear c28
            try clear c29
            try clear c31
            try clear c31b0
            try clear c31b1
            try clear c32
            try clear c33
            try clear c34
            try clear hcz12_0 hcz12_1 hcz12_2 hcz12_3 hcz12_4 hfz12_0 hfz12_1 hfz12_2 hfz12_3 hfz12_4
            try clear hcz16_0 hcz16_1 hcz16_2 hcz16_3 hcz16_4 hfz16_0 hfz16_1 hfz16_2 hfz16_3 hfz16_4
            try clear hcz17_0 hcz17_1 hcz17_2 hcz17_3 hcz17_4 hfz17_0 hfz17_1 hfz17_2 hfz17_3 hfz17_4
            try clear hcz22_0 hcz22_1 hcz22_2 hcz22_3 hcz22_4 hfz22_0 hfz22_1 hfz22_2 hfz22_3 hfz22_4
            try clear hcz24_0 hcz24_1 hcz24_2 hcz24_3 hcz24_4 hfz24_0 hfz24_1 hfz24_2 hfz24_3 hfz24_4
            try clear hcz26_0 hcz26_1 hcz26_2 hcz26_3 hcz26_4 hfz26_0 hfz26_1 hfz26_2 hfz26_3 hfz26_4
            try clear p2
            obtain ⟨x8_3, rfl, HA, HK3, BK359, BK367, HB⟩ := hrel
            cases gk with
            | zero => exact absurd HA.out (by simp [laws_FnVerdicts.l0])
            | succ k3 =>
             have H := HA.out
             clear HA
             simp only [laws_FnVerdicts.l0] at H
             by_cases c35 : x8_3 < 8
             ·rw [if_pos c35] at H
              have c35b0 : decide (x8_3 < 8) = true := decide_eq_true c35
              clear c35
              have HC36 := aM H
              clear H
              go_upto_block 2 with (first | ((with_reducible refine gate_dst (N := 9) rfl ?_); refine box_event ?hg (N := 9) ?hd (cs := #[.int .i64 0, .int .i64 0, .int .i64 0, .int .i64 0]) (t := 37) ?hr ?_; (case hd => rfl); (case hg => rfl); (case hr => exact zg); intro gb379 hg w37 hbox hb; have n0_ := aM (bb BK359.out hb); have n1_ := aM (bb BK367.out hb); have n2_ := aM (below_step (zb) hb); have n3_ := aM (hbox); have n4_ := aM ((by rw [hg]; exact (below_size (zb)) : w.heap.size ≤ gb379)); have n5_ := aM ((by rw [hg]; exact (below_size (zb)) : w.heap.size ≤ gb379)); have n6_ := aM ((by rw [hg]; exact Nat.ne_of_lt (nl BK359.out) : gb359 ≠ gb379)); have n7_ := aM ((by rw [hg]; exact Nat.ne_of_gt (nl BK359.out) : gb379 ≠ gb359)); have n8_ := aM ((by rw [hg]; exact Nat.ne_of_lt (nl BK367.out) : gb367 ≠ gb379)); have n9_ := aM ((by rw [hg]; exact Nat.ne_of_gt (nl BK367.out) : gb379 ≠ gb367)); clear BK359; clear BK367; clear HB; have BK359 := n0_; have BK367 := n1_; have HB := n2_; have BK379 := n3_; have GW379 := n4_; have GE379 := n5_; have NB359_379 := n6_; have NB379_359 := n7_; have NB367_379 := n8_; have NB379_367 := n9_; clear n0_ n1_ n2_ n3_ n4_ n5_ n6_ n7_ n8_ n9_; clear hb hbox hg; have hnb38 := NB379_359.out; have hnc38 := NB359_379.out; have hnb39 := NB379_367.out; have hnc39 := NB367_379.out; obtain ⟨hcz40_0, hcz40_1, hcz40_2, hcz40_3, hfz40_0, hfz40_1, hfz40_2, hfz40_3⟩ := cells4 BK379.out))
              (try simp only [Act.put, List.setIfInBounds_toArray, List.set_cons_zero, List.set_cons_succ])
              go_cut [] (fun wc => ∃ (kq : Nat) (x380000_35 : Int) (x380001_35 : Int) (x380002_35 : Int) (x380003_35 : Int), Aside0 (laws_FnVerdicts.j3 kq t368 x8_3 t354 t355 t356 t357 t358 x380000_35 x380001_35 x380002_35 x380003_35 = some r) ∧ Aside0 (kq ≤ k3) ∧ Aside0 (wc.heap[gb359]? = some (.cells #[.int .i64 t354, .int .i64 t355, .bool t356, .bool t357, .bool t358] 24 (0, 0))) ∧ Aside0 (wc.heap[gb367]? = some (.cells #[.int .i64 t360, .int .i64 t361, .bool t362, .bool t363, .bool t364] 24 (0, 0))) ∧ Aside0 (wc.heap[gb379]? = some (.cells #[.int .i64 x380000_35, .int .i64 x380001_35, .int .i64 x380002_35, .int .i64 x380003_35] 37 (0, 0))) ∧ Aside0 (Below w.heap.size w wc))
              case first =>
               have H := HC36.out
               clear HC36
               by_cases c41 : (wrap64 (Int.tdiv x8_3 2)) = 0
               ·rw [if_pos c41] at H
                have c41b0 : ((wrap64 (Int.tdiv x8_3 2)) == 0) = true := beq_iff_eq.mpr c41
                have c41b1 : ((wrap64 (Int.tdiv x8_3 2)) != 0) = false := bne_eq_false_iff_eq.mpr c41
                clear c41
                (first | rw [c41b0] | (simp only [i64_w, i32_w]; rw [c41b0]) | skip)
                have H' := aM H
                clear H
                have hnb42 := NB379_359.out
                have hnc42 := NB359_379.out
                have hnb43 := NB379_367.out
                have hnc43 := NB367_379.out
                obtain ⟨hcz44_0, hcz44_1, hcz44_2, hcz44_3, hfz44_0, hfz44_1, hfz44_2, hfz44_3⟩ := cells4 BK379.out
                go_wp2
                go_meet
                case rel => exact ⟨_, (wrap64 (1 + (Int.tmod x8_3 2))), (0), (0), (0), H', ⟨by have := HJ7.out; have := HJ29.out; have := HK3.out; first | omega | exact Nat.le_refl _⟩, ⟨by refine pq ?_; refine blk_far ?_ NB359_379.out _; refine pq ?_; refine blk_far ?_ NB359_379.out _; refine pq ?_; refine blk_far ?_ NB359_379.out _; refine pq ?_; refine blk_far ?_ NB359_379.out _; refine pq ?_; refine blk_far ?_ NB359_379.out _; refine pq ?_; exact BK359.out⟩, ⟨by refine pq ?_; refine blk_far ?_ NB367_379.out _; refine pq ?_; refine blk_far ?_ NB367_379.out _; refine pq ?_; refine blk_far ?_ NB367_379.out _; refine pq ?_; refine blk_far ?_ NB367_379.out _; refine pq ?_; refine blk_far ?_ NB367_379.out _; refine pq ?_; exact BK367.out⟩, ⟨by refine pq ?_; refine blk_put (cs := #[.int .i64 0, .int .i64 0, .int .i64 0, .int .i64 0]) ?_ 0 _ rfl; refine pq ?_; refine blk_put (cs := #[.int .i64 0, .int .i64 0, .int .i64 0, .int .i64 0]) ?_ 3 _ rfl; refine pq ?_; refine blk_put (cs := #[.int .i64 0, .int .i64 0, .int .i64 0, .int .i64 0]) ?_ 2 _ rfl; refine pq ?_; refine blk_put (cs := #[.int .i64 0, .int .i64 0, .int .i64 0, .int .i64 0]) ?_ 1 _ rfl; refine pq ?_; refine blk_put (cs := #[.int .i64 0, .int .i64 0, .int .i64 0, .int .i64 0]) ?_ 0 _ rfl; refine pq ?_; exact BK379.out⟩, ⟨zb⟩⟩
               ·rw [if_neg c41] at H
                have c41b0 : ((wrap64 (Int.tdiv x8_3 2)) == 0) = false := beq_eq_false_iff_ne.mpr c41
                have c41b1 : ((wrap64 (Int.tdiv x8_3 2)) != 0) = true := bne_iff_ne.mpr c41
                (first | rw [c41b0] | (simp only [i64_w, i32_w]; rw [c41b0]) | skip)
                by_cases c45 : (wrap64 (Int.tdiv x8_3 2)) = 1
                ·rw [if_pos c45] at H
                 have c45b0 : ((wrap64 (Int.tdiv x8_3 2)) == 1) = true := beq_iff_eq.mpr c45
                 have c45b1 : ((wrap64 (Int.tdiv x8_3 2)) != 1) = false := bne_eq_false_iff_eq.mpr c45
                 clear c45
                 have H' := aM H
                 clear H
                 have hnb46 := NB379_359.out
                 have hnc46 := NB359_379.out
                 have hnb47 := NB379_367.out
                 have hnc47 := NB367_379.out
                 obtain ⟨hcz48_0, hcz48_1, hcz48_2, hcz48_3, hfz48_0, hfz48_1, hfz48_2, hfz48_3⟩ := cells4 BK379.out
                 go_wp2
                 go_meet
                 case rel => exact ⟨_, (0), (wrap64 (1 + (Int.tmod x8_3 2))), (0), (0), H', ⟨by have := HJ7.out; have := HJ29.out; have := HK3.out; first | omega | exact Nat.le_refl _⟩, ⟨by refine pq ?_; refine blk_far ?_ NB359_379.out _; refine pq ?_; refine blk_far ?_ NB359_379.out _; refine pq ?_; refine blk_far ?_ NB359_379.out _; refine pq ?_; refine blk_far ?_ NB359_379.out _; refine pq ?_; refine blk_far ?_ NB359_379.out _; refine pq ?_; exact BK359.out⟩, ⟨by refine pq ?_; refine blk_far ?_ NB367_379.out _; refine pq ?_; refine blk_far ?_ NB367_379.out _; refine pq ?_; refine blk_far ?_ NB367_379.out _; refine pq ?_; refine blk_far ?_ NB367_379.out _; refine pq ?_; refine blk_far ?_ NB367_379.out _; refine pq ?_; exact BK367.out⟩, ⟨by refine pq ?_; refine blk_put (cs := #[.int .i64 0, .int .i64 0, .int .i64 0, .int .i64 0]) ?_ 1 _ rfl; refine pq ?_; refine blk_put (cs := #[.int .i64 0, .int .i64 0, .int .i64 0, .int .i64 0]) ?_ 3 _ rfl; refine pq ?_; refine blk_put (cs := #[.int .i64 0, .int .i64 0, .int .i64 0, .int .i64 0]) ?_ 2 _ rfl; refine pq ?_; refine blk_put (cs := #[.int .i64 0, .int .i64 0, .int .i64 0, .int .i64 0]) ?_ 1 _ rfl; refine pq ?_; refine blk_put (cs := #[.int .i64 0, .int .i64 0, .int .i64 0, .int .i64 0]) ?_ 0 _ rfl; refine pq ?_; exact BK379.out⟩, ⟨zb⟩⟩
                ·rw [if_neg c45] at H
                 have c45b0 : ((wrap64 (Int.tdiv x8_3 2)) == 1) = false := beq_eq_false_iff_ne.mpr c45
                 have c45b1 : ((wrap64 (Int.tdiv x8_3 2)) != 1) = true := bne_iff_ne.mpr c45
                 by_cases c49 : (wrap64 (Int.tdiv x8_3 2)) = 2
                 ·rw [if_pos c49] at H
                  have c49b0 : ((wrap64 (Int.tdiv x8_3 2)) == 2) = true := beq_iff_eq.mpr c49
                  have c49b1 : ((wrap64 (Int.tdiv x8_3 2)) != 2) = false := bne_eq_false_iff_eq.mpr c49
                  clear c49
                  have H' := aM H
                  clear H
                  have hnb50 := NB379_359.out
                  have hnc50 := NB359_379.out
                  have hnb51 := NB379_367.out
                  have hnc51 := NB367_379.out
                  obtain ⟨hcz52_0, hcz52_1, hcz52_2, hcz52_3, hfz52_0, hfz52_1, hfz52_2, hfz52_3⟩ := cells4 BK379.out
                  go_wp2
                  go_meet
                  case rel => exact ⟨_, (0), (0), (wrap64 (1 + (Int.tmod x8_3 2))), (0), H', ⟨by have := HJ7.out; have := HJ29.out; have := HK3.out; first | omega | exact Nat.le_refl _⟩, ⟨by refine pq ?_; refine blk_far ?_ NB359_379.out _; refine pq ?_; refine blk_far ?_ NB359_379.out _; refine pq ?_; refine blk_far ?_ NB359_379.out _; refine pq ?_; refine blk_far ?_ NB359_379.out _; refine pq ?_; refine blk_far ?_ NB359_379.out _; refine pq ?_; exact BK359.out⟩, ⟨by refine pq ?_; refine blk_far ?_ NB367_379.out _; refine pq ?_; refine blk_far ?_ NB367_379.out _; refine pq ?_; refine blk_far ?_ NB367_379.out _; refine pq ?_; refine blk_far ?_ NB367_379.out _; refine pq ?_; refine blk_far ?_ NB367_379.out _; refine pq ?_; exact BK367.out⟩, ⟨by refine pq ?_; refine blk_put (cs := #[.int .i64 0, .int .i64 0, .int .i64 0, .int .i64 0]) ?_ 2 _ rfl; refine pq ?_; refine blk_put (cs := #[.int .i64 0, .int .i64 0, .int .i64 0, .int .i64 0]) ?_ 3 _ rfl; refine pq ?_; refine blk_put (cs := #[.int .i64 0, .int .i64 0, .int .i64 0, .int .i64 0]) ?_ 2 _ rfl; refine pq ?_; refine blk_put (cs := #[.int .i64 0, .int .i64 0, .int .i64 0, .int .i64 0]) ?_ 1 _ rfl; refine pq ?_; refine blk_put (cs := #[.int .i64 0, .int .i64 0, .int .i64 0, .int .i64 0]) ?_ 0 _ rfl; refine pq ?_; exact BK379.out⟩, ⟨zb⟩⟩
                 ·rw [if_neg c49] at H
                  have c49b0 : ((wrap64 (Int.tdiv x8_3 2)) == 2) = false := beq_eq_false_iff_ne.mpr c49
                  have c49b1 : ((wrap64 (Int.tdiv x8_3 2)) != 2) = true := bne_iff_ne.mpr c49
                  have H' := aM H
                  clear H
                  have hnb53 := NB379_359.out
                  have hnc53 := NB359_379.out
                  have hnb54 := NB379_367.out
                  have hnc54 := NB367_379.out
                  obtain ⟨hcz55_0, hcz55_1, hcz55_2, hcz55_3, hfz55_0, hfz55_1, hfz55_2, hfz55_3⟩ := cells4 BK379.out
                  go_wp2
                  go_meet
                  case rel => exact ⟨_, (0), (0), (0), (wrap64 (1 + (Int.tmod x8_3 2))), H', ⟨by have := HJ7.out; have := HJ29.out; have := HK3.out; first | omega | exact Nat.le_refl _⟩, ⟨by refine pq ?_; refine blk_far ?_ NB359_379.out _; refine pq ?_; refine blk_far ?_ NB359_379.out _; refine pq ?_; refine blk_far ?_ NB359_379.out _; refine pq ?_; refine blk_far ?_ NB359_379.out _; refine pq ?_; refine blk_far ?_ NB359_379.out _; refine pq ?_; exact BK359.out⟩, ⟨by refine pq ?_; refine blk_far ?_ NB367_379.out _; refine pq ?_; refine blk_far ?_ NB367_379.out _; refine pq ?_; refine blk_far ?_ NB367_379.out _; refine pq ?_; refine blk_far ?_ NB367_379.out _; refine pq ?_; refine blk_far ?_ NB367_379.out _; refine pq ?_; exact BK367.out⟩, ⟨by refine pq ?_; refine blk_put (cs := #[.int .i64 0, .int .i64 0, .int .i64 0, .int .i64 0]) ?_ 3 _ rfl; refine pq ?_; refine blk_put (cs := #[.int .i64 0, .int .i64 0, .int .i64 0, .int .i64 0]) ?_ 3 _ rfl; refine pq ?_; refine blk_put (cs := #[.int .i64 0, .int .i64 0, .int .i64 0, .int .i64 0]) ?_ 2 _ rfl; refine pq ?_; refine blk_put (cs := #[.int .i64 0, .int .i64 0, .int .i64 0, .int .i64 0]) ?_ 1 _ rfl; refine pq ?_; refine blk_put (cs := #[.int .i64 0, .int .i64 0, .int .i64 0, .int .i64 0]) ?_ 0 _ rfl; refine pq ?_; exact BK379.out⟩, ⟨zb⟩⟩
              case rest =>
               clear HC36
               try clear c1
               try clear c2
               try clear p2
               try clear c3
               try clear c4
               try clear c5
               try clear p6
               try clear c9
               try clear c15
               try clear c20
               try clear c20b0
               try clear c20b1
               try clear c21
               try clear c25
               try clear c26
               try clear c28
               try clear c29
               try clear c31
               try clear c31b0
               try clear c31b1
               try clear c32
               try clear c33
               try clear c34
               try clear c35
               try clear c35b0
               try clear c38
               try clear c39
               try clear c41
               try clear c41b0
               try clear c41b1
               try clear c42
               try clear c43
               try clear c45
               try clear c45b0
               try clear c45b1
               try clear c46
               try clear c47
               try clear c49
               try clear c49b0
               try clear c49b1
               try clear c50
               try clear c51
               try clear c53
               try clear c54
               try clear hcz12_0 hcz12_1 hcz12_2 hcz12_3 hcz12_4 hfz12_0 hfz12_1 hfz12_2 hfz12_3 hfz12_4
               try clear hcz16_0 hcz16_1 hcz16_2 hcz16_3 hcz16_4 hfz16_0 hfz16_1 hfz16_2 hfz16_3 hfz16_4
               try clear hcz17_0 hcz17_1 hcz17_2 hcz17_3 hcz17_4 hfz17_0 hfz17_1 hfz17_2 hfz17_3 hfz17_4
               try clear hcz22_0 hcz22_1 hcz22_2 hcz22_3 hcz22_4 hfz22_0 hfz22_1 hfz22_2 hfz22_3 hfz22_4
               try clear hcz24_0 hcz24_1 hcz24_2 hcz24_3 hcz24_4 hfz24_0 hfz24_1 hfz24_2 hfz24_3 hfz24_4
               try clear hcz26_0 hcz26_1 hcz26_2 hcz26_3 hcz26_4 hfz26_0 hfz26_1 hfz26_2 hfz26_3 hfz26_4
               try clear hcz40_0 hcz40_1 hcz40_2 hcz40_3 hfz40_0 hfz40_1 hfz40_2 hfz40_3
               try clear hcz44_0 hcz44_1 hcz44_2 hcz44_3 hfz44_0 hfz44_1 hfz44_2 hfz44_3
               try clear hcz48_0 hcz48_1 hcz48_2 hcz48_3 hfz48_0 hfz48_1 hfz48_2 hfz48_3
               try clear hcz52_0 hcz52_1 hcz52_2 hcz52_3 hfz52_0 hfz52_1 hfz52_2 hfz52_3
               try clear hcz55_0 hcz55_1 hcz55_2 hcz55_3 hfz55_0 hfz55_1 hfz55_2 hfz55_3
               try clear p2
               obtain ⟨kq, x380000_35, x380001_35, x380002_35, x380003_35, HA, HJ35, BK359, BK367, BK379, HB⟩ := hcut
               as_aux_lemma =>
                cases kq with
                | zero => exact absurd HA.out (by simp [laws_FnVerdicts.j3])
                | succ kj35 =>
                 have H := HA.out
                 clear HA
                 simp only [laws_FnVerdicts.j3] at H
                 replace H := Option.bind_eq_some_iff.mp H
                 obtain ⟨⟨t380, t381, t382, t383, t384⟩, A560, H⟩ := H
                 replace H : ((impl_Recover.f kj35 t354 t355 t356 t357 t358 x380000_35 x380001_35 x380002_35 x380003_35).bind fun bt386 => (if t384 = true then (if bt386.2.2.2.2.2.2 = true then ((impl_Verdict.f kj35 t354 t380 t381 t382 t383).bind fun t394 => (if bt386.2.2.2.2.2.1 = t394 then (if bt386.2.2.2.2.2.1 = t368 then ((impl_CountFaults.f kj35 x380000_35 x380001_35 x380002_35 x380003_35).bind fun t395 => (if t395 = 1 then ((impl_DoorOk.f kj35 bt386.1 bt386.2.1 bt386.2.2.1 bt386.2.2.2.1 bt386.2.2.2.2.1).bind fun t396 => (if t396 = true then (laws_FnVerdicts.j4 kj35 t368 x8_3 bt386.2.2.2.2.2.1 (bt386.2.2.2.2.1 != t358) t354 t355 t356 t357 t358 bt386.1 bt386.2.1 bt386.2.2.1 bt386.2.2.2.1 bt386.2.2.2.2.1) else (laws_FnVerdicts.j4 kj35 t368 x8_3 bt386.2.2.2.2.2.1 true t354 t355 t356 t357 t358 bt386.1 bt386.2.1 bt386.2.2.1 bt386.2.2.2.1 bt386.2.2.2.2.1))) else (laws_FnVerdicts.j4 kj35 t368 x8_3 bt386.2.2.2.2.2.1 true t354 t355 t356 t357 t358 bt386.1 bt386.2.1 bt386.2.2.1 bt386.2.2.2.1 bt386.2.2.2.2.1))) else (if bt386.2.2.2.2.2.1 = 1 then ((impl_CountFaults.f kj35 x380000_35 x380001_35 x380002_35 x380003_35).bind fun t397 => (if t397 = 1 then ((impl_DoorOk.f kj35 bt386.1 bt386.2.1 bt386.2.2.1 bt386.2.2.2.1 bt386.2.2.2.2.1).bind fun t398 => (if t398 = true then (laws_FnVerdicts.j4 kj35 t368 x8_3 bt386.2.2.2.2.2.1 (bt386.2.2.2.2.1 != t358) t354 t355 t356 t357 t358 bt386.1 bt386.2.1 bt386.2.2.1 bt386.2.2.2.1 bt386.2.2.2.2.1) else (laws_FnVerdicts.j4 kj35 t368 x8_3 bt386.2.2.2.2.2.1 true t354 t355 t356 t357 t358 bt386.1 bt386.2.1 bt386.2.2.1 bt386.2.2.2.1 bt386.2.2.2.2.1))) else (laws_FnVerdicts.j4 kj35 t368 x8_3 bt386.2.2.2.2.2.1 true t354 t355 t356 t357 t358 bt386.1 bt386.2.1 bt386.2.2.1 bt386.2.2.2.1 bt386.2.2.2.2.1))) else (laws_FnVerdicts.j4 kj35 t368 x8_3 bt386.2.2.2.2.2.1 true t354 t355 t356 t357 t358 bt386.1 bt386.2.1 bt386.2.2.1 bt386.2.2.2.1 bt386.2.2.2.2.1))) else (laws_FnVerdicts.j4 kj35 t368 x8_3 bt386.2.2.2.2.2.1 true t354 t355 t356 t357 t358 bt386.1 bt386.2.1 bt386.2.2.1 bt386.2.2.2.1 bt386.2.2.2.2.1))) else (laws_FnVerdicts.j4 kj35 t368 x8_3 bt386.2.2.2.2.2.1 true t354 t355 t356 t357 t358 bt386.1 bt386.2.1 bt386.2.2.1 bt386.2.2.2.1 bt386.2.2.2.2.1)) else (laws_FnVerdicts.j4 kj35 t368 x8_3 bt386.2.2.2.2.2.1 true t354 t355 t356 t357 t358 bt386.1 bt386.2.1 bt386.2.2.1 bt386.2.2.2.1 bt386.2.2.2.2.1))) = some r := H
                 have A56 := aM A560
                 clear A560
                 replace H := Option.bind_eq_some_iff.mp H
                 obtain ⟨⟨t386, t387, t388, t389, t390, t391, t392⟩, A570, H⟩ := H
                 replace H : (if t384 = true then (if t392 = true then ((impl_Verdict.f kj35 t354 t380 t381 t382 t383).bind fun t394 => (if t391 = t394 then (if t391 = t368 then ((impl_CountFaults.f kj35 x380000_35 x380001_35 x380002_35 x380003_35).bind fun t395 => (if t395 = 1 then ((impl_DoorOk.f kj35 t386 t387 t388 t389 t390).bind fun t396 => (if t396 = true then (laws_FnVerdicts.j4 kj35 t368 x8_3 t391 (t390 != t358) t354 t355 t356 t357 t358 t386 t387 t388 t389 t390) else (laws_FnVerdicts.j4 kj35 t368 x8_3 t391 true t354 t355 t356 t357 t358 t386 t387 t388 t389 t390))) else (laws_FnVerdicts.j4 kj35 t368 x8_3 t391 true t354 t355 t356 t357 t358 t386 t387 t388 t389 t390))) else (if t391 = 1 then ((impl_CountFaults.f kj35 x380000_35 x380001_35 x380002_35 x380003_35).bind fun t397 => (if t397 = 1 then ((impl_DoorOk.f kj35 t386 t387 t388 t389 t390).bind fun t398 => (if t398 = true then (laws_FnVerdicts.j4 kj35 t368 x8_3 t391 (t390 != t358) t354 t355 t356 t357 t358 t386 t387 t388 t389 t390) else (laws_FnVerdicts.j4 kj35 t368 x8_3 t391 true t354 t355 t356 t357 t358 t386 t387 t388 t389 t390))) else (laws_FnVerdicts.j4 kj35 t368 x8_3 t391 true t354 t355 t356 t357 t358 t386 t387 t388 t389 t390))) else (laws_FnVerdicts.j4 kj35 t368 x8_3 t391 true t354 t355 t356 t357 t358 t386 t387 t388 t389 t390))) else (laws_FnVerdicts.j4 kj35 t368 x8_3 t391 true t354 t355 t356 t357 t358 t386 t387 t388 t389 t390))) else (laws_FnVerdicts.j4 kj35 t368 x8_3 t391 true t354 t355 t356 t357 t358 t386 t387 t388 t389 t390)) else (laws_FnVerdicts.j4 kj35 t368 x8_3 t391 true t354 t355 t356 t357 t358 t386 t387 t388 t389 t390)) = some r := H
                 have A57 := aM A570
                 clear A570
                 have HC58 := aM H
                 clear H
                 have hnb59 := NB359_367.out
                 have hnc59 := NB367_359.out
                 have hnb60 := NB359_379.out
                 have hnc60 := NB379_359.out
                 obtain ⟨hcz61_0, hcz61_1, hcz61_2, hcz61_3, hcz61_4, hfz61_0, hfz61_1, hfz61_2, hfz61_3, hfz61_4⟩ := cells5 BK359.out
                 have hnb62 := NB379_367.out
                 have hnc62 := NB367_379.out
                 obtain ⟨hcz63_0, hcz63_1, hcz63_2, hcz63_3, hfz63_0, hfz63_1, hfz63_2, hfz63_3⟩ := cells4 BK379.out
                 go_upto_region 26 with (first | ((with_reducible refine gate_callee (f := 36) rfl ?_); refine goesL_ (some 96) rfl rfl Try.func36 (by kernel_rfl) rfl #[.agg #[.int .i64 t354, .int .i64 t355, .bool t356, .bool t357, .bool t358], .agg #[.int .i64 x380000_35, .int .i64 x380001_35, .int .i64 x380002_35, .int .i64 x380003_35]] rfl za ?_; (with_reducible refine (impl_SignsOf.calls kj35 t354 t355 t356 t357 t358 x380000_35 x380001_35 x380002_35 x380003_35 t380 t381 t382 t383 t384 _ A56.out).mono ?_); rintro e w64 ⟨rfl, hb⟩; refine ⟨_, rfl, ?_⟩; have n0_ := aM (bb BK359.out hb); have n1_ := aM (bb BK367.out hb); have n2_ := aM (bb BK379.out hb); have n3_ := aM (below_step (zb) hb); clear BK359; clear BK367; clear BK379; clear HB; have BK359 := n0_; have BK367 := n1_; have BK379 := n2_; have HB := n3_; clear n0_ n1_ n2_ n3_; (try clear hb); (try clear hb2); (try clear hk); (try clear hi)) | ((with_reducible refine gate_dst (N := 10) rfl ?_); refine box_event ?hg (N := 10) ?hd (cs := #[.bool false, .bool false, .bool false, .bool false]) (t := 50) ?hr ?_; (case hd => rfl); (case hg => rfl); (case hr => exact zg); intro gb385 hg w65 hbox hb; have n0_ := aM (bb BK359.out hb); have n1_ := aM (bb BK367.out hb); have n2_ := aM (bb BK379.out hb); have n3_ := aM (below_step (zb) hb); have n4_ := aM (hbox); have n5_ := aM ((by rw [hg]; exact (below_size (zb)) : w.heap.size ≤ gb385)); have n6_ := aM ((by rw [hg]; exact (below_size (zb)) : w.heap.size ≤ gb385)); have n7_ := aM ((by rw [hg]; exact Nat.ne_of_lt (nl BK359.out) : gb359 ≠ gb385)); have n8_ := aM ((by rw [hg]; exact Nat.ne_of_gt (nl BK359.out) : gb385 ≠ gb359)); have n9_ := aM ((by rw [hg]; exact Nat.ne_of_lt (nl BK367.out) : gb367 ≠ gb385)); have n10_ := aM ((by rw [hg]; exact Nat.ne_of_gt (nl BK367.out) : gb385 ≠ gb367)); have n11_ := aM ((by rw [hg]; exact Nat.ne_of_lt (nl BK379.out) : gb379 ≠ gb385)); have n12_ := aM ((by rw [hg]; exact Nat.ne_of_gt (nl BK379.out) : gb385 ≠ gb379)); clear BK359; clear BK367; clear BK379; clear HB; have BK359 := n0_; have BK367 := n1_; have BK379 := n2_; have HB := n3_; have BK385 := n4_; have GW385 := n5_; have GE385 := n6_; have NB359_385 := n7_; have NB385_359 := n8_; have NB367_385 := n9_; have NB385_367 := n10_; have NB379_385 := n11_; have NB385_379 := n12_; clear n0_ n1_ n2_ n3_ n4_ n5_ n6_ n7_ n8_ n9_ n10_ n11_ n12_; clear hb hbox hg; have hnb66 := NB385_359.out; have hnc66 := NB359_385.out; have hnb67 := NB385_367.out; have hnc67 := NB367_385.out; have hnb68 := NB385_379.out; have hnc68 := NB379_385.out; obtain ⟨hcz69_0, hcz69_1, hcz69_2, hcz69_3, hfz69_0, hfz69_1, hfz69_2, hfz69_3⟩ := cells4 BK385.out; obtain ⟨hcz70_0, hcz70_1, hcz70_2, hcz70_3, hcz70_4, hfz70_0, hfz70_1, hfz70_2, hfz70_3, hfz70_4⟩ := cells5 BK359.out; obtain ⟨hcz71_0, hcz71_1, hcz71_2, hcz71_3, hfz71_0, hfz71_1, hfz71_2, hfz71_3⟩ := cells4 BK379.out) | ((with_reducible refine gate_callee (f := 25) rfl ?_); refine goesL_ (some 102) rfl rfl Try.func25 (by kernel_rfl) rfl #[.agg #[.int .i64 t354, .int .i64 t355, .bool t356, .bool t357, .bool t358], .agg #[.int .i64 x380000_35, .int .i64 x380001_35, .int .i64 x380002_35, .int .i64 x380003_35]] rfl za ?_; (with_reducible refine (impl_Recover.calls kj35 t354 t355 t356 t357 t358 x380000_35 x380001_35 x380002_35 x380003_35 t386 t387 t388 t389 t390 t391 t392 _ A57.out).mono ?_); rintro e w72 ⟨rfl, hb⟩; refine ⟨_, rfl, ?_⟩; have n0_ := aM (blk_below (g := gb359) (o := .cells #[.int .i64 t354, .int .i64 t355, .bool t356, .bool t357, .bool t358] 24 (0, 0)) (by refine pq ?_; refine blk_far ?_ NB359_385.out _; refine pq ?_; refine blk_far ?_ NB359_385.out _; refine pq ?_; refine blk_far ?_ NB359_385.out _; refine pq ?_; refine blk_far ?_ NB359_385.out _; refine pq ?_; exact BK359.out) hb); have n1_ := aM (blk_below (g := gb367) (o := .cells #[.int .i64 t360, .int .i64 t361, .bool t362, .bool t363, .bool t364] 24 (0, 0)) (by refine pq ?_; refine blk_far ?_ NB367_385.out _; refine pq ?_; refine blk_far ?_ NB367_385.out _; refine pq ?_; refine blk_far ?_ NB367_385.out _; refine pq ?_; refine blk_far ?_ NB367_385.out _; refine pq ?_; exact BK367.out) hb); have n2_ := aM (blk_below (g := gb379) (o := .cells #[.int .i64 x380000_35, .int .i64 x380001_35, .int .i64 x380002_35, .int .i64 x380003_35] 37 (0, 0)) (by refine pq ?_; refine blk_far ?_ NB379_385.out _; refine pq ?_; refine blk_far ?_ NB379_385.out _; refine pq ?_; refine blk_far ?_ NB379_385.out _; refine pq ?_; refine blk_far ?_ NB379_385.out _; refine pq ?_; exact BK379.out) hb); have n3_ := aM (blk_below (g := gb385) (o := .cells #[.bool t380, .bool t381, .bool t382, .bool t383] 50 (0, 0)) (by refine pq ?_; refine blk_put (cs := #[.bool t380, .bool t381, .bool t382, .bool false]) ?_ 3 _ rfl; refine pq ?_; refine blk_put (cs := #[.bool t380, .bool t381, .bool false, .bool false]) ?_ 2 _ rfl; refine pq ?_; refine blk_put (cs := #[.bool t380, .bool false, .bool false, .bool false]) ?_ 1 _ rfl; refine pq ?_; refine blk_put (cs := #[.bool false, .bool false, .bool false, .bool false]) ?_ 0 _ rfl; refine pq ?_; exact BK385.out) hb); have n4_ := aM (below_step (zb) hb); clear BK359; clear BK367; clear BK379; clear BK385; clear HB; have BK359 := n0_; have BK367 := n1_; have BK379 := n2_; have BK385 := n3_; have HB := n4_; clear n0_ n1_ n2_ n3_ n4_; (try clear hb); (try clear hb2); (try clear hk); (try clear hi)) | ((with_reducible refine gate_dst (N := 12) rfl ?_); refine box_event ?hg (N := 12) ?hd (cs := #[.int .i64 0, .int .i64 0, .bool false, .bool false, .bool false]) (t := 24) ?hr ?_; (case hd => rfl); (case hg => rfl); (case hr => exact zg); intro gb393 hg w73 hbox hb; have n0_ := aM (bb BK359.out hb); have n1_ := aM (bb BK367.out hb); have n2_ := aM (bb BK379.out hb); have n3_ := aM (bb BK385.out hb); have n4_ := aM (below_step (zb) hb); have n5_ := aM (hbox); have n6_ := aM ((by rw [hg]; exact (below_size (zb)) : w.heap.size ≤ gb393)); have n7_ := aM ((by rw [hg]; exact (below_size (zb)) : w.heap.size ≤ gb393)); have n8_ := aM ((by rw [hg]; exact Nat.ne_of_lt (nl BK359.out) : gb359 ≠ gb393)); have n9_ := aM ((by rw [hg]; exact Nat.ne_of_gt (nl BK359.out) : gb393 ≠ gb359)); have n10_ := aM ((by rw [hg]; exact Nat.ne_of_lt (nl BK367.out) : gb367 ≠ gb393)); have n11_ := aM ((by rw [hg]; exact Nat.ne_of_gt (nl BK367.out) : gb393 ≠ gb367)); have n12_ := aM ((by rw [hg]; exact Nat.ne_of_lt (nl BK379.out) : gb379 ≠ gb393)); have n13_ := aM ((by rw [hg]; exact Nat.ne_of_gt (nl BK379.out) : gb393 ≠ gb379)); have n14_ := aM ((by rw [hg]; exact Nat.ne_of_lt (nl BK385.out) : gb385 ≠ gb393)); have n15_ := aM ((by rw [hg]; exact Nat.ne_of_gt (nl BK385.out) : gb393 ≠ gb385)); clear BK359; clear BK367; clear BK379; clear BK385; clear HB; have BK359 := n0_; have BK367 := n1_; have BK379 := n2_; have BK385 := n3_; have HB := n4_; have BK393 := n5_; have GW393 := n6_; have GE393 := n7_; have NB359_393 := n8_; have NB393_359 := n9_; have NB367_393 := n10_; have NB393_367 := n11_; have NB379_393 := n12_; have NB393_379 := n13_; have NB385_393 := n14_; have NB393_385 := n15_; clear n0_ n1_ n2_ n3_ n4_ n5_ n6_ n7_ n8_ n9_ n10_ n11_ n12_ n13_ n14_ n15_; clear hb hbox hg; have hnb74 := NB393_359.out; have hnc74 := NB359_393.out; have hnb75 := NB393_367.out; have hnc75 := NB367_393.out; have hnb76 := NB393_379.out; have hnc76 := NB379_393.out; have hnb77 := NB393_385.out; have hnc77 := NB385_393.out; obtain ⟨hcz78_0, hcz78_1, hcz78_2, hcz78_3, hcz78_4, hfz78_0, hfz78_1, hfz78_2, hfz78_3, hfz78_4⟩ := cells5 BK393.out))
                 (try simp only [Act.put, List.setIfInBounds_toArray, List.set_cons_zero, List.set_cons_succ])
                 go_cut [145] (fun v145 wc => ∃ (kq : Nat) (x145_57 : Bool), v145 = .bool x145_57 ∧ Aside0 (laws_FnVerdicts.j4 kq t368 x8_3 t391 x145_57 t354 t355 t356 t357 t358 t386 t387 t388 t389 t390 = some r) ∧ Aside0 (kq ≤ kj35) ∧ Aside0 (wc.heap[gb359]? = some (.cells #[.int .i64 t354, .int .i64 t355, .bool t356, .bool t357, .bool t358] 24 (0, 0))) ∧ Aside0 (wc.heap[gb367]? = some (.cells #[.int .i64 t360, .int .i64 t361, .bool t362, .bool t363, .bool t364] 24 (0, 0))) ∧ Aside0 (wc.heap[gb379]? = some (.cells #[.int .i64 x380000_35, .int .i64 x380001_35, .int .i64 x380002_35, .int .i64 x380003_35] 37 (0, 0))) ∧ Aside0 (wc.heap[gb385]? = some (.cells #[.bool t380, .bool t381, .bool t382, .bool t383] 50 (0, 0))) ∧ Aside0 (wc.heap[gb393]? = some (.cells #[.int .i64 t386, .int .i64 t387, .bool t388, .bool t389, .bool t390] 24 (0, 0))) ∧ Aside0 (Below w.heap.size w wc))
                 case first =>
                  have H := HC58.out
                  clear HC58
                  by_cases c79 : t384 = true
                  ·subst c79
                   have H1 : (if t392 = true then ((impl_Verdict.f kj35 t354 t380 t381 t382 t383).bind fun t394 => (if t391 = t394 then (if t391 = t368 then ((impl_CountFaults.f kj35 x380000_35 x380001_35 x380002_35 x380003_35).bind fun t395 => (if t395 = 1 then ((impl_DoorOk.f kj35 t386 t387 t388 t389 t390).bind fun t396 => (if t396 = true then (laws_FnVerdicts.j4 kj35 t368 x8_3 t391 (t390 != t358) t354 t355 t356 t357 t358 t386 t387 t388 t389 t390) else (laws_FnVerdicts.j4 kj35 t368 x8_3 t391 true t354 t355 t356 t357 t358 t386 t387 t388 t389 t390))) else (laws_FnVerdicts.j4 kj35 t368 x8_3 t391 true t354 t355 t356 t357 t358 t386 t387 t388 t389 t390))) else (if t391 = 1 then ((impl_CountFaults.f kj35 x380000_35 x380001_35 x380002_35 x380003_35).bind fun t397 => (if t397 = 1 then ((impl_DoorOk.f kj35 t386 t387 t388 t389 t390).bind fun t398 => (if t398 = true then (laws_FnVerdicts.j4 kj35 t368 x8_3 t391 (t390 != t358) t354 t355 t356 t357 t358 t386 t387 t388 t389 t390) else (laws_FnVerdicts.j4 kj35 t368 x8_3 t391 true t354 t355 t356 t357 t358 t386 t387 t388 t389 t390))) else (laws_FnVerdicts.j4 kj35 t368 x8_3 t391 true t354 t355 t356 t357 t358 t386 t387 t388 t389 t390))) else (laws_FnVerdicts.j4 kj35 t368 x8_3 t391 true t354 t355 t356 t357 t358 t386 t387 t388 t389 t390))) else (laws_FnVerdicts.j4 kj35 t368 x8_3 t391 true t354 t355 t356 t357 t358 t386 t387 t388 t389 t390))) else (laws_FnVerdicts.j4 kj35 t368 x8_3 t391 true t354 t355 t356 t357 t358 t386 t387 t388 t389 t390)) = some r := by rw [if_pos rfl] at H; exact H
                   clear H
                   have H := H1
                   clear H1
                   by_cases c80 : t392 = true
                   ·subst c80
                    have H1 : ((impl_Verdict.f kj35 t354 t380 t381 t382 t383).bind fun t394 => (if t391 = t394 then (if t391 = t368 then ((impl_CountFaults.f kj35 x380000_35 x380001_35 x380002_35 x380003_35).bind fun t395 => (if t395 = 1 then ((impl_DoorOk.f kj35 t386 t387 t388 t389 t390).bind fun t396 => (if t396 = true then (laws_FnVerdicts.j4 kj35 t368 x8_3 t391 (t390 != t358) t354 t355 t356 t357 t358 t386 t387 t388 t389 t390) else (laws_FnVerdicts.j4 kj35 t368 x8_3 t391 true t354 t355 t356 t357 t358 t386 t387 t388 t389 t390))) else (laws_FnVerdicts.j4 kj35 t368 x8_3 t391 true t354 t355 t356 t357 t358 t386 t387 t388 t389 t390))) else (if t391 = 1 then ((impl_CountFaults.f kj35 x380000_35 x380001_35 x380002_35 x380003_35).bind fun t397 => (if t397 = 1 then ((impl_DoorOk.f kj35 t386 t387 t388 t389 t390).bind fun t398 => (if t398 = true then (laws_FnVerdicts.j4 kj35 t368 x8_3 t391 (t390 != t358) t354 t355 t356 t357 t358 t386 t387 t388 t389 t390) else (laws_FnVerdicts.j4 kj35 t368 x8_3 t391 true t354 t355 t356 t357 t358 t386 t387 t388 t389 t390))) else (laws_FnVerdicts.j4 kj35 t368 x8_3 t391 true t354 t355 t356 t357 t358 t386 t387 t388 t389 t390))) else (laws_FnVerdicts.j4 kj35 t368 x8_3 t391 true t354 t355 t356 t357 t358 t386 t387 t388 t389 t390))) else (laws_FnVerdicts.j4 kj35 t368 x8_3 t391 true t354 t355 t356 t357 t358 t386 t387 t388 t389 t390))) = some r := by rw [if_pos rfl] at H; exact H
                    clear H
                    have H := H1
                    clear H1
                    replace H := Option.bind_eq_some_iff.mp H
                    obtain ⟨t394, A810, H⟩ := H
                    replace H : (if t391 = t394 then (if t391 = t368 then ((impl_CountFaults.f kj35 x380000_35 x380001_35 x380002_35 x380003_35).bind fun t395 => (if t395 = 1 then ((impl_DoorOk.f kj35 t386 t387 t388 t389 t390).bind fun t396 => (if t396 = true then (laws_FnVerdicts.j4 kj35 t368 x8_3 t391 (t390 != t358) t354 t355 t356 t357 t358 t386 t387 t388 t389 t390) else (laws_FnVerdicts.j4 kj35 t368 x8_3 t391 true t354 t355 t356 t357 t358 t386 t387 t388 t389 t390))) else (laws_FnVerdicts.j4 kj35 t368 x8_3 t391 true t354 t355 t356 t357 t358 t386 t387 t388 t389 t390))) else (if t391 = 1 then ((impl_CountFaults.f kj35 x380000_35 x380001_35 x380002_35 x380003_35).bind fun t397 => (if t397 = 1 then ((impl_DoorOk.f kj35 t386 t387 t388 t389 t390).bind fun t398 => (if t398 = true then (laws_FnVerdicts.j4 kj35 t368 x8_3 t391 (t390 != t358) t354 t355 t356 t357 t358 t386 t387 t388 t389 t390) else (laws_FnVerdicts.j4 kj35 t368 x8_3 t391 true t354 t355 t356 t357 t358 t386 t387 t388 t389 t390))) else (laws_FnVerdicts.j4 kj35 t368 x8_3 t391 true t354 t355 t356 t357 t358 t386 t387 t388 t389 t390))) else (laws_FnVerdicts.j4 kj35 t368 x8_3 t391 true t354 t355 t356 t357 t358 t386 t387 t388 t389 t390))) else (laws_FnVerdicts.j4 kj35 t368 x8_3 t391 true t354 t355 t356 t357 t358 t386 t387 t388 t389 t390)) = some r := H
                    have A81 := aM A810
                    clear A810
                    by_cases c82 : t391 = t394
                    ·rw [if_pos c82] at H
                     have c82b0 : (t391 == t394) = true := beq_iff_eq.mpr c82
                     have c82b1 : (t391 != t394) = false := bne_eq_false_iff_eq.mpr c82
                     clear c82
                     (first | rw [c82b0] | (simp only [i64_w, i32_w]; rw [c82b0]) | skip)
                     by_cases c83 : t391 = t368
                     ·rw [if_pos c83] at H
                      have c83b0 : (t391 == t368) = true := beq_iff_eq.mpr c83
                      have c83b1 : (t391 != t368) = false := bne_eq_false_iff_eq.mpr c83
                      clear c83
                      replace H := Option.bind_eq_some_iff.mp H
                      obtain ⟨t395, A840, H⟩ := H
                      replace H : (if t395 = 1 then ((impl_DoorOk.f kj35 t386 t387 t388 t389 t390).bind fun t396 => (if t396 = true then (laws_FnVerdicts.j4 kj35 t368 x8_3 t391 (t390 != t358) t354 t355 t356 t357 t358 t386 t387 t388 t389 t390) else (laws_FnVerdicts.j4 kj35 t368 x8_3 t391 true t354 t355 t356 t357 t358 t386 t387 t388 t389 t390))) else (laws_FnVerdicts.j4 kj35 t368 x8_3 t391 true t354 t355 t356 t357 t358 t386 t387 t388 t389 t390)) = some r := H
                      have A84 := aM A840
                      clear A840
                      by_cases c85 : t395 = 1
                      ·rw [if_pos c85] at H
                       have c85b0 : (t395 == 1) = true := beq_iff_eq.mpr c85
                       have c85b1 : (t395 != 1) = false := bne_eq_false_iff_eq.mpr c85
                       clear c85
                       replace H := Option.bind_eq_some_iff.mp H
                       obtain ⟨t396, A860, H⟩ := H
                       replace H : (if t396 = true then (laws_FnVerdicts.j4 kj35 t368 x8_3 t391 (t390 != t358) t354 t355 t356 t357 t358 t386 t387 t388 t389 t390) else (laws_FnVerdicts.j4 kj35 t368 x8_3 t391 true t354 t355 t356 t357 t358 t386 t387 t388 t389 t390)) = some r := H
                       have A86 := aM A860
                       clear A860
                       by_cases c87 : t396 = true
                       ·subst c87
                        have H1 : (laws_FnVerdicts.j4 kj35 t368 x8_3 t391 (t390 != t358) t354 t355 t356 t357 t358 t386 t387 t388 t389 t390) = some r := by rw [if_pos rfl] at H; exact H
                        clear H
                        have H := H1
                        clear H1
                        have H' := aM H
                        clear H
                        have hnb88 := NB359_367.out
                        have hnc88 := NB367_359.out
                        have hnb89 := NB359_379.out
                        have hnc89 := NB379_359.out
                        have hnb90 := NB359_385.out
                        have hnc90 := NB385_359.out
                        have hnb91 := NB359_393.out
                        have hnc91 := NB393_359.out
                        obtain ⟨hcz92_0, hcz92_1, hcz92_2, hcz92_3, hcz92_4, hfz92_0, hfz92_1, hfz92_2, hfz92_3, hfz92_4⟩ := cells5 BK359.out
                        have hnb93 := NB385_367.out
                        have hnc93 := NB367_385.out
                        have hnb94 := NB385_379.out
                        have hnc94 := NB379_385.out
                        have hnb95 := NB385_393.out
                        have hnc95 := NB393_385.out
                        obtain ⟨hcz96_0, hcz96_1, hcz96_2, hcz96_3, hfz96_0, hfz96_1, hfz96_2, hfz96_3⟩ := cells4 BK385.out
                        go_wp2_with (first | (go_at_call 37; (with_reducible refine (impl_Verdict.calls kj35 t354 t380 t381 t382 t383 t394 _ A81.out).mono ?_); rintro e w97 ⟨rfl, hb⟩; have n0_ := aM (blk_below (g := gb359) (o := .cells #[.int .i64 t354, .int .i64 t355, .bool t356, .bool t357, .bool t358] 24 (0, 0)) (by refine pq ?_; refine blk_far ?_ NB359_393.out _; refine pq ?_; refine blk_far ?_ NB359_393.out _; refine pq ?_; refine blk_far ?_ NB359_393.out _; refine pq ?_; refine blk_far ?_ NB359_393.out _; refine pq ?_; refine blk_far ?_ NB359_393.out _; refine pq ?_; exact BK359.out) hb); have n1_ := aM (blk_below (g := gb367) (o := .cells #[.int .i64 t360, .int .i64 t361, .bool t362, .bool t363, .bool t364] 24 (0, 0)) (by refine pq ?_; refine blk_far ?_ NB367_393.out _; refine pq ?_; refine blk_far ?_ NB367_393.out _; refine pq ?_; refine blk_far ?_ NB367_393.out _; refine pq ?_; refine blk_far ?_ NB367_393.out _; refine pq ?_; refine blk_far ?_ NB367_393.out _; refine pq ?_; exact BK367.out) hb); have n2_ := aM (blk_below (g := gb379) (o := .cells #[.int .i64 x380000_35, .int .i64 x380001_35, .int .i64 x380002_35, .int .i64 x380003_35] 37 (0, 0)) (by refine pq ?_; refine blk_far ?_ NB379_393.out _; refine pq ?_; refine blk_far ?_ NB379_393.out _; refine pq ?_; refine blk_far ?_ NB379_393.out _; refine pq ?_; refine blk_far ?_ NB379_393.out _; refine pq ?_; refine blk_far ?_ NB379_393.out _; refine pq ?_; exact BK379.out) hb); have n3_ := aM (blk_below (g := gb385) (o := .cells #[.bool t380, .bool t381, .bool t382, .bool t383] 50 (0, 0)) (by refine pq ?_; refine blk_far ?_ NB385_393.out _; refine pq ?_; refine blk_far ?_ NB385_393.out _; refine pq ?_; refine blk_far ?_ NB385_393.out _; refine pq ?_; refine blk_far ?_ NB385_393.out _; refine pq ?_; refine blk_far ?_ NB385_393.out _; refine pq ?_; exact BK385.out) hb); have n4_ := aM (blk_below (g := gb393) (o := .cells #[.int .i64 t386, .int .i64 t387, .bool t388, .bool t389, .bool t390] 24 (0, 0)) (by refine pq ?_; refine blk_put (cs := #[.int .i64 t386, .int .i64 t387, .bool t388, .bool t389, .bool false]) ?_ 4 _ rfl; refine pq ?_; refine blk_put (cs := #[.int .i64 t386, .int .i64 t387, .bool t388, .bool false, .bool false]) ?_ 3 _ rfl; refine pq ?_; refine blk_put (cs := #[.int .i64 t386, .int .i64 t387, .bool false, .bool false, .bool false]) ?_ 2 _ rfl; refine pq ?_; refine blk_put (cs := #[.int .i64 t386, .int .i64 0, .bool false, .bool false, .bool false]) ?_ 1 _ rfl; refine pq ?_; refine blk_put (cs := #[.int .i64 0, .int .i64 0, .bool false, .bool false, .bool false]) ?_ 0 _ rfl; refine pq ?_; exact BK393.out) hb); have n5_ := aM (below_step (zb) hb); clear BK359; clear BK367; clear BK379; clear BK385; clear BK393; clear HB; have BK359 := n0_; have BK367 := n1_; have BK379 := n2_; have BK385 := n3_; have BK393 := n4_; have HB := n5_; clear n0_ n1_ n2_ n3_ n4_ n5_; (try clear hb); (try clear hb2); (try clear hk); (try clear hi); have hnb98 := NB379_367.out; have hnc98 := NB367_379.out; have hnb99 := NB379_393.out; have hnc99 := NB393_379.out; obtain ⟨hcz100_0, hcz100_1, hcz100_2, hcz100_3, hfz100_0, hfz100_1, hfz100_2, hfz100_3⟩ := cells4 BK379.out) | (go_at_call 38; (with_reducible refine (impl_CountFaults.calls kj35 x380000_35 x380001_35 x380002_35 x380003_35 t395 _ A84.out).mono ?_); rintro e w101 ⟨rfl, hb⟩; have n0_ := aM (bb BK359.out hb); have n1_ := aM (bb BK367.out hb); have n2_ := aM (bb BK379.out hb); have n3_ := aM (bb BK385.out hb); have n4_ := aM (bb BK393.out hb); have n5_ := aM (below_step (zb) hb); clear BK359; clear BK367; clear BK379; clear BK385; clear BK393; clear HB; have BK359 := n0_; have BK367 := n1_; have BK379 := n2_; have BK385 := n3_; have BK393 := n4_; have HB := n5_; clear n0_ n1_ n2_ n3_ n4_ n5_; (try clear hb); (try clear hb2); (try clear hk); (try clear hi); have hnb102 := NB393_367.out; have hnc102 := NB367_393.out; obtain ⟨hcz103_0, hcz103_1, hcz103_2, hcz103_3, hcz103_4, hfz103_0, hfz103_1, hfz103_2, hfz103_3, hfz103_4⟩ := cells5 BK393.out) | (go_at_call 30; (with_reducible refine (impl_DoorOk.calls kj35 t386 t387 t388 t389 t390 true _ A86.out).mono ?_); rintro e w104 ⟨rfl, hb⟩; have n0_ := aM (bb BK359.out hb); have n1_ := aM (bb BK367.out hb); have n2_ := aM (bb BK379.out hb); have n3_ := aM (bb BK385.out hb); have n4_ := aM (bb BK393.out hb); have n5_ := aM (below_step (zb) hb); clear BK359; clear BK367; clear BK379; clear BK385; clear BK393; clear HB; have BK359 := n0_; have BK367 := n1_; have BK379 := n2_; have BK385 := n3_; have BK393 := n4_; have HB := n5_; clear n0_ n1_ n2_ n3_ n4_ n5_; (try clear hb); (try clear hb2); (try clear hk); (try clear hi); obtain ⟨hcz105_0, hcz105_1, hcz105_2, hcz105_3, hcz105_4, hfz105_0, hfz105_1, hfz105_2, hfz105_3, hfz105_4⟩ := cells5 BK393.out; obtain ⟨hcz106_0, hcz106_1, hcz106_2, hcz106_3, hcz106_4, hfz106_0, hfz106_1, hfz106_2, hfz106_3, hfz106_4⟩ := cells5 BK359.out))
                        go_meet
                        case rel => exact ⟨_, ((t390 != t358)), zs, H', ⟨by have := HJ7.out; have := HJ29.out; have := HK3.out; have := HJ35.out; first | omega | exact Nat.le_refl _⟩, ⟨by exact pk BK359.out⟩, ⟨by exact pk BK367.out⟩, ⟨by exact pk BK379.out⟩, ⟨by exact pk BK385.out⟩, ⟨by exact pk BK393.out⟩, ⟨zb⟩⟩
                       ·replace c87 := Bool.eq_false_iff.mpr c87
                        subst c87
                        have H1 : (laws_FnVerdicts.j4 kj35 t368 x8_3 t391 true t354 t355 t356 t357 t358 t386 t387 t388 t389 t390) = some r := by rw [if_neg (show ¬ (false = true) by decide)] at H; exact H
                        clear H
                        have H := H1
                        clear H1
                        have H' := aM H
                        clear H
                        have hnb107 := NB359_367.out
                        have hnc107 := NB367_359.out
                        have hnb108 := NB359_379.out
                        have hnc108 := NB379_359.out
                        have hnb109 := NB359_385.out
                        have hnc109 := NB385_359.out
                        have hnb110 := NB359_393.out
                        have hnc110 := NB393_359.out
                        obtain ⟨hcz111_0, hcz111_1, hcz111_2, hcz111_3, hcz111_4, hfz111_0, hfz111_1, hfz111_2, hfz111_3, hfz111_4⟩ := cells5 BK359.out
                        have hnb112 := NB385_367.out
                        have hnc112 := NB367_385.out
                        have hnb113 := NB385_379.out
                        have hnc113 := NB379_385.out
                        have hnb114 := NB385_393.out
                        have hnc114 := NB393_385.out
                        obtain ⟨hcz115_0, hcz115_1, hcz115_2, hcz115_3, hfz115_0, hfz115_1, hfz115_2, hfz115_3⟩ := cells4 BK385.out
                        go_wp2_with (first | (go_at_call 37; (with_reducible refine (impl_Verdict.calls kj35 t354 t380 t381 t382 t383 t394 _ A81.out).mono ?_); rintro e w116 ⟨rfl, hb⟩; have n0_ := aM (blk_below (g := gb359) (o := .cells #[.int .i64 t354, .int .i64 t355, .bool t356, .bool t357, .bool t358] 24 (0, 0)) (by refine pq ?_; refine blk_far ?_ NB359_393.out _; refine pq ?_; refine blk_far ?_ NB359_393.out _; refine pq ?_; refine blk_far ?_ NB359_393.out _; refine pq ?_; refine blk_far ?_ NB359_393.out _; refine pq ?_; refine blk_far ?_ NB359_393.out _; refine pq ?_; exact BK359.out) hb); have n1_ := aM (blk_below (g := gb367) (o := .cells #[.int .i64 t360, .int .i64 t361, .bool t362, .bool t363, .bool t364] 24 (0, 0)) (by refine pq ?_; refine blk_far ?_ NB367_393.out _; refine pq ?_; refine blk_far ?_ NB367_393.out _; refine pq ?_; refine blk_far ?_ NB367_393.out _; refine pq ?_; refine blk_far ?_ NB367_393.out _; refine pq ?_; refine blk_far ?_ NB367_393.out _; refine pq ?_; exact BK367.out) hb); have n2_ := aM (blk_below (g := gb379) (o := .cells #[.int .i64 x380000_35, .int .i64 x380001_35, .int .i64 x380002_35, .int .i64 x380003_35] 37 (0, 0)) (by refine pq ?_; refine blk_far ?_ NB379_393.out _; refine pq ?_; refine blk_far ?_ NB379_393.out _; refine pq ?_; refine blk_far ?_ NB379_393.out _; refine pq ?_; refine blk_far ?_ NB379_393.out _; refine pq ?_; refine blk_far ?_ NB379_393.out _; refine pq ?_; exact BK379.out) hb); have n3_ := aM (blk_below (g := gb385) (o := .cells #[.bool t380, .bool t381, .bool t382, .bool t383] 50 (0, 0)) (by refine pq ?_; refine blk_far ?_ NB385_393.out _; refine pq ?_; refine blk_far ?_ NB385_393.out _; refine pq ?_; refine blk_far ?_ NB385_393.out _; refine pq ?_; refine blk_far ?_ NB385_393.out _; refine pq ?_; refine blk_far ?_ NB385_393.out _; refine pq ?_; exact BK385.out) hb); have n4_ := aM (blk_below (g := gb393) (o := .cells #[.int .i64 t386, .int .i64 t387, .bool t388, .bool t389, .bool t390] 24 (0, 0)) (by refine pq ?_; refine blk_put (cs := #[.int .i64 t386, .int .i64 t387, .bool t388, .bool t389, .bool false]) ?_ 4 _ rfl; refine pq ?_; refine blk_put (cs := #[.int .i64 t386, .int .i64 t387, .bool t388, .bool false, .bool false]) ?_ 3 _ rfl; refine pq ?_; refine blk_put (cs := #[.int .i64 t386, .int .i64 t387, .bool false, .bool false, .bool false]) ?_ 2 _ rfl; refine pq ?_; refine blk_put (cs := #[.int .i64 t386, .int .i64 0, .bool false, .bool false, .bool false]) ?_ 1 _ rfl; refine pq ?_; refine blk_put (cs := #[.int .i64 0, .int .i64 0, .bool false, .bool false, .bool false]) ?_ 0 _ rfl; refine pq ?_; exact BK393.out) hb); have n5_ := aM (below_step (zb) hb); clear BK359; clear BK367; clear BK379; clear BK385; clear BK393; clear HB; have BK359 := n0_; have BK367 := n1_; have BK379 := n2_; have BK385 := n3_; have BK393 := n4_; have HB := n5_; clear n0_ n1_ n2_ n3_ n4_ n5_; (try clear hb); (try clear hb2); (try clear hk); (try clear hi); have hnb117 := NB379_367.out; have hnc117 := NB367_379.out; have hnb118 := NB379_393.out; have hnc118 := NB393_379.out; obtain ⟨hcz119_0, hcz119_1, hcz119_2, hcz119_3, hfz119_0, hfz119_1, hfz119_2, hfz119_3⟩ := cells4 BK379.out) | (go_at_call 38; (with_reducible refine (impl_CountFaults.calls kj35 x380000_35 x380001_35 x380002_35 x380003_35 t395 _ A84.out).mono ?_); rintro e w120 ⟨rfl, hb⟩; have n0_ := aM (bb BK359.out hb); have n1_ := aM (bb BK367.out hb); have n2_ := aM (bb BK379.out hb); have n3_ := aM (bb BK385.out hb); have n4_ := aM (bb BK393.out hb); have n5_ := aM (below_step (zb) hb); clear BK359; clear BK367; clear BK379; clear BK385; clear BK393; clear HB; have BK359 := n0_; have BK367 := n1_; have BK379 := n2_; have BK385 := n3_; have BK393 := n4_; have HB := n5_; clear n0_ n1_ n2_ n3_ n4_ n5_; (try clear hb); (try clear hb2); (try clear hk); (try clear hi); have hnb121 := NB393_367.out; have hnc121 := NB367_393.out; obtain ⟨hcz122_0, hcz122_1, hcz122_2, hcz122_3, hcz122_4, hfz122_0, hfz122_1, hfz122_2, hfz122_3, hfz122_4⟩ := cells5 BK393.out) | (go_at_call 30; (with_reducible refine (impl_DoorOk.calls kj35 t386 t387 t388 t389 t390 false _ A86.out).mono ?_); rintro e w123 ⟨rfl, hb⟩; have n0_ := aM (bb BK359.out hb); have n1_ := aM (bb BK367.out hb); have n2_ := aM (bb BK379.out hb); have n3_ := aM (bb BK385.out hb); have n4_ := aM (bb BK393.out hb); have n5_ := aM (below_step (zb) hb); clear BK359; clear BK367; clear BK379; clear BK385; clear BK393; clear HB; have BK359 := n0_; have BK367 := n1_; have BK379 := n2_; have BK385 := n3_; have BK393 := n4_; have HB := n5_; clear n0_ n1_ n2_ n3_ n4_ n5_; (try clear hb); (try clear hb2); (try clear hk); (try clear hi)))
                        go_meet
                        case rel => exact ⟨_, (true), zs, H', ⟨by have := HJ7.out; have := HJ29.out; have := HK3.out; have := HJ35.out; first | omega | exact Nat.le_refl _⟩, ⟨by exact pk BK359.out⟩, ⟨by exact pk BK367.out⟩, ⟨by exact pk BK379.out⟩, ⟨by exact pk BK385.out⟩, ⟨by exact pk BK393.out⟩, ⟨zb⟩⟩
                      ·rw [if_neg c85] at H
                       have c85b0 : (t395 == 1) = false := beq_eq_false_iff_ne.mpr c85
                       have c85b1 : (t395 != 1) = true := bne_iff_ne.mpr c85
                       have H' := aM H
                       clear H
                       have hnb124 := NB359_367.out
                       have hnc124 := NB367_359.out
                       have hnb125 := NB359_379.out
                       have hnc125 := NB379_359.out
                       have hnb126 := NB359_385.out
                       have hnc126 := NB385_359.out
                       have hnb127 := NB359_393.out
                       have hnc127 := NB393_359.out
                       obtain ⟨hcz128_0, hcz128_1, hcz128_2, hcz128_3, hcz128_4, hfz128_0, hfz128_1, hfz128_2, hfz128_3, hfz128_4⟩ := cells5 BK359.out
                       have hnb129 := NB385_367.out
                       have hnc129 := NB367_385.out
                       have hnb130 := NB385_379.out
                       have hnc130 := NB379_385.out
                       have hnb131 := NB385_393.out
                       have hnc131 := NB393_385.out
                       obtain ⟨hcz132_0, hcz132_1, hcz132_2, hcz132_3, hfz132_0, hfz132_1, hfz132_2, hfz132_3⟩ := cells4 BK385.out
                       go_wp2_with (first | (go_at_call 37; (with_reducible refine (impl_Verdict.calls kj35 t354 t380 t381 t382 t383 t394 _ A81.out).mono ?_); rintro e w133 ⟨rfl, hb⟩; have n0_ := aM (blk_below (g := gb359) (o := .cells #[.int .i64 t354, .int .i64 t355, .bool t356, .bool t357, .bool t358] 24 (0, 0)) (by refine pq ?_; refine blk_far ?_ NB359_393.out _; refine pq ?_; refine blk_far ?_ NB359_393.out _; refine pq ?_; refine blk_far ?_ NB359_393.out _; refine pq ?_; refine blk_far ?_ NB359_393.out _; refine pq ?_; refine blk_far ?_ NB359_393.out _; refine pq ?_; exact BK359.out) hb); have n1_ := aM (blk_below (g := gb367) (o := .cells #[.int .i64 t360, .int .i64 t361, .bool t362, .bool t363, .bool t364] 24 (0, 0)) (by refine pq ?_; refine blk_far ?_ NB367_393.out _; refine pq ?_; refine blk_far ?_ NB367_393.out _; refine pq ?_; refine blk_far ?_ NB367_393.out _; refine pq ?_; refine blk_far ?_ NB367_393.out _; refine pq ?_; refine blk_far ?_ NB367_393.out _; refine pq ?_; exact BK367.out) hb); have n2_ := aM (blk_below (g := gb379) (o := .cells #[.int .i64 x380000_35, .int .i64 x380001_35, .int .i64 x380002_35, .int .i64 x380003_35] 37 (0, 0)) (by refine pq ?_; refine blk_far ?_ NB379_393.out _; refine pq ?_; refine blk_far ?_ NB379_393.out _; refine pq ?_; refine blk_far ?_ NB379_393.out _; refine pq ?_; refine blk_far ?_ NB379_393.out _; refine pq ?_; refine blk_far ?_ NB379_393.out _; refine pq ?_; exact BK379.out) hb); have n3_ := aM (blk_below (g := gb385) (o := .cells #[.bool t380, .bool t381, .bool t382, .bool t383] 50 (0, 0)) (by refine pq ?_; refine blk_far ?_ NB385_393.out _; refine pq ?_; refine blk_far ?_ NB385_393.out _; refine pq ?_; refine blk_far ?_ NB385_393.out _; refine pq ?_; refine blk_far ?_ NB385_393.out _; refine pq ?_; refine blk_far ?_ NB385_393.out _; refine pq ?_; exact BK385.out) hb); have n4_ := aM (blk_below (g := gb393) (o := .cells #[.int .i64 t386, .int .i64 t387, .bool t388, .bool t389, .bool t390] 24 (0, 0)) (by refine pq ?_; refine blk_put (cs := #[.int .i64 t386, .int .i64 t387, .bool t388, .bool t389, .bool false]) ?_ 4 _ rfl; refine pq ?_; refine blk_put (cs := #[.int .i64 t386, .int .i64 t387, .bool t388, .bool false, .bool false]) ?_ 3 _ rfl; refine pq ?_; refine blk_put (cs := #[.int .i64 t386, .int .i64 t387, .bool false, .bool false, .bool false]) ?_ 2 _ rfl; refine pq ?_; refine blk_put (cs := #[.int .i64 t386, .int .i64 0, .bool false, .bool false, .bool false]) ?_ 1 _ rfl; refine pq ?_; refine blk_put (cs := #[.int .i64 0, .int .i64 0, .bool false, .bool false, .bool false]) ?_ 0 _ rfl; refine pq ?_; exact BK393.out) hb); have n5_ := aM (below_step (zb) hb); clear BK359; clear BK367; clear BK379; clear BK385; clear BK393; clear HB; have BK359 := n0_; have BK367 := n1_; have BK379 := n2_; have BK385 := n3_; have BK393 := n4_; have HB := n5_; clear n0_ n1_ n2_ n3_ n4_ n5_; (try clear hb); (try clear hb2); (try clear hk); (try clear hi); have hnb134 := NB379_367.out; have hnc134 := NB367_379.out; have hnb135 := NB379_393.out; have hnc135 := NB393_379.out; obtain ⟨hcz136_0, hcz136_1, hcz136_2, hcz136_3, hfz136_0, hfz136_1, hfz136_2, hfz136_3⟩ := cells4 BK379.out) | (go_at_call 38; (with_reducible refine (impl_CountFaults.calls kj35 x380000_35 x380001_35 x380002_35 x380003_35 t395 _ A84.out).mono ?_); rintro e w137 ⟨rfl, hb⟩; have n0_ := aM (bb BK359.out hb); have n1_ := aM (bb BK367.out hb); have n2_ := aM (bb BK379.out hb); have n3_ := aM (bb BK385.out hb); have n4_ := aM (bb BK393.out hb); have n5_ := aM (below_step (zb) hb); clear BK359; clear BK367; clear BK379; clear BK385; clear BK393; clear HB; have BK359 := n0_; have BK367 := n1_; have BK379 := n2_; have BK385 := n3_; have BK393 := n4_; have HB := n5_; clear n0_ n1_ n2_ n3_ n4_ n5_; (try clear hb); (try clear hb2); (try clear hk); (try clear hi)))
                       go_meet
                       case rel => exact ⟨_, (true), zs, H', ⟨by have := HJ7.out; have := HJ29.out; have := HK3.out; have := HJ35.out; first | omega | exact Nat.le_refl _⟩, ⟨by exact pk BK359.out⟩, ⟨by exact pk BK367.out⟩, ⟨by exact pk BK379.out⟩, ⟨by exact pk BK385.out⟩, ⟨by exact pk BK393.out⟩, ⟨zb⟩⟩
                     ·rw [if_neg c83] at H
                      have c83b0 : (t391 == t368) = false := beq_eq_false_iff_ne.mpr c83
                      have c83b1 : (t391 != t368) = true := bne_iff_ne.mpr c83
                      by_cases c138 : t391 = 1
                      ·rw [if_pos c138] at H
                       have c138b0 : (t391 == 1) = true := beq_iff_eq.mpr c138
                       have c138b1 : (t391 != 1) = false := bne_eq_false_iff_eq.mpr c138
                       clear c138
                       replace H := Option.bind_eq_some_iff.mp H
                       obtain ⟨t397, A1390, H⟩ := H
                       replace H : (if t397 = 1 then ((impl_DoorOk.f kj35 t386 t387 t388 t389 t390).bind fun t398 => (if t398 = true then (laws_FnVerdicts.j4 kj35 t368 x8_3 t391 (t390 != t358) t354 t355 t356 t357 t358 t386 t387 t388 t389 t390) else (laws_FnVerdicts.j4 kj35 t368 x8_3 t391 true t354 t355 t356 t357 t358 t386 t387 t388 t389 t390))) else (laws_FnVerdicts.j4 kj35 t368 x8_3 t391 true t354 t355 t356 t357 t358 t386 t387 t388 t389 t390)) = some r := H
                       have A139 := aM A1390
                       clear A1390
                       by_cases c140 : t397 = 1
                       ·rw [if_pos c140] at H
                        have c140b0 : (t397 == 1) = true := beq_iff_eq.mpr c140
                        have c140b1 : (t397 != 1) = false := bne_eq_false_iff_eq.mpr c140
                        clear c140
                        replace H := Option.bind_eq_some_iff.mp H
                        obtain ⟨t398, A1410, H⟩ := H
                        replace H : (if t398 = true then (laws_FnVerdicts.j4 kj35 t368 x8_3 t391 (t390 != t358) t354 t355 t356 t357 t358 t386 t387 t388 t389 t390) else (laws_FnVerdicts.j4 kj35 t368 x8_3 t391 true t354 t355 t356 t357 t358 t386 t387 t388 t389 t390)) = some r := H
                        have A141 := aM A1410
                        clear A1410
                        by_cases c142 : t398 = true
                        ·subst c142
                         have H1 : (laws_FnVerdicts.j4 kj35 t368 x8_3 t391 (t390 != t358) t354 t355 t356 t357 t358 t386 t387 t388 t389 t390) = some r := by rw [if_pos rfl] at H; exact H
                         clear H
                         have H := H1
                         clear H1
                         have H' := aM H
                         clear H
                         have hnb143 := NB359_367.out
                         have hnc143 := NB367_359.out
                         have hnb144 := NB359_379.out
                         have hnc144 := NB379_359.out
                         have hnb145 := NB359_385.out
                         have hnc145 := NB385_359.out
                         have hnb146 := NB359_393.out
                         have hnc146 := NB393_359.out
                         obtain ⟨hcz147_0, hcz147_1, hcz147_2, hcz147_3, hcz147_4, hfz147_0, hfz147_1, hfz147_2, hfz147_3, hfz147_4⟩ := cells5 BK359.out
                         have hnb148 := NB385_367.out
                         have hnc148 := NB367_385.out
                         have hnb149 := NB385_379.out
                         have hnc149 := NB379_385.out
                         have hnb150 := NB385_393.out
                         have hnc150 := NB393_385.out
                         obtain ⟨hcz151_0, hcz151_1, hcz151_2, hcz151_3, hfz151_0, hfz151_1, hfz151_2, hfz151_3⟩ := cells4 BK385.out
                         go_wp2_with (first | (go_at_call 37; (with_reducible refine (impl_Verdict.calls kj35 t354 t380 t381 t382 t383 t394 _ A81.out).mono ?_); rintro e w152 ⟨rfl, hb⟩; have n0_ := aM (blk_below (g := gb359) (o := .cells #[.int .i64 t354, .int .i64 t355, .bool t356, .bool t357, .bool t358] 24 (0, 0)) (by refine pq ?_; refine blk_far ?_ NB359_393.out _; refine pq ?_; refine blk_far ?_ NB359_393.out _; refine pq ?_; refine blk_far ?_ NB359_393.out _; refine pq ?_; refine blk_far ?_ NB359_393.out _; refine pq ?_; refine blk_far ?_ NB359_393.out _; refine pq ?_; exact BK359.out) hb); have n1_ := aM (blk_below (g := gb367) (o := .cells #[.int .i64 t360, .int .i64 t361, .bool t362, .bool t363, .bool t364] 24 (0, 0)) (by refine pq ?_; refine blk_far ?_ NB367_393.out _; refine pq ?_; refine blk_far ?_ NB367_393.out _; refine pq ?_; refine blk_far ?_ NB367_393.out _; refine pq ?_; refine blk_far ?_ NB367_393.out _; refine pq ?_; refine blk_far ?_ NB367_393.out _; refine pq ?_; exact BK367.out) hb); have n2_ := aM (blk_below (g := gb379) (o := .cells #[.int .i64 x380000_35, .int .i64 x380001_35, .int .i64 x380002_35, .int .i64 x380003_35] 37 (0, 0)) (by refine pq ?_; refine blk_far ?_ NB379_393.out _; refine pq ?_; refine blk_far ?_ NB379_393.out _; refine pq ?_; refine blk_far ?_ NB379_393.out _; refine pq ?_; refine blk_far ?_ NB379_393.out _; refine pq ?_; refine blk_far ?_ NB379_393.out _; refine pq ?_; exact BK379.out) hb); have n3_ := aM (blk_below (g := gb385) (o := .cells #[.bool t380, .bool t381, .bool t382, .bool t383] 50 (0, 0)) (by refine pq ?_; refine blk_far ?_ NB385_393.out _; refine pq ?_; refine blk_far ?_ NB385_393.out _; refine pq ?_; refine blk_far ?_ NB385_393.out _; refine pq ?_; refine blk_far ?_ NB385_393.out _; refine pq ?_; refine blk_far ?_ NB385_393.out _; refine pq ?_; exact BK385.out) hb); have n4_ := aM (blk_below (g := gb393) (o := .cells #[.int .i64 t386, .int .i64 t387, .bool t388, .bool t389, .bool t390] 24 (0, 0)) (by refine pq ?_; refine blk_put (cs := #[.int .i64 t386, .int .i64 t387, .bool t388, .bool t389, .bool false]) ?_ 4 _ rfl; refine pq ?_; refine blk_put (cs := #[.int .i64 t386, .int .i64 t387, .bool t388, .bool false, .bool false]) ?_ 3 _ rfl; refine pq ?_; refine blk_put (cs := #[.int .i64 t386, .int .i64 t387, .bool false, .bool false, .bool false]) ?_ 2 _ rfl; refine pq ?_; refine blk_put (cs := #[.int .i64 t386, .int .i64 0, .bool false, .bool false, .bool false]) ?_ 1 _ rfl; refine pq ?_; refine blk_put (cs := #[.int .i64 0, .int .i64 0, .bool false, .bool false, .bool false]) ?_ 0 _ rfl; refine pq ?_; exact BK393.out) hb); have n5_ := aM (below_step (zb) hb); clear BK359; clear BK367; clear BK379; clear BK385; clear BK393; clear HB; have BK359 := n0_; have BK367 := n1_; have BK379 := n2_; have BK385 := n3_; have BK393 := n4_; have HB := n5_; clear n0_ n1_ n2_ n3_ n4_ n5_; (try clear hb); (try clear hb2); (try clear hk); (try clear hi); have hnb153 := NB379_367.out; have hnc153 := NB367_379.out; have hnb154 := NB379_393.out; have hnc154 := NB393_379.out; obtain ⟨hcz155_0, hcz155_1, hcz155_2, hcz155_3, hfz155_0, hfz155_1, hfz155_2, hfz155_3⟩ := cells4 BK379.out) | (go_at_call 38; (with_reducible refine (impl_CountFaults.calls kj35 x380000_35 x380001_35 x380002_35 x380003_35 t397 _ A139.out).mono ?_); rintro e w156 ⟨rfl, hb⟩; have n0_ := aM (bb BK359.out hb); have n1_ := aM (bb BK367.out hb); have n2_ := aM (bb BK379.out hb); have n3_ := aM (bb BK385.out hb); have n4_ := aM (bb BK393.out hb); have n5_ := aM (below_step (zb) hb); clear BK359; clear BK367; clear BK379; clear BK385; clear BK393; clear HB; have BK359 := n0_; have BK367 := n1_; have BK379 := n2_; have BK385 := n3_; have BK393 := n4_; have HB := n5_; clear n0_ n1_ n2_ n3_ n4_ n5_; (try clear hb); (try clear hb2); (try clear hk); (try clear hi); have hnb157 := NB393_367.out; have hnc157 := NB367_393.out; obtain ⟨hcz158_0, hcz158_1, hcz158_2, hcz158_3, hcz158_4, hfz158_0, hfz158_1, hfz158_2, hfz158_3, hfz158_4⟩ := cells5 BK393.out) | (go_at_call 30; (with_reducible refine (impl_DoorOk.calls kj35 t386 t387 t388 t389 t390 true _ A141.out).mono ?_); rintro e w159 ⟨rfl, hb⟩; have n0_ := aM (bb BK359.out hb); have n1_ := aM (bb BK367.out hb); have n2_ := aM (bb BK379.out hb); have n3_ := aM (bb BK385.out hb); have n4_ := aM (bb BK393.out hb); have n5_ := aM (below_step (zb) hb); clear BK359; clear BK367; clear BK379; clear BK385; clear BK393; clear HB; have BK359 := n0_; have BK367 := n1_; have BK379 := n2_; have BK385 := n3_; have BK393 := n4_; have HB := n5_; clear n0_ n1_ n2_ n3_ n4_ n5_; (try clear hb); (try clear hb2); (try clear hk); (try clear hi); obtain ⟨hcz160_0, hcz160_1, hcz160_2, hcz160_3, hcz160_4, hfz160_0, hfz160_1, hfz160_2, hfz160_3, hfz160_4⟩ := cells5 BK393.out; obtain ⟨hcz161_0, hcz161_1, hcz161_2, hcz161_3, hcz161_4, hfz161_0, hfz161_1, hfz161_2, hfz161_3, hfz161_4⟩ := cells5 BK359.out))
                         go_meet
                         case rel => exact ⟨_, ((t390 != t358)), zs, H', ⟨by have := HJ7.out; have := HJ29.out; have := HK3.out; have := HJ35.out; first | omega | exact Nat.le_refl _⟩, ⟨by exact pk BK359.out⟩, ⟨by exact pk BK367.out⟩, ⟨by exact pk BK379.out⟩, ⟨by exact pk BK385.out⟩, ⟨by exact pk BK393.out⟩, ⟨zb⟩⟩
                        ·replace c142 := Bool.eq_false_iff.mpr c142
                         subst c142
                         have H1 : (laws_FnVerdicts.j4 kj35 t368 x8_3 t391 true t354 t355 t356 t357 t358 t386 t387 t388 t389 t390) = some r := by rw [if_neg (show ¬ (false = true) by decide)] at H; exact H
                         clear H
                         have H := H1
                         clear H1
                         have H' := aM H
                         clear H
                         have hnb162 := NB359_367.out
                         have hnc162 := NB367_359.out
                         have hnb163 := NB359_379.out
                         have hnc163 := NB379_359.out
                         have hnb164 := NB359_385.out
                         have hnc164 := NB385_359.out
                         have hnb165 := NB359_393.out
                         have hnc165 := NB393_359.out
                         obtain ⟨hcz166_0, hcz166_1, hcz166_2, hcz166_3, hcz166_4, hfz166_0, hfz166_1, hfz166_2, hfz166_3, hfz166_4⟩ := cells5 BK359.out
                         have hnb167 := NB385_367.out
                         have hnc167 := NB367_385.out
                         have hnb168 := NB385_379.out
                         have hnc168 := NB379_385.out
                         have hnb169 := NB385_393.out
                         have hnc169 := NB393_385.out
                         obtain ⟨hcz170_0, hcz170_1, hcz170_2, hcz170_3, hfz170_0, hfz170_1, hfz170_2, hfz170_3⟩ := cells4 BK385.out
                         go_wp2_with (first | (go_at_call 37; (with_reducible refine (impl_Verdict.calls kj35 t354 t380 t381 t382 t383 t394 _ A81.out).mono ?_); rintro e w171 ⟨rfl, hb⟩; have n0_ := aM (blk_below (g := gb359) (o := .cells #[.int .i64 t354, .int .i64 t355, .bool t356, .bool t357, .bool t358] 24 (0, 0)) (by refine pq ?_; refine blk_far ?_ NB359_393.out _; refine pq ?_; refine blk_far ?_ NB359_393.out _; refine pq ?_; refine blk_far ?_ NB359_393.out _; refine pq ?_; refine blk_far ?_ NB359_393.out _; refine pq ?_; refine blk_far ?_ NB359_393.out _; refine pq ?_; exact BK359.out) hb); have n1_ := aM (blk_below (g := gb367) (o := .cells #[.int .i64 t360, .int .i64 t361, .bool t362, .bool t363, .bool t364] 24 (0, 0)) (by refine pq ?_; refine blk_far ?_ NB367_393.out _; refine pq ?_; refine blk_far ?_ NB367_393.out _; refine pq ?_; refine blk_far ?_ NB367_393.out _; refine pq ?_; refine blk_far ?_ NB367_393.out _; refine pq ?_; refine blk_far ?_ NB367_393.out _; refine pq ?_; exact BK367.out) hb); have n2_ := aM (blk_below (g := gb379) (o := .cells #[.int .i64 x380000_35, .int .i64 x380001_35, .int .i64 x380002_35, .int .i64 x380003_35] 37 (0, 0)) (by refine pq ?_; refine blk_far ?_ NB379_393.out _; refine pq ?_; refine blk_far ?_ NB379_393.out _; refine pq ?_; refine blk_far ?_ NB379_393.out _; refine pq ?_; refine blk_far ?_ NB379_393.out _; refine pq ?_; refine blk_far ?_ NB379_393.out _; refine pq ?_; exact BK379.out) hb); have n3_ := aM (blk_below (g := gb385) (o := .cells #[.bool t380, .bool t381, .bool t382, .bool t383] 50 (0, 0)) (by refine pq ?_; refine blk_far ?_ NB385_393.out _; refine pq ?_; refine blk_far ?_ NB385_393.out _; refine pq ?_; refine blk_far ?_ NB385_393.out _; refine pq ?_; refine blk_far ?_ NB385_393.out _; refine pq ?_; refine blk_far ?_ NB385_393.out _; refine pq ?_; exact BK385.out) hb); have n4_ := aM (blk_below (g := gb393) (o := .cells #[.int .i64 t386, .int .i64 t387, .bool t388, .bool t389, .bool t390] 24 (0, 0)) (by refine pq ?_; refine blk_put (cs := #[.int .i64 t386, .int .i64 t387, .bool t388, .bool t389, .bool false]) ?_ 4 _ rfl; refine pq ?_; refine blk_put (cs := #[.int .i64 t386, .int .i64 t387, .bool t388, .bool false, .bool false]) ?_ 3 _ rfl; refine pq ?_; refine blk_put (cs := #[.int .i64 t386, .int .i64 t387, .bool false, .bool false, .bool false]) ?_ 2 _ rfl; refine pq ?_; refine blk_put (cs := #[.int .i64 t386, .int .i64 0, .bool false, .bool false, .bool false]) ?_ 1 _ rfl; refine pq ?_; refine blk_put (cs := #[.int .i64 0, .int .i64 0, .bool false, .bool false, .bool false]) ?_ 0 _ rfl; refine pq ?_; exact BK393.out) hb); have n5_ := aM (below_step (zb) hb); clear BK359; clear BK367; clear BK379; clear BK385; clear BK393; clear HB; have BK359 := n0_; have BK367 := n1_; have BK379 := n2_; have BK385 := n3_; have BK393 := n4_; have HB := n5_; clear n0_ n1_ n2_ n3_ n4_ n5_; (try clear hb); (try clear hb2); (try clear hk); (try clear hi); have hnb172 := NB379_367.out; have hnc172 := NB367_379.out; have hnb173 := NB379_393.out; have hnc173 := NB393_379.out; obtain ⟨hcz174_0, hcz174_1, hcz174_2, hcz174_3, hfz174_0, hfz174_1, hfz174_2, hfz174_3⟩ := cells4 BK379.out) | (go_at_call 38; (with_reducible refine (impl_CountFaults.calls kj35 x380000_35 x380001_35 x380002_35 x380003_35 t397 _ A139.out).mono ?_); rintro e w175 ⟨rfl, hb⟩; have n0_ := aM (bb BK359.out hb); have n1_ := aM (bb BK367.out hb); have n2_ := aM (bb BK379.out hb); have n3_ := aM (bb BK385.out hb); have n4_ := aM (bb BK393.out hb); have n5_ := aM (below_step (zb) hb); clear BK359; clear BK367; clear BK379; clear BK385; clear BK393; clear HB; have BK359 := n0_; have BK367 := n1_; have BK379 := n2_; have BK385 := n3_; have BK393 := n4_; have HB := n5_; clear n0_ n1_ n2_ n3_ n4_ n5_; (try clear hb); (try clear hb2); (try clear hk); (try clear hi); have hnb176 := NB393_367.out; have hnc176 := NB367_393.out; obtain ⟨hcz177_0, hcz177_1, hcz177_2, hcz177_3, hcz177_4, hfz177_0, hfz177_1, hfz177_2, hfz177_3, hfz177_4⟩ := cells5 BK393.out) | (go_at_call 30; (with_reducible refine (impl_DoorOk.calls kj35 t386 t387 t388 t389 t390 false _ A141.out).mono ?_); rintro e w178 ⟨rfl, hb⟩; have n0_ := aM (bb BK359.out hb); have n1_ := aM (bb BK367.out hb); have n2_ := aM (bb BK379.out hb); have n3_ := aM (bb BK385.out hb); have n4_ := aM (bb BK393.out hb); have n5_ := aM (below_step (zb) hb); clear BK359; clear BK367; clear BK379; clear BK385; clear BK393; clear HB; have BK359 := n0_; have BK367 := n1_; have BK379 := n2_; have BK385 := n3_; have BK393 := n4_; have HB := n5_; clear n0_ n1_ n2_ n3_ n4_ n5_; (try clear hb); (try clear hb2); (try clear hk); (try clear hi)))
                         go_meet
                         case rel => exact ⟨_, (true), zs, H', ⟨by have := HJ7.out; have := HJ29.out; have := HK3.out; have := HJ35.out; first | omega | exact Nat.le_refl _⟩, ⟨by exact pk BK359.out⟩, ⟨by exact pk BK367.out⟩, ⟨by exact pk BK379.out⟩, ⟨by exact pk BK385.out⟩, ⟨by exact pk BK393.out⟩, ⟨zb⟩⟩
                       ·rw [if_neg c140] at H
                        have c140b0 : (t397 == 1) = false := beq_eq_false_iff_ne.mpr c140
                        have c140b1 : (t397 != 1) = true := bne_iff_ne.mpr c140
                        have H' := aM H
                        clear H
                        have hnb179 := NB359_367.out
                        have hnc179 := NB367_359.out
                        have hnb180 := NB359_379.out
                        have hnc180 := NB379_359.out
                        have hnb181 := NB359_385.out
                        have hnc181 := NB385_359.out
                        have hnb182 := NB359_393.out
                        have hnc182 := NB393_359.out
                        obtain ⟨hcz183_0, hcz183_1, hcz183_2, hcz183_3, hcz183_4, hfz183_0, hfz183_1, hfz183_2, hfz183_3, hfz183_4⟩ := cells5 BK359.out
                        have hnb184 := NB385_367.out
                        have hnc184 := NB367_385.out
                        have hnb185 := NB385_379.out
                        have hnc185 := NB379_385.out
                        have hnb186 := NB385_393.out
                        have hnc186 := NB393_385.out
                        obtain ⟨hcz187_0, hcz187_1, hcz187_2, hcz187_3, hfz187_0, hfz187_1, hfz187_2, hfz187_3⟩ := cells4 BK385.out
                        go_wp2_with (first | (go_at_call 37; (with_reducible refine (impl_Verdict.calls kj35 t354 t380 t381 t382 t383 t394 _ A81.out).mono ?_); rintro e w188 ⟨rfl, hb⟩; have n0_ := aM (blk_below (g := gb359) (o := .cells #[.int .i64 t354, .int .i64 t355, .bool t356, .bool t357, .bool t358] 24 (0, 0)) (by refine pq ?_; refine blk_far ?_ NB359_393.out _; refine pq ?_; refine blk_far ?_ NB359_393.out _; refine pq ?_; refine blk_far ?_ NB359_393.out _; refine pq ?_; refine blk_far ?_ NB359_393.out _; refine pq ?_; refine blk_far ?_ NB359_393.out _; refine pq ?_; exact BK359.out) hb); have n1_ := aM (blk_below (g := gb367) (o := .cells #[.int .i64 t360, .int .i64 t361, .bool t362, .bool t363, .bool t364] 24 (0, 0)) (by refine pq ?_; refine blk_far ?_ NB367_393.out _; refine pq ?_; refine blk_far ?_ NB367_393.out _; refine pq ?_; refine blk_far ?_ NB367_393.out _; refine pq ?_; refine blk_far ?_ NB367_393.out _; refine pq ?_; refine blk_far ?_ NB367_393.out _; refine pq ?_; exact BK367.out) hb); have n2_ := aM (blk_below (g := gb379) (o := .cells #[.int .i64 x380000_35, .int .i64 x380001_35, .int .i64 x380002_35, .int .i64 x380003_35] 37 (0, 0)) (by refine pq ?_; refine blk_far ?_ NB379_393.out _; refine pq ?_; refine blk_far ?_ NB379_393.out _; refine pq ?_; refine blk_far ?_ NB379_393.out _; refine pq ?_; refine blk_far ?_ NB379_393.out _; refine pq ?_; refine blk_far ?_ NB379_393.out _; refine pq ?_; exact BK379.out) hb); have n3_ := aM (blk_below (g := gb385) (o := .cells #[.bool t380, .bool t381, .bool t382, .bool t383] 50 (0, 0)) (by refine pq ?_; refine blk_far ?_ NB385_393.out _; refine pq ?_; refine blk_far ?_ NB385_393.out _; refine pq ?_; refine blk_far ?_ NB385_393.out _; refine pq ?_; refine blk_far ?_ NB385_393.out _; refine pq ?_; refine blk_far ?_ NB385_393.out _; refine pq ?_; exact BK385.out) hb); have n4_ := aM (blk_below (g := gb393) (o := .cells #[.int .i64 t386, .int .i64 t387, .bool t388, .bool t389, .bool t390] 24 (0, 0)) (by refine pq ?_; refine blk_put (cs := #[.int .i64 t386, .int .i64 t387, .bool t388, .bool t389, .bool false]) ?_ 4 _ rfl; refine pq ?_; refine blk_put (cs := #[.int .i64 t386, .int .i64 t387, .bool t388, .bool false, .bool false]) ?_ 3 _ rfl; refine pq ?_; refine blk_put (cs := #[.int .i64 t386, .int .i64 t387, .bool false, .bool false, .bool false]) ?_ 2 _ rfl; refine pq ?_; refine blk_put (cs := #[.int .i64 t386, .int .i64 0, .bool false, .bool false, .bool false]) ?_ 1 _ rfl; refine pq ?_; refine blk_put (cs := #[.int .i64 0, .int .i64 0, .bool false, .bool false, .bool false]) ?_ 0 _ rfl; refine pq ?_; exact BK393.out) hb); have n5_ := aM (below_step (zb) hb); clear BK359; clear BK367; clear BK379; clear BK385; clear BK393; clear HB; have BK359 := n0_; have BK367 := n1_; have BK379 := n2_; have BK385 := n3_; have BK393 := n4_; have HB := n5_; clear n0_ n1_ n2_ n3_ n4_ n5_; (try clear hb); (try clear hb2); (try clear hk); (try clear hi); have hnb189 := NB379_367.out; have hnc189 := NB367_379.out; have hnb190 := NB379_393.out; have hnc190 := NB393_379.out; obtain ⟨hcz191_0, hcz191_1, hcz191_2, hcz191_3, hfz191_0, hfz191_1, hfz191_2, hfz191_3⟩ := cells4 BK379.out) | (go_at_call 38; (with_reducible refine (impl_CountFaults.calls kj35 x380000_35 x380001_35 x380002_35 x380003_35 t397 _ A139.out).mono ?_); rintro e w192 ⟨rfl, hb⟩; have n0_ := aM (bb BK359.out hb); have n1_ := aM (bb BK367.out hb); have n2_ := aM (bb BK379.out hb); have n3_ := aM (bb BK385.out hb); have n4_ := aM (bb BK393.out hb); have n5_ := aM (below_step (zb) hb); clear BK359; clear BK367; clear BK379; clear BK385; clear BK393; clear HB; have BK359 := n0_; have BK367 := n1_; have BK379 := n2_; have BK385 := n3_; have BK393 := n4_; have HB := n5_; clear n0_ n1_ n2_ n3_ n4_ n5_; (try clear hb); (try clear hb2); (try clear hk); (try clear hi)))
                        go_meet
                        case rel => exact ⟨_, (true), zs, H', ⟨by have := HJ7.out; have := HJ29.out; have := HK3.out; have := HJ35.out; first | omega | exact Nat.le_refl _⟩, ⟨by exact pk BK359.out⟩, ⟨by exact pk BK367.out⟩, ⟨by exact pk BK379.out⟩, ⟨by exact pk BK385.out⟩, ⟨by exact pk BK393.out⟩, ⟨zb⟩⟩
                      ·rw [if_neg c138] at H
                       have c138b0 : (t391 == 1) = false := beq_eq_false_iff_ne.mpr c138
                       have c138b1 : (t391 != 1) = true := bne_iff_ne.mpr c138
                       have H' := aM H
                       clear H
                       have hnb193 := NB359_367.out
                       have hnc193 := NB367_359.out
                       have hnb194 := NB359_379.out
                       have hnc194 := NB379_359.out
                       have hnb195 := NB359_385.out
                       have hnc195 := NB385_359.out
                       have hnb196 := NB359_393.out
                       have hnc196 := NB393_359.out
                       obtain ⟨hcz197_0, hcz197_1, hcz197_2, hcz197_3, hcz197_4, hfz197_0, hfz197_1, hfz197_2, hfz197_3, hfz197_4⟩ := cells5 BK359.out
                       have hnb198 := NB385_367.out
                       have hnc198 := NB367_385.out
                       have hnb199 := NB385_379.out
                       have hnc199 := NB379_385.out
                       have hnb200 := NB385_393.out
                       have hnc200 := NB393_385.out
                       obtain ⟨hcz201_0, hcz201_1, hcz201_2, hcz201_3, hfz201_0, hfz201_1, hfz201_2, hfz201_3⟩ := cells4 BK385.out
                       go_wp2_with (first | (go_at_call 37; (with_reducible refine (impl_Verdict.calls kj35 t354 t380 t381 t382 t383 t394 _ A81.out).mono ?_); rintro e w202 ⟨rfl, hb⟩; have n0_ := aM (blk_below (g := gb359) (o := .cells #[.int .i64 t354, .int .i64 t355, .bool t356, .bool t357, .bool t358] 24 (0, 0)) (by refine pq ?_; refine blk_far ?_ NB359_393.out _; refine pq ?_; refine blk_far ?_ NB359_393.out _; refine pq ?_; refine blk_far ?_ NB359_393.out _; refine pq ?_; refine blk_far ?_ NB359_393.out _; refine pq ?_; refine blk_far ?_ NB359_393.out _; refine pq ?_; exact BK359.out) hb); have n1_ := aM (blk_below (g := gb367) (o := .cells #[.int .i64 t360, .int .i64 t361, .bool t362, .bool t363, .bool t364] 24 (0, 0)) (by refine pq ?_; refine blk_far ?_ NB367_393.out _; refine pq ?_; refine blk_far ?_ NB367_393.out _; refine pq ?_; refine blk_far ?_ NB367_393.out _; refine pq ?_; refine blk_far ?_ NB367_393.out _; refine pq ?_; refine blk_far ?_ NB367_393.out _; refine pq ?_; exact BK367.out) hb); have n2_ := aM (blk_below (g := gb379) (o := .cells #[.int .i64 x380000_35, .int .i64 x380001_35, .int .i64 x380002_35, .int .i64 x380003_35] 37 (0, 0)) (by refine pq ?_; refine blk_far ?_ NB379_393.out _; refine pq ?_; refine blk_far ?_ NB379_393.out _; refine pq ?_; refine blk_far ?_ NB379_393.out _; refine pq ?_; refine blk_far ?_ NB379_393.out _; refine pq ?_; refine blk_far ?_ NB379_393.out _; refine pq ?_; exact BK379.out) hb); have n3_ := aM (blk_below (g := gb385) (o := .cells #[.bool t380, .bool t381, .bool t382, .bool t383] 50 (0, 0)) (by refine pq ?_; refine blk_far ?_ NB385_393.out _; refine pq ?_; refine blk_far ?_ NB385_393.out _; refine pq ?_; refine blk_far ?_ NB385_393.out _; refine pq ?_; refine blk_far ?_ NB385_393.out _; refine pq ?_; refine blk_far ?_ NB385_393.out _; refine pq ?_; exact BK385.out) hb); have n4_ := aM (blk_below (g := gb393) (o := .cells #[.int .i64 t386, .int .i64 t387, .bool t388, .bool t389, .bool t390] 24 (0, 0)) (by refine pq ?_; refine blk_put (cs := #[.int .i64 t386, .int .i64 t387, .bool t388, .bool t389, .bool false]) ?_ 4 _ rfl; refine pq ?_; refine blk_put (cs := #[.int .i64 t386, .int .i64 t387, .bool t388, .bool false, .bool false]) ?_ 3 _ rfl; refine pq ?_; refine blk_put (cs := #[.int .i64 t386, .int .i64 t387, .bool false, .bool false, .bool false]) ?_ 2 _ rfl; refine pq ?_; refine blk_put (cs := #[.int .i64 t386, .int .i64 0, .bool false, .bool false, .bool false]) ?_ 1 _ rfl; refine pq ?_; refine blk_put (cs := #[.int .i64 0, .int .i64 0, .bool false, .bool false, .bool false]) ?_ 0 _ rfl; refine pq ?_; exact BK393.out) hb); have n5_ := aM (below_step (zb) hb); clear BK359; clear BK367; clear BK379; clear BK385; clear BK393; clear HB; have BK359 := n0_; have BK367 := n1_; have BK379 := n2_; have BK385 := n3_; have BK393 := n4_; have HB := n5_; clear n0_ n1_ n2_ n3_ n4_ n5_; (try clear hb); (try clear hb2); (try clear hk); (try clear hi)))
                       go_meet
                       case rel => exact ⟨_, (true), zs, H', ⟨by have := HJ7.out; have := HJ29.out; have := HK3.out; have := HJ35.out; first | omega | exact Nat.le_refl _⟩, ⟨by exact pk BK359.out⟩, ⟨by exact pk BK367.out⟩, ⟨by exact pk BK379.out⟩, ⟨by exact pk BK385.out⟩, ⟨by exact pk BK393.out⟩, ⟨zb⟩⟩
                    ·rw [if_neg c82] at H
                     have c82b0 : (t391 == t394) = false := beq_eq_false_iff_ne.mpr c82
                     have c82b1 : (t391 != t394) = true := bne_iff_ne.mpr c82
                     (first | rw [c82b0] | (simp only [i64_w, i32_w]; rw [c82b0]) | skip)
                     have H' := aM H
                     clear H
                     have hnb203 := NB359_367.out
                     have hnc203 := NB367_359.out
                     have hnb204 := NB359_379.out
                     have hnc204 := NB379_359.out
                     have hnb205 := NB359_385.out
                     have hnc205 := NB385_359.out
                     have hnb206 := NB359_393.out
                     have hnc206 := NB393_359.out
                     obtain ⟨hcz207_0, hcz207_1, hcz207_2, hcz207_3, hcz207_4, hfz207_0, hfz207_1, hfz207_2, hfz207_3, hfz207_4⟩ := cells5 BK359.out
                     have hnb208 := NB385_367.out
                     have hnc208 := NB367_385.out
                     have hnb209 := NB385_379.out
                     have hnc209 := NB379_385.out
                     have hnb210 := NB385_393.out
                     have hnc210 := NB393_385.out
                     obtain ⟨hcz211_0, hcz211_1, hcz211_2, hcz211_3, hfz211_0, hfz211_1, hfz211_2, hfz211_3⟩ := cells4 BK385.out
                     go_wp2_with (first | (go_at_call 37; (with_reducible refine (impl_Verdict.calls kj35 t354 t380 t381 t382 t383 t394 _ A81.out).mono ?_); rintro e w212 ⟨rfl, hb⟩; have n0_ := aM (blk_below (g := gb359) (o := .cells #[.int .i64 t354, .int .i64 t355, .bool t356, .bool t357, .bool t358] 24 (0, 0)) (by refine pq ?_; refine blk_far ?_ NB359_393.out _; refine pq ?_; refine blk_far ?_ NB359_393.out _; refine pq ?_; refine blk_far ?_ NB359_393.out _; refine pq ?_; refine blk_far ?_ NB359_393.out _; refine pq ?_; refine blk_far ?_ NB359_393.out _; refine pq ?_; exact BK359.out) hb); have n1_ := aM (blk_below (g := gb367) (o := .cells #[.int .i64 t360, .int .i64 t361, .bool t362, .bool t363, .bool t364] 24 (0, 0)) (by refine pq ?_; refine blk_far ?_ NB367_393.out _; refine pq ?_; refine blk_far ?_ NB367_393.out _; refine pq ?_; refine blk_far ?_ NB367_393.out _; refine pq ?_; refine blk_far ?_ NB367_393.out _; refine pq ?_; refine blk_far ?_ NB367_393.out _; refine pq ?_; exact BK367.out) hb); have n2_ := aM (blk_below (g := gb379) (o := .cells #[.int .i64 x380000_35, .int .i64 x380001_35, .int .i64 x380002_35, .int .i64 x380003_35] 37 (0, 0)) (by refine pq ?_; refine blk_far ?_ NB379_393.out _; refine pq ?_; refine blk_far ?_ NB379_393.out _; refine pq ?_; refine blk_far ?_ NB379_393.out _; refine pq ?_; refine blk_far ?_ NB379_393.out _; refine pq ?_; refine blk_far ?_ NB379_393.out _; refine pq ?_; exact BK379.out) hb); have n3_ := aM (blk_below (g := gb385) (o := .cells #[.bool t380, .bool t381, .bool t382, .bool t383] 50 (0, 0)) (by refine pq ?_; refine blk_far ?_ NB385_393.out _; refine pq ?_; refine blk_far ?_ NB385_393.out _; refine pq ?_; refine blk_far ?_ NB385_393.out _; refine pq ?_; refine blk_far ?_ NB385_393.out _; refine pq ?_; refine blk_far ?_ NB385_393.out _; refine pq ?_; exact BK385.out) hb); have n4_ := aM (blk_below (g := gb393) (o := .cells #[.int .i64 t386, .int .i64 t387, .bool t388, .bool t389, .bool t390] 24 (0, 0)) (by refine pq ?_; refine blk_put (cs := #[.int .i64 t386, .int .i64 t387, .bool t388, .bool t389, .bool false]) ?_ 4 _ rfl; refine pq ?_; refine blk_put (cs := #[.int .i64 t386, .int .i64 t387, .bool t388, .bool false, .bool false]) ?_ 3 _ rfl; refine pq ?_; refine blk_put (cs := #[.int .i64 t386, .int .i64 t387, .bool false, .bool false, .bool false]) ?_ 2 _ rfl; refine pq ?_; refine blk_put (cs := #[.int .i64 t386, .int .i64 0, .bool false, .bool false, .bool false]) ?_ 1 _ rfl; refine pq ?_; refine blk_put (cs := #[.int .i64 0, .int .i64 0, .bool false, .bool false, .bool false]) ?_ 0 _ rfl; refine pq ?_; exact BK393.out) hb); have n5_ := aM (below_step (zb) hb); clear BK359; clear BK367; clear BK379; clear BK385; clear BK393; clear HB; have BK359 := n0_; have BK367 := n1_; have BK379 := n2_; have BK385 := n3_; have BK393 := n4_; have HB := n5_; clear n0_ n1_ n2_ n3_ n4_ n5_; (try clear hb); (try clear hb2); (try clear hk); (try clear hi)))
                     go_meet
                     case rel => exact ⟨_, (true), zs, H', ⟨by have := HJ7.out; have := HJ29.out; have := HK3.out; have := HJ35.out; first | omega | exact Nat.le_refl _⟩, ⟨by exact pk BK359.out⟩, ⟨by exact pk BK367.out⟩, ⟨by exact pk BK379.out⟩, ⟨by exact pk BK385.out⟩, ⟨by exact pk BK393.out⟩, ⟨zb⟩⟩
                   ·replace c80 := Bool.eq_false_iff.mpr c80
                    subst c80
                    have H1 : (laws_FnVerdicts.j4 kj35 t368 x8_3 t391 true t354 t355 t356 t357 t358 t386 t387 t388 t389 t390) = some r := by rw [if_neg (show ¬ (false = true) by decide)] at H; exact H
                    clear H
                    have H := H1
                    clear H1
                    have H' := aM H
                    clear H
                    go_wp2
                    go_meet
                    case rel => exact ⟨_, (true), zs, H', ⟨by have := HJ7.out; have := HJ29.out; have := HK3.out; have := HJ35.out; first | omega | exact Nat.le_refl _⟩, ⟨by refine pq ?_; refine blk_far ?_ NB359_393.out _; refine pq ?_; refine blk_far ?_ NB359_393.out _; refine pq ?_; refine blk_far ?_ NB359_393.out _; refine pq ?_; refine blk_far ?_ NB359_393.out _; refine pq ?_; refine blk_far ?_ NB359_393.out _; refine pq ?_; exact BK359.out⟩, ⟨by refine pq ?_; refine blk_far ?_ NB367_393.out _; refine pq ?_; refine blk_far ?_ NB367_393.out _; refine pq ?_; refine blk_far ?_ NB367_393.out _; refine pq ?_; refine blk_far ?_ NB367_393.out _; refine pq ?_; refine blk_far ?_ NB367_393.out _; refine pq ?_; exact BK367.out⟩, ⟨by refine pq ?_; refine blk_far ?_ NB379_393.out _; refine pq ?_; refine blk_far ?_ NB379_393.out _; refine pq ?_; refine blk_far ?_ NB379_393.out _; refine pq ?_; refine blk_far ?_ NB379_393.out _; refine pq ?_; refine blk_far ?_ NB379_393.out _; refine pq ?_; exact BK379.out⟩, ⟨by refine pq ?_; refine blk_far ?_ NB385_393.out _; refine pq ?_; refine blk_far ?_ NB385_393.out _; refine pq ?_; refine blk_far ?_ NB385_393.out _; refine pq ?_; refine blk_far ?_ NB385_393.out _; refine pq ?_; refine blk_far ?_ NB385_393.out _; refine pq ?_; exact BK385.out⟩, ⟨by refine pq ?_; refine blk_put (cs := #[.int .i64 t386, .int .i64 t387, .bool t388, .bool t389, .bool false]) ?_ 4 _ rfl; refine pq ?_; refine blk_put (cs := #[.int .i64 t386, .int .i64 t387, .bool t388, .bool false, .bool false]) ?_ 3 _ rfl; refine pq ?_; refine blk_put (cs := #[.int .i64 t386, .int .i64 t387, .bool false, .bool false, .bool false]) ?_ 2 _ rfl; refine pq ?_; refine blk_put (cs := #[.int .i64 t386, .int .i64 0, .bool false, .bool false, .bool false]) ?_ 1 _ rfl; refine pq ?_; refine blk_put (cs := #[.int .i64 0, .int .i64 0, .bool false, .bool false, .bool false]) ?_ 0 _ rfl; refine pq ?_; exact BK393.out⟩, ⟨zb⟩⟩
                  ·replace c79 := Bool.eq_false_iff.mpr c79
                   subst c79
                   have H1 : (laws_FnVerdicts.j4 kj35 t368 x8_3 t391 true t354 t355 t356 t357 t358 t386 t387 t388 t389 t390) = some r := by rw [if_neg (show ¬ (false = true) by decide)] at H; exact H
                   clear H
                   have H := H1
                   clear H1
                   have H' := aM H
                   clear H
                   go_wp2
                   go_meet
                   case rel => exact ⟨_, (true), zs, H', ⟨by have := HJ7.out; have := HJ29.out; have := HK3.out; have := HJ35.out; first | omega | exact Nat.le_refl _⟩, ⟨by refine pq ?_; refine blk_far ?_ NB359_393.out _; refine pq ?_; refine blk_far ?_ NB359_393.out _; refine pq ?_; refine blk_far ?_ NB359_393.out _; refine pq ?_; refine blk_far ?_ NB359_393.out _; refine pq ?_; refine blk_far ?_ NB359_393.out _; refine pq ?_; exact BK359.out⟩, ⟨by refine pq ?_; refine blk_far ?_ NB367_393.out _; refine pq ?_; refine blk_far ?_ NB367_393.out _; refine pq ?_; refine blk_far ?_ NB367_393.out _; refine pq ?_; refine blk_far ?_ NB367_393.out _; refine pq ?_; refine blk_far ?_ NB367_393.out _; refine pq ?_; exact BK367.out⟩, ⟨by refine pq ?_; refine blk_far ?_ NB379_393.out _; refine pq ?_; refine blk_far ?_ NB379_393.out _; refine pq ?_; refine blk_far ?_ NB379_393.out _; refine pq ?_; refine blk_far ?_ NB379_393.out _; refine pq ?_; refine blk_far ?_ NB379_393.out _; refine pq ?_; exact BK379.out⟩, ⟨by refine pq ?_; refine blk_far ?_ NB385_393.out _; refine pq ?_; refine blk_far ?_ NB385_393.out _; refine pq ?_; refine blk_far ?_ NB385_393.out _; refine pq ?_; refine blk_far ?_ NB385_393.out _; refine pq ?_; refine blk_far ?_ NB385_393.out _; refine pq ?_; exact BK385.out⟩, ⟨by refine pq ?_; refine blk_put (cs := #[.int .i64 t386, .int .i64 t387, .bool t388, .bool t389, .bool false]) ?_ 4 _ rfl; refine pq ?_; refine blk_put (cs := #[.int .i64 t386, .int .i64 t387, .bool t388, .bool false, .bool false]) ?_ 3 _ rfl; refine pq ?_; refine blk_put (cs := #[.int .i64 t386, .int .i64 t387, .bool false, .bool false, .bool false]) ?_ 2 _ rfl; refine pq ?_; refine blk_put (cs := #[.int .i64 t386, .int .i64 0, .bool false, .bool false, .bool false]) ?_ 1 _ rfl; refine pq ?_; refine blk_put (cs := #[.int .i64 0, .int .i64 0, .bool false, .bool false, .bool false]) ?_ 0 _ rfl; refine pq ?_; exact BK393.out⟩, ⟨zb⟩⟩
                 case rest =>
                  clear HC58
                  try clear c1
                  try clear c2
                  try clear p2
                  try clear c3
                  try clear c4
                  try clear c5
                  try clear c6
                  try clear c7
                  try clear c8
                  try clear c9
                  try clear c10
                  try clear c11
                  try clear c12
                  try clear c13
                  try clear c14
                  try clear c15
                  try clear c16
                  try clear c17
                  try clear c18
                  try clear c19
                  try clear c20
                  try clear c21
                  try clear c25
                  try clear c31
                  try clear c31b0
                  try clear c31b1
                  try clear c32
                  try clear c33
                  try clear c34
                  try clear c35
                  try clear c35b0
                  try clear c36
                  try clear c38
                  try clear c39
                  try clear c41
                  try clear c41b0
                  try clear c41b1
                  try clear c42
                  try clear c43
                  try clear c45
                  try clear c45b0
                  try clear c45b1
                  try clear c46
                  try clear c47
                  try clear c49
                  try clear c49b0
                  try clear c49b1
                  try clear c50
                  try clear c51
                  try clear c53
                  try clear c54
                  try clear c59
                  try clear c60
                  try clear c62
                  try clear c66
                  try clear c67
                  try clear c68
                  try clear c74
                  try clear c75
                  try clear c76
                  try clear c77
                  try clear c79
                  try clear c80
                  try clear c82
                  try clear c82b0
                  try clear c82b1
                  try clear c83
                  try clear c83b0
                  try clear c83b1
                  try clear c85
                  try clear c85b0
                  try clear c85b1
                  try clear c87
                  try clear c88
                  try clear c89
                  try clear c90
                  try clear c91
                  try clear c93
                  try clear c94
                  try clear c95
                  try clear c98
                  try clear c99
                  try clear c102
                  try clear c107
                  try clear c108
                  try clear c109
                  try clear c110
                  try clear c112
                  try clear c113
                  try clear c114
                  try clear c117
                  try clear c118
                  try clear c121
                  try clear c124
                  try clear c125
                  try clear c126
                  try clear c127
                  try clear c129
                  try clear c130
                  try clear c131
                  try clear c134
                  try clear c135
                  try clear c138
                  try clear c138b0
                  try clear c138b1
                  try clear c140
                  try clear c140b0
                  try clear c140b1
                  try clear c142
                  try clear c143
                  try clear c144
                  try clear c145
                  try clear c146
                  try clear c148
                  try clear c149
                  try clear c150
                  try clear c153
                  try clear c154
                  try clear c157
                  try clear c162
                  try clear c163
                  try clear c164
                  try clear c165
                  try clear c167
                  try clear c168
                  try clear c169
                  try clear c172
                  try clear c173
                  try clear c176
                  try clear c179
                  try clear c180
                  try clear c181
                  try clear c182
                  try clear c184
                  try clear c185
                  try clear c186
                  try clear c189
                  try clear c190
                  try clear c193
                  try clear c194
                  try clear c195
                  try clear c196
                  try clear c198
                  try clear c199
                  try clear c200
                  try clear c203
                  try clear c204
                  try clear c205
                  try clear c206
                  try clear c208
                  try clear c209
                  try clear c210
                  try clear hcz100_0 hcz100_1 hcz100_2 hcz100_3 hfz100_0 hfz100_1 hfz100_2 hfz100_3
                  try clear hcz103_0 hcz103_1 hcz103_2 hcz103_3 hcz103_4 hfz103_0 hfz103_1 hfz103_2 hfz103_3 hfz103_4
                  try clear hcz105_0 hcz105_1 hcz105_2 hcz105_3 hcz105_4 hfz105_0 hfz105_1 hfz105_2 hfz105_3 hfz105_4
                  try clear hcz106_0 hcz106_1 hcz106_2 hcz106_3 hcz106_4 hfz106_0 hfz106_1 hfz106_2 hfz106_3 hfz106_4
                  try clear hcz111_0 hcz111_1 hcz111_2 hcz111_3 hcz111_4 hfz111_0 hfz111_1 hfz111_2 hfz111_3 hfz111_4
                  try clear hcz115_0 hcz115_1 hcz115_2 hcz115_3 hfz115_0 hfz115_1 hfz115_2 hfz115_3
                  try clear hcz119_0 hcz119_1 hcz119_2 hcz119_3 hfz119_0 hfz119_1 hfz119_2 hfz119_3
                  try clear hcz122_0 hcz122_1 hcz122_2 hcz122_3 hcz122_4 hfz122_0 hfz122_1 hfz122_2 hfz122_3 hfz122_4
                  try clear hcz128_0 hcz128_1 hcz128_2 hcz128_3 hcz128_4 hfz128_0 hfz128_1 hfz128_2 hfz128_3 hfz128_4
                  try clear hcz12_0 hcz12_1 hcz12_2 hcz12_3 hcz12_4 hfz12_0 hfz12_1 hfz12_2 hfz12_3 hfz12_4
                  try clear hcz132_0 hcz132_1 hcz132_2 hcz132_3 hfz132_0 hfz132_1 hfz132_2 hfz132_3
                  try clear hcz136_0 hcz136_1 hcz136_2 hcz136_3 hfz136_0 hfz136_1 hfz136_2 hfz136_3
                  try clear hcz147_0 hcz147_1 hcz147_2 hcz147_3 hcz147_4 hfz147_0 hfz147_1 hfz147_2 hfz147_3 hfz147_4
                  try clear hcz151_0 hcz151_1 hcz151_2 hcz151_3 hfz151_0 hfz151_1 hfz151_2 hfz151_3
                  try clear hcz155_0 hcz155_1 hcz155_2 hcz155_3 hfz155_0 hfz155_1 hfz155_2 hfz155_3
                  try clear hcz158_0 hcz158_1 hcz158_2 hcz158_3 hcz158_4 hfz158_0 hfz158_1 hfz158_2 hfz158_3 hfz158_4
                  try clear hcz160_0 hcz160_1 hcz160_2 hcz160_3 hcz160_4 hfz160_0 hfz160_1 hfz160_2 hfz160_3 hfz160_4
                  try clear hcz161_0 hcz161_1 hcz161_2 hcz161_3 hcz161_4 hfz161_0 hfz161_1 hfz161_2 hfz161_3 hfz161_4
                  try clear hcz166_0 hcz166_1 hcz166_2 hcz166_3 hcz166_4 hfz166_0 hfz166_1 hfz166_2 hfz166_3 hfz166_4
                  try clear hcz16_0 hcz16_1 hcz16_2 hcz16_3 hcz16_4 hfz16_0 hfz16_1 hfz16_2 hfz16_3 hfz16_4
                  try clear hcz170_0 hcz170_1 hcz170_2 hcz170_3 hfz170_0 hfz170_1 hfz170_2 hfz170_3
                  try clear hcz174_0 hcz174_1 hcz174_2 hcz174_3 hfz174_0 hfz174_1 hfz174_2 hfz174_3
                  try clear hcz177_0 hcz177_1 hcz177_2 hcz177_3 hcz177_4 hfz177_0 hfz177_1 hfz177_2 hfz177_3 hfz177_4
                  try clear hcz17_0 hcz17_1 hcz17_2 hcz17_3 hcz17_4 hfz17_0 hfz17_1 hfz17_2 hfz17_3 hfz17_4
                  try clear hcz183_0 hcz183_1 hcz183_2 hcz183_3 hcz183_4 hfz183_0 hfz183_1 hfz183_2 hfz183_3 hfz183_4
                  try clear hcz187_0 hcz187_1 hcz187_2 hcz187_3 hfz187_0 hfz187_1 hfz187_2 hfz187_3
                  try clear hcz191_0 hcz191_1 hcz191_2 hcz191_3 hfz191_0 hfz191_1 hfz191_2 hfz191_3
                  try clear hcz197_0 hcz197_1 hcz197_2 hcz197_3 hcz197_4 hfz197_0 hfz197_1 hfz197_2 hfz197_3 hfz197_4
                  try clear hcz201_0 hcz201_1 hcz201_2 hcz201_3 hfz201_0 hfz201_1 hfz201_2 hfz201_3
                  try clear hcz207_0 hcz207_1 hcz207_2 hcz207_3 hcz207_4 hfz207_0 hfz207_1 hfz207_2 hfz207_3 hfz207_4
                  try clear hcz211_0 hcz211_1 hcz211_2 hcz211_3 hfz211_0 hfz211_1 hfz211_2 hfz211_3
                  try clear hcz22_0 hcz22_1 hcz22_2 hcz22_3 hcz22_4 hfz22_0 hfz22_1 hfz22_2 hfz22_3 hfz22_4
                  try clear hcz24_0 hcz24_1 hcz24_2 hcz24_3 hcz24_4 hfz24_0 hfz24_1 hfz24_2 hfz24_3 hfz24_4
                  try clear hcz26_0 hcz26_1 hcz26_2 hcz26_3 hcz26_4 hfz26_0 hfz26_1 hfz26_2 hfz26_3 hfz26_4
                  try clear hcz40_0 hcz40_1 hcz40_2 hcz40_3 hfz40_0 hfz40_1 hfz40_2 hfz40_3
                  try clear hcz44_0 hcz44_1 hcz44_2 hcz44_3 hfz44_0 hfz44_1 hfz44_2 hfz44_3
                  try clear hcz48_0 hcz48_1 hcz48_2 hcz48_3 hfz48_0 hfz48_1 hfz48_2 hfz48_3
                  try clear hcz52_0 hcz52_1 hcz52_2 hcz52_3 hfz52_0 hfz52_1 hfz52_2 hfz52_3
                  try clear hcz55_0 hcz55_1 hcz55_2 hcz55_3 hfz55_0 hfz55_1 hfz55_2 hfz55_3
                  try clear hcz61_0 hcz61_1 hcz61_2 hcz61_3 hcz61_4 hfz61_0 hfz61_1 hfz61_2 hfz61_3 hfz61_4
                  try clear hcz63_0 hcz63_1 hcz63_2 hcz63_3 hfz63_0 hfz63_1 hfz63_2 hfz63_3
                  try clear hcz69_0 hcz69_1 hcz69_2 hcz69_3 hfz69_0 hfz69_1 hfz69_2 hfz69_3
                  try clear hcz70_0 hcz70_1 hcz70_2 hcz70_3 hcz70_4 hfz70_0 hfz70_1 hfz70_2 hfz70_3 hfz70_4
                  try clear hcz71_0 hcz71_1 hcz71_2 hcz71_3 hfz71_0 hfz71_1 hfz71_2 hfz71_3
                  try clear hcz78_0 hcz78_1 hcz78_2 hcz78_3 hcz78_4 hfz78_0 hfz78_1 hfz78_2 hfz78_3 hfz78_4
                  try clear hcz92_0 hcz92_1 hcz92_2 hcz92_3 hcz92_4 hfz92_0 hfz92_1 hfz92_2 hfz92_3 hfz92_4
                  try clear hcz96_0 hcz96_1 hcz96_2 hcz96_3 hfz96_0 hfz96_1 hfz96_2 hfz96_3
                  try clear p2
                  obtain ⟨kq, x145_57, rfl, HA, HJ57, BK359, BK367, BK379, BK385, BK393, HB⟩ := hcut
                  as_aux_lemma =>
                   cases kq with
                   | zero => exact absurd HA.out (by simp [laws_FnVerdicts.j4])
                   | succ kj57 =>
                    have H := HA.out
                    clear HA
                    simp only [laws_FnVerdicts.j4] at H
                    by_cases c213 : x145_57 = true
                    ·subst c213
                     have H1 : (none) = some r := by rw [if_pos rfl] at H; exact H
                     clear H
                     have H := H1
                     clear H1
                     exact absurd H (by simp)
                    ·replace c213 := Bool.eq_false_iff.mpr c213
                     subst c213
                     have H1 : (if t391 = 3 then (if (true != (t386 == 0)) = true then (laws_FnVerdicts.j5 kj57 t368 x8_3 true t354 t355 t356 t357 t358) else (if t386 = 0 then (if t389 = true then (laws_FnVerdicts.j5 kj57 t368 x8_3 true t354 t355 t356 t357 t358) else (laws_FnVerdicts.j5 kj57 t368 x8_3 t388 t354 t355 t356 t357 t358)) else (laws_FnVerdicts.j5 kj57 t368 x8_3 false t354 t355 t356 t357 t358))) else (if ((t391 == 4) != (t386 == 0)) = true then (laws_FnVerdicts.j5 kj57 t368 x8_3 true t354 t355 t356 t357 t358) else (if t386 = 0 then (if t389 = true then (laws_FnVerdicts.j5 kj57 t368 x8_3 true t354 t355 t356 t357 t358) else (laws_FnVerdicts.j5 kj57 t368 x8_3 t388 t354 t355 t356 t357 t358)) else (laws_FnVerdicts.j5 kj57 t368 x8_3 false t354 t355 t356 t357 t358)))) = some r := by rw [if_neg (show ¬ (false = true) by decide)] at H; exact H
                     clear H
                     have H := H1
                     clear H1
                     have HC214 := aM H
                     clear H
                     go_upto_region 28 with (fail)
                     go_cut [168] (fun v168 wc => ∃ (kq : Nat) (x168_213 : Bool), v168 = .bool x168_213 ∧ Aside0 (laws_FnVerdicts.j5 kq t368 x8_3 x168_213 t354 t355 t356 t357 t358 = some r) ∧ Aside0 (kq ≤ kj57) ∧ Aside0 (wc.heap[gb359]? = some (.cells #[.int .i64 t354, .int .i64 t355, .bool t356, .bool t357, .bool t358] 24 (0, 0))) ∧ Aside0 (wc.heap[gb367]? = some (.cells #[.int .i64 t360, .int .i64 t361, .bool t362, .bool t363, .bool t364] 24 (0, 0))) ∧ Aside0 (wc.heap[gb379]? = some (.cells #[.int .i64 x380000_35, .int .i64 x380001_35, .int .i64 x380002_35, .int .i64 x380003_35] 37 (0, 0))) ∧ Aside0 (wc.heap[gb385]? = some (.cells #[.bool t380, .bool t381, .bool t382, .bool t383] 50 (0, 0))) ∧ Aside0 (wc.heap[gb393]? = some (.cells #[.int .i64 t386, .int .i64 t387, .bool t388, .bool t389, .bool t390] 24 (0, 0))) ∧ Aside0 (Below w.heap.size w wc))
                     case first =>
                      have H := HC214.out
                      clear HC214
                      by_cases c215 : t391 = 3
                      ·rw [if_pos c215] at H
                       have c215b0 : (t391 == 3) = true := beq_iff_eq.mpr c215
                       have c215b1 : (t391 != 3) = false := bne_eq_false_iff_eq.mpr c215
                       clear c215
                       (first | rw [c215b0] | (simp only [i64_w, i32_w]; rw [c215b0]) | skip)
                       by_cases c216 : (true != (t386 == 0)) = true
                       ·rw [if_pos c216] at H
                        have c216b0 : (true != (t386 == 0)) = true := c216
                        (try (have c216b1 : decide (true = (t386 == 0)) = false := by simpa using c216))
                        (try (have c216b2 : (true == (t386 == 0)) = false := by simpa using c216))
                        (try (have c216b3 : ¬ (true = (t386 == 0)) := by simpa using c216))
                        clear c216
                        have H' := aM H
                        clear H
                        have hnb217 := NB393_359.out
                        have hnc217 := NB359_393.out
                        have hnb218 := NB393_367.out
                        have hnc218 := NB367_393.out
                        have hnb219 := NB393_379.out
                        have hnc219 := NB379_393.out
                        have hnb220 := NB393_385.out
                        have hnc220 := NB385_393.out
                        obtain ⟨hcz221_0, hcz221_1, hcz221_2, hcz221_3, hcz221_4, hfz221_0, hfz221_1, hfz221_2, hfz221_3, hfz221_4⟩ := cells5 BK393.out
                        go_wp2
                        go_meet
                        case rel => exact ⟨_, (true), zs, H', ⟨by have := HJ7.out; have := HJ29.out; have := HK3.out; have := HJ35.out; have := HJ57.out; first | omega | exact Nat.le_refl _⟩, ⟨by exact pk BK359.out⟩, ⟨by exact pk BK367.out⟩, ⟨by exact pk BK379.out⟩, ⟨by exact pk BK385.out⟩, ⟨by exact pk BK393.out⟩, ⟨zb⟩⟩
                       ·rw [if_neg c216] at H
                        have c216b0 : (true != (t386 == 0)) = false := by simpa using c216
                        (try (have c216b1 : decide (true = (t386 == 0)) = true := by simpa using c216))
                        (try (have c216b2 : (true == (t386 == 0)) = true := by simpa using c216))
                        clear c216
                        by_cases c222 : t386 = 0
                        ·rw [if_pos c222] at H
                         have c222b0 : (t386 == 0) = true := beq_iff_eq.mpr c222
                         have c222b1 : (t386 != 0) = false := bne_eq_false_iff_eq.mpr c222
                         clear c222
                         by_cases c223 : t389 = true
                         ·subst c223
                          have H1 : (laws_FnVerdicts.j5 kj57 t368 x8_3 true t354 t355 t356 t357 t358) = some r := by rw [if_pos rfl] at H; exact H
                          clear H
                          have H := H1
                          clear H1
                          have H' := aM H
                          clear H
                          have hnb224 := NB393_359.out
                          have hnc224 := NB359_393.out
                          have hnb225 := NB393_367.out
                          have hnc225 := NB367_393.out
                          have hnb226 := NB393_379.out
                          have hnc226 := NB379_393.out
                          have hnb227 := NB393_385.out
                          have hnc227 := NB385_393.out
                          obtain ⟨hcz228_0, hcz228_1, hcz228_2, hcz228_3, hcz228_4, hfz228_0, hfz228_1, hfz228_2, hfz228_3, hfz228_4⟩ := cells5 BK393.out
                          go_wp2
                          go_meet
                          case rel => exact ⟨_, (true), zs, H', ⟨by have := HJ7.out; have := HJ29.out; have := HK3.out; have := HJ35.out; have := HJ57.out; first | omega | exact Nat.le_refl _⟩, ⟨by exact pk BK359.out⟩, ⟨by exact pk BK367.out⟩, ⟨by exact pk BK379.out⟩, ⟨by exact pk BK385.out⟩, ⟨by exact pk BK393.out⟩, ⟨zb⟩⟩
                         ·replace c223 := Bool.eq_false_iff.mpr c223
                          subst c223
                          have H1 : (laws_FnVerdicts.j5 kj57 t368 x8_3 t388 t354 t355 t356 t357 t358) = some r := by rw [if_neg (show ¬ (false = true) by decide)] at H; exact H
                          clear H
                          have H := H1
                          clear H1
                          have H' := aM H
                          clear H
                          have hnb229 := NB393_359.out
                          have hnc229 := NB359_393.out
                          have hnb230 := NB393_367.out
                          have hnc230 := NB367_393.out
                          have hnb231 := NB393_379.out
                          have hnc231 := NB379_393.out
                          have hnb232 := NB393_385.out
                          have hnc232 := NB385_393.out
                          obtain ⟨hcz233_0, hcz233_1, hcz233_2, hcz233_3, hcz233_4, hfz233_0, hfz233_1, hfz233_2, hfz233_3, hfz233_4⟩ := cells5 BK393.out
                          go_wp2
                          go_meet
                          case rel => exact ⟨_, (t388), zs, H', ⟨by have := HJ7.out; have := HJ29.out; have := HK3.out; have := HJ35.out; have := HJ57.out; first | omega | exact Nat.le_refl _⟩, ⟨by exact pk BK359.out⟩, ⟨by exact pk BK367.out⟩, ⟨by exact pk BK379.out⟩, ⟨by exact pk BK385.out⟩, ⟨by exact pk BK393.out⟩, ⟨zb⟩⟩
                        ·rw [if_neg c222] at H
                         have c222b0 : (t386 == 0) = false := beq_eq_false_iff_ne.mpr c222
                         have c222b1 : (t386 != 0) = true := bne_iff_ne.mpr c222
                         exact absurd c216b0 (by rw [c222b0]; decide)
                      ·rw [if_neg c215] at H
                       have c215b0 : (t391 == 3) = false := beq_eq_false_iff_ne.mpr c215
                       have c215b1 : (t391 != 3) = true := bne_iff_ne.mpr c215
                       (first | rw [c215b0] | (simp only [i64_w, i32_w]; rw [c215b0]) | skip)
                       by_cases c239 : ((t391 == 4) != (t386 == 0)) = true
                       ·rw [if_pos c239] at H
                        have c239b0 : ((t391 == 4) != (t386 == 0)) = true := c239
                        (try (have c239b1 : decide ((t391 == 4) = (t386 == 0)) = false := by simpa using c239))
                        (try (have c239b2 : ((t391 == 4) == (t386 == 0)) = false := by simpa using c239))
                        (try (have c239b3 : ¬ ((t391 == 4) = (t386 == 0)) := by simpa using c239))
                        try clear c222b0
                        clear c239
                        have H' := aM H
                        clear H
                        have hnb240 := NB393_359.out
                        have hnc240 := NB359_393.out
                        have hnb241 := NB393_367.out
                        have hnc241 := NB367_393.out
                        have hnb242 := NB393_379.out
                        have hnc242 := NB379_393.out
                        have hnb243 := NB393_385.out
                        have hnc243 := NB385_393.out
                        obtain ⟨hcz244_0, hcz244_1, hcz244_2, hcz244_3, hcz244_4, hfz244_0, hfz244_1, hfz244_2, hfz244_3, hfz244_4⟩ := cells5 BK393.out
                        go_wp2
                        go_meet
                        case rel => exact ⟨_, (true), zs, H', ⟨by have := HJ7.out; have := HJ29.out; have := HK3.out; have := HJ35.out; have := HJ57.out; first | omega | exact Nat.le_refl _⟩, ⟨by exact pk BK359.out⟩, ⟨by exact pk BK367.out⟩, ⟨by exact pk BK379.out⟩, ⟨by exact pk BK385.out⟩, ⟨by exact pk BK393.out⟩, ⟨zb⟩⟩
                       ·rw [if_neg c239] at H
                        have c239b0 : ((t391 == 4) != (t386 == 0)) = false := by simpa using c239
                        (try (have c239b1 : decide ((t391 == 4) = (t386 == 0)) = true := by simpa using c239))
                        (try (have c239b2 : ((t391 == 4) == (t386 == 0)) = true := by simpa using c239))
                        try clear c222b0
                        clear c239
                        by_cases c245 : t386 = 0
                        ·rw [if_pos c245] at H
                         have c245b0 : (t386 == 0) = true := beq_iff_eq.mpr c245
                         have c245b1 : (t386 != 0) = false := bne_eq_false_iff_eq.mpr c245
                         clear c245
                         have ht391 : t391 = 4 := by simpa [c245b0] using c239b0
                         subst ht391
                         by_cases c246 : t389 = true
                         ·subst c246
                          have H1 : (laws_FnVerdicts.j5 kj57 t368 x8_3 true t354 t355 t356 t357 t358) = some r := by rw [if_pos rfl] at H; exact H
                          clear H
                          have H := H1
                          clear H1
                          have H' := aM H
                          clear H
                          have hnb247 := NB393_359.out
                          have hnc247 := NB359_393.out
                          have hnb248 := NB393_367.out
                          have hnc248 := NB367_393.out
                          have hnb249 := NB393_379.out
                          have hnc249 := NB379_393.out
                          have hnb250 := NB393_385.out
                          have hnc250 := NB385_393.out
                          obtain ⟨hcz251_0, hcz251_1, hcz251_2, hcz251_3, hcz251_4, hfz251_0, hfz251_1, hfz251_2, hfz251_3, hfz251_4⟩ := cells5 BK393.out
                          go_wp2
                          go_meet
                          case rel => exact ⟨_, (true), zs, H', ⟨by have := HJ7.out; have := HJ29.out; have := HK3.out; have := HJ35.out; have := HJ57.out; first | omega | exact Nat.le_refl _⟩, ⟨by exact pk BK359.out⟩, ⟨by exact pk BK367.out⟩, ⟨by exact pk BK379.out⟩, ⟨by exact pk BK385.out⟩, ⟨by exact pk BK393.out⟩, ⟨zb⟩⟩
                         ·replace c246 := Bool.eq_false_iff.mpr c246
                          subst c246
                          have H1 : (laws_FnVerdicts.j5 kj57 t368 x8_3 t388 t354 t355 t356 t357 t358) = some r := by rw [if_neg (show ¬ (false = true) by decide)] at H; exact H
                          clear H
                          have H := H1
                          clear H1
                          have H' := aM H
                          clear H
                          have hnb252 := NB393_359.out
                          have hnc252 := NB359_393.out
                          have hnb253 := NB393_367.out
                          have hnc253 := NB367_393.out
                          have hnb254 := NB393_379.out
                          have hnc254 := NB379_393.out
                          have hnb255 := NB393_385.out
                          have hnc255 := NB385_393.out
                          obtain ⟨hcz256_0, hcz256_1, hcz256_2, hcz256_3, hcz256_4, hfz256_0, hfz256_1, hfz256_2, hfz256_3, hfz256_4⟩ := cells5 BK393.out
                          go_wp2
                          go_meet
                          case rel => exact ⟨_, (t388), zs, H', ⟨by have := HJ7.out; have := HJ29.out; have := HK3.out; have := HJ35.out; have := HJ57.out; first | omega | exact Nat.le_refl _⟩, ⟨by exact pk BK359.out⟩, ⟨by exact pk BK367.out⟩, ⟨by exact pk BK379.out⟩, ⟨by exact pk BK385.out⟩, ⟨by exact pk BK393.out⟩, ⟨zb⟩⟩
                        ·rw [if_neg c245] at H
                         have c245b0 : (t386 == 0) = false := beq_eq_false_iff_ne.mpr c245
                         have c245b1 : (t386 != 0) = true := bne_iff_ne.mpr c245
                         have ht391 : (t391 == 4) = false := by simpa [c245b0] using c239b0
                         try clear c239b0
                         try clear c239b1
                         try clear c239b2
                         have H' := aM H
                         clear H
                         have hnb257 := NB393_359.out
                         have hnc257 := NB359_393.out
                         have hnb258 := NB393_367.out
                         have hnc258 := NB367_393.out
                         have hnb259 := NB393_379.out
                         have hnc259 := NB379_393.out
                         have hnb260 := NB393_385.out
                         have hnc260 := NB385_393.out
                         obtain ⟨hcz261_0, hcz261_1, hcz261_2, hcz261_3, hcz261_4, hfz261_0, hfz261_1, hfz261_2, hfz261_3, hfz261_4⟩ := cells5 BK393.out
                         go_wp2
                         go_meet
                         case rel => exact ⟨_, (false), zs, H', ⟨by have := HJ7.out; have := HJ29.out; have := HK3.out; have := HJ35.out; have := HJ57.out; first | omega | exact Nat.le_refl _⟩, ⟨by exact pk BK359.out⟩, ⟨by exact pk BK367.out⟩, ⟨by exact pk BK379.out⟩, ⟨by exact pk BK385.out⟩, ⟨by exact pk BK393.out⟩, ⟨zb⟩⟩
                     case rest =>
                      clear HC214
                      try clear c2
                      try clear p2
                      try clear c21
                      try clear c22
                      try clear c23
                      try clear c24
                      try clear c25
                      try clear c26
                      try clear c213
                      try clear c215
                      try clear c215b0
                      try clear c215b1
                      try clear c216
                      try clear c216b0
                      try clear c216b1
                      try clear c216b2
                      try clear c217
                      try clear c218
                      try clear c219
                      try clear c220
                      try clear c222
                      try clear c222b0
                      try clear c222b1
                      try clear c223
                      try clear c224
                      try clear c225
                      try clear c226
                      try clear c227
                      try clear c229
                      try clear c230
                      try clear c231
                      try clear c232
                      try clear c234
                      try clear c235
                      try clear c236
                      try clear c237
                      try clear c239
                      try clear c239b0
                      try clear c239b1
                      try clear c239b2
                      try clear c240
                      try clear c241
                      try clear c242
                      try clear c243
                      try clear c245
                      try clear c245b0
                      try clear c245b1
                      try clear c246
                      try clear c247
                      try clear c248
                      try clear c249
                      try clear c250
                      try clear c252
                      try clear c253
                      try clear c254
                      try clear c255
                      try clear c257
                      try clear c258
                      try clear c259
                      try clear c260
                      try clear hcz183_3 hcz183_4 hfz183_0 hfz183_1 hfz183_2 hfz183_3 hfz183_4
                      try clear hcz187_0 hcz187_1 hcz187_2 hcz187_3 hfz187_0 hfz187_1 hfz187_2 hfz187_3
                      try clear hcz191_0 hcz191_1 hcz191_2 hcz191_3 hfz191_0 hfz191_1 hfz191_2 hfz191_3
                      try clear hcz197_0 hcz197_1 hcz197_2 hcz197_3 hcz197_4 hfz197_0 hfz197_1 hfz197_2 hfz197_3 hfz197_4
                      try clear hcz201_0 hcz201_1 hcz201_2 hcz201_3 hfz201_0 hfz201_1 hfz201_2 hfz201_3
                      try clear hcz207_0 hcz207_1 hcz207_2 hcz207_3 hcz207_4 hfz207_0 hfz207_1 hfz207_2 hfz207_3 hfz207_4
                      try clear hcz211_0 hcz211_1 hcz211_2 hcz211_3 hfz211_0 hfz211_1 hfz211_2 hfz211_3
                      try clear hcz221_0 hcz221_1 hcz221_2 hcz221_3 hcz221_4 hfz221_0 hfz221_1 hfz221_2 hfz221_3 hfz221_4
                      try clear hcz228_0 hcz228_1 hcz228_2 hcz228_3 hcz228_4 hfz228_0 hfz228_1 hfz228_2 hfz228_3 hfz228_4
                      try clear hcz22_0 hcz22_1 hcz22_2 hcz22_3 hcz22_4 hfz22_0 hfz22_1 hfz22_2 hfz22_3 hfz22_4
                      try clear hcz233_0 hcz233_1 hcz233_2 hcz233_3 hcz233_4 hfz233_0 hfz233_1 hfz233_2 hfz233_3 hfz233_4
                      try clear hcz238_0 hcz238_1 hcz238_2 hcz238_3 hcz238_4 hfz238_0 hfz238_1 hfz238_2 hfz238_3 hfz238_4
                      try clear hcz244_0 hcz244_1 hcz244_2 hcz244_3 hcz244_4 hfz244_0 hfz244_1 hfz244_2 hfz244_3 hfz244_4
                      try clear hcz24_0 hcz24_1 hcz24_2 hcz24_3 hcz24_4 hfz24_0 hfz24_1 hfz24_2 hfz24_3 hfz24_4
                      try clear hcz251_0 hcz251_1 hcz251_2 hcz251_3 hcz251_4 hfz251_0 hfz251_1 hfz251_2 hfz251_3 hfz251_4
                      try clear hcz256_0 hcz256_1 hcz256_2 hcz256_3 hcz256_4 hfz256_0 hfz256_1 hfz256_2 hfz256_3 hfz256_4
                      try clear hcz261_0 hcz261_1 hcz261_2 hcz261_3 hcz261_4 hfz261_0 hfz261_1 hfz261_2 hfz261_3 hfz261_4
                      try clear hcz26_0 hcz26_1 hcz26_2 hcz26_3 hcz26_4 hfz26_0 hfz26_1 hfz26_2 hfz26_3 hfz26_4
                      try clear hcz40_0 hcz40_1 hcz40_2 hcz40_3 hfz40_0 hfz40_1 hfz40_2 hfz40_3
                      try clear hcz44_0 hcz44_1 hcz44_2 hcz44_3 hfz44_0 hfz44_1 hfz44_2 hfz44_3
                      try clear hcz48_0 hcz48_1 hcz48_2 hcz48_3 hfz48_0 hfz48_1 hfz48_2 hfz48_3
                      try clear hcz52_0 hcz52_1 hcz52_2 hcz52_3 hfz52_0 hfz52_1 hfz52_2 hfz52_3
                      try clear hcz55_0 hcz55_1 hcz55_2 hcz55_3 hfz55_0 hfz55_1 hfz55_2 hfz55_3
                      try clear hcz61_0 hcz61_1 hcz61_2 hcz61_3 hcz61_4 hfz61_0 hfz61_1 hfz61_2 hfz61_3 hfz61_4
                      try clear hcz63_0 hcz63_1 hcz63_2 hcz63_3 hfz63_0 hfz63_1 hfz63_2 hfz63_3
                      try clear hcz69_0 hcz69_1 hcz69_2 hcz69_3 hfz69_0 hfz69_1 hfz69_2 hfz69_3
                      try clear hcz70_0 hcz70_1 hcz70_2 hcz70_3 hcz70_4 hfz70_0 hfz70_1 hfz70_2 hfz70_3 hfz70_4
                      try clear hcz71_0 hcz71_1 hcz71_2 hcz71_3 hfz71_0 hfz71_1 hfz71_2 hfz71_3
                      try clear hcz78_0 hcz78_1 hcz78_2 hcz78_3 hcz78_4 hfz78_0 hfz78_1 hfz78_2 hfz78_3 hfz78_4
                      try clear hcz92_0 hcz92_1 hcz92_2 hcz92_3 hcz92_4 hfz92_0 hfz92_1 hfz92_2 hfz92_3 hfz92_4
                      try clear hcz96_0 hcz96_1 hcz96_2 hcz96_3 hfz96_0 hfz96_1 hfz96_2 hfz96_3
                      try clear hfz100_0 hfz100_1 hfz100_2 hfz100_3
                      try clear hfz103_0 hfz103_1 hfz103_2 hfz103_3 hfz103_4
                      try clear hfz105_0 hfz105_1 hfz105_2 hfz105_3 hfz105_4
                      try clear hfz106_0 hfz106_1 hfz106_2 hfz106_3 hfz106_4
                      try clear hfz111_0 hfz111_1 hfz111_2 hfz111_3 hfz111_4
                      try clear hfz115_0 hfz115_1 hfz115_2 hfz115_3
                      try clear hfz119_0 hfz119_1 hfz119_2 hfz119_3
                      try clear hfz122_0 hfz122_1 hfz122_2 hfz122_3 hfz122_4
                      try clear hfz128_0 hfz128_1 hfz128_2 hfz128_3 hfz128_4
                      try clear hfz12_0 hfz12_1 hfz12_2 hfz12_3 hfz12_4
                      try clear hfz132_0 hfz132_1 hfz132_2 hfz132_3
                      try clear hfz136_0 hfz136_1 hfz136_2 hfz136_3
                      try clear hfz147_0 hfz147_1 hfz147_2 hfz147_3 hfz147_4
                      try clear hfz151_0 hfz151_1 hfz151_2 hfz151_3
                      try clear hfz155_0 hfz155_1 hfz155_2 hfz155_3
                      try clear hfz158_0 hfz158_1 hfz158_2 hfz158_3 hfz158_4
                      try clear hfz160_0 hfz160_1 hfz160_2 hfz160_3 hfz160_4
                      try clear hfz161_0 hfz161_1 hfz161_2 hfz161_3 hfz161_4
                      try clear hfz166_0 hfz166_1 hfz166_2 hfz166_3 hfz166_4
                      try clear hfz16_0 hfz16_1 hfz16_2 hfz16_3 hfz16_4
                      try clear hfz170_0 hfz170_1 hfz170_2 hfz170_3
                      try clear hfz174_0 hfz174_1 hfz174_2 hfz174_3
                      try clear hfz177_0 hfz177_1 hfz177_2 hfz177_3 hfz177_4
                      try clear hfz17_0 hfz17_1 hfz17_2 hfz17_3 hfz17_4
                      try clear p2
                      obtain ⟨kq, x168_213, rfl, HA, HJ213, BK359, BK367, BK379, BK385, BK393, HB⟩ := hcut
                      as_aux_lemma =>
                       cases kq with
                       | zero => exact absurd HA.out (by simp [laws_FnVerdicts.j5])
                       | succ kj213 =>
                        have H := HA.out
                        clear HA
                        simp only [laws_FnVerdicts.j5] at H
                        by_cases c262 : x168_213 = true
                        ·subst c262
                         have H1 : (none) = some r := by rw [if_pos rfl] at H; exact H
                         clear H
                         have H := H1
                         clear H1
                         exact absurd H (by simp)
                        ·replace c262 := Bool.eq_false_iff.mpr c262
                         subst c262
                         have H1 : (laws_FnVerdicts.l0 kj213 t368 (wrap64 (x8_3 + 1)) t354 t355 t356 t357 t358) = some r := by rw [if_neg (show ¬ (false = true) by decide)] at H; exact H
                         clear H
                         have H := H1
                         clear H1
                         have H' := aM H
                         clear H
                         go_wp2
                         go_roundg kj213
                         case measure => have := HJ7.out; have := HJ29.out; have := HK3.out; have := HJ35.out; have := HJ57.out; have := HJ213.out; omega
                         case rel => exact ⟨(wrap64 (x8_3 + 1)), zs, H', ⟨by have := HJ7.out; have := HJ29.out; have := HK3.out; have := HJ35.out; have := HJ57.out; have := HJ213.out; omega⟩, ⟨by exact pk BK359.out⟩, ⟨by exact pk BK367.out⟩, ⟨zb⟩⟩
             ·rw [if_neg c35] at H
              have c35b0 : decide (x8_3 < 8) = false := decide_eq_false c35
              clear c35
              replace H := Option.bind_eq_some_iff.mp H
              obtain ⟨⟨t371, t372, t373, t374, t375, t376, t377⟩, A2630, H⟩ := H
              replace H : (if t377 = true then (if (t371 == 0 && (t372 == 0 && (!t373 && (!t374 && (t375 == t358))))) = true then (some ((t376 == 3) == (t358 == (t354 == 1)))) else (none)) else (none)) = some r := H
              have A263 := aM A2630
              clear A2630
              by_cases c264 : t377 = true
              ·subst c264
               have H1 : (if (t371 == 0 && (t372 == 0 && (!t373 && (!t374 && (t375 == t358))))) = true then (some ((t376 == 3) == (t358 == (t354 == 1)))) else (none)) = some r := by rw [if_pos rfl] at H; exact H
               clear H
               have H := H1
               clear H1
               by_cases c265 : (t371 == 0 && (t372 == 0 && (!t373 && (!t374 && (t375 == t358))))) = true
               ·rw [if_pos c265] at H
                have c265b0 : (t371 == 0 && (t372 == 0 && (!t373 && (!t374 && (t375 == t358))))) = true := c265
                (try (have c265b1 : decide (t371 = 0 && (t372 == 0 && (!t373 && (!t374 && (t375 == t358))))) = true := by simpa using c265))
                (try (have c265b2 : (t371 == 0 && (t372 == 0 && (!t373 && (!t374 && (t375 == t358))))) = true := by simpa using c265))
                clear c265
                obtain rfl := Option.some.inj H
                have hnb266 := NB359_367.out
                have hnc266 := NB367_359.out
                obtain ⟨hcz267_0, hcz267_1, hcz267_2, hcz267_3, hcz267_4, hfz267_0, hfz267_1, hfz267_2, hfz267_3, hfz267_4⟩ := cells5 BK359.out
                go_wp2_with (first | ((with_reducible refine gate_callee (f := 15) rfl ?_); refine goesL_ (some 171) rfl rfl Try.func15 (by kernel_rfl) rfl #[.agg #[.int .i64 t354, .int .i64 t355, .bool t356, .bool t357, .bool t358]] rfl za ?_; (with_reducible refine (impl_Inspect.calls k3 t354 t355 t356 t357 t358 t371 t372 t373 t374 t375 t376 true _ A263.out).mono ?_); rintro e w268 ⟨rfl, hb⟩; refine ⟨_, rfl, ?_⟩; have n0_ := aM (bb BK359.out hb); have n1_ := aM (bb BK367.out hb); have n2_ := aM (below_step (zb) hb); clear BK359; clear BK367; clear HB; have BK359 := n0_; have BK367 := n1_; have HB := n2_; clear n0_ n1_ n2_; (try clear hb); (try clear hb2); (try clear hk); (try clear hi)) | ((with_reducible refine gate_dst (N := 15) rfl ?_); refine box_event ?hg (N := 15) ?hd (cs := #[.int .i64 0, .int .i64 0, .bool false, .bool false, .bool false]) (t := 24) ?hr ?_; (case hd => rfl); (case hg => rfl); (case hr => exact zg); intro gb378 hg w269 hbox hb; have n0_ := aM (bb BK359.out hb); have n1_ := aM (bb BK367.out hb); have n2_ := aM (below_step (zb) hb); have n3_ := aM (hbox); have n4_ := aM ((by rw [hg]; exact (below_size (zb)) : w.heap.size ≤ gb378)); have n5_ := aM ((by rw [hg]; exact (below_size (zb)) : w.heap.size ≤ gb378)); have n6_ := aM ((by rw [hg]; exact Nat.ne_of_lt (nl BK359.out) : gb359 ≠ gb378)); have n7_ := aM ((by rw [hg]; exact Nat.ne_of_gt (nl BK359.out) : gb378 ≠ gb359)); have n8_ := aM ((by rw [hg]; exact Nat.ne_of_lt (nl BK367.out) : gb367 ≠ gb378)); have n9_ := aM ((by rw [hg]; exact Nat.ne_of_gt (nl BK367.out) : gb378 ≠ gb367)); clear BK359; clear BK367; clear HB; have BK359 := n0_; have BK367 := n1_; have HB := n2_; have BK378 := n3_; have GW378 := n4_; have GE378 := n5_; have NB359_378 := n6_; have NB378_359 := n7_; have NB367_378 := n8_; have NB378_367 := n9_; clear n0_ n1_ n2_ n3_ n4_ n5_ n6_ n7_ n8_ n9_; clear hb hbox hg; have hnb270 := NB378_359.out; have hnc270 := NB359_378.out; have hnb271 := NB378_367.out; have hnc271 := NB367_378.out; obtain ⟨hcz272_0, hcz272_1, hcz272_2, hcz272_3, hcz272_4, hfz272_0, hfz272_1, hfz272_2, hfz272_3, hfz272_4⟩ := cells5 BK378.out; obtain ⟨hcz273_0, hcz273_1, hcz273_2, hcz273_3, hcz273_4, hfz273_0, hfz273_1, hfz273_2, hfz273_3, hfz273_4⟩ := cells5 BK359.out))
                go_ret
                exact ⟨zr, zb⟩
               ·rw [if_neg c265] at H
                exact absurd H (by simp)
              ·replace c264 := Bool.eq_false_iff.mpr c264
               subst c264
               have H1 : (none) = some r := by rw [if_neg (show ¬ (false = true) by decide)] at H; exact H
               clear H
               have H := H1
               clear H1
               exact absurd H (by simp)
      ·replace c29 := Bool.eq_false_iff.mpr c29
       subst c29
       have H1 : (if (t360 == t354 && (t361 == t355 && (t362 == t356 && (t363 == t357 && (t364 == t358))))) = true then (if t365 = 0 then (some (t368 == 0)) else (none)) else (none)) = some r := by rw [if_neg (show ¬ (false = true) by decide)] at H; exact H
       clear H
       have H := H1
       clear H1
       by_cases c274 : (t360 == t354 && (t361 == t355 && (t362 == t356 && (t363 == t357 && (t364 == t358))))) = true
       ·rw [if_pos c274] at H
        have c274b0 : (t360 == t354 && (t361 == t355 && (t362 == t356 && (t363 == t357 && (t364 == t358))))) = true := c274
        (try (have c274b1 : decide (t360 = t354 && (t361 == t355 && (t362 == t356 && (t363 == t357 && (t364 == t358))))) = true := by simpa using c274))
        (try (have c274b2 : (t360 == t354 && (t361 == t355 && (t362 == t356 && (t363 == t357 && (t364 == t358))))) = true := by simpa using c274))
        clear c274
        by_cases c275 : t365 = 0
        ·rw [if_pos c275] at H
         have c275b0 : (t365 == 0) = true := beq_iff_eq.mpr c275
         have c275b1 : (t365 != 0) = false := bne_eq_false_iff_eq.mpr c275
         clear c275
         obtain rfl := Option.some.inj H
         have hnb276 := NB367_359.out
         have hnc276 := NB359_367.out
         obtain ⟨hcz277_0, hcz277_1, hcz277_2, hcz277_3, hcz277_4, hfz277_0, hfz277_1, hfz277_2, hfz277_3, hfz277_4⟩ := cells5 BK367.out
         obtain ⟨hcz278_0, hcz278_1, hcz278_2, hcz278_3, hcz278_4, hfz278_0, hfz278_1, hfz278_2, hfz278_3, hfz278_4⟩ := cells5 BK359.out
         go_wp2
         go_ret
         exact ⟨zr, zb⟩
        ·rw [if_neg c275] at H
         exact absurd H (by simp)
       ·rw [if_neg c274] at H
        exact absurd H (by simp)

/-- THE ONE PURE STATEMENT of laws_FnVerdicts: yours. -/
def laws_FnVerdicts.Pure : Prop := ∀ (l0 : List Int), l0.length ≤ maxLen → l0.length * 1 ≤ 140737488351232 → (∀ x ∈ l0, (Lit.int .u8 x).wf = true) → ∃ k, laws_FnVerdicts.f k l0 = some true
theorem laws_FnVerdicts.walk (P : laws_FnVerdicts.Pure) (a0 : Option Addr) (len0 cap0 : Nat) (z0 : List Int) (w : World) (w0 : (a0 = none ∧ len0 = 0 ∧ cap0 = 0 ∧ z0 = []) ∨ ∃ x, a0 = some x ∧ len0 ≤ cap0 ∧ cap0 ≤ maxLen ∧ z0.length = cap0 ∧ (∀ i, i < z0.length → w.cell? (x.add i) = some (.int .u8 (z0.getD i 0))) ∧ ∀ n ∈ z0, (Lit.int .u8 n).wf = true) (y0 : len0 * 1 ≤ 140737488351232) :
  Calls Try.prog 9 #[.slice a0 len0 cap0] w fun e w' => e = .returned (.bool true) ∧ Below w.heap.size w w' := by
 obtain ⟨l0, rfl, hr0, hm0, hw0, hc0⟩ := ReadsInt.ofRowC w0
 obtain ⟨k, h⟩ := P l0 hm0 y0 hw0
 refine (laws_FnVerdicts.calls k _ _ l0 true w (Kd.C_of_reads (d := (0 : Int)) (h1 := fun _ => rfl) hr0) hc0 h).mono ?_
 rintro e w' ⟨rfl, hd⟩
 exact ⟨rfl, hd⟩

end Go.Proofs.Ytglpkjcblpjnoab.QFnVerdicts
