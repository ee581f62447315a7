-- Printed functions and their walks: by print.py, turned by wip/tools/myprint.py.
import Derived.Test.YtglpkjcblpjnoabQFnOpeningsx0
import Derived.Test.YtglpkjcblpjnoabQFnOpeningsx1
import Derived.Test.YtglpkjcblpjnoabQFnOpeningsx2
import Derived.Test.YtglpkjcblpjnoabQFnOpeningsx3
namespace Go.Proofs.Ytglpkjcblpjnoab.QFnOpenings
open Go.RowKit Go.Proofs.YtglpkjcblpjnoabW.PrintWords Go.Proofs.YtglpkjcblpjnoabW.PrintLast Go.Proofs.YtglpkjcblpjnoabW.PrintMore
attribute [local go_sem] max2_int min2_int max_two min_two max_three min_three max_four min_four   -- for this text's walks alone
set_option linter.unusedVariables false
set_option linter.unusedSimpArgs false

attribute [local go_sem high] eqA24
/-! ### laws_FnOpenings: function 8 -/
mutual
def laws_FnOpenings.j0 : Nat → List Int → Int → Int → Int → Bool → Bool → Bool → Option (Bool)
 | 0, _, _, _, _, _, _, _ => none
 | k + 1, x0, x4, x161000, x161001, x161002, x161003, x161004 => (impl_BeginDoor.f k x161000 x161001 x161002 x161003 x161004 x4).bind fun bt161 => ((impl_BeginDoor.f k x161000 x161001 x161002 x161003 x161004 (wrap64 (3 - x4))).bind fun bt168 => (laws_FnOpenings.l0 k x0 bt161.2.2.2.2.2 bt168.2.2.2.2.2 0 x161000 x161001 x161002 x161003 x161004 bt161.1 bt161.2.1 bt161.2.2.1 bt161.2.2.2.1 bt161.2.2.2.2.1 bt161.1 bt161.2.1 bt161.2.2.1 bt161.2.2.2.1 bt161.2.2.2.2.1))
def laws_FnOpenings.l0 : Nat → List Int → Bool → Bool → Int → Int → Int → Bool → Bool → Bool → Int → Int → Bool → Bool → Bool → Int → Int → Bool → Bool → Bool → Option (Bool)
 | 0, _, _, _, _, _, _, _, _, _, _, _, _, _, _, _, _, _, _, _ => none
 | k + 1, x0, x6, x8, x10, x161000, x161001, x161002, x161003, x161004, x168000, x168001, x168002, x168003, x168004, x176000, x176001, x176002, x176003, x176004 => if x10 < 6 then ((impl_Advance.f k x176000 x176001 x176002 x176003 x176004).bind fun bt176 => (if bt176.2.2.2.2.2 = true then ((impl_StepName.f x176001).bind fun t183 => (if t183.toList = ([] : List UInt8) then (laws_FnOpenings.j2 k x0 x6 x8 x10 true x161000 x161001 x161002 x161003 x161004 x168000 x168001 x168002 x168003 x168004 bt176.1 bt176.2.1 bt176.2.2.1 bt176.2.2.2.1 bt176.2.2.2.2.1) else ((impl_DoorOk.f k bt176.1 bt176.2.1 bt176.2.2.1 bt176.2.2.2.1 bt176.2.2.2.2.1).bind fun t184 => (laws_FnOpenings.j2 k x0 x6 x8 x10 (!t184) x161000 x161001 x161002 x161003 x161004 x168000 x168001 x168002 x168003 x168004 bt176.1 bt176.2.1 bt176.2.2.1 bt176.2.2.2.1 bt176.2.2.2.2.1)))) else (laws_FnOpenings.j2 k x0 x6 x8 x10 true x161000 x161001 x161002 x161003 x161004 x168000 x168001 x168002 x168003 x168004 bt176.1 bt176.2.1 bt176.2.2.1 bt176.2.2.2.1 bt176.2.2.2.2.1))) else ((spec_DrawPlaces.f k x0).bind fun t185 => (if 1 < (t185.length : Int) then (laws_FnOpenings.l1 k x6 x8 (wrap64 (1 + (Int.tmod (rd t185 1) 3))) 0 x161000 x161001 x161002 x161003 x161004 x176000 x176001 x176002 x176003 x176004 x168000 x168001 x168002 x168003 x168004) else (none)))
def laws_FnOpenings.j2 : Nat → List Int → Bool → Bool → Int → Bool → Int → Int → Bool → Bool → Bool → Int → Int → Bool → Bool → Bool → Int → Int → Bool → Bool → Bool → Option (Bool)
 | 0, _, _, _, _, _, _, _, _, _, _, _, _, _, _, _, _, _, _, _, _ => none
 | k + 1, x0, x6, x8, x10, x64, x161000, x161001, x161002, x161003, x161004, x168000, x168001, x168002, x168003, x168004, x183000, x183001, x183002, x183003, x183004 => if x64 = true then (none) else (laws_FnOpenings.l0 k x0 x6 x8 (wrap64 (x10 + 1)) x161000 x161001 x161002 x161003 x161004 x168000 x168001 x168002 x168003 x168004 x183000 x183001 x183002 x183003 x183004)
def laws_FnOpenings.l1 : Nat → Bool → Bool → Int → Int → Int → Int → Bool → Bool → Bool → Int → Int → Bool → Bool → Bool → Int → Int → Bool → Bool → Bool → Option (Bool)
 | 0, _, _, _, _, _, _, _, _, _, _, _, _, _, _, _, _, _, _, _ => none
 | k + 1, x6, x8, x13, x15, x161000, x161001, x161002, x161003, x161004, x176000, x176001, x176002, x176003, x176004, x190000, x190001, x190002, x190003, x190004 => if x15 < x13 then ((impl_Advance.f k x190000 x190001 x190002 x190003 x190004).bind fun bt190 => (laws_FnOpenings.l1 k x6 x8 x13 (wrap64 (x15 + 1)) x161000 x161001 x161002 x161003 x161004 x176000 x176001 x176002 x176003 x176004 bt190.1 bt190.2.1 bt190.2.2.1 bt190.2.2.2.1 bt190.2.2.2.2.1)) else (laws_FnOpenings.l2 k x6 x8 0 x161000 x161001 x161002 x161003 x161004 x176000 x176001 x176002 x176003 x176004 x190000 x190001 x190002 x190003 x190004)
def laws_FnOpenings.j5 : Nat → Bool → Bool → Int → Int → Bool → Bool → Bool → Int → Int → Bool → Bool → Bool → Int → Int → Bool → Bool → Bool → Option (Bool)
 | 0, _, _, _, _, _, _, _, _, _, _, _, _, _, _, _, _, _ => none
 | k + 1, x6, x8, x161000, x161001, x161002, x161003, x161004, x176000, x176001, x176002, x176003, x176004, x190000, x190001, x190002, x190003, x190004 => laws_FnOpenings.l3 k x6 x8 0 x161000 x161001 x161002 x161003 x161004 x176000 x176001 x176002 x176003 x176004 x190000 x190001 x190002 x190003 x190004
def laws_FnOpenings.l3 : Nat → Bool → Bool → Int → Int → Int → Bool → Bool → Bool → Int → Int → Bool → Bool → Bool → Int → Int → Bool → Bool → Bool → Option (Bool)
 | 0, _, _, _, _, _, _, _, _, _, _, _, _, _, _, _, _, _, _ => none
 | k + 1, x6, x8, x17, x161000, x161001, x161002, x161003, x161004, x176000, x176001, x176002, x176003, x176004, x190000, x190001, x190002, x190003, x190004 => if x17 < 2 then ((impl_Advance.f k x190000 x190001 x190002 x190003 x190004).bind fun bt202 => (laws_FnOpenings.l3 k x6 x8 (wrap64 (x17 + 1)) x161000 x161001 x161002 x161003 x161004 x176000 x176001 x176002 x176003 x176004 bt202.1 bt202.2.1 bt202.2.2.1 bt202.2.2.2.1 bt202.2.2.2.2.1)) else (if x6 = true then (if x8 = true then (none) else (if (x176000 == 0 && (x176001 == 0 && (!x176002 && (!x176003 && (x176004 == (!x161004)))))) = true then (some (x190000 == x161000 && (x190001 == x161001 && (x190002 == x161002 && (x190003 == x161003 && (x190004 == x161004)))))) else (none))) else (none))
def laws_FnOpenings.l2 : Nat → Bool → Bool → Int → Int → Int → Bool → Bool → Bool → Int → Int → Bool → Bool → Bool → Int → Int → Bool → Bool → Bool → Option (Bool)
 | 0, _, _, _, _, _, _, _, _, _, _, _, _, _, _, _, _, _, _ => none
 | k + 1, x6, x8, x16, x161000, x161001, x161002, x161003, x161004, x176000, x176001, x176002, x176003, x176004, x190000, x190001, x190002, x190003, x190004 => if x16 < 3 then (if x190001 = 5 then (laws_FnOpenings.j5 k x6 x8 x161000 x161001 x161002 x161003 x161004 x176000 x176001 x176002 x176003 x176004 x190000 x190001 x190002 x190003 x190004) else ((impl_Relent.f k x190000 x190001 x190002 x190003 x190004).bind fun bt196 => (laws_FnOpenings.l2 k x6 x8 (wrap64 (x16 + 1)) x161000 x161001 x161002 x161003 x161004 x176000 x176001 x176002 x176003 x176004 bt196.1 bt196.2.1 bt196.2.2.1 bt196.2.2.2.1 bt196.2.2.2.2.1))) else (laws_FnOpenings.j5 k x6 x8 x161000 x161001 x161002 x161003 x161004 x176000 x176001 x176002 x176003 x176004 x190000 x190001 x190002 x190003 x190004)
end
def laws_FnOpenings.f (k : Nat) (l0 : List Int) : Option (Bool) := (laws_big.f l0).bind fun t155 => (if t155 = true then (some true) else ((spec_DrawPlaces.f k l0).bind fun t156 => (if 0 < (t156.length : Int) then (if (Int.tmod (rd t156 0) 2) = 1 then (laws_FnOpenings.j0 k l0 2 0 0 false false ((Int.tmod (rd t156 0) 2) == 1)) else (laws_FnOpenings.j0 k l0 1 0 0 false false ((Int.tmod (rd t156 0) 2) == 1))) else (none))))
theorem laws_FnOpenings.mono_l : ∀ k, (∀ y0 y1 y2 y3 y4 y5 y6, LeO (laws_FnOpenings.j0 k y0 y1 y2 y3 y4 y5 y6) (laws_FnOpenings.j0 (k + 1) y0 y1 y2 y3 y4 y5 y6)) ∧ (∀ y0 y1 y2 y3 y4 y5 y6 y7 y8 y9 y10 y11 y12 y13 y14 y15 y16 y17 y18, LeO (laws_FnOpenings.l0 k y0 y1 y2 y3 y4 y5 y6 y7 y8 y9 y10 y11 y12 y13 y14 y15 y16 y17 y18) (laws_FnOpenings.l0 (k + 1) y0 y1 y2 y3 y4 y5 y6 y7 y8 y9 y10 y11 y12 y13 y14 y15 y16 y17 y18)) ∧ (∀ y0 y1 y2 y3 y4 y5 y6 y7 y8 y9 y10 y11 y12 y13 y14 y15 y16 y17 y18 y19, LeO (laws_FnOpenings.j2 k y0 y1 y2 y3 y4 y5 y6 y7 y8 y9 y10 y11 y12 y13 y14 y15 y16 y17 y18 y19) (laws_FnOpenings.j2 (k + 1) y0 y1 y2 y3 y4 y5 y6 y7 y8 y9 y10 y11 y12 y13 y14 y15 y16 y17 y18 y19)) ∧ (∀ y0 y1 y2 y3 y4 y5 y6 y7 y8 y9 y10 y11 y12 y13 y14 y15 y16 y17 y18, LeO (laws_FnOpenings.l1 k y0 y1 y2 y3 y4 y5 y6 y7 y8 y9 y10 y11 y12 y13 y14 y15 y16 y17 y18) (laws_FnOpenings.l1 (k + 1) y0 y1 y2 y3 y4 y5 y6 y7 y8 y9 y10 y11 y12 y13 y14 y15 y16 y17 y18)) ∧ (∀ y0 y1 y2 y3 y4 y5 y6 y7 y8 y9 y10 y11 y12 y13 y14 y15 y16, LeO (laws_FnOpenings.j5 k y0 y1 y2 y3 y4 y5 y6 y7 y8 y9 y10 y11 y12 y13 y14 y15 y16) (laws_FnOpenings.j5 (k + 1) y0 y1 y2 y3 y4 y5 y6 y7 y8 y9 y10 y11 y12 y13 y14 y15 y16)) ∧ (∀ y0 y1 y2 y3 y4 y5 y6 y7 y8 y9 y10 y11 y12 y13 y14 y15 y16 y17, LeO (laws_FnOpenings.l3 k y0 y1 y2 y3 y4 y5 y6 y7 y8 y9 y10 y11 y12 y13 y14 y15 y16 y17) (laws_FnOpenings.l3 (k + 1) y0 y1 y2 y3 y4 y5 y6 y7 y8 y9 y10 y11 y12 y13 y14 y15 y16 y17)) ∧ (∀ y0 y1 y2 y3 y4 y5 y6 y7 y8 y9 y10 y11 y12 y13 y14 y15 y16 y17, LeO (laws_FnOpenings.l2 k y0 y1 y2 y3 y4 y5 y6 y7 y8 y9 y10 y11 y12 y13 y14 y15 y16 y17) (laws_FnOpenings.l2 (k + 1) y0 y1 y2 y3 y4 y5 y6 y7 y8 y9 y10 y11 y12 y13 y14 y15 y16 y17))
 | 0 => ⟨fun _ _ _ _ _ _ _ r h => by simp [laws_FnOpenings.j0] at h, fun _ _ _ _ _ _ _ _ _ _ _ _ _ _ _ _ _ _ _ r h => by simp [laws_FnOpenings.l0] at h, fun _ _ _ _ _ _ _ _ _ _ _ _ _ _ _ _ _ _ _ _ r h => by simp [laws_FnOpenings.j2] at h, fun _ _ _ _ _ _ _ _ _ _ _ _ _ _ _ _ _ _ _ r h => by simp [laws_FnOpenings.l1] at h, fun _ _ _ _ _ _ _ _ _ _ _ _ _ _ _ _ _ r h => by simp [laws_FnOpenings.j5] at h, fun _ _ _ _ _ _ _ _ _ _ _ _ _ _ _ _ _ _ r h => by simp [laws_FnOpenings.l3] at h, fun _ _ _ _ _ _ _ _ _ _ _ _ _ _ _ _ _ _ r h => by simp [laws_FnOpenings.l2] at h⟩
 | k + 1 => by
  obtain ⟨ih0, ih1, ih2, ih3, ih4, ih5, ih6⟩ := laws_FnOpenings.mono_l k
  refine ⟨?_, ?_, ?_, ?_, ?_, ?_, ?_⟩
  ·intro y0 y1 y2 y3 y4 y5 y6
   unfold laws_FnOpenings.j0
   repeat' first
   | (with_reducible exact ih0 _ _ _ _ _ _ _)
   | (with_reducible exact ih1 _ _ _ _ _ _ _ _ _ _ _ _ _ _ _ _ _ _ _)
   | (with_reducible exact ih2 _ _ _ _ _ _ _ _ _ _ _ _ _ _ _ _ _ _ _ _)
   | (with_reducible exact ih3 _ _ _ _ _ _ _ _ _ _ _ _ _ _ _ _ _ _ _)
   | (with_reducible exact ih4 _ _ _ _ _ _ _ _ _ _ _ _ _ _ _ _ _)
   | (with_reducible exact ih5 _ _ _ _ _ _ _ _ _ _ _ _ _ _ _ _ _ _)
   | (with_reducible exact ih6 _ _ _ _ _ _ _ _ _ _ _ _ _ _ _ _ _ _)
   | (with_reducible exact impl_Advance.mono _ _ _ _ _ _)
   | (with_reducible exact impl_BeginDoor.mono _ _ _ _ _ _ _)
   | (with_reducible exact impl_DoorOk.mono _ _ _ _ _ _)
   | (with_reducible exact impl_Relent.mono _ _ _ _ _ _)
   | (with_reducible exact spec_DrawPlaces.mono _ _)
   | (with_reducible exact LeO.refl _)
   | (with_reducible exact LeO.none _)
   | (with_reducible refine LeO.ite ?_ ?_)
   | (with_reducible refine LeO.bind ?_ (fun _ => ?_))
   | exact ih0 _ _ _ _ _ _ _
   | exact ih1 _ _ _ _ _ _ _ _ _ _ _ _ _ _ _ _ _ _ _
   | exact ih2 _ _ _ _ _ _ _ _ _ _ _ _ _ _ _ _ _ _ _ _
   | exact ih3 _ _ _ _ _ _ _ _ _ _ _ _ _ _ _ _ _ _ _
   | exact ih4 _ _ _ _ _ _ _ _ _ _ _ _ _ _ _ _ _
   | exact ih5 _ _ _ _ _ _ _ _ _ _ _ _ _ _ _ _ _ _
   | exact ih6 _ _ _ _ _ _ _ _ _ _ _ _ _ _ _ _ _ _
   | exact impl_Advance.mono _ _ _ _ _ _
   | exact impl_BeginDoor.mono _ _ _ _ _ _ _
   | exact impl_DoorOk.mono _ _ _ _ _ _
   | exact impl_Relent.mono _ _ _ _ _ _
   | exact spec_DrawPlaces.mono _ _
   | exact LeO.none _
   | refine LeO.ite ?_ ?_
   | refine LeO.bind ?_ (fun _ => ?_)
  ·intro y0 y1 y2 y3 y4 y5 y6 y7 y8 y9 y10 y11 y12 y13 y14 y15 y16 y17 y18
   unfold laws_FnOpenings.l0
   repeat' first
   | (with_reducible exact ih0 _ _ _ _ _ _ _)
   | (with_reducible exact ih1 _ _ _ _ _ _ _ _ _ _ _ _ _ _ _ _ _ _ _)
   | (with_reducible exact ih2 _ _ _ _ _ _ _ _ _ _ _ _ _ _ _ _ _ _ _ _)
   | (with_reducible exact ih3 _ _ _ _ _ _ _ _ _ _ _ _ _ _ _ _ _ _ _)
   | (with_reducible exact ih4 _ _ _ _ _ _ _ _ _ _ _ _ _ _ _ _ _)
   | (with_reducible exact ih5 _ _ _ _ _ _ _ _ _ _ _ _ _ _ _ _ _ _)
   | (with_reducible exact ih6 _ _ _ _ _ _ _ _ _ _ _ _ _ _ _ _ _ _)
   | (with_reducible exact impl_Advance.mono _ _ _ _ _ _)
   | (with_reducible exact impl_BeginDoor.mono _ _ _ _ _ _ _)
   | (with_reducible exact impl_DoorOk.mono _ _ _ _ _ _)
   | (with_reducible exact impl_Relent.mono _ _ _ _ _ _)
   | (with_reducible exact spec_DrawPlaces.mono _ _)
   | (with_reducible exact LeO.refl _)
   | (with_reducible exact LeO.none _)
   | (with_reducible refine LeO.ite ?_ ?_)
   | (with_reducible refine LeO.bind ?_ (fun _ => ?_))
   | exact ih0 _ _ _ _ _ _ _
   | exact ih1 _ _ _ _ _ _ _ _ _ _ _ _ _ _ _ _ _ _ _
   | exact ih2 _ _ _ _ _ _ _ _ _ _ _ _ _ _ _ _ _ _ _ _
   | exact ih3 _ _ _ _ _ _ _ _ _ _ _ _ _ _ _ _ _ _ _
   | exact ih4 _ _ _ _ _ _ _ _ _ _ _ _ _ _ _ _ _
   | exact ih5 _ _ _ _ _ _ _ _ _ _ _ _ _ _ _ _ _ _
   | exact ih6 _ _ _ _ _ _ _ _ _ _ _ _ _ _ _ _ _ _
   | exact impl_Advance.mono _ _ _ _ _ _
   | exact impl_BeginDoor.mono _ _ _ _ _ _ _
   | exact impl_DoorOk.mono _ _ _ _ _ _
   | exact impl_Relent.mono _ _ _ _ _ _
   | exact spec_DrawPlaces.mono _ _
   | exact LeO.none _
   | refine LeO.ite ?_ ?_
   | refine LeO.bind ?_ (fun _ => ?_)
  ·intro y0 y1 y2 y3 y4 y5 y6 y7 y8 y9 y10 y11 y12 y13 y14 y15 y16 y17 y18 y19
   unfold laws_FnOpenings.j2
   repeat' first
   | (with_reducible exact ih0 _ _ _ _ _ _ _)
   | (with_reducible exact ih1 _ _ _ _ _ _ _ _ _ _ _ _ _ _ _ _ _ _ _)
   | (with_reducible exact ih2 _ _ _ _ _ _ _ _ _ _ _ _ _ _ _ _ _ _ _ _)
   | (with_reducible exact ih3 _ _ _ _ _ _ _ _ _ _ _ _ _ _ _ _ _ _ _)
   | (with_reducible exact ih4 _ _ _ _ _ _ _ _ _ _ _ _ _ _ _ _ _)
   | (with_reducible exact ih5 _ _ _ _ _ _ _ _ _ _ _ _ _ _ _ _ _ _)
   | (with_reducible exact ih6 _ _ _ _ _ _ _ _ _ _ _ _ _ _ _ _ _ _)
   | (with_reducible exact impl_Advance.mono _ _ _ _ _ _)
   | (with_reducible exact impl_BeginDoor.mono _ _ _ _ _ _ _)
   | (with_reducible exact impl_DoorOk.mono _ _ _ _ _ _)
   | (with_reducible exact impl_Relent.mono _ _ _ _ _ _)
   | (with_reducible exact spec_DrawPlaces.mono _ _)
   | (with_reducible exact LeO.refl _)
   | (with_reducible exact LeO.none _)
   | (with_reducible refine LeO.ite ?_ ?_)
   | (with_reducible refine LeO.bind ?_ (fun _ => ?_))
   | exact ih0 _ _ _ _ _ _ _
   | exact ih1 _ _ _ _ _ _ _ _ _ _ _ _ _ _ _ _ _ _ _
   | exact ih2 _ _ _ _ _ _ _ _ _ _ _ _ _ _ _ _ _ _ _ _
   | exact ih3 _ _ _ _ _ _ _ _ _ _ _ _ _ _ _ _ _ _ _
   | exact ih4 _ _ _ _ _ _ _ _ _ _ _ _ _ _ _ _ _
   | exact ih5 _ _ _ _ _ _ _ _ _ _ _ _ _ _ _ _ _ _
   | exact ih6 _ _ _ _ _ _ _ _ _ _ _ _ _ _ _ _ _ _
   | exact impl_Advance.mono _ _ _ _ _ _
   | exact impl_BeginDoor.mono _ _ _ _ _ _ _
   | exact impl_DoorOk.mono _ _ _ _ _ _
   | exact impl_Relent.mono _ _ _ _ _ _
   | exact spec_DrawPlaces.mono _ _
   | exact LeO.none _
   | refine LeO.ite ?_ ?_
   | refine LeO.bind ?_ (fun _ => ?_)
  ·intro y0 y1 y2 y3 y4 y5 y6 y7 y8 y9 y10 y11 y12 y13 y14 y15 y16 y17 y18
   unfold laws_FnOpenings.l1
   repeat' first
   | (with_reducible exact ih0 _ _ _ _ _ _ _)
   | (with_reducible exact ih1 _ _ _ _ _ _ _ _ _ _ _ _ _ _ _ _ _ _ _)
   | (with_reducible exact ih2 _ _ _ _ _ _ _ _ _ _ _ _ _ _ _ _ _ _ _ _)
   | (with_reducible exact ih3 _ _ _ _ _ _ _ _ _ _ _ _ _ _ _ _ _ _ _)
   | (with_reducible exact ih4 _ _ _ _ _ _ _ _ _ _ _ _ _ _ _ _ _)
   | (with_reducible exact ih5 _ _ _ _ _ _ _ _ _ _ _ _ _ _ _ _ _ _)
   | (with_reducible exact ih6 _ _ _ _ _ _ _ _ _ _ _ _ _ _ _ _ _ _)
   | (with_reducible exact impl_Advance.mono _ _ _ _ _ _)
   | (with_reducible exact impl_BeginDoor.mono _ _ _ _ _ _ _)
   | (with_reducible exact impl_DoorOk.mono _ _ _ _ _ _)
   | (with_reducible exact impl_Relent.mono _ _ _ _ _ _)
   | (with_reducible exact spec_DrawPlaces.mono _ _)
   | (with_reducible exact LeO.refl _)
   | (with_reducible exact LeO.none _)
   | (with_reducible refine LeO.ite ?_ ?_)
   | (with_reducible refine LeO.bind ?_ (fun _ => ?_))
   | exact ih0 _ _ _ _ _ _ _
   | exact ih1 _ _ _ _ _ _ _ _ _ _ _ _ _ _ _ _ _ _ _
   | exact ih2 _ _ _ _ _ _ _ _ _ _ _ _ _ _ _ _ _ _ _ _
   | exact ih3 _ _ _ _ _ _ _ _ _ _ _ _ _ _ _ _ _ _ _
   | exact ih4 _ _ _ _ _ _ _ _ _ _ _ _ _ _ _ _ _
   | exact ih5 _ _ _ _ _ _ _ _ _ _ _ _ _ _ _ _ _ _
   | exact ih6 _ _ _ _ _ _ _ _ _ _ _ _ _ _ _ _ _ _
   | exact impl_Advance.mono _ _ _ _ _ _
   | exact impl_BeginDoor.mono _ _ _ _ _ _ _
   | exact impl_DoorOk.mono _ _ _ _ _ _
   | exact impl_Relent.mono _ _ _ _ _ _
   | exact spec_DrawPlaces.mono _ _
   | exact LeO.none _
   | refine LeO.ite ?_ ?_
   | refine LeO.bind ?_ (fun _ => ?_)
  ·intro y0 y1 y2 y3 y4 y5 y6 y7 y8 y9 y10 y11 y12 y13 y14 y15 y16
   unfold laws_FnOpenings.j5
   repeat' first
   | (with_reducible exact ih0 _ _ _ _ _ _ _)
   | (with_reducible exact ih1 _ _ _ _ _ _ _ _ _ _ _ _ _ _ _ _ _ _ _)
   | (with_reducible exact ih2 _ _ _ _ _ _ _ _ _ _ _ _ _ _ _ _ _ _ _ _)
   | (with_reducible exact ih3 _ _ _ _ _ _ _ _ _ _ _ _ _ _ _ _ _ _ _)
   | (with_reducible exact ih4 _ _ _ _ _ _ _ _ _ _ _ _ _ _ _ _ _)
   | (with_reducible exact ih5 _ _ _ _ _ _ _ _ _ _ _ _ _ _ _ _ _ _)
   | (with_reducible exact ih6 _ _ _ _ _ _ _ _ _ _ _ _ _ _ _ _ _ _)
   | (with_reducible exact impl_Advance.mono _ _ _ _ _ _)
   | (with_reducible exact impl_BeginDoor.mono _ _ _ _ _ _ _)
   | (with_reducible exact impl_DoorOk.mono _ _ _ _ _ _)
   | (with_reducible exact impl_Relent.mono _ _ _ _ _ _)
   | (with_reducible exact spec_DrawPlaces.mono _ _)
   | (with_reducible exact LeO.refl _)
   | (with_reducible exact LeO.none _)
   | (with_reducible refine LeO.ite ?_ ?_)
   | (with_reducible refine LeO.bind ?_ (fun _ => ?_))
   | exact ih0 _ _ _ _ _ _ _
   | exact ih1 _ _ _ _ _ _ _ _ _ _ _ _ _ _ _ _ _ _ _
   | exact ih2 _ _ _ _ _ _ _ _ _ _ _ _ _ _ _ _ _ _ _ _
   | exact ih3 _ _ _ _ _ _ _ _ _ _ _ _ _ _ _ _ _ _ _
   | exact ih4 _ _ _ _ _ _ _ _ _ _ _ _ _ _ _ _ _
   | exact ih5 _ _ _ _ _ _ _ _ _ _ _ _ _ _ _ _ _ _
   | exact ih6 _ _ _ _ _ _ _ _ _ _ _ _ _ _ _ _ _ _
   | exact impl_Advance.mono _ _ _ _ _ _
   | exact impl_BeginDoor.mono _ _ _ _ _ _ _
   | exact impl_DoorOk.mono _ _ _ _ _ _
   | exact impl_Relent.mono _ _ _ _ _ _
   | exact spec_DrawPlaces.mono _ _
   | exact LeO.none _
   | refine LeO.ite ?_ ?_
   | refine LeO.bind ?_ (fun _ => ?_)
  ·intro y0 y1 y2 y3 y4 y5 y6 y7 y8 y9 y10 y11 y12 y13 y14 y15 y16 y17
   unfold laws_FnOpenings.l3
   repeat' first
   | (with_reducible exact ih0 _ _ _ _ _ _ _)
   | (with_reducible exact ih1 _ _ _ _ _ _ _ _ _ _ _ _ _ _ _ _ _ _ _)
   | (with_reducible exact ih2 _ _ _ _ _ _ _ _ _ _ _ _ _ _ _ _ _ _ _ _)
   | (with_reducible exact ih3 _ _ _ _ _ _ _ _ _ _ _ _ _ _ _ _ _ _ _)
   | (with_reducible exact ih4 _ _ _ _ _ _ _ _ _ _ _ _ _ _ _ _ _)
   | (with_reducible exact ih5 _ _ _ _ _ _ _ _ _ _ _ _ _ _ _ _ _ _)
   | (with_reducible exact ih6 _ _ _ _ _ _ _ _ _ _ _ _ _ _ _ _ _ _)
   | (with_reducible exact impl_Advance.mono _ _ _ _ _ _)
   | (with_reducible exact impl_BeginDoor.mono _ _ _ _ _ _ _)
   | (with_reducible exact impl_DoorOk.mono _ _ _ _ _ _)
   | (with_reducible exact impl_Relent.mono _ _ _ _ _ _)
   | (with_reducible exact spec_DrawPlaces.mono _ _)
   | (with_reducible exact LeO.refl _)
   | (with_reducible exact LeO.none _)
   | (with_reducible refine LeO.ite ?_ ?_)
   | (with_reducible refine LeO.bind ?_ (fun _ => ?_))
   | exact ih0 _ _ _ _ _ _ _
   | exact ih1 _ _ _ _ _ _ _ _ _ _ _ _ _ _ _ _ _ _ _
   | exact ih2 _ _ _ _ _ _ _ _ _ _ _ _ _ _ _ _ _ _ _ _
   | exact ih3 _ _ _ _ _ _ _ _ _ _ _ _ _ _ _ _ _ _ _
   | exact ih4 _ _ _ _ _ _ _ _ _ _ _ _ _ _ _ _ _
   | exact ih5 _ _ _ _ _ _ _ _ _ _ _ _ _ _ _ _ _ _
   | exact ih6 _ _ _ _ _ _ _ _ _ _ _ _ _ _ _ _ _ _
   | exact impl_Advance.mono _ _ _ _ _ _
   | exact impl_BeginDoor.mono _ _ _ _ _ _ _
   | exact impl_DoorOk.mono _ _ _ _ _ _
   | exact impl_Relent.mono _ _ _ _ _ _
   | exact spec_DrawPlaces.mono _ _
   | exact LeO.none _
   | refine LeO.ite ?_ ?_
   | refine LeO.bind ?_ (fun _ => ?_)
  ·intro y0 y1 y2 y3 y4 y5 y6 y7 y8 y9 y10 y11 y12 y13 y14 y15 y16 y17
   unfold laws_FnOpenings.l2
   repeat' first
   | (with_reducible exact ih0 _ _ _ _ _ _ _)
   | (with_reducible exact ih1 _ _ _ _ _ _ _ _ _ _ _ _ _ _ _ _ _ _ _)
   | (with_reducible exact ih2 _ _ _ _ _ _ _ _ _ _ _ _ _ _ _ _ _ _ _ _)
   | (with_reducible exact ih3 _ _ _ _ _ _ _ _ _ _ _ _ _ _ _ _ _ _ _)
   | (with_reducible exact ih4 _ _ _ _ _ _ _ _ _ _ _ _ _ _ _ _ _)
   | (with_reducible exact ih5 _ _ _ _ _ _ _ _ _ _ _ _ _ _ _ _ _ _)
   | (with_reducible exact ih6 _ _ _ _ _ _ _ _ _ _ _ _ _ _ _ _ _ _)
   | (with_reducible exact impl_Advance.mono _ _ _ _ _ _)
   | (with_reducible exact impl_BeginDoor.mono _ _ _ _ _ _ _)
   | (with_reducible exact impl_DoorOk.mono _ _ _ _ _ _)
   | (with_reducible exact impl_Relent.mono _ _ _ _ _ _)
   | (with_reducible exact spec_DrawPlaces.mono _ _)
   | (with_reducible exact LeO.refl _)
   | (with_reducible exact LeO.none _)
   | (with_reducible refine LeO.ite ?_ ?_)
   | (with_reducible refine LeO.bind ?_ (fun _ => ?_))
   | exact ih0 _ _ _ _ _ _ _
   | exact ih1 _ _ _ _ _ _ _ _ _ _ _ _ _ _ _ _ _ _ _
   | exact ih2 _ _ _ _ _ _ _ _ _ _ _ _ _ _ _ _ _ _ _ _
   | exact ih3 _ _ _ _ _ _ _ _ _ _ _ _ _ _ _ _ _ _ _
   | exact ih4 _ _ _ _ _ _ _ _ _ _ _ _ _ _ _ _ _
   | exact ih5 _ _ _ _ _ _ _ _ _ _ _ _ _ _ _ _ _ _
   | exact ih6 _ _ _ _ _ _ _ _ _ _ _ _ _ _ _ _ _ _
   | exact impl_Advance.mono _ _ _ _ _ _
   | exact impl_BeginDoor.mono _ _ _ _ _ _ _
   | exact impl_DoorOk.mono _ _ _ _ _ _
   | exact impl_Relent.mono _ _ _ _ _ _
   | exact spec_DrawPlaces.mono _ _
   | exact LeO.none _
   | refine LeO.ite ?_ ?_
   | refine LeO.bind ?_ (fun _ => ?_)
theorem laws_FnOpenings.mono : ∀ a0 k, LeO (laws_FnOpenings.f k a0) (laws_FnOpenings.f (k + 1) a0) := by
 intro a0 k
 obtain ⟨ih0, ih1, ih2, ih3, ih4, ih5, ih6⟩ := laws_FnOpenings.mono_l k
 unfold laws_FnOpenings.f
 repeat' first
   | (with_reducible exact ih0 _ _ _ _ _ _ _)
   | (with_reducible exact ih1 _ _ _ _ _ _ _ _ _ _ _ _ _ _ _ _ _ _ _)
   | (with_reducible exact ih2 _ _ _ _ _ _ _ _ _ _ _ _ _ _ _ _ _ _ _ _)
   | (with_reducible exact ih3 _ _ _ _ _ _ _ _ _ _ _ _ _ _ _ _ _ _ _)
   | (with_reducible exact ih4 _ _ _ _ _ _ _ _ _ _ _ _ _ _ _ _ _)
   | (with_reducible exact ih5 _ _ _ _ _ _ _ _ _ _ _ _ _ _ _ _ _ _)
   | (with_reducible exact ih6 _ _ _ _ _ _ _ _ _ _ _ _ _ _ _ _ _ _)
   | (with_reducible exact impl_Advance.mono _ _ _ _ _ _)
   | (with_reducible exact impl_BeginDoor.mono _ _ _ _ _ _ _)
   | (with_reducible exact impl_DoorOk.mono _ _ _ _ _ _)
   | (with_reducible exact impl_Relent.mono _ _ _ _ _ _)
   | (with_reducible exact spec_DrawPlaces.mono _ _)
   | (with_reducible exact LeO.refl _)
   | (with_reducible exact LeO.none _)
   | (with_reducible refine LeO.ite ?_ ?_)
   | (with_reducible refine LeO.bind ?_ (fun _ => ?_))
   | exact ih0 _ _ _ _ _ _ _
   | exact ih1 _ _ _ _ _ _ _ _ _ _ _ _ _ _ _ _ _ _ _
   | exact ih2 _ _ _ _ _ _ _ _ _ _ _ _ _ _ _ _ _ _ _ _
   | exact ih3 _ _ _ _ _ _ _ _ _ _ _ _ _ _ _ _ _ _ _
   | exact ih4 _ _ _ _ _ _ _ _ _ _ _ _ _ _ _ _ _
   | exact ih5 _ _ _ _ _ _ _ _ _ _ _ _ _ _ _ _ _ _
   | exact ih6 _ _ _ _ _ _ _ _ _ _ _ _ _ _ _ _ _ _
   | exact impl_Advance.mono _ _ _ _ _ _
   | exact impl_BeginDoor.mono _ _ _ _ _ _ _
   | exact impl_DoorOk.mono _ _ _ _ _ _
   | exact impl_Relent.mono _ _ _ _ _ _
   | exact spec_DrawPlaces.mono _ _
   | exact LeO.none _
   | refine LeO.ite ?_ ?_
   | refine LeO.bind ?_ (fun _ => ?_)
set_option maxHeartbeats 8000000 in
set_option maxRecDepth 100000 in
theorem laws_FnOpenings.calls (k : Nat) (A0 : Option Addr) (c0 : Nat) (l0 : List Int) (r : Bool) (w : World) (hr0 : Kd.C (Kd.int .u8) w A0 l0.length l0) (hc0 : l0.length ≤ c0) (h : laws_FnOpenings.f k l0 = some r) :
  Calls Try.prog 8 #[.slice A0 l0.length c0] w fun e w' => e = .returned (.bool r) ∧ Below w.heap.size w w' := by
 have hu24 := Try.underlying24
 have HR0 := aM hr0
 have HC0 := aM hc0
 clear hr0 hc0
 have HB := aM (Below.refl w.heap.size w)
 have H : ((laws_big.f l0).bind fun t155 => (if t155 = true then (some true) else ((spec_DrawPlaces.f k l0).bind fun t156 => (if 0 < (t156.length : Int) then (if (Int.tmod (rd t156 0) 2) = 1 then (laws_FnOpenings.j0 k l0 2 0 0 false false ((Int.tmod (rd t156 0) 2) == 1)) else (laws_FnOpenings.j0 k l0 1 0 0 false false ((Int.tmod (rd t156 0) 2) == 1))) else (none))))) = some r := h
 clear h
 replace H := Option.bind_eq_some_iff.mp H
 obtain ⟨t155, A20, H⟩ := H
 replace H : (if t155 = true then (some true) else ((spec_DrawPlaces.f k l0).bind fun t156 => (if 0 < (t156.length : Int) then (if (Int.tmod (rd t156 0) 2) = 1 then (laws_FnOpenings.j0 k l0 2 0 0 false false ((Int.tmod (rd t156 0) 2) == 1)) else (laws_FnOpenings.j0 k l0 1 0 0 false false ((Int.tmod (rd t156 0) 2) == 1))) else (none)))) = some r := H
 have A2 := aM A20
 clear A20
 by_cases c3 : t155 = true
 ·subst c3
  have H1 : (some true) = some r := by rw [if_pos rfl] at H; exact H
  clear H
  have H := H1
  clear H1
  obtain rfl := Option.some.inj H
  go_enter Try.func8, Try.ntmps8
  go_wp2_with (first | ((with_reducible refine gate_callee (f := 26) rfl ?_); refine goesL_ (some 19) rfl rfl Try.func26 (by kernel_rfl) rfl #[.slice A0 l0.length c0] rfl za ?_; (with_reducible refine (laws_big.calls _ _ l0 true _ ?side1 ?side2 A2.out).mono ?_); (case side1 => repeat (first | exact HR0.out | (with_reducible refine Kd.C_alloc ?_ _) | (with_reducible refine Kd.C_drewN ?_ _) | (with_reducible refine Kd.C_drew ?_))); (case side2 => exact HC0.out); rintro e w' ⟨rfl, ⟨nd, rfl⟩⟩; refine ⟨_, rfl, ?_⟩))
  go_ret
  exact ⟨zr, zb⟩
 ·replace c3 := Bool.eq_false_iff.mpr c3
  subst c3
  have H1 : ((spec_DrawPlaces.f k l0).bind fun t156 => (if 0 < (t156.length : Int) then (if (Int.tmod (rd t156 0) 2) = 1 then (laws_FnOpenings.j0 k l0 2 0 0 false false ((Int.tmod (rd t156 0) 2) == 1)) else (laws_FnOpenings.j0 k l0 1 0 0 false false ((Int.tmod (rd t156 0) 2) == 1))) else (none))) = some r := by rw [if_neg (show ¬ (false = true) by decide)] at H; exact H
  clear H
  have H := H1
  clear H1
  replace H := Option.bind_eq_some_iff.mp H
  obtain ⟨t156, A40, H⟩ := H
  replace H : (if 0 < (t156.length : Int) then (if (Int.tmod (rd t156 0) 2) = 1 then (laws_FnOpenings.j0 k l0 2 0 0 false false ((Int.tmod (rd t156 0) 2) == 1)) else (laws_FnOpenings.j0 k l0 1 0 0 false false ((Int.tmod (rd t156 0) 2) == 1))) else (none)) = some r := H
  have A4 := aM A40
  clear A40
  by_cases c5 : 0 < (t156.length : Int)
  ·rw [if_pos c5] at H
   have c5b0 : decide (0 < (t156.length : Int)) = true := decide_eq_true c5
   have c5b1 : decide (0 < t156.length) = true := decide_eq_true (by omega)
   clear c5
   have HC6 := aM H
   clear H
   go_enter Try.func8, Try.ntmps8
   go_upto_if 28 with (first | ((with_reducible refine gate_callee (f := 26) rfl ?_); refine goesL_ (some 19) rfl rfl Try.func26 (by kernel_rfl) rfl #[.slice A0 l0.length c0] rfl za ?_; (with_reducible refine (laws_big.calls _ _ l0 false _ ?side1 ?side2 A2.out).mono ?_); (case side1 => repeat (first | exact HR0.out | (with_reducible refine Kd.C_alloc ?_ _) | (with_reducible refine Kd.C_drewN ?_ _) | (with_reducible refine Kd.C_drew ?_))); (case side2 => exact HC0.out); rintro e w' ⟨rfl, ⟨nd, rfl⟩⟩; refine ⟨_, rfl, ?_⟩) | ((with_reducible refine gate_callee (f := 27) rfl ?_); refine goesL_ (some 21) rfl rfl Try.func27 (by kernel_rfl) rfl #[.slice A0 l0.length c0] rfl za ?_; (with_reducible refine (spec_DrawPlaces.calls k _ _ l0 t156 _ ?side1 ?side2 A4.out).mono ?_); (case side1 => repeat (first | exact HR0.out | (with_reducible refine Kd.C_alloc ?_ _) | (with_reducible refine Kd.C_drewN ?_ _) | (with_reducible refine Kd.C_drew ?_))); (case side2 => exact HC0.out); rintro e w7 ⟨v157, rfl, ho0, hb⟩; refine ⟨_, rfl, ?_⟩; have n0_ := aM (Kd.R_lower ho0 (below_size (zb))); have n1_ := aM (below_step (zb) hb); clear HB; have HO158 := n0_; have HB := n1_; clear n0_ n1_; (try clear hb); (try clear hb2); (try clear hk); (try clear hi); (try clear ho0); obtain ⟨Ao8, co8, eo8⟩ := Kd.R_slice HO158.out; subst eo8; have p159 : 0 ≤ (0 : Int) := (by omega); have q159 : 0 < (t156.length : Int) := of_decide_eq_true (by first | (with_reducible assumption) | assumption); obtain ⟨ad159, e159, hx159_0⟩ := Kd.at_int (Kd.R_reads' HO158.out).2.2 0 p159 q159; cases e159; have qi159 : (0 < t156.length) = True := eq_true (by omega); (try rw [show ((0 : Int)).toNat = 0 from rfl] at hx159_0); (try rw [Addr.add_zero'] at hx159_0); replace p159 := eq_true p159; replace q159 := eq_true q159) | ((with_reducible refine gate_dst (N := 3) rfl ?_); refine box_event ?hg (N := 3) ?hd (cs := #[.int .i64 0, .int .i64 0, .bool false, .bool false, .bool false]) (t := 24) ?hr ?_; (case hd => rfl); (case hg => rfl); (case hr => exact zg); intro gb160 hg w9 hbox hb; have n0_ := aM (Kd.R_below (by (with_reducible repeat (first | apply Kd.R_alloc | apply Kd.R_drewN | apply Kd.R_drew)); exact HO158.out) hb); have n1_ := aM (below_step (zb) hb); have n2_ := aM (hbox); have n3_ := aM ((by rw [hg]; exact (below_size (zb)) : w.heap.size ≤ gb160)); have n4_ := aM ((by rw [hg]; exact (below_size (zb)) : w.heap.size ≤ gb160)); clear HO158; clear HB; have HO158 := n0_; have HB := n1_; have BK160 := n2_; have GW160 := n3_; have GE160 := n4_; clear n0_ n1_ n2_ n3_ n4_; clear hb hbox hg; obtain ⟨hcz10_0, hcz10_1, hcz10_2, hcz10_3, hcz10_4, hfz10_0, hfz10_1, hfz10_2, hfz10_3, hfz10_4⟩ := cells5 BK160.out))
   (try simp only [Act.put, List.setIfInBounds_toArray, List.set_cons_zero, List.set_cons_succ])
   go_cut [4] (fun v4 wc => ∃ (kq : Nat) (x4_5 : Int), v4 = .int .i64 x4_5 ∧ Aside0 (laws_FnOpenings.j0 kq l0 x4_5 0 0 false false ((Int.tmod (rd t156 0) 2) == 1) = some r) ∧ Aside0 (kq ≤ k) ∧ Aside0 (wc.heap[gb160]? = some (.cells #[.int .i64 0, .int .i64 0, .bool false, .bool false, .bool ((Int.tmod (rd t156 0) 2) == 1)] 24 (0, 0))) ∧ Aside0 (Below w.heap.size w wc))
   case first =>
    have H := HC6.out
    clear HC6
    by_cases c11 : (Int.tmod (rd t156 0) 2) = 1
    ·rw [if_pos c11] at H
     have c11b0 : ((Int.tmod (rd t156 0) 2) == 1) = true := beq_iff_eq.mpr c11
     have c11b1 : ((Int.tmod (rd t156 0) 2) != 1) = false := bne_eq_false_iff_eq.mpr c11
     clear c11
     (first | rw [c11b0] | (simp only [i64_w, i32_w]; rw [c11b0]) | skip)
     have H' := aM H
     clear H
     go_wp2
     go_meet
     case rel => exact ⟨_, (2), zs, H', ⟨by first | omega | exact Nat.le_refl _⟩, ⟨by rw [c11b0]; refine pq ?_; refine blk_put (cs := #[.int .i64 0, .int .i64 0, .bool false, .bool false, .bool false]) ?_ 4 _ rfl; refine pq ?_; refine blk_put (cs := #[.int .i64 0, .int .i64 0, .bool false, .bool false, .bool false]) ?_ 3 _ rfl; refine pq ?_; refine blk_put (cs := #[.int .i64 0, .int .i64 0, .bool false, .bool false, .bool false]) ?_ 2 _ rfl; refine pq ?_; refine blk_put (cs := #[.int .i64 0, .int .i64 0, .bool false, .bool false, .bool false]) ?_ 1 _ rfl; refine pq ?_; refine blk_put (cs := #[.int .i64 0, .int .i64 0, .bool false, .bool false, .bool false]) ?_ 0 _ rfl; refine pq ?_; exact BK160.out⟩, ⟨zb⟩⟩
    ·rw [if_neg c11] at H
     have c11b0 : ((Int.tmod (rd t156 0) 2) == 1) = false := beq_eq_false_iff_ne.mpr c11
     have c11b1 : ((Int.tmod (rd t156 0) 2) != 1) = true := bne_iff_ne.mpr c11
     (first | rw [c11b0] | (simp only [i64_w, i32_w]; rw [c11b0]) | skip)
     have H' := aM H
     clear H
     go_wp2
     go_meet
     case rel => exact ⟨_, (1), zs, H', ⟨by first | omega | exact Nat.le_refl _⟩, ⟨by rw [c11b0]; refine pq ?_; refine blk_put (cs := #[.int .i64 0, .int .i64 0, .bool false, .bool false, .bool false]) ?_ 4 _ rfl; refine pq ?_; refine blk_put (cs := #[.int .i64 0, .int .i64 0, .bool false, .bool false, .bool false]) ?_ 3 _ rfl; refine pq ?_; refine blk_put (cs := #[.int .i64 0, .int .i64 0, .bool false, .bool false, .bool false]) ?_ 2 _ rfl; refine pq ?_; refine blk_put (cs := #[.int .i64 0, .int .i64 0, .bool false, .bool false, .bool false]) ?_ 1 _ rfl; refine pq ?_; refine blk_put (cs := #[.int .i64 0, .int .i64 0, .bool false, .bool false, .bool false]) ?_ 0 _ rfl; refine pq ?_; exact BK160.out⟩, ⟨zb⟩⟩
   case rest =>
    clear HC6
    try clear c1
    try clear p1
    try clear q1
    try clear hx1
    try clear qi1
    try clear c2
    try clear p2
    try clear c3
    try clear c5
    try clear c5b0
    try clear c5b1
    try clear c8
    try clear c11
    try clear c11b0
    try clear c11b1
    try clear hcz10_0 hcz10_1 hcz10_2 hcz10_3 hcz10_4 hfz10_0 hfz10_1 hfz10_2 hfz10_3 hfz10_4
    try clear hx159_0
    try clear p159
    try clear q159
    obtain ⟨kq, x4_5, rfl, HA, HJ5, BK160, HB⟩ := hcut
    cases kq with
    | zero => exact absurd HA.out (by simp [laws_FnOpenings.j0])
    | succ kj5 =>
     have H := HA.out
     clear HA
     simp only [laws_FnOpenings.j0] at H
     replace H := Option.bind_eq_some_iff.mp H
     obtain ⟨⟨t161, t162, t163, t164, t165, t166⟩, A120, H⟩ := H
     replace H : ((impl_BeginDoor.f kj5 0 0 false false ((Int.tmod (rd t156 0) 2) == 1) (wrap64 (3 - x4_5))).bind fun bt168 => (laws_FnOpenings.l0 kj5 l0 t166 bt168.2.2.2.2.2 0 0 0 false false ((Int.tmod (rd t156 0) 2) == 1) t161 t162 t163 t164 t165 t161 t162 t163 t164 t165)) = some r := H
     have A12 := aM A120
     clear A120
     replace H := Option.bind_eq_some_iff.mp H
     obtain ⟨⟨t168, t169, t170, t171, t172, t173⟩, A130, H⟩ := H
     replace H : (laws_FnOpenings.l0 kj5 l0 t166 t173 0 0 0 false false ((Int.tmod (rd t156 0) 2) == 1) t161 t162 t163 t164 t165 t161 t162 t163 t164 t165) = some r := H
     have A13 := aM A130
     clear A130
     have H' := aM H
     clear H
     obtain ⟨hcz14_0, hcz14_1, hcz14_2, hcz14_3, hcz14_4, hfz14_0, hfz14_1, hfz14_2, hfz14_3, hfz14_4⟩ := cells5 BK160.out
     go_wp2_with (first | ((with_reducible refine gate_callee (f := 28) rfl ?_); refine goesL_ (some 32) rfl rfl Try.func28 (by kernel_rfl) rfl #[.agg #[.int .i64 0, .int .i64 0, .bool false, .bool false, .bool ((Int.tmod (rd t156 0) 2) == 1)], .int .i64 x4_5] rfl za ?_; (with_reducible refine (impl_BeginDoor.calls kj5 0 0 false false ((Int.tmod (rd t156 0) 2) == 1) x4_5 t161 t162 t163 t164 t165 t166 _ A12.out).mono ?_); rintro e w15 ⟨rfl, hb⟩; refine ⟨_, rfl, ?_⟩; have n0_ := aM (bb BK160.out hb); have n1_ := aM (below_step (zb) hb); clear BK160; clear HB; have BK160 := n0_; have HB := n1_; clear n0_ n1_; (try clear hb); (try clear hb2); (try clear hk); (try clear hi)) | ((with_reducible refine gate_dst (N := 5) rfl ?_); refine box_event ?hg (N := 5) ?hd (cs := #[.int .i64 0, .int .i64 0, .bool false, .bool false, .bool false]) (t := 24) ?hr ?_; (case hd => rfl); (case hg => rfl); (case hr => exact zg); intro gb167 hg w16 hbox hb; have n0_ := aM (bb BK160.out hb); have n1_ := aM (below_step (zb) hb); have n2_ := aM (hbox); have n3_ := aM ((by rw [hg]; exact (below_size (zb)) : w.heap.size ≤ gb167)); have n4_ := aM ((by rw [hg]; exact (below_size (zb)) : w.heap.size ≤ gb167)); have n5_ := aM ((by rw [hg]; exact Nat.ne_of_lt (nl BK160.out) : gb160 ≠ gb167)); have n6_ := aM ((by rw [hg]; exact Nat.ne_of_gt (nl BK160.out) : gb167 ≠ gb160)); clear BK160; clear HB; have BK160 := n0_; have HB := n1_; have BK167 := n2_; have GW167 := n3_; have GE167 := n4_; have NB160_167 := n5_; have NB167_160 := n6_; clear n0_ n1_ n2_ n3_ n4_ n5_ n6_; clear hb hbox hg; have hnb17 := NB167_160.out; have hnc17 := NB160_167.out; obtain ⟨hcz18_0, hcz18_1, hcz18_2, hcz18_3, hcz18_4, hfz18_0, hfz18_1, hfz18_2, hfz18_3, hfz18_4⟩ := cells5 BK167.out; obtain ⟨hcz19_0, hcz19_1, hcz19_2, hcz19_3, hcz19_4, hfz19_0, hfz19_1, hfz19_2, hfz19_3, hfz19_4⟩ := cells5 BK160.out) | ((with_reducible refine gate_callee (f := 28) rfl ?_); refine goesL_ (some 39) rfl rfl Try.func28 (by kernel_rfl) rfl #[.agg #[.int .i64 0, .int .i64 0, .bool false, .bool false, .bool ((Int.tmod (rd t156 0) 2) == 1)], .int .i64 (wrap64 (3 - x4_5))] rfl za ?_; (with_reducible refine (impl_BeginDoor.calls kj5 0 0 false false ((Int.tmod (rd t156 0) 2) == 1) (wrap64 (3 - x4_5)) t168 t169 t170 t171 t172 t173 _ A13.out).mono ?_); rintro e w20 ⟨rfl, hb⟩; refine ⟨_, rfl, ?_⟩; have n0_ := aM (blk_below (g := gb160) (o := .cells #[.int .i64 0, .int .i64 0, .bool false, .bool false, .bool ((Int.tmod (rd t156 0) 2) == 1)] 24 (0, 0)) (by refine pq ?_; refine blk_far ?_ NB160_167.out _; refine pq ?_; refine blk_far ?_ NB160_167.out _; refine pq ?_; refine blk_far ?_ NB160_167.out _; refine pq ?_; refine blk_far ?_ NB160_167.out _; refine pq ?_; refine blk_far ?_ NB160_167.out _; refine pq ?_; exact BK160.out) hb); have n1_ := aM (blk_below (g := gb167) (o := .cells #[.int .i64 t161, .int .i64 t162, .bool t163, .bool t164, .bool t165] 24 (0, 0)) (by refine pq ?_; refine blk_put (cs := #[.int .i64 t161, .int .i64 t162, .bool t163, .bool t164, .bool false]) ?_ 4 _ rfl; refine pq ?_; refine blk_put (cs := #[.int .i64 t161, .int .i64 t162, .bool t163, .bool false, .bool false]) ?_ 3 _ rfl; refine pq ?_; refine blk_put (cs := #[.int .i64 t161, .int .i64 t162, .bool false, .bool false, .bool false]) ?_ 2 _ rfl; refine pq ?_; refine blk_put (cs := #[.int .i64 t161, .int .i64 0, .bool false, .bool false, .bool false]) ?_ 1 _ rfl; refine pq ?_; refine blk_put (cs := #[.int .i64 0, .int .i64 0, .bool false, .bool false, .bool false]) ?_ 0 _ rfl; refine pq ?_; exact BK167.out) hb); have n2_ := aM (below_step (zb) hb); clear BK160; clear BK167; clear HB; have BK160 := n0_; have BK167 := n1_; have HB := n2_; clear n0_ n1_ n2_; (try clear hb); (try clear hb2); (try clear hk); (try clear hi)) | ((with_reducible refine gate_dst (N := 7) rfl ?_); refine box_event ?hg (N := 7) ?hd (cs := #[.int .i64 0, .int .i64 0, .bool false, .bool false, .bool false]) (t := 24) ?hr ?_; (case hd => rfl); (case hg => rfl); (case hr => exact zg); intro gb174 hg w21 hbox hb; have n0_ := aM (bb BK160.out hb); have n1_ := aM (bb BK167.out hb); have n2_ := aM (below_step (zb) hb); have n3_ := aM (hbox); have n4_ := aM ((by rw [hg]; exact (below_size (zb)) : w.heap.size ≤ gb174)); have n5_ := aM ((by rw [hg]; exact (below_size (zb)) : w.heap.size ≤ gb174)); have n6_ := aM ((by rw [hg]; exact Nat.ne_of_lt (nl BK160.out) : gb160 ≠ gb174)); have n7_ := aM ((by rw [hg]; exact Nat.ne_of_gt (nl BK160.out) : gb174 ≠ gb160)); have n8_ := aM ((by rw [hg]; exact Nat.ne_of_lt (nl BK167.out) : gb167 ≠ gb174)); have n9_ := aM ((by rw [hg]; exact Nat.ne_of_gt (nl BK167.out) : gb174 ≠ gb167)); clear BK160; clear BK167; clear HB; have BK160 := n0_; have BK167 := n1_; have HB := n2_; have BK174 := n3_; have GW174 := n4_; have GE174 := n5_; have NB160_174 := n6_; have NB174_160 := n7_; have NB167_174 := n8_; have NB174_167 := n9_; clear n0_ n1_ n2_ n3_ n4_ n5_ n6_ n7_ n8_ n9_; clear hb hbox hg; have hnb22 := NB174_160.out; have hnc22 := NB160_174.out; have hnb23 := NB174_167.out; have hnc23 := NB167_174.out; obtain ⟨hcz24_0, hcz24_1, hcz24_2, hcz24_3, hcz24_4, hfz24_0, hfz24_1, hfz24_2, hfz24_3, hfz24_4⟩ := cells5 BK174.out; obtain ⟨hcz25_0, hcz25_1, hcz25_2, hcz25_3, hcz25_4, hfz25_0, hfz25_1, hfz25_2, hfz25_3, hfz25_4⟩ := cells5 BK167.out) | ((with_reducible refine gate_dst (N := 9) rfl ?_); refine box_event ?hg (N := 9) ?hd (cs := #[.int .i64 0, .int .i64 0, .bool false, .bool false, .bool false]) (t := 24) ?hr ?_; (case hd => rfl); (case hg => rfl); (case hr => exact zg); intro gb175 hg w26 hbox hb; have n0_ := aM (blk_below (g := gb160) (o := .cells #[.int .i64 0, .int .i64 0, .bool false, .bool false, .bool ((Int.tmod (rd t156 0) 2) == 1)] 24 (0, 0)) (by refine pq ?_; refine blk_far ?_ NB160_174.out _; refine pq ?_; refine blk_far ?_ NB160_174.out _; refine pq ?_; refine blk_far ?_ NB160_174.out _; refine pq ?_; refine blk_far ?_ NB160_174.out _; refine pq ?_; refine blk_far ?_ NB160_174.out _; refine pq ?_; exact BK160.out) hb); have n1_ := aM (blk_below (g := gb167) (o := .cells #[.int .i64 t161, .int .i64 t162, .bool t163, .bool t164, .bool t165] 24 (0, 0)) (by refine pq ?_; refine blk_far ?_ NB167_174.out _; refine pq ?_; refine blk_far ?_ NB167_174.out _; refine pq ?_; refine blk_far ?_ NB167_174.out _; refine pq ?_; refine blk_far ?_ NB167_174.out _; refine pq ?_; refine blk_far ?_ NB167_174.out _; refine pq ?_; exact BK167.out) hb); have n2_ := aM (blk_below (g := gb174) (o := .cells #[.int .i64 t168, .int .i64 t169, .bool t170, .bool t171, .bool t172] 24 (0, 0)) (by refine pq ?_; refine blk_put (cs := #[.int .i64 t168, .int .i64 t169, .bool t170, .bool t171, .bool false]) ?_ 4 _ rfl; refine pq ?_; refine blk_put (cs := #[.int .i64 t168, .int .i64 t169, .bool t170, .bool false, .bool false]) ?_ 3 _ rfl; refine pq ?_; refine blk_put (cs := #[.int .i64 t168, .int .i64 t169, .bool false, .bool false, .bool false]) ?_ 2 _ rfl; refine pq ?_; refine blk_put (cs := #[.int .i64 t168, .int .i64 0, .bool false, .bool false, .bool false]) ?_ 1 _ rfl; refine pq ?_; refine blk_put (cs := #[.int .i64 0, .int .i64 0, .bool false, .bool false, .bool false]) ?_ 0 _ rfl; refine pq ?_; exact BK174.out) hb); have n3_ := aM (below_step (zb) hb); have n4_ := aM (hbox); have n5_ := aM ((by rw [hg]; exact (below_size (zb)) : w.heap.size ≤ gb175)); have n6_ := aM ((by rw [hg]; exact (below_size (zb)) : w.heap.size ≤ gb175)); have n7_ := aM ((by rw [hg]; exact Nat.ne_of_lt (blk_lt (g := gb160) (o := .cells #[.int .i64 0, .int .i64 0, .bool false, .bool false, .bool ((Int.tmod (rd t156 0) 2) == 1)] 24 (0, 0)) (by refine pq ?_; refine blk_far ?_ NB160_174.out _; refine pq ?_; refine blk_far ?_ NB160_174.out _; refine pq ?_; refine blk_far ?_ NB160_174.out _; refine pq ?_; refine blk_far ?_ NB160_174.out _; refine pq ?_; refine blk_far ?_ NB160_174.out _; refine pq ?_; exact BK160.out)) : gb160 ≠ gb175)); have n8_ := aM ((by rw [hg]; exact Nat.ne_of_gt (blk_lt (g := gb160) (o := .cells #[.int .i64 0, .int .i64 0, .bool false, .bool false, .bool ((Int.tmod (rd t156 0) 2) == 1)] 24 (0, 0)) (by refine pq ?_; refine blk_far ?_ NB160_174.out _; refine pq ?_; refine blk_far ?_ NB160_174.out _; refine pq ?_; refine blk_far ?_ NB160_174.out _; refine pq ?_; refine blk_far ?_ NB160_174.out _; refine pq ?_; refine blk_far ?_ NB160_174.out _; refine pq ?_; exact BK160.out)) : gb175 ≠ gb160)); have n9_ := aM ((by rw [hg]; exact Nat.ne_of_lt (blk_lt (g := gb167) (o := .cells #[.int .i64 t161, .int .i64 t162, .bool t163, .bool t164, .bool t165] 24 (0, 0)) (by refine pq ?_; refine blk_far ?_ NB167_174.out _; refine pq ?_; refine blk_far ?_ NB167_174.out _; refine pq ?_; refine blk_far ?_ NB167_174.out _; refine pq ?_; refine blk_far ?_ NB167_174.out _; refine pq ?_; refine blk_far ?_ NB167_174.out _; refine pq ?_; exact BK167.out)) : gb167 ≠ gb175)); have n10_ := aM ((by rw [hg]; exact Nat.ne_of_gt (blk_lt (g := gb167) (o := .cells #[.int .i64 t161, .int .i64 t162, .bool t163, .bool t164, .bool t165] 24 (0, 0)) (by refine pq ?_; refine blk_far ?_ NB167_174.out _; refine pq ?_; refine blk_far ?_ NB167_174.out _; refine pq ?_; refine blk_far ?_ NB167_174.out _; refine pq ?_; refine blk_far ?_ NB167_174.out _; refine pq ?_; refine blk_far ?_ NB167_174.out _; refine pq ?_; exact BK167.out)) : gb175 ≠ gb167)); have n11_ := aM ((by rw [hg]; exact Nat.ne_of_lt (blk_lt (g := gb174) (o := .cells #[.int .i64 t168, .int .i64 t169, .bool t170, .bool t171, .bool t172] 24 (0, 0)) (by refine pq ?_; refine blk_put (cs := #[.int .i64 t168, .int .i64 t169, .bool t170, .bool t171, .bool false]) ?_ 4 _ rfl; refine pq ?_; refine blk_put (cs := #[.int .i64 t168, .int .i64 t169, .bool t170, .bool false, .bool false]) ?_ 3 _ rfl; refine pq ?_; refine blk_put (cs := #[.int .i64 t168, .int .i64 t169, .bool false, .bool false, .bool false]) ?_ 2 _ rfl; refine pq ?_; refine blk_put (cs := #[.int .i64 t168, .int .i64 0, .bool false, .bool false, .bool false]) ?_ 1 _ rfl; refine pq ?_; refine blk_put (cs := #[.int .i64 0, .int .i64 0, .bool false, .bool false, .bool false]) ?_ 0 _ rfl; refine pq ?_; exact BK174.out)) : gb174 ≠ gb175)); have n12_ := aM ((by rw [hg]; exact Nat.ne_of_gt (blk_lt (g := gb174) (o := .cells #[.int .i64 t168, .int .i64 t169, .bool t170, .bool t171, .bool t172] 24 (0, 0)) (by refine pq ?_; refine blk_put (cs := #[.int .i64 t168, .int .i64 t169, .bool t170, .bool t171, .bool false]) ?_ 4 _ rfl; refine pq ?_; refine blk_put (cs := #[.int .i64 t168, .int .i64 t169, .bool t170, .bool false, .bool false]) ?_ 3 _ rfl; refine pq ?_; refine blk_put (cs := #[.int .i64 t168, .int .i64 t169, .bool false, .bool false, .bool false]) ?_ 2 _ rfl; refine pq ?_; refine blk_put (cs := #[.int .i64 t168, .int .i64 0, .bool false, .bool false, .bool false]) ?_ 1 _ rfl; refine pq ?_; refine blk_put (cs := #[.int .i64 0, .int .i64 0, .bool false, .bool false, .bool false]) ?_ 0 _ rfl; refine pq ?_; exact BK174.out)) : gb175 ≠ gb174)); clear BK160; clear BK167; clear BK174; clear HB; have BK160 := n0_; have BK167 := n1_; have BK174 := n2_; have HB := n3_; have BK175 := n4_; have GW175 := n5_; have GE175 := n6_; have NB160_175 := n7_; have NB175_160 := n8_; have NB167_175 := n9_; have NB175_167 := n10_; have NB174_175 := n11_; have NB175_174 := n12_; clear n0_ n1_ n2_ n3_ n4_ n5_ n6_ n7_ n8_ n9_ n10_ n11_ n12_; clear hb hbox hg; have hnb27 := NB175_160.out; have hnc27 := NB160_175.out; have hnb28 := NB175_167.out; have hnc28 := NB167_175.out; have hnb29 := NB175_174.out; have hnc29 := NB174_175.out; obtain ⟨hcz30_0, hcz30_1, hcz30_2, hcz30_3, hcz30_4, hfz30_0, hfz30_1, hfz30_2, hfz30_3, hfz30_4⟩ := cells5 BK175.out))
     go_loopg [10] kj5 (fun kq v10 w' => ∃ (x10_2 : Int) (x176000_2 : Int) (x176001_2 : Int) (x176002_2 : Bool) (x176003_2 : Bool) (x176004_2 : Bool), v10 = .int .i64 x10_2 ∧ Aside0 (laws_FnOpenings.l0 kq l0 t166 t173 x10_2 0 0 false false ((Int.tmod (rd t156 0) 2) == 1) t161 t162 t163 t164 t165 x176000_2 x176001_2 x176002_2 x176003_2 x176004_2 = some r) ∧ Aside0 (kq ≤ kj5) ∧ Aside0 (w'.heap[gb160]? = some (.cells #[.int .i64 0, .int .i64 0, .bool false, .bool false, .bool ((Int.tmod (rd t156 0) 2) == 1)] 24 (0, 0))) ∧ Aside0 (w'.heap[gb167]? = some (.cells #[.int .i64 t161, .int .i64 t162, .bool t163, .bool t164, .bool t165] 24 (0, 0))) ∧ Aside0 (w'.heap[gb174]? = some (.cells #[.int .i64 t168, .int .i64 t169, .bool t170, .bool t171, .bool t172] 24 (0, 0))) ∧ Aside0 (w'.heap[gb175]? = some (.cells #[.int .i64 x176000_2, .int .i64 x176001_2, .bool x176002_2, .bool x176003_2, .bool x176004_2] 24 (0, 0))) ∧ Aside0 (Below w.heap.size w w'))
     case atStart => exact ⟨(0), (t161), (t162), (t163), (t164), (t165), zs, H', ⟨Nat.le_refl _⟩, ⟨by refine pq ?_; refine blk_far ?_ NB160_175.out _; refine pq ?_; refine blk_far ?_ NB160_175.out _; refine pq ?_; refine blk_far ?_ NB160_175.out _; refine pq ?_; refine blk_far ?_ NB160_175.out _; refine pq ?_; refine blk_far ?_ NB160_175.out _; refine pq ?_; exact BK160.out⟩, ⟨by refine pq ?_; refine blk_far ?_ NB167_175.out _; refine pq ?_; refine blk_far ?_ NB167_175.out _; refine pq ?_; refine blk_far ?_ NB167_175.out _; refine pq ?_; refine blk_far ?_ NB167_175.out _; refine pq ?_; refine blk_far ?_ NB167_175.out _; refine pq ?_; exact BK167.out⟩, ⟨by refine pq ?_; refine blk_far ?_ NB174_175.out _; refine pq ?_; refine blk_far ?_ NB174_175.out _; refine pq ?_; refine blk_far ?_ NB174_175.out _; refine pq ?_; refine blk_far ?_ NB174_175.out _; refine pq ?_; refine blk_far ?_ NB174_175.out _; refine pq ?_; exact BK174.out⟩, ⟨by refine pq ?_; refine blk_put (cs := #[.int .i64 t161, .int .i64 t162, .bool t163, .bool t164, .bool false]) ?_ 4 _ rfl; refine pq ?_; refine blk_put (cs := #[.int .i64 t161, .int .i64 t162, .bool t163, .bool false, .bool false]) ?_ 3 _ rfl; refine pq ?_; refine blk_put (cs := #[.int .i64 t161, .int .i64 t162, .bool false, .bool false, .bool false]) ?_ 2 _ rfl; refine pq ?_; refine blk_put (cs := #[.int .i64 t161, .int .i64 0, .bool false, .bool false, .bool false]) ?_ 1 _ rfl; refine pq ?_; refine blk_put (cs := #[.int .i64 0, .int .i64 0, .bool false, .bool false, .bool false]) ?_ 0 _ rfl; refine pq ?_; exact BK175.out⟩, ⟨zb⟩⟩
     case round =>
      clear H'
      try clear c1
      try clear p1
      try clear q1
      try clear hx1
      try clear qi1
      try clear c2
      try clear p2
      try clear c3
      try clear c5
      try clear c5b0
      try clear c5b1
      try clear p6
      try clear c8
      try clear c11
      try clear c11b0
      try clear c11b1
      try clear p15
      try clear q15
      try clear hx15
      try clear qi15
      try clear c17
      try clear c22
      try clear c23
      try clear c26
      try clear c27
      try clear c28
      try clear c29
      try clear hcz10_0 hcz10_1 hcz10_2 hcz10_3 hcz10_4 hfz10_0 hfz10_1 hfz10_2 hfz10_3 hfz10_4
      try clear hcz14_0 hcz14_1 hcz14_2 hcz14_3 hcz14_4 hfz14_0 hfz14_1 hfz14_2 hfz14_3 hfz14_4
      try clear hcz18_0 hcz18_1 hcz18_2 hcz18_3 hcz18_4 hfz18_0 hfz18_1 hfz18_2 hfz18_3 hfz18_4
      try clear hcz19_0 hcz19_1 hcz19_2 hcz19_3 hcz19_4 hfz19_0 hfz19_1 hfz19_2 hfz19_3 hfz19_4
      try clear hcz24_0 hcz24_1 hcz24_2 hcz24_3 hcz24_4 hfz24_0 hfz24_1 hfz24_2 hfz24_3 hfz24_4
      try clear hcz25_0 hcz25_1 hcz25_2 hcz25_3 hcz25_4 hfz25_0 hfz25_1 hfz25_2 hfz25_3 hfz25_4
      try clear hcz30_0 hcz30_1 hcz30_2 hcz30_3 hcz30_4 hfz30_0 hfz30_1 hfz30_2 hfz30_3 hfz30_4
      try clear hx159_0
      try clear p1
      try clear p159
      try clear p2
      try clear q1
      try clear q159
      obtain ⟨x10_2, x176000_2, x176001_2, x176002_2, x176003_2, x176004_2, rfl, HA, HK2, BK160, BK167, BK174, BK175, HB⟩ := hrel
      cases gk with
      | zero => exact absurd HA.out (by simp [laws_FnOpenings.l0])
      | succ k2 =>
       have H := HA.out
       clear HA
       simp only [laws_FnOpenings.l0] at H
       by_cases c31 : x10_2 < 6
       ·rw [if_pos c31] at H
        have c31b0 : decide (x10_2 < 6) = true := decide_eq_true c31
        clear c31
        replace H := Option.bind_eq_some_iff.mp H
        obtain ⟨⟨t176, t177, t178, t179, t180, t181⟩, A320, H⟩ := H
        replace H : (if t181 = true then ((impl_StepName.f x176001_2).bind fun t183 => (if t183.toList = ([] : List UInt8) then (laws_FnOpenings.j2 k2 l0 t166 t173 x10_2 true 0 0 false false ((Int.tmod (rd t156 0) 2) == 1) t161 t162 t163 t164 t165 t176 t177 t178 t179 t180) else ((impl_DoorOk.f k2 t176 t177 t178 t179 t180).bind fun t184 => (laws_FnOpenings.j2 k2 l0 t166 t173 x10_2 (!t184) 0 0 false false ((Int.tmod (rd t156 0) 2) == 1) t161 t162 t163 t164 t165 t176 t177 t178 t179 t180)))) else (laws_FnOpenings.j2 k2 l0 t166 t173 x10_2 true 0 0 false false ((Int.tmod (rd t156 0) 2) == 1) t161 t162 t163 t164 t165 t176 t177 t178 t179 t180)) = some r := H
        have A32 := aM A320
        clear A320
        have HC33 := aM H
        clear H
        have hnb34 := NB175_160.out
        have hnc34 := NB160_175.out
        have hnb35 := NB175_167.out
        have hnc35 := NB167_175.out
        have hnb36 := NB175_174.out
        have hnc36 := NB174_175.out
        obtain ⟨hcz37_0, hcz37_1, hcz37_2, hcz37_3, hcz37_4, hfz37_0, hfz37_1, hfz37_2, hfz37_3, hfz37_4⟩ := cells5 BK175.out
        go_upto_region 14 with (first | ((with_reducible refine gate_callee (f := 22) rfl ?_); refine goesL_ (some 49) rfl rfl Try.func22 (by kernel_rfl) rfl #[.agg #[.int .i64 x176000_2, .int .i64 x176001_2, .bool x176002_2, .bool x176003_2, .bool x176004_2]] rfl za ?_; (with_reducible refine (impl_Advance.calls k2 x176000_2 x176001_2 x176002_2 x176003_2 x176004_2 t176 t177 t178 t179 t180 t181 _ A32.out).mono ?_); rintro e w38 ⟨rfl, hb⟩; refine ⟨_, rfl, ?_⟩; have n0_ := aM (bb BK160.out hb); have n1_ := aM (bb BK167.out hb); have n2_ := aM (bb BK174.out hb); have n3_ := aM (bb BK175.out hb); have n4_ := aM (below_step (zb) hb); clear BK160; clear BK167; clear BK174; clear BK175; clear HB; have BK160 := n0_; have BK167 := n1_; have BK174 := n2_; have BK175 := n3_; have HB := n4_; clear n0_ n1_ n2_ n3_ n4_; (try clear hb); (try clear hb2); (try clear hk); (try clear hi)) | ((with_reducible refine gate_dst (N := 11) rfl ?_); refine box_event ?hg (N := 11) ?hd (cs := #[.int .i64 0, .int .i64 0, .bool false, .bool false, .bool false]) (t := 24) ?hr ?_; (case hd => rfl); (case hg => rfl); (case hr => exact zg); intro gb182 hg w39 hbox hb; have n0_ := aM (bb BK160.out hb); have n1_ := aM (bb BK167.out hb); have n2_ := aM (bb BK174.out hb); have n3_ := aM (bb BK175.out hb); have n4_ := aM (below_step (zb) hb); have n5_ := aM (hbox); have n6_ := aM ((by rw [hg]; exact (below_size (zb)) : w.heap.size ≤ gb182)); have n7_ := aM ((by rw [hg]; exact (below_size (zb)) : w.heap.size ≤ gb182)); have n8_ := aM ((by rw [hg]; exact Nat.ne_of_lt (nl BK160.out) : gb160 ≠ gb182)); have n9_ := aM ((by rw [hg]; exact Nat.ne_of_gt (nl BK160.out) : gb182 ≠ gb160)); have n10_ := aM ((by rw [hg]; exact Nat.ne_of_lt (nl BK167.out) : gb167 ≠ gb182)); have n11_ := aM ((by rw [hg]; exact Nat.ne_of_gt (nl BK167.out) : gb182 ≠ gb167)); have n12_ := aM ((by rw [hg]; exact Nat.ne_of_lt (nl BK174.out) : gb174 ≠ gb182)); have n13_ := aM ((by rw [hg]; exact Nat.ne_of_gt (nl BK174.out) : gb182 ≠ gb174)); have n14_ := aM ((by rw [hg]; exact Nat.ne_of_lt (nl BK175.out) : gb175 ≠ gb182)); have n15_ := aM ((by rw [hg]; exact Nat.ne_of_gt (nl BK175.out) : gb182 ≠ gb175)); clear BK160; clear BK167; clear BK174; clear BK175; clear HB; have BK160 := n0_; have BK167 := n1_; have BK174 := n2_; have BK175 := n3_; have HB := n4_; have BK182 := n5_; have GW182 := n6_; have GE182 := n7_; have NB160_182 := n8_; have NB182_160 := n9_; have NB167_182 := n10_; have NB182_167 := n11_; have NB174_182 := n12_; have NB182_174 := n13_; have NB175_182 := n14_; have NB182_175 := n15_; clear n0_ n1_ n2_ n3_ n4_ n5_ n6_ n7_ n8_ n9_ n10_ n11_ n12_ n13_ n14_ n15_; clear hb hbox hg; have hnb40 := NB182_160.out; have hnc40 := NB160_182.out; have hnb41 := NB182_167.out; have hnc41 := NB167_182.out; have hnb42 := NB182_174.out; have hnc42 := NB174_182.out; have hnb43 := NB182_175.out; have hnc43 := NB175_182.out; obtain ⟨hcz44_0, hcz44_1, hcz44_2, hcz44_3, hcz44_4, hfz44_0, hfz44_1, hfz44_2, hfz44_3, hfz44_4⟩ := cells5 BK182.out))
        (try simp only [Act.put, List.setIfInBounds_toArray, List.set_cons_zero, List.set_cons_succ])
        go_cut [64] (fun v64 wc => ∃ (kq : Nat) (x64_32 : Bool), v64 = .bool x64_32 ∧ Aside0 (laws_FnOpenings.j2 kq l0 t166 t173 x10_2 x64_32 0 0 false false ((Int.tmod (rd t156 0) 2) == 1) t161 t162 t163 t164 t165 t176 t177 t178 t179 t180 = some r) ∧ Aside0 (kq ≤ k2) ∧ Aside0 (wc.heap[gb160]? = some (.cells #[.int .i64 0, .int .i64 0, .bool false, .bool false, .bool ((Int.tmod (rd t156 0) 2) == 1)] 24 (0, 0))) ∧ Aside0 (wc.heap[gb167]? = some (.cells #[.int .i64 t161, .int .i64 t162, .bool t163, .bool t164, .bool t165] 24 (0, 0))) ∧ Aside0 (wc.heap[gb174]? = some (.cells #[.int .i64 t168, .int .i64 t169, .bool t170, .bool t171, .bool t172] 24 (0, 0))) ∧ Aside0 (wc.heap[gb175]? = some (.cells #[.int .i64 x176000_2, .int .i64 x176001_2, .bool x176002_2, .bool x176003_2, .bool x176004_2] 24 (0, 0))) ∧ Aside0 (wc.heap[gb182]? = some (.cells #[.int .i64 t176, .int .i64 t177, .bool t178, .bool t179, .bool t180] 24 (0, 0))) ∧ Aside0 (Below w.heap.size w wc))
        case first =>
         have H := HC33.out
         clear HC33
         by_cases c45 : t181 = true
         ·subst c45
          have H1 : ((impl_StepName.f x176001_2).bind fun t183 => (if t183.toList = ([] : List UInt8) then (laws_FnOpenings.j2 k2 l0 t166 t173 x10_2 true 0 0 false false ((Int.tmod (rd t156 0) 2) == 1) t161 t162 t163 t164 t165 t176 t177 t178 t179 t180) else ((impl_DoorOk.f k2 t176 t177 t178 t179 t180).bind fun t184 => (laws_FnOpenings.j2 k2 l0 t166 t173 x10_2 (!t184) 0 0 false false ((Int.tmod (rd t156 0) 2) == 1) t161 t162 t163 t164 t165 t176 t177 t178 t179 t180)))) = some r := by rw [if_pos rfl] at H; exact H
          clear H
          have H := H1
          clear H1
          replace H := Option.bind_eq_some_iff.mp H
          obtain ⟨t183, A460, H⟩ := H
          replace H : (if t183.toList = ([] : List UInt8) then (laws_FnOpenings.j2 k2 l0 t166 t173 x10_2 true 0 0 false false ((Int.tmod (rd t156 0) 2) == 1) t161 t162 t163 t164 t165 t176 t177 t178 t179 t180) else ((impl_DoorOk.f k2 t176 t177 t178 t179 t180).bind fun t184 => (laws_FnOpenings.j2 k2 l0 t166 t173 x10_2 (!t184) 0 0 false false ((Int.tmod (rd t156 0) 2) == 1) t161 t162 t163 t164 t165 t176 t177 t178 t179 t180))) = some r := H
          have A46 := aM A460
          clear A460
          by_cases c47 : t183.toList = ([] : List UInt8)
          ·rw [if_pos c47] at H
           have c47b0 : (t183.toList == ([] : List UInt8)) = true := beq_iff_eq.mpr c47
           have c47b1 : (t183.toList != ([] : List UInt8)) = false := bne_eq_false_iff_eq.mpr c47
           clear c47
           (first | rw [c47b0] | (simp only [i64_w, i32_w]; rw [c47b0]) | skip)
           have H' := aM H
           clear H
           have hnb48 := NB175_160.out
           have hnc48 := NB160_175.out
           have hnb49 := NB175_167.out
           have hnc49 := NB167_175.out
           have hnb50 := NB175_174.out
           have hnc50 := NB174_175.out
           have hnb51 := NB175_182.out
           have hnc51 := NB182_175.out
           obtain ⟨hcz52_0, hcz52_1, hcz52_2, hcz52_3, hcz52_4, hfz52_0, hfz52_1, hfz52_2, hfz52_3, hfz52_4⟩ := cells5 BK175.out
           go_wp2_with (first | (go_at_call 29; (with_reducible refine (impl_StepName.calls x176001_2 t183 _ A46.out).mono ?_); rintro e w53 ⟨rfl, hb⟩; have n0_ := aM (blk_below (g := gb160) (o := .cells #[.int .i64 0, .int .i64 0, .bool false, .bool false, .bool ((Int.tmod (rd t156 0) 2) == 1)] 24 (0, 0)) (by refine pq ?_; refine blk_far ?_ NB160_182.out _; refine pq ?_; refine blk_far ?_ NB160_182.out _; refine pq ?_; refine blk_far ?_ NB160_182.out _; refine pq ?_; refine blk_far ?_ NB160_182.out _; refine pq ?_; refine blk_far ?_ NB160_182.out _; refine pq ?_; exact BK160.out) hb); have n1_ := aM (blk_below (g := gb167) (o := .cells #[.int .i64 t161, .int .i64 t162, .bool t163, .bool t164, .bool t165] 24 (0, 0)) (by refine pq ?_; refine blk_far ?_ NB167_182.out _; refine pq ?_; refine blk_far ?_ NB167_182.out _; refine pq ?_; refine blk_far ?_ NB167_182.out _; refine pq ?_; refine blk_far ?_ NB167_182.out _; refine pq ?_; refine blk_far ?_ NB167_182.out _; refine pq ?_; exact BK167.out) hb); have n2_ := aM (blk_below (g := gb174) (o := .cells #[.int .i64 t168, .int .i64 t169, .bool t170, .bool t171, .bool t172] 24 (0, 0)) (by refine pq ?_; refine blk_far ?_ NB174_182.out _; refine pq ?_; refine blk_far ?_ NB174_182.out _; refine pq ?_; refine blk_far ?_ NB174_182.out _; refine pq ?_; refine blk_far ?_ NB174_182.out _; refine pq ?_; refine blk_far ?_ NB174_182.out _; refine pq ?_; exact BK174.out) hb); have n3_ := aM (blk_below (g := gb175) (o := .cells #[.int .i64 x176000_2, .int .i64 x176001_2, .bool x176002_2, .bool x176003_2, .bool x176004_2] 24 (0, 0)) (by refine pq ?_; refine blk_far ?_ NB175_182.out _; refine pq ?_; refine blk_far ?_ NB175_182.out _; refine pq ?_; refine blk_far ?_ NB175_182.out _; refine pq ?_; refine blk_far ?_ NB175_182.out _; refine pq ?_; refine blk_far ?_ NB175_182.out _; refine pq ?_; exact BK175.out) hb); have n4_ := aM (blk_below (g := gb182) (o := .cells #[.int .i64 t176, .int .i64 t177, .bool t178, .bool t179, .bool t180] 24 (0, 0)) (by refine pq ?_; refine blk_put (cs := #[.int .i64 t176, .int .i64 t177, .bool t178, .bool t179, .bool false]) ?_ 4 _ rfl; refine pq ?_; refine blk_put (cs := #[.int .i64 t176, .int .i64 t177, .bool t178, .bool false, .bool false]) ?_ 3 _ rfl; refine pq ?_; refine blk_put (cs := #[.int .i64 t176, .int .i64 t177, .bool false, .bool false, .bool false]) ?_ 2 _ rfl; refine pq ?_; refine blk_put (cs := #[.int .i64 t176, .int .i64 0, .bool false, .bool false, .bool false]) ?_ 1 _ rfl; refine pq ?_; refine blk_put (cs := #[.int .i64 0, .int .i64 0, .bool false, .bool false, .bool false]) ?_ 0 _ rfl; refine pq ?_; exact BK182.out) hb); have n5_ := aM (below_step (zb) hb); clear BK160; clear BK167; clear BK174; clear BK175; clear BK182; clear HB; have BK160 := n0_; have BK167 := n1_; have BK174 := n2_; have BK175 := n3_; have BK182 := n4_; have HB := n5_; clear n0_ n1_ n2_ n3_ n4_ n5_; (try clear hb); (try clear hb2); (try clear hk); (try clear hi)))
           go_meet
           case rel => exact ⟨_, (true), zs, H', ⟨by have := HJ5.out; have := HK2.out; first | omega | exact Nat.le_refl _⟩, ⟨by exact pk BK160.out⟩, ⟨by exact pk BK167.out⟩, ⟨by exact pk BK174.out⟩, ⟨by exact pk BK175.out⟩, ⟨by exact pk BK182.out⟩, ⟨zb⟩⟩
          ·rw [if_neg c47] at H
           have c47b0 : (t183.toList == ([] : List UInt8)) = false := beq_eq_false_iff_ne.mpr c47
           have c47b1 : (t183.toList != ([] : List UInt8)) = true := bne_iff_ne.mpr c47
           (first | rw [c47b0] | (simp only [i64_w, i32_w]; rw [c47b0]) | skip)
           replace H := Option.bind_eq_some_iff.mp H
           obtain ⟨t184, A540, H⟩ := H
           replace H : (laws_FnOpenings.j2 k2 l0 t166 t173 x10_2 (!t184) 0 0 false false ((Int.tmod (rd t156 0) 2) == 1) t161 t162 t163 t164 t165 t176 t177 t178 t179 t180) = some r := H
           have A54 := aM A540
           clear A540
           have H' := aM H
           clear H
           have hnb55 := NB175_160.out
           have hnc55 := NB160_175.out
           have hnb56 := NB175_167.out
           have hnc56 := NB167_175.out
           have hnb57 := NB175_174.out
           have hnc57 := NB174_175.out
           have hnb58 := NB175_182.out
           have hnc58 := NB182_175.out
           obtain ⟨hcz59_0, hcz59_1, hcz59_2, hcz59_3, hcz59_4, hfz59_0, hfz59_1, hfz59_2, hfz59_3, hfz59_4⟩ := cells5 BK175.out
           go_wp2_with (first | (go_at_call 29; (with_reducible refine (impl_StepName.calls x176001_2 t183 _ A46.out).mono ?_); rintro e w60 ⟨rfl, hb⟩; have n0_ := aM (blk_below (g := gb160) (o := .cells #[.int .i64 0, .int .i64 0, .bool false, .bool false, .bool ((Int.tmod (rd t156 0) 2) == 1)] 24 (0, 0)) (by refine pq ?_; refine blk_far ?_ NB160_182.out _; refine pq ?_; refine blk_far ?_ NB160_182.out _; refine pq ?_; refine blk_far ?_ NB160_182.out _; refine pq ?_; refine blk_far ?_ NB160_182.out _; refine pq ?_; refine blk_far ?_ NB160_182.out _; refine pq ?_; exact BK160.out) hb); have n1_ := aM (blk_below (g := gb167) (o := .cells #[.int .i64 t161, .int .i64 t162, .bool t163, .bool t164, .bool t165] 24 (0, 0)) (by refine pq ?_; refine blk_far ?_ NB167_182.out _; refine pq ?_; refine blk_far ?_ NB167_182.out _; refine pq ?_; refine blk_far ?_ NB167_182.out _; refine pq ?_; refine blk_far ?_ NB167_182.out _; refine pq ?_; refine blk_far ?_ NB167_182.out _; refine pq ?_; exact BK167.out) hb); have n2_ := aM (blk_below (g := gb174) (o := .cells #[.int .i64 t168, .int .i64 t169, .bool t170, .bool t171, .bool t172] 24 (0, 0)) (by refine pq ?_; refine blk_far ?_ NB174_182.out _; refine pq ?_; refine blk_far ?_ NB174_182.out _; refine pq ?_; refine blk_far ?_ NB174_182.out _; refine pq ?_; refine blk_far ?_ NB174_182.out _; refine pq ?_; refine blk_far ?_ NB174_182.out _; refine pq ?_; exact BK174.out) hb); have n3_ := aM (blk_below (g := gb175) (o := .cells #[.int .i64 x176000_2, .int .i64 x176001_2, .bool x176002_2, .bool x176003_2, .bool x176004_2] 24 (0, 0)) (by refine pq ?_; refine blk_far ?_ NB175_182.out _; refine pq ?_; refine blk_far ?_ NB175_182.out _; refine pq ?_; refine blk_far ?_ NB175_182.out _; refine pq ?_; refine blk_far ?_ NB175_182.out _; refine pq ?_; refine blk_far ?_ NB175_182.out _; refine pq ?_; exact BK175.out) hb); have n4_ := aM (blk_below (g := gb182) (o := .cells #[.int .i64 t176, .int .i64 t177, .bool t178, .bool t179, .bool t180] 24 (0, 0)) (by refine pq ?_; refine blk_put (cs := #[.int .i64 t176, .int .i64 t177, .bool t178, .bool t179, .bool false]) ?_ 4 _ rfl; refine pq ?_; refine blk_put (cs := #[.int .i64 t176, .int .i64 t177, .bool t178, .bool false, .bool false]) ?_ 3 _ rfl; refine pq ?_; refine blk_put (cs := #[.int .i64 t176, .int .i64 t177, .bool false, .bool false, .bool false]) ?_ 2 _ rfl; refine pq ?_; refine blk_put (cs := #[.int .i64 t176, .int .i64 0, .bool false, .bool false, .bool false]) ?_ 1 _ rfl; refine pq ?_; refine blk_put (cs := #[.int .i64 0, .int .i64 0, .bool false, .bool false, .bool false]) ?_ 0 _ rfl; refine pq ?_; exact BK182.out) hb); have n5_ := aM (below_step (zb) hb); clear BK160; clear BK167; clear BK174; clear BK175; clear BK182; clear HB; have BK160 := n0_; have BK167 := n1_; have BK174 := n2_; have BK175 := n3_; have BK182 := n4_; have HB := n5_; clear n0_ n1_ n2_ n3_ n4_ n5_; (try clear hb); (try clear hb2); (try clear hk); (try clear hi); have hnb61 := NB182_160.out; have hnc61 := NB160_182.out; have hnb62 := NB182_167.out; have hnc62 := NB167_182.out; have hnb63 := NB182_174.out; have hnc63 := NB174_182.out; obtain ⟨hcz64_0, hcz64_1, hcz64_2, hcz64_3, hcz64_4, hfz64_0, hfz64_1, hfz64_2, hfz64_3, hfz64_4⟩ := cells5 BK182.out) | (go_at_call 30; (with_reducible refine (impl_DoorOk.calls k2 t176 t177 t178 t179 t180 t184 _ A54.out).mono ?_); rintro e w65 ⟨rfl, hb⟩; have n0_ := aM (bb BK160.out hb); have n1_ := aM (bb BK167.out hb); have n2_ := aM (bb BK174.out hb); have n3_ := aM (bb BK175.out hb); have n4_ := aM (bb BK182.out hb); have n5_ := aM (below_step (zb) hb); clear BK160; clear BK167; clear BK174; clear BK175; clear BK182; clear HB; have BK160 := n0_; have BK167 := n1_; have BK174 := n2_; have BK175 := n3_; have BK182 := n4_; have HB := n5_; clear n0_ n1_ n2_ n3_ n4_ n5_; (try clear hb); (try clear hb2); (try clear hk); (try clear hi)))
           go_meet
           case rel => exact ⟨_, (!t184), zs, H', ⟨by have := HJ5.out; have := HK2.out; first | omega | exact Nat.le_refl _⟩, ⟨by exact pk BK160.out⟩, ⟨by exact pk BK167.out⟩, ⟨by exact pk BK174.out⟩, ⟨by exact pk BK175.out⟩, ⟨by exact pk BK182.out⟩, ⟨zb⟩⟩
         ·replace c45 := Bool.eq_false_iff.mpr c45
          subst c45
          have H1 : (laws_FnOpenings.j2 k2 l0 t166 t173 x10_2 true 0 0 false false ((Int.tmod (rd t156 0) 2) == 1) t161 t162 t163 t164 t165 t176 t177 t178 t179 t180) = some r := by rw [if_neg (show ¬ (false = true) by decide)] at H; exact H
          clear H
          have H := H1
          clear H1
          have H' := aM H
          clear H
          go_wp2
          go_meet
          case rel => exact ⟨_, (true), zs, H', ⟨by have := HJ5.out; have := HK2.out; first | omega | exact Nat.le_refl _⟩, ⟨by refine pq ?_; refine blk_far ?_ NB160_182.out _; refine pq ?_; refine blk_far ?_ NB160_182.out _; refine pq ?_; refine blk_far ?_ NB160_182.out _; refine pq ?_; refine blk_far ?_ NB160_182.out _; refine pq ?_; refine blk_far ?_ NB160_182.out _; refine pq ?_; exact BK160.out⟩, ⟨by refine pq ?_; refine blk_far ?_ NB167_182.out _; refine pq ?_; refine blk_far ?_ NB167_182.out _; refine pq ?_; refine blk_far ?_ NB167_182.out _; refine pq ?_; refine blk_far ?_ NB167_182.out _; refine pq ?_; refine blk_far ?_ NB167_182.out _; refine pq ?_; exact BK167.out⟩, ⟨by refine pq ?_; refine blk_far ?_ NB174_182.out _; refine pq ?_; refine blk_far ?_ NB174_182.out _; refine pq ?_; refine blk_far ?_ NB174_182.out _; refine pq ?_; refine blk_far ?_ NB174_182.out _; refine pq ?_; refine blk_far ?_ NB174_182.out _; refine pq ?_; exact BK174.out⟩, ⟨by refine pq ?_; refine blk_far ?_ NB175_182.out _; refine pq ?_; refine blk_far ?_ NB175_182.out _; refine pq ?_; refine blk_far ?_ NB175_182.out _; refine pq ?_; refine blk_far ?_ NB175_182.out _; refine pq ?_; refine blk_far ?_ NB175_182.out _; refine pq ?_; exact BK175.out⟩, ⟨by refine pq ?_; refine blk_put (cs := #[.int .i64 t176, .int .i64 t177, .bool t178, .bool t179, .bool false]) ?_ 4 _ rfl; refine pq ?_; refine blk_put (cs := #[.int .i64 t176, .int .i64 t177, .bool t178, .bool false, .bool false]) ?_ 3 _ rfl; refine pq ?_; refine blk_put (cs := #[.int .i64 t176, .int .i64 t177, .bool false, .bool false, .bool false]) ?_ 2 _ rfl; refine pq ?_; refine blk_put (cs := #[.int .i64 t176, .int .i64 0, .bool false, .bool false, .bool false]) ?_ 1 _ rfl; refine pq ?_; refine blk_put (cs := #[.int .i64 0, .int .i64 0, .bool false, .bool false, .bool false]) ?_ 0 _ rfl; refine pq ?_; exact BK182.out⟩, ⟨zb⟩⟩
        case rest =>
         clear HC33
         try clear c1
         try clear p1
         try clear q1
         try clear hx1
         try clear qi1
         try clear c2
         try clear p2
         try clear c3
         try clear c4
         try clear c5
         try clear c5b0
         try clear c5b1
         try clear c6
         try clear p6
         try clear c8
         try clear c11
         try clear c11b0
         try clear c11b1
         try clear p15
         try clear q15
         try clear hx15
         try clear qi15
         try clear c17
         try clear c22
         try clear c23
         try clear c26
         try clear c27
         try clear c28
         try clear c29
         try clear c31
         try clear c31b0
         try clear c34
         try clear c35
         try clear c36
         try clear c40
         try clear c41
         try clear c42
         try clear c43
         try clear c45
         try clear c47
         try clear c47b0
         try clear c47b1
         try clear c48
         try clear c49
         try clear c50
         try clear c51
         try clear c55
         try clear c56
         try clear c57
         try clear c58
         try clear c61
         try clear c62
         try clear c63
         try clear p64
         try clear hcz10_0 hcz10_1 hcz10_2 hcz10_3 hcz10_4 hfz10_0 hfz10_1 hfz10_2 hfz10_3 hfz10_4
         try clear hcz14_0 hcz14_1 hcz14_2 hcz14_3 hcz14_4 hfz14_0 hfz14_1 hfz14_2 hfz14_3 hfz14_4
         try clear hcz18_0 hcz18_1 hcz18_2 hcz18_3 hcz18_4 hfz18_0 hfz18_1 hfz18_2 hfz18_3 hfz18_4
         try clear hcz19_0 hcz19_1 hcz19_2 hcz19_3 hcz19_4 hfz19_0 hfz19_1 hfz19_2 hfz19_3 hfz19_4
         try clear hcz24_0 hcz24_1 hcz24_2 hcz24_3 hcz24_4 hfz24_0 hfz24_1 hfz24_2 hfz24_3 hfz24_4
         try clear hcz25_0 hcz25_1 hcz25_2 hcz25_3 hcz25_4 hfz25_0 hfz25_1 hfz25_2 hfz25_3 hfz25_4
         try clear hcz30_0 hcz30_1 hcz30_2 hcz30_3 hcz30_4 hfz30_0 hfz30_1 hfz30_2 hfz30_3 hfz30_4
         try clear hcz37_0 hcz37_1 hcz37_2 hcz37_3 hcz37_4 hfz37_0 hfz37_1 hfz37_2 hfz37_3 hfz37_4
         try clear hcz44_0 hcz44_1 hcz44_2 hcz44_3 hcz44_4 hfz44_0 hfz44_1 hfz44_2 hfz44_3 hfz44_4
         try clear hcz52_0 hcz52_1 hcz52_2 hcz52_3 hcz52_4 hfz52_0 hfz52_1 hfz52_2 hfz52_3 hfz52_4
         try clear hcz59_0 hcz59_1 hcz59_2 hcz59_3 hcz59_4 hfz59_0 hfz59_1 hfz59_2 hfz59_3 hfz59_4
         try clear hcz64_0 hcz64_1 hcz64_2 hcz64_3 hcz64_4 hfz64_0 hfz64_1 hfz64_2 hfz64_3 hfz64_4
         try clear hx159_0
         try clear p1
         try clear p15
         try clear p159
         try clear p2
         try clear p6
         try clear q1
         try clear q15
         try clear q159
         obtain ⟨kq, x64_32, rfl, HA, HJ32, BK160, BK167, BK174, BK175, BK182, HB⟩ := hcut
         cases kq with
         | zero => exact absurd HA.out (by simp [laws_FnOpenings.j2])
         | succ kj32 =>
          have H := HA.out
          clear HA
          simp only [laws_FnOpenings.j2] at H
          by_cases c66 : x64_32 = true
          ·subst c66
           have H1 : (none) = some r := by rw [if_pos rfl] at H; exact H
           clear H
           have H := H1
           clear H1
           exact absurd H (by simp)
          ·replace c66 := Bool.eq_false_iff.mpr c66
           subst c66
           have H1 : (laws_FnOpenings.l0 kj32 l0 t166 t173 (wrap64 (x10_2 + 1)) 0 0 false false ((Int.tmod (rd t156 0) 2) == 1) t161 t162 t163 t164 t165 t176 t177 t178 t179 t180) = some r := by rw [if_neg (show ¬ (false = true) by decide)] at H; exact H
           clear H
           have H := H1
           clear H1
           have H' := aM H
           clear H
           have hnb67 := NB182_160.out
           have hnc67 := NB160_182.out
           have hnb68 := NB182_167.out
           have hnc68 := NB167_182.out
           have hnb69 := NB182_174.out
           have hnc69 := NB174_182.out
           have hnb70 := NB182_175.out
           have hnc70 := NB175_182.out
           obtain ⟨hcz71_0, hcz71_1, hcz71_2, hcz71_3, hcz71_4, hfz71_0, hfz71_1, hfz71_2, hfz71_3, hfz71_4⟩ := cells5 BK182.out
           have hnb72 := NB175_160.out
           have hnc72 := NB160_175.out
           have hnb73 := NB175_167.out
           have hnc73 := NB167_175.out
           have hnb74 := NB175_174.out
           have hnc74 := NB174_175.out
           obtain ⟨hcz75_0, hcz75_1, hcz75_2, hcz75_3, hcz75_4, hfz75_0, hfz75_1, hfz75_2, hfz75_3, hfz75_4⟩ := cells5 BK175.out
           go_wp2
           go_roundg kj32
           case measure => have := HJ5.out; have := HK2.out; have := HJ32.out; omega
           case rel => exact ⟨(wrap64 (x10_2 + 1)), (t176), (t177), (t178), (t179), (t180), zs, H', ⟨by have := HJ5.out; have := HK2.out; have := HJ32.out; omega⟩, ⟨by refine pq ?_; refine blk_far ?_ NB160_175.out _; refine pq ?_; refine blk_far ?_ NB160_175.out _; refine pq ?_; refine blk_far ?_ NB160_175.out _; refine pq ?_; refine blk_far ?_ NB160_175.out _; refine pq ?_; refine blk_far ?_ NB160_175.out _; refine pq ?_; exact BK160.out⟩, ⟨by refine pq ?_; refine blk_far ?_ NB167_175.out _; refine pq ?_; refine blk_far ?_ NB167_175.out _; refine pq ?_; refine blk_far ?_ NB167_175.out _; refine pq ?_; refine blk_far ?_ NB167_175.out _; refine pq ?_; refine blk_far ?_ NB167_175.out _; refine pq ?_; exact BK167.out⟩, ⟨by refine pq ?_; refine blk_far ?_ NB174_175.out _; refine pq ?_; refine blk_far ?_ NB174_175.out _; refine pq ?_; refine blk_far ?_ NB174_175.out _; refine pq ?_; refine blk_far ?_ NB174_175.out _; refine pq ?_; refine blk_far ?_ NB174_175.out _; refine pq ?_; exact BK174.out⟩, ⟨by refine pq ?_; refine blk_put (cs := #[.int .i64 t176, .int .i64 t177, .bool t178, .bool t179, .bool x176004_2]) ?_ 4 _ rfl; refine pq ?_; refine blk_put (cs := #[.int .i64 t176, .int .i64 t177, .bool t178, .bool x176003_2, .bool x176004_2]) ?_ 3 _ rfl; refine pq ?_; refine blk_put (cs := #[.int .i64 t176, .int .i64 t177, .bool x176002_2, .bool x176003_2, .bool x176004_2]) ?_ 2 _ rfl; refine pq ?_; refine blk_put (cs := #[.int .i64 t176, .int .i64 x176001_2, .bool x176002_2, .bool x176003_2, .bool x176004_2]) ?_ 1 _ rfl; refine pq ?_; refine blk_put (cs := #[.int .i64 x176000_2, .int .i64 x176001_2, .bool x176002_2, .bool x176003_2, .bool x176004_2]) ?_ 0 _ rfl; refine pq ?_; exact BK175.out⟩, ⟨zb⟩⟩
       ·rw [if_neg c31] at H
        have c31b0 : decide (x10_2 < 6) = false := decide_eq_false c31
        clear c31
        replace H := Option.bind_eq_some_iff.mp H
        obtain ⟨t185, A760, H⟩ := H
        replace H : (if 1 < (t185.length : Int) then (laws_FnOpenings.l1 k2 t166 t173 (wrap64 (1 + (Int.tmod (rd t185 1) 3))) 0 0 0 false false ((Int.tmod (rd t156 0) 2) == 1) x176000_2 x176001_2 x176002_2 x176003_2 x176004_2 t161 t162 t163 t164 t165) else (none)) = some r := H
        have A76 := aM A760
        clear A760
        by_cases c77 : 1 < (t185.length : Int)
        ·rw [if_pos c77] at H
         have c77b0 : decide (1 < (t185.length : Int)) = true := decide_eq_true c77
         have c77b1 : decide (1 < t185.length) = true := decide_eq_true (by omega)
         clear c77
         have H' := aM H
         clear H
         go_wp2_with (first | ((with_reducible refine gate_callee (f := 27) rfl ?_); refine goesL_ (some 67) rfl rfl Try.func27 (by kernel_rfl) rfl #[.slice A0 l0.length c0] rfl za ?_; (with_reducible refine (spec_DrawPlaces.calls k2 _ _ l0 t185 _ ?side1 ?side2 A76.out).mono ?_); (case side1 => repeat (first | exact (Kd.C_below HR0.out HB.out) | (with_reducible refine Kd.C_alloc ?_ _) | (with_reducible refine Kd.C_drewN ?_ _) | (with_reducible refine Kd.C_drew ?_))); (case side2 => exact HC0.out); rintro e w78 ⟨v186, rfl, ho0, hb⟩; refine ⟨_, rfl, ?_⟩; have n0_ := aM (Kd.R_lower ho0 (below_size (zb))); have n1_ := aM (bb BK160.out hb); have n2_ := aM (bb BK167.out hb); have n3_ := aM (bb BK174.out hb); have n4_ := aM (bb BK175.out hb); have n5_ := aM (below_step (zb) hb); clear BK160; clear BK167; clear BK174; clear BK175; clear HB; have HO187 := n0_; have BK160 := n1_; have BK167 := n2_; have BK174 := n3_; have BK175 := n4_; have HB := n5_; clear n0_ n1_ n2_ n3_ n4_ n5_; (try clear hb); (try clear hb2); (try clear hk); (try clear hi); (try clear ho0); obtain ⟨Ao79, co79, eo79⟩ := Kd.R_slice HO187.out; subst eo79; have p188 : 0 ≤ (1 : Int) := (by omega); have q188 : 1 < (t185.length : Int) := of_decide_eq_true (by first | (with_reducible assumption) | assumption); obtain ⟨ad188, e188, hx188_0⟩ := Kd.at_int (Kd.R_reads' HO187.out).2.2 1 p188 q188; cases e188; (try simp only [show (1 : Int).toNat = 1 from rfl, Nat.reduceMul, Nat.reduceEqDiff, Go.Addr.add, ↓reduceIte] at hx188_0); have qi188 : (1 < t185.length) = True := eq_true (by omega); (try rw [show ((1 : Int)).toNat = 1 from rfl] at hx188_0); replace p188 := eq_true p188; replace q188 := eq_true q188; have hnb80 := NB167_160.out; have hnc80 := NB160_167.out; have hnb81 := NB167_174.out; have hnc81 := NB174_167.out; have hnb82 := NB167_175.out; have hnc82 := NB175_167.out; obtain ⟨hcz83_0, hcz83_1, hcz83_2, hcz83_3, hcz83_4, hfz83_0, hfz83_1, hfz83_2, hfz83_3, hfz83_4⟩ := cells5 BK167.out) | ((with_reducible refine gate_dst (N := 14) rfl ?_); refine box_event ?hg (N := 14) ?hd (cs := #[.int .i64 0, .int .i64 0, .bool false, .bool false, .bool false]) (t := 24) ?hr ?_; (case hd => rfl); (case hg => rfl); (case hr => exact zg); intro gb189 hg w84 hbox hb; have n0_ := aM (Kd.R_below (by (with_reducible repeat (first | apply Kd.R_alloc | apply Kd.R_drewN | apply Kd.R_drew)); exact HO187.out) hb); have n1_ := aM (bb BK160.out hb); have n2_ := aM (bb BK167.out hb); have n3_ := aM (bb BK174.out hb); have n4_ := aM (bb BK175.out hb); have n5_ := aM (below_step (zb) hb); have n6_ := aM (hbox); have n7_ := aM ((by rw [hg]; exact (below_size (zb)) : w.heap.size ≤ gb189)); have n8_ := aM ((by rw [hg]; exact (below_size (zb)) : w.heap.size ≤ gb189)); have n9_ := aM ((by rw [hg]; exact Nat.ne_of_lt (nl BK160.out) : gb160 ≠ gb189)); have n10_ := aM ((by rw [hg]; exact Nat.ne_of_gt (nl BK160.out) : gb189 ≠ gb160)); have n11_ := aM ((by rw [hg]; exact Nat.ne_of_lt (nl BK167.out) : gb167 ≠ gb189)); have n12_ := aM ((by rw [hg]; exact Nat.ne_of_gt (nl BK167.out) : gb189 ≠ gb167)); have n13_ := aM ((by rw [hg]; exact Nat.ne_of_lt (nl BK174.out) : gb174 ≠ gb189)); have n14_ := aM ((by rw [hg]; exact Nat.ne_of_gt (nl BK174.out) : gb189 ≠ gb174)); have n15_ := aM ((by rw [hg]; exact Nat.ne_of_lt (nl BK175.out) : gb175 ≠ gb189)); have n16_ := aM ((by rw [hg]; exact Nat.ne_of_gt (nl BK175.out) : gb189 ≠ gb175)); clear HO187; clear BK160; clear BK167; clear BK174; clear BK175; clear HB; have HO187 := n0_; have BK160 := n1_; have BK167 := n2_; have BK174 := n3_; have BK175 := n4_; have HB := n5_; have BK189 := n6_; have GW189 := n7_; have GE189 := n8_; have NB160_189 := n9_; have NB189_160 := n10_; have NB167_189 := n11_; have NB189_167 := n12_; have NB174_189 := n13_; have NB189_174 := n14_; have NB175_189 := n15_; have NB189_175 := n16_; clear n0_ n1_ n2_ n3_ n4_ n5_ n6_ n7_ n8_ n9_ n10_ n11_ n12_ n13_ n14_ n15_ n16_; clear hb hbox hg; have hnb85 := NB189_160.out; have hnc85 := NB160_189.out; have hnb86 := NB189_167.out; have hnc86 := NB167_189.out; have hnb87 := NB189_174.out; have hnc87 := NB174_189.out; have hnb88 := NB189_175.out; have hnc88 := NB175_189.out; obtain ⟨hcz89_0, hcz89_1, hcz89_2, hcz89_3, hcz89_4, hfz89_0, hfz89_1, hfz89_2, hfz89_3, hfz89_4⟩ := cells5 BK189.out))
         go_loopg [15] k2 (fun kq v15 w' => ∃ (x15_3 : Int) (x190000_3 : Int) (x190001_3 : Int) (x190002_3 : Bool) (x190003_3 : Bool) (x190004_3 : Bool), v15 = .int .i64 x15_3 ∧ Aside0 (laws_FnOpenings.l1 kq t166 t173 (wrap64 (1 + (Int.tmod (rd t185 1) 3))) x15_3 0 0 false false ((Int.tmod (rd t156 0) 2) == 1) x176000_2 x176001_2 x176002_2 x176003_2 x176004_2 x190000_3 x190001_3 x190002_3 x190003_3 x190004_3 = some r) ∧ Aside0 (kq ≤ k2) ∧ Aside0 (w'.heap[gb160]? = some (.cells #[.int .i64 0, .int .i64 0, .bool false, .bool false, .bool ((Int.tmod (rd t156 0) 2) == 1)] 24 (0, 0))) ∧ Aside0 (w'.heap[gb167]? = some (.cells #[.int .i64 t161, .int .i64 t162, .bool t163, .bool t164, .bool t165] 24 (0, 0))) ∧ Aside0 (w'.heap[gb174]? = some (.cells #[.int .i64 t168, .int .i64 t169, .bool t170, .bool t171, .bool t172] 24 (0, 0))) ∧ Aside0 (w'.heap[gb175]? = some (.cells #[.int .i64 x176000_2, .int .i64 x176001_2, .bool x176002_2, .bool x176003_2, .bool x176004_2] 24 (0, 0))) ∧ Aside0 (w'.heap[gb189]? = some (.cells #[.int .i64 x190000_3, .int .i64 x190001_3, .bool x190002_3, .bool x190003_3, .bool x190004_3] 24 (0, 0))) ∧ Aside0 (Below w.heap.size w w'))
         case atStart => exact ⟨(0), (t161), (t162), (t163), (t164), (t165), zs, H', ⟨Nat.le_refl _⟩, ⟨by refine pq ?_; refine blk_far ?_ NB160_189.out _; refine pq ?_; refine blk_far ?_ NB160_189.out _; refine pq ?_; refine blk_far ?_ NB160_189.out _; refine pq ?_; refine blk_far ?_ NB160_189.out _; refine pq ?_; refine blk_far ?_ NB160_189.out _; refine pq ?_; exact BK160.out⟩, ⟨by refine pq ?_; refine blk_far ?_ NB167_189.out _; refine pq ?_; refine blk_far ?_ NB167_189.out _; refine pq ?_; refine blk_far ?_ NB167_189.out _; refine pq ?_; refine blk_far ?_ NB167_189.out _; refine pq ?_; refine blk_far ?_ NB167_189.out _; refine pq ?_; exact BK167.out⟩, ⟨by refine pq ?_; refine blk_far ?_ NB174_189.out _; refine pq ?_; refine blk_far ?_ NB174_189.out _; refine pq ?_; refine blk_far ?_ NB174_189.out _; refine pq ?_; refine blk_far ?_ NB174_189.out _; refine pq ?_; refine blk_far ?_ NB174_189.out _; refine pq ?_; exact BK174.out⟩, ⟨by refine pq ?_; refine blk_far ?_ NB175_189.out _; refine pq ?_; refine blk_far ?_ NB175_189.out _; refine pq ?_; refine blk_far ?_ NB175_189.out _; refine pq ?_; refine blk_far ?_ NB175_189.out _; refine pq ?_; refine blk_far ?_ NB175_189.out _; refine pq ?_; exact BK175.out⟩, ⟨by refine pq ?_; refine blk_put (cs := #[.int .i64 t161, .int .i64 t162, .bool t163, .bool t164, .bool false]) ?_ 4 _ rfl; refine pq ?_; refine blk_put (cs := #[.int .i64 t161, .int .i64 t162, .bool t163, .bool false, .bool false]) ?_ 3 _ rfl; refine pq ?_; refine blk_put (cs := #[.int .i64 t161, .int .i64 t162, .bool false, .bool false, .bool false]) ?_ 2 _ rfl; refine pq ?_; refine blk_put (cs := #[.int .i64 t161, .int .i64 0, .bool false, .bool false, .bool false]) ?_ 1 _ rfl; refine pq ?_; refine blk_put (cs := #[.int .i64 0, .int .i64 0, .bool false, .bool false, .bool false]) ?_ 0 _ rfl; refine pq ?_; exact BK189.out⟩, ⟨zb⟩⟩
         case round =>
          clear H'
          try clear c1
          try clear p1
          try clear q1
          try clear hx1
          try clear qi1
          try clear c2
          try clear p2
          try clear c3
          try clear c4
          try clear c5
          try clear c5b0
          try clear c5b1
          try clear c6
          try clear p6
          try clear c7
          try clear c8
          try clear c11
          try clear c11b0
          try clear c11b1
          try clear p15
          try clear q15
          try clear hx15
          try clear qi15
          try clear c17
          try clear p18
          try clear q18
          try clear hx18
          try clear qi18
          try clear c22
          try clear c23
          try clear c26
          try clear c27
          try clear c28
          try clear c29
          try clear c31
          try clear c31b0
          try clear c34
          try clear c35
          try clear c36
          try clear c40
          try clear c41
          try clear c42
          try clear c43
          try clear c45
          try clear c47
          try clear c47b0
          try clear c47b1
          try clear c48
          try clear c49
          try clear c50
          try clear c51
          try clear c55
          try clear c56
          try clear c57
          try clear c58
          try clear c61
          try clear c62
          try clear c63
          try clear p64
          try clear c66
          try clear c67
          try clear c68
          try clear c69
          try clear c70
          try clear c72
          try clear c73
          try clear c74
          try clear c77
          try clear c77b0
          try clear c77b1
          try clear c80
          try clear c81
          try clear c82
          try clear c85
          try clear c86
          try clear c87
          try clear c88
          try clear hcz10_0 hcz10_1 hcz10_2 hcz10_3 hcz10_4 hfz10_0 hfz10_1 hfz10_2 hfz10_3 hfz10_4
          try clear hcz14_0 hcz14_1 hcz14_2 hcz14_3 hcz14_4 hfz14_0 hfz14_1 hfz14_2 hfz14_3 hfz14_4
          try clear hcz18_0 hcz18_1 hcz18_2 hcz18_3 hcz18_4 hfz18_0 hfz18_1 hfz18_2 hfz18_3 hfz18_4
          try clear hcz19_0 hcz19_1 hcz19_2 hcz19_3 hcz19_4 hfz19_0 hfz19_1 hfz19_2 hfz19_3 hfz19_4
          try clear hcz24_0 hcz24_1 hcz24_2 hcz24_3 hcz24_4 hfz24_0 hfz24_1 hfz24_2 hfz24_3 hfz24_4
          try clear hcz25_0 hcz25_1 hcz25_2 hcz25_3 hcz25_4 hfz25_0 hfz25_1 hfz25_2 hfz25_3 hfz25_4
          try clear hcz30_0 hcz30_1 hcz30_2 hcz30_3 hcz30_4 hfz30_0 hfz30_1 hfz30_2 hfz30_3 hfz30_4
          try clear hcz37_0 hcz37_1 hcz37_2 hcz37_3 hcz37_4 hfz37_0 hfz37_1 hfz37_2 hfz37_3 hfz37_4
          try clear hcz44_0 hcz44_1 hcz44_2 hcz44_3 hcz44_4 hfz44_0 hfz44_1 hfz44_2 hfz44_3 hfz44_4
          try clear hcz52_0 hcz52_1 hcz52_2 hcz52_3 hcz52_4 hfz52_0 hfz52_1 hfz52_2 hfz52_3 hfz52_4
          try clear hcz59_0 hcz59_1 hcz59_2 hcz59_3 hcz59_4 hfz59_0 hfz59_1 hfz59_2 hfz59_3 hfz59_4
          try clear hcz64_0 hcz64_1 hcz64_2 hcz64_3 hcz64_4 hfz64_0 hfz64_1 hfz64_2 hfz64_3 hfz64_4
          try clear hcz71_0 hcz71_1 hcz71_2 hcz71_3 hcz71_4 hfz71_0 hfz71_1 hfz71_2 hfz71_3 hfz71_4
          try clear hcz75_0 hcz75_1 hcz75_2 hcz75_3 hcz75_4 hfz75_0 hfz75_1 hfz75_2 hfz75_3 hfz75_4
          try clear hcz83_0 hcz83_1 hcz83_2 hcz83_3 hcz83_4 hfz83_0 hfz83_1 hfz83_2 hfz83_3 hfz83_4
          try clear hcz89_0 hcz89_1 hcz89_2 hcz89_3 hcz89_4 hfz89_0 hfz89_1 hfz89_2 hfz89_3 hfz89_4
          try clear hx159_0
          try clear hx188_0
          try clear p1
          try clear p15
          try clear p159
          try clear p188
          try clear p2
          try clear p6
          try clear p64
          try clear q1
          try clear q15
          try clear q159
          try clear q188
          obtain ⟨x15_3, x190000_3, x190001_3, x190002_3, x190003_3, x190004_3, rfl, HA, HK3, BK160, BK167, BK174, BK175, BK189, HB⟩ := hrel
          cases gk with
          | zero => exact absurd HA.out (by simp [laws_FnOpenings.l1])
          | succ k3 =>
           have H := HA.out
           clear HA
           simp only [laws_FnOpenings.l1] at H
           by_cases c90 : x15_3 < (wrap64 (1 + (Int.tmod (rd t185 1) 3)))
           ·rw [if_pos c90] at H
            have c90b0 : decide (x15_3 < (wrap64 (1 + (Int.tmod (rd t185 1) 3)))) = true := decide_eq_true c90
            clear c90
            replace H := Option.bind_eq_some_iff.mp H
            obtain ⟨⟨t190, t191, t192, t193, t194, t195⟩, A910, H⟩ := H
            replace H : (laws_FnOpenings.l1 k3 t166 t173 (wrap64 (1 + (Int.tmod (rd t185 1) 3))) (wrap64 (x15_3 + 1)) 0 0 false false ((Int.tmod (rd t156 0) 2) == 1) x176000_2 x176001_2 x176002_2 x176003_2 x176004_2 t190 t191 t192 t193 t194) = some r := H
            have A91 := aM A910
            clear A910
            have H' := aM H
            clear H
            have hnb92 := NB189_160.out
            have hnc92 := NB160_189.out
            have hnb93 := NB189_167.out
            have hnc93 := NB167_189.out
            have hnb94 := NB189_174.out
            have hnc94 := NB174_189.out
            have hnb95 := NB189_175.out
            have hnc95 := NB175_189.out
            obtain ⟨hcz96_0, hcz96_1, hcz96_2, hcz96_3, hcz96_4, hfz96_0, hfz96_1, hfz96_2, hfz96_3, hfz96_4⟩ := cells5 BK189.out
            go_wp2_with (first | ((with_reducible refine gate_callee (f := 22) rfl ?_); refine goesL_ (some 80) rfl rfl Try.func22 (by kernel_rfl) rfl #[.agg #[.int .i64 x190000_3, .int .i64 x190001_3, .bool x190002_3, .bool x190003_3, .bool x190004_3]] rfl za ?_; (with_reducible refine (impl_Advance.calls k3 x190000_3 x190001_3 x190002_3 x190003_3 x190004_3 t190 t191 t192 t193 t194 t195 _ A91.out).mono ?_); rintro e w97 ⟨rfl, hb⟩; refine ⟨_, rfl, ?_⟩; have n0_ := aM (bb BK160.out hb); have n1_ := aM (bb BK167.out hb); have n2_ := aM (bb BK174.out hb); have n3_ := aM (bb BK175.out hb); have n4_ := aM (bb BK189.out hb); have n5_ := aM (below_step (zb) hb); clear BK160; clear BK167; clear BK174; clear BK175; clear BK189; clear HB; have BK160 := n0_; have BK167 := n1_; have BK174 := n2_; have BK175 := n3_; have BK189 := n4_; have HB := n5_; clear n0_ n1_ n2_ n3_ n4_ n5_; (try clear hb); (try clear hb2); (try clear hk); (try clear hi); obtain ⟨hcz98_0, hcz98_1, hcz98_2, hcz98_3, hcz98_4, hfz98_0, hfz98_1, hfz98_2, hfz98_3, hfz98_4⟩ := cells5 BK189.out))
            go_roundg k3
            case measure => have := HJ5.out; have := HK2.out; have := HK3.out; omega
            case rel => exact ⟨(wrap64 (x15_3 + 1)), (t190), (t191), (t192), (t193), (t194), zs, H', ⟨by have := HJ5.out; have := HK2.out; have := HK3.out; omega⟩, ⟨by refine pq ?_; refine blk_far ?_ NB160_189.out _; refine pq ?_; refine blk_far ?_ NB160_189.out _; refine pq ?_; refine blk_far ?_ NB160_189.out _; refine pq ?_; refine blk_far ?_ NB160_189.out _; refine pq ?_; refine blk_far ?_ NB160_189.out _; refine pq ?_; exact BK160.out⟩, ⟨by refine pq ?_; refine blk_far ?_ NB167_189.out _; refine pq ?_; refine blk_far ?_ NB167_189.out _; refine pq ?_; refine blk_far ?_ NB167_189.out _; refine pq ?_; refine blk_far ?_ NB167_189.out _; refine pq ?_; refine blk_far ?_ NB167_189.out _; refine pq ?_; exact BK167.out⟩, ⟨by refine pq ?_; refine blk_far ?_ NB174_189.out _; refine pq ?_; refine blk_far ?_ NB174_189.out _; refine pq ?_; refine blk_far ?_ NB174_189.out _; refine pq ?_; refine blk_far ?_ NB174_189.out _; refine pq ?_; refine blk_far ?_ NB174_189.out _; refine pq ?_; exact BK174.out⟩, ⟨by refine pq ?_; refine blk_far ?_ NB175_189.out _; refine pq ?_; refine blk_far ?_ NB175_189.out _; refine pq ?_; refine blk_far ?_ NB175_189.out _; refine pq ?_; refine blk_far ?_ NB175_189.out _; refine pq ?_; refine blk_far ?_ NB175_189.out _; refine pq ?_; exact BK175.out⟩, ⟨by refine pq ?_; refine blk_put (cs := #[.int .i64 t190, .int .i64 t191, .bool t192, .bool t193, .bool x190004_3]) ?_ 4 _ rfl; refine pq ?_; refine blk_put (cs := #[.int .i64 t190, .int .i64 t191, .bool t192, .bool x190003_3, .bool x190004_3]) ?_ 3 _ rfl; refine pq ?_; refine blk_put (cs := #[.int .i64 t190, .int .i64 t191, .bool x190002_3, .bool x190003_3, .bool x190004_3]) ?_ 2 _ rfl; refine pq ?_; refine blk_put (cs := #[.int .i64 t190, .int .i64 x190001_3, .bool x190002_3, .bool x190003_3, .bool x190004_3]) ?_ 1 _ rfl; refine pq ?_; refine blk_put (cs := #[.int .i64 x190000_3, .int .i64 x190001_3, .bool x190002_3, .bool x190003_3, .bool x190004_3]) ?_ 0 _ rfl; refine pq ?_; exact BK189.out⟩, ⟨zb⟩⟩
           ·rw [if_neg c90] at H
            have c90b0 : decide (x15_3 < (wrap64 (1 + (Int.tmod (rd t185 1) 3)))) = false := decide_eq_false c90
            clear c90
            have HC99 := aM H
            clear H
            go_upto_block 4 with (fail)
            go_cut [] (fun wc => ∃ (kq : Nat) (x190000_98 : Int) (x190001_98 : Int) (x190002_98 : Bool) (x190003_98 : Bool) (x190004_98 : Bool), Aside0 (laws_FnOpenings.j5 kq t166 t173 0 0 false false ((Int.tmod (rd t156 0) 2) == 1) x176000_2 x176001_2 x176002_2 x176003_2 x176004_2 x190000_98 x190001_98 x190002_98 x190003_98 x190004_98 = some r) ∧ Aside0 (kq ≤ k3) ∧ Aside0 (wc.heap[gb160]? = some (.cells #[.int .i64 0, .int .i64 0, .bool false, .bool false, .bool ((Int.tmod (rd t156 0) 2) == 1)] 24 (0, 0))) ∧ Aside0 (wc.heap[gb167]? = some (.cells #[.int .i64 t161, .int .i64 t162, .bool t163, .bool t164, .bool t165] 24 (0, 0))) ∧ Aside0 (wc.heap[gb174]? = some (.cells #[.int .i64 t168, .int .i64 t169, .bool t170, .bool t171, .bool t172] 24 (0, 0))) ∧ Aside0 (wc.heap[gb175]? = some (.cells #[.int .i64 x176000_2, .int .i64 x176001_2, .bool x176002_2, .bool x176003_2, .bool x176004_2] 24 (0, 0))) ∧ Aside0 (wc.heap[gb189]? = some (.cells #[.int .i64 x190000_98, .int .i64 x190001_98, .bool x190002_98, .bool x190003_98, .bool x190004_98] 24 (0, 0))) ∧ Aside0 (Below w.heap.size w wc))
            case first =>
             have H := HC99.out
             clear HC99
             have H' := aM H
             clear H
             go_wp2
             go_loopg [16] k3 (fun kq v16 w' => ∃ (x16_4 : Int) (x190000_4 : Int) (x190001_4 : Int) (x190002_4 : Bool) (x190003_4 : Bool) (x190004_4 : Bool), v16 = .int .i64 x16_4 ∧ Aside0 (laws_FnOpenings.l2 kq t166 t173 x16_4 0 0 false false ((Int.tmod (rd t156 0) 2) == 1) x176000_2 x176001_2 x176002_2 x176003_2 x176004_2 x190000_4 x190001_4 x190002_4 x190003_4 x190004_4 = some r) ∧ Aside0 (kq ≤ k3) ∧ Aside0 (w'.heap[gb160]? = some (.cells #[.int .i64 0, .int .i64 0, .bool false, .bool false, .bool ((Int.tmod (rd t156 0) 2) == 1)] 24 (0, 0))) ∧ Aside0 (w'.heap[gb167]? = some (.cells #[.int .i64 t161, .int .i64 t162, .bool t163, .bool t164, .bool t165] 24 (0, 0))) ∧ Aside0 (w'.heap[gb174]? = some (.cells #[.int .i64 t168, .int .i64 t169, .bool t170, .bool t171, .bool t172] 24 (0, 0))) ∧ Aside0 (w'.heap[gb175]? = some (.cells #[.int .i64 x176000_2, .int .i64 x176001_2, .bool x176002_2, .bool x176003_2, .bool x176004_2] 24 (0, 0))) ∧ Aside0 (w'.heap[gb189]? = some (.cells #[.int .i64 x190000_4, .int .i64 x190001_4, .bool x190002_4, .bool x190003_4, .bool x190004_4] 24 (0, 0))) ∧ Aside0 (Below w.heap.size w w'))
             case atStart => exact ⟨(0), (x190000_3), (x190001_3), (x190002_3), (x190003_3), (x190004_3), zs, H', ⟨Nat.le_refl _⟩, ⟨by exact pk BK160.out⟩, ⟨by exact pk BK167.out⟩, ⟨by exact pk BK174.out⟩, ⟨by exact pk BK175.out⟩, ⟨by exact pk BK189.out⟩, ⟨zb⟩⟩
             case round =>
              clear H'
              try clear c1
              try clear p1
              try clear q1
              try clear hx1
              try clear qi1
              try clear c2
              try clear p2
              try clear c3
              try clear c4
              try clear c5
              try clear c5b0
              try clear c5b1
              try clear c6
              try clear p6
              try clear c7
              try clear c8
              try clear c9
              try clear c11
              try clear c11b0
              try clear c11b1
              try clear p15
              try clear q15
              try clear hx15
              try clear qi15
              try clear c17
              try clear p18
              try clear q18
              try clear hx18
              try clear qi18
              try clear c22
              try clear c23
              try clear c26
              try clear c27
              try clear c28
              try clear c29
              try clear c31
              try clear c31b0
              try clear c34
              try clear c35
              try clear c36
              try clear c40
              try clear c41
              try clear c42
              try clear c43
              try clear c45
              try clear c47
              try clear c47b0
              try clear c47b1
              try clear c48
              try clear c49
              try clear c50
              try clear c51
              try clear c55
              try clear c56
              try clear c57
              try clear c58
              try clear c61
              try clear c62
              try clear c63
              try clear p64
              try clear c66
              try clear c67
              try clear c68
              try clear c69
              try clear c70
              try clear c72
              try clear c73
              try clear c74
              try clear c77
              try clear c77b0
              try clear c77b1
              try clear c80
              try clear c81
              try clear c82
              try clear c85
              try clear c86
              try clear c87
              try clear c88
              try clear c90
              try clear c90b0
              try clear c92
              try clear c93
              try clear c94
              try clear c95
              try clear hcz10_0 hcz10_1 hcz10_2 hcz10_3 hcz10_4 hfz10_0 hfz10_1 hfz10_2 hfz10_3 hfz10_4
              try clear hcz14_0 hcz14_1 hcz14_2 hcz14_3 hcz14_4 hfz14_0 hfz14_1 hfz14_2 hfz14_3 hfz14_4
              try clear hcz18_0 hcz18_1 hcz18_2 hcz18_3 hcz18_4 hfz18_0 hfz18_1 hfz18_2 hfz18_3 hfz18_4
              try clear hcz19_0 hcz19_1 hcz19_2 hcz19_3 hcz19_4 hfz19_0 hfz19_1 hfz19_2 hfz19_3 hfz19_4
              try clear hcz24_0 hcz24_1 hcz24_2 hcz24_3 hcz24_4 hfz24_0 hfz24_1 hfz24_2 hfz24_3 hfz24_4
              try clear hcz25_0 hcz25_1 hcz25_2 hcz25_3 hcz25_4 hfz25_0 hfz25_1 hfz25_2 hfz25_3 hfz25_4
              try clear hcz30_0 hcz30_1 hcz30_2 hcz30_3 hcz30_4 hfz30_0 hfz30_1 hfz30_2 hfz30_3 hfz30_4
              try clear hcz37_0 hcz37_1 hcz37_2 hcz37_3 hcz37_4 hfz37_0 hfz37_1 hfz37_2 hfz37_3 hfz37_4
              try clear hcz44_0 hcz44_1 hcz44_2 hcz44_3 hcz44_4 hfz44_0 hfz44_1 hfz44_2 hfz44_3 hfz44_4
              try clear hcz52_0 hcz52_1 hcz52_2 hcz52_3 hcz52_4 hfz52_0 hfz52_1 hfz52_2 hfz52_3 hfz52_4
              try clear hcz59_0 hcz59_1 hcz59_2 hcz59_3 hcz59_4 hfz59_0 hfz59_1 hfz59_2 hfz59_3 hfz59_4
              try clear hcz64_0 hcz64_1 hcz64_2 hcz64_3 hcz64_4 hfz64_0 hfz64_1 hfz64_2 hfz64_3 hfz64_4
              try clear hcz71_0 hcz71_1 hcz71_2 hcz71_3 hcz71_4 hfz71_0 hfz71_1 hfz71_2 hfz71_3 hfz71_4
              try clear hcz75_0 hcz75_1 hcz75_2 hcz75_3 hcz75_4 hfz75_0 hfz75_1 hfz75_2 hfz75_3 hfz75_4
              try clear hcz83_0 hcz83_1 hcz83_2 hcz83_3 hcz83_4 hfz83_0 hfz83_1 hfz83_2 hfz83_3 hfz83_4
              try clear hcz89_0 hcz89_1 hcz89_2 hcz89_3 hcz89_4 hfz89_0 hfz89_1 hfz89_2 hfz89_3 hfz89_4
              try clear hcz96_0 hcz96_1 hcz96_2 hcz96_3 hcz96_4 hfz96_0 hfz96_1 hfz96_2 hfz96_3 hfz96_4
              try clear hcz98_0 hcz98_1 hcz98_2 hcz98_3 hcz98_4 hfz98_0 hfz98_1 hfz98_2 hfz98_3 hfz98_4
              try clear hx159_0
              try clear hx188_0
              try clear p1
              try clear p15
              try clear p159
              try clear p18
              try clear p188
              try clear p2
              try clear p6
              try clear p64
              try clear q1
              try clear q15
              try clear q159
              try clear q18
              try clear q188
              obtain ⟨x16_4, x190000_4, x190001_4, x190002_4, x190003_4, x190004_4, rfl, HA, HK4, BK160, BK167, BK174, BK175, BK189, HB⟩ := hrel
              cases gk with
              | zero => exact absurd HA.out (by simp [laws_FnOpenings.l2])
              | succ k4 =>
               have H := HA.out
               clear HA
               simp only [laws_FnOpenings.l2] at H
               by_cases c100 : x16_4 < 3
               ·rw [if_pos c100] at H
                have c100b0 : decide (x16_4 < 3) = true := decide_eq_true c100
                clear c100
                (first | rw [c100b0] | (simp only [i64_w, i32_w]; rw [c100b0]) | skip)
                by_cases c101 : x190001_4 = 5
                ·rw [if_pos c101] at H
                 have c101b0 : (x190001_4 == 5) = true := beq_iff_eq.mpr c101
                 have c101b1 : (x190001_4 != 5) = false := bne_eq_false_iff_eq.mpr c101
                 clear c101
                 have H' := aM H
                 clear H
                 have hnb102 := NB189_160.out
                 have hnc102 := NB160_189.out
                 have hnb103 := NB189_167.out
                 have hnc103 := NB167_189.out
                 have hnb104 := NB189_174.out
                 have hnc104 := NB174_189.out
                 have hnb105 := NB189_175.out
                 have hnc105 := NB175_189.out
                 obtain ⟨hcz106_0, hcz106_1, hcz106_2, hcz106_3, hcz106_4, hfz106_0, hfz106_1, hfz106_2, hfz106_3, hfz106_4⟩ := cells5 BK189.out
                 go_wp2
                 go_meet
                 case rel => exact ⟨_, (x190000_4), (x190001_4), (x190002_4), (x190003_4), (x190004_4), H', ⟨by have := HJ5.out; have := HK2.out; have := HK3.out; have := HK4.out; first | omega | exact Nat.le_refl _⟩, ⟨by exact pk BK160.out⟩, ⟨by exact pk BK167.out⟩, ⟨by exact pk BK174.out⟩, ⟨by exact pk BK175.out⟩, ⟨by exact pk BK189.out⟩, ⟨zb⟩⟩
                ·rw [if_neg c101] at H
                 have c101b0 : (x190001_4 == 5) = false := beq_eq_false_iff_ne.mpr c101
                 have c101b1 : (x190001_4 != 5) = true := bne_iff_ne.mpr c101
                 replace H := Option.bind_eq_some_iff.mp H
                 obtain ⟨⟨t196, t197, t198, t199, t200, t201⟩, A1070, H⟩ := H
                 replace H : (laws_FnOpenings.l2 k4 t166 t173 (wrap64 (x16_4 + 1)) 0 0 false false ((Int.tmod (rd t156 0) 2) == 1) x176000_2 x176001_2 x176002_2 x176003_2 x176004_2 t196 t197 t198 t199 t200) = some r := H
                 have A107 := aM A1070
                 clear A1070
                 have H' := aM H
                 clear H
                 have hnb108 := NB189_160.out
                 have hnc108 := NB160_189.out
                 have hnb109 := NB189_167.out
                 have hnc109 := NB167_189.out
                 have hnb110 := NB189_174.out
                 have hnc110 := NB174_189.out
                 have hnb111 := NB189_175.out
                 have hnc111 := NB175_189.out
                 obtain ⟨hcz112_0, hcz112_1, hcz112_2, hcz112_3, hcz112_4, hfz112_0, hfz112_1, hfz112_2, hfz112_3, hfz112_4⟩ := cells5 BK189.out
                 go_wp2_with (first | ((with_reducible refine gate_callee (f := 18) rfl ?_); refine goesL_ (some 94) rfl rfl Try.func18 (by kernel_rfl) rfl #[.agg #[.int .i64 x190000_4, .int .i64 x190001_4, .bool x190002_4, .bool x190003_4, .bool x190004_4]] rfl za ?_; (with_reducible refine (impl_Relent.calls k4 x190000_4 x190001_4 x190002_4 x190003_4 x190004_4 t196 t197 t198 t199 t200 t201 _ A107.out).mono ?_); rintro e w113 ⟨rfl, hb⟩; refine ⟨_, rfl, ?_⟩; have n0_ := aM (bb BK160.out hb); have n1_ := aM (bb BK167.out hb); have n2_ := aM (bb BK174.out hb); have n3_ := aM (bb BK175.out hb); have n4_ := aM (bb BK189.out hb); have n5_ := aM (below_step (zb) hb); clear BK160; clear BK167; clear BK174; clear BK175; clear BK189; clear HB; have BK160 := n0_; have BK167 := n1_; have BK174 := n2_; have BK175 := n3_; have BK189 := n4_; have HB := n5_; clear n0_ n1_ n2_ n3_ n4_ n5_; (try clear hb); (try clear hb2); (try clear hk); (try clear hi); obtain ⟨hcz114_0, hcz114_1, hcz114_2, hcz114_3, hcz114_4, hfz114_0, hfz114_1, hfz114_2, hfz114_3, hfz114_4⟩ := cells5 BK189.out))
                 go_roundg k4
                 case measure => have := HJ5.out; have := HK2.out; have := HK3.out; have := HK4.out; omega
                 case rel => exact ⟨(wrap64 (x16_4 + 1)), (t196), (t197), (t198), (t199), (t200), zs, H', ⟨by have := HJ5.out; have := HK2.out; have := HK3.out; have := HK4.out; omega⟩, ⟨by refine pq ?_; refine blk_far ?_ NB160_189.out _; refine pq ?_; refine blk_far ?_ NB160_189.out _; refine pq ?_; refine blk_far ?_ NB160_189.out _; refine pq ?_; refine blk_far ?_ NB160_189.out _; refine pq ?_; refine blk_far ?_ NB160_189.out _; refine pq ?_; exact BK160.out⟩, ⟨by refine pq ?_; refine blk_far ?_ NB167_189.out _; refine pq ?_; refine blk_far ?_ NB167_189.out _; refine pq ?_; refine blk_far ?_ NB167_189.out _; refine pq ?_; refine blk_far ?_ NB167_189.out _; refine pq ?_; refine blk_far ?_ NB167_189.out _; refine pq ?_; exact BK167.out⟩, ⟨by refine pq ?_; refine blk_far ?_ NB174_189.out _; refine pq ?_; refine blk_far ?_ NB174_189.out _; refine pq ?_; refine blk_far ?_ NB174_189.out _; refine pq ?_; refine blk_far ?_ NB174_189.out _; refine pq ?_; refine blk_far ?_ NB174_189.out _; refine pq ?_; exact BK174.out⟩, ⟨by refine pq ?_; refine blk_far ?_ NB175_189.out _; refine pq ?_; refine blk_far ?_ NB175_189.out _; refine pq ?_; refine blk_far ?_ NB175_189.out _; refine pq ?_; refine blk_far ?_ NB175_189.out _; refine pq ?_; refine blk_far ?_ NB175_189.out _; refine pq ?_; exact BK175.out⟩, ⟨by refine pq ?_; refine blk_put (cs := #[.int .i64 t196, .int .i64 t197, .bool t198, .bool t199, .bool x190004_4]) ?_ 4 _ rfl; refine pq ?_; refine blk_put (cs := #[.int .i64 t196, .int .i64 t197, .bool t198, .bool x190003_4, .bool x190004_4]) ?_ 3 _ rfl; refine pq ?_; refine blk_put (cs := #[.int .i64 t196, .int .i64 t197, .bool x190002_4, .bool x190003_4, .bool x190004_4]) ?_ 2 _ rfl; refine pq ?_; refine blk_put (cs := #[.int .i64 t196, .int .i64 x190001_4, .bool x190002_4, .bool x190003_4, .bool x190004_4]) ?_ 1 _ rfl; refine pq ?_; refine blk_put (cs := #[.int .i64 x190000_4, .int .i64 x190001_4, .bool x190002_4, .bool x190003_4, .bool x190004_4]) ?_ 0 _ rfl; refine pq ?_; exact BK189.out⟩, ⟨zb⟩⟩
               ·rw [if_neg c100] at H
                have c100b0 : decide (x16_4 < 3) = false := decide_eq_false c100
                clear c100
                (first | rw [c100b0] | (simp only [i64_w, i32_w]; rw [c100b0]) | skip)
                have H' := aM H
                clear H
                go_wp2
                go_meet
                case rel => exact ⟨_, (x190000_4), (x190001_4), (x190002_4), (x190003_4), (x190004_4), H', ⟨by have := HJ5.out; have := HK2.out; have := HK3.out; have := HK4.out; first | omega | exact Nat.le_refl _⟩, ⟨by exact pk BK160.out⟩, ⟨by exact pk BK167.out⟩, ⟨by exact pk BK174.out⟩, ⟨by exact pk BK175.out⟩, ⟨by exact pk BK189.out⟩, ⟨zb⟩⟩
            case rest =>
             clear HC99
             try clear c1
             try clear p1
             try clear q1
             try clear hx1
             try clear qi1
             try clear c2
             try clear p2
             try clear c3
             try clear c4
             try clear c5
             try clear c5b0
             try clear c5b1
             try clear c6
             try clear p6
             try clear c7
             try clear c8
             try clear c9
             try clear c10
             try clear c11
             try clear c11b0
             try clear c11b1
             try clear p15
             try clear q15
             try clear hx15
             try clear qi15
             try clear c17
             try clear c18
             try clear p18
             try clear q18
             try clear hx18
             try clear qi18
             try clear c22
             try clear c23
             try clear c26
             try clear c27
             try clear c28
             try clear c29
             try clear c31
             try clear c31b0
             try clear c34
             try clear c35
             try clear c36
             try clear c40
             try clear c41
             try clear c42
             try clear c43
             try clear c45
             try clear c47
             try clear c47b0
             try clear c47b1
             try clear c48
             try clear c49
             try clear c50
             try clear c51
             try clear c55
             try clear c56
             try clear c57
             try clear c58
             try clear c61
             try clear c62
             try clear c63
             try clear p64
             try clear c66
             try clear c67
             try clear c68
             try clear c69
             try clear c70
             try clear c72
             try clear c73
             try clear c74
             try clear c77
             try clear c77b0
             try clear c77b1
             try clear c80
             try clear c81
             try clear c82
             try clear c85
             try clear c86
             try clear c87
             try clear c88
             try clear c90
             try clear c90b0
             try clear c92
             try clear c93
             try clear c94
             try clear c95
             try clear c100
             try clear c100b0
             try clear c101
             try clear c101b0
             try clear c101b1
             try clear c102
             try clear c103
             try clear c104
             try clear c105
             try clear c108
             try clear c109
             try clear c110
             try clear c111
             try clear hcz106_0 hcz106_1 hcz106_2 hcz106_3 hcz106_4 hfz106_0 hfz106_1 hfz106_2 hfz106_3 hfz106_4
             try clear hcz10_0 hcz10_1 hcz10_2 hcz10_3 hcz10_4 hfz10_0 hfz10_1 hfz10_2 hfz10_3 hfz10_4
             try clear hcz112_0 hcz112_1 hcz112_2 hcz112_3 hcz112_4 hfz112_0 hfz112_1 hfz112_2 hfz112_3 hfz112_4
             try clear hcz114_0 hcz114_1 hcz114_2 hcz114_3 hcz114_4 hfz114_0 hfz114_1 hfz114_2 hfz114_3 hfz114_4
             try clear hcz14_0 hcz14_1 hcz14_2 hcz14_3 hcz14_4 hfz14_0 hfz14_1 hfz14_2 hfz14_3 hfz14_4
             try clear hcz18_0 hcz18_1 hcz18_2 hcz18_3 hcz18_4 hfz18_0 hfz18_1 hfz18_2 hfz18_3 hfz18_4
             try clear hcz19_0 hcz19_1 hcz19_2 hcz19_3 hcz19_4 hfz19_0 hfz19_1 hfz19_2 hfz19_3 hfz19_4
             try clear hcz24_0 hcz24_1 hcz24_2 hcz24_3 hcz24_4 hfz24_0 hfz24_1 hfz24_2 hfz24_3 hfz24_4
             try clear hcz25_0 hcz25_1 hcz25_2 hcz25_3 hcz25_4 hfz25_0 hfz25_1 hfz25_2 hfz25_3 hfz25_4
             try clear hcz30_0 hcz30_1 hcz30_2 hcz30_3 hcz30_4 hfz30_0 hfz30_1 hfz30_2 hfz30_3 hfz30_4
             try clear hcz37_0 hcz37_1 hcz37_2 hcz37_3 hcz37_4 hfz37_0 hfz37_1 hfz37_2 hfz37_3 hfz37_4
             try clear hcz44_0 hcz44_1 hcz44_2 hcz44_3 hcz44_4 hfz44_0 hfz44_1 hfz44_2 hfz44_3 hfz44_4
             try clear hcz52_0 hcz52_1 hcz52_2 hcz52_3 hcz52_4 hfz52_0 hfz52_1 hfz52_2 hfz52_3 hfz52_4
             try clear hcz59_0 hcz59_1 hcz59_2 hcz59_3 hcz59_4 hfz59_0 hfz59_1 hfz59_2 hfz59_3 hfz59_4
             try clear hcz64_0 hcz64_1 hcz64_2 hcz64_3 hcz64_4 hfz64_0 hfz64_1 hfz64_2 hfz64_3 hfz64_4
             try clear hcz71_0 hcz71_1 hcz71_2 hcz71_3 hcz71_4 hfz71_0 hfz71_1 hfz71_2 hfz71_3 hfz71_4
             try clear hcz75_0 hcz75_1 hcz75_2 hcz75_3 hcz75_4 hfz75_0 hfz75_1 hfz75_2 hfz75_3 hfz75_4
             try clear hcz83_0 hcz83_1 hcz83_2 hcz83_3 hcz83_4 hfz83_0 hfz83_1 hfz83_2 hfz83_3 hfz83_4
             try clear hcz89_0 hcz89_1 hcz89_2 hcz89_3 hcz89_4 hfz89_0 hfz89_1 hfz89_2 hfz89_3 hfz89_4
             try clear hcz96_0 hcz96_1 hcz96_2 hcz96_3 hcz96_4 hfz96_0 hfz96_1 hfz96_2 hfz96_3 hfz96_4
             try clear hcz98_0 hcz98_1 hcz98_2 hcz98_3 hcz98_4 hfz98_0 hfz98_1 hfz98_2 hfz98_3 hfz98_4
             try clear hx159_0
             try clear hx188_0
             try clear p1
             try clear p15
             try clear p159
             try clear p18
             try clear p188
             try clear p2
             try clear p6
             try clear p64
             try clear q1
             try clear q15
             try clear q159
             try clear q18
             try clear q188
             obtain ⟨kq, x190000_98, x190001_98, x190002_98, x190003_98, x190004_98, HA, HJ98, BK160, BK167, BK174, BK175, BK189, HB⟩ := hcut
             cases kq with
             | zero => exact absurd HA.out (by simp [laws_FnOpenings.j5])
             | succ kj98 =>
              have H := HA.out
              clear HA
              simp only [laws_FnOpenings.j5] at H
              have H' := aM H
              clear H
              go_wp2
              go_loopg [17] kj98 (fun kq v17 w' => ∃ (x17_5 : Int) (x190000_5 : Int) (x190001_5 : Int) (x190002_5 : Bool) (x190003_5 : Bool) (x190004_5 : Bool), v17 = .int .i64 x17_5 ∧ Aside0 (laws_FnOpenings.l3 kq t166 t173 x17_5 0 0 false false ((Int.tmod (rd t156 0) 2) == 1) x176000_2 x176001_2 x176002_2 x176003_2 x176004_2 x190000_5 x190001_5 x190002_5 x190003_5 x190004_5 = some r) ∧ Aside0 (kq ≤ kj98) ∧ Aside0 (w'.heap[gb160]? = some (.cells #[.int .i64 0, .int .i64 0, .bool false, .bool false, .bool ((Int.tmod (rd t156 0) 2) == 1)] 24 (0, 0))) ∧ Aside0 (w'.heap[gb167]? = some (.cells #[.int .i64 t161, .int .i64 t162, .bool t163, .bool t164, .bool t165] 24 (0, 0))) ∧ Aside0 (w'.heap[gb174]? = some (.cells #[.int .i64 t168, .int .i64 t169, .bool t170, .bool t171, .bool t172] 24 (0, 0))) ∧ Aside0 (w'.heap[gb175]? = some (.cells #[.int .i64 x176000_2, .int .i64 x176001_2, .bool x176002_2, .bool x176003_2, .bool x176004_2] 24 (0, 0))) ∧ Aside0 (w'.heap[gb189]? = some (.cells #[.int .i64 x190000_5, .int .i64 x190001_5, .bool x190002_5, .bool x190003_5, .bool x190004_5] 24 (0, 0))) ∧ Aside0 (Below w.heap.size w w'))
              case atStart => exact ⟨(0), (x190000_98), (x190001_98), (x190002_98), (x190003_98), (x190004_98), zs, H', ⟨Nat.le_refl _⟩, ⟨by exact pk BK160.out⟩, ⟨by exact pk BK167.out⟩, ⟨by exact pk BK174.out⟩, ⟨by exact pk BK175.out⟩, ⟨by exact pk BK189.out⟩, ⟨zb⟩⟩
              case round =>
               clear H'
               try clear c1
               try clear p1
               try clear q1
               try clear hx1
               try clear qi1
               try clear c2
               try clear p2
               try clear c3
               try clear c4
               try clear c5
               try clear c5b0
               try clear c5b1
               try clear c6
               try clear p6
               try clear c7
               try clear c8
               try clear c9
               try clear c10
               try clear c11
               try clear c11b0
               try clear c11b1
               try clear p15
               try clear q15
               try clear hx15
               try clear qi15
               try clear c17
               try clear c18
               try clear p18
               try clear q18
               try clear hx18
               try clear qi18
               try clear c22
               try clear c23
               try clear c26
               try clear c27
               try clear c28
               try clear c29
               try clear c31
               try clear c31b0
               try clear c34
               try clear c35
               try clear c36
               try clear c40
               try clear c41
               try clear c42
               try clear c43
               try clear c45
               try clear c47
               try clear c47b0
               try clear c47b1
               try clear c48
               try clear c49
               try clear c50
               try clear c51
               try clear c55
               try clear c56
               try clear c57
               try clear c58
               try clear c61
               try clear c62
               try clear c63
               try clear p64
               try clear c66
               try clear c67
               try clear c68
               try clear c69
               try clear c70
               try clear c72
               try clear c73
               try clear c74
               try clear c77
               try clear c77b0
               try clear c77b1
               try clear c80
               try clear c81
               try clear c82
               try clear c85
               try clear c86
               try clear c87
               try clear c88
               try clear c90
               try clear c90b0
               try clear c92
               try clear c93
               try clear c94
               try clear c95
               try clear c100
               try clear c100b0
               try clear c101
               try clear c101b0
               try clear c101b1
               try clear c102
               try clear c103
               try clear c104
               try clear c105
               try clear c108
               try clear c109
               try clear c110
               try clear c111
               try clear hcz106_0 hcz106_1 hcz106_2 hcz106_3 hcz106_4 hfz106_0 hfz106_1 hfz106_2 hfz106_3 hfz106_4
               try clear hcz10_0 hcz10_1 hcz10_2 hcz10_3 hcz10_4 hfz10_0 hfz10_1 hfz10_2 hfz10_3 hfz10_4
               try clear hcz112_0 hcz112_1 hcz112_2 hcz112_3 hcz112_4 hfz112_0 hfz112_1 hfz112_2 hfz112_3 hfz112_4
               try clear hcz114_0 hcz114_1 hcz114_2 hcz114_3 hcz114_4 hfz114_0 hfz114_1 hfz114_2 hfz114_3 hfz114_4
               try clear hcz14_0 hcz14_1 hcz14_2 hcz14_3 hcz14_4 hfz14_0 hfz14_1 hfz14_2 hfz14_3 hfz14_4
               try clear hcz18_0 hcz18_1 hcz18_2 hcz18_3 hcz18_4 hfz18_0 hfz18_1 hfz18_2 hfz18_3 hfz18_4
               try clear hcz19_0 hcz19_1 hcz19_2 hcz19_3 hcz19_4 hfz19_0 hfz19_1 hfz19_2 hfz19_3 hfz19_4
               try clear hcz24_0 hcz24_1 hcz24_2 hcz24_3 hcz24_4 hfz24_0 hfz24_1 hfz24_2 hfz24_3 hfz24_4
               try clear hcz25_0 hcz25_1 hcz25_2 hcz25_3 hcz25_4 hfz25_0 hfz25_1 hfz25_2 hfz25_3 hfz25_4
               try clear hcz30_0 hcz30_1 hcz30_2 hcz30_3 hcz30_4 hfz30_0 hfz30_1 hfz30_2 hfz30_3 hfz30_4
               try clear hcz37_0 hcz37_1 hcz37_2 hcz37_3 hcz37_4 hfz37_0 hfz37_1 hfz37_2 hfz37_3 hfz37_4
               try clear hcz44_0 hcz44_1 hcz44_2 hcz44_3 hcz44_4 hfz44_0 hfz44_1 hfz44_2 hfz44_3 hfz44_4
               try clear hcz52_0 hcz52_1 hcz52_2 hcz52_3 hcz52_4 hfz52_0 hfz52_1 hfz52_2 hfz52_3 hfz52_4
               try clear hcz59_0 hcz59_1 hcz59_2 hcz59_3 hcz59_4 hfz59_0 hfz59_1 hfz59_2 hfz59_3 hfz59_4
               try clear hcz64_0 hcz64_1 hcz64_2 hcz64_3 hcz64_4 hfz64_0 hfz64_1 hfz64_2 hfz64_3 hfz64_4
               try clear hcz71_0 hcz71_1 hcz71_2 hcz71_3 hcz71_4 hfz71_0 hfz71_1 hfz71_2 hfz71_3 hfz71_4
               try clear hcz75_0 hcz75_1 hcz75_2 hcz75_3 hcz75_4 hfz75_0 hfz75_1 hfz75_2 hfz75_3 hfz75_4
               try clear hcz83_0 hcz83_1 hcz83_2 hcz83_3 hcz83_4 hfz83_0 hfz83_1 hfz83_2 hfz83_3 hfz83_4
               try clear hcz89_0 hcz89_1 hcz89_2 hcz89_3 hcz89_4 hfz89_0 hfz89_1 hfz89_2 hfz89_3 hfz89_4
               try clear hcz96_0 hcz96_1 hcz96_2 hcz96_3 hcz96_4 hfz96_0 hfz96_1 hfz96_2 hfz96_3 hfz96_4
               try clear hcz98_0 hcz98_1 hcz98_2 hcz98_3 hcz98_4 hfz98_0 hfz98_1 hfz98_2 hfz98_3 hfz98_4
               try clear hx159_0
               try clear hx188_0
               try clear p1
               try clear p15
               try clear p159
               try clear p18
               try clear p188
               try clear p2
               try clear p6
               try clear p64
               try clear q1
               try clear q15
               try clear q159
               try clear q18
               try clear q188
               obtain ⟨x17_5, x190000_5, x190001_5, x190002_5, x190003_5, x190004_5, rfl, HA, HK5, BK160, BK167, BK174, BK175, BK189, HB⟩ := hrel
               cases gk with
               | zero => exact absurd HA.out (by simp [laws_FnOpenings.l3])
               | succ k5 =>
                have H := HA.out
                clear HA
                simp only [laws_FnOpenings.l3] at H
                by_cases c115 : x17_5 < 2
                ·rw [if_pos c115] at H
                 have c115b0 : decide (x17_5 < 2) = true := decide_eq_true c115
                 clear c115
                 replace H := Option.bind_eq_some_iff.mp H
                 obtain ⟨⟨t202, t203, t204, t205, t206, t207⟩, A1160, H⟩ := H
                 replace H : (laws_FnOpenings.l3 k5 t166 t173 (wrap64 (x17_5 + 1)) 0 0 false false ((Int.tmod (rd t156 0) 2) == 1) x176000_2 x176001_2 x176002_2 x176003_2 x176004_2 t202 t203 t204 t205 t206) = some r := H
                 have A116 := aM A1160
                 clear A1160
                 have H' := aM H
                 clear H
                 have hnb117 := NB189_160.out
                 have hnc117 := NB160_189.out
                 have hnb118 := NB189_167.out
                 have hnc118 := NB167_189.out
                 have hnb119 := NB189_174.out
                 have hnc119 := NB174_189.out
                 have hnb120 := NB189_175.out
                 have hnc120 := NB175_189.out
                 obtain ⟨hcz121_0, hcz121_1, hcz121_2, hcz121_3, hcz121_4, hfz121_0, hfz121_1, hfz121_2, hfz121_3, hfz121_4⟩ := cells5 BK189.out
                 go_wp2_with (first | ((with_reducible refine gate_callee (f := 22) rfl ?_); refine goesL_ (some 103) rfl rfl Try.func22 (by kernel_rfl) rfl #[.agg #[.int .i64 x190000_5, .int .i64 x190001_5, .bool x190002_5, .bool x190003_5, .bool x190004_5]] rfl za ?_; (with_reducible refine (impl_Advance.calls k5 x190000_5 x190001_5 x190002_5 x190003_5 x190004_5 t202 t203 t204 t205 t206 t207 _ A116.out).mono ?_); rintro e w122 ⟨rfl, hb⟩; refine ⟨_, rfl, ?_⟩; have n0_ := aM (bb BK160.out hb); have n1_ := aM (bb BK167.out hb); have n2_ := aM (bb BK174.out hb); have n3_ := aM (bb BK175.out hb); have n4_ := aM (bb BK189.out hb); have n5_ := aM (below_step (zb) hb); clear BK160; clear BK167; clear BK174; clear BK175; clear BK189; clear HB; have BK160 := n0_; have BK167 := n1_; have BK174 := n2_; have BK175 := n3_; have BK189 := n4_; have HB := n5_; clear n0_ n1_ n2_ n3_ n4_ n5_; (try clear hb); (try clear hb2); (try clear hk); (try clear hi); obtain ⟨hcz123_0, hcz123_1, hcz123_2, hcz123_3, hcz123_4, hfz123_0, hfz123_1, hfz123_2, hfz123_3, hfz123_4⟩ := cells5 BK189.out))
                 go_roundg k5
                 case measure => have := HJ5.out; have := HK2.out; have := HK3.out; have := HJ98.out; have := HK5.out; omega
                 case rel => exact ⟨(wrap64 (x17_5 + 1)), (t202), (t203), (t204), (t205), (t206), zs, H', ⟨by have := HJ5.out; have := HK2.out; have := HK3.out; have := HJ98.out; have := HK5.out; omega⟩, ⟨by refine pq ?_; refine blk_far ?_ NB160_189.out _; refine pq ?_; refine blk_far ?_ NB160_189.out _; refine pq ?_; refine blk_far ?_ NB160_189.out _; refine pq ?_; refine blk_far ?_ NB160_189.out _; refine pq ?_; refine blk_far ?_ NB160_189.out _; refine pq ?_; exact BK160.out⟩, ⟨by refine pq ?_; refine blk_far ?_ NB167_189.out _; refine pq ?_; refine blk_far ?_ NB167_189.out _; refine pq ?_; refine blk_far ?_ NB167_189.out _; refine pq ?_; refine blk_far ?_ NB167_189.out _; refine pq ?_; refine blk_far ?_ NB167_189.out _; refine pq ?_; exact BK167.out⟩, ⟨by refine pq ?_; refine blk_far ?_ NB174_189.out _; refine pq ?_; refine blk_far ?_ NB174_189.out _; refine pq ?_; refine blk_far ?_ NB174_189.out _; refine pq ?_; refine blk_far ?_ NB174_189.out _; refine pq ?_; refine blk_far ?_ NB174_189.out _; refine pq ?_; exact BK174.out⟩, ⟨by refine pq ?_; refine blk_far ?_ NB175_189.out _; refine pq ?_; refine blk_far ?_ NB175_189.out _; refine pq ?_; refine blk_far ?_ NB175_189.out _; refine pq ?_; refine blk_far ?_ NB175_189.out _; refine pq ?_; refine blk_far ?_ NB175_189.out _; refine pq ?_; exact BK175.out⟩, ⟨by refine pq ?_; refine blk_put (cs := #[.int .i64 t202, .int .i64 t203, .bool t204, .bool t205, .bool x190004_5]) ?_ 4 _ rfl; refine pq ?_; refine blk_put (cs := #[.int .i64 t202, .int .i64 t203, .bool t204, .bool x190003_5, .bool x190004_5]) ?_ 3 _ rfl; refine pq ?_; refine blk_put (cs := #[.int .i64 t202, .int .i64 t203, .bool x190002_5, .bool x190003_5, .bool x190004_5]) ?_ 2 _ rfl; refine pq ?_; refine blk_put (cs := #[.int .i64 t202, .int .i64 x190001_5, .bool x190002_5, .bool x190003_5, .bool x190004_5]) ?_ 1 _ rfl; refine pq ?_; refine blk_put (cs := #[.int .i64 x190000_5, .int .i64 x190001_5, .bool x190002_5, .bool x190003_5, .bool x190004_5]) ?_ 0 _ rfl; refine pq ?_; exact BK189.out⟩, ⟨zb⟩⟩
                ·rw [if_neg c115] at H
                 have c115b0 : decide (x17_5 < 2) = false := decide_eq_false c115
                 clear c115
                 by_cases c124 : t166 = true
                 ·subst c124
                  have H1 : (if t173 = true then (none) else (if (x176000_2 == 0 && (x176001_2 == 0 && (!x176002_2 && (!x176003_2 && (x176004_2 == (!((Int.tmod (rd t156 0) 2) == 1))))))) = true then (some (x190000_5 == 0 && (x190001_5 == 0 && (x190002_5 == false && (x190003_5 == false && (x190004_5 == ((Int.tmod (rd t156 0) 2) == 1))))))) else (none))) = some r := by rw [if_pos rfl] at H; exact H
                  clear H
                  have H := H1
                  clear H1
                  by_cases c125 : t173 = true
                  ·subst c125
                   have H1 : (none) = some r := by rw [if_pos rfl] at H; exact H
                   clear H
                   have H := H1
                   clear H1
                   exact absurd H (by simp)
                  ·replace c125 := Bool.eq_false_iff.mpr c125
                   subst c125
                   have H1 : (if (x176000_2 == 0 && (x176001_2 == 0 && (!x176002_2 && (!x176003_2 && (x176004_2 == (!((Int.tmod (rd t156 0) 2) == 1))))))) = true then (some (x190000_5 == 0 && (x190001_5 == 0 && (x190002_5 == false && (x190003_5 == false && (x190004_5 == ((Int.tmod (rd t156 0) 2) == 1))))))) else (none)) = some r := by rw [if_neg (show ¬ (false = true) by decide)] at H; exact H
                   clear H
                   have H := H1
                   clear H1
                   by_cases c126 : (x176000_2 == 0 && (x176001_2 == 0 && (!x176002_2 && (!x176003_2 && (x176004_2 == (!((Int.tmod (rd t156 0) 2) == 1))))))) = true
                   ·rw [if_pos c126] at H
                    have c126b0 : (x176000_2 == 0 && (x176001_2 == 0 && (!x176002_2 && (!x176003_2 && (x176004_2 == (!((Int.tmod (rd t156 0) 2) == 1))))))) = true := c126
                    (try (have c126b1 : decide (x176000_2 = 0 && (x176001_2 == 0 && (!x176002_2 && (!x176003_2 && (x176004_2 == (!((Int.tmod (rd t156 0) 2) == 1))))))) = true := by simpa using c126))
                    (try (have c126b2 : (x176000_2 == 0 && (x176001_2 == 0 && (!x176002_2 && (!x176003_2 && (x176004_2 == (!((Int.tmod (rd t156 0) 2) == 1))))))) = true := by simpa using c126))
                    clear c126
                    obtain rfl := Option.some.inj H
                    have hnb127 := NB175_160.out
                    have hnc127 := NB160_175.out
                    have hnb128 := NB175_167.out
                    have hnc128 := NB167_175.out
                    have hnb129 := NB175_174.out
                    have hnc129 := NB174_175.out
                    have hnb130 := NB175_189.out
                    have hnc130 := NB189_175.out
                    obtain ⟨hcz131_0, hcz131_1, hcz131_2, hcz131_3, hcz131_4, hfz131_0, hfz131_1, hfz131_2, hfz131_3, hfz131_4⟩ := cells5 BK175.out
                    have hnb132 := NB160_167.out
                    have hnc132 := NB167_160.out
                    have hnb133 := NB160_174.out
                    have hnc133 := NB174_160.out
                    have hnb134 := NB160_189.out
                    have hnc134 := NB189_160.out
                    obtain ⟨hcz135_0, hcz135_1, hcz135_2, hcz135_3, hcz135_4, hfz135_0, hfz135_1, hfz135_2, hfz135_3, hfz135_4⟩ := cells5 BK160.out
                    have hnb136 := NB189_167.out
                    have hnc136 := NB167_189.out
                    have hnb137 := NB189_174.out
                    have hnc137 := NB174_189.out
                    obtain ⟨hcz138_0, hcz138_1, hcz138_2, hcz138_3, hcz138_4, hfz138_0, hfz138_1, hfz138_2, hfz138_3, hfz138_4⟩ := cells5 BK189.out
                    go_wp2
                    go_ret
                    exact ⟨zr, zb⟩
                   ·rw [if_neg c126] at H
                    exact absurd H (by simp)
                 ·replace c124 := Bool.eq_false_iff.mpr c124
                  subst c124
                  have H1 : (none) = some r := by rw [if_neg (show ¬ (false = true) by decide)] at H; exact H
                  clear H
                  have H := H1
                  clear H1
                  exact absurd H (by simp)
        ·rw [if_neg c77] at H
         exact absurd H (by simp)
  ·rw [if_neg c5] at H
   exact absurd H (by simp)

/-- THE ONE PURE STATEMENT of laws_FnOpenings: yours. -/
def laws_FnOpenings.Pure : Prop := ∀ (l0 : List Int), l0.length ≤ maxLen → l0.length * 1 ≤ 140737488351232 → (∀ x ∈ l0, (Lit.int .u8 x).wf = true) → ∃ k, laws_FnOpenings.f k l0 = some true
theorem laws_FnOpenings.walk (P : laws_FnOpenings.Pure) (a0 : Option Addr) (len0 cap0 : Nat) (z0 : List Int) (w : World) (w0 : (a0 = none ∧ len0 = 0 ∧ cap0 = 0 ∧ z0 = []) ∨ ∃ x, a0 = some x ∧ len0 ≤ cap0 ∧ cap0 ≤ maxLen ∧ z0.length = cap0 ∧ (∀ i, i < z0.length → w.cell? (x.add i) = some (.int .u8 (z0.getD i 0))) ∧ ∀ n ∈ z0, (Lit.int .u8 n).wf = true) (y0 : len0 * 1 ≤ 140737488351232) :
  Calls Try.prog 8 #[.slice a0 len0 cap0] w fun e w' => e = .returned (.bool true) ∧ Below w.heap.size w w' := by
 obtain ⟨l0, rfl, hr0, hm0, hw0, hc0⟩ := ReadsInt.ofRowC w0
 obtain ⟨k, h⟩ := P l0 hm0 y0 hw0
 refine (laws_FnOpenings.calls k _ _ l0 true w (Kd.C_of_reads (d := (0 : Int)) (h1 := fun _ => rfl) hr0) hc0 h).mono ?_
 rintro e w' ⟨rfl, hd⟩
 exact ⟨rfl, hd⟩

end Go.Proofs.Ytglpkjcblpjnoab.QFnOpenings
