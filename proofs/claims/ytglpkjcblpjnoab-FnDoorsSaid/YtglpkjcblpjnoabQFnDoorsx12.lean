-- Printed functions and their walks: by print.py, turned by wip/tools/myprint.py.
import Derived.Test.YtglpkjcblpjnoabQFnDoorsx0
import Derived.Test.YtglpkjcblpjnoabQFnDoorsx1
import Derived.Test.YtglpkjcblpjnoabQFnDoorsx2
import Derived.Test.YtglpkjcblpjnoabQFnDoorsx6
import Derived.Test.YtglpkjcblpjnoabQFnDoorsx10
import Derived.Test.YtglpkjcblpjnoabQFnDoorsx11
namespace Go.Proofs.Ytglpkjcblpjnoab.QFnDoors
open Go.RowKit Go.Proofs.YtglpkjcblpjnoabW.PrintWords Go.Proofs.YtglpkjcblpjnoabW.PrintLast Go.Proofs.YtglpkjcblpjnoabW.PrintMore
attribute [local go_sem] max2_int min2_int max_two min_two max_three min_three max_four min_four   -- for this text's walks alone
set_option linter.unusedVariables false
set_option linter.unusedSimpArgs false

attribute [local go_sem high] eqA24
/-! ### laws_FnDoors: function 12 -/
mutual
def laws_FnDoors.j0 : Nat → List Int → List Int → Bool → Int → Int → Bool → Bool → Bool → Int → Int → Bool → Bool → Bool → Option (Bool)
 | 0, _, _, _, _, _, _, _, _, _, _, _, _, _ => none
 | k + 1, x4, x6, x48, x458000, x458001, x458002, x458003, x458004, x467000, x467001, x467002, x467003, x467004 => if x48 = true then (none) else ((spec_DoorOk.f k x458000 x458001 x458002 x458003 x458004).bind fun t479 => (if t479 = true then (laws_FnDoors.j1 k x4 x6 (decide ((x4.length : Int) > 200)) x458000 x458001 x458002 x458003 x458004 x467000 x467001 x467002 x467003 x467004) else (laws_FnDoors.j1 k x4 x6 true x458000 x458001 x458002 x458003 x458004 x467000 x467001 x467002 x467003 x467004)))
def laws_FnDoors.j1 : Nat → List Int → List Int → Bool → Int → Int → Bool → Bool → Bool → Int → Int → Bool → Bool → Bool → Option (Bool)
 | 0, _, _, _, _, _, _, _, _, _, _, _, _, _ => none
 | k + 1, x4, x6, x56, x458000, x458001, x458002, x458003, x458004, x467000, x467001, x467002, x467003, x467004 => if x56 = true then (if (x467000 == x458000 && (x467001 == x458001 && (x467002 == x458002 && (x467003 == x458003 && (x467004 == x458004))))) = true then (some ((x6.length : Int) == 0)) else (none)) else (laws_FnDoors.l0 k x4 0 x458000 x458001 x458002 x458003 x458004)
def laws_FnDoors.l0 : Nat → List Int → Int → Int → Int → Bool → Bool → Bool → Option (Bool)
 | 0, _, _, _, _, _, _, _ => none
 | k + 1, x4, x9, x458000, x458001, x458002, x458003, x458004 => if x9 < (x4.length : Int) then (if 0 ≤ x9 then (if x9 ≤ (wrap64 (x9 + 1)) then (if (wrap64 (x9 + 1)) ≤ (x4.length : Int) then ((impl_DoActs.f k x458000 x458001 x458002 x458003 x458004 ((x4.take ((wrap64 (x9 + 1)) : Int).toNat).drop (x9 : Int).toNat)).bind fun bt484 => ((spec_DoActs.f k x458000 x458001 x458002 x458003 x458004 ((x4.take ((wrap64 (x9 + 1)) : Int).toNat).drop (x9 : Int).toNat)).bind fun bt497 => (if (!(bt484.1 == bt497.1) || (!(bt484.2.1 == bt497.2.1) || (!(bt484.2.2.1 == bt497.2.2.1) || (!(bt484.2.2.2.1 == bt497.2.2.2.1) || (!(bt484.2.2.2.2.1 == bt497.2.2.2.2.1)))))) = true then (laws_FnDoors.j3 k x4 x9 true x458000 x458001 x458002 x458003 x458004 bt497.1 bt497.2.1 bt497.2.2.1 bt497.2.2.2.1 bt497.2.2.2.2.1) else ((impl_DoorOk.f k bt497.1 bt497.2.1 bt497.2.2.1 bt497.2.2.2.1 bt497.2.2.2.2.1).bind fun t506 => (laws_FnDoors.j3 k x4 x9 (!t506) x458000 x458001 x458002 x458003 x458004 bt497.1 bt497.2.1 bt497.2.2.1 bt497.2.2.2.1 bt497.2.2.2.2.1))))) else (none)) else (none)) else (none)) else (some true)
def laws_FnDoors.j3 : Nat → List Int → Int → Bool → Int → Int → Bool → Bool → Bool → Int → Int → Bool → Bool → Bool → Option (Bool)
 | 0, _, _, _, _, _, _, _, _, _, _, _, _, _ => none
 | k + 1, x4, x9, x98, x458000, x458001, x458002, x458003, x458004, x506000, x506001, x506002, x506003, x506004 => if x98 = true then (none) else (if (x506004 != x458004) = true then (if x458003 = true then (laws_FnDoors.l0 k x4 (wrap64 (x9 + 1)) x506000 x506001 x506002 x506003 x506004) else (none)) else (laws_FnDoors.l0 k x4 (wrap64 (x9 + 1)) x506000 x506001 x506002 x506003 x506004))
end
def laws_FnDoors.f (k : Nat) (l0 : List Int) : Option (Bool) := (laws_big.f l0).bind fun t448 => (if t448 = true then (some true) else ((spec_DrawDoActs.f k l0).bind fun bt449 => ((impl_DoActs.f k bt449.1 bt449.2.1 bt449.2.2.1 bt449.2.2.2.1 bt449.2.2.2.2.1 bt449.2.2.2.2.2).bind fun bt458 => ((spec_DoActs.f k bt449.1 bt449.2.1 bt449.2.2.1 bt449.2.2.2.1 bt449.2.2.2.2.1 bt449.2.2.2.2.2).bind fun bt467 => (if (!(bt458.1 == bt467.1) || (!(bt458.2.1 == bt467.2.1) || (!(bt458.2.2.1 == bt467.2.2.1) || (!(bt458.2.2.2.1 == bt467.2.2.2.1) || (!(bt458.2.2.2.2.1 == bt467.2.2.2.2.1)))))) = true then (laws_FnDoors.j0 k bt449.2.2.2.2.2 bt458.2.2.2.2.2 true bt449.1 bt449.2.1 bt449.2.2.1 bt449.2.2.2.1 bt449.2.2.2.2.1 bt458.1 bt458.2.1 bt458.2.2.1 bt458.2.2.2.1 bt458.2.2.2.2.1) else ((laws_sameInts.f k bt458.2.2.2.2.2 bt467.2.2.2.2.2).bind fun t476 => (if t476 = true then ((impl_DoorOk.f k bt449.1 bt449.2.1 bt449.2.2.1 bt449.2.2.2.1 bt449.2.2.2.2.1).bind fun t477 => ((spec_DoorOk.f k bt449.1 bt449.2.1 bt449.2.2.1 bt449.2.2.2.1 bt449.2.2.2.2.1).bind fun t478 => (laws_FnDoors.j0 k bt449.2.2.2.2.2 bt458.2.2.2.2.2 (t477 != t478) bt449.1 bt449.2.1 bt449.2.2.1 bt449.2.2.2.1 bt449.2.2.2.2.1 bt458.1 bt458.2.1 bt458.2.2.1 bt458.2.2.2.1 bt458.2.2.2.2.1))) else (laws_FnDoors.j0 k bt449.2.2.2.2.2 bt458.2.2.2.2.2 true bt449.1 bt449.2.1 bt449.2.2.1 bt449.2.2.2.1 bt449.2.2.2.2.1 bt458.1 bt458.2.1 bt458.2.2.1 bt458.2.2.2.1 bt458.2.2.2.2.1))))))))
theorem laws_FnDoors.mono_l : ∀ k, (∀ y0 y1 y2 y3 y4 y5 y6 y7 y8 y9 y10 y11 y12, LeO (laws_FnDoors.j0 k y0 y1 y2 y3 y4 y5 y6 y7 y8 y9 y10 y11 y12) (laws_FnDoors.j0 (k + 1) y0 y1 y2 y3 y4 y5 y6 y7 y8 y9 y10 y11 y12)) ∧ (∀ y0 y1 y2 y3 y4 y5 y6 y7 y8 y9 y10 y11 y12, LeO (laws_FnDoors.j1 k y0 y1 y2 y3 y4 y5 y6 y7 y8 y9 y10 y11 y12) (laws_FnDoors.j1 (k + 1) y0 y1 y2 y3 y4 y5 y6 y7 y8 y9 y10 y11 y12)) ∧ (∀ y0 y1 y2 y3 y4 y5 y6, LeO (laws_FnDoors.l0 k y0 y1 y2 y3 y4 y5 y6) (laws_FnDoors.l0 (k + 1) y0 y1 y2 y3 y4 y5 y6)) ∧ (∀ y0 y1 y2 y3 y4 y5 y6 y7 y8 y9 y10 y11 y12, LeO (laws_FnDoors.j3 k y0 y1 y2 y3 y4 y5 y6 y7 y8 y9 y10 y11 y12) (laws_FnDoors.j3 (k + 1) y0 y1 y2 y3 y4 y5 y6 y7 y8 y9 y10 y11 y12))
 | 0 => ⟨fun _ _ _ _ _ _ _ _ _ _ _ _ _ r h => by simp [laws_FnDoors.j0] at h, fun _ _ _ _ _ _ _ _ _ _ _ _ _ r h => by simp [laws_FnDoors.j1] at h, fun _ _ _ _ _ _ _ r h => by simp [laws_FnDoors.l0] at h, fun _ _ _ _ _ _ _ _ _ _ _ _ _ r h => by simp [laws_FnDoors.j3] at h⟩
 | k + 1 => by
  obtain ⟨ih0, ih1, ih2, ih3⟩ := laws_FnDoors.mono_l k
  refine ⟨?_, ?_, ?_, ?_⟩
  ·intro y0 y1 y2 y3 y4 y5 y6 y7 y8 y9 y10 y11 y12
   unfold laws_FnDoors.j0
   repeat' first
   | (with_reducible exact ih0 _ _ _ _ _ _ _ _ _ _ _ _ _)
   | (with_reducible exact ih1 _ _ _ _ _ _ _ _ _ _ _ _ _)
   | (with_reducible exact ih2 _ _ _ _ _ _ _)
   | (with_reducible exact ih3 _ _ _ _ _ _ _ _ _ _ _ _ _)
   | (with_reducible exact impl_DoActs.mono _ _ _ _ _ _ _)
   | (with_reducible exact impl_DoorOk.mono _ _ _ _ _ _)
   | (with_reducible exact laws_sameInts.mono _ _ _)
   | (with_reducible exact spec_DoActs.mono _ _ _ _ _ _ _)
   | (with_reducible exact spec_DoorOk.mono _ _ _ _ _ _)
   | (with_reducible exact spec_DrawDoActs.mono _ _)
   | (with_reducible exact LeO.refl _)
   | (with_reducible exact LeO.none _)
   | (with_reducible refine LeO.ite ?_ ?_)
   | (with_reducible refine LeO.bind ?_ (fun _ => ?_))
   | exact ih0 _ _ _ _ _ _ _ _ _ _ _ _ _
   | exact ih1 _ _ _ _ _ _ _ _ _ _ _ _ _
   | exact ih2 _ _ _ _ _ _ _
   | exact ih3 _ _ _ _ _ _ _ _ _ _ _ _ _
   | exact impl_DoActs.mono _ _ _ _ _ _ _
   | exact impl_DoorOk.mono _ _ _ _ _ _
   | exact laws_sameInts.mono _ _ _
   | exact spec_DoActs.mono _ _ _ _ _ _ _
   | exact spec_DoorOk.mono _ _ _ _ _ _
   | exact spec_DrawDoActs.mono _ _
   | exact LeO.none _
   | refine LeO.ite ?_ ?_
   | refine LeO.bind ?_ (fun _ => ?_)
  ·intro y0 y1 y2 y3 y4 y5 y6 y7 y8 y9 y10 y11 y12
   unfold laws_FnDoors.j1
   repeat' first
   | (with_reducible exact ih0 _ _ _ _ _ _ _ _ _ _ _ _ _)
   | (with_reducible exact ih1 _ _ _ _ _ _ _ _ _ _ _ _ _)
   | (with_reducible exact ih2 _ _ _ _ _ _ _)
   | (with_reducible exact ih3 _ _ _ _ _ _ _ _ _ _ _ _ _)
   | (with_reducible exact impl_DoActs.mono _ _ _ _ _ _ _)
   | (with_reducible exact impl_DoorOk.mono _ _ _ _ _ _)
   | (with_reducible exact laws_sameInts.mono _ _ _)
   | (with_reducible exact spec_DoActs.mono _ _ _ _ _ _ _)
   | (with_reducible exact spec_DoorOk.mono _ _ _ _ _ _)
   | (with_reducible exact spec_DrawDoActs.mono _ _)
   | (with_reducible exact LeO.refl _)
   | (with_reducible exact LeO.none _)
   | (with_reducible refine LeO.ite ?_ ?_)
   | (with_reducible refine LeO.bind ?_ (fun _ => ?_))
   | exact ih0 _ _ _ _ _ _ _ _ _ _ _ _ _
   | exact ih1 _ _ _ _ _ _ _ _ _ _ _ _ _
   | exact ih2 _ _ _ _ _ _ _
   | exact ih3 _ _ _ _ _ _ _ _ _ _ _ _ _
   | exact impl_DoActs.mono _ _ _ _ _ _ _
   | exact impl_DoorOk.mono _ _ _ _ _ _
   | exact laws_sameInts.mono _ _ _
   | exact spec_DoActs.mono _ _ _ _ _ _ _
   | exact spec_DoorOk.mono _ _ _ _ _ _
   | exact spec_DrawDoActs.mono _ _
   | exact LeO.none _
   | refine LeO.ite ?_ ?_
   | refine LeO.bind ?_ (fun _ => ?_)
  ·intro y0 y1 y2 y3 y4 y5 y6
   unfold laws_FnDoors.l0
   repeat' first
   | (with_reducible exact ih0 _ _ _ _ _ _ _ _ _ _ _ _ _)
   | (with_reducible exact ih1 _ _ _ _ _ _ _ _ _ _ _ _ _)
   | (with_reducible exact ih2 _ _ _ _ _ _ _)
   | (with_reducible exact ih3 _ _ _ _ _ _ _ _ _ _ _ _ _)
   | (with_reducible exact impl_DoActs.mono _ _ _ _ _ _ _)
   | (with_reducible exact impl_DoorOk.mono _ _ _ _ _ _)
   | (with_reducible exact laws_sameInts.mono _ _ _)
   | (with_reducible exact spec_DoActs.mono _ _ _ _ _ _ _)
   | (with_reducible exact spec_DoorOk.mono _ _ _ _ _ _)
   | (with_reducible exact spec_DrawDoActs.mono _ _)
   | (with_reducible exact LeO.refl _)
   | (with_reducible exact LeO.none _)
   | (with_reducible refine LeO.ite ?_ ?_)
   | (with_reducible refine LeO.bind ?_ (fun _ => ?_))
   | exact ih0 _ _ _ _ _ _ _ _ _ _ _ _ _
   | exact ih1 _ _ _ _ _ _ _ _ _ _ _ _ _
   | exact ih2 _ _ _ _ _ _ _
   | exact ih3 _ _ _ _ _ _ _ _ _ _ _ _ _
   | exact impl_DoActs.mono _ _ _ _ _ _ _
   | exact impl_DoorOk.mono _ _ _ _ _ _
   | exact laws_sameInts.mono _ _ _
   | exact spec_DoActs.mono _ _ _ _ _ _ _
   | exact spec_DoorOk.mono _ _ _ _ _ _
   | exact spec_DrawDoActs.mono _ _
   | exact LeO.none _
   | refine LeO.ite ?_ ?_
   | refine LeO.bind ?_ (fun _ => ?_)
  ·intro y0 y1 y2 y3 y4 y5 y6 y7 y8 y9 y10 y11 y12
   unfold laws_FnDoors.j3
   repeat' first
   | (with_reducible exact ih0 _ _ _ _ _ _ _ _ _ _ _ _ _)
   | (with_reducible exact ih1 _ _ _ _ _ _ _ _ _ _ _ _ _)
   | (with_reducible exact ih2 _ _ _ _ _ _ _)
   | (with_reducible exact ih3 _ _ _ _ _ _ _ _ _ _ _ _ _)
   | (with_reducible exact impl_DoActs.mono _ _ _ _ _ _ _)
   | (with_reducible exact impl_DoorOk.mono _ _ _ _ _ _)
   | (with_reducible exact laws_sameInts.mono _ _ _)
   | (with_reducible exact spec_DoActs.mono _ _ _ _ _ _ _)
   | (with_reducible exact spec_DoorOk.mono _ _ _ _ _ _)
   | (with_reducible exact spec_DrawDoActs.mono _ _)
   | (with_reducible exact LeO.refl _)
   | (with_reducible exact LeO.none _)
   | (with_reducible refine LeO.ite ?_ ?_)
   | (with_reducible refine LeO.bind ?_ (fun _ => ?_))
   | exact ih0 _ _ _ _ _ _ _ _ _ _ _ _ _
   | exact ih1 _ _ _ _ _ _ _ _ _ _ _ _ _
   | exact ih2 _ _ _ _ _ _ _
   | exact ih3 _ _ _ _ _ _ _ _ _ _ _ _ _
   | exact impl_DoActs.mono _ _ _ _ _ _ _
   | exact impl_DoorOk.mono _ _ _ _ _ _
   | exact laws_sameInts.mono _ _ _
   | exact spec_DoActs.mono _ _ _ _ _ _ _
   | exact spec_DoorOk.mono _ _ _ _ _ _
   | exact spec_DrawDoActs.mono _ _
   | exact LeO.none _
   | refine LeO.ite ?_ ?_
   | refine LeO.bind ?_ (fun _ => ?_)
theorem laws_FnDoors.mono : ∀ a0 k, LeO (laws_FnDoors.f k a0) (laws_FnDoors.f (k + 1) a0) := by
 intro a0 k
 obtain ⟨ih0, ih1, ih2, ih3⟩ := laws_FnDoors.mono_l k
 unfold laws_FnDoors.f
 repeat' first
   | (with_reducible exact ih0 _ _ _ _ _ _ _ _ _ _ _ _ _)
   | (with_reducible exact ih1 _ _ _ _ _ _ _ _ _ _ _ _ _)
   | (with_reducible exact ih2 _ _ _ _ _ _ _)
   | (with_reducible exact ih3 _ _ _ _ _ _ _ _ _ _ _ _ _)
   | (with_reducible exact impl_DoActs.mono _ _ _ _ _ _ _)
   | (with_reducible exact impl_DoorOk.mono _ _ _ _ _ _)
   | (with_reducible exact laws_sameInts.mono _ _ _)
   | (with_reducible exact spec_DoActs.mono _ _ _ _ _ _ _)
   | (with_reducible exact spec_DoorOk.mono _ _ _ _ _ _)
   | (with_reducible exact spec_DrawDoActs.mono _ _)
   | (with_reducible exact LeO.refl _)
   | (with_reducible exact LeO.none _)
   | (with_reducible refine LeO.ite ?_ ?_)
   | (with_reducible refine LeO.bind ?_ (fun _ => ?_))
   | exact ih0 _ _ _ _ _ _ _ _ _ _ _ _ _
   | exact ih1 _ _ _ _ _ _ _ _ _ _ _ _ _
   | exact ih2 _ _ _ _ _ _ _
   | exact ih3 _ _ _ _ _ _ _ _ _ _ _ _ _
   | exact impl_DoActs.mono _ _ _ _ _ _ _
   | exact impl_DoorOk.mono _ _ _ _ _ _
   | exact laws_sameInts.mono _ _ _
   | exact spec_DoActs.mono _ _ _ _ _ _ _
   | exact spec_DoorOk.mono _ _ _ _ _ _
   | exact spec_DrawDoActs.mono _ _
   | exact LeO.none _
   | refine LeO.ite ?_ ?_
   | refine LeO.bind ?_ (fun _ => ?_)
def laws_FnDoors.T6 : Bool × List (List Nat × List Nat) := (true, [([], []), ([], []), ([0, 1], [0, 1]), ([2], [2]), ([3], [3]), ([3], [3]), ([4, 5, 3, 3], [3, 4, 5]), ([6, 3], [3, 6]), ([3, 7], [3, 7]), ([8, 6], [8]), ([9], [9]), ([10, 9, 9], [9, 10]), ([9], [9]), ([12, 11, 9], [9, 12]), ([11, 13, 9], [9, 11, 13]), ([9, 14], [9, 14])])
def laws_FnDoors.B6 : List Nat := [0, 0, 3, 7, 15, 15, 63, 127, 255, 511, 1023, 2047, 1023, 8191, 16383, 32767]
theorem laws_FnDoors.tab6 : rtab .any (opsOf Try.f12 6) = laws_FnDoors.T6 := by kernel_rfl
theorem laws_FnDoors.bits6 : waitsOk laws_FnDoors.T6.2 laws_FnDoors.B6 = true := by kernel_rfl
def laws_FnDoors.T13 : Bool × List (List Nat × List Nat) := (true, [([], []), ([], []), ([], []), ([], []), ([3], [3]), ([1, 2, 4], [1, 2, 4]), ([0, 5], [0, 5]), ([6], [6]), ([7], [7]), ([7], [7]), ([], []), ([10, 8, 6, 0, 1, 2, 3, 4, 5, 6, 7, 8, 10], [8, 10]), ([9, 11, 0, 1, 2, 3, 4, 5, 6, 7, 8, 9, 10, 11], [9])])
def laws_FnDoors.B13 : List Nat := [0, 0, 0, 0, 8, 30, 63, 127, 255, 255, 0, 1535, 4095]
theorem laws_FnDoors.tab13 : rtab .any (opsOf Try.f12 13) = laws_FnDoors.T13 := by kernel_rfl
theorem laws_FnDoors.bits13 : waitsOk laws_FnDoors.T13.2 laws_FnDoors.B13 = true := by kernel_rfl
def laws_FnDoors.T14 : Bool × List (List Nat × List Nat) := (true, [([], []), ([], []), ([], []), ([], []), ([3], [3]), ([1, 2, 4], [1, 2, 4]), ([0, 5], [0, 5]), ([6], [6]), ([7], [7]), ([7], [7]), ([], []), ([10, 8, 6, 0, 1, 2, 3, 4, 5, 6, 7, 8, 10], [8, 10]), ([9, 11, 0, 1, 2, 3, 4, 5, 6, 7, 8, 9, 10, 11], [9])])
def laws_FnDoors.B14 : List Nat := [0, 0, 0, 0, 8, 30, 63, 127, 255, 255, 0, 1535, 4095]
theorem laws_FnDoors.tab14 : rtab .any (opsOf Try.f12 14) = laws_FnDoors.T14 := by kernel_rfl
theorem laws_FnDoors.bits14 : waitsOk laws_FnDoors.T14.2 laws_FnDoors.B14 = true := by kernel_rfl
set_option maxHeartbeats 8000000 in
set_option maxRecDepth 100000 in
theorem laws_FnDoors.calls (k : Nat) (A0 : Option Addr) (c0 : Nat) (l0 : List Int) (r : Bool) (w : World) (hr0 : Kd.C (Kd.int .u8) w A0 l0.length l0) (hc0 : l0.length ≤ c0) (h : laws_FnDoors.f k l0 = some r) :
  Calls Try.prog 12 #[.slice A0 l0.length c0] w fun e w' => e = .returned (.bool r) ∧ Below w.heap.size w w' := by
 have hu24 := Try.underlying24
 have HR0 := aM hr0
 have HC0 := aM hc0
 clear hr0 hc0
 have HB := aM (Below.refl w.heap.size w)
 have H : ((laws_big.f l0).bind fun t448 => (if t448 = true then (some true) else ((spec_DrawDoActs.f k l0).bind fun bt449 => ((impl_DoActs.f k bt449.1 bt449.2.1 bt449.2.2.1 bt449.2.2.2.1 bt449.2.2.2.2.1 bt449.2.2.2.2.2).bind fun bt458 => ((spec_DoActs.f k bt449.1 bt449.2.1 bt449.2.2.1 bt449.2.2.2.1 bt449.2.2.2.2.1 bt449.2.2.2.2.2).bind fun bt467 => (if (!(bt458.1 == bt467.1) || (!(bt458.2.1 == bt467.2.1) || (!(bt458.2.2.1 == bt467.2.2.1) || (!(bt458.2.2.2.1 == bt467.2.2.2.1) || (!(bt458.2.2.2.2.1 == bt467.2.2.2.2.1)))))) = true then (laws_FnDoors.j0 k bt449.2.2.2.2.2 bt458.2.2.2.2.2 true bt449.1 bt449.2.1 bt449.2.2.1 bt449.2.2.2.1 bt449.2.2.2.2.1 bt458.1 bt458.2.1 bt458.2.2.1 bt458.2.2.2.1 bt458.2.2.2.2.1) else ((laws_sameInts.f k bt458.2.2.2.2.2 bt467.2.2.2.2.2).bind fun t476 => (if t476 = true then ((impl_DoorOk.f k bt449.1 bt449.2.1 bt449.2.2.1 bt449.2.2.2.1 bt449.2.2.2.2.1).bind fun t477 => ((spec_DoorOk.f k bt449.1 bt449.2.1 bt449.2.2.1 bt449.2.2.2.1 bt449.2.2.2.2.1).bind fun t478 => (laws_FnDoors.j0 k bt449.2.2.2.2.2 bt458.2.2.2.2.2 (t477 != t478) bt449.1 bt449.2.1 bt449.2.2.1 bt449.2.2.2.1 bt449.2.2.2.2.1 bt458.1 bt458.2.1 bt458.2.2.1 bt458.2.2.2.1 bt458.2.2.2.2.1))) else (laws_FnDoors.j0 k bt449.2.2.2.2.2 bt458.2.2.2.2.2 true bt449.1 bt449.2.1 bt449.2.2.1 bt449.2.2.2.1 bt449.2.2.2.2.1 bt458.1 bt458.2.1 bt458.2.2.1 bt458.2.2.2.1 bt458.2.2.2.2.1))))))))) = some r := h
 clear h
 replace H := Option.bind_eq_some_iff.mp H
 obtain ⟨t448, A20, H⟩ := H
 replace H : (if t448 = true then (some true) else ((spec_DrawDoActs.f k l0).bind fun bt449 => ((impl_DoActs.f k bt449.1 bt449.2.1 bt449.2.2.1 bt449.2.2.2.1 bt449.2.2.2.2.1 bt449.2.2.2.2.2).bind fun bt458 => ((spec_DoActs.f k bt449.1 bt449.2.1 bt449.2.2.1 bt449.2.2.2.1 bt449.2.2.2.2.1 bt449.2.2.2.2.2).bind fun bt467 => (if (!(bt458.1 == bt467.1) || (!(bt458.2.1 == bt467.2.1) || (!(bt458.2.2.1 == bt467.2.2.1) || (!(bt458.2.2.2.1 == bt467.2.2.2.1) || (!(bt458.2.2.2.2.1 == bt467.2.2.2.2.1)))))) = true then (laws_FnDoors.j0 k bt449.2.2.2.2.2 bt458.2.2.2.2.2 true bt449.1 bt449.2.1 bt449.2.2.1 bt449.2.2.2.1 bt449.2.2.2.2.1 bt458.1 bt458.2.1 bt458.2.2.1 bt458.2.2.2.1 bt458.2.2.2.2.1) else ((laws_sameInts.f k bt458.2.2.2.2.2 bt467.2.2.2.2.2).bind fun t476 => (if t476 = true then ((impl_DoorOk.f k bt449.1 bt449.2.1 bt449.2.2.1 bt449.2.2.2.1 bt449.2.2.2.2.1).bind fun t477 => ((spec_DoorOk.f k bt449.1 bt449.2.1 bt449.2.2.1 bt449.2.2.2.1 bt449.2.2.2.2.1).bind fun t478 => (laws_FnDoors.j0 k bt449.2.2.2.2.2 bt458.2.2.2.2.2 (t477 != t478) bt449.1 bt449.2.1 bt449.2.2.1 bt449.2.2.2.1 bt449.2.2.2.2.1 bt458.1 bt458.2.1 bt458.2.2.1 bt458.2.2.2.1 bt458.2.2.2.2.1))) else (laws_FnDoors.j0 k bt449.2.2.2.2.2 bt458.2.2.2.2.2 true bt449.1 bt449.2.1 bt449.2.2.1 bt449.2.2.2.1 bt449.2.2.2.2.1 bt458.1 bt458.2.1 bt458.2.2.1 bt458.2.2.2.1 bt458.2.2.2.2.1)))))))) = some r := H
 have A2 := aM A20
 clear A20
 by_cases c3 : t448 = true
 ·subst c3
  have H1 : (some true) = some r := by rw [if_pos rfl] at H; exact H
  clear H
  have H := H1
  clear H1
  obtain rfl := Option.some.inj H
  go_enter Try.func12, Try.ntmps12
  go_wp2_with (first | ((with_reducible refine gate_callee (f := 26) rfl ?_); refine goesL_ (some 15) rfl rfl Try.func26 (by kernel_rfl) rfl #[.slice A0 l0.length c0] rfl za ?_; (with_reducible refine (laws_big.calls _ _ l0 true _ ?side1 ?side2 A2.out).mono ?_); (case side1 => repeat (first | exact HR0.out | (with_reducible refine Kd.C_alloc ?_ _) | (with_reducible refine Kd.C_drewN ?_ _) | (with_reducible refine Kd.C_drew ?_))); (case side2 => exact HC0.out); rintro e w' ⟨rfl, ⟨nd, rfl⟩⟩; refine ⟨_, rfl, ?_⟩))
  go_ret
  exact ⟨zr, zb⟩
 ·replace c3 := Bool.eq_false_iff.mpr c3
  subst c3
  have H1 : ((spec_DrawDoActs.f k l0).bind fun bt449 => ((impl_DoActs.f k bt449.1 bt449.2.1 bt449.2.2.1 bt449.2.2.2.1 bt449.2.2.2.2.1 bt449.2.2.2.2.2).bind fun bt458 => ((spec_DoActs.f k bt449.1 bt449.2.1 bt449.2.2.1 bt449.2.2.2.1 bt449.2.2.2.2.1 bt449.2.2.2.2.2).bind fun bt467 => (if (!(bt458.1 == bt467.1) || (!(bt458.2.1 == bt467.2.1) || (!(bt458.2.2.1 == bt467.2.2.1) || (!(bt458.2.2.2.1 == bt467.2.2.2.1) || (!(bt458.2.2.2.2.1 == bt467.2.2.2.2.1)))))) = true then (laws_FnDoors.j0 k bt449.2.2.2.2.2 bt458.2.2.2.2.2 true bt449.1 bt449.2.1 bt449.2.2.1 bt449.2.2.2.1 bt449.2.2.2.2.1 bt458.1 bt458.2.1 bt458.2.2.1 bt458.2.2.2.1 bt458.2.2.2.2.1) else ((laws_sameInts.f k bt458.2.2.2.2.2 bt467.2.2.2.2.2).bind fun t476 => (if t476 = true then ((impl_DoorOk.f k bt449.1 bt449.2.1 bt449.2.2.1 bt449.2.2.2.1 bt449.2.2.2.2.1).bind fun t477 => ((spec_DoorOk.f k bt449.1 bt449.2.1 bt449.2.2.1 bt449.2.2.2.1 bt449.2.2.2.2.1).bind fun t478 => (laws_FnDoors.j0 k bt449.2.2.2.2.2 bt458.2.2.2.2.2 (t477 != t478) bt449.1 bt449.2.1 bt449.2.2.1 bt449.2.2.2.1 bt449.2.2.2.2.1 bt458.1 bt458.2.1 bt458.2.2.1 bt458.2.2.2.1 bt458.2.2.2.2.1))) else (laws_FnDoors.j0 k bt449.2.2.2.2.2 bt458.2.2.2.2.2 true bt449.1 bt449.2.1 bt449.2.2.1 bt449.2.2.2.1 bt449.2.2.2.2.1 bt458.1 bt458.2.1 bt458.2.2.1 bt458.2.2.2.1 bt458.2.2.2.2.1))))))) = some r := by rw [if_neg (show ¬ (false = true) by decide)] at H; exact H
  clear H
  have H := H1
  clear H1
  replace H := Option.bind_eq_some_iff.mp H
  obtain ⟨⟨t449, t450, t451, t452, t453, t454⟩, A40, H⟩ := H
  replace H : ((impl_DoActs.f k t449 t450 t451 t452 t453 t454).bind fun bt458 => ((spec_DoActs.f k t449 t450 t451 t452 t453 t454).bind fun bt467 => (if (!(bt458.1 == bt467.1) || (!(bt458.2.1 == bt467.2.1) || (!(bt458.2.2.1 == bt467.2.2.1) || (!(bt458.2.2.2.1 == bt467.2.2.2.1) || (!(bt458.2.2.2.2.1 == bt467.2.2.2.2.1)))))) = true then (laws_FnDoors.j0 k t454 bt458.2.2.2.2.2 true t449 t450 t451 t452 t453 bt458.1 bt458.2.1 bt458.2.2.1 bt458.2.2.2.1 bt458.2.2.2.2.1) else ((laws_sameInts.f k bt458.2.2.2.2.2 bt467.2.2.2.2.2).bind fun t476 => (if t476 = true then ((impl_DoorOk.f k t449 t450 t451 t452 t453).bind fun t477 => ((spec_DoorOk.f k t449 t450 t451 t452 t453).bind fun t478 => (laws_FnDoors.j0 k t454 bt458.2.2.2.2.2 (t477 != t478) t449 t450 t451 t452 t453 bt458.1 bt458.2.1 bt458.2.2.1 bt458.2.2.2.1 bt458.2.2.2.2.1))) else (laws_FnDoors.j0 k t454 bt458.2.2.2.2.2 true t449 t450 t451 t452 t453 bt458.1 bt458.2.1 bt458.2.2.1 bt458.2.2.2.1 bt458.2.2.2.2.1)))))) = some r := H
  have A4 := aM A40
  clear A40
  replace H := Option.bind_eq_some_iff.mp H
  obtain ⟨⟨t458, t459, t460, t461, t462, t463⟩, A50, H⟩ := H
  replace H : ((spec_DoActs.f k t449 t450 t451 t452 t453 t454).bind fun bt467 => (if (!(t458 == bt467.1) || (!(t459 == bt467.2.1) || (!(t460 == bt467.2.2.1) || (!(t461 == bt467.2.2.2.1) || (!(t462 == bt467.2.2.2.2.1)))))) = true then (laws_FnDoors.j0 k t454 t463 true t449 t450 t451 t452 t453 t458 t459 t460 t461 t462) else ((laws_sameInts.f k t463 bt467.2.2.2.2.2).bind fun t476 => (if t476 = true then ((impl_DoorOk.f k t449 t450 t451 t452 t453).bind fun t477 => ((spec_DoorOk.f k t449 t450 t451 t452 t453).bind fun t478 => (laws_FnDoors.j0 k t454 t463 (t477 != t478) t449 t450 t451 t452 t453 t458 t459 t460 t461 t462))) else (laws_FnDoors.j0 k t454 t463 true t449 t450 t451 t452 t453 t458 t459 t460 t461 t462))))) = some r := H
  have A5 := aM A50
  clear A50
  replace H := Option.bind_eq_some_iff.mp H
  obtain ⟨⟨t467, t468, t469, t470, t471, t472⟩, A60, H⟩ := H
  replace H : (if (!(t458 == t467) || (!(t459 == t468) || (!(t460 == t469) || (!(t461 == t470) || (!(t462 == t471)))))) = true then (laws_FnDoors.j0 k t454 t463 true t449 t450 t451 t452 t453 t458 t459 t460 t461 t462) else ((laws_sameInts.f k t463 t472).bind fun t476 => (if t476 = true then ((impl_DoorOk.f k t449 t450 t451 t452 t453).bind fun t477 => ((spec_DoorOk.f k t449 t450 t451 t452 t453).bind fun t478 => (laws_FnDoors.j0 k t454 t463 (t477 != t478) t449 t450 t451 t452 t453 t458 t459 t460 t461 t462))) else (laws_FnDoors.j0 k t454 t463 true t449 t450 t451 t452 t453 t458 t459 t460 t461 t462)))) = some r := H
  have A6 := aM A60
  clear A60
  have HC7 := aM H
  clear H
  go_enter Try.func12, Try.ntmps12
  go_upto_region 6 with (first | ((with_reducible refine gate_callee (f := 26) rfl ?_); refine goesL_ (some 15) rfl rfl Try.func26 (by kernel_rfl) rfl #[.slice A0 l0.length c0] rfl za ?_; (with_reducible refine (laws_big.calls _ _ l0 false _ ?side1 ?side2 A2.out).mono ?_); (case side1 => repeat (first | exact HR0.out | (with_reducible refine Kd.C_alloc ?_ _) | (with_reducible refine Kd.C_drewN ?_ _) | (with_reducible refine Kd.C_drew ?_))); (case side2 => exact HC0.out); rintro e w' ⟨rfl, ⟨nd, rfl⟩⟩; refine ⟨_, rfl, ?_⟩) | ((with_reducible refine gate_callee (f := 49) rfl ?_); refine goesL_ (some 18) rfl rfl Try.func49 (by kernel_rfl) rfl #[.slice A0 l0.length c0] rfl za ?_; (with_reducible refine (spec_DrawDoActs.calls k _ _ l0 t449 t450 t451 t452 t453 t454 _ ?side1 ?side2 A4.out).mono ?_); (case side1 => repeat (first | exact HR0.out | (with_reducible refine Kd.C_alloc ?_ _) | (with_reducible refine Kd.C_drewN ?_ _) | (with_reducible refine Kd.C_drew ?_))); (case side2 => exact HC0.out); rintro e w8 ⟨v455, rfl, ho0, hb⟩; refine ⟨_, rfl, ?_⟩; have n0_ := aM (Kd.R_lower ho0 (below_size (zb))); have n1_ := aM (below_step (zb) hb); clear HB; have HO456 := n0_; have HB := n1_; clear n0_ n1_; (try clear hb); (try clear hb2); (try clear hk); (try clear hi); (try clear ho0)) | ((with_reducible refine gate_dst (N := 3) rfl ?_); (try (refine gate_guard (by rfl) ?_; dsimp only)); refine box_event ?hg (N := 3) ?hd (cs := #[.int .i64 0, .int .i64 0, .bool false, .bool false, .bool false]) (t := 24) ?hr ?_; (case hd => rfl); (case hg => rfl); (case hr => exact zg); intro gb457 hg w9 hbox hb; have n0_ := aM (Kd.R_below (by (with_reducible repeat (first | apply Kd.R_alloc | apply Kd.R_drewN | apply Kd.R_drew)); exact HO456.out) hb); have n1_ := aM (below_step (zb) hb); have n2_ := aM (hbox); have n3_ := aM ((by rw [hg]; exact (below_size (zb)) : w.heap.size ≤ gb457)); have n4_ := aM ((by rw [hg]; exact (below_size (zb)) : w.heap.size ≤ gb457)); clear HO456; clear HB; have HO456 := n0_; have HB := n1_; have BK457 := n2_; have GW457 := n3_; have GE457 := n4_; clear n0_ n1_ n2_ n3_ n4_; clear hb hbox hg; obtain ⟨hcz10_0, hcz10_1, hcz10_2, hcz10_3, hcz10_4, hfz10_0, hfz10_1, hfz10_2, hfz10_3, hfz10_4⟩ := cells5 BK457.out; obtain ⟨Ao11, co11, eo11⟩ := Kd.R_slice HO456.out; subst eo11) | ((with_reducible refine gate_callee (f := 45) rfl ?_); refine goesL_ (some 24) rfl rfl Try.func45 (by kernel_rfl) rfl #[.agg #[.int .i64 t449, .int .i64 t450, .bool t451, .bool t452, .bool t453], .slice Ao11 t454.length co11] rfl za ?_; (with_reducible refine (impl_DoActs.calls k t449 t450 t451 t452 t453 _ _ t454 t458 t459 t460 t461 t462 t463 _ ?side1 ?side2 A5.out).mono ?_); (case side1 => refine (Kd.R_reads' (e := 3) (base := w.heap.size) (ok := fun k_ => True) (n := t454.length) (c := co11) ?_).2.2; exact (by (with_reducible repeat (first | apply Kd.R_alloc | apply Kd.R_drewN | apply Kd.R_drew)); exact (Kd.R_mono (Kd.R_far (p := ⟨gb457, 4, none⟩) (Kd.R_far (p := ⟨gb457, 3, none⟩) (Kd.R_far (p := ⟨gb457, 2, none⟩) (Kd.R_far (p := ⟨gb457, 1, none⟩) (Kd.R_far (p := ⟨gb457, 0, none⟩) (Kd.R_types HO456.out BK457.out (by decide)) (fun _ hk => hk.2) (.int .i64 t449)) (fun _ hk => hk.2) (.int .i64 t450)) (fun _ hk => hk.2) (.bool t451)) (fun _ hk => hk.2) (.bool t452)) (fun _ hk => hk.2) (.bool t453)) (fun _ h_ => h_.1)))); (case side2 => exact (Kd.R_reads' HO456.out).2.1); rintro e w12 ⟨v464, rfl, ho0, hb⟩; refine ⟨_, rfl, ?_⟩; have n0_ := aM (Kd.R_elder' (by (with_reducible repeat (first | apply Kd.R_alloc | apply Kd.R_drewN | apply Kd.R_drew)); exact (Kd.R_mono (Kd.R_far (p := ⟨gb457, 4, none⟩) (Kd.R_far (p := ⟨gb457, 3, none⟩) (Kd.R_far (p := ⟨gb457, 2, none⟩) (Kd.R_far (p := ⟨gb457, 1, none⟩) (Kd.R_far (p := ⟨gb457, 0, none⟩) (Kd.R_types HO456.out BK457.out (by decide)) (fun _ hk => hk.2) (.int .i64 t449)) (fun _ hk => hk.2) (.int .i64 t450)) (fun _ hk => hk.2) (.bool t451)) (fun _ hk => hk.2) (.bool t452)) (fun _ hk => hk.2) (.bool t453)) (fun _ h_ => h_.1))) (Kd.R_base ho0) hb); have n1_ := aM (Kd.R_lower (Kd.R_new' ho0 (Kd.R_lt (by (with_reducible repeat (first | apply Kd.R_alloc | apply Kd.R_drewN | apply Kd.R_drew)); exact (Kd.R_mono (Kd.R_far (p := ⟨gb457, 4, none⟩) (Kd.R_far (p := ⟨gb457, 3, none⟩) (Kd.R_far (p := ⟨gb457, 2, none⟩) (Kd.R_far (p := ⟨gb457, 1, none⟩) (Kd.R_far (p := ⟨gb457, 0, none⟩) (Kd.R_types HO456.out BK457.out (by decide)) (fun _ hk => hk.2) (.int .i64 t449)) (fun _ hk => hk.2) (.int .i64 t450)) (fun _ hk => hk.2) (.bool t451)) (fun _ hk => hk.2) (.bool t452)) (fun _ hk => hk.2) (.bool t453)) (fun _ h_ => h_.1))))) (below_size (zb))); have n2_ := aM (blk_below (g := gb457) (o := .cells #[.int .i64 t449, .int .i64 t450, .bool t451, .bool t452, .bool t453] 24 (0, 0)) (by refine pq ?_; refine blk_put (cs := #[.int .i64 t449, .int .i64 t450, .bool t451, .bool t452, .bool false]) ?_ 4 _ rfl; refine pq ?_; refine blk_put (cs := #[.int .i64 t449, .int .i64 t450, .bool t451, .bool false, .bool false]) ?_ 3 _ rfl; refine pq ?_; refine blk_put (cs := #[.int .i64 t449, .int .i64 t450, .bool false, .bool false, .bool false]) ?_ 2 _ rfl; refine pq ?_; refine blk_put (cs := #[.int .i64 t449, .int .i64 0, .bool false, .bool false, .bool false]) ?_ 1 _ rfl; refine pq ?_; refine blk_put (cs := #[.int .i64 0, .int .i64 0, .bool false, .bool false, .bool false]) ?_ 0 _ rfl; refine pq ?_; exact BK457.out) hb); have n3_ := aM (below_step (zb) hb); clear HO456; clear BK457; clear HB; have HO456 := n0_; have HO465 := n1_; have BK457 := n2_; have HB := n3_; clear n0_ n1_ n2_ n3_; (try clear hb); (try clear hb2); (try clear hk); (try clear hi); (try clear ho0)) | ((with_reducible refine gate_dst (N := 5) rfl ?_); (try (refine gate_guard (by rfl) ?_; dsimp only)); refine box_event ?hg (N := 5) ?hd (cs := #[.int .i64 0, .int .i64 0, .bool false, .bool false, .bool false]) (t := 24) ?hr ?_; (case hd => rfl); (case hg => rfl); (case hr => exact zg); intro gb466 hg w13 hbox hb; have n0_ := aM (Kd.R_below (by (with_reducible repeat (first | apply Kd.R_alloc | apply Kd.R_drewN | apply Kd.R_drew)); exact HO456.out) hb); have n1_ := aM (Kd.R_below (by (with_reducible repeat (first | apply Kd.R_alloc | apply Kd.R_drewN | apply Kd.R_drew)); exact HO465.out) hb); have n2_ := aM (bb BK457.out hb); have n3_ := aM (below_step (zb) hb); have n4_ := aM (hbox); have n5_ := aM ((by rw [hg]; exact (below_size (zb)) : w.heap.size ≤ gb466)); have n6_ := aM ((by rw [hg]; exact (below_size (zb)) : w.heap.size ≤ gb466)); have n7_ := aM ((by rw [hg]; exact Nat.ne_of_lt (nl BK457.out) : gb457 ≠ gb466)); have n8_ := aM ((by rw [hg]; exact Nat.ne_of_gt (nl BK457.out) : gb466 ≠ gb457)); clear HO456; clear HO465; clear BK457; clear HB; have HO456 := n0_; have HO465 := n1_; have BK457 := n2_; have HB := n3_; have BK466 := n4_; have GW466 := n5_; have GE466 := n6_; have NB457_466 := n7_; have NB466_457 := n8_; clear n0_ n1_ n2_ n3_ n4_ n5_ n6_ n7_ n8_; clear hb hbox hg; have hnb14 := NB466_457.out; have hnc14 := NB457_466.out; obtain ⟨hcz15_0, hcz15_1, hcz15_2, hcz15_3, hcz15_4, hfz15_0, hfz15_1, hfz15_2, hfz15_3, hfz15_4⟩ := cells5 BK466.out; obtain ⟨hcz16_0, hcz16_1, hcz16_2, hcz16_3, hcz16_4, hfz16_0, hfz16_1, hfz16_2, hfz16_3, hfz16_4⟩ := cells5 BK457.out) | ((with_reducible refine gate_callee (f := 43) rfl ?_); refine goesL_ (some 30) rfl rfl Try.func43 (by kernel_rfl) rfl #[.agg #[.int .i64 t449, .int .i64 t450, .bool t451, .bool t452, .bool t453], .slice Ao11 t454.length co11] rfl za ?_; (with_reducible refine (spec_DoActs.calls k t449 t450 t451 t452 t453 _ _ t454 t467 t468 t469 t470 t471 t472 _ ?side1 ?side2 A6.out).mono ?_); (case side1 => refine (Kd.R_reads' (e := 3) (base := w.heap.size) (ok := fun k_ => (True ∧ some k_ ≠ (v464 : Value).ownBlock)) (n := t454.length) (c := co11) ?_).2.2; exact (by (with_reducible repeat (first | apply Kd.R_alloc | apply Kd.R_drewN | apply Kd.R_drew)); exact (Kd.R_mono (Kd.R_far (p := ⟨gb466, 4, none⟩) (Kd.R_far (p := ⟨gb466, 3, none⟩) (Kd.R_far (p := ⟨gb466, 2, none⟩) (Kd.R_far (p := ⟨gb466, 1, none⟩) (Kd.R_far (p := ⟨gb466, 0, none⟩) (Kd.R_types HO456.out BK466.out (by decide)) (fun _ hk => hk.2) (.int .i64 t458)) (fun _ hk => hk.2) (.int .i64 t459)) (fun _ hk => hk.2) (.bool t460)) (fun _ hk => hk.2) (.bool t461)) (fun _ hk => hk.2) (.bool t462)) (fun _ h_ => h_.1)))); (case side2 => exact (Kd.R_reads' HO456.out).2.1); rintro e w17 ⟨v473, rfl, ho0, hb⟩; refine ⟨_, rfl, ?_⟩; have n0_ := aM (Kd.R_elder' (by (with_reducible repeat (first | apply Kd.R_alloc | apply Kd.R_drewN | apply Kd.R_drew)); exact (Kd.R_mono (Kd.R_far (p := ⟨gb466, 4, none⟩) (Kd.R_far (p := ⟨gb466, 3, none⟩) (Kd.R_far (p := ⟨gb466, 2, none⟩) (Kd.R_far (p := ⟨gb466, 1, none⟩) (Kd.R_far (p := ⟨gb466, 0, none⟩) (Kd.R_types HO456.out BK466.out (by decide)) (fun _ hk => hk.2) (.int .i64 t458)) (fun _ hk => hk.2) (.int .i64 t459)) (fun _ hk => hk.2) (.bool t460)) (fun _ hk => hk.2) (.bool t461)) (fun _ hk => hk.2) (.bool t462)) (fun _ h_ => h_.1))) (Kd.R_base ho0) hb); have n1_ := aM (Kd.R_elder' (by (with_reducible repeat (first | apply Kd.R_alloc | apply Kd.R_drewN | apply Kd.R_drew)); exact (Kd.R_mono (Kd.R_far (p := ⟨gb466, 4, none⟩) (Kd.R_far (p := ⟨gb466, 3, none⟩) (Kd.R_far (p := ⟨gb466, 2, none⟩) (Kd.R_far (p := ⟨gb466, 1, none⟩) (Kd.R_far (p := ⟨gb466, 0, none⟩) (Kd.R_types HO465.out BK466.out (by decide)) (fun _ hk => hk.2) (.int .i64 t458)) (fun _ hk => hk.2) (.int .i64 t459)) (fun _ hk => hk.2) (.bool t460)) (fun _ hk => hk.2) (.bool t461)) (fun _ hk => hk.2) (.bool t462)) (fun _ h_ => h_.1))) (Kd.R_base ho0) hb); have n2_ := aM (Kd.R_lower (Kd.R_new' (Kd.R_new' ho0 (Kd.R_lt (by (with_reducible repeat (first | apply Kd.R_alloc | apply Kd.R_drewN | apply Kd.R_drew)); exact (Kd.R_mono (Kd.R_far (p := ⟨gb466, 4, none⟩) (Kd.R_far (p := ⟨gb466, 3, none⟩) (Kd.R_far (p := ⟨gb466, 2, none⟩) (Kd.R_far (p := ⟨gb466, 1, none⟩) (Kd.R_far (p := ⟨gb466, 0, none⟩) (Kd.R_types HO456.out BK466.out (by decide)) (fun _ hk => hk.2) (.int .i64 t458)) (fun _ hk => hk.2) (.int .i64 t459)) (fun _ hk => hk.2) (.bool t460)) (fun _ hk => hk.2) (.bool t461)) (fun _ hk => hk.2) (.bool t462)) (fun _ h_ => h_.1))))) (Kd.R_lt (by (with_reducible repeat (first | apply Kd.R_alloc | apply Kd.R_drewN | apply Kd.R_drew)); exact (Kd.R_mono (Kd.R_far (p := ⟨gb466, 4, none⟩) (Kd.R_far (p := ⟨gb466, 3, none⟩) (Kd.R_far (p := ⟨gb466, 2, none⟩) (Kd.R_far (p := ⟨gb466, 1, none⟩) (Kd.R_far (p := ⟨gb466, 0, none⟩) (Kd.R_types HO465.out BK466.out (by decide)) (fun _ hk => hk.2) (.int .i64 t458)) (fun _ hk => hk.2) (.int .i64 t459)) (fun _ hk => hk.2) (.bool t460)) (fun _ hk => hk.2) (.bool t461)) (fun _ hk => hk.2) (.bool t462)) (fun _ h_ => h_.1))))) (below_size (zb))); have n3_ := aM (blk_below (g := gb457) (o := .cells #[.int .i64 t449, .int .i64 t450, .bool t451, .bool t452, .bool t453] 24 (0, 0)) (by refine pq ?_; refine blk_far ?_ NB457_466.out _; refine pq ?_; refine blk_far ?_ NB457_466.out _; refine pq ?_; refine blk_far ?_ NB457_466.out _; refine pq ?_; refine blk_far ?_ NB457_466.out _; refine pq ?_; refine blk_far ?_ NB457_466.out _; refine pq ?_; exact BK457.out) hb); have n4_ := aM (blk_below (g := gb466) (o := .cells #[.int .i64 t458, .int .i64 t459, .bool t460, .bool t461, .bool t462] 24 (0, 0)) (by refine pq ?_; refine blk_put (cs := #[.int .i64 t458, .int .i64 t459, .bool t460, .bool t461, .bool false]) ?_ 4 _ rfl; refine pq ?_; refine blk_put (cs := #[.int .i64 t458, .int .i64 t459, .bool t460, .bool false, .bool false]) ?_ 3 _ rfl; refine pq ?_; refine blk_put (cs := #[.int .i64 t458, .int .i64 t459, .bool false, .bool false, .bool false]) ?_ 2 _ rfl; refine pq ?_; refine blk_put (cs := #[.int .i64 t458, .int .i64 0, .bool false, .bool false, .bool false]) ?_ 1 _ rfl; refine pq ?_; refine blk_put (cs := #[.int .i64 0, .int .i64 0, .bool false, .bool false, .bool false]) ?_ 0 _ rfl; refine pq ?_; exact BK466.out) hb); have n5_ := aM (below_step (zb) hb); clear HO456; clear HO465; clear BK457; clear BK466; clear HB; have HO456 := n0_; have HO465 := n1_; have HO474 := n2_; have BK457 := n3_; have BK466 := n4_; have HB := n5_; clear n0_ n1_ n2_ n3_ n4_ n5_; (try clear hb); (try clear hb2); (try clear hk); (try clear hi); (try clear ho0)) | ((with_reducible refine gate_dst (N := 7) rfl ?_); (try (refine gate_guard (by rfl) ?_; dsimp only)); refine box_event ?hg (N := 7) ?hd (cs := #[.int .i64 0, .int .i64 0, .bool false, .bool false, .bool false]) (t := 24) ?hr ?_; (case hd => rfl); (case hg => rfl); (case hr => exact zg); intro gb475 hg w18 hbox hb; have n0_ := aM (Kd.R_below (by (with_reducible repeat (first | apply Kd.R_alloc | apply Kd.R_drewN | apply Kd.R_drew)); exact HO456.out) hb); have n1_ := aM (Kd.R_below (by (with_reducible repeat (first | apply Kd.R_alloc | apply Kd.R_drewN | apply Kd.R_drew)); exact HO465.out) hb); have n2_ := aM (Kd.R_below (by (with_reducible repeat (first | apply Kd.R_alloc | apply Kd.R_drewN | apply Kd.R_drew)); exact HO474.out) hb); have n3_ := aM (bb BK457.out hb); have n4_ := aM (bb BK466.out hb); have n5_ := aM (below_step (zb) hb); have n6_ := aM (hbox); have n7_ := aM ((by rw [hg]; exact (below_size (zb)) : w.heap.size ≤ gb475)); have n8_ := aM ((by rw [hg]; exact (below_size (zb)) : w.heap.size ≤ gb475)); have n9_ := aM ((by rw [hg]; exact Nat.ne_of_lt (nl BK457.out) : gb457 ≠ gb475)); have n10_ := aM ((by rw [hg]; exact Nat.ne_of_gt (nl BK457.out) : gb475 ≠ gb457)); have n11_ := aM ((by rw [hg]; exact Nat.ne_of_lt (nl BK466.out) : gb466 ≠ gb475)); have n12_ := aM ((by rw [hg]; exact Nat.ne_of_gt (nl BK466.out) : gb475 ≠ gb466)); clear HO456; clear HO465; clear HO474; clear BK457; clear BK466; clear HB; have HO456 := n0_; have HO465 := n1_; have HO474 := n2_; have BK457 := n3_; have BK466 := n4_; have HB := n5_; have BK475 := n6_; have GW475 := n7_; have GE475 := n8_; have NB457_475 := n9_; have NB475_457 := n10_; have NB466_475 := n11_; have NB475_466 := n12_; clear n0_ n1_ n2_ n3_ n4_ n5_ n6_ n7_ n8_ n9_ n10_ n11_ n12_; clear hb hbox hg; have hnb19 := NB475_457.out; have hnc19 := NB457_475.out; have hnb20 := NB475_466.out; have hnc20 := NB466_475.out; obtain ⟨hcz21_0, hcz21_1, hcz21_2, hcz21_3, hcz21_4, hfz21_0, hfz21_1, hfz21_2, hfz21_3, hfz21_4⟩ := cells5 BK475.out))
  (try simp only [Act.put, List.setIfInBounds_toArray, List.set_cons_zero, List.set_cons_succ])
  go_cut [48] (fun v48 wc => ∃ (kq : Nat) (x48_6 : Bool), v48 = .bool x48_6 ∧ Aside0 (laws_FnDoors.j0 kq t454 t463 x48_6 t449 t450 t451 t452 t453 t458 t459 t460 t461 t462 = some r) ∧ Aside0 (kq ≤ k) ∧ Aside0 (Kd.R (Kd.int .i64) 3 wc w.heap.size (fun k_ => some k_ ≠ (v464 : Value).ownBlock) (.slice Ao11 t454.length co11) t454) ∧ Aside0 (Kd.R (Kd.int .i64) 3 wc w.heap.size (fun k_ => some k_ ≠ ((.slice Ao11 t454.length co11) : Value).ownBlock) v464 t463) ∧ Aside0 (wc.heap[gb457]? = some (.cells #[.int .i64 t449, .int .i64 t450, .bool t451, .bool t452, .bool t453] 24 (0, 0))) ∧ Aside0 (wc.heap[gb466]? = some (.cells #[.int .i64 t458, .int .i64 t459, .bool t460, .bool t461, .bool t462] 24 (0, 0))) ∧ Aside0 (wc.heap[gb475]? = some (.cells #[.int .i64 t467, .int .i64 t468, .bool t469, .bool t470, .bool t471] 24 (0, 0))) ∧ Aside0 (Below w.heap.size w wc))
  case first =>
   have H := HC7.out
   clear HC7
   by_cases c22 : (!(t458 == t467) || (!(t459 == t468) || (!(t460 == t469) || (!(t461 == t470) || (!(t462 == t471)))))) = true
   ·rw [if_pos c22] at H
    have c22b0 : (!(t458 == t467) || (!(t459 == t468) || (!(t460 == t469) || (!(t461 == t470) || (!(t462 == t471)))))) = true := c22
    clear c22
    (first | rw [c22b0] | (simp only [i64_w, i32_w]; rw [c22b0]) | skip)
    have H' := aM H
    clear H
    try go_wp2
    have n0_ : Aside0 (Kd.R (Kd.int .i64) 3 (((((w18.setCell ⟨gb475, 0, none⟩ (.int .i64 t467)).setCell ⟨gb475, 1, none⟩ (.int .i64 t468)).setCell ⟨gb475, 2, none⟩ (.bool t469)).setCell ⟨gb475, 3, none⟩ (.bool t470)).setCell ⟨gb475, 4, none⟩ (.bool t471)) w.heap.size (fun k_ => some k_ ≠ (v464 : Value).ownBlock ∧ some k_ ≠ (v473 : Value).ownBlock) (.slice Ao11 t454.length co11) t454) := ⟨by (with_reducible repeat (first | apply Kd.R_alloc | apply Kd.R_drewN | apply Kd.R_drew)); exact Kd.R_mono (Kd.R_far (p := ⟨gb475, 4, none⟩) (Kd.R_far (p := ⟨gb475, 3, none⟩) (Kd.R_far (p := ⟨gb475, 2, none⟩) (Kd.R_far (p := ⟨gb475, 1, none⟩) (Kd.R_far (p := ⟨gb475, 0, none⟩) (Kd.R_types HO456.out BK475.out (by decide)) (fun _ hk => hk.2) (.int .i64 t467)) (fun _ hk => hk.2) (.int .i64 t468)) (fun _ hk => hk.2) (.bool t469)) (fun _ hk => hk.2) (.bool t470)) (fun _ hk => hk.2) (.bool t471)) (fun _ hk => ⟨hk.1.1.2, hk.1.2⟩)⟩
    have n1_ : Aside0 (Kd.R (Kd.int .i64) 3 (((((w18.setCell ⟨gb475, 0, none⟩ (.int .i64 t467)).setCell ⟨gb475, 1, none⟩ (.int .i64 t468)).setCell ⟨gb475, 2, none⟩ (.bool t469)).setCell ⟨gb475, 3, none⟩ (.bool t470)).setCell ⟨gb475, 4, none⟩ (.bool t471)) w.heap.size (fun k_ => some k_ ≠ (.slice Ao11 t454.length co11 : Value).ownBlock ∧ some k_ ≠ (v473 : Value).ownBlock) v464 t463) := ⟨by (with_reducible repeat (first | apply Kd.R_alloc | apply Kd.R_drewN | apply Kd.R_drew)); exact Kd.R_mono (Kd.R_far (p := ⟨gb475, 4, none⟩) (Kd.R_far (p := ⟨gb475, 3, none⟩) (Kd.R_far (p := ⟨gb475, 2, none⟩) (Kd.R_far (p := ⟨gb475, 1, none⟩) (Kd.R_far (p := ⟨gb475, 0, none⟩) (Kd.R_types HO465.out BK475.out (by decide)) (fun _ hk => hk.2) (.int .i64 t467)) (fun _ hk => hk.2) (.int .i64 t468)) (fun _ hk => hk.2) (.bool t469)) (fun _ hk => hk.2) (.bool t470)) (fun _ hk => hk.2) (.bool t471)) (fun _ hk => ⟨hk.1.1.2, hk.1.2⟩)⟩
    have n2_ : Aside0 (Kd.R (Kd.int .i64) 3 (((((w18.setCell ⟨gb475, 0, none⟩ (.int .i64 t467)).setCell ⟨gb475, 1, none⟩ (.int .i64 t468)).setCell ⟨gb475, 2, none⟩ (.bool t469)).setCell ⟨gb475, 3, none⟩ (.bool t470)).setCell ⟨gb475, 4, none⟩ (.bool t471)) w.heap.size (fun k_ => some k_ ≠ (.slice Ao11 t454.length co11 : Value).ownBlock ∧ some k_ ≠ (v464 : Value).ownBlock) v473 t472) := ⟨by (with_reducible repeat (first | apply Kd.R_alloc | apply Kd.R_drewN | apply Kd.R_drew)); exact Kd.R_mono (Kd.R_far (p := ⟨gb475, 4, none⟩) (Kd.R_far (p := ⟨gb475, 3, none⟩) (Kd.R_far (p := ⟨gb475, 2, none⟩) (Kd.R_far (p := ⟨gb475, 1, none⟩) (Kd.R_far (p := ⟨gb475, 0, none⟩) (Kd.R_types HO474.out BK475.out (by decide)) (fun _ hk => hk.2) (.int .i64 t467)) (fun _ hk => hk.2) (.int .i64 t468)) (fun _ hk => hk.2) (.bool t469)) (fun _ hk => hk.2) (.bool t470)) (fun _ hk => hk.2) (.bool t471)) (fun _ hk => ⟨hk.1.1.2, hk.1.2⟩)⟩
    have n3_ : Aside0 ((((((w18.setCell ⟨gb475, 0, none⟩ (.int .i64 t467)).setCell ⟨gb475, 1, none⟩ (.int .i64 t468)).setCell ⟨gb475, 2, none⟩ (.bool t469)).setCell ⟨gb475, 3, none⟩ (.bool t470)).setCell ⟨gb475, 4, none⟩ (.bool t471)).heap[gb457]? = some (.cells #[.int .i64 t449, .int .i64 t450, .bool t451, .bool t452, .bool t453] 24 (0, 0))) := ⟨by refine pq ?_; refine blk_far ?_ NB457_475.out _; refine pq ?_; refine blk_far ?_ NB457_475.out _; refine pq ?_; refine blk_far ?_ NB457_475.out _; refine pq ?_; refine blk_far ?_ NB457_475.out _; refine pq ?_; refine blk_far ?_ NB457_475.out _; refine pq ?_; exact BK457.out⟩
    have n4_ : Aside0 ((((((w18.setCell ⟨gb475, 0, none⟩ (.int .i64 t467)).setCell ⟨gb475, 1, none⟩ (.int .i64 t468)).setCell ⟨gb475, 2, none⟩ (.bool t469)).setCell ⟨gb475, 3, none⟩ (.bool t470)).setCell ⟨gb475, 4, none⟩ (.bool t471)).heap[gb466]? = some (.cells #[.int .i64 t458, .int .i64 t459, .bool t460, .bool t461, .bool t462] 24 (0, 0))) := ⟨by refine pq ?_; refine blk_far ?_ NB466_475.out _; refine pq ?_; refine blk_far ?_ NB466_475.out _; refine pq ?_; refine blk_far ?_ NB466_475.out _; refine pq ?_; refine blk_far ?_ NB466_475.out _; refine pq ?_; refine blk_far ?_ NB466_475.out _; refine pq ?_; exact BK466.out⟩
    have n5_ : Aside0 ((((((w18.setCell ⟨gb475, 0, none⟩ (.int .i64 t467)).setCell ⟨gb475, 1, none⟩ (.int .i64 t468)).setCell ⟨gb475, 2, none⟩ (.bool t469)).setCell ⟨gb475, 3, none⟩ (.bool t470)).setCell ⟨gb475, 4, none⟩ (.bool t471)).heap[gb475]? = some (.cells #[.int .i64 t467, .int .i64 t468, .bool t469, .bool t470, .bool t471] 24 (0, 0))) := ⟨by refine pq ?_; refine blk_put (cs := #[.int .i64 t467, .int .i64 t468, .bool t469, .bool t470, .bool false]) ?_ 4 _ rfl; refine pq ?_; refine blk_put (cs := #[.int .i64 t467, .int .i64 t468, .bool t469, .bool false, .bool false]) ?_ 3 _ rfl; refine pq ?_; refine blk_put (cs := #[.int .i64 t467, .int .i64 t468, .bool false, .bool false, .bool false]) ?_ 2 _ rfl; refine pq ?_; refine blk_put (cs := #[.int .i64 t467, .int .i64 0, .bool false, .bool false, .bool false]) ?_ 1 _ rfl; refine pq ?_; refine blk_put (cs := #[.int .i64 0, .int .i64 0, .bool false, .bool false, .bool false]) ?_ 0 _ rfl; refine pq ?_; exact BK475.out⟩
    have n6_ : Aside0 (Below w.heap.size w (((((w18.setCell ⟨gb475, 0, none⟩ (.int .i64 t467)).setCell ⟨gb475, 1, none⟩ (.int .i64 t468)).setCell ⟨gb475, 2, none⟩ (.bool t469)).setCell ⟨gb475, 3, none⟩ (.bool t470)).setCell ⟨gb475, 4, none⟩ (.bool t471))) := ⟨zb⟩
    (try clear HO456)
    (try clear HO465)
    (try clear HO474)
    (try clear BK457)
    (try clear BK466)
    (try clear BK475)
    (try clear HB)
    generalize (((((w18.setCell ⟨gb475, 0, none⟩ (.int .i64 t467)).setCell ⟨gb475, 1, none⟩ (.int .i64 t468)).setCell ⟨gb475, 2, none⟩ (.bool t469)).setCell ⟨gb475, 3, none⟩ (.bool t470)).setCell ⟨gb475, 4, none⟩ (.bool t471)) = w23 at n0_ n1_ n2_ n3_ n4_ n5_ n6_ ⊢
    have HO456 := n0_
    have HO465 := n1_
    have HO474 := n2_
    have BK457 := n3_
    have BK466 := n4_
    have BK475 := n5_
    have HB := n6_
    clear n0_ n1_ n2_ n3_ n4_ n5_ n6_
    have n0_ := aM (Kd.R_drew HO456.out)
    have n1_ := aM (Kd.R_drew HO465.out)
    have n2_ := aM (Kd.R_drew HO474.out)
    have n3_ := aM (blk_drew BK457.out)
    have n4_ := aM (blk_drew BK466.out)
    have n5_ := aM (blk_drew BK475.out)
    have n6_ := aM (below_drew1 HB.out)
    clear HO456
    clear HO465
    clear HO474
    clear BK457
    clear BK466
    clear BK475
    clear HB
    have HO456 := n0_
    have HO465 := n1_
    have HO474 := n2_
    have BK457 := n3_
    have BK466 := n4_
    have BK475 := n5_
    have HB := n6_
    clear n0_ n1_ n2_ n3_ n4_ n5_ n6_
    refine start_ (n := 16) (S := fun w' => w'.cell? ⟨gb466, 0, none⟩ = some (.int .i64 t458) ∧ w'.cell? ⟨gb466, 1, none⟩ = some (.int .i64 t459) ∧ w'.cell? ⟨gb466, 2, none⟩ = some (.bool t460) ∧ w'.cell? ⟨gb466, 3, none⟩ = some (.bool t461) ∧ w'.cell? ⟨gb466, 4, none⟩ = some (.bool t462) ∧ w'.cell? ⟨gb475, 0, none⟩ = some (.int .i64 t467) ∧ w'.cell? ⟨gb475, 1, none⟩ = some (.int .i64 t468) ∧ w'.cell? ⟨gb475, 2, none⟩ = some (.bool t469) ∧ w'.cell? ⟨gb475, 3, none⟩ = some (.bool t470) ∧ w'.cell? ⟨gb475, 4, none⟩ = some (.bool t471)) (ds := []) #[false, false, false, false, false, false, false, false, false, false, false, false, false, false, false, false] (by kernel_rfl) rfl rfl ⟨(blk_cell BK466.out 0).trans rfl, (blk_cell BK466.out 1).trans rfl, (blk_cell BK466.out 2).trans rfl, (blk_cell BK466.out 3).trans rfl, (blk_cell BK466.out 4).trans rfl, (blk_cell BK475.out 0).trans rfl, (blk_cell BK475.out 1).trans rfl, (blk_cell BK475.out 2).trans rfl, (blk_cell BK475.out 3).trans rfl, (blk_cell BK475.out 4).trans rfl⟩ (fun hHeld => ?_); refine with_tabW laws_FnDoors.tab6 laws_FnDoors.bits6 (fun HT_ HW_ => ?_)
    generalize w23.drew = w24 at HO456 HO465 HO474 BK457 BK466 BK475 HB hHeld ⊢
    refine take_ (i := 0) (N := some 33) (v := ?_) (a' := ?_) #[true, false, false, false, false, false, false, false, false, false, false, false, false, false, false, false] rfl rfl (take_ofW HT_.out HW_.out (by kernel_rfl)) (fun _ _ _ h => h) (Or.inl ⟨by rfl, ?_⟩) hHeld ?_ ?_
    rotate_left
    ·rintro w' ⟨s0, s1, s2, s3, s4, s5, s6, s7, s8, s9⟩
     go_simp
     with_reducible rfl
    rotate_left
    ·simp only [Act.put, List.setIfInBounds_toArray, List.set_cons_zero, List.set_cons_succ, i64_w, i32_w]
     rfl
    refine take_ (i := 1) (N := some 34) (v := ?_) (a' := ?_) #[true, true, false, false, false, false, false, false, false, false, false, false, false, false, false, false] rfl rfl (take_ofW HT_.out HW_.out (by kernel_rfl)) (fun _ _ _ h => h) (Or.inl ⟨by rfl, ?_⟩) hHeld ?_ ?_
    rotate_left
    ·rintro w' ⟨s0, s1, s2, s3, s4, s5, s6, s7, s8, s9⟩
     go_simp
     with_reducible rfl
    rotate_left
    ·simp only [Act.put, List.setIfInBounds_toArray, List.set_cons_zero, List.set_cons_succ, i64_w, i32_w]
     rfl
    refine pure_ (i := 2) (N := some 35) (v := ?_) (a' := ?_) #[true, true, true, false, false, false, false, false, false, false, false, false, false, false, false, false] rfl rfl (any_of HT_.out (by kernel_rfl)) (fun _ _ _ h => h) (Or.inl ⟨by rfl, ?_⟩) ?_ ?_
    rotate_left
    ·intro w'
     go_simp
     with_reducible rfl
    rotate_left
    ·simp only [Act.put, List.setIfInBounds_toArray, List.set_cons_zero, List.set_cons_succ, i64_w, i32_w]
     rfl
    refine pure_ (i := 3) (N := some 36) (v := ?_) (a' := ?_) #[true, true, true, true, false, false, false, false, false, false, false, false, false, false, false, false] rfl rfl (any_of HT_.out (by kernel_rfl)) (fun _ _ _ h => h) (Or.inl ⟨by rfl, ?_⟩) ?_ ?_
    rotate_left
    ·intro w'
     go_simp
     with_reducible rfl
    rotate_left
    ·simp only [Act.put, List.setIfInBounds_toArray, List.set_cons_zero, List.set_cons_succ, i64_w, i32_w]
     rfl
    refine pure_ (i := 4) (N := some 37) (v := undef) (a' := ?_) #[true, true, true, true, true, false, false, false, false, false, false, false, false, false, false, false] rfl rfl (any_of HT_.out (by kernel_rfl)) (fun _ _ _ h => h) (Or.inr ⟨by rfl, rfl⟩) ?_ ?_
    rotate_left
    ·simp only [Act.put, List.setIfInBounds_toArray, List.set_cons_zero, List.set_cons_succ, i64_w, i32_w]
     rfl
    refine pure_ (i := 5) (N := some 38) (v := undef) (a' := ?_) #[true, true, true, true, true, true, false, false, false, false, false, false, false, false, false, false] rfl rfl (any_of HT_.out (by kernel_rfl)) (fun _ _ _ h => h) (Or.inr ⟨by rfl, rfl⟩) ?_ ?_
    rotate_left
    ·simp only [Act.put, List.setIfInBounds_toArray, List.set_cons_zero, List.set_cons_succ, i64_w, i32_w]
     rfl
    refine pure_ (i := 6) (N := some 39) (v := undef) (a' := ?_) #[true, true, true, true, true, true, true, false, false, false, false, false, false, false, false, false] rfl rfl (any_of HT_.out (by kernel_rfl)) (fun _ _ _ h => h) (Or.inr ⟨by rfl, rfl⟩) ?_ ?_
    rotate_left
    ·simp only [Act.put, List.setIfInBounds_toArray, List.set_cons_zero, List.set_cons_succ, i64_w, i32_w]
     rfl
    refine pure_ (i := 7) (N := some 40) (v := undef) (a' := ?_) #[true, true, true, true, true, true, true, true, false, false, false, false, false, false, false, false] rfl rfl (any_of HT_.out (by kernel_rfl)) (fun _ _ _ h => h) (Or.inr ⟨by rfl, rfl⟩) ?_ ?_
    rotate_left
    ·simp only [Act.put, List.setIfInBounds_toArray, List.set_cons_zero, List.set_cons_succ, i64_w, i32_w]
     rfl
    refine pure_ (i := 8) (N := some 41) (v := ?_) (a' := ?_) #[true, true, true, true, true, true, true, true, true, false, false, false, false, false, false, false] rfl rfl (any_of HT_.out (by kernel_rfl)) (fun _ _ _ h => h) (Or.inl ⟨by rfl, ?_⟩) ?_ ?_
    rotate_left
    ·intro w'
     go_simp
     with_reducible rfl
    rotate_left
    ·simp only [Act.put, List.setIfInBounds_toArray, List.set_cons_zero, List.set_cons_succ, i64_w, i32_w]
     rfl
    refine pure_ (i := 9) (N := some 42) (v := ?_) (a' := ?_) #[true, true, true, true, true, true, true, true, true, true, false, false, false, false, false, false] rfl rfl (any_of HT_.out (by kernel_rfl)) (fun _ _ _ h => h) (Or.inl ⟨by rfl, ?_⟩) ?_ ?_
    rotate_left
    ·intro w'
     go_simp
     with_reducible rfl
    rotate_left
    ·simp only [Act.put, List.setIfInBounds_toArray, List.set_cons_zero, List.set_cons_succ, i64_w, i32_w]
     rfl
    refine pure_ (i := 10) (N := some 43) (v := undef) (a' := ?_) #[true, true, true, true, true, true, true, true, true, true, true, false, false, false, false, false] rfl rfl (any_of HT_.out (by kernel_rfl)) (fun _ _ _ h => h) (Or.inr ⟨by rfl, rfl⟩) ?_ ?_
    rotate_left
    ·simp only [Act.put, List.setIfInBounds_toArray, List.set_cons_zero, List.set_cons_succ, i64_w, i32_w]
     rfl
    refine pure_ (i := 11) (N := some 44) (v := undef) (a' := ?_) #[true, true, true, true, true, true, true, true, true, true, true, true, false, false, false, false] rfl rfl (any_of HT_.out (by kernel_rfl)) (fun _ _ _ h => h) (Or.inr ⟨by rfl, rfl⟩) ?_ ?_
    rotate_left
    ·simp only [Act.put, List.setIfInBounds_toArray, List.set_cons_zero, List.set_cons_succ, i64_w, i32_w]
     rfl
    refine pure_ (i := 12) (N := some 45) (v := undef) (a' := ?_) #[true, true, true, true, true, true, true, true, true, true, true, true, true, false, false, false] rfl rfl (any_of HT_.out (by kernel_rfl)) (fun _ _ _ h => h) (Or.inr ⟨by rfl, rfl⟩) ?_ ?_
    rotate_left
    ·simp only [Act.put, List.setIfInBounds_toArray, List.set_cons_zero, List.set_cons_succ, i64_w, i32_w]
     rfl
    refine pure_ (i := 13) (N := some 46) (v := undef) (a' := ?_) #[true, true, true, true, true, true, true, true, true, true, true, true, true, true, false, false] rfl rfl (any_of HT_.out (by kernel_rfl)) (fun _ _ _ h => h) (Or.inr ⟨by rfl, rfl⟩) ?_ ?_
    rotate_left
    ·simp only [Act.put, List.setIfInBounds_toArray, List.set_cons_zero, List.set_cons_succ, i64_w, i32_w]
     rfl
    refine pure_ (i := 14) (N := some 47) (v := undef) (a' := ?_) #[true, true, true, true, true, true, true, true, true, true, true, true, true, true, true, false] rfl rfl (any_of HT_.out (by kernel_rfl)) (fun _ _ _ h => h) (Or.inr ⟨by rfl, rfl⟩) ?_ ?_
    rotate_left
    ·simp only [Act.put, List.setIfInBounds_toArray, List.set_cons_zero, List.set_cons_succ, i64_w, i32_w]
     rfl
    refine pure_ (i := 15) (N := some 48) (v := ?_) (a' := ?_) #[true, true, true, true, true, true, true, true, true, true, true, true, true, true, true, true] rfl rfl (any_of HT_.out (by kernel_rfl)) (fun _ _ _ h => h) (Or.inl ⟨by rfl, ?_⟩) ?_ ?_
    rotate_left
    ·intro w'
     go_simp
     with_reducible rfl
    rotate_left
    ·simp only [Act.put, List.setIfInBounds_toArray, List.set_cons_zero, List.set_cons_succ, i64_w, i32_w]
     rfl
    refine done_ (done_of HT_.out (by kernel_rfl)) ?_
    try go_wp2
    go_meet
    case rel => exact ⟨_, (true), zs, H', ⟨by first | omega | exact Nat.le_refl _⟩, ⟨by (with_reducible repeat (first | apply Kd.R_alloc | apply Kd.R_drewN | apply Kd.R_drew)); exact Kd.R_mono HO456.out (fun _ hk => hk.1)⟩, ⟨by (with_reducible repeat (first | apply Kd.R_alloc | apply Kd.R_drewN | apply Kd.R_drew)); exact Kd.R_mono HO465.out (fun _ hk => hk.1)⟩, ⟨by exact pk BK457.out⟩, ⟨by exact pk BK466.out⟩, ⟨by exact pk BK475.out⟩, ⟨zb⟩⟩
   ·rw [if_neg c22] at H
    have c22b0 : (!(t458 == t467) || (!(t459 == t468) || (!(t460 == t469) || (!(t461 == t470) || (!(t462 == t471)))))) = false := by simpa using c22
    clear c22
    (first | rw [c22b0] | (simp only [i64_w, i32_w]; rw [c22b0]) | skip)
    replace H := Option.bind_eq_some_iff.mp H
    obtain ⟨t476, A250, H⟩ := H
    replace H : (if t476 = true then ((impl_DoorOk.f k t449 t450 t451 t452 t453).bind fun t477 => ((spec_DoorOk.f k t449 t450 t451 t452 t453).bind fun t478 => (laws_FnDoors.j0 k t454 t463 (t477 != t478) t449 t450 t451 t452 t453 t458 t459 t460 t461 t462))) else (laws_FnDoors.j0 k t454 t463 true t449 t450 t451 t452 t453 t458 t459 t460 t461 t462)) = some r := H
    have A25 := aM A250
    clear A250
    by_cases c26 : t476 = true
    ·subst c26
     have H1 : ((impl_DoorOk.f k t449 t450 t451 t452 t453).bind fun t477 => ((spec_DoorOk.f k t449 t450 t451 t452 t453).bind fun t478 => (laws_FnDoors.j0 k t454 t463 (t477 != t478) t449 t450 t451 t452 t453 t458 t459 t460 t461 t462))) = some r := by rw [if_pos rfl] at H; exact H
     clear H
     have H := H1
     clear H1
     replace H := Option.bind_eq_some_iff.mp H
     obtain ⟨t477, A270, H⟩ := H
     replace H : ((spec_DoorOk.f k t449 t450 t451 t452 t453).bind fun t478 => (laws_FnDoors.j0 k t454 t463 (t477 != t478) t449 t450 t451 t452 t453 t458 t459 t460 t461 t462)) = some r := H
     have A27 := aM A270
     clear A270
     replace H := Option.bind_eq_some_iff.mp H
     obtain ⟨t478, A280, H⟩ := H
     replace H : (laws_FnDoors.j0 k t454 t463 (t477 != t478) t449 t450 t451 t452 t453 t458 t459 t460 t461 t462) = some r := H
     have A28 := aM A280
     clear A280
     have H' := aM H
     clear H
     try go_wp2
     have n0_ : Aside0 (Kd.R (Kd.int .i64) 3 (((((w18.setCell ⟨gb475, 0, none⟩ (.int .i64 t467)).setCell ⟨gb475, 1, none⟩ (.int .i64 t468)).setCell ⟨gb475, 2, none⟩ (.bool t469)).setCell ⟨gb475, 3, none⟩ (.bool t470)).setCell ⟨gb475, 4, none⟩ (.bool t471)) w.heap.size (fun k_ => some k_ ≠ (v464 : Value).ownBlock ∧ some k_ ≠ (v473 : Value).ownBlock) (.slice Ao11 t454.length co11) t454) := ⟨by (with_reducible repeat (first | apply Kd.R_alloc | apply Kd.R_drewN | apply Kd.R_drew)); exact Kd.R_mono (Kd.R_far (p := ⟨gb475, 4, none⟩) (Kd.R_far (p := ⟨gb475, 3, none⟩) (Kd.R_far (p := ⟨gb475, 2, none⟩) (Kd.R_far (p := ⟨gb475, 1, none⟩) (Kd.R_far (p := ⟨gb475, 0, none⟩) (Kd.R_types HO456.out BK475.out (by decide)) (fun _ hk => hk.2) (.int .i64 t467)) (fun _ hk => hk.2) (.int .i64 t468)) (fun _ hk => hk.2) (.bool t469)) (fun _ hk => hk.2) (.bool t470)) (fun _ hk => hk.2) (.bool t471)) (fun _ hk => ⟨hk.1.1.2, hk.1.2⟩)⟩
     have n1_ : Aside0 (Kd.R (Kd.int .i64) 3 (((((w18.setCell ⟨gb475, 0, none⟩ (.int .i64 t467)).setCell ⟨gb475, 1, none⟩ (.int .i64 t468)).setCell ⟨gb475, 2, none⟩ (.bool t469)).setCell ⟨gb475, 3, none⟩ (.bool t470)).setCell ⟨gb475, 4, none⟩ (.bool t471)) w.heap.size (fun k_ => some k_ ≠ (.slice Ao11 t454.length co11 : Value).ownBlock ∧ some k_ ≠ (v473 : Value).ownBlock) v464 t463) := ⟨by (with_reducible repeat (first | apply Kd.R_alloc | apply Kd.R_drewN | apply Kd.R_drew)); exact Kd.R_mono (Kd.R_far (p := ⟨gb475, 4, none⟩) (Kd.R_far (p := ⟨gb475, 3, none⟩) (Kd.R_far (p := ⟨gb475, 2, none⟩) (Kd.R_far (p := ⟨gb475, 1, none⟩) (Kd.R_far (p := ⟨gb475, 0, none⟩) (Kd.R_types HO465.out BK475.out (by decide)) (fun _ hk => hk.2) (.int .i64 t467)) (fun _ hk => hk.2) (.int .i64 t468)) (fun _ hk => hk.2) (.bool t469)) (fun _ hk => hk.2) (.bool t470)) (fun _ hk => hk.2) (.bool t471)) (fun _ hk => ⟨hk.1.1.2, hk.1.2⟩)⟩
     have n2_ : Aside0 (Kd.R (Kd.int .i64) 3 (((((w18.setCell ⟨gb475, 0, none⟩ (.int .i64 t467)).setCell ⟨gb475, 1, none⟩ (.int .i64 t468)).setCell ⟨gb475, 2, none⟩ (.bool t469)).setCell ⟨gb475, 3, none⟩ (.bool t470)).setCell ⟨gb475, 4, none⟩ (.bool t471)) w.heap.size (fun k_ => some k_ ≠ (.slice Ao11 t454.length co11 : Value).ownBlock ∧ some k_ ≠ (v464 : Value).ownBlock) v473 t472) := ⟨by (with_reducible repeat (first | apply Kd.R_alloc | apply Kd.R_drewN | apply Kd.R_drew)); exact Kd.R_mono (Kd.R_far (p := ⟨gb475, 4, none⟩) (Kd.R_far (p := ⟨gb475, 3, none⟩) (Kd.R_far (p := ⟨gb475, 2, none⟩) (Kd.R_far (p := ⟨gb475, 1, none⟩) (Kd.R_far (p := ⟨gb475, 0, none⟩) (Kd.R_types HO474.out BK475.out (by decide)) (fun _ hk => hk.2) (.int .i64 t467)) (fun _ hk => hk.2) (.int .i64 t468)) (fun _ hk => hk.2) (.bool t469)) (fun _ hk => hk.2) (.bool t470)) (fun _ hk => hk.2) (.bool t471)) (fun _ hk => ⟨hk.1.1.2, hk.1.2⟩)⟩
     have n3_ : Aside0 ((((((w18.setCell ⟨gb475, 0, none⟩ (.int .i64 t467)).setCell ⟨gb475, 1, none⟩ (.int .i64 t468)).setCell ⟨gb475, 2, none⟩ (.bool t469)).setCell ⟨gb475, 3, none⟩ (.bool t470)).setCell ⟨gb475, 4, none⟩ (.bool t471)).heap[gb457]? = some (.cells #[.int .i64 t449, .int .i64 t450, .bool t451, .bool t452, .bool t453] 24 (0, 0))) := ⟨by refine pq ?_; refine blk_far ?_ NB457_475.out _; refine pq ?_; refine blk_far ?_ NB457_475.out _; refine pq ?_; refine blk_far ?_ NB457_475.out _; refine pq ?_; refine blk_far ?_ NB457_475.out _; refine pq ?_; refine blk_far ?_ NB457_475.out _; refine pq ?_; exact BK457.out⟩
     have n4_ : Aside0 ((((((w18.setCell ⟨gb475, 0, none⟩ (.int .i64 t467)).setCell ⟨gb475, 1, none⟩ (.int .i64 t468)).setCell ⟨gb475, 2, none⟩ (.bool t469)).setCell ⟨gb475, 3, none⟩ (.bool t470)).setCell ⟨gb475, 4, none⟩ (.bool t471)).heap[gb466]? = some (.cells #[.int .i64 t458, .int .i64 t459, .bool t460, .bool t461, .bool t462] 24 (0, 0))) := ⟨by refine pq ?_; refine blk_far ?_ NB466_475.out _; refine pq ?_; refine blk_far ?_ NB466_475.out _; refine pq ?_; refine blk_far ?_ NB466_475.out _; refine pq ?_; refine blk_far ?_ NB466_475.out _; refine pq ?_; refine blk_far ?_ NB466_475.out _; refine pq ?_; exact BK466.out⟩
     have n5_ : Aside0 ((((((w18.setCell ⟨gb475, 0, none⟩ (.int .i64 t467)).setCell ⟨gb475, 1, none⟩ (.int .i64 t468)).setCell ⟨gb475, 2, none⟩ (.bool t469)).setCell ⟨gb475, 3, none⟩ (.bool t470)).setCell ⟨gb475, 4, none⟩ (.bool t471)).heap[gb475]? = some (.cells #[.int .i64 t467, .int .i64 t468, .bool t469, .bool t470, .bool t471] 24 (0, 0))) := ⟨by refine pq ?_; refine blk_put (cs := #[.int .i64 t467, .int .i64 t468, .bool t469, .bool t470, .bool false]) ?_ 4 _ rfl; refine pq ?_; refine blk_put (cs := #[.int .i64 t467, .int .i64 t468, .bool t469, .bool false, .bool false]) ?_ 3 _ rfl; refine pq ?_; refine blk_put (cs := #[.int .i64 t467, .int .i64 t468, .bool false, .bool false, .bool false]) ?_ 2 _ rfl; refine pq ?_; refine blk_put (cs := #[.int .i64 t467, .int .i64 0, .bool false, .bool false, .bool false]) ?_ 1 _ rfl; refine pq ?_; refine blk_put (cs := #[.int .i64 0, .int .i64 0, .bool false, .bool false, .bool false]) ?_ 0 _ rfl; refine pq ?_; exact BK475.out⟩
     have n6_ : Aside0 (Below w.heap.size w (((((w18.setCell ⟨gb475, 0, none⟩ (.int .i64 t467)).setCell ⟨gb475, 1, none⟩ (.int .i64 t468)).setCell ⟨gb475, 2, none⟩ (.bool t469)).setCell ⟨gb475, 3, none⟩ (.bool t470)).setCell ⟨gb475, 4, none⟩ (.bool t471))) := ⟨zb⟩
     (try clear HO456)
     (try clear HO465)
     (try clear HO474)
     (try clear BK457)
     (try clear BK466)
     (try clear BK475)
     (try clear HB)
     generalize (((((w18.setCell ⟨gb475, 0, none⟩ (.int .i64 t467)).setCell ⟨gb475, 1, none⟩ (.int .i64 t468)).setCell ⟨gb475, 2, none⟩ (.bool t469)).setCell ⟨gb475, 3, none⟩ (.bool t470)).setCell ⟨gb475, 4, none⟩ (.bool t471)) = w29 at n0_ n1_ n2_ n3_ n4_ n5_ n6_ ⊢
     have HO456 := n0_
     have HO465 := n1_
     have HO474 := n2_
     have BK457 := n3_
     have BK466 := n4_
     have BK475 := n5_
     have HB := n6_
     clear n0_ n1_ n2_ n3_ n4_ n5_ n6_
     have n0_ := aM (Kd.R_drew HO456.out)
     have n1_ := aM (Kd.R_drew HO465.out)
     have n2_ := aM (Kd.R_drew HO474.out)
     have n3_ := aM (blk_drew BK457.out)
     have n4_ := aM (blk_drew BK466.out)
     have n5_ := aM (blk_drew BK475.out)
     have n6_ := aM (below_drew1 HB.out)
     clear HO456
     clear HO465
     clear HO474
     clear BK457
     clear BK466
     clear BK475
     clear HB
     have HO456 := n0_
     have HO465 := n1_
     have HO474 := n2_
     have BK457 := n3_
     have BK466 := n4_
     have BK475 := n5_
     have HB := n6_
     clear n0_ n1_ n2_ n3_ n4_ n5_ n6_
     obtain ⟨Ao31, co31, eo31⟩ := Kd.R_slice HO465.out
     (first | subst eo31 | (injection eo31 with f1_ f2_ f3_; have f4_ := f1_.symm; have f5_ := f3_.symm; clear f1_ f2_ f3_; subst f4_; subst f5_))
     obtain ⟨Ao32, co32, eo32⟩ := Kd.R_slice HO474.out
     (first | subst eo32 | (injection eo32 with f1_ f2_ f3_; have f4_ := f1_.symm; have f5_ := f3_.symm; clear f1_ f2_ f3_; subst f4_; subst f5_))
     refine start_ (n := 16) (S := fun w' => w'.cell? ⟨gb466, 0, none⟩ = some (.int .i64 t458) ∧ w'.cell? ⟨gb466, 1, none⟩ = some (.int .i64 t459) ∧ w'.cell? ⟨gb466, 2, none⟩ = some (.bool t460) ∧ w'.cell? ⟨gb466, 3, none⟩ = some (.bool t461) ∧ w'.cell? ⟨gb466, 4, none⟩ = some (.bool t462) ∧ w'.cell? ⟨gb475, 0, none⟩ = some (.int .i64 t467) ∧ w'.cell? ⟨gb475, 1, none⟩ = some (.int .i64 t468) ∧ w'.cell? ⟨gb475, 2, none⟩ = some (.bool t469) ∧ w'.cell? ⟨gb475, 3, none⟩ = some (.bool t470) ∧ w'.cell? ⟨gb475, 4, none⟩ = some (.bool t471) ∧ w'.cell? ⟨gb457, 0, none⟩ = some (.int .i64 t449) ∧ w'.cell? ⟨gb457, 1, none⟩ = some (.int .i64 t450) ∧ w'.cell? ⟨gb457, 2, none⟩ = some (.bool t451) ∧ w'.cell? ⟨gb457, 3, none⟩ = some (.bool t452) ∧ w'.cell? ⟨gb457, 4, none⟩ = some (.bool t453)) (ds := []) #[false, false, false, false, false, false, false, false, false, false, false, false, false, false, false, false] (by kernel_rfl) rfl rfl ⟨(blk_cell BK466.out 0).trans rfl, (blk_cell BK466.out 1).trans rfl, (blk_cell BK466.out 2).trans rfl, (blk_cell BK466.out 3).trans rfl, (blk_cell BK466.out 4).trans rfl, (blk_cell BK475.out 0).trans rfl, (blk_cell BK475.out 1).trans rfl, (blk_cell BK475.out 2).trans rfl, (blk_cell BK475.out 3).trans rfl, (blk_cell BK475.out 4).trans rfl, (blk_cell BK457.out 0).trans rfl, (blk_cell BK457.out 1).trans rfl, (blk_cell BK457.out 2).trans rfl, (blk_cell BK457.out 3).trans rfl, (blk_cell BK457.out 4).trans rfl⟩ (fun hHeld => ?_); refine with_tabW laws_FnDoors.tab6 laws_FnDoors.bits6 (fun HT_ HW_ => ?_)
     generalize w29.drew = w30 at HO456 HO465 HO474 BK457 BK466 BK475 HB hHeld ⊢
     refine take_ (i := 0) (N := some 33) (v := ?_) (a' := ?_) #[true, false, false, false, false, false, false, false, false, false, false, false, false, false, false, false] rfl rfl (take_ofW HT_.out HW_.out (by kernel_rfl)) (fun _ _ _ h => h) (Or.inl ⟨by rfl, ?_⟩) hHeld ?_ ?_
     rotate_left
     ·rintro w' ⟨s0, s1, s2, s3, s4, s5, s6, s7, s8, s9, s10, s11, s12, s13, s14⟩
      go_simp
      with_reducible rfl
     rotate_left
     ·simp only [Act.put, List.setIfInBounds_toArray, List.set_cons_zero, List.set_cons_succ, i64_w, i32_w]
      rfl
     refine take_ (i := 1) (N := some 34) (v := ?_) (a' := ?_) #[true, true, false, false, false, false, false, false, false, false, false, false, false, false, false, false] rfl rfl (take_ofW HT_.out HW_.out (by kernel_rfl)) (fun _ _ _ h => h) (Or.inl ⟨by rfl, ?_⟩) hHeld ?_ ?_
     rotate_left
     ·rintro w' ⟨s0, s1, s2, s3, s4, s5, s6, s7, s8, s9, s10, s11, s12, s13, s14⟩
      go_simp
      with_reducible rfl
     rotate_left
     ·simp only [Act.put, List.setIfInBounds_toArray, List.set_cons_zero, List.set_cons_succ, i64_w, i32_w]
      rfl
     refine pure_ (i := 2) (N := some 35) (v := ?_) (a' := ?_) #[true, true, true, false, false, false, false, false, false, false, false, false, false, false, false, false] rfl rfl (any_of HT_.out (by kernel_rfl)) (fun _ _ _ h => h) (Or.inl ⟨by rfl, ?_⟩) ?_ ?_
     rotate_left
     ·intro w'
      go_simp
      with_reducible rfl
     rotate_left
     ·simp only [Act.put, List.setIfInBounds_toArray, List.set_cons_zero, List.set_cons_succ, i64_w, i32_w]
      rfl
     refine pure_ (i := 3) (N := some 36) (v := ?_) (a' := ?_) #[true, true, true, true, false, false, false, false, false, false, false, false, false, false, false, false] rfl rfl (any_of HT_.out (by kernel_rfl)) (fun _ _ _ h => h) (Or.inl ⟨by rfl, ?_⟩) ?_ ?_
     rotate_left
     ·intro w'
      go_simp
      with_reducible rfl
     rotate_left
     ·simp only [Act.put, List.setIfInBounds_toArray, List.set_cons_zero, List.set_cons_succ, i64_w, i32_w]
      rfl
     refine pure_ (i := 4) (N := some 37) (v := ?_) (a' := ?_) #[true, true, true, true, true, false, false, false, false, false, false, false, false, false, false, false] rfl rfl (any_of HT_.out (by kernel_rfl)) (fun _ _ _ h => h) (Or.inl ⟨by rfl, ?_⟩) ?_ ?_
     rotate_left
     ·intro w'
      go_simp
      with_reducible rfl
     rotate_left
     ·simp only [Act.put, List.setIfInBounds_toArray, List.set_cons_zero, List.set_cons_succ, i64_w, i32_w]
      rfl
     refine pure_ (i := 5) (N := some 38) (v := ?_) (a' := ?_) #[true, true, true, true, true, true, false, false, false, false, false, false, false, false, false, false] rfl rfl (any_of HT_.out (by kernel_rfl)) (fun _ _ _ h => h) (Or.inl ⟨by rfl, ?_⟩) ?_ ?_
     rotate_left
     ·intro w'
      go_simp
      with_reducible rfl
     rotate_left
     ·simp only [Act.put, List.setIfInBounds_toArray, List.set_cons_zero, List.set_cons_succ, i64_w, i32_w]
      rfl
     refine one_ (i := 6) (N := some 39) #[true, true, true, true, true, true, true, false, false, false, false, false, false, false, false, false] rfl rfl (one_of HT_.out (by kernel_rfl)) (by decide) (fun K hK => ?_)
     refine goes_ Try.func50 (by kernel_rfl) rfl #[.slice Ao31 t463.length co31, .slice Ao32 t472.length co32] (by rfl) rfl rfl za ?_
     with_reducible refine (laws_sameInts.calls k _ _ t463 _ _ t472 true _ ?side1 ?side2 ?side3 ?side4 A25.out).mono ?_
     (case side1 => repeat (first | exact (Kd.R_reads' HO465.out).2.2 | (with_reducible refine Kd.C_alloc ?_ _) | (with_reducible refine Kd.C_drewN ?_ _) | (with_reducible refine Kd.C_drew ?_)))
     (case side2 => exact (Kd.R_reads' HO465.out).2.1)
     (case side3 => repeat (first | exact (Kd.R_reads' HO474.out).2.2 | (with_reducible refine Kd.C_alloc ?_ _) | (with_reducible refine Kd.C_drewN ?_ _) | (with_reducible refine Kd.C_drew ?_)))
     (case side4 => exact (Kd.R_reads' HO474.out).2.1)
     rintro e w' ⟨rfl, ⟨nd, rfl⟩⟩
     refine ⟨_, rfl, ?_⟩
     refine hK.out _ _ ⟨(blk_cell BK466.out 0).trans rfl, (blk_cell BK466.out 1).trans rfl, (blk_cell BK466.out 2).trans rfl, (blk_cell BK466.out 3).trans rfl, (blk_cell BK466.out 4).trans rfl, (blk_cell BK475.out 0).trans rfl, (blk_cell BK475.out 1).trans rfl, (blk_cell BK475.out 2).trans rfl, (blk_cell BK475.out 3).trans rfl, (blk_cell BK475.out 4).trans rfl, (blk_cell BK457.out 0).trans rfl, (blk_cell BK457.out 1).trans rfl, (blk_cell BK457.out 2).trans rfl, (blk_cell BK457.out 3).trans rfl, (blk_cell BK457.out 4).trans rfl⟩ (fun hHeld => ?_)
     clear hK K
     refine norm_ (a' := ?_) ?_ ?_
     rotate_left
     ·show Act.put _ (some 39) _ = _
      simp only [Act.put, List.setIfInBounds_toArray, List.set_cons_zero, List.set_cons_succ, i64_w, i32_w]
      rfl
     refine pure_ (i := 7) (N := some 40) (v := ?_) (a' := ?_) #[true, true, true, true, true, true, true, true, false, false, false, false, false, false, false, false] rfl rfl (any_of HT_.out (by kernel_rfl)) (fun _ _ _ h => h) (Or.inl ⟨by rfl, ?_⟩) ?_ ?_
     rotate_left
     ·intro w'
      go_simp
      with_reducible rfl
     rotate_left
     ·simp only [Act.put, List.setIfInBounds_toArray, List.set_cons_zero, List.set_cons_succ, i64_w, i32_w]
      rfl
     refine pure_ (i := 8) (N := some 41) (v := ?_) (a' := ?_) #[true, true, true, true, true, true, true, true, true, false, false, false, false, false, false, false] rfl rfl (any_of HT_.out (by kernel_rfl)) (fun _ _ _ h => h) (Or.inl ⟨by rfl, ?_⟩) ?_ ?_
     rotate_left
     ·intro w'
      go_simp
      with_reducible rfl
     rotate_left
     ·simp only [Act.put, List.setIfInBounds_toArray, List.set_cons_zero, List.set_cons_succ, i64_w, i32_w]
      rfl
     refine pure_ (i := 9) (N := some 42) (v := ?_) (a' := ?_) #[true, true, true, true, true, true, true, true, true, true, false, false, false, false, false, false] rfl rfl (any_of HT_.out (by kernel_rfl)) (fun _ _ _ h => h) (Or.inl ⟨by rfl, ?_⟩) ?_ ?_
     rotate_left
     ·intro w'
      go_simp
      with_reducible rfl
     rotate_left
     ·simp only [Act.put, List.setIfInBounds_toArray, List.set_cons_zero, List.set_cons_succ, i64_w, i32_w]
      rfl
     refine take_ (i := 10) (N := some 43) (v := ?_) (a' := ?_) #[true, true, true, true, true, true, true, true, true, true, true, false, false, false, false, false] rfl rfl (take_ofW HT_.out HW_.out (by kernel_rfl)) (fun _ _ _ h => h) (Or.inl ⟨by rfl, ?_⟩) hHeld ?_ ?_
     rotate_left
     ·rintro w' ⟨s0, s1, s2, s3, s4, s5, s6, s7, s8, s9, s10, s11, s12, s13, s14⟩
      go_simp
      with_reducible rfl
     rotate_left
     ·simp only [Act.put, List.setIfInBounds_toArray, List.set_cons_zero, List.set_cons_succ, i64_w, i32_w]
      rfl
     refine take_ (i := 12) (N := some 45) (v := ?_) (a' := ?_) #[true, true, true, true, true, true, true, true, true, true, true, false, true, false, false, false] rfl rfl (take_ofW HT_.out HW_.out (by kernel_rfl)) (fun _ _ _ h => h) (Or.inl ⟨by rfl, ?_⟩) hHeld ?_ ?_
     rotate_left
     ·rintro w' ⟨s0, s1, s2, s3, s4, s5, s6, s7, s8, s9, s10, s11, s12, s13, s14⟩
      go_simp
      with_reducible rfl
     rotate_left
     ·simp only [Act.put, List.setIfInBounds_toArray, List.set_cons_zero, List.set_cons_succ, i64_w, i32_w]
      rfl
     refine one_ (i := 11) (N := some 44) #[true, true, true, true, true, true, true, true, true, true, true, true, true, false, false, false] rfl rfl (one_of HT_.out (by kernel_rfl)) (by decide) (fun K hK => ?_)
     refine goes_ Try.func30 (by kernel_rfl) rfl #[.agg #[.int .i64 t449, .int .i64 t450, .bool t451, .bool t452, .bool t453]] (by rfl) rfl rfl za ?_
     with_reducible refine (impl_DoorOk.calls k t449 t450 t451 t452 t453 t477 _ A27.out).mono ?_
     rintro e w33 ⟨rfl, hb⟩
     refine ⟨_, rfl, ?_⟩
     have n0_ := aM (Kd.R_below (by (with_reducible repeat (first | apply Kd.R_alloc | apply Kd.R_drewN | apply Kd.R_drew)); exact HO456.out) hb)
     have n1_ := aM (Kd.R_below (by (with_reducible repeat (first | apply Kd.R_alloc | apply Kd.R_drewN | apply Kd.R_drew)); exact HO465.out) hb)
     have n2_ := aM (Kd.R_below (by (with_reducible repeat (first | apply Kd.R_alloc | apply Kd.R_drewN | apply Kd.R_drew)); exact HO474.out) hb)
     have n3_ := aM (bb BK457.out hb)
     have n4_ := aM (bb BK466.out hb)
     have n5_ := aM (bb BK475.out hb)
     have n6_ := aM (below_step (zb) hb)
     clear HO456
     clear HO465
     clear HO474
     clear BK457
     clear BK466
     clear BK475
     clear HB
     have HO456 := n0_
     have HO465 := n1_
     have HO474 := n2_
     have BK457 := n3_
     have BK466 := n4_
     have BK475 := n5_
     have HB := n6_
     clear n0_ n1_ n2_ n3_ n4_ n5_ n6_
     (try clear hb)
     (try clear hb2)
     (try clear hk)
     (try clear hi)
     refine hK.out _ _ ⟨(blk_cell BK466.out 0).trans rfl, (blk_cell BK466.out 1).trans rfl, (blk_cell BK466.out 2).trans rfl, (blk_cell BK466.out 3).trans rfl, (blk_cell BK466.out 4).trans rfl, (blk_cell BK475.out 0).trans rfl, (blk_cell BK475.out 1).trans rfl, (blk_cell BK475.out 2).trans rfl, (blk_cell BK475.out 3).trans rfl, (blk_cell BK475.out 4).trans rfl, (blk_cell BK457.out 0).trans rfl, (blk_cell BK457.out 1).trans rfl, (blk_cell BK457.out 2).trans rfl, (blk_cell BK457.out 3).trans rfl, (blk_cell BK457.out 4).trans rfl⟩ (fun hHeld => ?_)
     clear hK K
     refine norm_ (a' := ?_) ?_ ?_
     rotate_left
     ·show Act.put _ (some 44) _ = _
      simp only [Act.put, List.setIfInBounds_toArray, List.set_cons_zero, List.set_cons_succ, i64_w, i32_w]
      rfl
     refine one_ (i := 13) (N := some 46) #[true, true, true, true, true, true, true, true, true, true, true, true, true, true, false, false] rfl rfl (one_of HT_.out (by kernel_rfl)) (by decide) (fun K hK => ?_)
     refine goes_ Try.func51 (by kernel_rfl) rfl #[.agg #[.int .i64 t449, .int .i64 t450, .bool t451, .bool t452, .bool t453]] (by rfl) rfl rfl za ?_
     with_reducible refine (spec_DoorOk.calls k t449 t450 t451 t452 t453 t478 _ A28.out).mono ?_
     rintro e w34 ⟨rfl, hb⟩
     refine ⟨_, rfl, ?_⟩
     have n0_ := aM (Kd.R_below (by (with_reducible repeat (first | apply Kd.R_alloc | apply Kd.R_drewN | apply Kd.R_drew)); exact HO456.out) hb)
     have n1_ := aM (Kd.R_below (by (with_reducible repeat (first | apply Kd.R_alloc | apply Kd.R_drewN | apply Kd.R_drew)); exact HO465.out) hb)
     have n2_ := aM (Kd.R_below (by (with_reducible repeat (first | apply Kd.R_alloc | apply Kd.R_drewN | apply Kd.R_drew)); exact HO474.out) hb)
     have n3_ := aM (bb BK457.out hb)
     have n4_ := aM (bb BK466.out hb)
     have n5_ := aM (bb BK475.out hb)
     have n6_ := aM (below_step (zb) hb)
     clear HO456
     clear HO465
     clear HO474
     clear BK457
     clear BK466
     clear BK475
     clear HB
     have HO456 := n0_
     have HO465 := n1_
     have HO474 := n2_
     have BK457 := n3_
     have BK466 := n4_
     have BK475 := n5_
     have HB := n6_
     clear n0_ n1_ n2_ n3_ n4_ n5_ n6_
     (try clear hb)
     (try clear hb2)
     (try clear hk)
     (try clear hi)
     refine hK.out _ _ ⟨(blk_cell BK466.out 0).trans rfl, (blk_cell BK466.out 1).trans rfl, (blk_cell BK466.out 2).trans rfl, (blk_cell BK466.out 3).trans rfl, (blk_cell BK466.out 4).trans rfl, (blk_cell BK475.out 0).trans rfl, (blk_cell BK475.out 1).trans rfl, (blk_cell BK475.out 2).trans rfl, (blk_cell BK475.out 3).trans rfl, (blk_cell BK475.out 4).trans rfl, (blk_cell BK457.out 0).trans rfl, (blk_cell BK457.out 1).trans rfl, (blk_cell BK457.out 2).trans rfl, (blk_cell BK457.out 3).trans rfl, (blk_cell BK457.out 4).trans rfl⟩ (fun hHeld => ?_)
     clear hK K
     refine norm_ (a' := ?_) ?_ ?_
     rotate_left
     ·show Act.put _ (some 46) _ = _
      simp only [Act.put, List.setIfInBounds_toArray, List.set_cons_zero, List.set_cons_succ, i64_w, i32_w]
      rfl
     refine pure_ (i := 14) (N := some 47) (v := ?_) (a' := ?_) #[true, true, true, true, true, true, true, true, true, true, true, true, true, true, true, false] rfl rfl (any_of HT_.out (by kernel_rfl)) (fun _ _ _ h => h) (Or.inl ⟨by rfl, ?_⟩) ?_ ?_
     rotate_left
     ·intro w'
      go_simp
      with_reducible rfl
     rotate_left
     ·simp only [Act.put, List.setIfInBounds_toArray, List.set_cons_zero, List.set_cons_succ, i64_w, i32_w]
      rfl
     refine pure_ (i := 15) (N := some 48) (v := ?_) (a' := ?_) #[true, true, true, true, true, true, true, true, true, true, true, true, true, true, true, true] rfl rfl (any_of HT_.out (by kernel_rfl)) (fun _ _ _ h => h) (Or.inl ⟨by rfl, ?_⟩) ?_ ?_
     rotate_left
     ·intro w'
      go_simp
      with_reducible rfl
     rotate_left
     ·simp only [Act.put, List.setIfInBounds_toArray, List.set_cons_zero, List.set_cons_succ, i64_w, i32_w]
      rfl
     refine done_ (done_of HT_.out (by kernel_rfl)) ?_
     try go_wp2
     go_meet
     case rel => exact ⟨_, ((t477 != t478)), zs, H', ⟨by first | omega | exact Nat.le_refl _⟩, ⟨by (with_reducible repeat (first | apply Kd.R_alloc | apply Kd.R_drewN | apply Kd.R_drew)); exact Kd.R_mono HO456.out (fun _ hk => hk.1)⟩, ⟨by (with_reducible repeat (first | apply Kd.R_alloc | apply Kd.R_drewN | apply Kd.R_drew)); exact Kd.R_mono HO465.out (fun _ hk => hk.1)⟩, ⟨by exact pk BK457.out⟩, ⟨by exact pk BK466.out⟩, ⟨by exact pk BK475.out⟩, ⟨zb⟩⟩
    ·replace c26 := Bool.eq_false_iff.mpr c26
     subst c26
     have H1 : (laws_FnDoors.j0 k t454 t463 true t449 t450 t451 t452 t453 t458 t459 t460 t461 t462) = some r := by rw [if_neg (show ¬ (false = true) by decide)] at H; exact H
     clear H
     have H := H1
     clear H1
     have H' := aM H
     clear H
     try go_wp2
     have n0_ : Aside0 (Kd.R (Kd.int .i64) 3 (((((w18.setCell ⟨gb475, 0, none⟩ (.int .i64 t467)).setCell ⟨gb475, 1, none⟩ (.int .i64 t468)).setCell ⟨gb475, 2, none⟩ (.bool t469)).setCell ⟨gb475, 3, none⟩ (.bool t470)).setCell ⟨gb475, 4, none⟩ (.bool t471)) w.heap.size (fun k_ => some k_ ≠ (v464 : Value).ownBlock ∧ some k_ ≠ (v473 : Value).ownBlock) (.slice Ao11 t454.length co11) t454) := ⟨by (with_reducible repeat (first | apply Kd.R_alloc | apply Kd.R_drewN | apply Kd.R_drew)); exact Kd.R_mono (Kd.R_far (p := ⟨gb475, 4, none⟩) (Kd.R_far (p := ⟨gb475, 3, none⟩) (Kd.R_far (p := ⟨gb475, 2, none⟩) (Kd.R_far (p := ⟨gb475, 1, none⟩) (Kd.R_far (p := ⟨gb475, 0, none⟩) (Kd.R_types HO456.out BK475.out (by decide)) (fun _ hk => hk.2) (.int .i64 t467)) (fun _ hk => hk.2) (.int .i64 t468)) (fun _ hk => hk.2) (.bool t469)) (fun _ hk => hk.2) (.bool t470)) (fun _ hk => hk.2) (.bool t471)) (fun _ hk => ⟨hk.1.1.2, hk.1.2⟩)⟩
     have n1_ : Aside0 (Kd.R (Kd.int .i64) 3 (((((w18.setCell ⟨gb475, 0, none⟩ (.int .i64 t467)).setCell ⟨gb475, 1, none⟩ (.int .i64 t468)).setCell ⟨gb475, 2, none⟩ (.bool t469)).setCell ⟨gb475, 3, none⟩ (.bool t470)).setCell ⟨gb475, 4, none⟩ (.bool t471)) w.heap.size (fun k_ => some k_ ≠ (.slice Ao11 t454.length co11 : Value).ownBlock ∧ some k_ ≠ (v473 : Value).ownBlock) v464 t463) := ⟨by (with_reducible repeat (first | apply Kd.R_alloc | apply Kd.R_drewN | apply Kd.R_drew)); exact Kd.R_mono (Kd.R_far (p := ⟨gb475, 4, none⟩) (Kd.R_far (p := ⟨gb475, 3, none⟩) (Kd.R_far (p := ⟨gb475, 2, none⟩) (Kd.R_far (p := ⟨gb475, 1, none⟩) (Kd.R_far (p := ⟨gb475, 0, none⟩) (Kd.R_types HO465.out BK475.out (by decide)) (fun _ hk => hk.2) (.int .i64 t467)) (fun _ hk => hk.2) (.int .i64 t468)) (fun _ hk => hk.2) (.bool t469)) (fun _ hk => hk.2) (.bool t470)) (fun _ hk => hk.2) (.bool t471)) (fun _ hk => ⟨hk.1.1.2, hk.1.2⟩)⟩
     have n2_ : Aside0 (Kd.R (Kd.int .i64) 3 (((((w18.setCell ⟨gb475, 0, none⟩ (.int .i64 t467)).setCell ⟨gb475, 1, none⟩ (.int .i64 t468)).setCell ⟨gb475, 2, none⟩ (.bool t469)).setCell ⟨gb475, 3, none⟩ (.bool t470)).setCell ⟨gb475, 4, none⟩ (.bool t471)) w.heap.size (fun k_ => some k_ ≠ (.slice Ao11 t454.length co11 : Value).ownBlock ∧ some k_ ≠ (v464 : Value).ownBlock) v473 t472) := ⟨by (with_reducible repeat (first | apply Kd.R_alloc | apply Kd.R_drewN | apply Kd.R_drew)); exact Kd.R_mono (Kd.R_far (p := ⟨gb475, 4, none⟩) (Kd.R_far (p := ⟨gb475, 3, none⟩) (Kd.R_far (p := ⟨gb475, 2, none⟩) (Kd.R_far (p := ⟨gb475, 1, none⟩) (Kd.R_far (p := ⟨gb475, 0, none⟩) (Kd.R_types HO474.out BK475.out (by decide)) (fun _ hk => hk.2) (.int .i64 t467)) (fun _ hk => hk.2) (.int .i64 t468)) (fun _ hk => hk.2) (.bool t469)) (fun _ hk => hk.2) (.bool t470)) (fun _ hk => hk.2) (.bool t471)) (fun _ hk => ⟨hk.1.1.2, hk.1.2⟩)⟩
     have n3_ : Aside0 ((((((w18.setCell ⟨gb475, 0, none⟩ (.int .i64 t467)).setCell ⟨gb475, 1, none⟩ (.int .i64 t468)).setCell ⟨gb475, 2, none⟩ (.bool t469)).setCell ⟨gb475, 3, none⟩ (.bool t470)).setCell ⟨gb475, 4, none⟩ (.bool t471)).heap[gb457]? = some (.cells #[.int .i64 t449, .int .i64 t450, .bool t451, .bool t452, .bool t453] 24 (0, 0))) := ⟨by refine pq ?_; refine blk_far ?_ NB457_475.out _; refine pq ?_; refine blk_far ?_ NB457_475.out _; refine pq ?_; refine blk_far ?_ NB457_475.out _; refine pq ?_; refine blk_far ?_ NB457_475.out _; refine pq ?_; refine blk_far ?_ NB457_475.out _; refine pq ?_; exact BK457.out⟩
     have n4_ : Aside0 ((((((w18.setCell ⟨gb475, 0, none⟩ (.int .i64 t467)).setCell ⟨gb475, 1, none⟩ (.int .i64 t468)).setCell ⟨gb475, 2, none⟩ (.bool t469)).setCell ⟨gb475, 3, none⟩ (.bool t470)).setCell ⟨gb475, 4, none⟩ (.bool t471)).heap[gb466]? = some (.cells #[.int .i64 t458, .int .i64 t459, .bool t460, .bool t461, .bool t462] 24 (0, 0))) := ⟨by refine pq ?_; refine blk_far ?_ NB466_475.out _; refine pq ?_; refine blk_far ?_ NB466_475.out _; refine pq ?_; refine blk_far ?_ NB466_475.out _; refine pq ?_; refine blk_far ?_ NB466_475.out _; refine pq ?_; refine blk_far ?_ NB466_475.out _; refine pq ?_; exact BK466.out⟩
     have n5_ : Aside0 ((((((w18.setCell ⟨gb475, 0, none⟩ (.int .i64 t467)).setCell ⟨gb475, 1, none⟩ (.int .i64 t468)).setCell ⟨gb475, 2, none⟩ (.bool t469)).setCell ⟨gb475, 3, none⟩ (.bool t470)).setCell ⟨gb475, 4, none⟩ (.bool t471)).heap[gb475]? = some (.cells #[.int .i64 t467, .int .i64 t468, .bool t469, .bool t470, .bool t471] 24 (0, 0))) := ⟨by refine pq ?_; refine blk_put (cs := #[.int .i64 t467, .int .i64 t468, .bool t469, .bool t470, .bool false]) ?_ 4 _ rfl; refine pq ?_; refine blk_put (cs := #[.int .i64 t467, .int .i64 t468, .bool t469, .bool false, .bool false]) ?_ 3 _ rfl; refine pq ?_; refine blk_put (cs := #[.int .i64 t467, .int .i64 t468, .bool false, .bool false, .bool false]) ?_ 2 _ rfl; refine pq ?_; refine blk_put (cs := #[.int .i64 t467, .int .i64 0, .bool false, .bool false, .bool false]) ?_ 1 _ rfl; refine pq ?_; refine blk_put (cs := #[.int .i64 0, .int .i64 0, .bool false, .bool false, .bool false]) ?_ 0 _ rfl; refine pq ?_; exact BK475.out⟩
     have n6_ : Aside0 (Below w.heap.size w (((((w18.setCell ⟨gb475, 0, none⟩ (.int .i64 t467)).setCell ⟨gb475, 1, none⟩ (.int .i64 t468)).setCell ⟨gb475, 2, none⟩ (.bool t469)).setCell ⟨gb475, 3, none⟩ (.bool t470)).setCell ⟨gb475, 4, none⟩ (.bool t471))) := ⟨zb⟩
     (try clear HO456)
     (try clear HO465)
     (try clear HO474)
     (try clear BK457)
     (try clear BK466)
     (try clear BK475)
     (try clear HB)
     generalize (((((w18.setCell ⟨gb475, 0, none⟩ (.int .i64 t467)).setCell ⟨gb475, 1, none⟩ (.int .i64 t468)).setCell ⟨gb475, 2, none⟩ (.bool t469)).setCell ⟨gb475, 3, none⟩ (.bool t470)).setCell ⟨gb475, 4, none⟩ (.bool t471)) = w35 at n0_ n1_ n2_ n3_ n4_ n5_ n6_ ⊢
     have HO456 := n0_
     have HO465 := n1_
     have HO474 := n2_
     have BK457 := n3_
     have BK466 := n4_
     have BK475 := n5_
     have HB := n6_
     clear n0_ n1_ n2_ n3_ n4_ n5_ n6_
     have n0_ := aM (Kd.R_drew HO456.out)
     have n1_ := aM (Kd.R_drew HO465.out)
     have n2_ := aM (Kd.R_drew HO474.out)
     have n3_ := aM (blk_drew BK457.out)
     have n4_ := aM (blk_drew BK466.out)
     have n5_ := aM (blk_drew BK475.out)
     have n6_ := aM (below_drew1 HB.out)
     clear HO456
     clear HO465
     clear HO474
     clear BK457
     clear BK466
     clear BK475
     clear HB
     have HO456 := n0_
     have HO465 := n1_
     have HO474 := n2_
     have BK457 := n3_
     have BK466 := n4_
     have BK475 := n5_
     have HB := n6_
     clear n0_ n1_ n2_ n3_ n4_ n5_ n6_
     obtain ⟨Ao37, co37, eo37⟩ := Kd.R_slice HO465.out
     (first | subst eo37 | (injection eo37 with f1_ f2_ f3_; have f4_ := f1_.symm; have f5_ := f3_.symm; clear f1_ f2_ f3_; subst f4_; subst f5_))
     obtain ⟨Ao38, co38, eo38⟩ := Kd.R_slice HO474.out
     (first | subst eo38 | (injection eo38 with f1_ f2_ f3_; have f4_ := f1_.symm; have f5_ := f3_.symm; clear f1_ f2_ f3_; subst f4_; subst f5_))
     refine start_ (n := 16) (S := fun w' => w'.cell? ⟨gb466, 0, none⟩ = some (.int .i64 t458) ∧ w'.cell? ⟨gb466, 1, none⟩ = some (.int .i64 t459) ∧ w'.cell? ⟨gb466, 2, none⟩ = some (.bool t460) ∧ w'.cell? ⟨gb466, 3, none⟩ = some (.bool t461) ∧ w'.cell? ⟨gb466, 4, none⟩ = some (.bool t462) ∧ w'.cell? ⟨gb475, 0, none⟩ = some (.int .i64 t467) ∧ w'.cell? ⟨gb475, 1, none⟩ = some (.int .i64 t468) ∧ w'.cell? ⟨gb475, 2, none⟩ = some (.bool t469) ∧ w'.cell? ⟨gb475, 3, none⟩ = some (.bool t470) ∧ w'.cell? ⟨gb475, 4, none⟩ = some (.bool t471)) (ds := []) #[false, false, false, false, false, false, false, false, false, false, false, false, false, false, false, false] (by kernel_rfl) rfl rfl ⟨(blk_cell BK466.out 0).trans rfl, (blk_cell BK466.out 1).trans rfl, (blk_cell BK466.out 2).trans rfl, (blk_cell BK466.out 3).trans rfl, (blk_cell BK466.out 4).trans rfl, (blk_cell BK475.out 0).trans rfl, (blk_cell BK475.out 1).trans rfl, (blk_cell BK475.out 2).trans rfl, (blk_cell BK475.out 3).trans rfl, (blk_cell BK475.out 4).trans rfl⟩ (fun hHeld => ?_); refine with_tabW laws_FnDoors.tab6 laws_FnDoors.bits6 (fun HT_ HW_ => ?_)
     generalize w35.drew = w36 at HO456 HO465 HO474 BK457 BK466 BK475 HB hHeld ⊢
     refine take_ (i := 0) (N := some 33) (v := ?_) (a' := ?_) #[true, false, false, false, false, false, false, false, false, false, false, false, false, false, false, false] rfl rfl (take_ofW HT_.out HW_.out (by kernel_rfl)) (fun _ _ _ h => h) (Or.inl ⟨by rfl, ?_⟩) hHeld ?_ ?_
     rotate_left
     ·rintro w' ⟨s0, s1, s2, s3, s4, s5, s6, s7, s8, s9⟩
      go_simp
      with_reducible rfl
     rotate_left
     ·simp only [Act.put, List.setIfInBounds_toArray, List.set_cons_zero, List.set_cons_succ, i64_w, i32_w]
      rfl
     refine take_ (i := 1) (N := some 34) (v := ?_) (a' := ?_) #[true, true, false, false, false, false, false, false, false, false, false, false, false, false, false, false] rfl rfl (take_ofW HT_.out HW_.out (by kernel_rfl)) (fun _ _ _ h => h) (Or.inl ⟨by rfl, ?_⟩) hHeld ?_ ?_
     rotate_left
     ·rintro w' ⟨s0, s1, s2, s3, s4, s5, s6, s7, s8, s9⟩
      go_simp
      with_reducible rfl
     rotate_left
     ·simp only [Act.put, List.setIfInBounds_toArray, List.set_cons_zero, List.set_cons_succ, i64_w, i32_w]
      rfl
     refine pure_ (i := 2) (N := some 35) (v := ?_) (a' := ?_) #[true, true, true, false, false, false, false, false, false, false, false, false, false, false, false, false] rfl rfl (any_of HT_.out (by kernel_rfl)) (fun _ _ _ h => h) (Or.inl ⟨by rfl, ?_⟩) ?_ ?_
     rotate_left
     ·intro w'
      go_simp
      with_reducible rfl
     rotate_left
     ·simp only [Act.put, List.setIfInBounds_toArray, List.set_cons_zero, List.set_cons_succ, i64_w, i32_w]
      rfl
     refine pure_ (i := 3) (N := some 36) (v := ?_) (a' := ?_) #[true, true, true, true, false, false, false, false, false, false, false, false, false, false, false, false] rfl rfl (any_of HT_.out (by kernel_rfl)) (fun _ _ _ h => h) (Or.inl ⟨by rfl, ?_⟩) ?_ ?_
     rotate_left
     ·intro w'
      go_simp
      with_reducible rfl
     rotate_left
     ·simp only [Act.put, List.setIfInBounds_toArray, List.set_cons_zero, List.set_cons_succ, i64_w, i32_w]
      rfl
     refine pure_ (i := 4) (N := some 37) (v := ?_) (a' := ?_) #[true, true, true, true, true, false, false, false, false, false, false, false, false, false, false, false] rfl rfl (any_of HT_.out (by kernel_rfl)) (fun _ _ _ h => h) (Or.inl ⟨by rfl, ?_⟩) ?_ ?_
     rotate_left
     ·intro w'
      go_simp
      with_reducible rfl
     rotate_left
     ·simp only [Act.put, List.setIfInBounds_toArray, List.set_cons_zero, List.set_cons_succ, i64_w, i32_w]
      rfl
     refine pure_ (i := 5) (N := some 38) (v := ?_) (a' := ?_) #[true, true, true, true, true, true, false, false, false, false, false, false, false, false, false, false] rfl rfl (any_of HT_.out (by kernel_rfl)) (fun _ _ _ h => h) (Or.inl ⟨by rfl, ?_⟩) ?_ ?_
     rotate_left
     ·intro w'
      go_simp
      with_reducible rfl
     rotate_left
     ·simp only [Act.put, List.setIfInBounds_toArray, List.set_cons_zero, List.set_cons_succ, i64_w, i32_w]
      rfl
     refine one_ (i := 6) (N := some 39) #[true, true, true, true, true, true, true, false, false, false, false, false, false, false, false, false] rfl rfl (one_of HT_.out (by kernel_rfl)) (by decide) (fun K hK => ?_)
     refine goes_ Try.func50 (by kernel_rfl) rfl #[.slice Ao37 t463.length co37, .slice Ao38 t472.length co38] (by rfl) rfl rfl za ?_
     with_reducible refine (laws_sameInts.calls k _ _ t463 _ _ t472 false _ ?side1 ?side2 ?side3 ?side4 A25.out).mono ?_
     (case side1 => repeat (first | exact (Kd.R_reads' HO465.out).2.2 | (with_reducible refine Kd.C_alloc ?_ _) | (with_reducible refine Kd.C_drewN ?_ _) | (with_reducible refine Kd.C_drew ?_)))
     (case side2 => exact (Kd.R_reads' HO465.out).2.1)
     (case side3 => repeat (first | exact (Kd.R_reads' HO474.out).2.2 | (with_reducible refine Kd.C_alloc ?_ _) | (with_reducible refine Kd.C_drewN ?_ _) | (with_reducible refine Kd.C_drew ?_)))
     (case side4 => exact (Kd.R_reads' HO474.out).2.1)
     rintro e w' ⟨rfl, ⟨nd, rfl⟩⟩
     refine ⟨_, rfl, ?_⟩
     refine hK.out _ _ ⟨(blk_cell BK466.out 0).trans rfl, (blk_cell BK466.out 1).trans rfl, (blk_cell BK466.out 2).trans rfl, (blk_cell BK466.out 3).trans rfl, (blk_cell BK466.out 4).trans rfl, (blk_cell BK475.out 0).trans rfl, (blk_cell BK475.out 1).trans rfl, (blk_cell BK475.out 2).trans rfl, (blk_cell BK475.out 3).trans rfl, (blk_cell BK475.out 4).trans rfl⟩ (fun hHeld => ?_)
     clear hK K
     refine norm_ (a' := ?_) ?_ ?_
     rotate_left
     ·show Act.put _ (some 39) _ = _
      simp only [Act.put, List.setIfInBounds_toArray, List.set_cons_zero, List.set_cons_succ, i64_w, i32_w]
      rfl
     refine pure_ (i := 7) (N := some 40) (v := ?_) (a' := ?_) #[true, true, true, true, true, true, true, true, false, false, false, false, false, false, false, false] rfl rfl (any_of HT_.out (by kernel_rfl)) (fun _ _ _ h => h) (Or.inl ⟨by rfl, ?_⟩) ?_ ?_
     rotate_left
     ·intro w'
      go_simp
      with_reducible rfl
     rotate_left
     ·simp only [Act.put, List.setIfInBounds_toArray, List.set_cons_zero, List.set_cons_succ, i64_w, i32_w]
      rfl
     refine pure_ (i := 8) (N := some 41) (v := ?_) (a' := ?_) #[true, true, true, true, true, true, true, true, true, false, false, false, false, false, false, false] rfl rfl (any_of HT_.out (by kernel_rfl)) (fun _ _ _ h => h) (Or.inl ⟨by rfl, ?_⟩) ?_ ?_
     rotate_left
     ·intro w'
      go_simp
      with_reducible rfl
     rotate_left
     ·simp only [Act.put, List.setIfInBounds_toArray, List.set_cons_zero, List.set_cons_succ, i64_w, i32_w]
      rfl
     refine pure_ (i := 9) (N := some 42) (v := ?_) (a' := ?_) #[true, true, true, true, true, true, true, true, true, true, false, false, false, false, false, false] rfl rfl (any_of HT_.out (by kernel_rfl)) (fun _ _ _ h => h) (Or.inl ⟨by rfl, ?_⟩) ?_ ?_
     rotate_left
     ·intro w'
      go_simp
      with_reducible rfl
     rotate_left
     ·simp only [Act.put, List.setIfInBounds_toArray, List.set_cons_zero, List.set_cons_succ, i64_w, i32_w]
      rfl
     refine pure_ (i := 10) (N := some 43) (v := undef) (a' := ?_) #[true, true, true, true, true, true, true, true, true, true, true, false, false, false, false, false] rfl rfl (any_of HT_.out (by kernel_rfl)) (fun _ _ _ h => h) (Or.inr ⟨by rfl, rfl⟩) ?_ ?_
     rotate_left
     ·simp only [Act.put, List.setIfInBounds_toArray, List.set_cons_zero, List.set_cons_succ, i64_w, i32_w]
      rfl
     refine pure_ (i := 11) (N := some 44) (v := undef) (a' := ?_) #[true, true, true, true, true, true, true, true, true, true, true, true, false, false, false, false] rfl rfl (any_of HT_.out (by kernel_rfl)) (fun _ _ _ h => h) (Or.inr ⟨by rfl, rfl⟩) ?_ ?_
     rotate_left
     ·simp only [Act.put, List.setIfInBounds_toArray, List.set_cons_zero, List.set_cons_succ, i64_w, i32_w]
      rfl
     refine pure_ (i := 12) (N := some 45) (v := undef) (a' := ?_) #[true, true, true, true, true, true, true, true, true, true, true, true, true, false, false, false] rfl rfl (any_of HT_.out (by kernel_rfl)) (fun _ _ _ h => h) (Or.inr ⟨by rfl, rfl⟩) ?_ ?_
     rotate_left
     ·simp only [Act.put, List.setIfInBounds_toArray, List.set_cons_zero, List.set_cons_succ, i64_w, i32_w]
      rfl
     refine pure_ (i := 13) (N := some 46) (v := undef) (a' := ?_) #[true, true, true, true, true, true, true, true, true, true, true, true, true, true, false, false] rfl rfl (any_of HT_.out (by kernel_rfl)) (fun _ _ _ h => h) (Or.inr ⟨by rfl, rfl⟩) ?_ ?_
     rotate_left
     ·simp only [Act.put, List.setIfInBounds_toArray, List.set_cons_zero, List.set_cons_succ, i64_w, i32_w]
      rfl
     refine pure_ (i := 14) (N := some 47) (v := undef) (a' := ?_) #[true, true, true, true, true, true, true, true, true, true, true, true, true, true, true, false] rfl rfl (any_of HT_.out (by kernel_rfl)) (fun _ _ _ h => h) (Or.inr ⟨by rfl, rfl⟩) ?_ ?_
     rotate_left
     ·simp only [Act.put, List.setIfInBounds_toArray, List.set_cons_zero, List.set_cons_succ, i64_w, i32_w]
      rfl
     refine pure_ (i := 15) (N := some 48) (v := ?_) (a' := ?_) #[true, true, true, true, true, true, true, true, true, true, true, true, true, true, true, true] rfl rfl (any_of HT_.out (by kernel_rfl)) (fun _ _ _ h => h) (Or.inl ⟨by rfl, ?_⟩) ?_ ?_
     rotate_left
     ·intro w'
      go_simp
      with_reducible rfl
     rotate_left
     ·simp only [Act.put, List.setIfInBounds_toArray, List.set_cons_zero, List.set_cons_succ, i64_w, i32_w]
      rfl
     refine done_ (done_of HT_.out (by kernel_rfl)) ?_
     try go_wp2
     go_meet
     case rel => exact ⟨_, (true), zs, H', ⟨by first | omega | exact Nat.le_refl _⟩, ⟨by (with_reducible repeat (first | apply Kd.R_alloc | apply Kd.R_drewN | apply Kd.R_drew)); exact Kd.R_mono HO456.out (fun _ hk => hk.1)⟩, ⟨by (with_reducible repeat (first | apply Kd.R_alloc | apply Kd.R_drewN | apply Kd.R_drew)); exact Kd.R_mono HO465.out (fun _ hk => hk.1)⟩, ⟨by exact pk BK457.out⟩, ⟨by exact pk BK466.out⟩, ⟨by exact pk BK475.out⟩, ⟨zb⟩⟩
  case rest =>
   clear HC7
   try clear c2
   try clear p2
   try clear c3
   try clear c5
   try clear c22
   try clear c22b0
   try clear c26
   try clear c30
   obtain ⟨kq, x48_6, rfl, HA, HJ6, HO_4, HO_6, BK457, BK466, BK475, HB⟩ := hcut
   cases kq with
   | zero => exact absurd HA.out (by simp [laws_FnDoors.j0])
   | succ kj6 =>
    have H := HA.out
    clear HA
    simp only [laws_FnDoors.j0] at H
    by_cases c39 : x48_6 = true
    ·subst c39
     have H1 : (none) = some r := by rw [if_pos rfl] at H; exact H
     clear H
     have H := H1
     clear H1
     exact absurd H (by simp)
    ·replace c39 := Bool.eq_false_iff.mpr c39
     subst c39
     have H1 : ((spec_DoorOk.f kj6 t449 t450 t451 t452 t453).bind fun t479 => (if t479 = true then (laws_FnDoors.j1 kj6 t454 t463 (decide ((t454.length : Int) > 200)) t449 t450 t451 t452 t453 t458 t459 t460 t461 t462) else (laws_FnDoors.j1 kj6 t454 t463 true t449 t450 t451 t452 t453 t458 t459 t460 t461 t462))) = some r := by rw [if_neg (show ¬ (false = true) by decide)] at H; exact H
     clear H
     have H := H1
     clear H1
     have HC40 := aM H
     clear H
     go_upto_region 8 with (fail)
     go_cut [56] (fun v56 wc => ∃ (kq : Nat) (x56_39 : Bool), v56 = .bool x56_39 ∧ Aside0 (laws_FnDoors.j1 kq t454 t463 x56_39 t449 t450 t451 t452 t453 t458 t459 t460 t461 t462 = some r) ∧ Aside0 (kq ≤ kj6) ∧ Aside0 (Kd.R (Kd.int .i64) 3 wc w.heap.size (fun k_ => some k_ ≠ (v464 : Value).ownBlock) (.slice Ao11 t454.length co11) t454) ∧ Aside0 (Kd.R (Kd.int .i64) 3 wc w.heap.size (fun k_ => some k_ ≠ ((.slice Ao11 t454.length co11) : Value).ownBlock) v464 t463) ∧ Aside0 (wc.heap[gb457]? = some (.cells #[.int .i64 t449, .int .i64 t450, .bool t451, .bool t452, .bool t453] 24 (0, 0))) ∧ Aside0 (wc.heap[gb466]? = some (.cells #[.int .i64 t458, .int .i64 t459, .bool t460, .bool t461, .bool t462] 24 (0, 0))) ∧ Aside0 (wc.heap[gb475]? = some (.cells #[.int .i64 t467, .int .i64 t468, .bool t469, .bool t470, .bool t471] 24 (0, 0))) ∧ Aside0 (Below w.heap.size w wc))
     case first =>
      have H := HC40.out
      clear HC40
      replace H := Option.bind_eq_some_iff.mp H
      obtain ⟨t479, A410, H⟩ := H
      replace H : (if t479 = true then (laws_FnDoors.j1 kj6 t454 t463 (decide ((t454.length : Int) > 200)) t449 t450 t451 t452 t453 t458 t459 t460 t461 t462) else (laws_FnDoors.j1 kj6 t454 t463 true t449 t450 t451 t452 t453 t458 t459 t460 t461 t462)) = some r := H
      have A41 := aM A410
      clear A410
      by_cases c42 : t479 = true
      ·subst c42
       have H1 : (laws_FnDoors.j1 kj6 t454 t463 (decide ((t454.length : Int) > 200)) t449 t450 t451 t452 t453 t458 t459 t460 t461 t462) = some r := by rw [if_pos rfl] at H; exact H
       clear H
       have H := H1
       clear H1
       have H' := aM H
       clear H
       have hnb43 := NB457_466.out
       have hnc43 := NB466_457.out
       have hnb44 := NB457_475.out
       have hnc44 := NB475_457.out
       obtain ⟨hcz45_0, hcz45_1, hcz45_2, hcz45_3, hcz45_4, hfz45_0, hfz45_1, hfz45_2, hfz45_3, hfz45_4⟩ := cells5 BK457.out
       go_wp2_with (first | ((with_reducible refine gate_callee (f := 51) rfl ?_); refine goesL_ (some 50) rfl rfl Try.func51 (by kernel_rfl) rfl #[.agg #[.int .i64 t449, .int .i64 t450, .bool t451, .bool t452, .bool t453]] rfl za ?_; (with_reducible refine (spec_DoorOk.calls kj6 t449 t450 t451 t452 t453 true _ A41.out).mono ?_); rintro e w46 ⟨rfl, hb⟩; refine ⟨_, rfl, ?_⟩; have n0_ := aM (Kd.R_below (by (with_reducible repeat (first | apply Kd.R_alloc | apply Kd.R_drewN | apply Kd.R_drew)); exact HO_4.out) hb); have n1_ := aM (Kd.R_below (by (with_reducible repeat (first | apply Kd.R_alloc | apply Kd.R_drewN | apply Kd.R_drew)); exact HO_6.out) hb); have n2_ := aM (bb BK457.out hb); have n3_ := aM (bb BK466.out hb); have n4_ := aM (bb BK475.out hb); have n5_ := aM (below_step (zb) hb); clear HO_4; clear HO_6; clear BK457; clear BK466; clear BK475; clear HB; have HO_4 := n0_; have HO_6 := n1_; have BK457 := n2_; have BK466 := n3_; have BK475 := n4_; have HB := n5_; clear n0_ n1_ n2_ n3_ n4_ n5_; (try clear hb); (try clear hb2); (try clear hk); (try clear hi)))
       go_meet
       case rel => exact ⟨_, (decide ((t454.length : Int) > 200)), zs, H', ⟨by have := HJ6.out; first | omega | exact Nat.le_refl _⟩, ⟨by (with_reducible repeat (first | apply Kd.R_alloc | apply Kd.R_drewN | apply Kd.R_drew)); exact HO_4.out⟩, ⟨by (with_reducible repeat (first | apply Kd.R_alloc | apply Kd.R_drewN | apply Kd.R_drew)); exact HO_6.out⟩, ⟨by exact pk BK457.out⟩, ⟨by exact pk BK466.out⟩, ⟨by exact pk BK475.out⟩, ⟨zb⟩⟩
      ·replace c42 := Bool.eq_false_iff.mpr c42
       subst c42
       have H1 : (laws_FnDoors.j1 kj6 t454 t463 true t449 t450 t451 t452 t453 t458 t459 t460 t461 t462) = some r := by rw [if_neg (show ¬ (false = true) by decide)] at H; exact H
       clear H
       have H := H1
       clear H1
       have H' := aM H
       clear H
       have hnb47 := NB457_466.out
       have hnc47 := NB466_457.out
       have hnb48 := NB457_475.out
       have hnc48 := NB475_457.out
       obtain ⟨hcz49_0, hcz49_1, hcz49_2, hcz49_3, hcz49_4, hfz49_0, hfz49_1, hfz49_2, hfz49_3, hfz49_4⟩ := cells5 BK457.out
       go_wp2_with (first | ((with_reducible refine gate_callee (f := 51) rfl ?_); refine goesL_ (some 50) rfl rfl Try.func51 (by kernel_rfl) rfl #[.agg #[.int .i64 t449, .int .i64 t450, .bool t451, .bool t452, .bool t453]] rfl za ?_; (with_reducible refine (spec_DoorOk.calls kj6 t449 t450 t451 t452 t453 false _ A41.out).mono ?_); rintro e w50 ⟨rfl, hb⟩; refine ⟨_, rfl, ?_⟩; have n0_ := aM (Kd.R_below (by (with_reducible repeat (first | apply Kd.R_alloc | apply Kd.R_drewN | apply Kd.R_drew)); exact HO_4.out) hb); have n1_ := aM (Kd.R_below (by (with_reducible repeat (first | apply Kd.R_alloc | apply Kd.R_drewN | apply Kd.R_drew)); exact HO_6.out) hb); have n2_ := aM (bb BK457.out hb); have n3_ := aM (bb BK466.out hb); have n4_ := aM (bb BK475.out hb); have n5_ := aM (below_step (zb) hb); clear HO_4; clear HO_6; clear BK457; clear BK466; clear BK475; clear HB; have HO_4 := n0_; have HO_6 := n1_; have BK457 := n2_; have BK466 := n3_; have BK475 := n4_; have HB := n5_; clear n0_ n1_ n2_ n3_ n4_ n5_; (try clear hb); (try clear hb2); (try clear hk); (try clear hi)))
       go_meet
       case rel => exact ⟨_, (true), zs, H', ⟨by have := HJ6.out; first | omega | exact Nat.le_refl _⟩, ⟨by (with_reducible repeat (first | apply Kd.R_alloc | apply Kd.R_drewN | apply Kd.R_drew)); exact HO_4.out⟩, ⟨by (with_reducible repeat (first | apply Kd.R_alloc | apply Kd.R_drewN | apply Kd.R_drew)); exact HO_6.out⟩, ⟨by exact pk BK457.out⟩, ⟨by exact pk BK466.out⟩, ⟨by exact pk BK475.out⟩, ⟨zb⟩⟩
     case rest =>
      clear HC40
      try clear c2
      try clear p2
      try clear c3
      try clear c4
      try clear c5
      try clear c22
      try clear c22b0
      try clear c26
      try clear c30
      try clear c39
      try clear c42
      try clear c43
      try clear c44
      try clear c47
      try clear c48
      try clear c50
      try clear hcz45_0 hcz45_1 hcz45_2 hcz45_3 hcz45_4 hfz45_0 hfz45_1 hfz45_2 hfz45_3 hfz45_4
      try clear hcz49_0 hcz49_1 hcz49_2 hcz49_3 hcz49_4 hfz49_0 hfz49_1 hfz49_2 hfz49_3 hfz49_4
      try clear p2
      obtain ⟨kq, x56_39, rfl, HA, HJ39, HO_4, HO_6, BK457, BK466, BK475, HB⟩ := hcut
      cases kq with
      | zero => exact absurd HA.out (by simp [laws_FnDoors.j1])
      | succ kj39 =>
       have H := HA.out
       clear HA
       simp only [laws_FnDoors.j1] at H
       by_cases c51 : x56_39 = true
       ·subst c51
        have H1 : (if (t458 == t449 && (t459 == t450 && (t460 == t451 && (t461 == t452 && (t462 == t453))))) = true then (some ((t463.length : Int) == 0)) else (none)) = some r := by rw [if_pos rfl] at H; exact H
        clear H
        have H := H1
        clear H1
        by_cases c52 : (t458 == t449 && (t459 == t450 && (t460 == t451 && (t461 == t452 && (t462 == t453))))) = true
        ·rw [if_pos c52] at H
         have c52b0 : (t458 == t449 && (t459 == t450 && (t460 == t451 && (t461 == t452 && (t462 == t453))))) = true := c52
         (try (have c52b1 : decide (t458 = t449 && (t459 == t450 && (t460 == t451 && (t461 == t452 && (t462 == t453))))) = true := by simpa using c52))
         (try (have c52b2 : (t458 == t449 && (t459 == t450 && (t460 == t451 && (t461 == t452 && (t462 == t453))))) = true := by simpa using c52))
         clear c52
         obtain rfl := Option.some.inj H
         have hnb53 := NB466_457.out
         have hnc53 := NB457_466.out
         have hnb54 := NB466_475.out
         have hnc54 := NB475_466.out
         obtain ⟨hcz55_0, hcz55_1, hcz55_2, hcz55_3, hcz55_4, hfz55_0, hfz55_1, hfz55_2, hfz55_3, hfz55_4⟩ := cells5 BK466.out
         have hnb56 := NB457_475.out
         have hnc56 := NB475_457.out
         obtain ⟨hcz57_0, hcz57_1, hcz57_2, hcz57_3, hcz57_4, hfz57_0, hfz57_1, hfz57_2, hfz57_3, hfz57_4⟩ := cells5 BK457.out
         obtain ⟨Ao58, co58, eo58⟩ := Kd.R_slice HO_6.out
         subst eo58
         go_wp2
         go_ret
         exact ⟨zr, zb⟩
        ·rw [if_neg c52] at H
         exact absurd H (by simp)
       ·replace c51 := Bool.eq_false_iff.mpr c51
        subst c51
        have H1 : (laws_FnDoors.l0 kj39 t454 0 t449 t450 t451 t452 t453) = some r := by rw [if_neg (show ¬ (false = true) by decide)] at H; exact H
        clear H
        have H := H1
        clear H1
        have H' := aM H
        clear H
        go_wp2
        go_loopg [9] kj39 (fun kq v9 w' => ∃ (x9_3 : Int) (x458000_3 : Int) (x458001_3 : Int) (x458002_3 : Bool) (x458003_3 : Bool) (x458004_3 : Bool), v9 = .int .i64 x9_3 ∧ Aside0 (laws_FnDoors.l0 kq t454 x9_3 x458000_3 x458001_3 x458002_3 x458003_3 x458004_3 = some r) ∧ Aside0 (kq ≤ kj39) ∧ Aside0 (Kd.R (Kd.int .i64) 3 w' w.heap.size (fun _ => True) (.slice Ao11 t454.length co11) t454) ∧ Aside0 (w'.heap[gb457]? = some (.cells #[.int .i64 x458000_3, .int .i64 x458001_3, .bool x458002_3, .bool x458003_3, .bool x458004_3] 24 (0, 0))) ∧ Aside0 (w'.heap[gb466]? = some (.cells #[.int .i64 t458, .int .i64 t459, .bool t460, .bool t461, .bool t462] 24 (0, 0))) ∧ Aside0 (w'.heap[gb475]? = some (.cells #[.int .i64 t467, .int .i64 t468, .bool t469, .bool t470, .bool t471] 24 (0, 0))) ∧ Aside0 (Below w.heap.size w w'))
        case atStart => exact ⟨(0), (t449), (t450), (t451), (t452), (t453), zs, H', ⟨Nat.le_refl _⟩, ⟨by (with_reducible repeat (first | apply Kd.R_alloc | apply Kd.R_drewN | apply Kd.R_drew)); exact Kd.R_mono HO_4.out (fun _ hk => trivial)⟩, ⟨by exact pk BK457.out⟩, ⟨by exact pk BK466.out⟩, ⟨by exact pk BK475.out⟩, ⟨zb⟩⟩
        case round =>
         clear H'
         try clear c2
         try clear p2
         try clear c3
         try clear c4
         try clear c5
         try clear c22
         try clear c22b0
         try clear c26
         try clear c30
         try clear c39
         try clear c42
         try clear c43
         try clear c44
         try clear c47
         try clear c48
         try clear c50
         try clear c51
         try clear c52
         try clear c52b0
         try clear c52b1
         try clear c52b2
         try clear c53
         try clear c54
         try clear c56
         try clear hcz45_0 hcz45_1 hcz45_2 hcz45_3 hcz45_4 hfz45_0 hfz45_1 hfz45_2 hfz45_3 hfz45_4
         try clear hcz49_0 hcz49_1 hcz49_2 hcz49_3 hcz49_4 hfz49_0 hfz49_1 hfz49_2 hfz49_3 hfz49_4
         try clear hcz55_0 hcz55_1 hcz55_2 hcz55_3 hcz55_4 hfz55_0 hfz55_1 hfz55_2 hfz55_3 hfz55_4
         try clear hcz57_0 hcz57_1 hcz57_2 hcz57_3 hcz57_4 hfz57_0 hfz57_1 hfz57_2 hfz57_3 hfz57_4
         try clear p2
         obtain ⟨x9_3, x458000_3, x458001_3, x458002_3, x458003_3, x458004_3, rfl, HA, HK3, HO_4, BK457, BK466, BK475, HB⟩ := hrel
         cases gk with
         | zero => exact absurd HA.out (by simp [laws_FnDoors.l0])
         | succ k3 =>
          have H := HA.out
          clear HA
          simp only [laws_FnDoors.l0] at H
          by_cases c59 : x9_3 < (t454.length : Int)
          ·rw [if_pos c59] at H
           have c59b0 : decide (x9_3 < (t454.length : Int)) = true := decide_eq_true c59
           clear c59
           by_cases c60 : 0 ≤ x9_3
           ·rw [if_pos c60] at H
            have c60b0 := eq_true c60
            have c60b1 : decide (0 ≤ x9_3) = true := decide_eq_true c60
            clear c60
            by_cases c61 : x9_3 ≤ (wrap64 (x9_3 + 1))
            ·rw [if_pos c61] at H
             have c61b0 := eq_true c61
             have c61b1 : decide (x9_3 ≤ (wrap64 (x9_3 + 1))) = true := decide_eq_true c61
             by_cases c62 : (wrap64 (x9_3 + 1)) ≤ (t454.length : Int)
             ·rw [if_pos c62] at H
              have c62b0 := eq_true c62
              have c62b1 : decide ((wrap64 (x9_3 + 1)) ≤ (t454.length : Int)) = true := decide_eq_true c62
              obtain ⟨y480, hy480⟩ : ∃ y_ : List Int, y_ = ((t454.take ((wrap64 (x9_3 + 1)) : Int).toNat).drop (x9_3 : Int).toNat) := ⟨_, rfl⟩
              replace H : ((impl_DoActs.f k3 x458000_3 x458001_3 x458002_3 x458003_3 x458004_3 y480).bind fun bt484 => ((spec_DoActs.f k3 x458000_3 x458001_3 x458002_3 x458003_3 x458004_3 ((t454.take ((wrap64 (x9_3 + 1)) : Int).toNat).drop (x9_3 : Int).toNat)).bind fun bt497 => (if (!(bt484.1 == bt497.1) || (!(bt484.2.1 == bt497.2.1) || (!(bt484.2.2.1 == bt497.2.2.1) || (!(bt484.2.2.2.1 == bt497.2.2.2.1) || (!(bt484.2.2.2.2.1 == bt497.2.2.2.2.1)))))) = true then (laws_FnDoors.j3 k3 t454 x9_3 true x458000_3 x458001_3 x458002_3 x458003_3 x458004_3 bt497.1 bt497.2.1 bt497.2.2.1 bt497.2.2.2.1 bt497.2.2.2.2.1) else ((impl_DoorOk.f k3 bt497.1 bt497.2.1 bt497.2.2.1 bt497.2.2.2.1 bt497.2.2.2.2.1).bind fun t506 => (laws_FnDoors.j3 k3 t454 x9_3 (!t506) x458000_3 x458001_3 x458002_3 x458003_3 x458004_3 bt497.1 bt497.2.1 bt497.2.2.1 bt497.2.2.2.1 bt497.2.2.2.2.1))))) = some r := by first | (rw [hy480]; with_reducible exact H) | (have H2_ := (Option.bind_some _ _).symm.trans H; rw [hy480]; with_reducible exact H2_) | (have H2_ := (Option.bind_some _ _).symm.trans H; with_reducible exact H2_) | with_reducible exact H | (rw [hy480]; exact H) | exact H
              have Ny480 := aM hy480
              clear hy480
              replace H := Option.bind_eq_some_iff.mp H
              obtain ⟨⟨t484, t485, t486, t487, t488, t489⟩, A630, H⟩ := H
              replace H : ((spec_DoActs.f k3 x458000_3 x458001_3 x458002_3 x458003_3 x458004_3 ((t454.take ((wrap64 (x9_3 + 1)) : Int).toNat).drop (x9_3 : Int).toNat)).bind fun bt497 => (if (!(t484 == bt497.1) || (!(t485 == bt497.2.1) || (!(t486 == bt497.2.2.1) || (!(t487 == bt497.2.2.2.1) || (!(t488 == bt497.2.2.2.2.1)))))) = true then (laws_FnDoors.j3 k3 t454 x9_3 true x458000_3 x458001_3 x458002_3 x458003_3 x458004_3 bt497.1 bt497.2.1 bt497.2.2.1 bt497.2.2.2.1 bt497.2.2.2.2.1) else ((impl_DoorOk.f k3 bt497.1 bt497.2.1 bt497.2.2.1 bt497.2.2.2.1 bt497.2.2.2.2.1).bind fun t506 => (laws_FnDoors.j3 k3 t454 x9_3 (!t506) x458000_3 x458001_3 x458002_3 x458003_3 x458004_3 bt497.1 bt497.2.1 bt497.2.2.1 bt497.2.2.2.1 bt497.2.2.2.2.1)))) = some r := H
              have A63 := aM A630
              clear A630
              have c64b0 := eq_true (of_decide_eq_true (by first | (with_reducible assumption) | assumption) : 0 ≤ x9_3)
              have c65b0 := eq_true (of_decide_eq_true (by first | (with_reducible assumption) | assumption) : x9_3 ≤ (wrap64 (x9_3 + 1)))
              have c66b0 := eq_true (of_decide_eq_true (by first | (with_reducible assumption) | assumption) : (wrap64 (x9_3 + 1)) ≤ (t454.length : Int))
              obtain ⟨y493, hy493⟩ : ∃ y_ : List Int, y_ = ((t454.take ((wrap64 (x9_3 + 1)) : Int).toNat).drop (x9_3 : Int).toNat) := ⟨_, rfl⟩
              replace H : ((spec_DoActs.f k3 x458000_3 x458001_3 x458002_3 x458003_3 x458004_3 y493).bind fun bt497 => (if (!(t484 == bt497.1) || (!(t485 == bt497.2.1) || (!(t486 == bt497.2.2.1) || (!(t487 == bt497.2.2.2.1) || (!(t488 == bt497.2.2.2.2.1)))))) = true then (laws_FnDoors.j3 k3 t454 x9_3 true x458000_3 x458001_3 x458002_3 x458003_3 x458004_3 bt497.1 bt497.2.1 bt497.2.2.1 bt497.2.2.2.1 bt497.2.2.2.2.1) else ((impl_DoorOk.f k3 bt497.1 bt497.2.1 bt497.2.2.1 bt497.2.2.2.1 bt497.2.2.2.2.1).bind fun t506 => (laws_FnDoors.j3 k3 t454 x9_3 (!t506) x458000_3 x458001_3 x458002_3 x458003_3 x458004_3 bt497.1 bt497.2.1 bt497.2.2.1 bt497.2.2.2.1 bt497.2.2.2.2.1)))) = some r := by first | (rw [hy493]; with_reducible exact H) | (have H2_ := (Option.bind_some _ _).symm.trans H; rw [hy493]; with_reducible exact H2_) | (have H2_ := (Option.bind_some _ _).symm.trans H; with_reducible exact H2_) | with_reducible exact H | (rw [hy493]; exact H) | exact H
              have Ny493 := aM hy493
              clear hy493
              replace H := Option.bind_eq_some_iff.mp H
              obtain ⟨⟨t497, t498, t499, t500, t501, t502⟩, A670, H⟩ := H
              replace H : (if (!(t484 == t497) || (!(t485 == t498) || (!(t486 == t499) || (!(t487 == t500) || (!(t488 == t501)))))) = true then (laws_FnDoors.j3 k3 t454 x9_3 true x458000_3 x458001_3 x458002_3 x458003_3 x458004_3 t497 t498 t499 t500 t501) else ((impl_DoorOk.f k3 t497 t498 t499 t500 t501).bind fun t506 => (laws_FnDoors.j3 k3 t454 x9_3 (!t506) x458000_3 x458001_3 x458002_3 x458003_3 x458004_3 t497 t498 t499 t500 t501))) = some r := H
              have A67 := aM A670
              clear A670
              have HC68 := aM H
              clear H
              try go_wp2
              have n0_ := aM (Kd.R_drew HO_4.out)
              have n1_ := aM (blk_drew BK457.out)
              have n2_ := aM (blk_drew BK466.out)
              have n3_ := aM (blk_drew BK475.out)
              have n4_ := aM (below_drew1 HB.out)
              clear HO_4
              clear BK457
              clear BK466
              clear BK475
              clear HB
              have HO_4 := n0_
              have BK457 := n1_
              have BK466 := n2_
              have BK475 := n3_
              have HB := n4_
              clear n0_ n1_ n2_ n3_ n4_
              have q70 : ((wrap64 (x9_3 + 1)) : Int) ≤ ((t454.length : Int) : Int) := of_decide_eq_true (by first | (with_reducible assumption) | assumption)
              obtain ⟨i070, hi070, _, hsz70, _⟩ := info_parts info3
              have hroom70 : t454.length ≤ co11 := (Kd.R_reads' HO_4.out).2.1
              have hC70 : Kd.C (Kd.int .i64) _ Ao11 t454.length t454 := (Kd.R_reads' HO_4.out).2.2
              have ql70 : (x9_3 : Int) ≤ ((wrap64 (x9_3 + 1)) : Int) := of_decide_eq_true (by first | (with_reducible assumption) | assumption)
              have q070 : (0 : Int) ≤ (x9_3 : Int) := of_decide_eq_true (by first | (with_reducible assumption) | assumption)
              have hcut70 := cut_mid (P := Try.prog) 42 3 .i64 .i64 Try.underlying42 hi070 1 hsz70 Ao11 t454.length co11 x9_3 (wrap64 (x9_3 + 1)) q070 ql70 q70 hroom70
              have hr70 := Kd.C_mid (lo := (x9_3 : Int).toNat) (hi := ((wrap64 (x9_3 + 1)) : Int).toNat) (c := co11) hC70 (by omega) (by omega) hroom70
              obtain ⟨A70, hA70⟩ : ∃ A1, A1 = (if co11 = (x9_3 : Int).toNat then Ao11 else (Ao11 : Option Addr).map (·.add ((x9_3 : Int).toNat * 1))) := ⟨_, rfl⟩
              obtain ⟨c70, hc70⟩ : ∃ c1, c1 = co11 - (x9_3 : Int).toNat := ⟨_, rfl⟩
              have hy70 : y480.length = ((wrap64 (x9_3 + 1)) : Int).toNat - (x9_3 : Int).toNat := (by rw [Ny480.out, List.length_drop, List.length_take] <;> omega)
              rw [show ((t454).take ((wrap64 (x9_3 + 1)) : Int).toNat).drop (x9_3 : Int).toNat = y480 from Ny480.out.symm] at hr70
              replace hr70 : Kd.C (Kd.int .i64) _ A70 y480.length y480 := (by rw [hA70]; exact hr70)
              rw [← hy70, ← hA70, ← hc70] at hcut70
              have HR483 := aM hr70
              have HC483 := aM (show y480.length ≤ c70 from by rw [hy70, hc70]; exact Nat.sub_le_sub_right (Nat.le_trans (by omega) hroom70) _)
              clear hr70 hC70 hroom70 hi070 hsz70 hc70
              have KY70 := aM hy70
              have KA70 := aM hA70
              clear hy70 hA70
              have KL70 := aM (show ((wrap64 (x9_3 + 1)) : Int).toNat ≤ t454.length from by omega)
              have KM70 := aM (show (x9_3 : Int).toNat ≤ ((wrap64 (x9_3 + 1)) : Int).toNat from by omega)
              replace q70 := eq_true q70
              refine start_ (n := 13) (S := fun w' => w'.cell? ⟨gb457, 0, none⟩ = some (.int .i64 x458000_3) ∧ w'.cell? ⟨gb457, 1, none⟩ = some (.int .i64 x458001_3) ∧ w'.cell? ⟨gb457, 2, none⟩ = some (.bool x458002_3) ∧ w'.cell? ⟨gb457, 3, none⟩ = some (.bool x458003_3) ∧ w'.cell? ⟨gb457, 4, none⟩ = some (.bool x458004_3)) (ds := []) #[false, false, false, false, false, false, false, false, false, false, false, false, false] (by kernel_rfl) rfl rfl ⟨(blk_cell BK457.out 0).trans rfl, (blk_cell BK457.out 1).trans rfl, (blk_cell BK457.out 2).trans rfl, (blk_cell BK457.out 3).trans rfl, (blk_cell BK457.out 4).trans rfl⟩ (fun hHeld => ?_); refine with_tabW laws_FnDoors.tab13 laws_FnDoors.bits13 (fun HT_ HW_ => ?_)
              generalize wr.drew = w69 at HO_4 BK457 BK466 BK475 HB HR483 hHeld ⊢
              refine pure_ (i := 1) (N := some 73) (v := ?_) (a' := ?_) #[false, true, false, false, false, false, false, false, false, false, false, false, false] rfl rfl (any_of HT_.out (by kernel_rfl)) (fun _ _ _ h => h) (Or.inl ⟨by rfl, ?_⟩) ?_ ?_
              rotate_left
              ·intro w'
               go_simp
               with_reducible rfl
              rotate_left
              ·simp only [Act.put, List.setIfInBounds_toArray, List.set_cons_zero, List.set_cons_succ, i64_w, i32_w]
               rfl
              refine pure_ (i := 2) (N := some 74) (v := ?_) (a' := ?_) #[false, true, true, false, false, false, false, false, false, false, false, false, false] rfl rfl (any_of HT_.out (by kernel_rfl)) (fun _ _ _ h => h) (Or.inl ⟨by rfl, ?_⟩) ?_ ?_
              rotate_left
              ·intro w'
               go_simp
               with_reducible rfl
              rotate_left
              ·simp only [Act.put, List.setIfInBounds_toArray, List.set_cons_zero, List.set_cons_succ, i64_w, i32_w]
               rfl
              refine pure_ (i := 3) (N := some 75) (v := ?_) (a' := ?_) #[false, true, true, true, false, false, false, false, false, false, false, false, false] rfl rfl (any_of HT_.out (by kernel_rfl)) (fun _ _ _ h => h) (Or.inl ⟨by rfl, ?_⟩) ?_ ?_
              rotate_left
              ·intro w'
               go_simp
               with_reducible rfl
              rotate_left
              ·simp only [Act.put, List.setIfInBounds_toArray, List.set_cons_zero, List.set_cons_succ, i64_w, i32_w]
               rfl
              refine pure_ (i := 4) (N := some 76) (v := ?_) (a' := ?_) #[false, true, true, true, true, false, false, false, false, false, false, false, false] rfl rfl (any_of HT_.out (by kernel_rfl)) (fun _ _ _ h => h) (Or.inl ⟨by rfl, ?_⟩) ?_ ?_
              rotate_left
              ·intro w'
               go_simp
               with_reducible rfl
              rotate_left
              ·simp only [Act.put, List.setIfInBounds_toArray, List.set_cons_zero, List.set_cons_succ, i64_w, i32_w]
               rfl
              refine pure_ (i := 5) (N := some 77) (v := ?_) (a' := ?_) #[false, true, true, true, true, true, false, false, false, false, false, false, false] rfl rfl (any_of HT_.out (by kernel_rfl)) (fun _ _ _ h => h) (Or.inl ⟨by rfl, ?_⟩) ?_ ?_
              rotate_left
              ·intro w'
               go_simp
               with_reducible rfl
              rotate_left
              ·simp only [Act.put, List.setIfInBounds_toArray, List.set_cons_zero, List.set_cons_succ, i64_w, i32_w]
               rfl
              refine take_ (i := 0) (N := some 72) (v := ?_) (a' := ?_) #[true, true, true, true, true, true, false, false, false, false, false, false, false] rfl rfl (take_ofW HT_.out HW_.out (by kernel_rfl)) (fun _ _ _ h => h) (Or.inl ⟨by rfl, ?_⟩) hHeld ?_ ?_
              rotate_left
              ·rintro w' ⟨s0, s1, s2, s3, s4⟩
               go_simp
               with_reducible rfl
              rotate_left
              ·simp only [Act.put, List.setIfInBounds_toArray, List.set_cons_zero, List.set_cons_succ, i64_w, i32_w]
               rfl
              refine join_ (σ := Value × Nat) 2 #[true, true, true, true, true, true, true, true, true, true, true, false, false] (fun s_ => [(78, .tuple #[.agg #[.int .i64 t484, .int .i64 t485, .bool t486, .bool t487, .bool t488], s_.1]), (10, .pointer (some ⟨s_.2, 0, none⟩)), (71, .tuple #[.agg #[.int .i64 t484, .int .i64 t485, .bool t486, .bool t487, .bool t488], s_.1]), (79, .agg #[.int .i64 t484, .int .i64 t485, .bool t486, .bool t487, .bool t488]), (80, s_.1)]) (fun s_ w' => (w'.cell? ⟨gb457, 0, none⟩ = some (.int .i64 x458000_3) ∧ w'.cell? ⟨gb457, 1, none⟩ = some (.int .i64 x458001_3) ∧ w'.cell? ⟨gb457, 2, none⟩ = some (.bool x458002_3) ∧ w'.cell? ⟨gb457, 3, none⟩ = some (.bool x458003_3) ∧ w'.cell? ⟨gb457, 4, none⟩ = some (.bool x458004_3)) ∧ (Kd.R (Kd.int .i64) 3 w' w.heap.size (fun k_ => some k_ ≠ (.slice Ao11 t454.length co11 : Value).ownBlock) s_.1 t489) ∧ (Kd.R (Kd.int .i64) 3 w' w.heap.size (fun k_ => some k_ ≠ (s_.1 : Value).ownBlock) (.slice Ao11 t454.length co11) t454) ∧ (w'.heap[gb457]? = some (.cells #[.int .i64 x458000_3, .int .i64 x458001_3, .bool x458002_3, .bool x458003_3, .bool x458004_3] 24 (0, 0))) ∧ (w'.heap[gb466]? = some (.cells #[.int .i64 t458, .int .i64 t459, .bool t460, .bool t461, .bool t462] 24 (0, 0))) ∧ (w'.heap[gb475]? = some (.cells #[.int .i64 t467, .int .i64 t468, .bool t469, .bool t470, .bool t471] 24 (0, 0))) ∧ (w'.heap[s_.2]? = some (.cells #[.int .i64 0, .int .i64 0, .bool false, .bool false, .bool false] 24 (0, 0))) ∧ (w.heap.size ≤ s_.2) ∧ (w.heap.size ≤ s_.2) ∧ (gb457 ≠ s_.2) ∧ (s_.2 ≠ gb457) ∧ (gb466 ≠ s_.2) ∧ (s_.2 ≠ gb466) ∧ (gb475 ≠ s_.2) ∧ (s_.2 ≠ gb475) ∧ (Below w.heap.size w w')) ?_ ?_
              rotate_left
              ·intro hCont
               refine two_ (i := 6) (j := 10) (Ni := some 78) (Nj := some 10) #[true, true, true, true, true, true, true, false, false, false, false, false, false] #[true, true, true, true, true, true, false, false, false, false, true, false, false] rfl rfl rfl rfl (two_of HT_.out (by kernel_rfl)) (by decide) (by decide) (fun K hK => ?_) (fun K hK => ?_)
               ·skip
                refine goes_ Try.func45 (by kernel_rfl) rfl #[.agg #[.int .i64 x458000_3, .int .i64 x458001_3, .bool x458002_3, .bool x458003_3, .bool x458004_3], .slice A70 y480.length c70] (by rfl) rfl rfl za ?_
                with_reducible refine (impl_DoActs.calls k3 x458000_3 x458001_3 x458002_3 x458003_3 x458004_3 _ _ y480 t484 t485 t486 t487 t488 t489 _ ?side1 ?side2 A63.out).mono ?_
                (case side1 => repeat (first | exact (by repeat (first | (with_reducible exact HR483.out) | (with_reducible refine Kd.C_alloc ?_ _) | (with_reducible refine Kd.C_drewN ?_ _) | (with_reducible refine Kd.C_drew ?_) | exact HR483.out)) | (with_reducible refine Kd.C_alloc ?_ _) | (with_reducible refine Kd.C_drewN ?_ _) | (with_reducible refine Kd.C_drew ?_)))
                (case side2 => exact HC483.out)
                rintro e w71 ⟨v490, rfl, ho0, hb⟩
                refine ⟨_, rfl, ?_⟩
                have n0_ := aM (Kd.R_elder' (by (with_reducible repeat (first | apply Kd.R_alloc | apply Kd.R_drewN | apply Kd.R_drew)); exact HO_4.out) (Kd.R_base ho0) hb)
                have n1_ := aM (Kd.R_lower (Kd.R_new' ho0 (Kd.R_lt (by (with_reducible repeat (first | apply Kd.R_alloc | apply Kd.R_drewN | apply Kd.R_drew)); exact HO_4.out))) (below_size (zb)))
                have n2_ := aM (bb BK457.out hb)
                have n3_ := aM (bb BK466.out hb)
                have n4_ := aM (bb BK475.out hb)
                have n5_ := aM (Kd.C_below (by repeat (first | (with_reducible exact HR483.out) | (with_reducible refine Kd.C_alloc ?_ _) | (with_reducible refine Kd.C_drewN ?_ _) | (with_reducible refine Kd.C_drew ?_) | exact HR483.out)) hb)
                have n6_ := aM (below_step (zb) hb)
                clear HO_4
                clear BK457
                clear BK466
                clear BK475
                clear HR483
                clear HB
                have HO_4 := n0_
                have HO491 := n1_
                have BK457 := n2_
                have BK466 := n3_
                have BK475 := n4_
                have HR483 := n5_
                have HB := n6_
                clear n0_ n1_ n2_ n3_ n4_ n5_ n6_
                (try clear hb)
                (try clear hb2)
                (try clear hk)
                (try clear hi)
                (try clear ho0)
                refine hK.out _ _ ⟨(blk_cell BK457.out 0).trans rfl, (blk_cell BK457.out 1).trans rfl, (blk_cell BK457.out 2).trans rfl, (blk_cell BK457.out 3).trans rfl, (blk_cell BK457.out 4).trans rfl⟩ (fun hHeld => ?_)
                clear hK K
                refine norm_ (a' := ?_) ?_ ?_
                rotate_left
                ·show Act.put _ (some 78) _ = _
                 simp only [Act.put, List.setIfInBounds_toArray, List.set_cons_zero, List.set_cons_succ, i64_w, i32_w]
                 rfl
                refine pure_ (i := 7) (N := some 71) (v := ?_) (a' := ?_) #[true, true, true, true, true, true, true, true, false, false, false, false, false] rfl rfl (any_of HT_.out (by kernel_rfl)) (fun _ _ _ h => h) (Or.inl ⟨by rfl, ?_⟩) ?_ ?_
                rotate_left
                ·intro w'
                 go_simp
                 with_reducible rfl
                rotate_left
                ·simp only [Act.put, List.setIfInBounds_toArray, List.set_cons_zero, List.set_cons_succ, i64_w, i32_w]
                 rfl
                refine pure_ (i := 8) (N := some 79) (v := ?_) (a' := ?_) #[true, true, true, true, true, true, true, true, true, false, false, false, false] rfl rfl (any_of HT_.out (by kernel_rfl)) (fun _ _ _ h => h) (Or.inl ⟨by rfl, ?_⟩) ?_ ?_
                rotate_left
                ·intro w'
                 go_simp
                 with_reducible rfl
                rotate_left
                ·simp only [Act.put, List.setIfInBounds_toArray, List.set_cons_zero, List.set_cons_succ, i64_w, i32_w]
                 rfl
                refine pure_ (i := 9) (N := some 80) (v := ?_) (a' := ?_) #[true, true, true, true, true, true, true, true, true, true, false, false, false] rfl rfl (any_of HT_.out (by kernel_rfl)) (fun _ _ _ h => h) (Or.inl ⟨by rfl, ?_⟩) ?_ ?_
                rotate_left
                ·intro w'
                 go_simp
                 with_reducible rfl
                rotate_left
                ·simp only [Act.put, List.setIfInBounds_toArray, List.set_cons_zero, List.set_cons_succ, i64_w, i32_w]
                 rfl
                refine one_ (i := 10) (N := some 10) #[true, true, true, true, true, true, true, true, true, true, true, false, false] rfl rfl (one_of HT_.out (by kernel_rfl)) (by decide) (fun K hK => ?_)
                refine box_step ?hg (N := 10) ?hd (cs := #[.int .i64 0, .int .i64 0, .bool false, .bool false, .bool false]) (t := 24) ?hr ?_; (case hd => rfl); (case hg => rfl); (case hr => exact zg)
                intro gb492 hg w72 hbox hb
                have n0_ := aM (Kd.R_below (by (with_reducible repeat (first | apply Kd.R_alloc | apply Kd.R_drewN | apply Kd.R_drew)); exact HO_4.out) hb)
                have n1_ := aM (Kd.R_below (by (with_reducible repeat (first | apply Kd.R_alloc | apply Kd.R_drewN | apply Kd.R_drew)); exact HO491.out) hb)
                have n2_ := aM (bb BK457.out hb)
                have n3_ := aM (bb BK466.out hb)
                have n4_ := aM (bb BK475.out hb)
                have n5_ := aM (Kd.C_below (by repeat (first | (with_reducible exact HR483.out) | (with_reducible refine Kd.C_alloc ?_ _) | (with_reducible refine Kd.C_drewN ?_ _) | (with_reducible refine Kd.C_drew ?_) | exact HR483.out)) hb)
                have n6_ := aM (below_step (zb) hb)
                have n7_ := aM (hbox)
                have n8_ := aM ((by rw [hg]; exact (below_size (zb)) : w.heap.size ≤ gb492))
                have n9_ := aM ((by rw [hg]; exact (below_size (zb)) : w.heap.size ≤ gb492))
                have n10_ := aM ((by rw [hg]; exact Nat.ne_of_lt (nl BK457.out) : gb457 ≠ gb492))
                have n11_ := aM ((by rw [hg]; exact Nat.ne_of_gt (nl BK457.out) : gb492 ≠ gb457))
                have n12_ := aM ((by rw [hg]; exact Nat.ne_of_lt (nl BK466.out) : gb466 ≠ gb492))
                have n13_ := aM ((by rw [hg]; exact Nat.ne_of_gt (nl BK466.out) : gb492 ≠ gb466))
                have n14_ := aM ((by rw [hg]; exact Nat.ne_of_lt (nl BK475.out) : gb475 ≠ gb492))
                have n15_ := aM ((by rw [hg]; exact Nat.ne_of_gt (nl BK475.out) : gb492 ≠ gb475))
                clear HO_4
                clear HO491
                clear BK457
                clear BK466
                clear BK475
                clear HR483
                clear HB
                have HO_4 := n0_
                have HO491 := n1_
                have BK457 := n2_
                have BK466 := n3_
                have BK475 := n4_
                have HR483 := n5_
                have HB := n6_
                have BK492 := n7_
                have GW492 := n8_
                have GE492 := n9_
                have NB457_492 := n10_
                have NB492_457 := n11_
                have NB466_492 := n12_
                have NB492_466 := n13_
                have NB475_492 := n14_
                have NB492_475 := n15_
                clear n0_ n1_ n2_ n3_ n4_ n5_ n6_ n7_ n8_ n9_ n10_ n11_ n12_ n13_ n14_ n15_
                clear hb hbox hg
                refine hK.out _ _ ⟨(blk_cell BK457.out 0).trans rfl, (blk_cell BK457.out 1).trans rfl, (blk_cell BK457.out 2).trans rfl, (blk_cell BK457.out 3).trans rfl, (blk_cell BK457.out 4).trans rfl⟩ (fun hHeld => ?_)
                clear hK K
                refine norm_ (a' := ?_) ?_ ?_
                rotate_left
                ·show Act.put _ (some 10) _ = _
                 simp only [Act.put, List.setIfInBounds_toArray, List.set_cons_zero, List.set_cons_succ, i64_w, i32_w]
                 rfl
                exact norm_ (by simp only [putAll, Act.put, List.setIfInBounds_toArray, List.set_cons_zero, List.set_cons_succ]) (hCont (v490, gb492) _ ⟨hHeld, (by (with_reducible repeat (first | apply Kd.R_alloc | apply Kd.R_drewN | apply Kd.R_drew)); exact Kd.R_mono HO491.out (fun _ hk => hk.2)), (by (with_reducible repeat (first | apply Kd.R_alloc | apply Kd.R_drewN | apply Kd.R_drew)); exact Kd.R_mono HO_4.out (fun _ hk => hk.2)), (by exact pk BK457.out), (by exact pk BK466.out), (by exact pk BK475.out), (by exact pk BK492.out), GW492.out, GE492.out, NB457_492.out, NB492_457.out, NB466_492.out, NB492_466.out, NB475_492.out, NB492_475.out, (zb)⟩)
               ·skip
                refine box_step ?hg (N := 10) ?hd (cs := #[.int .i64 0, .int .i64 0, .bool false, .bool false, .bool false]) (t := 24) ?hr ?_; (case hd => rfl); (case hg => rfl); (case hr => exact zg)
                intro gb492 hg w71 hbox hb
                have n0_ := aM (Kd.R_below (by (with_reducible repeat (first | apply Kd.R_alloc | apply Kd.R_drewN | apply Kd.R_drew)); exact HO_4.out) hb)
                have n1_ := aM (bb BK457.out hb)
                have n2_ := aM (bb BK466.out hb)
                have n3_ := aM (bb BK475.out hb)
                have n4_ := aM (Kd.C_below (by repeat (first | (with_reducible exact HR483.out) | (with_reducible refine Kd.C_alloc ?_ _) | (with_reducible refine Kd.C_drewN ?_ _) | (with_reducible refine Kd.C_drew ?_) | exact HR483.out)) hb)
                have n5_ := aM (below_step (zb) hb)
                have n6_ := aM (hbox)
                have n7_ := aM ((by rw [hg]; exact (below_size (zb)) : w.heap.size ≤ gb492))
                have n8_ := aM ((by rw [hg]; exact (below_size (zb)) : w.heap.size ≤ gb492))
                have n9_ := aM ((by rw [hg]; exact Nat.ne_of_lt (nl BK457.out) : gb457 ≠ gb492))
                have n10_ := aM ((by rw [hg]; exact Nat.ne_of_gt (nl BK457.out) : gb492 ≠ gb457))
                have n11_ := aM ((by rw [hg]; exact Nat.ne_of_lt (nl BK466.out) : gb466 ≠ gb492))
                have n12_ := aM ((by rw [hg]; exact Nat.ne_of_gt (nl BK466.out) : gb492 ≠ gb466))
                have n13_ := aM ((by rw [hg]; exact Nat.ne_of_lt (nl BK475.out) : gb475 ≠ gb492))
                have n14_ := aM ((by rw [hg]; exact Nat.ne_of_gt (nl BK475.out) : gb492 ≠ gb475))
                clear HO_4
                clear BK457
                clear BK466
                clear BK475
                clear HR483
                clear HB
                have HO_4 := n0_
                have BK457 := n1_
                have BK466 := n2_
                have BK475 := n3_
                have HR483 := n4_
                have HB := n5_
                have BK492 := n6_
                have GW492 := n7_
                have GE492 := n8_
                have NB457_492 := n9_
                have NB492_457 := n10_
                have NB466_492 := n11_
                have NB492_466 := n12_
                have NB475_492 := n13_
                have NB492_475 := n14_
                clear n0_ n1_ n2_ n3_ n4_ n5_ n6_ n7_ n8_ n9_ n10_ n11_ n12_ n13_ n14_
                clear hb hbox hg
                refine hK.out _ _ ⟨(blk_cell BK457.out 0).trans rfl, (blk_cell BK457.out 1).trans rfl, (blk_cell BK457.out 2).trans rfl, (blk_cell BK457.out 3).trans rfl, (blk_cell BK457.out 4).trans rfl⟩ (fun hHeld => ?_)
                clear hK K
                refine norm_ (a' := ?_) ?_ ?_
                rotate_left
                ·show Act.put _ (some 10) _ = _
                 simp only [Act.put, List.setIfInBounds_toArray, List.set_cons_zero, List.set_cons_succ, i64_w, i32_w]
                 rfl
                refine one_ (i := 6) (N := some 78) #[true, true, true, true, true, true, true, false, false, false, true, false, false] rfl rfl (one_of HT_.out (by kernel_rfl)) (by decide) (fun K hK => ?_)
                refine goes_ Try.func45 (by kernel_rfl) rfl #[.agg #[.int .i64 x458000_3, .int .i64 x458001_3, .bool x458002_3, .bool x458003_3, .bool x458004_3], .slice A70 y480.length c70] (by rfl) rfl rfl za ?_
                with_reducible refine (impl_DoActs.calls k3 x458000_3 x458001_3 x458002_3 x458003_3 x458004_3 _ _ y480 t484 t485 t486 t487 t488 t489 _ ?side1 ?side2 A63.out).mono ?_
                (case side1 => repeat (first | exact (by repeat (first | (with_reducible exact HR483.out) | (with_reducible refine Kd.C_alloc ?_ _) | (with_reducible refine Kd.C_drewN ?_ _) | (with_reducible refine Kd.C_drew ?_) | exact HR483.out)) | (with_reducible refine Kd.C_alloc ?_ _) | (with_reducible refine Kd.C_drewN ?_ _) | (with_reducible refine Kd.C_drew ?_)))
                (case side2 => exact HC483.out)
                rintro e w72 ⟨v490, rfl, ho0, hb⟩
                refine ⟨_, rfl, ?_⟩
                have n0_ := aM (Kd.R_elder' (by (with_reducible repeat (first | apply Kd.R_alloc | apply Kd.R_drewN | apply Kd.R_drew)); exact HO_4.out) (Kd.R_base ho0) hb)
                have n1_ := aM (Kd.R_lower (Kd.R_new' ho0 (Kd.R_lt (by (with_reducible repeat (first | apply Kd.R_alloc | apply Kd.R_drewN | apply Kd.R_drew)); exact HO_4.out))) (below_size (zb)))
                have n2_ := aM (bb BK457.out hb)
                have n3_ := aM (bb BK466.out hb)
                have n4_ := aM (bb BK475.out hb)
                have n5_ := aM (Kd.C_below (by repeat (first | (with_reducible exact HR483.out) | (with_reducible refine Kd.C_alloc ?_ _) | (with_reducible refine Kd.C_drewN ?_ _) | (with_reducible refine Kd.C_drew ?_) | exact HR483.out)) hb)
                have n6_ := aM (bb BK492.out hb)
                have n7_ := aM (below_step (zb) hb)
                clear HO_4
                clear BK457
                clear BK466
                clear BK475
                clear HR483
                clear BK492
                clear HB
                have HO_4 := n0_
                have HO491 := n1_
                have BK457 := n2_
                have BK466 := n3_
                have BK475 := n4_
                have HR483 := n5_
                have BK492 := n6_
                have HB := n7_
                clear n0_ n1_ n2_ n3_ n4_ n5_ n6_ n7_
                (try clear hb)
                (try clear hb2)
                (try clear hk)
                (try clear hi)
                (try clear ho0)
                refine hK.out _ _ ⟨(blk_cell BK457.out 0).trans rfl, (blk_cell BK457.out 1).trans rfl, (blk_cell BK457.out 2).trans rfl, (blk_cell BK457.out 3).trans rfl, (blk_cell BK457.out 4).trans rfl⟩ (fun hHeld => ?_)
                clear hK K
                refine norm_ (a' := ?_) ?_ ?_
                rotate_left
                ·show Act.put _ (some 78) _ = _
                 simp only [Act.put, List.setIfInBounds_toArray, List.set_cons_zero, List.set_cons_succ, i64_w, i32_w]
                 rfl
                refine pure_ (i := 7) (N := some 71) (v := ?_) (a' := ?_) #[true, true, true, true, true, true, true, true, false, false, true, false, false] rfl rfl (any_of HT_.out (by kernel_rfl)) (fun _ _ _ h => h) (Or.inl ⟨by rfl, ?_⟩) ?_ ?_
                rotate_left
                ·intro w'
                 go_simp
                 with_reducible rfl
                rotate_left
                ·simp only [Act.put, List.setIfInBounds_toArray, List.set_cons_zero, List.set_cons_succ, i64_w, i32_w]
                 rfl
                refine pure_ (i := 8) (N := some 79) (v := ?_) (a' := ?_) #[true, true, true, true, true, true, true, true, true, false, true, false, false] rfl rfl (any_of HT_.out (by kernel_rfl)) (fun _ _ _ h => h) (Or.inl ⟨by rfl, ?_⟩) ?_ ?_
                rotate_left
                ·intro w'
                 go_simp
                 with_reducible rfl
                rotate_left
                ·simp only [Act.put, List.setIfInBounds_toArray, List.set_cons_zero, List.set_cons_succ, i64_w, i32_w]
                 rfl
                refine pure_ (i := 9) (N := some 80) (v := ?_) (a' := ?_) #[true, true, true, true, true, true, true, true, true, true, true, false, false] rfl rfl (any_of HT_.out (by kernel_rfl)) (fun _ _ _ h => h) (Or.inl ⟨by rfl, ?_⟩) ?_ ?_
                rotate_left
                ·intro w'
                 go_simp
                 with_reducible rfl
                rotate_left
                ·simp only [Act.put, List.setIfInBounds_toArray, List.set_cons_zero, List.set_cons_succ, i64_w, i32_w]
                 rfl
                exact norm_ (by simp only [putAll, Act.put, List.setIfInBounds_toArray, List.set_cons_zero, List.set_cons_succ]) (hCont (v490, gb492) _ ⟨hHeld, (by (with_reducible repeat (first | apply Kd.R_alloc | apply Kd.R_drewN | apply Kd.R_drew)); exact Kd.R_mono HO491.out (fun _ hk => hk.2)), (by (with_reducible repeat (first | apply Kd.R_alloc | apply Kd.R_drewN | apply Kd.R_drew)); exact Kd.R_mono HO_4.out (fun _ hk => hk.2)), (by exact pk BK457.out), (by exact pk BK466.out), (by exact pk BK475.out), (by exact pk BK492.out), GW492.out, GE492.out, NB457_492.out, NB492_457.out, NB466_492.out, NB492_466.out, NB475_492.out, NB492_475.out, (zb)⟩)
              rintro ⟨v490, gb492⟩ w73 ⟨hS_, h0_, h1_, h2_, h3_, h4_, h5_, h6_, h7_, h8_, h9_, h10_, h11_, h12_, h13_, h14_⟩
              have n0_ : Aside0 (Kd.R (Kd.int .i64) 3 w73 w.heap.size (fun k_ => some k_ ≠ (.slice Ao11 t454.length co11 : Value).ownBlock) v490 t489) := ⟨h0_⟩
              have n1_ : Aside0 (Kd.R (Kd.int .i64) 3 w73 w.heap.size (fun k_ => some k_ ≠ (v490 : Value).ownBlock) (.slice Ao11 t454.length co11) t454) := ⟨h1_⟩
              have n2_ : Aside0 (w73.heap[gb457]? = some (.cells #[.int .i64 x458000_3, .int .i64 x458001_3, .bool x458002_3, .bool x458003_3, .bool x458004_3] 24 (0, 0))) := ⟨h2_⟩
              have n3_ : Aside0 (w73.heap[gb466]? = some (.cells #[.int .i64 t458, .int .i64 t459, .bool t460, .bool t461, .bool t462] 24 (0, 0))) := ⟨h3_⟩
              have n4_ : Aside0 (w73.heap[gb475]? = some (.cells #[.int .i64 t467, .int .i64 t468, .bool t469, .bool t470, .bool t471] 24 (0, 0))) := ⟨h4_⟩
              have n5_ : Aside0 (w73.heap[gb492]? = some (.cells #[.int .i64 0, .int .i64 0, .bool false, .bool false, .bool false] 24 (0, 0))) := ⟨h5_⟩
              have n6_ : Aside0 (w.heap.size ≤ gb492) := ⟨h6_⟩
              have n7_ : Aside0 (w.heap.size ≤ gb492) := ⟨h7_⟩
              have n8_ : Aside0 (gb457 ≠ gb492) := ⟨h8_⟩
              have n9_ : Aside0 (gb492 ≠ gb457) := ⟨h9_⟩
              have n10_ : Aside0 (gb466 ≠ gb492) := ⟨h10_⟩
              have n11_ : Aside0 (gb492 ≠ gb466) := ⟨h11_⟩
              have n12_ : Aside0 (gb475 ≠ gb492) := ⟨h12_⟩
              have n13_ : Aside0 (gb492 ≠ gb475) := ⟨h13_⟩
              have n14_ : Aside0 (Below w.heap.size w w73) := ⟨h14_⟩
              clear HO_4
              clear BK457
              clear BK466
              clear BK475
              clear HB
              clear h0_ h1_ h2_ h3_ h4_ h5_ h6_ h7_ h8_ h9_ h10_ h11_ h12_ h13_ h14_
              have HO491 := n0_
              have HO_4 := n1_
              have BK457 := n2_
              have BK466 := n3_
              have BK475 := n4_
              have BK492 := n5_
              have GW492 := n6_
              have GE492 := n7_
              have NB457_492 := n8_
              have NB492_457 := n9_
              have NB466_492 := n10_
              have NB492_466 := n11_
              have NB475_492 := n12_
              have NB492_475 := n13_
              have HB := n14_
              clear n0_ n1_ n2_ n3_ n4_ n5_ n6_ n7_ n8_ n9_ n10_ n11_ n12_ n13_ n14_
              have hHeld : w73.cell? ⟨gb457, 0, none⟩ = some (.int .i64 x458000_3) ∧ w73.cell? ⟨gb457, 1, none⟩ = some (.int .i64 x458001_3) ∧ w73.cell? ⟨gb457, 2, none⟩ = some (.bool x458002_3) ∧ w73.cell? ⟨gb457, 3, none⟩ = some (.bool x458003_3) ∧ w73.cell? ⟨gb457, 4, none⟩ = some (.bool x458004_3) := hS_
              refine norm_ (a' := ?_) ?_ ?_
              rotate_left
              ·simp only [putAll, Act.put, List.setIfInBounds_toArray, List.set_cons_zero, List.set_cons_succ]
               rfl
              refine one_ (i := 11) (N := none) #[true, true, true, true, true, true, true, true, true, true, true, true, false] rfl rfl (one_of HT_.out (by kernel_rfl)) (by decide) (fun K hK => ?_)
              have hs74 : w73.cell? ⟨gb492, 0, none⟩ = some (.int .i64 0) := (blk_cell BK492.out 0).trans rfl
              have hfs74 := blk_frozen BK492.out 0
              have hns74_0 := NB457_492.out
              have hns74_1 := NB466_492.out
              have hns74_2 := NB475_492.out
              have hms74_0 := NB492_457.out
              have hms74_1 := NB492_466.out
              have hms74_2 := NB492_475.out
              have hs75 : w73.cell? ⟨gb492, 1, none⟩ = some (.int .i64 0) := (blk_cell BK492.out 1).trans rfl
              have hfs75 := blk_frozen BK492.out 1
              have hns75_0 := NB457_492.out
              have hns75_1 := NB466_492.out
              have hns75_2 := NB475_492.out
              have hms75_0 := NB492_457.out
              have hms75_1 := NB492_466.out
              have hms75_2 := NB492_475.out
              have hs76 : w73.cell? ⟨gb492, 2, none⟩ = some (.bool false) := (blk_cell BK492.out 2).trans rfl
              have hfs76 := blk_frozen BK492.out 2
              have hns76_0 := NB457_492.out
              have hns76_1 := NB466_492.out
              have hns76_2 := NB475_492.out
              have hms76_0 := NB492_457.out
              have hms76_1 := NB492_466.out
              have hms76_2 := NB492_475.out
              have hs77 : w73.cell? ⟨gb492, 3, none⟩ = some (.bool false) := (blk_cell BK492.out 3).trans rfl
              have hfs77 := blk_frozen BK492.out 3
              have hns77_0 := NB457_492.out
              have hns77_1 := NB466_492.out
              have hns77_2 := NB475_492.out
              have hms77_0 := NB492_457.out
              have hms77_1 := NB492_466.out
              have hms77_2 := NB492_475.out
              have hs78 : w73.cell? ⟨gb492, 4, none⟩ = some (.bool false) := (blk_cell BK492.out 4).trans rfl
              have hfs78 := blk_frozen BK492.out 4
              have hns78_0 := NB457_492.out
              have hns78_1 := NB466_492.out
              have hns78_2 := NB475_492.out
              have hms78_0 := NB492_457.out
              have hms78_1 := NB492_466.out
              have hms78_2 := NB492_475.out
              refine skip_ (w1 := ?_) (by rfl) rfl ?_ ?_
              rotate_left
              ·go_simp
               rfl
              refine hK.out _ _ ⟨((cell_far (p := ⟨gb492, _, none⟩) NB457_492.out _).trans (((cell_far (p := ⟨gb492, _, none⟩) NB457_492.out _).trans (((cell_far (p := ⟨gb492, _, none⟩) NB457_492.out _).trans (((cell_far (p := ⟨gb492, _, none⟩) NB457_492.out _).trans (((cell_far (p := ⟨gb492, _, none⟩) NB457_492.out _).trans (hHeld.1)))))))))), ((cell_far (p := ⟨gb492, _, none⟩) NB457_492.out _).trans (((cell_far (p := ⟨gb492, _, none⟩) NB457_492.out _).trans (((cell_far (p := ⟨gb492, _, none⟩) NB457_492.out _).trans (((cell_far (p := ⟨gb492, _, none⟩) NB457_492.out _).trans (((cell_far (p := ⟨gb492, _, none⟩) NB457_492.out _).trans (hHeld.2.1)))))))))), ((cell_far (p := ⟨gb492, _, none⟩) NB457_492.out _).trans (((cell_far (p := ⟨gb492, _, none⟩) NB457_492.out _).trans (((cell_far (p := ⟨gb492, _, none⟩) NB457_492.out _).trans (((cell_far (p := ⟨gb492, _, none⟩) NB457_492.out _).trans (((cell_far (p := ⟨gb492, _, none⟩) NB457_492.out _).trans (hHeld.2.2.1)))))))))), ((cell_far (p := ⟨gb492, _, none⟩) NB457_492.out _).trans (((cell_far (p := ⟨gb492, _, none⟩) NB457_492.out _).trans (((cell_far (p := ⟨gb492, _, none⟩) NB457_492.out _).trans (((cell_far (p := ⟨gb492, _, none⟩) NB457_492.out _).trans (((cell_far (p := ⟨gb492, _, none⟩) NB457_492.out _).trans (hHeld.2.2.2.1)))))))))), ((cell_far (p := ⟨gb492, _, none⟩) NB457_492.out _).trans (((cell_far (p := ⟨gb492, _, none⟩) NB457_492.out _).trans (((cell_far (p := ⟨gb492, _, none⟩) NB457_492.out _).trans (((cell_far (p := ⟨gb492, _, none⟩) NB457_492.out _).trans (((cell_far (p := ⟨gb492, _, none⟩) NB457_492.out _).trans (hHeld.2.2.2.2))))))))))⟩ (fun hHeld => ?_)
              clear hK K
              refine pure_ (i := 12) (N := some 11) (v := ?_) (a' := ?_) #[true, true, true, true, true, true, true, true, true, true, true, true, true] rfl rfl (any_of HT_.out (by kernel_rfl)) (fun _ _ _ h => h) (Or.inl ⟨by rfl, ?_⟩) ?_ ?_
              rotate_left
              ·intro w'
               go_simp
               with_reducible rfl
              rotate_left
              ·simp only [Act.put, List.setIfInBounds_toArray, List.set_cons_zero, List.set_cons_succ, i64_w, i32_w]
               rfl
              refine done_ (done_of HT_.out (by kernel_rfl)) ?_
              try go_wp2
              have n0_ : Aside0 (Kd.R (Kd.int .i64) 3 (((((w73.setCell ⟨gb492, 0, none⟩ (.int .i64 t484)).setCell ⟨gb492, 1, none⟩ (.int .i64 t485)).setCell ⟨gb492, 2, none⟩ (.bool t486)).setCell ⟨gb492, 3, none⟩ (.bool t487)).setCell ⟨gb492, 4, none⟩ (.bool t488)) w.heap.size (fun k_ => some k_ ≠ (v490 : Value).ownBlock) (.slice Ao11 t454.length co11) t454) := ⟨by (with_reducible repeat (first | apply Kd.R_alloc | apply Kd.R_drewN | apply Kd.R_drew)); exact Kd.R_mono (Kd.R_far (p := ⟨gb492, 4, none⟩) (Kd.R_far (p := ⟨gb492, 3, none⟩) (Kd.R_far (p := ⟨gb492, 2, none⟩) (Kd.R_far (p := ⟨gb492, 1, none⟩) (Kd.R_far (p := ⟨gb492, 0, none⟩) (Kd.R_types HO_4.out BK492.out (by decide)) (fun _ hk => hk.2) (.int .i64 t484)) (fun _ hk => hk.2) (.int .i64 t485)) (fun _ hk => hk.2) (.bool t486)) (fun _ hk => hk.2) (.bool t487)) (fun _ hk => hk.2) (.bool t488)) (fun _ hk => hk.1)⟩
              have n1_ : Aside0 (Kd.R (Kd.int .i64) 3 (((((w73.setCell ⟨gb492, 0, none⟩ (.int .i64 t484)).setCell ⟨gb492, 1, none⟩ (.int .i64 t485)).setCell ⟨gb492, 2, none⟩ (.bool t486)).setCell ⟨gb492, 3, none⟩ (.bool t487)).setCell ⟨gb492, 4, none⟩ (.bool t488)) w.heap.size (fun k_ => some k_ ≠ (.slice Ao11 t454.length co11 : Value).ownBlock) v490 t489) := ⟨by (with_reducible repeat (first | apply Kd.R_alloc | apply Kd.R_drewN | apply Kd.R_drew)); exact Kd.R_mono (Kd.R_far (p := ⟨gb492, 4, none⟩) (Kd.R_far (p := ⟨gb492, 3, none⟩) (Kd.R_far (p := ⟨gb492, 2, none⟩) (Kd.R_far (p := ⟨gb492, 1, none⟩) (Kd.R_far (p := ⟨gb492, 0, none⟩) (Kd.R_types HO491.out BK492.out (by decide)) (fun _ hk => hk.2) (.int .i64 t484)) (fun _ hk => hk.2) (.int .i64 t485)) (fun _ hk => hk.2) (.bool t486)) (fun _ hk => hk.2) (.bool t487)) (fun _ hk => hk.2) (.bool t488)) (fun _ hk => hk.1)⟩
              have n2_ : Aside0 ((((((w73.setCell ⟨gb492, 0, none⟩ (.int .i64 t484)).setCell ⟨gb492, 1, none⟩ (.int .i64 t485)).setCell ⟨gb492, 2, none⟩ (.bool t486)).setCell ⟨gb492, 3, none⟩ (.bool t487)).setCell ⟨gb492, 4, none⟩ (.bool t488)).heap[gb457]? = some (.cells #[.int .i64 x458000_3, .int .i64 x458001_3, .bool x458002_3, .bool x458003_3, .bool x458004_3] 24 (0, 0))) := ⟨by refine pq ?_; refine blk_far ?_ NB457_492.out _; refine pq ?_; refine blk_far ?_ NB457_492.out _; refine pq ?_; refine blk_far ?_ NB457_492.out _; refine pq ?_; refine blk_far ?_ NB457_492.out _; refine pq ?_; refine blk_far ?_ NB457_492.out _; refine pq ?_; exact BK457.out⟩
              have n3_ : Aside0 ((((((w73.setCell ⟨gb492, 0, none⟩ (.int .i64 t484)).setCell ⟨gb492, 1, none⟩ (.int .i64 t485)).setCell ⟨gb492, 2, none⟩ (.bool t486)).setCell ⟨gb492, 3, none⟩ (.bool t487)).setCell ⟨gb492, 4, none⟩ (.bool t488)).heap[gb466]? = some (.cells #[.int .i64 t458, .int .i64 t459, .bool t460, .bool t461, .bool t462] 24 (0, 0))) := ⟨by refine pq ?_; refine blk_far ?_ NB466_492.out _; refine pq ?_; refine blk_far ?_ NB466_492.out _; refine pq ?_; refine blk_far ?_ NB466_492.out _; refine pq ?_; refine blk_far ?_ NB466_492.out _; refine pq ?_; refine blk_far ?_ NB466_492.out _; refine pq ?_; exact BK466.out⟩
              have n4_ : Aside0 ((((((w73.setCell ⟨gb492, 0, none⟩ (.int .i64 t484)).setCell ⟨gb492, 1, none⟩ (.int .i64 t485)).setCell ⟨gb492, 2, none⟩ (.bool t486)).setCell ⟨gb492, 3, none⟩ (.bool t487)).setCell ⟨gb492, 4, none⟩ (.bool t488)).heap[gb475]? = some (.cells #[.int .i64 t467, .int .i64 t468, .bool t469, .bool t470, .bool t471] 24 (0, 0))) := ⟨by refine pq ?_; refine blk_far ?_ NB475_492.out _; refine pq ?_; refine blk_far ?_ NB475_492.out _; refine pq ?_; refine blk_far ?_ NB475_492.out _; refine pq ?_; refine blk_far ?_ NB475_492.out _; refine pq ?_; refine blk_far ?_ NB475_492.out _; refine pq ?_; exact BK475.out⟩
              have n5_ : Aside0 ((((((w73.setCell ⟨gb492, 0, none⟩ (.int .i64 t484)).setCell ⟨gb492, 1, none⟩ (.int .i64 t485)).setCell ⟨gb492, 2, none⟩ (.bool t486)).setCell ⟨gb492, 3, none⟩ (.bool t487)).setCell ⟨gb492, 4, none⟩ (.bool t488)).heap[gb492]? = some (.cells #[.int .i64 t484, .int .i64 t485, .bool t486, .bool t487, .bool t488] 24 (0, 0))) := ⟨by refine pq ?_; refine blk_put (cs := #[.int .i64 t484, .int .i64 t485, .bool t486, .bool t487, .bool false]) ?_ 4 _ rfl; refine pq ?_; refine blk_put (cs := #[.int .i64 t484, .int .i64 t485, .bool t486, .bool false, .bool false]) ?_ 3 _ rfl; refine pq ?_; refine blk_put (cs := #[.int .i64 t484, .int .i64 t485, .bool false, .bool false, .bool false]) ?_ 2 _ rfl; refine pq ?_; refine blk_put (cs := #[.int .i64 t484, .int .i64 0, .bool false, .bool false, .bool false]) ?_ 1 _ rfl; refine pq ?_; refine blk_put (cs := #[.int .i64 0, .int .i64 0, .bool false, .bool false, .bool false]) ?_ 0 _ rfl; refine pq ?_; exact BK492.out⟩
              have n6_ : Aside0 (Below w.heap.size w (((((w73.setCell ⟨gb492, 0, none⟩ (.int .i64 t484)).setCell ⟨gb492, 1, none⟩ (.int .i64 t485)).setCell ⟨gb492, 2, none⟩ (.bool t486)).setCell ⟨gb492, 3, none⟩ (.bool t487)).setCell ⟨gb492, 4, none⟩ (.bool t488))) := ⟨zb⟩
              (try clear HO_4)
              (try clear HO491)
              (try clear BK457)
              (try clear BK466)
              (try clear BK475)
              (try clear BK492)
              (try clear HB)
              generalize (((((w73.setCell ⟨gb492, 0, none⟩ (.int .i64 t484)).setCell ⟨gb492, 1, none⟩ (.int .i64 t485)).setCell ⟨gb492, 2, none⟩ (.bool t486)).setCell ⟨gb492, 3, none⟩ (.bool t487)).setCell ⟨gb492, 4, none⟩ (.bool t488)) = w79 at n0_ n1_ n2_ n3_ n4_ n5_ n6_ ⊢
              have HO_4 := n0_
              have HO491 := n1_
              have BK457 := n2_
              have BK466 := n3_
              have BK475 := n4_
              have BK492 := n5_
              have HB := n6_
              clear n0_ n1_ n2_ n3_ n4_ n5_ n6_
              have n0_ := aM (Kd.R_drew HO_4.out)
              have n1_ := aM (Kd.R_drew HO491.out)
              have n2_ := aM (blk_drew BK457.out)
              have n3_ := aM (blk_drew BK466.out)
              have n4_ := aM (blk_drew BK475.out)
              have n5_ := aM (blk_drew BK492.out)
              have n6_ := aM (below_drew1 HB.out)
              clear HO_4
              clear HO491
              clear BK457
              clear BK466
              clear BK475
              clear BK492
              clear HB
              have HO_4 := n0_
              have HO491 := n1_
              have BK457 := n2_
              have BK466 := n3_
              have BK475 := n4_
              have BK492 := n5_
              have HB := n6_
              clear n0_ n1_ n2_ n3_ n4_ n5_ n6_
              have q81 : ((wrap64 (x9_3 + 1)) : Int) ≤ ((t454.length : Int) : Int) := of_decide_eq_true (by first | (with_reducible assumption) | assumption)
              obtain ⟨i081, hi081, _, hsz81, _⟩ := info_parts info3
              have hroom81 : t454.length ≤ co11 := (Kd.R_reads' HO_4.out).2.1
              have hC81 : Kd.C (Kd.int .i64) _ Ao11 t454.length t454 := (Kd.R_reads' HO_4.out).2.2
              have ql81 : (x9_3 : Int) ≤ ((wrap64 (x9_3 + 1)) : Int) := of_decide_eq_true (by first | (with_reducible assumption) | assumption)
              have q081 : (0 : Int) ≤ (x9_3 : Int) := of_decide_eq_true (by first | (with_reducible assumption) | assumption)
              try clear hcut70
              have hcut81 := cut_mid (P := Try.prog) 42 3 .i64 .i64 Try.underlying42 hi081 1 hsz81 Ao11 t454.length co11 x9_3 (wrap64 (x9_3 + 1)) q081 ql81 q81 hroom81
              have hr81 := Kd.C_mid (lo := (x9_3 : Int).toNat) (hi := ((wrap64 (x9_3 + 1)) : Int).toNat) (c := co11) hC81 (by omega) (by omega) hroom81
              obtain ⟨A81, hA81⟩ : ∃ A1, A1 = (if co11 = (x9_3 : Int).toNat then Ao11 else (Ao11 : Option Addr).map (·.add ((x9_3 : Int).toNat * 1))) := ⟨_, rfl⟩
              obtain ⟨c81, hc81⟩ : ∃ c1, c1 = co11 - (x9_3 : Int).toNat := ⟨_, rfl⟩
              have hy81 : y493.length = ((wrap64 (x9_3 + 1)) : Int).toNat - (x9_3 : Int).toNat := (by rw [Ny493.out, List.length_drop, List.length_take] <;> omega)
              rw [show ((t454).take ((wrap64 (x9_3 + 1)) : Int).toNat).drop (x9_3 : Int).toNat = y493 from Ny493.out.symm] at hr81
              replace hr81 : Kd.C (Kd.int .i64) _ A81 y493.length y493 := (by rw [hA81]; exact hr81)
              rw [← hy81, ← hA81, ← hc81] at hcut81
              have HR496 := aM hr81
              have HC496 := aM (show y493.length ≤ c81 from by rw [hy81, hc81]; exact Nat.sub_le_sub_right (Nat.le_trans (by omega) hroom81) _)
              clear hr81 hC81 hroom81 hi081 hsz81 hc81
              have KY81 := aM hy81
              have KA81 := aM hA81
              clear hy81 hA81
              have KL81 := aM (show ((wrap64 (x9_3 + 1)) : Int).toNat ≤ t454.length from by omega)
              have KM81 := aM (show (x9_3 : Int).toNat ≤ ((wrap64 (x9_3 + 1)) : Int).toNat from by omega)
              replace q81 := eq_true q81
              refine start_ (n := 13) (S := fun w' => w'.cell? ⟨gb457, 0, none⟩ = some (.int .i64 x458000_3) ∧ w'.cell? ⟨gb457, 1, none⟩ = some (.int .i64 x458001_3) ∧ w'.cell? ⟨gb457, 2, none⟩ = some (.bool x458002_3) ∧ w'.cell? ⟨gb457, 3, none⟩ = some (.bool x458003_3) ∧ w'.cell? ⟨gb457, 4, none⟩ = some (.bool x458004_3)) (ds := []) #[false, false, false, false, false, false, false, false, false, false, false, false, false] (by kernel_rfl) rfl rfl ⟨(blk_cell BK457.out 0).trans rfl, (blk_cell BK457.out 1).trans rfl, (blk_cell BK457.out 2).trans rfl, (blk_cell BK457.out 3).trans rfl, (blk_cell BK457.out 4).trans rfl⟩ (fun hHeld => ?_); refine with_tabW laws_FnDoors.tab14 laws_FnDoors.bits14 (fun HT_ HW_ => ?_)
              generalize w79.drew = w80 at HO_4 HO491 BK457 BK466 BK475 BK492 HB HR496 hHeld ⊢
              refine pure_ (i := 1) (N := some 83) (v := ?_) (a' := ?_) #[false, true, false, false, false, false, false, false, false, false, false, false, false] rfl rfl (any_of HT_.out (by kernel_rfl)) (fun _ _ _ h => h) (Or.inl ⟨by rfl, ?_⟩) ?_ ?_
              rotate_left
              ·intro w'
               go_simp
               with_reducible rfl
              rotate_left
              ·simp only [Act.put, List.setIfInBounds_toArray, List.set_cons_zero, List.set_cons_succ, i64_w, i32_w]
               rfl
              refine pure_ (i := 2) (N := some 84) (v := ?_) (a' := ?_) #[false, true, true, false, false, false, false, false, false, false, false, false, false] rfl rfl (any_of HT_.out (by kernel_rfl)) (fun _ _ _ h => h) (Or.inl ⟨by rfl, ?_⟩) ?_ ?_
              rotate_left
              ·intro w'
               go_simp
               with_reducible rfl
              rotate_left
              ·simp only [Act.put, List.setIfInBounds_toArray, List.set_cons_zero, List.set_cons_succ, i64_w, i32_w]
               rfl
              refine pure_ (i := 3) (N := some 85) (v := ?_) (a' := ?_) #[false, true, true, true, false, false, false, false, false, false, false, false, false] rfl rfl (any_of HT_.out (by kernel_rfl)) (fun _ _ _ h => h) (Or.inl ⟨by rfl, ?_⟩) ?_ ?_
              rotate_left
              ·intro w'
               go_simp
               with_reducible rfl
              rotate_left
              ·simp only [Act.put, List.setIfInBounds_toArray, List.set_cons_zero, List.set_cons_succ, i64_w, i32_w]
               rfl
              refine pure_ (i := 4) (N := some 86) (v := ?_) (a' := ?_) #[false, true, true, true, true, false, false, false, false, false, false, false, false] rfl rfl (any_of HT_.out (by kernel_rfl)) (fun _ _ _ h => h) (Or.inl ⟨by rfl, ?_⟩) ?_ ?_
              rotate_left
              ·intro w'
               go_simp
               with_reducible rfl
              rotate_left
              ·simp only [Act.put, List.setIfInBounds_toArray, List.set_cons_zero, List.set_cons_succ, i64_w, i32_w]
               rfl
              refine pure_ (i := 5) (N := some 87) (v := ?_) (a' := ?_) #[false, true, true, true, true, true, false, false, false, false, false, false, false] rfl rfl (any_of HT_.out (by kernel_rfl)) (fun _ _ _ h => h) (Or.inl ⟨by rfl, ?_⟩) ?_ ?_
              rotate_left
              ·intro w'
               go_simp
               with_reducible rfl
              rotate_left
              ·simp only [Act.put, List.setIfInBounds_toArray, List.set_cons_zero, List.set_cons_succ, i64_w, i32_w]
               rfl
              refine take_ (i := 0) (N := some 82) (v := ?_) (a' := ?_) #[true, true, true, true, true, true, false, false, false, false, false, false, false] rfl rfl (take_ofW HT_.out HW_.out (by kernel_rfl)) (fun _ _ _ h => h) (Or.inl ⟨by rfl, ?_⟩) hHeld ?_ ?_
              rotate_left
              ·rintro w' ⟨s0, s1, s2, s3, s4⟩
               go_simp
               with_reducible rfl
              rotate_left
              ·simp only [Act.put, List.setIfInBounds_toArray, List.set_cons_zero, List.set_cons_succ, i64_w, i32_w]
               rfl
              refine join_ (σ := Value × Nat) 2 #[true, true, true, true, true, true, true, true, true, true, true, false, false] (fun s_ => [(88, .tuple #[.agg #[.int .i64 t497, .int .i64 t498, .bool t499, .bool t500, .bool t501], s_.1]), (12, .pointer (some ⟨s_.2, 0, none⟩)), (81, .tuple #[.agg #[.int .i64 t497, .int .i64 t498, .bool t499, .bool t500, .bool t501], s_.1]), (89, .agg #[.int .i64 t497, .int .i64 t498, .bool t499, .bool t500, .bool t501]), (90, s_.1)]) (fun s_ w' => (w'.cell? ⟨gb457, 0, none⟩ = some (.int .i64 x458000_3) ∧ w'.cell? ⟨gb457, 1, none⟩ = some (.int .i64 x458001_3) ∧ w'.cell? ⟨gb457, 2, none⟩ = some (.bool x458002_3) ∧ w'.cell? ⟨gb457, 3, none⟩ = some (.bool x458003_3) ∧ w'.cell? ⟨gb457, 4, none⟩ = some (.bool x458004_3)) ∧ (Kd.R (Kd.int .i64) 3 w' w.heap.size (fun k_ => some k_ ≠ (s_.1 : Value).ownBlock ∧ some k_ ≠ (.slice Ao11 t454.length co11 : Value).ownBlock) v490 t489) ∧ (Kd.R (Kd.int .i64) 3 w' w.heap.size (fun k_ => some k_ ≠ (v490 : Value).ownBlock ∧ some k_ ≠ (.slice Ao11 t454.length co11 : Value).ownBlock) s_.1 t502) ∧ (Kd.R (Kd.int .i64) 3 w' w.heap.size (fun k_ => some k_ ≠ (v490 : Value).ownBlock ∧ some k_ ≠ (s_.1 : Value).ownBlock) (.slice Ao11 t454.length co11) t454) ∧ (w'.heap[gb457]? = some (.cells #[.int .i64 x458000_3, .int .i64 x458001_3, .bool x458002_3, .bool x458003_3, .bool x458004_3] 24 (0, 0))) ∧ (w'.heap[gb466]? = some (.cells #[.int .i64 t458, .int .i64 t459, .bool t460, .bool t461, .bool t462] 24 (0, 0))) ∧ (w'.heap[gb475]? = some (.cells #[.int .i64 t467, .int .i64 t468, .bool t469, .bool t470, .bool t471] 24 (0, 0))) ∧ (w'.heap[gb492]? = some (.cells #[.int .i64 t484, .int .i64 t485, .bool t486, .bool t487, .bool t488] 24 (0, 0))) ∧ (w'.heap[s_.2]? = some (.cells #[.int .i64 0, .int .i64 0, .bool false, .bool false, .bool false] 24 (0, 0))) ∧ (w.heap.size ≤ s_.2) ∧ (w.heap.size ≤ s_.2) ∧ (gb457 ≠ s_.2) ∧ (s_.2 ≠ gb457) ∧ (gb466 ≠ s_.2) ∧ (s_.2 ≠ gb466) ∧ (gb475 ≠ s_.2) ∧ (s_.2 ≠ gb475) ∧ (gb492 ≠ s_.2) ∧ (s_.2 ≠ gb492) ∧ (Below w.heap.size w w')) ?_ ?_
              rotate_left
              ·intro hCont
               refine two_ (i := 6) (j := 10) (Ni := some 88) (Nj := some 12) #[true, true, true, true, true, true, true, false, false, false, false, false, false] #[true, true, true, true, true, true, false, false, false, false, true, false, false] rfl rfl rfl rfl (two_of HT_.out (by kernel_rfl)) (by decide) (by decide) (fun K hK => ?_) (fun K hK => ?_)
               ·skip
                refine goes_ Try.func43 (by kernel_rfl) rfl #[.agg #[.int .i64 x458000_3, .int .i64 x458001_3, .bool x458002_3, .bool x458003_3, .bool x458004_3], .slice A81 y493.length c81] (by rfl) rfl rfl za ?_
                with_reducible refine (spec_DoActs.calls k3 x458000_3 x458001_3 x458002_3 x458003_3 x458004_3 _ _ y493 t497 t498 t499 t500 t501 t502 _ ?side1 ?side2 A67.out).mono ?_
                (case side1 => repeat (first | exact (by repeat (first | (with_reducible exact HR496.out) | (with_reducible refine Kd.C_alloc ?_ _) | (with_reducible refine Kd.C_drewN ?_ _) | (with_reducible refine Kd.C_drew ?_) | exact HR496.out)) | (with_reducible refine Kd.C_alloc ?_ _) | (with_reducible refine Kd.C_drewN ?_ _) | (with_reducible refine Kd.C_drew ?_)))
                (case side2 => exact HC496.out)
                rintro e w82 ⟨v503, rfl, ho0, hb⟩
                refine ⟨_, rfl, ?_⟩
                have n0_ := aM (Kd.R_elder' (by (with_reducible repeat (first | apply Kd.R_alloc | apply Kd.R_drewN | apply Kd.R_drew)); exact HO_4.out) (Kd.R_base ho0) hb)
                have n1_ := aM (Kd.R_elder' (by (with_reducible repeat (first | apply Kd.R_alloc | apply Kd.R_drewN | apply Kd.R_drew)); exact HO491.out) (Kd.R_base ho0) hb)
                have n2_ := aM (Kd.R_lower (Kd.R_new' (Kd.R_new' ho0 (Kd.R_lt (by (with_reducible repeat (first | apply Kd.R_alloc | apply Kd.R_drewN | apply Kd.R_drew)); exact HO_4.out))) (Kd.R_lt (by (with_reducible repeat (first | apply Kd.R_alloc | apply Kd.R_drewN | apply Kd.R_drew)); exact HO491.out))) (below_size (zb)))
                have n3_ := aM (bb BK457.out hb)
                have n4_ := aM (bb BK466.out hb)
                have n5_ := aM (bb BK475.out hb)
                have n6_ := aM (bb BK492.out hb)
                have n7_ := aM (Kd.C_below (by repeat (first | (with_reducible exact HR496.out) | (with_reducible refine Kd.C_alloc ?_ _) | (with_reducible refine Kd.C_drewN ?_ _) | (with_reducible refine Kd.C_drew ?_) | exact HR496.out)) hb)
                have n8_ := aM (below_step (zb) hb)
                clear HO_4
                clear HO491
                clear BK457
                clear BK466
                clear BK475
                clear BK492
                clear HR496
                clear HB
                have HO_4 := n0_
                have HO491 := n1_
                have HO504 := n2_
                have BK457 := n3_
                have BK466 := n4_
                have BK475 := n5_
                have BK492 := n6_
                have HR496 := n7_
                have HB := n8_
                clear n0_ n1_ n2_ n3_ n4_ n5_ n6_ n7_ n8_
                (try clear hb)
                (try clear hb2)
                (try clear hk)
                (try clear hi)
                (try clear ho0)
                refine hK.out _ _ ⟨(blk_cell BK457.out 0).trans rfl, (blk_cell BK457.out 1).trans rfl, (blk_cell BK457.out 2).trans rfl, (blk_cell BK457.out 3).trans rfl, (blk_cell BK457.out 4).trans rfl⟩ (fun hHeld => ?_)
                clear hK K
                refine norm_ (a' := ?_) ?_ ?_
                rotate_left
                ·show Act.put _ (some 88) _ = _
                 simp only [Act.put, List.setIfInBounds_toArray, List.set_cons_zero, List.set_cons_succ, i64_w, i32_w]
                 rfl
                refine pure_ (i := 7) (N := some 81) (v := ?_) (a' := ?_) #[true, true, true, true, true, true, true, true, false, false, false, false, false] rfl rfl (any_of HT_.out (by kernel_rfl)) (fun _ _ _ h => h) (Or.inl ⟨by rfl, ?_⟩) ?_ ?_
                rotate_left
                ·intro w'
                 go_simp
                 with_reducible rfl
                rotate_left
                ·simp only [Act.put, List.setIfInBounds_toArray, List.set_cons_zero, List.set_cons_succ, i64_w, i32_w]
                 rfl
                refine pure_ (i := 8) (N := some 89) (v := ?_) (a' := ?_) #[true, true, true, true, true, true, true, true, true, false, false, false, false] rfl rfl (any_of HT_.out (by kernel_rfl)) (fun _ _ _ h => h) (Or.inl ⟨by rfl, ?_⟩) ?_ ?_
                rotate_left
                ·intro w'
                 go_simp
                 with_reducible rfl
                rotate_left
                ·simp only [Act.put, List.setIfInBounds_toArray, List.set_cons_zero, List.set_cons_succ, i64_w, i32_w]
                 rfl
                refine pure_ (i := 9) (N := some 90) (v := ?_) (a' := ?_) #[true, true, true, true, true, true, true, true, true, true, false, false, false] rfl rfl (any_of HT_.out (by kernel_rfl)) (fun _ _ _ h => h) (Or.inl ⟨by rfl, ?_⟩) ?_ ?_
                rotate_left
                ·intro w'
                 go_simp
                 with_reducible rfl
                rotate_left
                ·simp only [Act.put, List.setIfInBounds_toArray, List.set_cons_zero, List.set_cons_succ, i64_w, i32_w]
                 rfl
                refine one_ (i := 10) (N := some 12) #[true, true, true, true, true, true, true, true, true, true, true, false, false] rfl rfl (one_of HT_.out (by kernel_rfl)) (by decide) (fun K hK => ?_)
                refine box_step ?hg (N := 12) ?hd (cs := #[.int .i64 0, .int .i64 0, .bool false, .bool false, .bool false]) (t := 24) ?hr ?_; (case hd => rfl); (case hg => rfl); (case hr => exact zg)
                intro gb505 hg w83 hbox hb
                have n0_ := aM (Kd.R_below (by (with_reducible repeat (first | apply Kd.R_alloc | apply Kd.R_drewN | apply Kd.R_drew)); exact HO_4.out) hb)
                have n1_ := aM (Kd.R_below (by (with_reducible repeat (first | apply Kd.R_alloc | apply Kd.R_drewN | apply Kd.R_drew)); exact HO491.out) hb)
                have n2_ := aM (Kd.R_below (by (with_reducible repeat (first | apply Kd.R_alloc | apply Kd.R_drewN | apply Kd.R_drew)); exact HO504.out) hb)
                have n3_ := aM (bb BK457.out hb)
                have n4_ := aM (bb BK466.out hb)
                have n5_ := aM (bb BK475.out hb)
                have n6_ := aM (bb BK492.out hb)
                have n7_ := aM (Kd.C_below (by repeat (first | (with_reducible exact HR496.out) | (with_reducible refine Kd.C_alloc ?_ _) | (with_reducible refine Kd.C_drewN ?_ _) | (with_reducible refine Kd.C_drew ?_) | exact HR496.out)) hb)
                have n8_ := aM (below_step (zb) hb)
                have n9_ := aM (hbox)
                have n10_ := aM ((by rw [hg]; exact (below_size (zb)) : w.heap.size ≤ gb505))
                have n11_ := aM ((by rw [hg]; exact (below_size (zb)) : w.heap.size ≤ gb505))
                have n12_ := aM ((by rw [hg]; exact Nat.ne_of_lt (nl BK457.out) : gb457 ≠ gb505))
                have n13_ := aM ((by rw [hg]; exact Nat.ne_of_gt (nl BK457.out) : gb505 ≠ gb457))
                have n14_ := aM ((by rw [hg]; exact Nat.ne_of_lt (nl BK466.out) : gb466 ≠ gb505))
                have n15_ := aM ((by rw [hg]; exact Nat.ne_of_gt (nl BK466.out) : gb505 ≠ gb466))
                have n16_ := aM ((by rw [hg]; exact Nat.ne_of_lt (nl BK475.out) : gb475 ≠ gb505))
                have n17_ := aM ((by rw [hg]; exact Nat.ne_of_gt (nl BK475.out) : gb505 ≠ gb475))
                have n18_ := aM ((by rw [hg]; exact Nat.ne_of_lt (nl BK492.out) : gb492 ≠ gb505))
                have n19_ := aM ((by rw [hg]; exact Nat.ne_of_gt (nl BK492.out) : gb505 ≠ gb492))
                clear HO_4
                clear HO491
                clear HO504
                clear BK457
                clear BK466
                clear BK475
                clear BK492
                clear HR496
                clear HB
                have HO_4 := n0_
                have HO491 := n1_
                have HO504 := n2_
                have BK457 := n3_
                have BK466 := n4_
                have BK475 := n5_
                have BK492 := n6_
                have HR496 := n7_
                have HB := n8_
                have BK505 := n9_
                have GW505 := n10_
                have GE505 := n11_
                have NB457_505 := n12_
                have NB505_457 := n13_
                have NB466_505 := n14_
                have NB505_466 := n15_
                have NB475_505 := n16_
                have NB505_475 := n17_
                have NB492_505 := n18_
                have NB505_492 := n19_
                clear n0_ n1_ n2_ n3_ n4_ n5_ n6_ n7_ n8_ n9_ n10_ n11_ n12_ n13_ n14_ n15_ n16_ n17_ n18_ n19_
                clear hb hbox hg
                refine hK.out _ _ ⟨(blk_cell BK457.out 0).trans rfl, (blk_cell BK457.out 1).trans rfl, (blk_cell BK457.out 2).trans rfl, (blk_cell BK457.out 3).trans rfl, (blk_cell BK457.out 4).trans rfl⟩ (fun hHeld => ?_)
                clear hK K
                refine norm_ (a' := ?_) ?_ ?_
                rotate_left
                ·show Act.put _ (some 12) _ = _
                 simp only [Act.put, List.setIfInBounds_toArray, List.set_cons_zero, List.set_cons_succ, i64_w, i32_w]
                 rfl
                exact norm_ (by simp only [putAll, Act.put, List.setIfInBounds_toArray, List.set_cons_zero, List.set_cons_succ]) (hCont (v503, gb505) _ ⟨hHeld, (by (with_reducible repeat (first | apply Kd.R_alloc | apply Kd.R_drewN | apply Kd.R_drew)); exact Kd.R_mono HO491.out (fun _ hk => ⟨hk.2, hk.1⟩)), (by (with_reducible repeat (first | apply Kd.R_alloc | apply Kd.R_drewN | apply Kd.R_drew)); exact Kd.R_mono HO504.out (fun _ hk => ⟨hk.2, hk.1.2⟩)), (by (with_reducible repeat (first | apply Kd.R_alloc | apply Kd.R_drewN | apply Kd.R_drew)); exact HO_4.out), (by exact pk BK457.out), (by exact pk BK466.out), (by exact pk BK475.out), (by exact pk BK492.out), (by exact pk BK505.out), GW505.out, GE505.out, NB457_505.out, NB505_457.out, NB466_505.out, NB505_466.out, NB475_505.out, NB505_475.out, NB492_505.out, NB505_492.out, (zb)⟩)
               ·skip
                refine box_step ?hg (N := 12) ?hd (cs := #[.int .i64 0, .int .i64 0, .bool false, .bool false, .bool false]) (t := 24) ?hr ?_; (case hd => rfl); (case hg => rfl); (case hr => exact zg)
                intro gb505 hg w82 hbox hb
                have n0_ := aM (Kd.R_below (by (with_reducible repeat (first | apply Kd.R_alloc | apply Kd.R_drewN | apply Kd.R_drew)); exact HO_4.out) hb)
                have n1_ := aM (Kd.R_below (by (with_reducible repeat (first | apply Kd.R_alloc | apply Kd.R_drewN | apply Kd.R_drew)); exact HO491.out) hb)
                have n2_ := aM (bb BK457.out hb)
                have n3_ := aM (bb BK466.out hb)
                have n4_ := aM (bb BK475.out hb)
                have n5_ := aM (bb BK492.out hb)
                have n6_ := aM (Kd.C_below (by repeat (first | (with_reducible exact HR496.out) | (with_reducible refine Kd.C_alloc ?_ _) | (with_reducible refine Kd.C_drewN ?_ _) | (with_reducible refine Kd.C_drew ?_) | exact HR496.out)) hb)
                have n7_ := aM (below_step (zb) hb)
                have n8_ := aM (hbox)
                have n9_ := aM ((by rw [hg]; exact (below_size (zb)) : w.heap.size ≤ gb505))
                have n10_ := aM ((by rw [hg]; exact (below_size (zb)) : w.heap.size ≤ gb505))
                have n11_ := aM ((by rw [hg]; exact Nat.ne_of_lt (nl BK457.out) : gb457 ≠ gb505))
                have n12_ := aM ((by rw [hg]; exact Nat.ne_of_gt (nl BK457.out) : gb505 ≠ gb457))
                have n13_ := aM ((by rw [hg]; exact Nat.ne_of_lt (nl BK466.out) : gb466 ≠ gb505))
                have n14_ := aM ((by rw [hg]; exact Nat.ne_of_gt (nl BK466.out) : gb505 ≠ gb466))
                have n15_ := aM ((by rw [hg]; exact Nat.ne_of_lt (nl BK475.out) : gb475 ≠ gb505))
                have n16_ := aM ((by rw [hg]; exact Nat.ne_of_gt (nl BK475.out) : gb505 ≠ gb475))
                have n17_ := aM ((by rw [hg]; exact Nat.ne_of_lt (nl BK492.out) : gb492 ≠ gb505))
                have n18_ := aM ((by rw [hg]; exact Nat.ne_of_gt (nl BK492.out) : gb505 ≠ gb492))
                clear HO_4
                clear HO491
                clear BK457
                clear BK466
                clear BK475
                clear BK492
                clear HR496
                clear HB
                have HO_4 := n0_
                have HO491 := n1_
                have BK457 := n2_
                have BK466 := n3_
                have BK475 := n4_
                have BK492 := n5_
                have HR496 := n6_
                have HB := n7_
                have BK505 := n8_
                have GW505 := n9_
                have GE505 := n10_
                have NB457_505 := n11_
                have NB505_457 := n12_
                have NB466_505 := n13_
                have NB505_466 := n14_
                have NB475_505 := n15_
                have NB505_475 := n16_
                have NB492_505 := n17_
                have NB505_492 := n18_
                clear n0_ n1_ n2_ n3_ n4_ n5_ n6_ n7_ n8_ n9_ n10_ n11_ n12_ n13_ n14_ n15_ n16_ n17_ n18_
                clear hb hbox hg
                refine hK.out _ _ ⟨(blk_cell BK457.out 0).trans rfl, (blk_cell BK457.out 1).trans rfl, (blk_cell BK457.out 2).trans rfl, (blk_cell BK457.out 3).trans rfl, (blk_cell BK457.out 4).trans rfl⟩ (fun hHeld => ?_)
                clear hK K
                refine norm_ (a' := ?_) ?_ ?_
                rotate_left
                ·show Act.put _ (some 12) _ = _
                 simp only [Act.put, List.setIfInBounds_toArray, List.set_cons_zero, List.set_cons_succ, i64_w, i32_w]
                 rfl
                refine one_ (i := 6) (N := some 88) #[true, true, true, true, true, true, true, false, false, false, true, false, false] rfl rfl (one_of HT_.out (by kernel_rfl)) (by decide) (fun K hK => ?_)
                refine goes_ Try.func43 (by kernel_rfl) rfl #[.agg #[.int .i64 x458000_3, .int .i64 x458001_3, .bool x458002_3, .bool x458003_3, .bool x458004_3], .slice A81 y493.length c81] (by rfl) rfl rfl za ?_
                with_reducible refine (spec_DoActs.calls k3 x458000_3 x458001_3 x458002_3 x458003_3 x458004_3 _ _ y493 t497 t498 t499 t500 t501 t502 _ ?side1 ?side2 A67.out).mono ?_
                (case side1 => repeat (first | exact (by repeat (first | (with_reducible exact HR496.out) | (with_reducible refine Kd.C_alloc ?_ _) | (with_reducible refine Kd.C_drewN ?_ _) | (with_reducible refine Kd.C_drew ?_) | exact HR496.out)) | (with_reducible refine Kd.C_alloc ?_ _) | (with_reducible refine Kd.C_drewN ?_ _) | (with_reducible refine Kd.C_drew ?_)))
                (case side2 => exact HC496.out)
                rintro e w83 ⟨v503, rfl, ho0, hb⟩
                refine ⟨_, rfl, ?_⟩
                have n0_ := aM (Kd.R_elder' (by (with_reducible repeat (first | apply Kd.R_alloc | apply Kd.R_drewN | apply Kd.R_drew)); exact HO_4.out) (Kd.R_base ho0) hb)
                have n1_ := aM (Kd.R_elder' (by (with_reducible repeat (first | apply Kd.R_alloc | apply Kd.R_drewN | apply Kd.R_drew)); exact HO491.out) (Kd.R_base ho0) hb)
                have n2_ := aM (Kd.R_lower (Kd.R_new' (Kd.R_new' ho0 (Kd.R_lt (by (with_reducible repeat (first | apply Kd.R_alloc | apply Kd.R_drewN | apply Kd.R_drew)); exact HO_4.out))) (Kd.R_lt (by (with_reducible repeat (first | apply Kd.R_alloc | apply Kd.R_drewN | apply Kd.R_drew)); exact HO491.out))) (below_size (zb)))
                have n3_ := aM (bb BK457.out hb)
                have n4_ := aM (bb BK466.out hb)
                have n5_ := aM (bb BK475.out hb)
                have n6_ := aM (bb BK492.out hb)
                have n7_ := aM (Kd.C_below (by repeat (first | (with_reducible exact HR496.out) | (with_reducible refine Kd.C_alloc ?_ _) | (with_reducible refine Kd.C_drewN ?_ _) | (with_reducible refine Kd.C_drew ?_) | exact HR496.out)) hb)
                have n8_ := aM (bb BK505.out hb)
                have n9_ := aM (below_step (zb) hb)
                clear HO_4
                clear HO491
                clear BK457
                clear BK466
                clear BK475
                clear BK492
                clear HR496
                clear BK505
                clear HB
                have HO_4 := n0_
                have HO491 := n1_
                have HO504 := n2_
                have BK457 := n3_
                have BK466 := n4_
                have BK475 := n5_
                have BK492 := n6_
                have HR496 := n7_
                have BK505 := n8_
                have HB := n9_
                clear n0_ n1_ n2_ n3_ n4_ n5_ n6_ n7_ n8_ n9_
                (try clear hb)
                (try clear hb2)
                (try clear hk)
                (try clear hi)
                (try clear ho0)
                refine hK.out _ _ ⟨(blk_cell BK457.out 0).trans rfl, (blk_cell BK457.out 1).trans rfl, (blk_cell BK457.out 2).trans rfl, (blk_cell BK457.out 3).trans rfl, (blk_cell BK457.out 4).trans rfl⟩ (fun hHeld => ?_)
                clear hK K
                refine norm_ (a' := ?_) ?_ ?_
                rotate_left
                ·show Act.put _ (some 88) _ = _
                 simp only [Act.put, List.setIfInBounds_toArray, List.set_cons_zero, List.set_cons_succ, i64_w, i32_w]
                 rfl
                refine pure_ (i := 7) (N := some 81) (v := ?_) (a' := ?_) #[true, true, true, true, true, true, true, true, false, false, true, false, false] rfl rfl (any_of HT_.out (by kernel_rfl)) (fun _ _ _ h => h) (Or.inl ⟨by rfl, ?_⟩) ?_ ?_
                rotate_left
                ·intro w'
                 go_simp
                 with_reducible rfl
                rotate_left
                ·simp only [Act.put, List.setIfInBounds_toArray, List.set_cons_zero, List.set_cons_succ, i64_w, i32_w]
                 rfl
                refine pure_ (i := 8) (N := some 89) (v := ?_) (a' := ?_) #[true, true, true, true, true, true, true, true, true, false, true, false, false] rfl rfl (any_of HT_.out (by kernel_rfl)) (fun _ _ _ h => h) (Or.inl ⟨by rfl, ?_⟩) ?_ ?_
                rotate_left
                ·intro w'
                 go_simp
                 with_reducible rfl
                rotate_left
                ·simp only [Act.put, List.setIfInBounds_toArray, List.set_cons_zero, List.set_cons_succ, i64_w, i32_w]
                 rfl
                refine pure_ (i := 9) (N := some 90) (v := ?_) (a' := ?_) #[true, true, true, true, true, true, true, true, true, true, true, false, false] rfl rfl (any_of HT_.out (by kernel_rfl)) (fun _ _ _ h => h) (Or.inl ⟨by rfl, ?_⟩) ?_ ?_
                rotate_left
                ·intro w'
                 go_simp
                 with_reducible rfl
                rotate_left
                ·simp only [Act.put, List.setIfInBounds_toArray, List.set_cons_zero, List.set_cons_succ, i64_w, i32_w]
                 rfl
                exact norm_ (by simp only [putAll, Act.put, List.setIfInBounds_toArray, List.set_cons_zero, List.set_cons_succ]) (hCont (v503, gb505) _ ⟨hHeld, (by (with_reducible repeat (first | apply Kd.R_alloc | apply Kd.R_drewN | apply Kd.R_drew)); exact Kd.R_mono HO491.out (fun _ hk => ⟨hk.2, hk.1⟩)), (by (with_reducible repeat (first | apply Kd.R_alloc | apply Kd.R_drewN | apply Kd.R_drew)); exact Kd.R_mono HO504.out (fun _ hk => ⟨hk.2, hk.1.2⟩)), (by (with_reducible repeat (first | apply Kd.R_alloc | apply Kd.R_drewN | apply Kd.R_drew)); exact HO_4.out), (by exact pk BK457.out), (by exact pk BK466.out), (by exact pk BK475.out), (by exact pk BK492.out), (by exact pk BK505.out), GW505.out, GE505.out, NB457_505.out, NB505_457.out, NB466_505.out, NB505_466.out, NB475_505.out, NB505_475.out, NB492_505.out, NB505_492.out, (zb)⟩)
              rintro ⟨v503, gb505⟩ w84 ⟨hS_, h0_, h1_, h2_, h3_, h4_, h5_, h6_, h7_, h8_, h9_, h10_, h11_, h12_, h13_, h14_, h15_, h16_, h17_, h18_⟩
              have n0_ : Aside0 (Kd.R (Kd.int .i64) 3 w84 w.heap.size (fun k_ => some k_ ≠ (v503 : Value).ownBlock ∧ some k_ ≠ (.slice Ao11 t454.length co11 : Value).ownBlock) v490 t489) := ⟨h0_⟩
              have n1_ : Aside0 (Kd.R (Kd.int .i64) 3 w84 w.heap.size (fun k_ => some k_ ≠ (v490 : Value).ownBlock ∧ some k_ ≠ (.slice Ao11 t454.length co11 : Value).ownBlock) v503 t502) := ⟨h1_⟩
              have n2_ : Aside0 (Kd.R (Kd.int .i64) 3 w84 w.heap.size (fun k_ => some k_ ≠ (v490 : Value).ownBlock ∧ some k_ ≠ (v503 : Value).ownBlock) (.slice Ao11 t454.length co11) t454) := ⟨h2_⟩
              have n3_ : Aside0 (w84.heap[gb457]? = some (.cells #[.int .i64 x458000_3, .int .i64 x458001_3, .bool x458002_3, .bool x458003_3, .bool x458004_3] 24 (0, 0))) := ⟨h3_⟩
              have n4_ : Aside0 (w84.heap[gb466]? = some (.cells #[.int .i64 t458, .int .i64 t459, .bool t460, .bool t461, .bool t462] 24 (0, 0))) := ⟨h4_⟩
              have n5_ : Aside0 (w84.heap[gb475]? = some (.cells #[.int .i64 t467, .int .i64 t468, .bool t469, .bool t470, .bool t471] 24 (0, 0))) := ⟨h5_⟩
              have n6_ : Aside0 (w84.heap[gb492]? = some (.cells #[.int .i64 t484, .int .i64 t485, .bool t486, .bool t487, .bool t488] 24 (0, 0))) := ⟨h6_⟩
              have n7_ : Aside0 (w84.heap[gb505]? = some (.cells #[.int .i64 0, .int .i64 0, .bool false, .bool false, .bool false] 24 (0, 0))) := ⟨h7_⟩
              have n8_ : Aside0 (w.heap.size ≤ gb505) := ⟨h8_⟩
              have n9_ : Aside0 (w.heap.size ≤ gb505) := ⟨h9_⟩
              have n10_ : Aside0 (gb457 ≠ gb505) := ⟨h10_⟩
              have n11_ : Aside0 (gb505 ≠ gb457) := ⟨h11_⟩
              have n12_ : Aside0 (gb466 ≠ gb505) := ⟨h12_⟩
              have n13_ : Aside0 (gb505 ≠ gb466) := ⟨h13_⟩
              have n14_ : Aside0 (gb475 ≠ gb505) := ⟨h14_⟩
              have n15_ : Aside0 (gb505 ≠ gb475) := ⟨h15_⟩
              have n16_ : Aside0 (gb492 ≠ gb505) := ⟨h16_⟩
              have n17_ : Aside0 (gb505 ≠ gb492) := ⟨h17_⟩
              have n18_ : Aside0 (Below w.heap.size w w84) := ⟨h18_⟩
              clear HO_4
              clear HO491
              clear BK457
              clear BK466
              clear BK475
              clear BK492
              clear HB
              clear h0_ h1_ h2_ h3_ h4_ h5_ h6_ h7_ h8_ h9_ h10_ h11_ h12_ h13_ h14_ h15_ h16_ h17_ h18_
              have HO491 := n0_
              have HO504 := n1_
              have HO_4 := n2_
              have BK457 := n3_
              have BK466 := n4_
              have BK475 := n5_
              have BK492 := n6_
              have BK505 := n7_
              have GW505 := n8_
              have GE505 := n9_
              have NB457_505 := n10_
              have NB505_457 := n11_
              have NB466_505 := n12_
              have NB505_466 := n13_
              have NB475_505 := n14_
              have NB505_475 := n15_
              have NB492_505 := n16_
              have NB505_492 := n17_
              have HB := n18_
              clear n0_ n1_ n2_ n3_ n4_ n5_ n6_ n7_ n8_ n9_ n10_ n11_ n12_ n13_ n14_ n15_ n16_ n17_ n18_
              have hHeld : w84.cell? ⟨gb457, 0, none⟩ = some (.int .i64 x458000_3) ∧ w84.cell? ⟨gb457, 1, none⟩ = some (.int .i64 x458001_3) ∧ w84.cell? ⟨gb457, 2, none⟩ = some (.bool x458002_3) ∧ w84.cell? ⟨gb457, 3, none⟩ = some (.bool x458003_3) ∧ w84.cell? ⟨gb457, 4, none⟩ = some (.bool x458004_3) := hS_
              refine norm_ (a' := ?_) ?_ ?_
              rotate_left
              ·simp only [putAll, Act.put, List.setIfInBounds_toArray, List.set_cons_zero, List.set_cons_succ]
               rfl
              refine one_ (i := 11) (N := none) #[true, true, true, true, true, true, true, true, true, true, true, true, false] rfl rfl (one_of HT_.out (by kernel_rfl)) (by decide) (fun K hK => ?_)
              have hs85 : w84.cell? ⟨gb505, 0, none⟩ = some (.int .i64 0) := (blk_cell BK505.out 0).trans rfl
              have hfs85 := blk_frozen BK505.out 0
              have hns85_0 := NB457_505.out
              have hns85_1 := NB466_505.out
              have hns85_2 := NB475_505.out
              have hns85_3 := NB492_505.out
              have hms85_0 := NB505_457.out
              have hms85_1 := NB505_466.out
              have hms85_2 := NB505_475.out
              have hms85_3 := NB505_492.out
              have hs86 : w84.cell? ⟨gb505, 1, none⟩ = some (.int .i64 0) := (blk_cell BK505.out 1).trans rfl
              have hfs86 := blk_frozen BK505.out 1
              have hns86_0 := NB457_505.out
              have hns86_1 := NB466_505.out
              have hns86_2 := NB475_505.out
              have hns86_3 := NB492_505.out
              have hms86_0 := NB505_457.out
              have hms86_1 := NB505_466.out
              have hms86_2 := NB505_475.out
              have hms86_3 := NB505_492.out
              have hs87 : w84.cell? ⟨gb505, 2, none⟩ = some (.bool false) := (blk_cell BK505.out 2).trans rfl
              have hfs87 := blk_frozen BK505.out 2
              have hns87_0 := NB457_505.out
              have hns87_1 := NB466_505.out
              have hns87_2 := NB475_505.out
              have hns87_3 := NB492_505.out
              have hms87_0 := NB505_457.out
              have hms87_1 := NB505_466.out
              have hms87_2 := NB505_475.out
              have hms87_3 := NB505_492.out
              have hs88 : w84.cell? ⟨gb505, 3, none⟩ = some (.bool false) := (blk_cell BK505.out 3).trans rfl
              have hfs88 := blk_frozen BK505.out 3
              have hns88_0 := NB457_505.out
              have hns88_1 := NB466_505.out
              have hns88_2 := NB475_505.out
              have hns88_3 := NB492_505.out
              have hms88_0 := NB505_457.out
              have hms88_1 := NB505_466.out
              have hms88_2 := NB505_475.out
              have hms88_3 := NB505_492.out
              have hs89 : w84.cell? ⟨gb505, 4, none⟩ = some (.bool false) := (blk_cell BK505.out 4).trans rfl
              have hfs89 := blk_frozen BK505.out 4
              have hns89_0 := NB457_505.out
              have hns89_1 := NB466_505.out
              have hns89_2 := NB475_505.out
              have hns89_3 := NB492_505.out
              have hms89_0 := NB505_457.out
              have hms89_1 := NB505_466.out
              have hms89_2 := NB505_475.out
              have hms89_3 := NB505_492.out
              refine skip_ (w1 := ?_) (by rfl) rfl ?_ ?_
              rotate_left
              ·go_simp
               rfl
              refine hK.out _ _ ⟨((cell_far (p := ⟨gb505, _, none⟩) NB457_505.out _).trans (((cell_far (p := ⟨gb505, _, none⟩) NB457_505.out _).trans (((cell_far (p := ⟨gb505, _, none⟩) NB457_505.out _).trans (((cell_far (p := ⟨gb505, _, none⟩) NB457_505.out _).trans (((cell_far (p := ⟨gb505, _, none⟩) NB457_505.out _).trans (hHeld.1)))))))))), ((cell_far (p := ⟨gb505, _, none⟩) NB457_505.out _).trans (((cell_far (p := ⟨gb505, _, none⟩) NB457_505.out _).trans (((cell_far (p := ⟨gb505, _, none⟩) NB457_505.out _).trans (((cell_far (p := ⟨gb505, _, none⟩) NB457_505.out _).trans (((cell_far (p := ⟨gb505, _, none⟩) NB457_505.out _).trans (hHeld.2.1)))))))))), ((cell_far (p := ⟨gb505, _, none⟩) NB457_505.out _).trans (((cell_far (p := ⟨gb505, _, none⟩) NB457_505.out _).trans (((cell_far (p := ⟨gb505, _, none⟩) NB457_505.out _).trans (((cell_far (p := ⟨gb505, _, none⟩) NB457_505.out _).trans (((cell_far (p := ⟨gb505, _, none⟩) NB457_505.out _).trans (hHeld.2.2.1)))))))))), ((cell_far (p := ⟨gb505, _, none⟩) NB457_505.out _).trans (((cell_far (p := ⟨gb505, _, none⟩) NB457_505.out _).trans (((cell_far (p := ⟨gb505, _, none⟩) NB457_505.out _).trans (((cell_far (p := ⟨gb505, _, none⟩) NB457_505.out _).trans (((cell_far (p := ⟨gb505, _, none⟩) NB457_505.out _).trans (hHeld.2.2.2.1)))))))))), ((cell_far (p := ⟨gb505, _, none⟩) NB457_505.out _).trans (((cell_far (p := ⟨gb505, _, none⟩) NB457_505.out _).trans (((cell_far (p := ⟨gb505, _, none⟩) NB457_505.out _).trans (((cell_far (p := ⟨gb505, _, none⟩) NB457_505.out _).trans (((cell_far (p := ⟨gb505, _, none⟩) NB457_505.out _).trans (hHeld.2.2.2.2))))))))))⟩ (fun hHeld => ?_)
              clear hK K
              refine pure_ (i := 12) (N := some 13) (v := ?_) (a' := ?_) #[true, true, true, true, true, true, true, true, true, true, true, true, true] rfl rfl (any_of HT_.out (by kernel_rfl)) (fun _ _ _ h => h) (Or.inl ⟨by rfl, ?_⟩) ?_ ?_
              rotate_left
              ·intro w'
               go_simp
               with_reducible rfl
              rotate_left
              ·simp only [Act.put, List.setIfInBounds_toArray, List.set_cons_zero, List.set_cons_succ, i64_w, i32_w]
               rfl
              refine done_ (done_of HT_.out (by kernel_rfl)) ?_
              go_upto_region 15 with (fail)
              go_cut [98] (fun v98 wc => ∃ (kq : Nat) (x98_67 : Bool), v98 = .bool x98_67 ∧ Aside0 (laws_FnDoors.j3 kq t454 x9_3 x98_67 x458000_3 x458001_3 x458002_3 x458003_3 x458004_3 t497 t498 t499 t500 t501 = some r) ∧ Aside0 (kq ≤ k3) ∧ Aside0 (Kd.R (Kd.int .i64) 3 wc w.heap.size (fun _ => True) (.slice Ao11 t454.length co11) t454) ∧ Aside0 (wc.heap[gb457]? = some (.cells #[.int .i64 x458000_3, .int .i64 x458001_3, .bool x458002_3, .bool x458003_3, .bool x458004_3] 24 (0, 0))) ∧ Aside0 (wc.heap[gb466]? = some (.cells #[.int .i64 t458, .int .i64 t459, .bool t460, .bool t461, .bool t462] 24 (0, 0))) ∧ Aside0 (wc.heap[gb475]? = some (.cells #[.int .i64 t467, .int .i64 t468, .bool t469, .bool t470, .bool t471] 24 (0, 0))) ∧ Aside0 (wc.heap[gb492]? = some (.cells #[.int .i64 t484, .int .i64 t485, .bool t486, .bool t487, .bool t488] 24 (0, 0))) ∧ Aside0 (wc.heap[gb505]? = some (.cells #[.int .i64 t497, .int .i64 t498, .bool t499, .bool t500, .bool t501] 24 (0, 0))) ∧ Aside0 (Below w.heap.size w wc))
              case first =>
               have H := HC68.out
               clear HC68
               by_cases c90 : (!(t484 == t497) || (!(t485 == t498) || (!(t486 == t499) || (!(t487 == t500) || (!(t488 == t501)))))) = true
               ·rw [if_pos c90] at H
                have c90b0 : (!(t484 == t497) || (!(t485 == t498) || (!(t486 == t499) || (!(t487 == t500) || (!(t488 == t501)))))) = true := c90
                clear c90
                (first | rw [c90b0] | (simp only [i64_w, i32_w]; rw [c90b0]) | skip)
                have H' := aM H
                clear H
                have hnb91 := NB492_457.out
                have hnc91 := NB457_492.out
                have hnb92 := NB492_466.out
                have hnc92 := NB466_492.out
                have hnb93 := NB492_475.out
                have hnc93 := NB475_492.out
                have hnb94 := NB492_505.out
                have hnc94 := NB505_492.out
                obtain ⟨hcz95_0, hcz95_1, hcz95_2, hcz95_3, hcz95_4, hfz95_0, hfz95_1, hfz95_2, hfz95_3, hfz95_4⟩ := cells5 BK492.out
                have hnb96 := NB505_457.out
                have hnc96 := NB457_505.out
                have hnb97 := NB505_466.out
                have hnc97 := NB466_505.out
                have hnb98 := NB505_475.out
                have hnc98 := NB475_505.out
                obtain ⟨hcz99_0, hcz99_1, hcz99_2, hcz99_3, hcz99_4, hfz99_0, hfz99_1, hfz99_2, hfz99_3, hfz99_4⟩ := cells5 BK505.out
                go_wp2
                go_meet
                case rel => exact ⟨_, (true), zs, H', ⟨by have := HJ6.out; have := HJ39.out; have := HK3.out; first | omega | exact Nat.le_refl _⟩, ⟨by (with_reducible repeat (first | apply Kd.R_alloc | apply Kd.R_drewN | apply Kd.R_drew)); exact Kd.R_mono (Kd.R_far (p := ⟨gb505, 4, none⟩) (Kd.R_far (p := ⟨gb505, 3, none⟩) (Kd.R_far (p := ⟨gb505, 2, none⟩) (Kd.R_far (p := ⟨gb505, 1, none⟩) (Kd.R_far (p := ⟨gb505, 0, none⟩) (Kd.R_types HO_4.out BK505.out (by decide)) (fun _ hk => hk.2) (.int .i64 t497)) (fun _ hk => hk.2) (.int .i64 t498)) (fun _ hk => hk.2) (.bool t499)) (fun _ hk => hk.2) (.bool t500)) (fun _ hk => hk.2) (.bool t501)) (fun _ hk => trivial)⟩, ⟨by refine pq ?_; refine blk_far ?_ NB457_505.out _; refine pq ?_; refine blk_far ?_ NB457_505.out _; refine pq ?_; refine blk_far ?_ NB457_505.out _; refine pq ?_; refine blk_far ?_ NB457_505.out _; refine pq ?_; refine blk_far ?_ NB457_505.out _; refine pq ?_; exact BK457.out⟩, ⟨by refine pq ?_; refine blk_far ?_ NB466_505.out _; refine pq ?_; refine blk_far ?_ NB466_505.out _; refine pq ?_; refine blk_far ?_ NB466_505.out _; refine pq ?_; refine blk_far ?_ NB466_505.out _; refine pq ?_; refine blk_far ?_ NB466_505.out _; refine pq ?_; exact BK466.out⟩, ⟨by refine pq ?_; refine blk_far ?_ NB475_505.out _; refine pq ?_; refine blk_far ?_ NB475_505.out _; refine pq ?_; refine blk_far ?_ NB475_505.out _; refine pq ?_; refine blk_far ?_ NB475_505.out _; refine pq ?_; refine blk_far ?_ NB475_505.out _; refine pq ?_; exact BK475.out⟩, ⟨by refine pq ?_; refine blk_far ?_ NB492_505.out _; refine pq ?_; refine blk_far ?_ NB492_505.out _; refine pq ?_; refine blk_far ?_ NB492_505.out _; refine pq ?_; refine blk_far ?_ NB492_505.out _; refine pq ?_; refine blk_far ?_ NB492_505.out _; refine pq ?_; exact BK492.out⟩, ⟨by refine pq ?_; refine blk_put (cs := #[.int .i64 t497, .int .i64 t498, .bool t499, .bool t500, .bool false]) ?_ 4 _ rfl; refine pq ?_; refine blk_put (cs := #[.int .i64 t497, .int .i64 t498, .bool t499, .bool false, .bool false]) ?_ 3 _ rfl; refine pq ?_; refine blk_put (cs := #[.int .i64 t497, .int .i64 t498, .bool false, .bool false, .bool false]) ?_ 2 _ rfl; refine pq ?_; refine blk_put (cs := #[.int .i64 t497, .int .i64 0, .bool false, .bool false, .bool false]) ?_ 1 _ rfl; refine pq ?_; refine blk_put (cs := #[.int .i64 0, .int .i64 0, .bool false, .bool false, .bool false]) ?_ 0 _ rfl; refine pq ?_; exact BK505.out⟩, ⟨zb⟩⟩
               ·rw [if_neg c90] at H
                have c90b0 : (!(t484 == t497) || (!(t485 == t498) || (!(t486 == t499) || (!(t487 == t500) || (!(t488 == t501)))))) = false := by simpa using c90
                clear c90
                (first | rw [c90b0] | (simp only [i64_w, i32_w]; rw [c90b0]) | skip)
                replace H := Option.bind_eq_some_iff.mp H
                obtain ⟨t506, A1000, H⟩ := H
                replace H : (laws_FnDoors.j3 k3 t454 x9_3 (!t506) x458000_3 x458001_3 x458002_3 x458003_3 x458004_3 t497 t498 t499 t500 t501) = some r := H
                have A100 := aM A1000
                clear A1000
                have H' := aM H
                clear H
                have hnb101 := NB492_457.out
                have hnc101 := NB457_492.out
                have hnb102 := NB492_466.out
                have hnc102 := NB466_492.out
                have hnb103 := NB492_475.out
                have hnc103 := NB475_492.out
                have hnb104 := NB492_505.out
                have hnc104 := NB505_492.out
                obtain ⟨hcz105_0, hcz105_1, hcz105_2, hcz105_3, hcz105_4, hfz105_0, hfz105_1, hfz105_2, hfz105_3, hfz105_4⟩ := cells5 BK492.out
                have hnb106 := NB505_457.out
                have hnc106 := NB457_505.out
                have hnb107 := NB505_466.out
                have hnc107 := NB466_505.out
                have hnb108 := NB505_475.out
                have hnc108 := NB475_505.out
                obtain ⟨hcz109_0, hcz109_1, hcz109_2, hcz109_3, hcz109_4, hfz109_0, hfz109_1, hfz109_2, hfz109_3, hfz109_4⟩ := cells5 BK505.out
                go_wp2_with (first | (go_at_call 30; (with_reducible refine (impl_DoorOk.calls k3 t497 t498 t499 t500 t501 t506 _ A100.out).mono ?_); rintro e w110 ⟨rfl, hb⟩; have n0_ := aM (Kd.R_below (by (with_reducible repeat (first | apply Kd.R_alloc | apply Kd.R_drewN | apply Kd.R_drew)); exact (Kd.R_mono (Kd.R_far (p := ⟨gb505, 4, none⟩) (Kd.R_far (p := ⟨gb505, 3, none⟩) (Kd.R_far (p := ⟨gb505, 2, none⟩) (Kd.R_far (p := ⟨gb505, 1, none⟩) (Kd.R_far (p := ⟨gb505, 0, none⟩) (Kd.R_types HO_4.out BK505.out (by decide)) (fun _ hk => hk.2) (.int .i64 t497)) (fun _ hk => hk.2) (.int .i64 t498)) (fun _ hk => hk.2) (.bool t499)) (fun _ hk => hk.2) (.bool t500)) (fun _ hk => hk.2) (.bool t501)) (fun _ h_ => h_.1))) hb); have n1_ := aM (Kd.R_below (by (with_reducible repeat (first | apply Kd.R_alloc | apply Kd.R_drewN | apply Kd.R_drew)); exact (Kd.R_mono (Kd.R_far (p := ⟨gb505, 4, none⟩) (Kd.R_far (p := ⟨gb505, 3, none⟩) (Kd.R_far (p := ⟨gb505, 2, none⟩) (Kd.R_far (p := ⟨gb505, 1, none⟩) (Kd.R_far (p := ⟨gb505, 0, none⟩) (Kd.R_types HO491.out BK505.out (by decide)) (fun _ hk => hk.2) (.int .i64 t497)) (fun _ hk => hk.2) (.int .i64 t498)) (fun _ hk => hk.2) (.bool t499)) (fun _ hk => hk.2) (.bool t500)) (fun _ hk => hk.2) (.bool t501)) (fun _ h_ => h_.1))) hb); have n2_ := aM (Kd.R_below (by (with_reducible repeat (first | apply Kd.R_alloc | apply Kd.R_drewN | apply Kd.R_drew)); exact (Kd.R_mono (Kd.R_far (p := ⟨gb505, 4, none⟩) (Kd.R_far (p := ⟨gb505, 3, none⟩) (Kd.R_far (p := ⟨gb505, 2, none⟩) (Kd.R_far (p := ⟨gb505, 1, none⟩) (Kd.R_far (p := ⟨gb505, 0, none⟩) (Kd.R_types HO504.out BK505.out (by decide)) (fun _ hk => hk.2) (.int .i64 t497)) (fun _ hk => hk.2) (.int .i64 t498)) (fun _ hk => hk.2) (.bool t499)) (fun _ hk => hk.2) (.bool t500)) (fun _ hk => hk.2) (.bool t501)) (fun _ h_ => h_.1))) hb); have n3_ := aM (blk_below (g := gb457) (o := .cells #[.int .i64 x458000_3, .int .i64 x458001_3, .bool x458002_3, .bool x458003_3, .bool x458004_3] 24 (0, 0)) (by refine pq ?_; refine blk_far ?_ NB457_505.out _; refine pq ?_; refine blk_far ?_ NB457_505.out _; refine pq ?_; refine blk_far ?_ NB457_505.out _; refine pq ?_; refine blk_far ?_ NB457_505.out _; refine pq ?_; refine blk_far ?_ NB457_505.out _; refine pq ?_; exact BK457.out) hb); have n4_ := aM (blk_below (g := gb466) (o := .cells #[.int .i64 t458, .int .i64 t459, .bool t460, .bool t461, .bool t462] 24 (0, 0)) (by refine pq ?_; refine blk_far ?_ NB466_505.out _; refine pq ?_; refine blk_far ?_ NB466_505.out _; refine pq ?_; refine blk_far ?_ NB466_505.out _; refine pq ?_; refine blk_far ?_ NB466_505.out _; refine pq ?_; refine blk_far ?_ NB466_505.out _; refine pq ?_; exact BK466.out) hb); have n5_ := aM (blk_below (g := gb475) (o := .cells #[.int .i64 t467, .int .i64 t468, .bool t469, .bool t470, .bool t471] 24 (0, 0)) (by refine pq ?_; refine blk_far ?_ NB475_505.out _; refine pq ?_; refine blk_far ?_ NB475_505.out _; refine pq ?_; refine blk_far ?_ NB475_505.out _; refine pq ?_; refine blk_far ?_ NB475_505.out _; refine pq ?_; refine blk_far ?_ NB475_505.out _; refine pq ?_; exact BK475.out) hb); have n6_ := aM (blk_below (g := gb492) (o := .cells #[.int .i64 t484, .int .i64 t485, .bool t486, .bool t487, .bool t488] 24 (0, 0)) (by refine pq ?_; refine blk_far ?_ NB492_505.out _; refine pq ?_; refine blk_far ?_ NB492_505.out _; refine pq ?_; refine blk_far ?_ NB492_505.out _; refine pq ?_; refine blk_far ?_ NB492_505.out _; refine pq ?_; refine blk_far ?_ NB492_505.out _; refine pq ?_; exact BK492.out) hb); have n7_ := aM (blk_below (g := gb505) (o := .cells #[.int .i64 t497, .int .i64 t498, .bool t499, .bool t500, .bool t501] 24 (0, 0)) (by refine pq ?_; refine blk_put (cs := #[.int .i64 t497, .int .i64 t498, .bool t499, .bool t500, .bool false]) ?_ 4 _ rfl; refine pq ?_; refine blk_put (cs := #[.int .i64 t497, .int .i64 t498, .bool t499, .bool false, .bool false]) ?_ 3 _ rfl; refine pq ?_; refine blk_put (cs := #[.int .i64 t497, .int .i64 t498, .bool false, .bool false, .bool false]) ?_ 2 _ rfl; refine pq ?_; refine blk_put (cs := #[.int .i64 t497, .int .i64 0, .bool false, .bool false, .bool false]) ?_ 1 _ rfl; refine pq ?_; refine blk_put (cs := #[.int .i64 0, .int .i64 0, .bool false, .bool false, .bool false]) ?_ 0 _ rfl; refine pq ?_; exact BK505.out) hb); have n8_ := aM (below_step (zb) hb); clear HO_4; clear HO491; clear HO504; clear BK457; clear BK466; clear BK475; clear BK492; clear BK505; clear HB; have HO_4 := n0_; have HO491 := n1_; have HO504 := n2_; have BK457 := n3_; have BK466 := n4_; have BK475 := n5_; have BK492 := n6_; have BK505 := n7_; have HB := n8_; clear n0_ n1_ n2_ n3_ n4_ n5_ n6_ n7_ n8_; (try clear hb); (try clear hb2); (try clear hk); (try clear hi)))
                go_meet
                case rel => exact ⟨_, (!t506), zs, H', ⟨by have := HJ6.out; have := HJ39.out; have := HK3.out; first | omega | exact Nat.le_refl _⟩, ⟨by (with_reducible repeat (first | apply Kd.R_alloc | apply Kd.R_drewN | apply Kd.R_drew)); exact Kd.R_mono HO_4.out (fun _ hk => trivial)⟩, ⟨by exact pk BK457.out⟩, ⟨by exact pk BK466.out⟩, ⟨by exact pk BK475.out⟩, ⟨by exact pk BK492.out⟩, ⟨by exact pk BK505.out⟩, ⟨zb⟩⟩
              case rest =>
               clear HC68
               try clear c1
               try clear p2
               try clear c4
               try clear p6
               try clear c8
               try clear q8
               try clear c9
               try clear c10
               try clear c43
               try clear p64
               try clear c81
               try clear q81
               try clear c90
               try clear c90b0
               try clear c91
               try clear c92
               try clear c93
               try clear c94
               try clear c96
               try clear c97
               try clear c98
               try clear c101
               try clear c102
               try clear c103
               try clear c104
               try clear c106
               try clear c107
               try clear c108
               try clear hcz105_0 hcz105_1 hcz105_2 hcz105_3 hcz105_4 hfz105_0 hfz105_1 hfz105_2 hfz105_3 hfz105_4
               try clear hcz109_0 hcz109_1 hcz109_2 hcz109_3 hcz109_4 hfz109_0 hfz109_1 hfz109_2 hfz109_3 hfz109_4
               try clear hcz95_0 hcz95_1 hcz95_2 hcz95_3 hcz95_4 hfz95_0 hfz95_1 hfz95_2 hfz95_3 hfz95_4
               try clear hcz99_0 hcz99_1 hcz99_2 hcz99_3 hcz99_4 hfz99_0 hfz99_1 hfz99_2 hfz99_3 hfz99_4
               try clear q081
               try clear q81
               obtain ⟨kq, x98_67, rfl, HA, HJ67, HO_4, BK457, BK466, BK475, BK492, BK505, HB⟩ := hcut
               cases kq with
               | zero => exact absurd HA.out (by simp [laws_FnDoors.j3])
               | succ kj67 =>
                have H := HA.out
                clear HA
                simp only [laws_FnDoors.j3] at H
                by_cases c111 : x98_67 = true
                ·subst c111
                 have H1 : (none) = some r := by rw [if_pos rfl] at H; exact H
                 clear H
                 have H := H1
                 clear H1
                 exact absurd H (by simp)
                ·replace c111 := Bool.eq_false_iff.mpr c111
                 subst c111
                 have H1 : (if (t501 != x458004_3) = true then (if x458003_3 = true then (laws_FnDoors.l0 kj67 t454 (wrap64 (x9_3 + 1)) t497 t498 t499 t500 t501) else (none)) else (laws_FnDoors.l0 kj67 t454 (wrap64 (x9_3 + 1)) t497 t498 t499 t500 t501)) = some r := by rw [if_neg (show ¬ (false = true) by decide)] at H; exact H
                 clear H
                 have H := H1
                 clear H1
                 by_cases c112 : (t501 != x458004_3) = true
                 ·rw [if_pos c112] at H
                  have c112b0 : (t501 != x458004_3) = true := c112
                  (try (have c112b1 : decide (t501 = x458004_3) = false := by simpa using c112))
                  (try (have c112b2 : (t501 == x458004_3) = false := by simpa using c112))
                  (try (have c112b3 : ¬ (t501 = x458004_3) := by simpa using c112))
                  clear c112
                  by_cases c113 : x458003_3 = true
                  ·subst c113
                   have H1 : (laws_FnDoors.l0 kj67 t454 (wrap64 (x9_3 + 1)) t497 t498 t499 t500 t501) = some r := by rw [if_pos rfl] at H; exact H
                   clear H
                   have H := H1
                   clear H1
                   have H' := aM H
                   clear H
                   have hnb114 := NB505_457.out
                   have hnc114 := NB457_505.out
                   have hnb115 := NB505_466.out
                   have hnc115 := NB466_505.out
                   have hnb116 := NB505_475.out
                   have hnc116 := NB475_505.out
                   have hnb117 := NB505_492.out
                   have hnc117 := NB492_505.out
                   obtain ⟨hcz118_0, hcz118_1, hcz118_2, hcz118_3, hcz118_4, hfz118_0, hfz118_1, hfz118_2, hfz118_3, hfz118_4⟩ := cells5 BK505.out
                   have hnb119 := NB457_466.out
                   have hnc119 := NB466_457.out
                   have hnb120 := NB457_475.out
                   have hnc120 := NB475_457.out
                   have hnb121 := NB457_492.out
                   have hnc121 := NB492_457.out
                   obtain ⟨hcz122_0, hcz122_1, hcz122_2, hcz122_3, hcz122_4, hfz122_0, hfz122_1, hfz122_2, hfz122_3, hfz122_4⟩ := cells5 BK457.out
                   go_wp2
                   go_roundg kj67
                   case measure => have := HJ6.out; have := HJ39.out; have := HK3.out; have := HJ67.out; omega
                   case rel => exact ⟨(wrap64 (x9_3 + 1)), (t497), (t498), (t499), (t500), (t501), zs, H', ⟨by have := HJ6.out; have := HJ39.out; have := HK3.out; have := HJ67.out; omega⟩, ⟨by (with_reducible repeat (first | apply Kd.R_alloc | apply Kd.R_drewN | apply Kd.R_drew)); exact Kd.R_mono (Kd.R_far (p := ⟨gb457, 4, none⟩) (Kd.R_far (p := ⟨gb457, 3, none⟩) (Kd.R_far (p := ⟨gb457, 2, none⟩) (Kd.R_far (p := ⟨gb457, 1, none⟩) (Kd.R_far (p := ⟨gb457, 0, none⟩) (Kd.R_types HO_4.out BK457.out (by decide)) (fun _ hk => hk.2) (.int .i64 t497)) (fun _ hk => hk.2) (.int .i64 t498)) (fun _ hk => hk.2) (.bool t499)) (fun _ hk => hk.2) (.bool t500)) (fun _ hk => hk.2) (.bool t501)) (fun _ hk => trivial)⟩, ⟨by refine pq ?_; refine blk_put (cs := #[.int .i64 t497, .int .i64 t498, .bool t499, .bool t500, .bool x458004_3]) ?_ 4 _ rfl; refine pq ?_; refine blk_put (cs := #[.int .i64 t497, .int .i64 t498, .bool t499, .bool true, .bool x458004_3]) ?_ 3 _ rfl; refine pq ?_; refine blk_put (cs := #[.int .i64 t497, .int .i64 t498, .bool x458002_3, .bool true, .bool x458004_3]) ?_ 2 _ rfl; refine pq ?_; refine blk_put (cs := #[.int .i64 t497, .int .i64 x458001_3, .bool x458002_3, .bool true, .bool x458004_3]) ?_ 1 _ rfl; refine pq ?_; refine blk_put (cs := #[.int .i64 x458000_3, .int .i64 x458001_3, .bool x458002_3, .bool true, .bool x458004_3]) ?_ 0 _ rfl; refine pq ?_; exact BK457.out⟩, ⟨by refine pq ?_; refine blk_far ?_ NB466_457.out _; refine pq ?_; refine blk_far ?_ NB466_457.out _; refine pq ?_; refine blk_far ?_ NB466_457.out _; refine pq ?_; refine blk_far ?_ NB466_457.out _; refine pq ?_; refine blk_far ?_ NB466_457.out _; refine pq ?_; exact BK466.out⟩, ⟨by refine pq ?_; refine blk_far ?_ NB475_457.out _; refine pq ?_; refine blk_far ?_ NB475_457.out _; refine pq ?_; refine blk_far ?_ NB475_457.out _; refine pq ?_; refine blk_far ?_ NB475_457.out _; refine pq ?_; refine blk_far ?_ NB475_457.out _; refine pq ?_; exact BK475.out⟩, ⟨zb⟩⟩
                  ·replace c113 := Bool.eq_false_iff.mpr c113
                   subst c113
                   have H1 : (none) = some r := by rw [if_neg (show ¬ (false = true) by decide)] at H; exact H
                   clear H
                   have H := H1
                   clear H1
                   exact absurd H (by simp)
                 ·rw [if_neg c112] at H
                  have c112b0 : (t501 != x458004_3) = false := by simpa using c112
                  (try (have c112b1 : decide (t501 = x458004_3) = true := by simpa using c112))
                  (try (have c112b2 : (t501 == x458004_3) = true := by simpa using c112))
                  clear c112
                  have H' := aM H
                  clear H
                  have hnb123 := NB505_457.out
                  have hnc123 := NB457_505.out
                  have hnb124 := NB505_466.out
                  have hnc124 := NB466_505.out
                  have hnb125 := NB505_475.out
                  have hnc125 := NB475_505.out
                  have hnb126 := NB505_492.out
                  have hnc126 := NB492_505.out
                  obtain ⟨hcz127_0, hcz127_1, hcz127_2, hcz127_3, hcz127_4, hfz127_0, hfz127_1, hfz127_2, hfz127_3, hfz127_4⟩ := cells5 BK505.out
                  have hnb128 := NB457_466.out
                  have hnc128 := NB466_457.out
                  have hnb129 := NB457_475.out
                  have hnc129 := NB475_457.out
                  have hnb130 := NB457_492.out
                  have hnc130 := NB492_457.out
                  obtain ⟨hcz131_0, hcz131_1, hcz131_2, hcz131_3, hcz131_4, hfz131_0, hfz131_1, hfz131_2, hfz131_3, hfz131_4⟩ := cells5 BK457.out
                  go_wp2
                  go_roundg kj67
                  case measure => have := HJ6.out; have := HJ39.out; have := HK3.out; have := HJ67.out; omega
                  case rel => exact ⟨(wrap64 (x9_3 + 1)), (t497), (t498), (t499), (t500), (t501), zs, H', ⟨by have := HJ6.out; have := HJ39.out; have := HK3.out; have := HJ67.out; omega⟩, ⟨by (with_reducible repeat (first | apply Kd.R_alloc | apply Kd.R_drewN | apply Kd.R_drew)); exact Kd.R_mono (Kd.R_far (p := ⟨gb457, 4, none⟩) (Kd.R_far (p := ⟨gb457, 3, none⟩) (Kd.R_far (p := ⟨gb457, 2, none⟩) (Kd.R_far (p := ⟨gb457, 1, none⟩) (Kd.R_far (p := ⟨gb457, 0, none⟩) (Kd.R_types HO_4.out BK457.out (by decide)) (fun _ hk => hk.2) (.int .i64 t497)) (fun _ hk => hk.2) (.int .i64 t498)) (fun _ hk => hk.2) (.bool t499)) (fun _ hk => hk.2) (.bool t500)) (fun _ hk => hk.2) (.bool t501)) (fun _ hk => trivial)⟩, ⟨by refine pq ?_; refine blk_put (cs := #[.int .i64 t497, .int .i64 t498, .bool t499, .bool t500, .bool x458004_3]) ?_ 4 _ rfl; refine pq ?_; refine blk_put (cs := #[.int .i64 t497, .int .i64 t498, .bool t499, .bool x458003_3, .bool x458004_3]) ?_ 3 _ rfl; refine pq ?_; refine blk_put (cs := #[.int .i64 t497, .int .i64 t498, .bool x458002_3, .bool x458003_3, .bool x458004_3]) ?_ 2 _ rfl; refine pq ?_; refine blk_put (cs := #[.int .i64 t497, .int .i64 x458001_3, .bool x458002_3, .bool x458003_3, .bool x458004_3]) ?_ 1 _ rfl; refine pq ?_; refine blk_put (cs := #[.int .i64 x458000_3, .int .i64 x458001_3, .bool x458002_3, .bool x458003_3, .bool x458004_3]) ?_ 0 _ rfl; refine pq ?_; exact BK457.out⟩, ⟨by refine pq ?_; refine blk_far ?_ NB466_457.out _; refine pq ?_; refine blk_far ?_ NB466_457.out _; refine pq ?_; refine blk_far ?_ NB466_457.out _; refine pq ?_; refine blk_far ?_ NB466_457.out _; refine pq ?_; refine blk_far ?_ NB466_457.out _; refine pq ?_; exact BK466.out⟩, ⟨by refine pq ?_; refine blk_far ?_ NB475_457.out _; refine pq ?_; refine blk_far ?_ NB475_457.out _; refine pq ?_; refine blk_far ?_ NB475_457.out _; refine pq ?_; refine blk_far ?_ NB475_457.out _; refine pq ?_; refine blk_far ?_ NB475_457.out _; refine pq ?_; exact BK475.out⟩, ⟨zb⟩⟩
             ·rw [if_neg c62] at H
              exact absurd H (by simp)
            ·rw [if_neg c61] at H
             exact absurd H (by simp)
           ·rw [if_neg c60] at H
            exact absurd H (by simp)
          ·rw [if_neg c59] at H
           have c59b0 : decide (x9_3 < (t454.length : Int)) = false := decide_eq_false c59
           clear c59
           obtain rfl := Option.some.inj H
           go_wp2
           go_ret
           exact ⟨zr, zb⟩

/-- THE ONE PURE STATEMENT of laws_FnDoors: yours. -/
def laws_FnDoors.Pure : Prop := ∀ (l0 : List Int), l0.length ≤ maxLen → l0.length * 1 ≤ 140737488351232 → (∀ x ∈ l0, (Lit.int .u8 x).wf = true) → ∃ k, laws_FnDoors.f k l0 = some true
theorem laws_FnDoors.walk (P : laws_FnDoors.Pure) (a0 : Option Addr) (len0 cap0 : Nat) (z0 : List Int) (w : World) (w0 : (a0 = none ∧ len0 = 0 ∧ cap0 = 0 ∧ z0 = []) ∨ ∃ x, a0 = some x ∧ len0 ≤ cap0 ∧ cap0 ≤ maxLen ∧ z0.length = cap0 ∧ (∀ i, i < z0.length → w.cell? (x.add i) = some (.int .u8 (z0.getD i 0))) ∧ ∀ n ∈ z0, (Lit.int .u8 n).wf = true) (y0 : len0 * 1 ≤ 140737488351232) :
  Calls Try.prog 12 #[.slice a0 len0 cap0] w fun e w' => e = .returned (.bool true) ∧ Below w.heap.size w w' := by
 obtain ⟨l0, rfl, hr0, hm0, hw0, hc0⟩ := ReadsInt.ofRowC w0
 obtain ⟨k, h⟩ := P l0 hm0 y0 hw0
 refine (laws_FnDoors.calls k _ _ l0 true w (Kd.C_of_reads (d := (0 : Int)) (h1 := fun _ => rfl) hr0) hc0 h).mono ?_
 rintro e w' ⟨rfl, hd⟩
 exact ⟨rfl, hd⟩

end Go.Proofs.Ytglpkjcblpjnoab.QFnDoors
