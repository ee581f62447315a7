-- Printed functions and their walks: by print.py, turned by wip/tools/myprint.py.
import Derived.Test.YtdhinnolfpacgabDoorQFnGuessesx0
import Derived.Test.YtdhinnolfpacgabDoorQFnGuessesx1
import Derived.Test.YtdhinnolfpacgabDoorQFnGuessesx2
import Derived.Test.YtdhinnolfpacgabDoorQFnGuessesx3
import Derived.Test.YtdhinnolfpacgabDoorQFnGuessesx5
namespace Go.Proofs.YtdhinnolfpacgabDoor.QFnGuesses
open Go.RowKit Go.Proofs.YtdhinnolfpacgabDoorW.PrintWords Go.Proofs.YtdhinnolfpacgabDoorW.PrintLast Go.Proofs.YtdhinnolfpacgabDoorW.PrintMore
attribute [local go_sem] max2_int min2_int max_two min_two max_three min_three max_four min_four   -- for this text's walks alone
set_option linter.unusedVariables false
set_option linter.unusedSimpArgs false

attribute [local go_sem high] eqA25
/-! ### laws_FnGuesses: function 3 -/
mutual
def laws_FnGuesses.j0 : Nat → List Int → Bool → Int → Int → Int → Int → Int → Int → Int → Int → Int → Int → Option (Bool)
 | 0, _, _, _, _, _, _, _, _, _, _, _, _ => none
 | k + 1, x5, x52, x210000, x210001, x210002, x210003, x210004, x221000, x221001, x221002, x221003, x221004 => if x52 = true then (none) else (laws_FnGuesses.l0 k x5 0 0 0 x210000 x210001 x210002 x210003 x210004 x221000 x221001 x221002 x221003 x221004)
def laws_FnGuesses.l0 : Nat → List Int → Int → Int → Int → Int → Int → Int → Int → Int → Int → Int → Int → Int → Int → Option (Bool)
 | 0, _, _, _, _, _, _, _, _, _, _, _, _, _, _ => none
 | k + 1, x5, x8, x9, x10, x210000, x210001, x210002, x210003, x210004, x221000, x221001, x221002, x221003, x221004 => if x10 < 12 then (if 0 ≤ x10 then (if x10 < (x5.length : Int) then (if 0 ≤ (wrap64 (11 - x10)) then (if (wrap64 (11 - x10)) < (x5.length : Int) then (laws_FnGuesses.l1 k x5 (wrap64 (x8 + (Int.tmod (rd x5 x10) 6))) x9 x10 (Int.tmod (rd x5 (wrap64 (11 - x10))) 5) x210000 x210001 x210002 x210003 x210004 x221000 x221001 x221002 x221003 x221004) else (none)) else (none)) else (none)) else (none)) else (if 1 < (x5.length : Int) then (laws_FnGuesses.l2 k x8 x9 0 (Int.tmod (rd x5 1) 120) 0 x221000 x221001 x221002 x221003 x221004) else (none))
def laws_FnGuesses.l1 : Nat → List Int → Int → Int → Int → Int → Int → Int → Int → Int → Int → Int → Int → Int → Int → Int → Option (Bool)
 | 0, _, _, _, _, _, _, _, _, _, _, _, _, _, _, _ => none
 | k + 1, x5, x8, x9, x10, x11, x210000, x210001, x210002, x210003, x210004, x221000, x221001, x221002, x221003, x221004 => if x11 > 0 then ((impl_Try.f k x210000 x210001 x210002 x210003 x210004 (⟨#[119, 114, 111, 110, 103]⟩ : ByteArray) x8).bind fun bt223 => ((spec_Try.f k x210000 x210001 x210002 x210003 x210004 (⟨#[119, 114, 111, 110, 103]⟩ : ByteArray) x8).bind fun bt230 => (if (!(bt223.1 == bt230.1) || (!(bt223.2.1 == bt230.2.1) || (!(bt223.2.2.1 == bt230.2.2.1) || (!(bt223.2.2.2.1 == bt230.2.2.2.1) || (!(bt223.2.2.2.2.1 == bt230.2.2.2.2.1)))))) = true then (laws_FnGuesses.j3 k x5 x8 x9 x10 x11 bt223.2.2.2.2.2 true x221000 x221001 x221002 x221003 x221004 bt230.1 bt230.2.1 bt230.2.2.1 bt230.2.2.2.1 bt230.2.2.2.2.1) else (laws_FnGuesses.j3 k x5 x8 x9 x10 x11 bt223.2.2.2.2.2 (bt223.2.2.2.2.2 != bt230.2.2.2.2.2) x221000 x221001 x221002 x221003 x221004 bt230.1 bt230.2.1 bt230.2.2.1 bt230.2.2.2.1 bt230.2.2.2.2.1)))) else (laws_FnGuesses.l0 k x5 x8 x9 (wrap64 (x10 + 1)) x210000 x210001 x210002 x210003 x210004 x221000 x221001 x221002 x221003 x221004)
def laws_FnGuesses.j3 : Nat → List Int → Int → Int → Int → Int → Int → Bool → Int → Int → Int → Int → Int → Int → Int → Int → Int → Int → Option (Bool)
 | 0, _, _, _, _, _, _, _, _, _, _, _, _, _, _, _, _, _ => none
 | k + 1, x5, x8, x9, x10, x11, x13, x93, x221000, x221001, x221002, x221003, x221004, x237000, x237001, x237002, x237003, x237004 => if x93 = true then (none) else (if x13 = 1 then (laws_FnGuesses.l1 k x5 x8 x9 x10 (wrap64 (x11 - 1)) x237000 x237001 x237002 x237003 x237004 x221000 x221001 x221002 x221003 x221004) else (laws_FnGuesses.l1 k x5 x8 (wrap64 (x9 + 1)) x10 (wrap64 (x11 - 1)) x237000 x237001 x237002 x237003 x237004 x221000 x221001 x221002 x221003 x221004))
def laws_FnGuesses.l2 : Nat → Int → Int → Int → Int → Int → Int → Int → Int → Int → Int → Option (Bool)
 | 0, _, _, _, _, _, _, _, _, _, _ => none
 | k + 1, x8, x9, x16, x17, x18, x221000, x221001, x221002, x221003, x221004 => if x18 ≤ x17 then (laws_FnGuesses.l3 k x8 x9 x16 x17 x18 x221000 x221001 x221002 x221003 x221004) else ((impl_MostWrong.f k x8).bind fun t245 => (if x9 ≤ t245 then ((impl_MostWrong.f k x17).bind fun t246 => (some (t246 == x16))) else (none)))
def laws_FnGuesses.l3 : Nat → Int → Int → Int → Int → Int → Int → Int → Int → Int → Int → Option (Bool)
 | 0, _, _, _, _, _, _, _, _, _, _ => none
 | k + 1, x8, x9, x16, x17, x18, x221000, x221001, x221002, x221003, x221004 => (spec_Try.f k x221000 x221001 x221002 x221003 x221004 (⟨#[119, 114, 111, 110, 103]⟩ : ByteArray) x18).bind fun bt238 => (if bt238.2.2.2.2.2 = 1 then (laws_FnGuesses.l2 k x8 x9 x16 x17 (wrap64 (x18 + 1)) x221000 x221001 x221002 x221003 x221004) else (laws_FnGuesses.l3 k x8 x9 (wrap64 (x16 + 1)) x17 x18 bt238.1 bt238.2.1 bt238.2.2.1 bt238.2.2.2.1 bt238.2.2.2.2.1))
end
def laws_FnGuesses.f (k : Nat) (l0 : List Int) : Option (Bool) := (laws_big.f l0).bind fun t198 => (if t198 = true then (some true) else ((spec_DrawPlaces.f k l0).bind fun t199 => (if 0 < (t199.length : Int) then ((impl_NewLock.f (wrap64 (1 + (rd t199 0)))).bind fun bt203 => ((spec_DrawPlaces.f k l0).bind fun t210 => (if 0 < (t210.length : Int) then ((spec_NewLock.f (wrap64 (1 + (rd t210 0)))).bind fun bt214 => (if bt203.2.2.2.2.2 = true then (if bt214.2.2.2.2.2 = true then (laws_FnGuesses.j0 k t210 (!(bt203.1 == bt214.1) || (!(bt203.2.1 == bt214.2.1) || (!(bt203.2.2.1 == bt214.2.2.1) || (!(bt203.2.2.2.1 == bt214.2.2.2.1) || (!(bt203.2.2.2.2.1 == bt214.2.2.2.2.1)))))) bt203.1 bt203.2.1 bt203.2.2.1 bt203.2.2.2.1 bt203.2.2.2.2.1 bt214.1 bt214.2.1 bt214.2.2.1 bt214.2.2.2.1 bt214.2.2.2.2.1) else (laws_FnGuesses.j0 k t210 true bt203.1 bt203.2.1 bt203.2.2.1 bt203.2.2.2.1 bt203.2.2.2.2.1 bt214.1 bt214.2.1 bt214.2.2.1 bt214.2.2.2.1 bt214.2.2.2.2.1)) else (laws_FnGuesses.j0 k t210 true bt203.1 bt203.2.1 bt203.2.2.1 bt203.2.2.2.1 bt203.2.2.2.2.1 bt214.1 bt214.2.1 bt214.2.2.1 bt214.2.2.2.1 bt214.2.2.2.2.1))) else (none)))) else (none))))
theorem laws_FnGuesses.mono_l : ∀ k, (∀ y0 y1 y2 y3 y4 y5 y6 y7 y8 y9 y10 y11, LeO (laws_FnGuesses.j0 k y0 y1 y2 y3 y4 y5 y6 y7 y8 y9 y10 y11) (laws_FnGuesses.j0 (k + 1) y0 y1 y2 y3 y4 y5 y6 y7 y8 y9 y10 y11)) ∧ (∀ y0 y1 y2 y3 y4 y5 y6 y7 y8 y9 y10 y11 y12 y13, LeO (laws_FnGuesses.l0 k y0 y1 y2 y3 y4 y5 y6 y7 y8 y9 y10 y11 y12 y13) (laws_FnGuesses.l0 (k + 1) y0 y1 y2 y3 y4 y5 y6 y7 y8 y9 y10 y11 y12 y13)) ∧ (∀ y0 y1 y2 y3 y4 y5 y6 y7 y8 y9 y10 y11 y12 y13 y14, LeO (laws_FnGuesses.l1 k y0 y1 y2 y3 y4 y5 y6 y7 y8 y9 y10 y11 y12 y13 y14) (laws_FnGuesses.l1 (k + 1) y0 y1 y2 y3 y4 y5 y6 y7 y8 y9 y10 y11 y12 y13 y14)) ∧ (∀ y0 y1 y2 y3 y4 y5 y6 y7 y8 y9 y10 y11 y12 y13 y14 y15 y16, LeO (laws_FnGuesses.j3 k y0 y1 y2 y3 y4 y5 y6 y7 y8 y9 y10 y11 y12 y13 y14 y15 y16) (laws_FnGuesses.j3 (k + 1) y0 y1 y2 y3 y4 y5 y6 y7 y8 y9 y10 y11 y12 y13 y14 y15 y16)) ∧ (∀ y0 y1 y2 y3 y4 y5 y6 y7 y8 y9, LeO (laws_FnGuesses.l2 k y0 y1 y2 y3 y4 y5 y6 y7 y8 y9) (laws_FnGuesses.l2 (k + 1) y0 y1 y2 y3 y4 y5 y6 y7 y8 y9)) ∧ (∀ y0 y1 y2 y3 y4 y5 y6 y7 y8 y9, LeO (laws_FnGuesses.l3 k y0 y1 y2 y3 y4 y5 y6 y7 y8 y9) (laws_FnGuesses.l3 (k + 1) y0 y1 y2 y3 y4 y5 y6 y7 y8 y9))
 | 0 => ⟨fun _ _ _ _ _ _ _ _ _ _ _ _ r h => by simp [laws_FnGuesses.j0] at h, fun _ _ _ _ _ _ _ _ _ _ _ _ _ _ r h => by simp [laws_FnGuesses.l0] at h, fun _ _ _ _ _ _ _ _ _ _ _ _ _ _ _ r h => by simp [laws_FnGuesses.l1] at h, fun _ _ _ _ _ _ _ _ _ _ _ _ _ _ _ _ _ r h => by simp [laws_FnGuesses.j3] at h, fun _ _ _ _ _ _ _ _ _ _ r h => by simp [laws_FnGuesses.l2] at h, fun _ _ _ _ _ _ _ _ _ _ r h => by simp [laws_FnGuesses.l3] at h⟩
 | k + 1 => by
  obtain ⟨ih0, ih1, ih2, ih3, ih4, ih5⟩ := laws_FnGuesses.mono_l k
  refine ⟨?_, ?_, ?_, ?_, ?_, ?_⟩
  ·intro y0 y1 y2 y3 y4 y5 y6 y7 y8 y9 y10 y11
   unfold laws_FnGuesses.j0
   repeat' first
   | (with_reducible exact ih0 _ _ _ _ _ _ _ _ _ _ _ _)
   | (with_reducible exact ih1 _ _ _ _ _ _ _ _ _ _ _ _ _ _)
   | (with_reducible exact ih2 _ _ _ _ _ _ _ _ _ _ _ _ _ _ _)
   | (with_reducible exact ih3 _ _ _ _ _ _ _ _ _ _ _ _ _ _ _ _ _)
   | (with_reducible exact ih4 _ _ _ _ _ _ _ _ _ _)
   | (with_reducible exact ih5 _ _ _ _ _ _ _ _ _ _)
   | (with_reducible exact impl_MostWrong.mono _ _)
   | (with_reducible exact impl_Try.mono _ _ _ _ _ _ _ _)
   | (with_reducible exact spec_DrawPlaces.mono _ _)
   | (with_reducible exact spec_Try.mono _ _ _ _ _ _ _ _)
   | (with_reducible exact LeO.refl _)
   | (with_reducible exact LeO.none _)
   | (with_reducible refine LeO.ite ?_ ?_)
   | (with_reducible refine LeO.bind ?_ (fun _ => ?_))
   | exact ih0 _ _ _ _ _ _ _ _ _ _ _ _
   | exact ih1 _ _ _ _ _ _ _ _ _ _ _ _ _ _
   | exact ih2 _ _ _ _ _ _ _ _ _ _ _ _ _ _ _
   | exact ih3 _ _ _ _ _ _ _ _ _ _ _ _ _ _ _ _ _
   | exact ih4 _ _ _ _ _ _ _ _ _ _
   | exact ih5 _ _ _ _ _ _ _ _ _ _
   | exact impl_MostWrong.mono _ _
   | exact impl_Try.mono _ _ _ _ _ _ _ _
   | exact spec_DrawPlaces.mono _ _
   | exact spec_Try.mono _ _ _ _ _ _ _ _
   | exact LeO.none _
   | refine LeO.ite ?_ ?_
   | refine LeO.bind ?_ (fun _ => ?_)
  ·intro y0 y1 y2 y3 y4 y5 y6 y7 y8 y9 y10 y11 y12 y13
   unfold laws_FnGuesses.l0
   repeat' first
   | (with_reducible exact ih0 _ _ _ _ _ _ _ _ _ _ _ _)
   | (with_reducible exact ih1 _ _ _ _ _ _ _ _ _ _ _ _ _ _)
   | (with_reducible exact ih2 _ _ _ _ _ _ _ _ _ _ _ _ _ _ _)
   | (with_reducible exact ih3 _ _ _ _ _ _ _ _ _ _ _ _ _ _ _ _ _)
   | (with_reducible exact ih4 _ _ _ _ _ _ _ _ _ _)
   | (with_reducible exact ih5 _ _ _ _ _ _ _ _ _ _)
   | (with_reducible exact impl_MostWrong.mono _ _)
   | (with_reducible exact impl_Try.mono _ _ _ _ _ _ _ _)
   | (with_reducible exact spec_DrawPlaces.mono _ _)
   | (with_reducible exact spec_Try.mono _ _ _ _ _ _ _ _)
   | (with_reducible exact LeO.refl _)
   | (with_reducible exact LeO.none _)
   | (with_reducible refine LeO.ite ?_ ?_)
   | (with_reducible refine LeO.bind ?_ (fun _ => ?_))
   | exact ih0 _ _ _ _ _ _ _ _ _ _ _ _
   | exact ih1 _ _ _ _ _ _ _ _ _ _ _ _ _ _
   | exact ih2 _ _ _ _ _ _ _ _ _ _ _ _ _ _ _
   | exact ih3 _ _ _ _ _ _ _ _ _ _ _ _ _ _ _ _ _
   | exact ih4 _ _ _ _ _ _ _ _ _ _
   | exact ih5 _ _ _ _ _ _ _ _ _ _
   | exact impl_MostWrong.mono _ _
   | exact impl_Try.mono _ _ _ _ _ _ _ _
   | exact spec_DrawPlaces.mono _ _
   | exact spec_Try.mono _ _ _ _ _ _ _ _
   | exact LeO.none _
   | refine LeO.ite ?_ ?_
   | refine LeO.bind ?_ (fun _ => ?_)
  ·intro y0 y1 y2 y3 y4 y5 y6 y7 y8 y9 y10 y11 y12 y13 y14
   unfold laws_FnGuesses.l1
   repeat' first
   | (with_reducible exact ih0 _ _ _ _ _ _ _ _ _ _ _ _)
   | (with_reducible exact ih1 _ _ _ _ _ _ _ _ _ _ _ _ _ _)
   | (with_reducible exact ih2 _ _ _ _ _ _ _ _ _ _ _ _ _ _ _)
   | (with_reducible exact ih3 _ _ _ _ _ _ _ _ _ _ _ _ _ _ _ _ _)
   | (with_reducible exact ih4 _ _ _ _ _ _ _ _ _ _)
   | (with_reducible exact ih5 _ _ _ _ _ _ _ _ _ _)
   | (with_reducible exact impl_MostWrong.mono _ _)
   | (with_reducible exact impl_Try.mono _ _ _ _ _ _ _ _)
   | (with_reducible exact spec_DrawPlaces.mono _ _)
   | (with_reducible exact spec_Try.mono _ _ _ _ _ _ _ _)
   | (with_reducible exact LeO.refl _)
   | (with_reducible exact LeO.none _)
   | (with_reducible refine LeO.ite ?_ ?_)
   | (with_reducible refine LeO.bind ?_ (fun _ => ?_))
   | exact ih0 _ _ _ _ _ _ _ _ _ _ _ _
   | exact ih1 _ _ _ _ _ _ _ _ _ _ _ _ _ _
   | exact ih2 _ _ _ _ _ _ _ _ _ _ _ _ _ _ _
   | exact ih3 _ _ _ _ _ _ _ _ _ _ _ _ _ _ _ _ _
   | exact ih4 _ _ _ _ _ _ _ _ _ _
   | exact ih5 _ _ _ _ _ _ _ _ _ _
   | exact impl_MostWrong.mono _ _
   | exact impl_Try.mono _ _ _ _ _ _ _ _
   | exact spec_DrawPlaces.mono _ _
   | exact spec_Try.mono _ _ _ _ _ _ _ _
   | exact LeO.none _
   | refine LeO.ite ?_ ?_
   | refine LeO.bind ?_ (fun _ => ?_)
  ·intro y0 y1 y2 y3 y4 y5 y6 y7 y8 y9 y10 y11 y12 y13 y14 y15 y16
   unfold laws_FnGuesses.j3
   repeat' first
   | (with_reducible exact ih0 _ _ _ _ _ _ _ _ _ _ _ _)
   | (with_reducible exact ih1 _ _ _ _ _ _ _ _ _ _ _ _ _ _)
   | (with_reducible exact ih2 _ _ _ _ _ _ _ _ _ _ _ _ _ _ _)
   | (with_reducible exact ih3 _ _ _ _ _ _ _ _ _ _ _ _ _ _ _ _ _)
   | (with_reducible exact ih4 _ _ _ _ _ _ _ _ _ _)
   | (with_reducible exact ih5 _ _ _ _ _ _ _ _ _ _)
   | (with_reducible exact impl_MostWrong.mono _ _)
   | (with_reducible exact impl_Try.mono _ _ _ _ _ _ _ _)
   | (with_reducible exact spec_DrawPlaces.mono _ _)
   | (with_reducible exact spec_Try.mono _ _ _ _ _ _ _ _)
   | (with_reducible exact LeO.refl _)
   | (with_reducible exact LeO.none _)
   | (with_reducible refine LeO.ite ?_ ?_)
   | (with_reducible refine LeO.bind ?_ (fun _ => ?_))
   | exact ih0 _ _ _ _ _ _ _ _ _ _ _ _
   | exact ih1 _ _ _ _ _ _ _ _ _ _ _ _ _ _
   | exact ih2 _ _ _ _ _ _ _ _ _ _ _ _ _ _ _
   | exact ih3 _ _ _ _ _ _ _ _ _ _ _ _ _ _ _ _ _
   | exact ih4 _ _ _ _ _ _ _ _ _ _
   | exact ih5 _ _ _ _ _ _ _ _ _ _
   | exact impl_MostWrong.mono _ _
   | exact impl_Try.mono _ _ _ _ _ _ _ _
   | exact spec_DrawPlaces.mono _ _
   | exact spec_Try.mono _ _ _ _ _ _ _ _
   | exact LeO.none _
   | refine LeO.ite ?_ ?_
   | refine LeO.bind ?_ (fun _ => ?_)
  ·intro y0 y1 y2 y3 y4 y5 y6 y7 y8 y9
   unfold laws_FnGuesses.l2
   repeat' first
   | (with_reducible exact ih0 _ _ _ _ _ _ _ _ _ _ _ _)
   | (with_reducible exact ih1 _ _ _ _ _ _ _ _ _ _ _ _ _ _)
   | (with_reducible exact ih2 _ _ _ _ _ _ _ _ _ _ _ _ _ _ _)
   | (with_reducible exact ih3 _ _ _ _ _ _ _ _ _ _ _ _ _ _ _ _ _)
   | (with_reducible exact ih4 _ _ _ _ _ _ _ _ _ _)
   | (with_reducible exact ih5 _ _ _ _ _ _ _ _ _ _)
   | (with_reducible exact impl_MostWrong.mono _ _)
   | (with_reducible exact impl_Try.mono _ _ _ _ _ _ _ _)
   | (with_reducible exact spec_DrawPlaces.mono _ _)
   | (with_reducible exact spec_Try.mono _ _ _ _ _ _ _ _)
   | (with_reducible exact LeO.refl _)
   | (with_reducible exact LeO.none _)
   | (with_reducible refine LeO.ite ?_ ?_)
   | (with_reducible refine LeO.bind ?_ (fun _ => ?_))
   | exact ih0 _ _ _ _ _ _ _ _ _ _ _ _
   | exact ih1 _ _ _ _ _ _ _ _ _ _ _ _ _ _
   | exact ih2 _ _ _ _ _ _ _ _ _ _ _ _ _ _ _
   | exact ih3 _ _ _ _ _ _ _ _ _ _ _ _ _ _ _ _ _
   | exact ih4 _ _ _ _ _ _ _ _ _ _
   | exact ih5 _ _ _ _ _ _ _ _ _ _
   | exact impl_MostWrong.mono _ _
   | exact impl_Try.mono _ _ _ _ _ _ _ _
   | exact spec_DrawPlaces.mono _ _
   | exact spec_Try.mono _ _ _ _ _ _ _ _
   | exact LeO.none _
   | refine LeO.ite ?_ ?_
   | refine LeO.bind ?_ (fun _ => ?_)
  ·intro y0 y1 y2 y3 y4 y5 y6 y7 y8 y9
   unfold laws_FnGuesses.l3
   repeat' first
   | (with_reducible exact ih0 _ _ _ _ _ _ _ _ _ _ _ _)
   | (with_reducible exact ih1 _ _ _ _ _ _ _ _ _ _ _ _ _ _)
   | (with_reducible exact ih2 _ _ _ _ _ _ _ _ _ _ _ _ _ _ _)
   | (with_reducible exact ih3 _ _ _ _ _ _ _ _ _ _ _ _ _ _ _ _ _)
   | (with_reducible exact ih4 _ _ _ _ _ _ _ _ _ _)
   | (with_reducible exact ih5 _ _ _ _ _ _ _ _ _ _)
   | (with_reducible exact impl_MostWrong.mono _ _)
   | (with_reducible exact impl_Try.mono _ _ _ _ _ _ _ _)
   | (with_reducible exact spec_DrawPlaces.mono _ _)
   | (with_reducible exact spec_Try.mono _ _ _ _ _ _ _ _)
   | (with_reducible exact LeO.refl _)
   | (with_reducible exact LeO.none _)
   | (with_reducible refine LeO.ite ?_ ?_)
   | (with_reducible refine LeO.bind ?_ (fun _ => ?_))
   | exact ih0 _ _ _ _ _ _ _ _ _ _ _ _
   | exact ih1 _ _ _ _ _ _ _ _ _ _ _ _ _ _
   | exact ih2 _ _ _ _ _ _ _ _ _ _ _ _ _ _ _
   | exact ih3 _ _ _ _ _ _ _ _ _ _ _ _ _ _ _ _ _
   | exact ih4 _ _ _ _ _ _ _ _ _ _
   | exact ih5 _ _ _ _ _ _ _ _ _ _
   | exact impl_MostWrong.mono _ _
   | exact impl_Try.mono _ _ _ _ _ _ _ _
   | exact spec_DrawPlaces.mono _ _
   | exact spec_Try.mono _ _ _ _ _ _ _ _
   | exact LeO.none _
   | refine LeO.ite ?_ ?_
   | refine LeO.bind ?_ (fun _ => ?_)
theorem laws_FnGuesses.mono : ∀ a0 k, LeO (laws_FnGuesses.f k a0) (laws_FnGuesses.f (k + 1) a0) := by
 intro a0 k
 obtain ⟨ih0, ih1, ih2, ih3, ih4, ih5⟩ := laws_FnGuesses.mono_l k
 unfold laws_FnGuesses.f
 repeat' first
   | (with_reducible exact ih0 _ _ _ _ _ _ _ _ _ _ _ _)
   | (with_reducible exact ih1 _ _ _ _ _ _ _ _ _ _ _ _ _ _)
   | (with_reducible exact ih2 _ _ _ _ _ _ _ _ _ _ _ _ _ _ _)
   | (with_reducible exact ih3 _ _ _ _ _ _ _ _ _ _ _ _ _ _ _ _ _)
   | (with_reducible exact ih4 _ _ _ _ _ _ _ _ _ _)
   | (with_reducible exact ih5 _ _ _ _ _ _ _ _ _ _)
   | (with_reducible exact impl_MostWrong.mono _ _)
   | (with_reducible exact impl_Try.mono _ _ _ _ _ _ _ _)
   | (with_reducible exact spec_DrawPlaces.mono _ _)
   | (with_reducible exact spec_Try.mono _ _ _ _ _ _ _ _)
   | (with_reducible exact LeO.refl _)
   | (with_reducible exact LeO.none _)
   | (with_reducible refine LeO.ite ?_ ?_)
   | (with_reducible refine LeO.bind ?_ (fun _ => ?_))
   | exact ih0 _ _ _ _ _ _ _ _ _ _ _ _
   | exact ih1 _ _ _ _ _ _ _ _ _ _ _ _ _ _
   | exact ih2 _ _ _ _ _ _ _ _ _ _ _ _ _ _ _
   | exact ih3 _ _ _ _ _ _ _ _ _ _ _ _ _ _ _ _ _
   | exact ih4 _ _ _ _ _ _ _ _ _ _
   | exact ih5 _ _ _ _ _ _ _ _ _ _
   | exact impl_MostWrong.mono _ _
   | exact impl_Try.mono _ _ _ _ _ _ _ _
   | exact spec_DrawPlaces.mono _ _
   | exact spec_Try.mono _ _ _ _ _ _ _ _
   | exact LeO.none _
   | refine LeO.ite ?_ ?_
   | refine LeO.bind ?_ (fun _ => ?_)
set_option maxHeartbeats 8000000 in
set_option maxRecDepth 100000 in
theorem laws_FnGuesses.calls (k : Nat) (A0 : Option Addr) (c0 : Nat) (l0 : List Int) (r : Bool) (w : World) (hr0 : Kd.C (Kd.int .u8) w A0 l0.length l0) (hc0 : l0.length ≤ c0) (h : laws_FnGuesses.f k l0 = some r) (HTAB : Sh.TabH w := by exact Sh.tabH HTAB (by repeat (first | (with_reducible first | exact HB.out | exact HBW.out | apply eA | apply eN | apply eD | refine eS ?_ (Aside0.out ‹_›)) | exact HB.out))) :
  Calls Tryd.prog 3 #[.slice A0 l0.length c0] w fun e w' => e = .returned (.bool r) ∧ Below w.heap.size w w' := by
 have hu25 := Tryd.underlying25
 have HR0 := aM hr0
 have HC0 := aM hc0
 clear hr0 hc0
 have HB := aM (Below.refl w.heap.size w)
 have H : ((laws_big.f l0).bind fun t198 => (if t198 = true then (some true) else ((spec_DrawPlaces.f k l0).bind fun t199 => (if 0 < (t199.length : Int) then ((impl_NewLock.f (wrap64 (1 + (rd t199 0)))).bind fun bt203 => ((spec_DrawPlaces.f k l0).bind fun t210 => (if 0 < (t210.length : Int) then ((spec_NewLock.f (wrap64 (1 + (rd t210 0)))).bind fun bt214 => (if bt203.2.2.2.2.2 = true then (if bt214.2.2.2.2.2 = true then (laws_FnGuesses.j0 k t210 (!(bt203.1 == bt214.1) || (!(bt203.2.1 == bt214.2.1) || (!(bt203.2.2.1 == bt214.2.2.1) || (!(bt203.2.2.2.1 == bt214.2.2.2.1) || (!(bt203.2.2.2.2.1 == bt214.2.2.2.2.1)))))) bt203.1 bt203.2.1 bt203.2.2.1 bt203.2.2.2.1 bt203.2.2.2.2.1 bt214.1 bt214.2.1 bt214.2.2.1 bt214.2.2.2.1 bt214.2.2.2.2.1) else (laws_FnGuesses.j0 k t210 true bt203.1 bt203.2.1 bt203.2.2.1 bt203.2.2.2.1 bt203.2.2.2.2.1 bt214.1 bt214.2.1 bt214.2.2.1 bt214.2.2.2.1 bt214.2.2.2.2.1)) else (laws_FnGuesses.j0 k t210 true bt203.1 bt203.2.1 bt203.2.2.1 bt203.2.2.2.1 bt203.2.2.2.2.1 bt214.1 bt214.2.1 bt214.2.2.1 bt214.2.2.2.1 bt214.2.2.2.2.1))) else (none)))) else (none))))) = some r := h
 clear h
 replace H := Option.bind_eq_some_iff.mp H
 obtain ⟨t198, A20, H⟩ := H
 replace H : (if t198 = true then (some true) else ((spec_DrawPlaces.f k l0).bind fun t199 => (if 0 < (t199.length : Int) then ((impl_NewLock.f (wrap64 (1 + (rd t199 0)))).bind fun bt203 => ((spec_DrawPlaces.f k l0).bind fun t210 => (if 0 < (t210.length : Int) then ((spec_NewLock.f (wrap64 (1 + (rd t210 0)))).bind fun bt214 => (if bt203.2.2.2.2.2 = true then (if bt214.2.2.2.2.2 = true then (laws_FnGuesses.j0 k t210 (!(bt203.1 == bt214.1) || (!(bt203.2.1 == bt214.2.1) || (!(bt203.2.2.1 == bt214.2.2.1) || (!(bt203.2.2.2.1 == bt214.2.2.2.1) || (!(bt203.2.2.2.2.1 == bt214.2.2.2.2.1)))))) bt203.1 bt203.2.1 bt203.2.2.1 bt203.2.2.2.1 bt203.2.2.2.2.1 bt214.1 bt214.2.1 bt214.2.2.1 bt214.2.2.2.1 bt214.2.2.2.2.1) else (laws_FnGuesses.j0 k t210 true bt203.1 bt203.2.1 bt203.2.2.1 bt203.2.2.2.1 bt203.2.2.2.2.1 bt214.1 bt214.2.1 bt214.2.2.1 bt214.2.2.2.1 bt214.2.2.2.2.1)) else (laws_FnGuesses.j0 k t210 true bt203.1 bt203.2.1 bt203.2.2.1 bt203.2.2.2.1 bt203.2.2.2.2.1 bt214.1 bt214.2.1 bt214.2.2.1 bt214.2.2.2.1 bt214.2.2.2.2.1))) else (none)))) else (none)))) = some r := H
 have A2 := aM A20
 clear A20
 by_cases c3 : t198 = true
 ·subst c3
  have H1 : (some true) = some r := by rw [if_pos rfl] at H; exact H
  clear H
  have H := H1
  clear H1
  obtain rfl := Option.some.inj H
  go_enter Tryd.func3, Tryd.ntmps3
  go_wp2_with (first | ((with_reducible refine gate_callee (f := 4) rfl ?_); refine goesL_ (some 22) rfl rfl Tryd.func4 (by kernel_rfl) rfl #[.slice A0 l0.length c0] rfl za ?_; (with_reducible refine (laws_big.calls _ _ l0 true _ ?side1 ?side2 A2.out).mono ?_); (case side1 => repeat (first | exact HR0.out | (with_reducible refine Kd.C_alloc ?_ _) | (with_reducible refine Kd.C_drewN ?_ _) | (with_reducible refine Kd.C_drew ?_))); (case side2 => exact HC0.out); rintro e w' ⟨rfl, ⟨nd, rfl⟩⟩; refine ⟨_, rfl, ?_⟩))
  go_ret
  exact ⟨zr, zb⟩
 ·replace c3 := Bool.eq_false_iff.mpr c3
  subst c3
  have H1 : ((spec_DrawPlaces.f k l0).bind fun t199 => (if 0 < (t199.length : Int) then ((impl_NewLock.f (wrap64 (1 + (rd t199 0)))).bind fun bt203 => ((spec_DrawPlaces.f k l0).bind fun t210 => (if 0 < (t210.length : Int) then ((spec_NewLock.f (wrap64 (1 + (rd t210 0)))).bind fun bt214 => (if bt203.2.2.2.2.2 = true then (if bt214.2.2.2.2.2 = true then (laws_FnGuesses.j0 k t210 (!(bt203.1 == bt214.1) || (!(bt203.2.1 == bt214.2.1) || (!(bt203.2.2.1 == bt214.2.2.1) || (!(bt203.2.2.2.1 == bt214.2.2.2.1) || (!(bt203.2.2.2.2.1 == bt214.2.2.2.2.1)))))) bt203.1 bt203.2.1 bt203.2.2.1 bt203.2.2.2.1 bt203.2.2.2.2.1 bt214.1 bt214.2.1 bt214.2.2.1 bt214.2.2.2.1 bt214.2.2.2.2.1) else (laws_FnGuesses.j0 k t210 true bt203.1 bt203.2.1 bt203.2.2.1 bt203.2.2.2.1 bt203.2.2.2.2.1 bt214.1 bt214.2.1 bt214.2.2.1 bt214.2.2.2.1 bt214.2.2.2.2.1)) else (laws_FnGuesses.j0 k t210 true bt203.1 bt203.2.1 bt203.2.2.1 bt203.2.2.2.1 bt203.2.2.2.2.1 bt214.1 bt214.2.1 bt214.2.2.1 bt214.2.2.2.1 bt214.2.2.2.2.1))) else (none)))) else (none))) = some r := by rw [if_neg (show ¬ (false = true) by decide)] at H; exact H
  clear H
  have H := H1
  clear H1
  replace H := Option.bind_eq_some_iff.mp H
  obtain ⟨t199, A40, H⟩ := H
  replace H : (if 0 < (t199.length : Int) then ((impl_NewLock.f (wrap64 (1 + (rd t199 0)))).bind fun bt203 => ((spec_DrawPlaces.f k l0).bind fun t210 => (if 0 < (t210.length : Int) then ((spec_NewLock.f (wrap64 (1 + (rd t210 0)))).bind fun bt214 => (if bt203.2.2.2.2.2 = true then (if bt214.2.2.2.2.2 = true then (laws_FnGuesses.j0 k t210 (!(bt203.1 == bt214.1) || (!(bt203.2.1 == bt214.2.1) || (!(bt203.2.2.1 == bt214.2.2.1) || (!(bt203.2.2.2.1 == bt214.2.2.2.1) || (!(bt203.2.2.2.2.1 == bt214.2.2.2.2.1)))))) bt203.1 bt203.2.1 bt203.2.2.1 bt203.2.2.2.1 bt203.2.2.2.2.1 bt214.1 bt214.2.1 bt214.2.2.1 bt214.2.2.2.1 bt214.2.2.2.2.1) else (laws_FnGuesses.j0 k t210 true bt203.1 bt203.2.1 bt203.2.2.1 bt203.2.2.2.1 bt203.2.2.2.2.1 bt214.1 bt214.2.1 bt214.2.2.1 bt214.2.2.2.1 bt214.2.2.2.2.1)) else (laws_FnGuesses.j0 k t210 true bt203.1 bt203.2.1 bt203.2.2.1 bt203.2.2.2.1 bt203.2.2.2.2.1 bt214.1 bt214.2.1 bt214.2.2.1 bt214.2.2.2.1 bt214.2.2.2.2.1))) else (none)))) else (none)) = some r := H
  have A4 := aM A40
  clear A40
  by_cases c5 : 0 < (t199.length : Int)
  ·rw [if_pos c5] at H
   have c5b0 : decide (0 < (t199.length : Int)) = true := decide_eq_true c5
   have c5b1 : decide (0 < t199.length) = true := decide_eq_true (by omega)
   clear c5
   replace H := Option.bind_eq_some_iff.mp H
   obtain ⟨⟨t203, t204, t205, t206, t207, t208⟩, A60, H⟩ := H
   replace H : ((spec_DrawPlaces.f k l0).bind fun t210 => (if 0 < (t210.length : Int) then ((spec_NewLock.f (wrap64 (1 + (rd t210 0)))).bind fun bt214 => (if t208 = true then (if bt214.2.2.2.2.2 = true then (laws_FnGuesses.j0 k t210 (!(t203 == bt214.1) || (!(t204 == bt214.2.1) || (!(t205 == bt214.2.2.1) || (!(t206 == bt214.2.2.2.1) || (!(t207 == bt214.2.2.2.2.1)))))) t203 t204 t205 t206 t207 bt214.1 bt214.2.1 bt214.2.2.1 bt214.2.2.2.1 bt214.2.2.2.2.1) else (laws_FnGuesses.j0 k t210 true t203 t204 t205 t206 t207 bt214.1 bt214.2.1 bt214.2.2.1 bt214.2.2.2.1 bt214.2.2.2.2.1)) else (laws_FnGuesses.j0 k t210 true t203 t204 t205 t206 t207 bt214.1 bt214.2.1 bt214.2.2.1 bt214.2.2.2.1 bt214.2.2.2.2.1))) else (none))) = some r := H
   have A6 := aM A60
   clear A60
   replace H := Option.bind_eq_some_iff.mp H
   obtain ⟨t210, A70, H⟩ := H
   replace H : (if 0 < (t210.length : Int) then ((spec_NewLock.f (wrap64 (1 + (rd t210 0)))).bind fun bt214 => (if t208 = true then (if bt214.2.2.2.2.2 = true then (laws_FnGuesses.j0 k t210 (!(t203 == bt214.1) || (!(t204 == bt214.2.1) || (!(t205 == bt214.2.2.1) || (!(t206 == bt214.2.2.2.1) || (!(t207 == bt214.2.2.2.2.1)))))) t203 t204 t205 t206 t207 bt214.1 bt214.2.1 bt214.2.2.1 bt214.2.2.2.1 bt214.2.2.2.2.1) else (laws_FnGuesses.j0 k t210 true t203 t204 t205 t206 t207 bt214.1 bt214.2.1 bt214.2.2.1 bt214.2.2.2.1 bt214.2.2.2.2.1)) else (laws_FnGuesses.j0 k t210 true t203 t204 t205 t206 t207 bt214.1 bt214.2.1 bt214.2.2.1 bt214.2.2.2.1 bt214.2.2.2.2.1))) else (none)) = some r := H
   have A7 := aM A70
   clear A70
   by_cases c8 : 0 < (t210.length : Int)
   ·rw [if_pos c8] at H
    have c8b0 : decide (0 < (t210.length : Int)) = true := decide_eq_true c8
    have c8b1 : decide (0 < t210.length) = true := decide_eq_true (by omega)
    clear c8
    replace H := Option.bind_eq_some_iff.mp H
    obtain ⟨⟨t214, t215, t216, t217, t218, t219⟩, A90, H⟩ := H
    replace H : (if t208 = true then (if t219 = true then (laws_FnGuesses.j0 k t210 (!(t203 == t214) || (!(t204 == t215) || (!(t205 == t216) || (!(t206 == t217) || (!(t207 == t218)))))) t203 t204 t205 t206 t207 t214 t215 t216 t217 t218) else (laws_FnGuesses.j0 k t210 true t203 t204 t205 t206 t207 t214 t215 t216 t217 t218)) else (laws_FnGuesses.j0 k t210 true t203 t204 t205 t206 t207 t214 t215 t216 t217 t218)) = some r := H
    have A9 := aM A90
    clear A90
    have HC10 := aM H
    clear H
    go_enter Tryd.func3, Tryd.ntmps3
    go_upto_region 6 with (first | ((with_reducible refine gate_callee (f := 4) rfl ?_); refine goesL_ (some 22) rfl rfl Tryd.func4 (by kernel_rfl) rfl #[.slice A0 l0.length c0] rfl za ?_; (with_reducible refine (laws_big.calls _ _ l0 false _ ?side1 ?side2 A2.out).mono ?_); (case side1 => repeat (first | exact HR0.out | (with_reducible refine Kd.C_alloc ?_ _) | (with_reducible refine Kd.C_drewN ?_ _) | (with_reducible refine Kd.C_drew ?_))); (case side2 => exact HC0.out); rintro e w' ⟨rfl, ⟨nd, rfl⟩⟩; refine ⟨_, rfl, ?_⟩) | ((with_reducible refine gate_callee (f := 6) rfl ?_); refine goesL_ (some 25) rfl rfl Tryd.func6 (by kernel_rfl) rfl #[.slice A0 l0.length c0] rfl za ?_; (with_reducible refine (spec_DrawPlaces.calls k _ _ l0 t199 _ ?side1 ?side2 A4.out).mono ?_); (case side1 => repeat (first | exact HR0.out | (with_reducible refine Kd.C_alloc ?_ _) | (with_reducible refine Kd.C_drewN ?_ _) | (with_reducible refine Kd.C_drew ?_))); (case side2 => exact HC0.out); rintro e w11 ⟨v200, rfl, ho0, hb⟩; refine ⟨_, rfl, ?_⟩; have n0_ := aM (Kd.R_lower ho0 (below_size (zb))); have n1_ := aM (below_step (zb) hb); clear HB; have HO201 := n0_; have HB := n1_; clear n0_ n1_; (try clear hb); (try clear hb2); (try clear hk); (try clear hi); (try clear ho0); obtain ⟨Ao12, co12, eo12⟩ := Kd.R_slice HO201.out; subst eo12; have p202 : 0 ≤ (0 : Int) := (by omega); have q202 : 0 < (t199.length : Int) := of_decide_eq_true (by first | (with_reducible assumption) | assumption); obtain ⟨ad202, e202, hx202_0⟩ := Kd.at_int (Kd.R_reads' HO201.out).2.2 0 p202 q202; cases e202; have qi202 : (0 < t199.length) = True := eq_true (by omega); (try rw [show ((0 : Int)).toNat = 0 from rfl] at hx202_0); (try rw [Addr.add_zero'] at hx202_0); replace p202 := eq_true p202; replace q202 := eq_true q202) | ((with_reducible refine gate_callee (f := 5) rfl ?_); refine goesL_ (some 29) rfl rfl Tryd.func5 (by kernel_rfl) rfl #[.int .i64 (wrap64 (1 + (rd t199 0)))] rfl za ?_; (with_reducible refine (impl_NewLock.calls (wrap64 (1 + (rd t199 0))) t203 t204 t205 t206 t207 t208 _ A6.out).mono ?_); rintro e w13 ⟨rfl, hb⟩; refine ⟨_, rfl, ?_⟩; have n0_ := aM (Kd.R_below (by (with_reducible repeat (first | apply Kd.R_alloc | apply Kd.R_drewN | apply Kd.R_drew)); exact HO201.out) hb); have n1_ := aM (below_step (zb) hb); clear HO201; clear HB; have HO201 := n0_; have HB := n1_; clear n0_ n1_; (try clear hb); (try clear hb2); (try clear hk); (try clear hi)) | ((with_reducible refine gate_dst (N := 3) rfl ?_); refine box_event ?hg (N := 3) ?hd (cs := #[.int .i64 0, .int .i64 0, .int .i64 0, .int .i64 0, .int .i64 0]) (t := 25) ?hr ?_; (case hd => rfl); (case hg => rfl); (case hr => exact zg); intro gb209 hg w14 hbox hb; have n0_ := aM (Kd.R_below (by (with_reducible repeat (first | apply Kd.R_alloc | apply Kd.R_drewN | apply Kd.R_drew)); exact HO201.out) hb); have n1_ := aM (below_step (zb) hb); have n2_ := aM (hbox); have n3_ := aM ((by rw [hg]; exact (below_size (zb)) : w.heap.size ≤ gb209)); have n4_ := aM ((by rw [hg]; exact (below_size (zb)) : w.heap.size ≤ gb209)); clear HO201; clear HB; have HO201 := n0_; have HB := n1_; have BK209 := n2_; have GW209 := n3_; have GE209 := n4_; clear n0_ n1_ n2_ n3_ n4_; clear hb hbox hg; obtain ⟨hcz15_0, hcz15_1, hcz15_2, hcz15_3, hcz15_4, hfz15_0, hfz15_1, hfz15_2, hfz15_3, hfz15_4⟩ := cells5 BK209.out) | ((with_reducible refine gate_callee (f := 6) rfl ?_); refine goesL_ (some 33) rfl rfl Tryd.func6 (by kernel_rfl) rfl #[.slice A0 l0.length c0] rfl za ?_; (with_reducible refine (spec_DrawPlaces.calls k _ _ l0 t210 _ ?side1 ?side2 A7.out).mono ?_); (case side1 => exact Kd.C_below HR0.out (zb)); (case side2 => exact HC0.out); rintro e w16 ⟨v211, rfl, ho0, hb⟩; refine ⟨_, rfl, ?_⟩; have n0_ := aM (Kd.R_elder' (by (with_reducible repeat (first | apply Kd.R_alloc | apply Kd.R_drewN | apply Kd.R_drew)); exact (Kd.R_mono (Kd.R_far (p := ⟨gb209, 4, none⟩) (Kd.R_far (p := ⟨gb209, 3, none⟩) (Kd.R_far (p := ⟨gb209, 2, none⟩) (Kd.R_far (p := ⟨gb209, 1, none⟩) (Kd.R_far (p := ⟨gb209, 0, none⟩) (Kd.R_types HO201.out BK209.out (by decide)) (fun _ hk => hk.2) (.int .i64 t203)) (fun _ hk => hk.2) (.int .i64 t204)) (fun _ hk => hk.2) (.int .i64 t205)) (fun _ hk => hk.2) (.int .i64 t206)) (fun _ hk => hk.2) (.int .i64 t207)) (fun _ h_ => h_.1))) (Kd.R_base ho0) hb); have n1_ := aM (Kd.R_lower (Kd.R_new' ho0 (Kd.R_lt (by (with_reducible repeat (first | apply Kd.R_alloc | apply Kd.R_drewN | apply Kd.R_drew)); exact (Kd.R_mono (Kd.R_far (p := ⟨gb209, 4, none⟩) (Kd.R_far (p := ⟨gb209, 3, none⟩) (Kd.R_far (p := ⟨gb209, 2, none⟩) (Kd.R_far (p := ⟨gb209, 1, none⟩) (Kd.R_far (p := ⟨gb209, 0, none⟩) (Kd.R_types HO201.out BK209.out (by decide)) (fun _ hk => hk.2) (.int .i64 t203)) (fun _ hk => hk.2) (.int .i64 t204)) (fun _ hk => hk.2) (.int .i64 t205)) (fun _ hk => hk.2) (.int .i64 t206)) (fun _ hk => hk.2) (.int .i64 t207)) (fun _ h_ => h_.1))))) (below_size (zb))); have n2_ := aM (blk_below (g := gb209) (o := .cells #[.int .i64 t203, .int .i64 t204, .int .i64 t205, .int .i64 t206, .int .i64 t207] 25 (0, 0)) (by refine pq ?_; refine blk_put (cs := #[.int .i64 t203, .int .i64 t204, .int .i64 t205, .int .i64 t206, .int .i64 0]) ?_ 4 _ rfl; refine pq ?_; refine blk_put (cs := #[.int .i64 t203, .int .i64 t204, .int .i64 t205, .int .i64 0, .int .i64 0]) ?_ 3 _ rfl; refine pq ?_; refine blk_put (cs := #[.int .i64 t203, .int .i64 t204, .int .i64 0, .int .i64 0, .int .i64 0]) ?_ 2 _ rfl; refine pq ?_; refine blk_put (cs := #[.int .i64 t203, .int .i64 0, .int .i64 0, .int .i64 0, .int .i64 0]) ?_ 1 _ rfl; refine pq ?_; refine blk_put (cs := #[.int .i64 0, .int .i64 0, .int .i64 0, .int .i64 0, .int .i64 0]) ?_ 0 _ rfl; refine pq ?_; exact BK209.out) hb); have n3_ := aM (below_step (zb) hb); clear HO201; clear BK209; clear HB; have HO201 := n0_; have HO212 := n1_; have BK209 := n2_; have HB := n3_; clear n0_ n1_ n2_ n3_; (try clear hb); (try clear hb2); (try clear hk); (try clear hi); (try clear ho0); obtain ⟨Ao17, co17, eo17⟩ := Kd.R_slice HO212.out; subst eo17; have p213 : 0 ≤ (0 : Int) := (by omega); have q213 : 0 < (t210.length : Int) := of_decide_eq_true (by first | (with_reducible assumption) | assumption); obtain ⟨ad213, e213, hx213_0⟩ := Kd.at_int (Kd.R_reads' HO212.out).2.2 0 p213 q213; cases e213; have qi213 : (0 < t210.length) = True := eq_true (by omega); (try rw [show ((0 : Int)).toNat = 0 from rfl] at hx213_0); (try rw [Addr.add_zero'] at hx213_0); replace p213 := eq_true p213; replace q213 := eq_true q213) | ((with_reducible refine gate_callee (f := 7) rfl ?_); refine goesL_ (some 39) rfl rfl Tryd.func7 (by kernel_rfl) rfl #[.int .i64 (wrap64 (1 + (rd t210 0)))] rfl za ?_; (with_reducible refine (spec_NewLock.calls (wrap64 (1 + (rd t210 0))) t214 t215 t216 t217 t218 t219 _ A9.out).mono ?_); rintro e w18 ⟨rfl, hb⟩; refine ⟨_, rfl, ?_⟩; have n0_ := aM (Kd.R_below (by (with_reducible repeat (first | apply Kd.R_alloc | apply Kd.R_drewN | apply Kd.R_drew)); exact HO201.out) hb); have n1_ := aM (Kd.R_below (by (with_reducible repeat (first | apply Kd.R_alloc | apply Kd.R_drewN | apply Kd.R_drew)); exact HO212.out) hb); have n2_ := aM (bb BK209.out hb); have n3_ := aM (below_step (zb) hb); clear HO201; clear HO212; clear BK209; clear HB; have HO201 := n0_; have HO212 := n1_; have BK209 := n2_; have HB := n3_; clear n0_ n1_ n2_ n3_; (try clear hb); (try clear hb2); (try clear hk); (try clear hi)) | ((with_reducible refine gate_dst (N := 6) rfl ?_); refine box_event ?hg (N := 6) ?hd (cs := #[.int .i64 0, .int .i64 0, .int .i64 0, .int .i64 0, .int .i64 0]) (t := 25) ?hr ?_; (case hd => rfl); (case hg => rfl); (case hr => exact zg); intro gb220 hg w19 hbox hb; have n0_ := aM (Kd.R_below (by (with_reducible repeat (first | apply Kd.R_alloc | apply Kd.R_drewN | apply Kd.R_drew)); exact HO201.out) hb); have n1_ := aM (Kd.R_below (by (with_reducible repeat (first | apply Kd.R_alloc | apply Kd.R_drewN | apply Kd.R_drew)); exact HO212.out) hb); have n2_ := aM (bb BK209.out hb); have n3_ := aM (below_step (zb) hb); have n4_ := aM (hbox); have n5_ := aM ((by rw [hg]; exact (below_size (zb)) : w.heap.size ≤ gb220)); have n6_ := aM ((by rw [hg]; exact (below_size (zb)) : w.heap.size ≤ gb220)); have n7_ := aM ((by rw [hg]; exact Nat.ne_of_lt (nl BK209.out) : gb209 ≠ gb220)); have n8_ := aM ((by rw [hg]; exact Nat.ne_of_gt (nl BK209.out) : gb220 ≠ gb209)); clear HO201; clear HO212; clear BK209; clear HB; have HO201 := n0_; have HO212 := n1_; have BK209 := n2_; have HB := n3_; have BK220 := n4_; have GW220 := n5_; have GE220 := n6_; have NB209_220 := n7_; have NB220_209 := n8_; clear n0_ n1_ n2_ n3_ n4_ n5_ n6_ n7_ n8_; clear hb hbox hg; have hnb20 := NB220_209.out; have hnc20 := NB209_220.out; obtain ⟨hcz21_0, hcz21_1, hcz21_2, hcz21_3, hcz21_4, hfz21_0, hfz21_1, hfz21_2, hfz21_3, hfz21_4⟩ := cells5 BK220.out))
    (try simp only [Act.put, List.setIfInBounds_toArray, List.set_cons_zero, List.set_cons_succ])
    go_cut [52] (fun v52 wc => ∃ (kq : Nat) (x52_9 : Bool), v52 = .bool x52_9 ∧ Aside0 (laws_FnGuesses.j0 kq t210 x52_9 t203 t204 t205 t206 t207 t214 t215 t216 t217 t218 = some r) ∧ Aside0 (kq ≤ k) ∧ Aside0 (Kd.R (Kd.int .i64) 3 wc w.heap.size (fun _ => True) (.slice (some ad213) t210.length co17) t210) ∧ Aside0 (wc.heap[gb209]? = some (.cells #[.int .i64 t203, .int .i64 t204, .int .i64 t205, .int .i64 t206, .int .i64 t207] 25 (0, 0))) ∧ Aside0 (wc.heap[gb220]? = some (.cells #[.int .i64 t214, .int .i64 t215, .int .i64 t216, .int .i64 t217, .int .i64 t218] 25 (0, 0))) ∧ Aside0 (Below w.heap.size w wc))
    case first =>
     have H := HC10.out
     clear HC10
     by_cases c22 : t208 = true
     ·subst c22
      have H1 : (if t219 = true then (laws_FnGuesses.j0 k t210 (!(t203 == t214) || (!(t204 == t215) || (!(t205 == t216) || (!(t206 == t217) || (!(t207 == t218)))))) t203 t204 t205 t206 t207 t214 t215 t216 t217 t218) else (laws_FnGuesses.j0 k t210 true t203 t204 t205 t206 t207 t214 t215 t216 t217 t218)) = some r := by rw [if_pos rfl] at H; exact H
      clear H
      have H := H1
      clear H1
      by_cases c23 : t219 = true
      ·subst c23
       have H1 : (laws_FnGuesses.j0 k t210 (!(t203 == t214) || (!(t204 == t215) || (!(t205 == t216) || (!(t206 == t217) || (!(t207 == t218)))))) t203 t204 t205 t206 t207 t214 t215 t216 t217 t218) = some r := by rw [if_pos rfl] at H; exact H
       clear H
       have H := H1
       clear H1
       have H' := aM H
       clear H
       have hnb24 := NB209_220.out
       have hnc24 := NB220_209.out
       obtain ⟨hcz25_0, hcz25_1, hcz25_2, hcz25_3, hcz25_4, hfz25_0, hfz25_1, hfz25_2, hfz25_3, hfz25_4⟩ := cells5 BK209.out
       obtain ⟨hcz26_0, hcz26_1, hcz26_2, hcz26_3, hcz26_4, hfz26_0, hfz26_1, hfz26_2, hfz26_3, hfz26_4⟩ := cells5 BK220.out
       go_wp2
       go_meet
       case rel => exact ⟨_, ((!(t203 == t214) || (!(t204 == t215) || (!(t205 == t216) || (!(t206 == t217) || (!(t207 == t218))))))), zs, H', ⟨by first | omega | exact Nat.le_refl _⟩, ⟨by (with_reducible repeat (first | apply Kd.R_alloc | apply Kd.R_drewN | apply Kd.R_drew)); exact Kd.R_mono (Kd.R_far (p := ⟨gb220, 4, none⟩) (Kd.R_far (p := ⟨gb220, 3, none⟩) (Kd.R_far (p := ⟨gb220, 2, none⟩) (Kd.R_far (p := ⟨gb220, 1, none⟩) (Kd.R_far (p := ⟨gb220, 0, none⟩) (Kd.R_types HO212.out BK220.out (by decide)) (fun _ hk => hk.2) (.int .i64 t214)) (fun _ hk => hk.2) (.int .i64 t215)) (fun _ hk => hk.2) (.int .i64 t216)) (fun _ hk => hk.2) (.int .i64 t217)) (fun _ hk => hk.2) (.int .i64 t218)) (fun _ hk => trivial)⟩, ⟨by refine pq ?_; refine blk_far ?_ NB209_220.out _; refine pq ?_; refine blk_far ?_ NB209_220.out _; refine pq ?_; refine blk_far ?_ NB209_220.out _; refine pq ?_; refine blk_far ?_ NB209_220.out _; refine pq ?_; refine blk_far ?_ NB209_220.out _; refine pq ?_; exact BK209.out⟩, ⟨by refine pq ?_; refine blk_put (cs := #[.int .i64 t214, .int .i64 t215, .int .i64 t216, .int .i64 t217, .int .i64 0]) ?_ 4 _ rfl; refine pq ?_; refine blk_put (cs := #[.int .i64 t214, .int .i64 t215, .int .i64 t216, .int .i64 0, .int .i64 0]) ?_ 3 _ rfl; refine pq ?_; refine blk_put (cs := #[.int .i64 t214, .int .i64 t215, .int .i64 0, .int .i64 0, .int .i64 0]) ?_ 2 _ rfl; refine pq ?_; refine blk_put (cs := #[.int .i64 t214, .int .i64 0, .int .i64 0, .int .i64 0, .int .i64 0]) ?_ 1 _ rfl; refine pq ?_; refine blk_put (cs := #[.int .i64 0, .int .i64 0, .int .i64 0, .int .i64 0, .int .i64 0]) ?_ 0 _ rfl; refine pq ?_; exact BK220.out⟩, ⟨zb⟩⟩
      ·replace c23 := Bool.eq_false_iff.mpr c23
       subst c23
       have H1 : (laws_FnGuesses.j0 k t210 true t203 t204 t205 t206 t207 t214 t215 t216 t217 t218) = some r := by rw [if_neg (show ¬ (false = true) by decide)] at H; exact H
       clear H
       have H := H1
       clear H1
       have H' := aM H
       clear H
       go_wp2
       go_meet
       case rel => exact ⟨_, (true), zs, H', ⟨by first | omega | exact Nat.le_refl _⟩, ⟨by (with_reducible repeat (first | apply Kd.R_alloc | apply Kd.R_drewN | apply Kd.R_drew)); exact Kd.R_mono (Kd.R_far (p := ⟨gb220, 4, none⟩) (Kd.R_far (p := ⟨gb220, 3, none⟩) (Kd.R_far (p := ⟨gb220, 2, none⟩) (Kd.R_far (p := ⟨gb220, 1, none⟩) (Kd.R_far (p := ⟨gb220, 0, none⟩) (Kd.R_types HO212.out BK220.out (by decide)) (fun _ hk => hk.2) (.int .i64 t214)) (fun _ hk => hk.2) (.int .i64 t215)) (fun _ hk => hk.2) (.int .i64 t216)) (fun _ hk => hk.2) (.int .i64 t217)) (fun _ hk => hk.2) (.int .i64 t218)) (fun _ hk => trivial)⟩, ⟨by refine pq ?_; refine blk_far ?_ NB209_220.out _; refine pq ?_; refine blk_far ?_ NB209_220.out _; refine pq ?_; refine blk_far ?_ NB209_220.out _; refine pq ?_; refine blk_far ?_ NB209_220.out _; refine pq ?_; refine blk_far ?_ NB209_220.out _; refine pq ?_; exact BK209.out⟩, ⟨by refine pq ?_; refine blk_put (cs := #[.int .i64 t214, .int .i64 t215, .int .i64 t216, .int .i64 t217, .int .i64 0]) ?_ 4 _ rfl; refine pq ?_; refine blk_put (cs := #[.int .i64 t214, .int .i64 t215, .int .i64 t216, .int .i64 0, .int .i64 0]) ?_ 3 _ rfl; refine pq ?_; refine blk_put (cs := #[.int .i64 t214, .int .i64 t215, .int .i64 0, .int .i64 0, .int .i64 0]) ?_ 2 _ rfl; refine pq ?_; refine blk_put (cs := #[.int .i64 t214, .int .i64 0, .int .i64 0, .int .i64 0, .int .i64 0]) ?_ 1 _ rfl; refine pq ?_; refine blk_put (cs := #[.int .i64 0, .int .i64 0, .int .i64 0, .int .i64 0, .int .i64 0]) ?_ 0 _ rfl; refine pq ?_; exact BK220.out⟩, ⟨zb⟩⟩
     ·replace c22 := Bool.eq_false_iff.mpr c22
      subst c22
      have H1 : (laws_FnGuesses.j0 k t210 true t203 t204 t205 t206 t207 t214 t215 t216 t217 t218) = some r := by rw [if_neg (show ¬ (false = true) by decide)] at H; exact H
      clear H
      have H := H1
      clear H1
      have H' := aM H
      clear H
      go_wp2
      go_meet
      case rel => exact ⟨_, (true), zs, H', ⟨by first | omega | exact Nat.le_refl _⟩, ⟨by (with_reducible repeat (first | apply Kd.R_alloc | apply Kd.R_drewN | apply Kd.R_drew)); exact Kd.R_mono (Kd.R_far (p := ⟨gb220, 4, none⟩) (Kd.R_far (p := ⟨gb220, 3, none⟩) (Kd.R_far (p := ⟨gb220, 2, none⟩) (Kd.R_far (p := ⟨gb220, 1, none⟩) (Kd.R_far (p := ⟨gb220, 0, none⟩) (Kd.R_types HO212.out BK220.out (by decide)) (fun _ hk => hk.2) (.int .i64 t214)) (fun _ hk => hk.2) (.int .i64 t215)) (fun _ hk => hk.2) (.int .i64 t216)) (fun _ hk => hk.2) (.int .i64 t217)) (fun _ hk => hk.2) (.int .i64 t218)) (fun _ hk => trivial)⟩, ⟨by refine pq ?_; refine blk_far ?_ NB209_220.out _; refine pq ?_; refine blk_far ?_ NB209_220.out _; refine pq ?_; refine blk_far ?_ NB209_220.out _; refine pq ?_; refine blk_far ?_ NB209_220.out _; refine pq ?_; refine blk_far ?_ NB209_220.out _; refine pq ?_; exact BK209.out⟩, ⟨by refine pq ?_; refine blk_put (cs := #[.int .i64 t214, .int .i64 t215, .int .i64 t216, .int .i64 t217, .int .i64 0]) ?_ 4 _ rfl; refine pq ?_; refine blk_put (cs := #[.int .i64 t214, .int .i64 t215, .int .i64 t216, .int .i64 0, .int .i64 0]) ?_ 3 _ rfl; refine pq ?_; refine blk_put (cs := #[.int .i64 t214, .int .i64 t215, .int .i64 0, .int .i64 0, .int .i64 0]) ?_ 2 _ rfl; refine pq ?_; refine blk_put (cs := #[.int .i64 t214, .int .i64 0, .int .i64 0, .int .i64 0, .int .i64 0]) ?_ 1 _ rfl; refine pq ?_; refine blk_put (cs := #[.int .i64 0, .int .i64 0, .int .i64 0, .int .i64 0, .int .i64 0]) ?_ 0 _ rfl; refine pq ?_; exact BK220.out⟩, ⟨zb⟩⟩
    case rest =>
     clear HC10
     try clear c2
     try clear p2
     try clear q2
     try clear hx2
     try clear qi2
     try clear c3
     try clear c4
     try clear c5
     try clear c5b0
     try clear c5b1
     try clear c6
     try clear p6
     try clear c7
     try clear c8
     try clear c8b0
     try clear c8b1
     try clear c20
     try clear p20
     try clear q20
     try clear hx20
     try clear qi20
     try clear p21
     try clear q21
     try clear hx21
     try clear qi21
     try clear c22
     try clear c23
     try clear c24
     try clear hcz15_0 hcz15_1 hcz15_2 hcz15_3 hcz15_4 hfz15_0 hfz15_1 hfz15_2 hfz15_3 hfz15_4
     try clear hcz21_0 hcz21_1 hcz21_2 hcz21_3 hcz21_4 hfz21_0 hfz21_1 hfz21_2 hfz21_3 hfz21_4
     try clear hcz25_0 hcz25_1 hcz25_2 hcz25_3 hcz25_4 hfz25_0 hfz25_1 hfz25_2 hfz25_3 hfz25_4
     try clear hcz26_0 hcz26_1 hcz26_2 hcz26_3 hcz26_4 hfz26_0 hfz26_1 hfz26_2 hfz26_3 hfz26_4
     try clear hx202_0
     try clear hx213_0
     try clear p202
     try clear p213
     try clear q202
     try clear q213
     obtain ⟨kq, x52_9, rfl, HA, HJ9, HO_5, BK209, BK220, HB⟩ := hcut
     cases kq with
     | zero => exact absurd HA.out (by simp [laws_FnGuesses.j0])
     | succ kj9 =>
      have H := HA.out
      clear HA
      simp only [laws_FnGuesses.j0] at H
      by_cases c27 : x52_9 = true
      ·subst c27
       have H1 : (none) = some r := by rw [if_pos rfl] at H; exact H
       clear H
       have H := H1
       clear H1
       exact absurd H (by simp)
      ·replace c27 := Bool.eq_false_iff.mpr c27
       subst c27
       have H1 : (laws_FnGuesses.l0 kj9 t210 0 0 0 t203 t204 t205 t206 t207 t214 t215 t216 t217 t218) = some r := by rw [if_neg (show ¬ (false = true) by decide)] at H; exact H
       clear H
       have H := H1
       clear H1
       have H' := aM H
       clear H
       go_wp2
       go_loopg [8, 9, 10] kj9 (fun kq v8 v9 v10 w' => ∃ (x8_2 : Int) (x9_2 : Int) (x10_2 : Int) (x210000_2 : Int) (x210001_2 : Int) (x210002_2 : Int) (x210003_2 : Int) (x210004_2 : Int), v8 = .int .i64 x8_2 ∧ v9 = .int .i64 x9_2 ∧ v10 = .int .i64 x10_2 ∧ Aside0 (laws_FnGuesses.l0 kq t210 x8_2 x9_2 x10_2 x210000_2 x210001_2 x210002_2 x210003_2 x210004_2 t214 t215 t216 t217 t218 = some r) ∧ Aside0 (kq ≤ kj9) ∧ Aside0 (Kd.R (Kd.int .i64) 3 w' w.heap.size (fun _ => True) (.slice (some ad213) t210.length co17) t210) ∧ Aside0 (w'.heap[gb209]? = some (.cells #[.int .i64 x210000_2, .int .i64 x210001_2, .int .i64 x210002_2, .int .i64 x210003_2, .int .i64 x210004_2] 25 (0, 0))) ∧ Aside0 (w'.heap[gb220]? = some (.cells #[.int .i64 t214, .int .i64 t215, .int .i64 t216, .int .i64 t217, .int .i64 t218] 25 (0, 0))) ∧ Aside0 (Below w.heap.size w w'))
       case atStart => exact ⟨(0), (0), (0), (t203), (t204), (t205), (t206), (t207), zs, zs, zs, H', ⟨Nat.le_refl _⟩, ⟨by (with_reducible repeat (first | apply Kd.R_alloc | apply Kd.R_drewN | apply Kd.R_drew)); exact HO_5.out⟩, ⟨by exact pk BK209.out⟩, ⟨by exact pk BK220.out⟩, ⟨zb⟩⟩
       case round =>
        clear H'
        try clear c2
        try clear p2
        try clear q2
        try clear hx2
        try clear qi2
        try clear c3
        try clear c4
        try clear c5
        try clear c5b0
        try clear c5b1
        try clear c6
        try clear p6
        try clear c7
        try clear c8
        try clear c8b0
        try clear c8b1
        try clear c20
        try clear p20
        try clear q20
        try clear hx20
        try clear qi20
        try clear p21
        try clear q21
        try clear hx21
        try clear qi21
        try clear c22
        try clear c23
        try clear c24
        try clear c27
        try clear hcz15_0 hcz15_1 hcz15_2 hcz15_3 hcz15_4 hfz15_0 hfz15_1 hfz15_2 hfz15_3 hfz15_4
        try clear hcz21_0 hcz21_1 hcz21_2 hcz21_3 hcz21_4 hfz21_0 hfz21_1 hfz21_2 hfz21_3 hfz21_4
        try clear hcz25_0 hcz25_1 hcz25_2 hcz25_3 hcz25_4 hfz25_0 hfz25_1 hfz25_2 hfz25_3 hfz25_4
        try clear hcz26_0 hcz26_1 hcz26_2 hcz26_3 hcz26_4 hfz26_0 hfz26_1 hfz26_2 hfz26_3 hfz26_4
        try clear hx202_0
        try clear hx213_0
        try clear p2
        try clear p20
        try clear p202
        try clear p21
        try clear p213
        try clear p6
        try clear q2
        try clear q20
        try clear q202
        try clear q21
        try clear q213
        obtain ⟨x8_2, x9_2, x10_2, x210000_2, x210001_2, x210002_2, x210003_2, x210004_2, rfl, rfl, rfl, HA, HK2, HO_5, BK209, BK220, HB⟩ := hrel
        cases gk with
        | zero => exact absurd HA.out (by simp [laws_FnGuesses.l0])
        | succ k2 =>
         have H := HA.out
         clear HA
         simp only [laws_FnGuesses.l0] at H
         by_cases c28 : x10_2 < 12
         ·rw [if_pos c28] at H
          have c28b0 : decide (x10_2 < 12) = true := decide_eq_true c28
          clear c28
          by_cases c29 : 0 ≤ x10_2
          ·rw [if_pos c29] at H
           have c29b0 : decide (0 ≤ x10_2) = true := decide_eq_true c29
           clear c29
           by_cases c30 : x10_2 < (t210.length : Int)
           ·rw [if_pos c30] at H
            have c30b0 : decide (x10_2 < (t210.length : Int)) = true := decide_eq_true c30
            clear c30
            obtain ⟨ji31, hji31⟩ : ∃ j_ : Int, (wrap64 (11 - x10_2)) = j_ := ⟨_, rfl⟩
            replace H : (if 0 ≤ (ji31) then (if (ji31) < (t210.length : Int) then (laws_FnGuesses.l1 k2 t210 (wrap64 (x8_2 + (Int.tmod (rd t210 x10_2) 6))) x9_2 x10_2 (Int.tmod (rd t210 (ji31)) 5) x210000_2 x210001_2 x210002_2 x210003_2 x210004_2 t214 t215 t216 t217 t218) else (none)) else (none)) = some r := by first | (rw [hji31] at H; exact H) | (simp only [hji31] at H ⊢; exact H)
            have hji31w : (IntKind.i64.wrap (11 - x10_2)) = ji31 := (i64_w _).trans hji31
            by_cases c32 : 0 ≤ (ji31)
            ·rw [if_pos c32] at H
             have c32b0 : decide (0 ≤ (ji31)) = true := decide_eq_true c32
             clear c32
             by_cases c33 : (ji31) < (t210.length : Int)
             ·rw [if_pos c33] at H
              have c33b0 : decide ((ji31) < (t210.length : Int)) = true := decide_eq_true c33
              clear c33
              have H' := aM H
              clear H
              have p221 : 0 ≤ (x10_2 : Int) := of_decide_eq_true (by first | (with_reducible assumption) | assumption)
              have q221 : x10_2 < (t210.length : Int) := of_decide_eq_true (by first | (with_reducible assumption) | assumption)
              obtain ⟨ad221, e221, hx221_0⟩ := Kd.at_int (Kd.R_reads' HO_5.out).2.2 x10_2 p221 q221
              obtain rfl : ad213 = ad221 := (by injection e221)
              replace p221 := eq_true p221
              replace q221 := eq_true q221
              have p222 : 0 ≤ ((ji31) : Int) := of_decide_eq_true (by first | (with_reducible assumption) | assumption)
              have q222 : (ji31) < (t210.length : Int) := of_decide_eq_true (by first | (with_reducible assumption) | assumption)
              obtain ⟨ad222, e222, hx222_0⟩ := Kd.at_int (Kd.R_reads' HO_5.out).2.2 (ji31) p222 q222
              obtain rfl : ad213 = ad222 := (by injection e222)
              replace p222 := eq_true p222
              replace q222 := eq_true q222
              go_wp2
              go_loopg [9, 11] k2 (fun kq v9 v11 w' => ∃ (x9_3 : Int) (x11_3 : Int) (x210000_3 : Int) (x210001_3 : Int) (x210002_3 : Int) (x210003_3 : Int) (x210004_3 : Int), v9 = .int .i64 x9_3 ∧ v11 = .int .i64 x11_3 ∧ Aside0 (laws_FnGuesses.l1 kq t210 (wrap64 (x8_2 + (Int.tmod (rd t210 x10_2) 6))) x9_3 x10_2 x11_3 x210000_3 x210001_3 x210002_3 x210003_3 x210004_3 t214 t215 t216 t217 t218 = some r) ∧ Aside0 (kq ≤ k2) ∧ Aside0 (Kd.R (Kd.int .i64) 3 w' w.heap.size (fun _ => True) (.slice (some ad213) t210.length co17) t210) ∧ Aside0 (w'.heap[gb209]? = some (.cells #[.int .i64 x210000_3, .int .i64 x210001_3, .int .i64 x210002_3, .int .i64 x210003_3, .int .i64 x210004_3] 25 (0, 0))) ∧ Aside0 (w'.heap[gb220]? = some (.cells #[.int .i64 t214, .int .i64 t215, .int .i64 t216, .int .i64 t217, .int .i64 t218] 25 (0, 0))) ∧ Aside0 (Below w.heap.size w w'))
              case atStart => exact ⟨(x9_2), (Int.tmod (rd t210 (ji31)) 5), (x210000_2), (x210001_2), (x210002_2), (x210003_2), (x210004_2), zs, (by first | rfl | (simp; done) | (simp only [← hji31] <;> (first | rfl | simp)) | (simp [*]; done)), H', ⟨Nat.le_refl _⟩, ⟨by (with_reducible repeat (first | apply Kd.R_alloc | apply Kd.R_drewN | apply Kd.R_drew)); exact HO_5.out⟩, ⟨by exact pk BK209.out⟩, ⟨by exact pk BK220.out⟩, ⟨zb⟩⟩
              case round =>
               clear H'
               try clear c2
               try clear p2
               try clear q2
               try clear hx2
               try clear qi2
               try clear c3
               try clear c4
               try clear c5
               try clear c5b0
               try clear c5b1
               try clear c6
               try clear p6
               try clear c7
               try clear c8
               try clear c8b0
               try clear c8b1
               try clear c20
               try clear p20
               try clear q20
               try clear hx20
               try clear qi20
               try clear p21
               try clear q21
               try clear hx21
               try clear qi21
               try clear c22
               try clear p22
               try clear q22
               try clear hx22
               try clear c23
               try clear c24
               try clear c27
               try clear c28
               try clear c28b0
               try clear c29
               try clear c29b0
               try clear c30
               try clear c30b0
               try clear c32
               try clear c32b0
               try clear c33
               try clear c33b0
               try clear hcz15_0 hcz15_1 hcz15_2 hcz15_3 hcz15_4 hfz15_0 hfz15_1 hfz15_2 hfz15_3 hfz15_4
               try clear hcz21_0 hcz21_1 hcz21_2 hcz21_3 hcz21_4 hfz21_0 hfz21_1 hfz21_2 hfz21_3 hfz21_4
               try clear hcz25_0 hcz25_1 hcz25_2 hcz25_3 hcz25_4 hfz25_0 hfz25_1 hfz25_2 hfz25_3 hfz25_4
               try clear hcz26_0 hcz26_1 hcz26_2 hcz26_3 hcz26_4 hfz26_0 hfz26_1 hfz26_2 hfz26_3 hfz26_4
               try clear hx202_0
               try clear hx213_0
               try clear hx221_0
               try clear hx222_0
               try clear p2
               try clear p20
               try clear p202
               try clear p21
               try clear p213
               try clear p221
               try clear p222
               try clear p6
               try clear q2
               try clear q20
               try clear q202
               try clear q21
               try clear q213
               try clear q221
               try clear q222
               obtain ⟨x9_3, x11_3, x210000_3, x210001_3, x210002_3, x210003_3, x210004_3, rfl, rfl, HA, HK3, HO_5, BK209, BK220, HB⟩ := hrel
               cases gk with
               | zero => exact absurd HA.out (by simp [laws_FnGuesses.l1])
               | succ k3 =>
                have H := HA.out
                clear HA
                simp only [laws_FnGuesses.l1] at H
                by_cases c34 : x11_3 > 0
                ·rw [if_pos c34] at H
                 have c34b0 : decide (0 < x11_3) = true := decide_eq_true c34
                 clear c34
                 replace H := Option.bind_eq_some_iff.mp H
                 obtain ⟨⟨t223, t224, t225, t226, t227, t228⟩, A350, H⟩ := H
                 replace H : ((spec_Try.f k3 x210000_3 x210001_3 x210002_3 x210003_3 x210004_3 (⟨#[119, 114, 111, 110, 103]⟩ : ByteArray) (wrap64 (x8_2 + (Int.tmod (rd t210 x10_2) 6)))).bind fun bt230 => (if (!(t223 == bt230.1) || (!(t224 == bt230.2.1) || (!(t225 == bt230.2.2.1) || (!(t226 == bt230.2.2.2.1) || (!(t227 == bt230.2.2.2.2.1)))))) = true then (laws_FnGuesses.j3 k3 t210 (wrap64 (x8_2 + (Int.tmod (rd t210 x10_2) 6))) x9_3 x10_2 x11_3 t228 true t214 t215 t216 t217 t218 bt230.1 bt230.2.1 bt230.2.2.1 bt230.2.2.2.1 bt230.2.2.2.2.1) else (laws_FnGuesses.j3 k3 t210 (wrap64 (x8_2 + (Int.tmod (rd t210 x10_2) 6))) x9_3 x10_2 x11_3 t228 (t228 != bt230.2.2.2.2.2) t214 t215 t216 t217 t218 bt230.1 bt230.2.1 bt230.2.2.1 bt230.2.2.2.1 bt230.2.2.2.2.1))) = some r := H
                 have A35 := aM A350
                 clear A350
                 replace H := Option.bind_eq_some_iff.mp H
                 obtain ⟨⟨t230, t231, t232, t233, t234, t235⟩, A360, H⟩ := H
                 replace H : (if (!(t223 == t230) || (!(t224 == t231) || (!(t225 == t232) || (!(t226 == t233) || (!(t227 == t234)))))) = true then (laws_FnGuesses.j3 k3 t210 (wrap64 (x8_2 + (Int.tmod (rd t210 x10_2) 6))) x9_3 x10_2 x11_3 t228 true t214 t215 t216 t217 t218 t230 t231 t232 t233 t234) else (laws_FnGuesses.j3 k3 t210 (wrap64 (x8_2 + (Int.tmod (rd t210 x10_2) 6))) x9_3 x10_2 x11_3 t228 (t228 != t235) t214 t215 t216 t217 t218 t230 t231 t232 t233 t234)) = some r := H
                 have A36 := aM A360
                 clear A360
                 have HC37 := aM H
                 clear H
                 have hnb38 := NB209_220.out
                 have hnc38 := NB220_209.out
                 obtain ⟨hcz39_0, hcz39_1, hcz39_2, hcz39_3, hcz39_4, hfz39_0, hfz39_1, hfz39_2, hfz39_3, hfz39_4⟩ := cells5 BK209.out
                 go_upto_region 19 with (first | ((with_reducible refine gate_callee (f := 8) rfl ?_); refine goesL_ (some 77) rfl rfl Tryd.func8 (by kernel_rfl) rfl #[.agg #[.int .i64 x210000_3, .int .i64 x210001_3, .int .i64 x210002_3, .int .i64 x210003_3, .int .i64 x210004_3], .string (⟨#[119, 114, 111, 110, 103]⟩ : ByteArray), .int .i64 (wrap64 (x8_2 + (Int.tmod (rd t210 x10_2) 6)))] rfl za ?_; (with_reducible refine (impl_Try.calls k3 x210000_3 x210001_3 x210002_3 x210003_3 x210004_3 (⟨#[119, 114, 111, 110, 103]⟩ : ByteArray) (wrap64 (x8_2 + (Int.tmod (rd t210 x10_2) 6))) t223 t224 t225 t226 t227 t228 _ A35.out).mono ?_); rintro e w40 ⟨rfl, hb⟩; refine ⟨_, rfl, ?_⟩; have n0_ := aM (Kd.R_below (by (with_reducible repeat (first | apply Kd.R_alloc | apply Kd.R_drewN | apply Kd.R_drew)); exact HO_5.out) hb); have n1_ := aM (bb BK209.out hb); have n2_ := aM (bb BK220.out hb); have n3_ := aM (below_step (zb) hb); clear HO_5; clear BK209; clear BK220; clear HB; have HO_5 := n0_; have BK209 := n1_; have BK220 := n2_; have HB := n3_; clear n0_ n1_ n2_ n3_; (try clear hb); (try clear hb2); (try clear hk); (try clear hi)) | ((with_reducible refine gate_dst (N := 12) rfl ?_); refine box_event ?hg (N := 12) ?hd (cs := #[.int .i64 0, .int .i64 0, .int .i64 0, .int .i64 0, .int .i64 0]) (t := 25) ?hr ?_; (case hd => rfl); (case hg => rfl); (case hr => exact zg); intro gb229 hg w41 hbox hb; have n0_ := aM (Kd.R_below (by (with_reducible repeat (first | apply Kd.R_alloc | apply Kd.R_drewN | apply Kd.R_drew)); exact HO_5.out) hb); have n1_ := aM (bb BK209.out hb); have n2_ := aM (bb BK220.out hb); have n3_ := aM (below_step (zb) hb); have n4_ := aM (hbox); have n5_ := aM ((by rw [hg]; exact (below_size (zb)) : w.heap.size ≤ gb229)); have n6_ := aM ((by rw [hg]; exact (below_size (zb)) : w.heap.size ≤ gb229)); have n7_ := aM ((by rw [hg]; exact Nat.ne_of_lt (nl BK209.out) : gb209 ≠ gb229)); have n8_ := aM ((by rw [hg]; exact Nat.ne_of_gt (nl BK209.out) : gb229 ≠ gb209)); have n9_ := aM ((by rw [hg]; exact Nat.ne_of_lt (nl BK220.out) : gb220 ≠ gb229)); have n10_ := aM ((by rw [hg]; exact Nat.ne_of_gt (nl BK220.out) : gb229 ≠ gb220)); clear HO_5; clear BK209; clear BK220; clear HB; have HO_5 := n0_; have BK209 := n1_; have BK220 := n2_; have HB := n3_; have BK229 := n4_; have GW229 := n5_; have GE229 := n6_; have NB209_229 := n7_; have NB229_209 := n8_; have NB220_229 := n9_; have NB229_220 := n10_; clear n0_ n1_ n2_ n3_ n4_ n5_ n6_ n7_ n8_ n9_ n10_; clear hb hbox hg; have hnb42 := NB229_209.out; have hnc42 := NB209_229.out; have hnb43 := NB229_220.out; have hnc43 := NB220_229.out; obtain ⟨hcz44_0, hcz44_1, hcz44_2, hcz44_3, hcz44_4, hfz44_0, hfz44_1, hfz44_2, hfz44_3, hfz44_4⟩ := cells5 BK229.out; obtain ⟨hcz45_0, hcz45_1, hcz45_2, hcz45_3, hcz45_4, hfz45_0, hfz45_1, hfz45_2, hfz45_3, hfz45_4⟩ := cells5 BK209.out) | ((with_reducible refine gate_callee (f := 9) rfl ?_); refine goesL_ (some 83) rfl rfl Tryd.func9 (by kernel_rfl) rfl #[.agg #[.int .i64 x210000_3, .int .i64 x210001_3, .int .i64 x210002_3, .int .i64 x210003_3, .int .i64 x210004_3], .string (⟨#[119, 114, 111, 110, 103]⟩ : ByteArray), .int .i64 (wrap64 (x8_2 + (Int.tmod (rd t210 x10_2) 6)))] rfl za ?_; (with_reducible refine (spec_Try.calls k3 x210000_3 x210001_3 x210002_3 x210003_3 x210004_3 (⟨#[119, 114, 111, 110, 103]⟩ : ByteArray) (wrap64 (x8_2 + (Int.tmod (rd t210 x10_2) 6))) t230 t231 t232 t233 t234 t235 _ A36.out).mono ?_); rintro e w46 ⟨rfl, hb⟩; refine ⟨_, rfl, ?_⟩; have n0_ := aM (Kd.R_below (by (with_reducible repeat (first | apply Kd.R_alloc | apply Kd.R_drewN | apply Kd.R_drew)); exact (Kd.R_mono (Kd.R_far (p := ⟨gb229, 4, none⟩) (Kd.R_far (p := ⟨gb229, 3, none⟩) (Kd.R_far (p := ⟨gb229, 2, none⟩) (Kd.R_far (p := ⟨gb229, 1, none⟩) (Kd.R_far (p := ⟨gb229, 0, none⟩) (Kd.R_types HO_5.out BK229.out (by decide)) (fun _ hk => hk.2) (.int .i64 t223)) (fun _ hk => hk.2) (.int .i64 t224)) (fun _ hk => hk.2) (.int .i64 t225)) (fun _ hk => hk.2) (.int .i64 t226)) (fun _ hk => hk.2) (.int .i64 t227)) (fun _ h_ => h_.1))) hb); have n1_ := aM (blk_below (g := gb209) (o := .cells #[.int .i64 x210000_3, .int .i64 x210001_3, .int .i64 x210002_3, .int .i64 x210003_3, .int .i64 x210004_3] 25 (0, 0)) (by refine pq ?_; refine blk_far ?_ NB209_229.out _; refine pq ?_; refine blk_far ?_ NB209_229.out _; refine pq ?_; refine blk_far ?_ NB209_229.out _; refine pq ?_; refine blk_far ?_ NB209_229.out _; refine pq ?_; refine blk_far ?_ NB209_229.out _; refine pq ?_; exact BK209.out) hb); have n2_ := aM (blk_below (g := gb220) (o := .cells #[.int .i64 t214, .int .i64 t215, .int .i64 t216, .int .i64 t217, .int .i64 t218] 25 (0, 0)) (by refine pq ?_; refine blk_far ?_ NB220_229.out _; refine pq ?_; refine blk_far ?_ NB220_229.out _; refine pq ?_; refine blk_far ?_ NB220_229.out _; refine pq ?_; refine blk_far ?_ NB220_229.out _; refine pq ?_; refine blk_far ?_ NB220_229.out _; refine pq ?_; exact BK220.out) hb); have n3_ := aM (blk_below (g := gb229) (o := .cells #[.int .i64 t223, .int .i64 t224, .int .i64 t225, .int .i64 t226, .int .i64 t227] 25 (0, 0)) (by refine pq ?_; refine blk_put (cs := #[.int .i64 t223, .int .i64 t224, .int .i64 t225, .int .i64 t226, .int .i64 0]) ?_ 4 _ rfl; refine pq ?_; refine blk_put (cs := #[.int .i64 t223, .int .i64 t224, .int .i64 t225, .int .i64 0, .int .i64 0]) ?_ 3 _ rfl; refine pq ?_; refine blk_put (cs := #[.int .i64 t223, .int .i64 t224, .int .i64 0, .int .i64 0, .int .i64 0]) ?_ 2 _ rfl; refine pq ?_; refine blk_put (cs := #[.int .i64 t223, .int .i64 0, .int .i64 0, .int .i64 0, .int .i64 0]) ?_ 1 _ rfl; refine pq ?_; refine blk_put (cs := #[.int .i64 0, .int .i64 0, .int .i64 0, .int .i64 0, .int .i64 0]) ?_ 0 _ rfl; refine pq ?_; exact BK229.out) hb); have n4_ := aM (below_step (zb) hb); clear HO_5; clear BK209; clear BK220; clear BK229; clear HB; have HO_5 := n0_; have BK209 := n1_; have BK220 := n2_; have BK229 := n3_; have HB := n4_; clear n0_ n1_ n2_ n3_ n4_; (try clear hb); (try clear hb2); (try clear hk); (try clear hi)) | ((with_reducible refine gate_dst (N := 14) rfl ?_); refine box_event ?hg (N := 14) ?hd (cs := #[.int .i64 0, .int .i64 0, .int .i64 0, .int .i64 0, .int .i64 0]) (t := 25) ?hr ?_; (case hd => rfl); (case hg => rfl); (case hr => exact zg); intro gb236 hg w47 hbox hb; have n0_ := aM (Kd.R_below (by (with_reducible repeat (first | apply Kd.R_alloc | apply Kd.R_drewN | apply Kd.R_drew)); exact HO_5.out) hb); have n1_ := aM (bb BK209.out hb); have n2_ := aM (bb BK220.out hb); have n3_ := aM (bb BK229.out hb); have n4_ := aM (below_step (zb) hb); have n5_ := aM (hbox); have n6_ := aM ((by rw [hg]; exact (below_size (zb)) : w.heap.size ≤ gb236)); have n7_ := aM ((by rw [hg]; exact (below_size (zb)) : w.heap.size ≤ gb236)); have n8_ := aM ((by rw [hg]; exact Nat.ne_of_lt (nl BK209.out) : gb209 ≠ gb236)); have n9_ := aM ((by rw [hg]; exact Nat.ne_of_gt (nl BK209.out) : gb236 ≠ gb209)); have n10_ := aM ((by rw [hg]; exact Nat.ne_of_lt (nl BK220.out) : gb220 ≠ gb236)); have n11_ := aM ((by rw [hg]; exact Nat.ne_of_gt (nl BK220.out) : gb236 ≠ gb220)); have n12_ := aM ((by rw [hg]; exact Nat.ne_of_lt (nl BK229.out) : gb229 ≠ gb236)); have n13_ := aM ((by rw [hg]; exact Nat.ne_of_gt (nl BK229.out) : gb236 ≠ gb229)); clear HO_5; clear BK209; clear BK220; clear BK229; clear HB; have HO_5 := n0_; have BK209 := n1_; have BK220 := n2_; have BK229 := n3_; have HB := n4_; have BK236 := n5_; have GW236 := n6_; have GE236 := n7_; have NB209_236 := n8_; have NB236_209 := n9_; have NB220_236 := n10_; have NB236_220 := n11_; have NB229_236 := n12_; have NB236_229 := n13_; clear n0_ n1_ n2_ n3_ n4_ n5_ n6_ n7_ n8_ n9_ n10_ n11_ n12_ n13_; clear hb hbox hg; have hnb48 := NB236_209.out; have hnc48 := NB209_236.out; have hnb49 := NB236_220.out; have hnc49 := NB220_236.out; have hnb50 := NB236_229.out; have hnc50 := NB229_236.out; obtain ⟨hcz51_0, hcz51_1, hcz51_2, hcz51_3, hcz51_4, hfz51_0, hfz51_1, hfz51_2, hfz51_3, hfz51_4⟩ := cells5 BK236.out))
                 (try simp only [Act.put, List.setIfInBounds_toArray, List.set_cons_zero, List.set_cons_succ])
                 go_cut [93] (fun v93 wc => ∃ (kq : Nat) (x93_36 : Bool), v93 = .bool x93_36 ∧ Aside0 (laws_FnGuesses.j3 kq t210 (wrap64 (x8_2 + (Int.tmod (rd t210 x10_2) 6))) x9_3 x10_2 x11_3 t228 x93_36 t214 t215 t216 t217 t218 t230 t231 t232 t233 t234 = some r) ∧ Aside0 (kq ≤ k3) ∧ Aside0 (Kd.R (Kd.int .i64) 3 wc w.heap.size (fun _ => True) (.slice (some ad213) t210.length co17) t210) ∧ Aside0 (wc.heap[gb209]? = some (.cells #[.int .i64 x210000_3, .int .i64 x210001_3, .int .i64 x210002_3, .int .i64 x210003_3, .int .i64 x210004_3] 25 (0, 0))) ∧ Aside0 (wc.heap[gb220]? = some (.cells #[.int .i64 t214, .int .i64 t215, .int .i64 t216, .int .i64 t217, .int .i64 t218] 25 (0, 0))) ∧ Aside0 (wc.heap[gb229]? = some (.cells #[.int .i64 t223, .int .i64 t224, .int .i64 t225, .int .i64 t226, .int .i64 t227] 25 (0, 0))) ∧ Aside0 (wc.heap[gb236]? = some (.cells #[.int .i64 t230, .int .i64 t231, .int .i64 t232, .int .i64 t233, .int .i64 t234] 25 (0, 0))) ∧ Aside0 (Below w.heap.size w wc))
                 case first =>
                  have H := HC37.out
                  clear HC37
                  by_cases c52 : (!(t223 == t230) || (!(t224 == t231) || (!(t225 == t232) || (!(t226 == t233) || (!(t227 == t234)))))) = true
                  ·rw [if_pos c52] at H
                   have c52b0 : (!(t223 == t230) || (!(t224 == t231) || (!(t225 == t232) || (!(t226 == t233) || (!(t227 == t234)))))) = true := c52
                   clear c52
                   (first | rw [c52b0] | (simp only [i64_w, i32_w]; rw [c52b0]) | skip)
                   have H' := aM H
                   clear H
                   have hnb53 := NB229_209.out
                   have hnc53 := NB209_229.out
                   have hnb54 := NB229_220.out
                   have hnc54 := NB220_229.out
                   have hnb55 := NB229_236.out
                   have hnc55 := NB236_229.out
                   obtain ⟨hcz56_0, hcz56_1, hcz56_2, hcz56_3, hcz56_4, hfz56_0, hfz56_1, hfz56_2, hfz56_3, hfz56_4⟩ := cells5 BK229.out
                   have hnb57 := NB236_209.out
                   have hnc57 := NB209_236.out
                   have hnb58 := NB236_220.out
                   have hnc58 := NB220_236.out
                   obtain ⟨hcz59_0, hcz59_1, hcz59_2, hcz59_3, hcz59_4, hfz59_0, hfz59_1, hfz59_2, hfz59_3, hfz59_4⟩ := cells5 BK236.out
                   go_wp2
                   go_meet
                   case rel => exact ⟨_, (true), zs, H', ⟨by have := HJ9.out; have := HK2.out; have := HK3.out; first | omega | exact Nat.le_refl _⟩, ⟨by (with_reducible repeat (first | apply Kd.R_alloc | apply Kd.R_drewN | apply Kd.R_drew)); exact Kd.R_mono (Kd.R_far (p := ⟨gb236, 4, none⟩) (Kd.R_far (p := ⟨gb236, 3, none⟩) (Kd.R_far (p := ⟨gb236, 2, none⟩) (Kd.R_far (p := ⟨gb236, 1, none⟩) (Kd.R_far (p := ⟨gb236, 0, none⟩) (Kd.R_types HO_5.out BK236.out (by decide)) (fun _ hk => hk.2) (.int .i64 t230)) (fun _ hk => hk.2) (.int .i64 t231)) (fun _ hk => hk.2) (.int .i64 t232)) (fun _ hk => hk.2) (.int .i64 t233)) (fun _ hk => hk.2) (.int .i64 t234)) (fun _ hk => trivial)⟩, ⟨by refine pq ?_; refine blk_far ?_ NB209_236.out _; refine pq ?_; refine blk_far ?_ NB209_236.out _; refine pq ?_; refine blk_far ?_ NB209_236.out _; refine pq ?_; refine blk_far ?_ NB209_236.out _; refine pq ?_; refine blk_far ?_ NB209_236.out _; refine pq ?_; exact BK209.out⟩, ⟨by refine pq ?_; refine blk_far ?_ NB220_236.out _; refine pq ?_; refine blk_far ?_ NB220_236.out _; refine pq ?_; refine blk_far ?_ NB220_236.out _; refine pq ?_; refine blk_far ?_ NB220_236.out _; refine pq ?_; refine blk_far ?_ NB220_236.out _; refine pq ?_; exact BK220.out⟩, ⟨by refine pq ?_; refine blk_far ?_ NB229_236.out _; refine pq ?_; refine blk_far ?_ NB229_236.out _; refine pq ?_; refine blk_far ?_ NB229_236.out _; refine pq ?_; refine blk_far ?_ NB229_236.out _; refine pq ?_; refine blk_far ?_ NB229_236.out _; refine pq ?_; exact BK229.out⟩, ⟨by refine pq ?_; refine blk_put (cs := #[.int .i64 t230, .int .i64 t231, .int .i64 t232, .int .i64 t233, .int .i64 0]) ?_ 4 _ rfl; refine pq ?_; refine blk_put (cs := #[.int .i64 t230, .int .i64 t231, .int .i64 t232, .int .i64 0, .int .i64 0]) ?_ 3 _ rfl; refine pq ?_; refine blk_put (cs := #[.int .i64 t230, .int .i64 t231, .int .i64 0, .int .i64 0, .int .i64 0]) ?_ 2 _ rfl; refine pq ?_; refine blk_put (cs := #[.int .i64 t230, .int .i64 0, .int .i64 0, .int .i64 0, .int .i64 0]) ?_ 1 _ rfl; refine pq ?_; refine blk_put (cs := #[.int .i64 0, .int .i64 0, .int .i64 0, .int .i64 0, .int .i64 0]) ?_ 0 _ rfl; refine pq ?_; exact BK236.out⟩, ⟨zb⟩⟩
                  ·rw [if_neg c52] at H
                   have c52b0 : (!(t223 == t230) || (!(t224 == t231) || (!(t225 == t232) || (!(t226 == t233) || (!(t227 == t234)))))) = false := by simpa using c52
                   clear c52
                   (first | rw [c52b0] | (simp only [i64_w, i32_w]; rw [c52b0]) | skip)
                   have H' := aM H
                   clear H
                   have hnb60 := NB229_209.out
                   have hnc60 := NB209_229.out
                   have hnb61 := NB229_220.out
                   have hnc61 := NB220_229.out
                   have hnb62 := NB229_236.out
                   have hnc62 := NB236_229.out
                   obtain ⟨hcz63_0, hcz63_1, hcz63_2, hcz63_3, hcz63_4, hfz63_0, hfz63_1, hfz63_2, hfz63_3, hfz63_4⟩ := cells5 BK229.out
                   have hnb64 := NB236_209.out
                   have hnc64 := NB209_236.out
                   have hnb65 := NB236_220.out
                   have hnc65 := NB220_236.out
                   obtain ⟨hcz66_0, hcz66_1, hcz66_2, hcz66_3, hcz66_4, hfz66_0, hfz66_1, hfz66_2, hfz66_3, hfz66_4⟩ := cells5 BK236.out
                   go_wp2
                   go_meet
                   case rel => exact ⟨_, ((t228 != t235)), zs, H', ⟨by have := HJ9.out; have := HK2.out; have := HK3.out; first | omega | exact Nat.le_refl _⟩, ⟨by (with_reducible repeat (first | apply Kd.R_alloc | apply Kd.R_drewN | apply Kd.R_drew)); exact Kd.R_mono (Kd.R_far (p := ⟨gb236, 4, none⟩) (Kd.R_far (p := ⟨gb236, 3, none⟩) (Kd.R_far (p := ⟨gb236, 2, none⟩) (Kd.R_far (p := ⟨gb236, 1, none⟩) (Kd.R_far (p := ⟨gb236, 0, none⟩) (Kd.R_types HO_5.out BK236.out (by decide)) (fun _ hk => hk.2) (.int .i64 t230)) (fun _ hk => hk.2) (.int .i64 t231)) (fun _ hk => hk.2) (.int .i64 t232)) (fun _ hk => hk.2) (.int .i64 t233)) (fun _ hk => hk.2) (.int .i64 t234)) (fun _ hk => trivial)⟩, ⟨by refine pq ?_; refine blk_far ?_ NB209_236.out _; refine pq ?_; refine blk_far ?_ NB209_236.out _; refine pq ?_; refine blk_far ?_ NB209_236.out _; refine pq ?_; refine blk_far ?_ NB209_236.out _; refine pq ?_; refine blk_far ?_ NB209_236.out _; refine pq ?_; exact BK209.out⟩, ⟨by refine pq ?_; refine blk_far ?_ NB220_236.out _; refine pq ?_; refine blk_far ?_ NB220_236.out _; refine pq ?_; refine blk_far ?_ NB220_236.out _; refine pq ?_; refine blk_far ?_ NB220_236.out _; refine pq ?_; refine blk_far ?_ NB220_236.out _; refine pq ?_; exact BK220.out⟩, ⟨by refine pq ?_; refine blk_far ?_ NB229_236.out _; refine pq ?_; refine blk_far ?_ NB229_236.out _; refine pq ?_; refine blk_far ?_ NB229_236.out _; refine pq ?_; refine blk_far ?_ NB229_236.out _; refine pq ?_; refine blk_far ?_ NB229_236.out _; refine pq ?_; exact BK229.out⟩, ⟨by refine pq ?_; refine blk_put (cs := #[.int .i64 t230, .int .i64 t231, .int .i64 t232, .int .i64 t233, .int .i64 0]) ?_ 4 _ rfl; refine pq ?_; refine blk_put (cs := #[.int .i64 t230, .int .i64 t231, .int .i64 t232, .int .i64 0, .int .i64 0]) ?_ 3 _ rfl; refine pq ?_; refine blk_put (cs := #[.int .i64 t230, .int .i64 t231, .int .i64 0, .int .i64 0, .int .i64 0]) ?_ 2 _ rfl; refine pq ?_; refine blk_put (cs := #[.int .i64 t230, .int .i64 0, .int .i64 0, .int .i64 0, .int .i64 0]) ?_ 1 _ rfl; refine pq ?_; refine blk_put (cs := #[.int .i64 0, .int .i64 0, .int .i64 0, .int .i64 0, .int .i64 0]) ?_ 0 _ rfl; refine pq ?_; exact BK236.out⟩, ⟨zb⟩⟩
                 case rest =>
                  clear HC37
                  try clear c2
                  try clear p2
                  try clear q2
                  try clear hx2
                  try clear qi2
                  try clear c3
                  try clear c4
                  try clear c5
                  try clear c5b0
                  try clear c5b1
                  try clear c6
                  try clear p6
                  try clear c7
                  try clear c8
                  try clear c8b0
                  try clear c8b1
                  try clear c9
                  try clear c20
                  try clear p20
                  try clear q20
                  try clear hx20
                  try clear qi20
                  try clear p21
                  try clear q21
                  try clear hx21
                  try clear qi21
                  try clear c22
                  try clear p22
                  try clear q22
                  try clear hx22
                  try clear c23
                  try clear c24
                  try clear c27
                  try clear c28
                  try clear c28b0
                  try clear c29
                  try clear c29b0
                  try clear c30
                  try clear c30b0
                  try clear c32
                  try clear c32b0
                  try clear c33
                  try clear c33b0
                  try clear c34
                  try clear c34b0
                  try clear c38
                  try clear c42
                  try clear c43
                  try clear c48
                  try clear c49
                  try clear c50
                  try clear c52
                  try clear c52b0
                  try clear c53
                  try clear c54
                  try clear c55
                  try clear c57
                  try clear c58
                  try clear c60
                  try clear c61
                  try clear c62
                  try clear c64
                  try clear p64
                  try clear c65
                  try clear hcz15_0 hcz15_1 hcz15_2 hcz15_3 hcz15_4 hfz15_0 hfz15_1 hfz15_2 hfz15_3 hfz15_4
                  try clear hcz21_0 hcz21_1 hcz21_2 hcz21_3 hcz21_4 hfz21_0 hfz21_1 hfz21_2 hfz21_3 hfz21_4
                  try clear hcz25_0 hcz25_1 hcz25_2 hcz25_3 hcz25_4 hfz25_0 hfz25_1 hfz25_2 hfz25_3 hfz25_4
                  try clear hcz26_0 hcz26_1 hcz26_2 hcz26_3 hcz26_4 hfz26_0 hfz26_1 hfz26_2 hfz26_3 hfz26_4
                  try clear hcz39_0 hcz39_1 hcz39_2 hcz39_3 hcz39_4 hfz39_0 hfz39_1 hfz39_2 hfz39_3 hfz39_4
                  try clear hcz44_0 hcz44_1 hcz44_2 hcz44_3 hcz44_4 hfz44_0 hfz44_1 hfz44_2 hfz44_3 hfz44_4
                  try clear hcz45_0 hcz45_1 hcz45_2 hcz45_3 hcz45_4 hfz45_0 hfz45_1 hfz45_2 hfz45_3 hfz45_4
                  try clear hcz51_0 hcz51_1 hcz51_2 hcz51_3 hcz51_4 hfz51_0 hfz51_1 hfz51_2 hfz51_3 hfz51_4
                  try clear hcz56_0 hcz56_1 hcz56_2 hcz56_3 hcz56_4 hfz56_0 hfz56_1 hfz56_2 hfz56_3 hfz56_4
                  try clear hcz59_0 hcz59_1 hcz59_2 hcz59_3 hcz59_4 hfz59_0 hfz59_1 hfz59_2 hfz59_3 hfz59_4
                  try clear hcz63_0 hcz63_1 hcz63_2 hcz63_3 hcz63_4 hfz63_0 hfz63_1 hfz63_2 hfz63_3 hfz63_4
                  try clear hcz66_0 hcz66_1 hcz66_2 hcz66_3 hcz66_4 hfz66_0 hfz66_1 hfz66_2 hfz66_3 hfz66_4
                  try clear hx202_0
                  try clear hx213_0
                  try clear hx221_0
                  try clear hx222_0
                  try clear p2
                  try clear p20
                  try clear p202
                  try clear p21
                  try clear p213
                  try clear p22
                  try clear p221
                  try clear p222
                  try clear p6
                  try clear q2
                  try clear q20
                  try clear q202
                  try clear q21
                  try clear q213
                  try clear q22
                  try clear q221
                  try clear q222
                  obtain ⟨kq, x93_36, rfl, HA, HJ36, HO_5, BK209, BK220, BK229, BK236, HB⟩ := hcut
                  cases kq with
                  | zero => exact absurd HA.out (by simp [laws_FnGuesses.j3])
                  | succ kj36 =>
                   have H := HA.out
                   clear HA
                   simp only [laws_FnGuesses.j3] at H
                   by_cases c67 : x93_36 = true
                   ·subst c67
                    have H1 : (none) = some r := by rw [if_pos rfl] at H; exact H
                    clear H
                    have H := H1
                    clear H1
                    exact absurd H (by simp)
                   ·replace c67 := Bool.eq_false_iff.mpr c67
                    subst c67
                    have H1 : (if t228 = 1 then (laws_FnGuesses.l1 kj36 t210 (wrap64 (x8_2 + (Int.tmod (rd t210 x10_2) 6))) x9_3 x10_2 (wrap64 (x11_3 - 1)) t230 t231 t232 t233 t234 t214 t215 t216 t217 t218) else (laws_FnGuesses.l1 kj36 t210 (wrap64 (x8_2 + (Int.tmod (rd t210 x10_2) 6))) (wrap64 (x9_3 + 1)) x10_2 (wrap64 (x11_3 - 1)) t230 t231 t232 t233 t234 t214 t215 t216 t217 t218)) = some r := by rw [if_neg (show ¬ (false = true) by decide)] at H; exact H
                    clear H
                    have H := H1
                    clear H1
                    by_cases c68 : t228 = 1
                    ·rw [if_pos c68] at H
                     have c68b0 : (t228 == 1) = true := beq_iff_eq.mpr c68
                     have c68b1 : (t228 != 1) = false := bne_eq_false_iff_eq.mpr c68
                     clear c68
                     have H' := aM H
                     clear H
                     have hnb69 := NB236_209.out
                     have hnc69 := NB209_236.out
                     have hnb70 := NB236_220.out
                     have hnc70 := NB220_236.out
                     have hnb71 := NB236_229.out
                     have hnc71 := NB229_236.out
                     obtain ⟨hcz72_0, hcz72_1, hcz72_2, hcz72_3, hcz72_4, hfz72_0, hfz72_1, hfz72_2, hfz72_3, hfz72_4⟩ := cells5 BK236.out
                     have hnb73 := NB209_220.out
                     have hnc73 := NB220_209.out
                     have hnb74 := NB209_229.out
                     have hnc74 := NB229_209.out
                     obtain ⟨hcz75_0, hcz75_1, hcz75_2, hcz75_3, hcz75_4, hfz75_0, hfz75_1, hfz75_2, hfz75_3, hfz75_4⟩ := cells5 BK209.out
                     go_wp2
                     go_roundg kj36
                     case measure => have := HJ9.out; have := HK2.out; have := HK3.out; have := HJ36.out; omega
                     case rel => exact ⟨(x9_3), (wrap64 (x11_3 - 1)), (t230), (t231), (t232), (t233), (t234), zs, zs, H', ⟨by have := HJ9.out; have := HK2.out; have := HK3.out; have := HJ36.out; omega⟩, ⟨by (with_reducible repeat (first | apply Kd.R_alloc | apply Kd.R_drewN | apply Kd.R_drew)); exact Kd.R_mono (Kd.R_far (p := ⟨gb209, 4, none⟩) (Kd.R_far (p := ⟨gb209, 3, none⟩) (Kd.R_far (p := ⟨gb209, 2, none⟩) (Kd.R_far (p := ⟨gb209, 1, none⟩) (Kd.R_far (p := ⟨gb209, 0, none⟩) (Kd.R_types HO_5.out BK209.out (by decide)) (fun _ hk => hk.2) (.int .i64 t230)) (fun _ hk => hk.2) (.int .i64 t231)) (fun _ hk => hk.2) (.int .i64 t232)) (fun _ hk => hk.2) (.int .i64 t233)) (fun _ hk => hk.2) (.int .i64 t234)) (fun _ hk => trivial)⟩, ⟨by refine pq ?_; refine blk_put (cs := #[.int .i64 t230, .int .i64 t231, .int .i64 t232, .int .i64 t233, .int .i64 x210004_3]) ?_ 4 _ rfl; refine pq ?_; refine blk_put (cs := #[.int .i64 t230, .int .i64 t231, .int .i64 t232, .int .i64 x210003_3, .int .i64 x210004_3]) ?_ 3 _ rfl; refine pq ?_; refine blk_put (cs := #[.int .i64 t230, .int .i64 t231, .int .i64 x210002_3, .int .i64 x210003_3, .int .i64 x210004_3]) ?_ 2 _ rfl; refine pq ?_; refine blk_put (cs := #[.int .i64 t230, .int .i64 x210001_3, .int .i64 x210002_3, .int .i64 x210003_3, .int .i64 x210004_3]) ?_ 1 _ rfl; refine pq ?_; refine blk_put (cs := #[.int .i64 x210000_3, .int .i64 x210001_3, .int .i64 x210002_3, .int .i64 x210003_3, .int .i64 x210004_3]) ?_ 0 _ rfl; refine pq ?_; exact BK209.out⟩, ⟨by refine pq ?_; refine blk_far ?_ NB220_209.out _; refine pq ?_; refine blk_far ?_ NB220_209.out _; refine pq ?_; refine blk_far ?_ NB220_209.out _; refine pq ?_; refine blk_far ?_ NB220_209.out _; refine pq ?_; refine blk_far ?_ NB220_209.out _; refine pq ?_; exact BK220.out⟩, ⟨zb⟩⟩
                    ·rw [if_neg c68] at H
                     have c68b0 : (t228 == 1) = false := beq_eq_false_iff_ne.mpr c68
                     have c68b1 : (t228 != 1) = true := bne_iff_ne.mpr c68
                     have H' := aM H
                     clear H
                     have hnb76 := NB236_209.out
                     have hnc76 := NB209_236.out
                     have hnb77 := NB236_220.out
                     have hnc77 := NB220_236.out
                     have hnb78 := NB236_229.out
                     have hnc78 := NB229_236.out
                     obtain ⟨hcz79_0, hcz79_1, hcz79_2, hcz79_3, hcz79_4, hfz79_0, hfz79_1, hfz79_2, hfz79_3, hfz79_4⟩ := cells5 BK236.out
                     have hnb80 := NB209_220.out
                     have hnc80 := NB220_209.out
                     have hnb81 := NB209_229.out
                     have hnc81 := NB229_209.out
                     obtain ⟨hcz82_0, hcz82_1, hcz82_2, hcz82_3, hcz82_4, hfz82_0, hfz82_1, hfz82_2, hfz82_3, hfz82_4⟩ := cells5 BK209.out
                     go_wp2
                     go_roundg kj36
                     case measure => have := HJ9.out; have := HK2.out; have := HK3.out; have := HJ36.out; omega
                     case rel => exact ⟨(wrap64 (x9_3 + 1)), (wrap64 (x11_3 - 1)), (t230), (t231), (t232), (t233), (t234), zs, zs, H', ⟨by have := HJ9.out; have := HK2.out; have := HK3.out; have := HJ36.out; omega⟩, ⟨by (with_reducible repeat (first | apply Kd.R_alloc | apply Kd.R_drewN | apply Kd.R_drew)); exact Kd.R_mono (Kd.R_far (p := ⟨gb209, 4, none⟩) (Kd.R_far (p := ⟨gb209, 3, none⟩) (Kd.R_far (p := ⟨gb209, 2, none⟩) (Kd.R_far (p := ⟨gb209, 1, none⟩) (Kd.R_far (p := ⟨gb209, 0, none⟩) (Kd.R_types HO_5.out BK209.out (by decide)) (fun _ hk => hk.2) (.int .i64 t230)) (fun _ hk => hk.2) (.int .i64 t231)) (fun _ hk => hk.2) (.int .i64 t232)) (fun _ hk => hk.2) (.int .i64 t233)) (fun _ hk => hk.2) (.int .i64 t234)) (fun _ hk => trivial)⟩, ⟨by refine pq ?_; refine blk_put (cs := #[.int .i64 t230, .int .i64 t231, .int .i64 t232, .int .i64 t233, .int .i64 x210004_3]) ?_ 4 _ rfl; refine pq ?_; refine blk_put (cs := #[.int .i64 t230, .int .i64 t231, .int .i64 t232, .int .i64 x210003_3, .int .i64 x210004_3]) ?_ 3 _ rfl; refine pq ?_; refine blk_put (cs := #[.int .i64 t230, .int .i64 t231, .int .i64 x210002_3, .int .i64 x210003_3, .int .i64 x210004_3]) ?_ 2 _ rfl; refine pq ?_; refine blk_put (cs := #[.int .i64 t230, .int .i64 x210001_3, .int .i64 x210002_3, .int .i64 x210003_3, .int .i64 x210004_3]) ?_ 1 _ rfl; refine pq ?_; refine blk_put (cs := #[.int .i64 x210000_3, .int .i64 x210001_3, .int .i64 x210002_3, .int .i64 x210003_3, .int .i64 x210004_3]) ?_ 0 _ rfl; refine pq ?_; exact BK209.out⟩, ⟨by refine pq ?_; refine blk_far ?_ NB220_209.out _; refine pq ?_; refine blk_far ?_ NB220_209.out _; refine pq ?_; refine blk_far ?_ NB220_209.out _; refine pq ?_; refine blk_far ?_ NB220_209.out _; refine pq ?_; refine blk_far ?_ NB220_209.out _; refine pq ?_; exact BK220.out⟩, ⟨zb⟩⟩
                ·rw [if_neg c34] at H
                 have c34b0 : decide (0 < x11_3) = false := decide_eq_false c34
                 clear c34
                 have H' := aM H
                 clear H
                 go_wp2
                 go_roundg k3
                 case measure => have := HJ9.out; have := HK2.out; have := HK3.out; omega
                 case rel => exact ⟨((wrap64 (x8_2 + (Int.tmod (rd t210 x10_2) 6)))), (x9_3), (wrap64 (x10_2 + 1)), (x210000_3), (x210001_3), (x210002_3), (x210003_3), (x210004_3), zs, zs, zs, H', ⟨by have := HJ9.out; have := HK2.out; have := HK3.out; omega⟩, ⟨by (with_reducible repeat (first | apply Kd.R_alloc | apply Kd.R_drewN | apply Kd.R_drew)); exact HO_5.out⟩, ⟨by exact pk BK209.out⟩, ⟨by exact pk BK220.out⟩, ⟨zb⟩⟩
             ·rw [if_neg c33] at H
              exact absurd H (by simp)
            ·rw [if_neg c32] at H
             exact absurd H (by simp)
           ·rw [if_neg c30] at H
            exact absurd H (by simp)
          ·rw [if_neg c29] at H
           exact absurd H (by simp)
         ·rw [if_neg c28] at H
          have c28b0 : decide (x10_2 < 12) = false := decide_eq_false c28
          clear c28
          by_cases c83 : 1 < (t210.length : Int)
          ·rw [if_pos c83] at H
           have c83b0 : decide (1 < (t210.length : Int)) = true := decide_eq_true c83
           have c83b1 : decide (1 < t210.length) = true := decide_eq_true (by omega)
           clear c83
           have H' := aM H
           clear H
           have p237 : 0 ≤ (1 : Int) := (by omega)
           have q237 : 1 < (t210.length : Int) := of_decide_eq_true (by first | (with_reducible assumption) | assumption)
           obtain ⟨ad237, e237, hx237_0⟩ := Kd.at_int (Kd.R_reads' HO_5.out).2.2 1 p237 q237
           obtain rfl : ad213 = ad237 := (by injection e237)
           (try simp only [show (1 : Int).toNat = 1 from rfl, Nat.reduceMul, Nat.reduceEqDiff, Go.Addr.add, ↓reduceIte] at hx237_0)
           have qi237 : (1 < t210.length) = True := eq_true (by omega)
           (try rw [show ((1 : Int)).toNat = 1 from rfl] at hx237_0)
           replace p237 := eq_true p237
           replace q237 := eq_true q237
           go_wp2
           go_loopg [16, 18] k2 (fun kq v16 v18 w' => ∃ (x16_3 : Int) (x18_3 : Int) (x221000_3 : Int) (x221001_3 : Int) (x221002_3 : Int) (x221003_3 : Int) (x221004_3 : Int), v16 = .int .i64 x16_3 ∧ v18 = .int .i64 x18_3 ∧ Aside0 (laws_FnGuesses.l2 kq x8_2 x9_2 x16_3 (Int.tmod (rd t210 1) 120) x18_3 x221000_3 x221001_3 x221002_3 x221003_3 x221004_3 = some r) ∧ Aside0 (kq ≤ k2) ∧ Aside0 (w'.heap[gb209]? = some (.cells #[.int .i64 x210000_2, .int .i64 x210001_2, .int .i64 x210002_2, .int .i64 x210003_2, .int .i64 x210004_2] 25 (0, 0))) ∧ Aside0 (w'.heap[gb220]? = some (.cells #[.int .i64 x221000_3, .int .i64 x221001_3, .int .i64 x221002_3, .int .i64 x221003_3, .int .i64 x221004_3] 25 (0, 0))) ∧ Aside0 (Below w.heap.size w w'))
           case atStart => exact ⟨(0), (0), (t214), (t215), (t216), (t217), (t218), zs, zs, H', ⟨Nat.le_refl _⟩, ⟨by exact pk BK209.out⟩, ⟨by exact pk BK220.out⟩, ⟨zb⟩⟩
           case round =>
            clear H'
            try clear c2
            try clear p2
            try clear q2
            try clear hx2
            try clear qi2
            try clear c3
            try clear c4
            try clear c5
            try clear c5b0
            try clear c5b1
            try clear c6
            try clear p6
            try clear c7
            try clear c8
            try clear c8b0
            try clear c8b1
            try clear c9
            try clear c20
            try clear p20
            try clear q20
            try clear hx20
            try clear qi20
            try clear p21
            try clear q21
            try clear hx21
            try clear qi21
            try clear c22
            try clear p22
            try clear q22
            try clear hx22
            try clear c23
            try clear p23
            try clear q23
            try clear hx23
            try clear qi23
            try clear c24
            try clear c27
            try clear c28
            try clear c28b0
            try clear c29
            try clear c29b0
            try clear c30
            try clear c30b0
            try clear c32
            try clear c32b0
            try clear c33
            try clear c33b0
            try clear c34
            try clear c34b0
            try clear c38
            try clear c42
            try clear c43
            try clear c48
            try clear c49
            try clear c50
            try clear c52
            try clear c52b0
            try clear c53
            try clear c54
            try clear c55
            try clear c57
            try clear c58
            try clear c60
            try clear c61
            try clear c62
            try clear c64
            try clear p64
            try clear c65
            try clear c67
            try clear c68
            try clear c68b0
            try clear c68b1
            try clear c69
            try clear c70
            try clear c71
            try clear c73
            try clear c74
            try clear c76
            try clear c77
            try clear c78
            try clear c80
            try clear c81
            try clear c83
            try clear c83b0
            try clear c83b1
            try clear hcz15_0 hcz15_1 hcz15_2 hcz15_3 hcz15_4 hfz15_0 hfz15_1 hfz15_2 hfz15_3 hfz15_4
            try clear hcz21_0 hcz21_1 hcz21_2 hcz21_3 hcz21_4 hfz21_0 hfz21_1 hfz21_2 hfz21_3 hfz21_4
            try clear hcz25_0 hcz25_1 hcz25_2 hcz25_3 hcz25_4 hfz25_0 hfz25_1 hfz25_2 hfz25_3 hfz25_4
            try clear hcz26_0 hcz26_1 hcz26_2 hcz26_3 hcz26_4 hfz26_0 hfz26_1 hfz26_2 hfz26_3 hfz26_4
            try clear hcz39_0 hcz39_1 hcz39_2 hcz39_3 hcz39_4 hfz39_0 hfz39_1 hfz39_2 hfz39_3 hfz39_4
            try clear hcz44_0 hcz44_1 hcz44_2 hcz44_3 hcz44_4 hfz44_0 hfz44_1 hfz44_2 hfz44_3 hfz44_4
            try clear hcz45_0 hcz45_1 hcz45_2 hcz45_3 hcz45_4 hfz45_0 hfz45_1 hfz45_2 hfz45_3 hfz45_4
            try clear hcz51_0 hcz51_1 hcz51_2 hcz51_3 hcz51_4 hfz51_0 hfz51_1 hfz51_2 hfz51_3 hfz51_4
            try clear hcz56_0 hcz56_1 hcz56_2 hcz56_3 hcz56_4 hfz56_0 hfz56_1 hfz56_2 hfz56_3 hfz56_4
            try clear hcz59_0 hcz59_1 hcz59_2 hcz59_3 hcz59_4 hfz59_0 hfz59_1 hfz59_2 hfz59_3 hfz59_4
            try clear hcz63_0 hcz63_1 hcz63_2 hcz63_3 hcz63_4 hfz63_0 hfz63_1 hfz63_2 hfz63_3 hfz63_4
            try clear hcz66_0 hcz66_1 hcz66_2 hcz66_3 hcz66_4 hfz66_0 hfz66_1 hfz66_2 hfz66_3 hfz66_4
            try clear hcz72_0 hcz72_1 hcz72_2 hcz72_3 hcz72_4 hfz72_0 hfz72_1 hfz72_2 hfz72_3 hfz72_4
            try clear hcz75_0 hcz75_1 hcz75_2 hcz75_3 hcz75_4 hfz75_0 hfz75_1 hfz75_2 hfz75_3 hfz75_4
            try clear hcz79_0 hcz79_1 hcz79_2 hcz79_3 hcz79_4 hfz79_0 hfz79_1 hfz79_2 hfz79_3 hfz79_4
            try clear hcz82_0 hcz82_1 hcz82_2 hcz82_3 hcz82_4 hfz82_0 hfz82_1 hfz82_2 hfz82_3 hfz82_4
            try clear hx202_0
            try clear hx213_0
            try clear hx221_0
            try clear hx222_0
            try clear hx237_0
            try clear p2
            try clear p20
            try clear p202
            try clear p21
            try clear p213
            try clear p22
            try clear p221
            try clear p222
            try clear p237
            try clear p6
            try clear p64
            try clear q2
            try clear q20
            try clear q202
            try clear q21
            try clear q213
            try clear q22
            try clear q221
            try clear q222
            try clear q237
            obtain ⟨x16_3, x18_3, x221000_3, x221001_3, x221002_3, x221003_3, x221004_3, rfl, rfl, HA, HK3, BK209, BK220, HB⟩ := hrel
            cases gk with
            | zero => exact absurd HA.out (by simp [laws_FnGuesses.l2])
            | succ k3 =>
             have H := HA.out
             clear HA
             simp only [laws_FnGuesses.l2] at H
             by_cases c84 : x18_3 ≤ (Int.tmod (rd t210 1) 120)
             ·rw [if_pos c84] at H
              have c84b0 : decide (x18_3 ≤ (Int.tmod (rd t210 1) 120)) = true := decide_eq_true c84
              clear c84
              have H' := aM H
              clear H
              go_wp2
              go_loopg [16] k3 (fun kq v16 w' => ∃ (x16_4 : Int) (x221000_4 : Int) (x221001_4 : Int) (x221002_4 : Int) (x221003_4 : Int) (x221004_4 : Int), v16 = .int .i64 x16_4 ∧ Aside0 (laws_FnGuesses.l3 kq x8_2 x9_2 x16_4 (Int.tmod (rd t210 1) 120) x18_3 x221000_4 x221001_4 x221002_4 x221003_4 x221004_4 = some r) ∧ Aside0 (kq ≤ k3) ∧ Aside0 (w'.heap[gb209]? = some (.cells #[.int .i64 x210000_2, .int .i64 x210001_2, .int .i64 x210002_2, .int .i64 x210003_2, .int .i64 x210004_2] 25 (0, 0))) ∧ Aside0 (w'.heap[gb220]? = some (.cells #[.int .i64 x221000_4, .int .i64 x221001_4, .int .i64 x221002_4, .int .i64 x221003_4, .int .i64 x221004_4] 25 (0, 0))) ∧ Aside0 (Below w.heap.size w w'))
              case atStart => exact ⟨(x16_3), (x221000_3), (x221001_3), (x221002_3), (x221003_3), (x221004_3), zs, H', ⟨Nat.le_refl _⟩, ⟨by exact pk BK209.out⟩, ⟨by exact pk BK220.out⟩, ⟨zb⟩⟩
              case round =>
               clear H'
               try clear c2
               try clear p2
               try clear q2
               try clear hx2
               try clear qi2
               try clear c3
               try clear c4
               try clear c5
               try clear c5b0
               try clear c5b1
               try clear c6
               try clear p6
               try clear c7
               try clear c8
               try clear c8b0
               try clear c8b1
               try clear c9
               try clear c20
               try clear p20
               try clear q20
               try clear hx20
               try clear qi20
               try clear p21
               try clear q21
               try clear hx21
               try clear qi21
               try clear c22
               try clear p22
               try clear q22
               try clear hx22
               try clear c23
               try clear p23
               try clear q23
               try clear hx23
               try clear qi23
               try clear c24
               try clear c27
               try clear c28
               try clear c28b0
               try clear c29
               try clear c29b0
               try clear c30
               try clear c30b0
               try clear c32
               try clear c32b0
               try clear c33
               try clear c33b0
               try clear c34
               try clear c34b0
               try clear c38
               try clear c42
               try clear c43
               try clear c48
               try clear c49
               try clear c50
               try clear c52
               try clear c52b0
               try clear c53
               try clear c54
               try clear c55
               try clear c57
               try clear c58
               try clear c60
               try clear c61
               try clear c62
               try clear c64
               try clear p64
               try clear c65
               try clear c67
               try clear c68
               try clear c68b0
               try clear c68b1
               try clear c69
               try clear c70
               try clear c71
               try clear c73
               try clear c74
               try clear c76
               try clear c77
               try clear c78
               try clear c80
               try clear c81
               try clear c83
               try clear c83b0
               try clear c83b1
               try clear c84
               try clear c84b0
               try clear hcz15_0 hcz15_1 hcz15_2 hcz15_3 hcz15_4 hfz15_0 hfz15_1 hfz15_2 hfz15_3 hfz15_4
               try clear hcz21_0 hcz21_1 hcz21_2 hcz21_3 hcz21_4 hfz21_0 hfz21_1 hfz21_2 hfz21_3 hfz21_4
               try clear hcz25_0 hcz25_1 hcz25_2 hcz25_3 hcz25_4 hfz25_0 hfz25_1 hfz25_2 hfz25_3 hfz25_4
               try clear hcz26_0 hcz26_1 hcz26_2 hcz26_3 hcz26_4 hfz26_0 hfz26_1 hfz26_2 hfz26_3 hfz26_4
               try clear hcz39_0 hcz39_1 hcz39_2 hcz39_3 hcz39_4 hfz39_0 hfz39_1 hfz39_2 hfz39_3 hfz39_4
               try clear hcz44_0 hcz44_1 hcz44_2 hcz44_3 hcz44_4 hfz44_0 hfz44_1 hfz44_2 hfz44_3 hfz44_4
               try clear hcz45_0 hcz45_1 hcz45_2 hcz45_3 hcz45_4 hfz45_0 hfz45_1 hfz45_2 hfz45_3 hfz45_4
               try clear hcz51_0 hcz51_1 hcz51_2 hcz51_3 hcz51_4 hfz51_0 hfz51_1 hfz51_2 hfz51_3 hfz51_4
               try clear hcz56_0 hcz56_1 hcz56_2 hcz56_3 hcz56_4 hfz56_0 hfz56_1 hfz56_2 hfz56_3 hfz56_4
               try clear hcz59_0 hcz59_1 hcz59_2 hcz59_3 hcz59_4 hfz59_0 hfz59_1 hfz59_2 hfz59_3 hfz59_4
               try clear hcz63_0 hcz63_1 hcz63_2 hcz63_3 hcz63_4 hfz63_0 hfz63_1 hfz63_2 hfz63_3 hfz63_4
               try clear hcz66_0 hcz66_1 hcz66_2 hcz66_3 hcz66_4 hfz66_0 hfz66_1 hfz66_2 hfz66_3 hfz66_4
               try clear hcz72_0 hcz72_1 hcz72_2 hcz72_3 hcz72_4 hfz72_0 hfz72_1 hfz72_2 hfz72_3 hfz72_4
               try clear hcz75_0 hcz75_1 hcz75_2 hcz75_3 hcz75_4 hfz75_0 hfz75_1 hfz75_2 hfz75_3 hfz75_4
               try clear hcz79_0 hcz79_1 hcz79_2 hcz79_3 hcz79_4 hfz79_0 hfz79_1 hfz79_2 hfz79_3 hfz79_4
               try clear hcz82_0 hcz82_1 hcz82_2 hcz82_3 hcz82_4 hfz82_0 hfz82_1 hfz82_2 hfz82_3 hfz82_4
               try clear hx202_0
               try clear hx213_0
               try clear hx221_0
               try clear hx222_0
               try clear hx237_0
               try clear p2
               try clear p20
               try clear p202
               try clear p21
               try clear p213
               try clear p22
               try clear p221
               try clear p222
               try clear p23
               try clear p237
               try clear p6
               try clear p64
               try clear q2
               try clear q20
               try clear q202
               try clear q21
               try clear q213
               try clear q22
               try clear q221
               try clear q222
               try clear q23
               try clear q237
               obtain ⟨x16_4, x221000_4, x221001_4, x221002_4, x221003_4, x221004_4, rfl, HA, HK4, BK209, BK220, HB⟩ := hrel
               cases gk with
               | zero => exact absurd HA.out (by simp [laws_FnGuesses.l3])
               | succ k4 =>
                have H := HA.out
                clear HA
                simp only [laws_FnGuesses.l3] at H
                replace H := Option.bind_eq_some_iff.mp H
                obtain ⟨⟨t238, t239, t240, t241, t242, t243⟩, A850, H⟩ := H
                replace H : (if t243 = 1 then (laws_FnGuesses.l2 k4 x8_2 x9_2 x16_4 (Int.tmod (rd t210 1) 120) (wrap64 (x18_3 + 1)) x221000_4 x221001_4 x221002_4 x221003_4 x221004_4) else (laws_FnGuesses.l3 k4 x8_2 x9_2 (wrap64 (x16_4 + 1)) (Int.tmod (rd t210 1) 120) x18_3 t238 t239 t240 t241 t242)) = some r := H
                have A85 := aM A850
                clear A850
                by_cases c86 : t243 = 1
                ·rw [if_pos c86] at H
                 have c86b0 : (t243 == 1) = true := beq_iff_eq.mpr c86
                 have c86b1 : (t243 != 1) = false := bne_eq_false_iff_eq.mpr c86
                 clear c86
                 have H' := aM H
                 clear H
                 have hnb87 := NB220_209.out
                 have hnc87 := NB209_220.out
                 obtain ⟨hcz88_0, hcz88_1, hcz88_2, hcz88_3, hcz88_4, hfz88_0, hfz88_1, hfz88_2, hfz88_3, hfz88_4⟩ := cells5 BK220.out
                 go_wp2_with (first | ((with_reducible refine gate_callee (f := 9) rfl ?_); refine goesL_ (some 111) rfl rfl Tryd.func9 (by kernel_rfl) rfl #[.agg #[.int .i64 x221000_4, .int .i64 x221001_4, .int .i64 x221002_4, .int .i64 x221003_4, .int .i64 x221004_4], .string (⟨#[119, 114, 111, 110, 103]⟩ : ByteArray), .int .i64 x18_3] rfl za ?_; (with_reducible refine (spec_Try.calls k4 x221000_4 x221001_4 x221002_4 x221003_4 x221004_4 (⟨#[119, 114, 111, 110, 103]⟩ : ByteArray) x18_3 t238 t239 t240 t241 t242 t243 _ A85.out).mono ?_); rintro e w89 ⟨rfl, hb⟩; refine ⟨_, rfl, ?_⟩; have n0_ := aM (bb BK209.out hb); have n1_ := aM (bb BK220.out hb); have n2_ := aM (below_step (zb) hb); clear BK209; clear BK220; clear HB; have BK209 := n0_; have BK220 := n1_; have HB := n2_; clear n0_ n1_ n2_; (try clear hb); (try clear hb2); (try clear hk); (try clear hi)) | ((with_reducible refine gate_dst (N := 19) rfl ?_); refine box_event ?hg (N := 19) ?hd (cs := #[.int .i64 0, .int .i64 0, .int .i64 0, .int .i64 0, .int .i64 0]) (t := 25) ?hr ?_; (case hd => rfl); (case hg => rfl); (case hr => exact zg); intro gb244 hg w90 hbox hb; have n0_ := aM (bb BK209.out hb); have n1_ := aM (bb BK220.out hb); have n2_ := aM (below_step (zb) hb); have n3_ := aM (hbox); have n4_ := aM ((by rw [hg]; exact (below_size (zb)) : w.heap.size ≤ gb244)); have n5_ := aM ((by rw [hg]; exact (below_size (zb)) : w.heap.size ≤ gb244)); have n6_ := aM ((by rw [hg]; exact Nat.ne_of_lt (nl BK209.out) : gb209 ≠ gb244)); have n7_ := aM ((by rw [hg]; exact Nat.ne_of_gt (nl BK209.out) : gb244 ≠ gb209)); have n8_ := aM ((by rw [hg]; exact Nat.ne_of_lt (nl BK220.out) : gb220 ≠ gb244)); have n9_ := aM ((by rw [hg]; exact Nat.ne_of_gt (nl BK220.out) : gb244 ≠ gb220)); clear BK209; clear BK220; clear HB; have BK209 := n0_; have BK220 := n1_; have HB := n2_; have BK244 := n3_; have GW244 := n4_; have GE244 := n5_; have NB209_244 := n6_; have NB244_209 := n7_; have NB220_244 := n8_; have NB244_220 := n9_; clear n0_ n1_ n2_ n3_ n4_ n5_ n6_ n7_ n8_ n9_; clear hb hbox hg; have hnb91 := NB244_209.out; have hnc91 := NB209_244.out; have hnb92 := NB244_220.out; have hnc92 := NB220_244.out; obtain ⟨hcz93_0, hcz93_1, hcz93_2, hcz93_3, hcz93_4, hfz93_0, hfz93_1, hfz93_2, hfz93_3, hfz93_4⟩ := cells5 BK244.out))
                 go_roundg k4
                 case measure => have := HJ9.out; have := HK2.out; have := HK3.out; have := HK4.out; omega
                 case rel => exact ⟨(x16_4), (wrap64 (x18_3 + 1)), (x221000_4), (x221001_4), (x221002_4), (x221003_4), (x221004_4), zs, zs, H', ⟨by have := HJ9.out; have := HK2.out; have := HK3.out; have := HK4.out; omega⟩, ⟨by refine pq ?_; refine blk_far ?_ NB209_244.out _; refine pq ?_; refine blk_far ?_ NB209_244.out _; refine pq ?_; refine blk_far ?_ NB209_244.out _; refine pq ?_; refine blk_far ?_ NB209_244.out _; refine pq ?_; refine blk_far ?_ NB209_244.out _; refine pq ?_; exact BK209.out⟩, ⟨by refine pq ?_; refine blk_far ?_ NB220_244.out _; refine pq ?_; refine blk_far ?_ NB220_244.out _; refine pq ?_; refine blk_far ?_ NB220_244.out _; refine pq ?_; refine blk_far ?_ NB220_244.out _; refine pq ?_; refine blk_far ?_ NB220_244.out _; refine pq ?_; exact BK220.out⟩, ⟨zb⟩⟩
                ·rw [if_neg c86] at H
                 have c86b0 : (t243 == 1) = false := beq_eq_false_iff_ne.mpr c86
                 have c86b1 : (t243 != 1) = true := bne_iff_ne.mpr c86
                 have H' := aM H
                 clear H
                 have hnb94 := NB220_209.out
                 have hnc94 := NB209_220.out
                 obtain ⟨hcz95_0, hcz95_1, hcz95_2, hcz95_3, hcz95_4, hfz95_0, hfz95_1, hfz95_2, hfz95_3, hfz95_4⟩ := cells5 BK220.out
                 go_wp2_with (first | ((with_reducible refine gate_callee (f := 9) rfl ?_); refine goesL_ (some 111) rfl rfl Tryd.func9 (by kernel_rfl) rfl #[.agg #[.int .i64 x221000_4, .int .i64 x221001_4, .int .i64 x221002_4, .int .i64 x221003_4, .int .i64 x221004_4], .string (⟨#[119, 114, 111, 110, 103]⟩ : ByteArray), .int .i64 x18_3] rfl za ?_; (with_reducible refine (spec_Try.calls k4 x221000_4 x221001_4 x221002_4 x221003_4 x221004_4 (⟨#[119, 114, 111, 110, 103]⟩ : ByteArray) x18_3 t238 t239 t240 t241 t242 t243 _ A85.out).mono ?_); rintro e w96 ⟨rfl, hb⟩; refine ⟨_, rfl, ?_⟩; have n0_ := aM (bb BK209.out hb); have n1_ := aM (bb BK220.out hb); have n2_ := aM (below_step (zb) hb); clear BK209; clear BK220; clear HB; have BK209 := n0_; have BK220 := n1_; have HB := n2_; clear n0_ n1_ n2_; (try clear hb); (try clear hb2); (try clear hk); (try clear hi)) | ((with_reducible refine gate_dst (N := 19) rfl ?_); refine box_event ?hg (N := 19) ?hd (cs := #[.int .i64 0, .int .i64 0, .int .i64 0, .int .i64 0, .int .i64 0]) (t := 25) ?hr ?_; (case hd => rfl); (case hg => rfl); (case hr => exact zg); intro gb244 hg w97 hbox hb; have n0_ := aM (bb BK209.out hb); have n1_ := aM (bb BK220.out hb); have n2_ := aM (below_step (zb) hb); have n3_ := aM (hbox); have n4_ := aM ((by rw [hg]; exact (below_size (zb)) : w.heap.size ≤ gb244)); have n5_ := aM ((by rw [hg]; exact (below_size (zb)) : w.heap.size ≤ gb244)); have n6_ := aM ((by rw [hg]; exact Nat.ne_of_lt (nl BK209.out) : gb209 ≠ gb244)); have n7_ := aM ((by rw [hg]; exact Nat.ne_of_gt (nl BK209.out) : gb244 ≠ gb209)); have n8_ := aM ((by rw [hg]; exact Nat.ne_of_lt (nl BK220.out) : gb220 ≠ gb244)); have n9_ := aM ((by rw [hg]; exact Nat.ne_of_gt (nl BK220.out) : gb244 ≠ gb220)); clear BK209; clear BK220; clear HB; have BK209 := n0_; have BK220 := n1_; have HB := n2_; have BK244 := n3_; have GW244 := n4_; have GE244 := n5_; have NB209_244 := n6_; have NB244_209 := n7_; have NB220_244 := n8_; have NB244_220 := n9_; clear n0_ n1_ n2_ n3_ n4_ n5_ n6_ n7_ n8_ n9_; clear hb hbox hg; have hnb98 := NB244_209.out; have hnc98 := NB209_244.out; have hnb99 := NB244_220.out; have hnc99 := NB220_244.out; obtain ⟨hcz100_0, hcz100_1, hcz100_2, hcz100_3, hcz100_4, hfz100_0, hfz100_1, hfz100_2, hfz100_3, hfz100_4⟩ := cells5 BK244.out; obtain ⟨hcz101_0, hcz101_1, hcz101_2, hcz101_3, hcz101_4, hfz101_0, hfz101_1, hfz101_2, hfz101_3, hfz101_4⟩ := cells5 BK220.out))
                 go_roundg k4
                 case measure => have := HJ9.out; have := HK2.out; have := HK3.out; have := HK4.out; omega
                 case rel => exact ⟨(wrap64 (x16_4 + 1)), (t238), (t239), (t240), (t241), (t242), zs, H', ⟨by have := HJ9.out; have := HK2.out; have := HK3.out; have := HK4.out; omega⟩, ⟨by refine pq ?_; refine blk_far ?_ NB209_220.out _; refine pq ?_; refine blk_far ?_ NB209_220.out _; refine pq ?_; refine blk_far ?_ NB209_220.out _; refine pq ?_; refine blk_far ?_ NB209_220.out _; refine pq ?_; refine blk_far ?_ NB209_220.out _; refine pq ?_; refine blk_far ?_ NB209_244.out _; refine pq ?_; refine blk_far ?_ NB209_244.out _; refine pq ?_; refine blk_far ?_ NB209_244.out _; refine pq ?_; refine blk_far ?_ NB209_244.out _; refine pq ?_; refine blk_far ?_ NB209_244.out _; refine pq ?_; exact BK209.out⟩, ⟨by refine pq ?_; refine blk_put (cs := #[.int .i64 t238, .int .i64 t239, .int .i64 t240, .int .i64 t241, .int .i64 x221004_4]) ?_ 4 _ rfl; refine pq ?_; refine blk_put (cs := #[.int .i64 t238, .int .i64 t239, .int .i64 t240, .int .i64 x221003_4, .int .i64 x221004_4]) ?_ 3 _ rfl; refine pq ?_; refine blk_put (cs := #[.int .i64 t238, .int .i64 t239, .int .i64 x221002_4, .int .i64 x221003_4, .int .i64 x221004_4]) ?_ 2 _ rfl; refine pq ?_; refine blk_put (cs := #[.int .i64 t238, .int .i64 x221001_4, .int .i64 x221002_4, .int .i64 x221003_4, .int .i64 x221004_4]) ?_ 1 _ rfl; refine pq ?_; refine blk_put (cs := #[.int .i64 x221000_4, .int .i64 x221001_4, .int .i64 x221002_4, .int .i64 x221003_4, .int .i64 x221004_4]) ?_ 0 _ rfl; refine pq ?_; refine blk_far ?_ NB220_244.out _; refine pq ?_; refine blk_far ?_ NB220_244.out _; refine pq ?_; refine blk_far ?_ NB220_244.out _; refine pq ?_; refine blk_far ?_ NB220_244.out _; refine pq ?_; refine blk_far ?_ NB220_244.out _; refine pq ?_; exact BK220.out⟩, ⟨zb⟩⟩
             ·rw [if_neg c84] at H
              have c84b0 : decide (x18_3 ≤ (Int.tmod (rd t210 1) 120)) = false := decide_eq_false c84
              clear c84
              replace H := Option.bind_eq_some_iff.mp H
              obtain ⟨t245, A1020, H⟩ := H
              replace H : (if x9_2 ≤ t245 then ((impl_MostWrong.f k3 (Int.tmod (rd t210 1) 120)).bind fun t246 => (some (t246 == x16_3))) else (none)) = some r := H
              have A102 := aM A1020
              clear A1020
              by_cases c103 : x9_2 ≤ t245
              ·rw [if_pos c103] at H
               have c103b0 : decide (x9_2 ≤ t245) = true := decide_eq_true c103
               clear c103
               replace H := Option.bind_eq_some_iff.mp H
               obtain ⟨t246, A1040, H⟩ := H
               replace H : (some (t246 == x16_3)) = some r := H
               have A104 := aM A1040
               clear A1040
               obtain rfl := Option.some.inj H
               go_wp2_with (first | ((with_reducible refine gate_callee (f := 10) rfl ?_); refine goesL_ (some 121) rfl rfl Tryd.func10 (by kernel_rfl) rfl #[.int .i64 x8_2] rfl za ?_; (with_reducible refine (impl_MostWrong.calls k3 x8_2 t245 _ A102.out).mono ?_); rintro e w105 ⟨rfl, hb⟩; refine ⟨_, rfl, ?_⟩; have n0_ := aM (bb BK209.out hb); have n1_ := aM (bb BK220.out hb); have n2_ := aM (below_step (zb) hb); clear BK209; clear BK220; clear HB; have BK209 := n0_; have BK220 := n1_; have HB := n2_; clear n0_ n1_ n2_; (try clear hb); (try clear hb2); (try clear hk); (try clear hi)) | (go_at_call 10; (with_reducible refine (impl_MostWrong.calls k3 (Int.tmod (rd t210 1) 120) t246 _ A104.out).mono ?_); rintro e w106 ⟨rfl, hb⟩; have n0_ := aM (bb BK209.out hb); have n1_ := aM (bb BK220.out hb); have n2_ := aM (below_step (zb) hb); clear BK209; clear BK220; clear HB; have BK209 := n0_; have BK220 := n1_; have HB := n2_; clear n0_ n1_ n2_; (try clear hb); (try clear hb2); (try clear hk); (try clear hi)))
               go_ret
               exact ⟨zr, zb⟩
              ·rw [if_neg c103] at H
               exact absurd H (by simp)
          ·rw [if_neg c83] at H
           exact absurd H (by simp)
   ·rw [if_neg c8] at H
    exact absurd H (by simp)
  ·rw [if_neg c5] at H
   exact absurd H (by simp)

/-- THE ONE PURE STATEMENT of laws_FnGuesses: yours. -/
def laws_FnGuesses.Pure : Prop := ∀ (l0 : List Int), l0.length ≤ maxLen → l0.length * 1 ≤ 140737488351232 → (∀ x ∈ l0, (Lit.int .u8 x).wf = true) → ∃ k, laws_FnGuesses.f k l0 = some true
theorem laws_FnGuesses.walk (P : laws_FnGuesses.Pure) (a0 : Option Addr) (len0 cap0 : Nat) (z0 : List Int) (w : World) (w0 : (a0 = none ∧ len0 = 0 ∧ cap0 = 0 ∧ z0 = []) ∨ ∃ x, a0 = some x ∧ len0 ≤ cap0 ∧ cap0 ≤ maxLen ∧ z0.length = cap0 ∧ (∀ i, i < z0.length → w.cell? (x.add i) = some (.int .u8 (z0.getD i 0))) ∧ ∀ n ∈ z0, (Lit.int .u8 n).wf = true) (y0 : len0 * 1 ≤ 140737488351232) (HTAB : Sh.TabH w := by exact Sh.tabH HTAB (by repeat (first | (with_reducible first | exact HB.out | exact HBW.out | apply eA | apply eN | apply eD | refine eS ?_ (Aside0.out ‹_›)) | exact HB.out))) :
  Calls Tryd.prog 3 #[.slice a0 len0 cap0] w fun e w' => e = .returned (.bool true) ∧ Below w.heap.size w w' := by
 obtain ⟨l0, rfl, hr0, hm0, hw0, hc0⟩ := ReadsInt.ofRowC w0
 obtain ⟨k, h⟩ := P l0 hm0 y0 hw0
 have HB := aM (Below.refl w.heap.size w)
 refine (laws_FnGuesses.calls k _ _ l0 true w (Kd.C_of_reads (d := (0 : Int)) (h1 := fun _ => rfl) hr0) hc0 h).mono ?_
 rintro e w' ⟨rfl, hd⟩
 exact ⟨rfl, hd⟩

end Go.Proofs.YtdhinnolfpacgabDoor.QFnGuesses
