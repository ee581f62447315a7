-- Printed functions and their walks: by print.py, turned by wip/tools/myprint.py.
import Derived.Test.YtdhinnolfpacgaaDoorQFnCountsx0
import Derived.Test.YtdhinnolfpacgaaDoorQFnCountsx1
import Derived.Test.YtdhinnolfpacgaaDoorQFnCountsx2
import Derived.Test.YtdhinnolfpacgaaDoorQFnCountsx3
import Derived.Test.YtdhinnolfpacgaaDoorQFnCountsx4
import Derived.Test.YtdhinnolfpacgaaDoorQFnCountsx5
namespace Go.Proofs.YtdhinnolfpacgaaDoor.QFnCounts
open Go.RowKit Go.Proofs.YtdhinnolfpacgaaDoorW.PrintWords Go.Proofs.YtdhinnolfpacgaaDoorW.PrintLast Go.Proofs.YtdhinnolfpacgaaDoorW.PrintMore
attribute [local go_sem] max2_int min2_int max_two min_two max_three min_three max_four min_four   -- for this text's walks alone
set_option linter.unusedVariables false
set_option linter.unusedSimpArgs false

attribute [local go_sem high] eqA25
/-! ### laws_FnCounts: function 8 -/
mutual
def laws_FnCounts.l0 : Nat → List Int → Int → Int → Int → Int → Int → Int → Int → Int → Option (Bool)
 | 0, _, _, _, _, _, _, _, _, _ => none
 | k + 1, x4, x5, x6, x7, x254000, x254001, x254002, x254003, x254004 => if x7 < 10 then (if 0 ≤ x7 then (if x7 < (x4.length : Int) then ((spec_CodeOf.f k x254000 (wrap64 ((wrap64 (x254001 + (Int.tmod (rd x4 x7) 8))) - 2))).bind fun t259 => (if 0 ≤ (wrap64 (11 - x7)) then (if (wrap64 (11 - x7)) < (x4.length : Int) then ((impl_MatchOf.f k x254000 x254001 x254002 x254003 x254004 t259).bind fun t261 => ((impl_Try.f k x254000 x254001 x254002 x254003 x254004 t259 (wrap64 (x6 + (Int.tmod (rd x4 (wrap64 (11 - x7))) 4)))).bind fun bt262 => ((spec_Try.f k x254000 x254001 x254002 x254003 x254004 t259 (wrap64 (x6 + (Int.tmod (rd x4 (wrap64 (11 - x7))) 4)))).bind fun bt269 => (if (!(bt262.1 == bt269.1) || (!(bt262.2.1 == bt269.2.1) || (!(bt262.2.2.1 == bt269.2.2.1) || (!(bt262.2.2.2.1 == bt269.2.2.2.1) || (!(bt262.2.2.2.2.1 == bt269.2.2.2.2.1)))))) = true then (laws_FnCounts.j1 k x4 x5 (wrap64 (x6 + (Int.tmod (rd x4 (wrap64 (11 - x7))) 4))) x7 t259 t261 bt262.2.2.2.2.2 true x254000 x254001 x254002 x254003 x254004 bt269.1 bt269.2.1 bt269.2.2.1 bt269.2.2.2.1 bt269.2.2.2.2.1) else (if bt262.2.2.2.2.2 = bt269.2.2.2.2.2 then ((impl_TryName.f bt262.2.2.2.2.2).bind fun t276 => (if t276.toList = ([] : List UInt8) then (laws_FnCounts.j1 k x4 x5 (wrap64 (x6 + (Int.tmod (rd x4 (wrap64 (11 - x7))) 4))) x7 t259 t261 bt262.2.2.2.2.2 true x254000 x254001 x254002 x254003 x254004 bt269.1 bt269.2.1 bt269.2.2.1 bt269.2.2.2.1 bt269.2.2.2.2.1) else ((spec_MatchOf.f k x254000 x254001 x254002 x254003 x254004 t259).bind fun t277 => (laws_FnCounts.j1 k x4 x5 (wrap64 (x6 + (Int.tmod (rd x4 (wrap64 (11 - x7))) 4))) x7 t259 t261 bt262.2.2.2.2.2 (t261 != t277) x254000 x254001 x254002 x254003 x254004 bt269.1 bt269.2.1 bt269.2.2.1 bt269.2.2.2.1 bt269.2.2.2.2.1)))) else (laws_FnCounts.j1 k x4 x5 (wrap64 (x6 + (Int.tmod (rd x4 (wrap64 (11 - x7))) 4))) x7 t259 t261 bt262.2.2.2.2.2 true x254000 x254001 x254002 x254003 x254004 bt269.1 bt269.2.1 bt269.2.2.1 bt269.2.2.2.1 bt269.2.2.2.2.1)))))) else (none)) else (none))) else (none)) else (none)) else ((impl_LockOk.f x254000 x254001 x254002 x254003 x254004).bind fun t257 => (some t257))
def laws_FnCounts.j1 : Nat → List Int → Int → Int → Int → ByteArray → Int → Int → Bool → Int → Int → Int → Int → Int → Int → Int → Int → Int → Int → Option (Bool)
 | 0, _, _, _, _, _, _, _, _, _, _, _, _, _, _, _, _, _, _ => none
 | k + 1, x4, x5, x6, x7, x9, x10, x12, x84, x254000, x254001, x254002, x254003, x254004, x276000, x276001, x276002, x276003, x276004 => if x84 = true then (none) else (if x12 = 0 then (if x10 ≤ x5 then (laws_FnCounts.j2 k x4 x6 x7 x10 x12 true x254000 x254001 x254002 x254003 x254004 x276000 x276001 x276002 x276003 x276004) else (if x10 < x254001 then (laws_FnCounts.j2 k x4 x6 x7 x10 x12 true x254000 x254001 x254002 x254003 x254004 x276000 x276001 x276002 x276003 x276004) else (if x276001 = (wrap64 (x10 + 1)) then ((impl_CodeOf.f k x254000 x10).bind fun t278 => (laws_FnCounts.j2 k x4 x6 x7 x10 x12 (t278.toList != x9.toList) x254000 x254001 x254002 x254003 x254004 x276000 x276001 x276002 x276003 x276004)) else (laws_FnCounts.j2 k x4 x6 x7 x10 x12 true x254000 x254001 x254002 x254003 x254004 x276000 x276001 x276002 x276003 x276004)))) else (laws_FnCounts.j3 k x4 x5 x6 x7 x12 x254000 x254001 x254002 x254003 x254004 x276000 x276001 x276002 x276003 x276004))
def laws_FnCounts.j3 : Nat → List Int → Int → Int → Int → Int → Int → Int → Int → Int → Int → Int → Int → Int → Int → Int → Option (Bool)
 | 0, _, _, _, _, _, _, _, _, _, _, _, _, _, _, _ => none
 | k + 1, x4, x5, x6, x7, x12, x254000, x254001, x254002, x254003, x254004, x276000, x276001, x276002, x276003, x276004 => if x12 = 0 then (laws_FnCounts.l0 k x4 x5 x6 (wrap64 (x7 + 1)) x276000 x276001 x276002 x276003 x276004) else (if x276001 = x254001 then (laws_FnCounts.l0 k x4 x5 x6 (wrap64 (x7 + 1)) x276000 x276001 x276002 x276003 x276004) else (none))
def laws_FnCounts.j2 : Nat → List Int → Int → Int → Int → Int → Bool → Int → Int → Int → Int → Int → Int → Int → Int → Int → Int → Option (Bool)
 | 0, _, _, _, _, _, _, _, _, _, _, _, _, _, _, _, _ => none
 | k + 1, x4, x6, x7, x10, x12, x110, x254000, x254001, x254002, x254003, x254004, x276000, x276001, x276002, x276003, x276004 => if x110 = true then (none) else (laws_FnCounts.j3 k x4 x10 x6 x7 x12 x254000 x254001 x254002 x254003 x254004 x276000 x276001 x276002 x276003 x276004)
end
def laws_FnCounts.f (k : Nat) (l0 : List Int) : Option (Bool) := (laws_big.f l0).bind fun t247 => (if t247 = true then (some true) else ((spec_DrawLock.f k l0).bind fun bt248 => ((spec_DrawPlaces.f k l0).bind fun t254 => (laws_FnCounts.l0 k t254 (-1) bt248.2.2.2.2 0 bt248.1 bt248.2.1 bt248.2.2.1 bt248.2.2.2.1 bt248.2.2.2.2))))
theorem laws_FnCounts.mono_l : ∀ k, (∀ y0 y1 y2 y3 y4 y5 y6 y7 y8, LeO (laws_FnCounts.l0 k y0 y1 y2 y3 y4 y5 y6 y7 y8) (laws_FnCounts.l0 (k + 1) y0 y1 y2 y3 y4 y5 y6 y7 y8)) ∧ (∀ y0 y1 y2 y3 y4 y5 y6 y7 y8 y9 y10 y11 y12 y13 y14 y15 y16 y17, LeO (laws_FnCounts.j1 k y0 y1 y2 y3 y4 y5 y6 y7 y8 y9 y10 y11 y12 y13 y14 y15 y16 y17) (laws_FnCounts.j1 (k + 1) y0 y1 y2 y3 y4 y5 y6 y7 y8 y9 y10 y11 y12 y13 y14 y15 y16 y17)) ∧ (∀ y0 y1 y2 y3 y4 y5 y6 y7 y8 y9 y10 y11 y12 y13 y14, LeO (laws_FnCounts.j3 k y0 y1 y2 y3 y4 y5 y6 y7 y8 y9 y10 y11 y12 y13 y14) (laws_FnCounts.j3 (k + 1) y0 y1 y2 y3 y4 y5 y6 y7 y8 y9 y10 y11 y12 y13 y14)) ∧ (∀ y0 y1 y2 y3 y4 y5 y6 y7 y8 y9 y10 y11 y12 y13 y14 y15, LeO (laws_FnCounts.j2 k y0 y1 y2 y3 y4 y5 y6 y7 y8 y9 y10 y11 y12 y13 y14 y15) (laws_FnCounts.j2 (k + 1) y0 y1 y2 y3 y4 y5 y6 y7 y8 y9 y10 y11 y12 y13 y14 y15))
 | 0 => ⟨fun _ _ _ _ _ _ _ _ _ r h => by simp [laws_FnCounts.l0] at h, fun _ _ _ _ _ _ _ _ _ _ _ _ _ _ _ _ _ _ r h => by simp [laws_FnCounts.j1] at h, fun _ _ _ _ _ _ _ _ _ _ _ _ _ _ _ r h => by simp [laws_FnCounts.j3] at h, fun _ _ _ _ _ _ _ _ _ _ _ _ _ _ _ _ r h => by simp [laws_FnCounts.j2] at h⟩
 | k + 1 => by
  obtain ⟨ih0, ih1, ih2, ih3⟩ := laws_FnCounts.mono_l k
  refine ⟨?_, ?_, ?_, ?_⟩
  ·intro y0 y1 y2 y3 y4 y5 y6 y7 y8
   unfold laws_FnCounts.l0
   repeat' first
   | (with_reducible exact ih0 _ _ _ _ _ _ _ _ _)
   | (with_reducible exact ih1 _ _ _ _ _ _ _ _ _ _ _ _ _ _ _ _ _ _)
   | (with_reducible exact ih2 _ _ _ _ _ _ _ _ _ _ _ _ _ _ _)
   | (with_reducible exact ih3 _ _ _ _ _ _ _ _ _ _ _ _ _ _ _ _)
   | (with_reducible exact impl_CodeOf.mono _ _ _)
   | (with_reducible exact impl_MatchOf.mono _ _ _ _ _ _ _)
   | (with_reducible exact impl_Try.mono _ _ _ _ _ _ _ _)
   | (with_reducible exact spec_CodeOf.mono _ _ _)
   | (with_reducible exact spec_DrawLock.mono _ _)
   | (with_reducible exact spec_DrawPlaces.mono _ _)
   | (with_reducible exact spec_MatchOf.mono _ _ _ _ _ _ _)
   | (with_reducible exact spec_Try.mono _ _ _ _ _ _ _ _)
   | (with_reducible exact LeO.refl _)
   | (with_reducible exact LeO.none _)
   | (with_reducible refine LeO.ite ?_ ?_)
   | (with_reducible refine LeO.bind ?_ (fun _ => ?_))
   | exact ih0 _ _ _ _ _ _ _ _ _
   | exact ih1 _ _ _ _ _ _ _ _ _ _ _ _ _ _ _ _ _ _
   | exact ih2 _ _ _ _ _ _ _ _ _ _ _ _ _ _ _
   | exact ih3 _ _ _ _ _ _ _ _ _ _ _ _ _ _ _ _
   | exact impl_CodeOf.mono _ _ _
   | exact impl_MatchOf.mono _ _ _ _ _ _ _
   | exact impl_Try.mono _ _ _ _ _ _ _ _
   | exact spec_CodeOf.mono _ _ _
   | exact spec_DrawLock.mono _ _
   | exact spec_DrawPlaces.mono _ _
   | exact spec_MatchOf.mono _ _ _ _ _ _ _
   | exact spec_Try.mono _ _ _ _ _ _ _ _
   | exact LeO.none _
   | refine LeO.ite ?_ ?_
   | refine LeO.bind ?_ (fun _ => ?_)
  ·intro y0 y1 y2 y3 y4 y5 y6 y7 y8 y9 y10 y11 y12 y13 y14 y15 y16 y17
   unfold laws_FnCounts.j1
   repeat' first
   | (with_reducible exact ih0 _ _ _ _ _ _ _ _ _)
   | (with_reducible exact ih1 _ _ _ _ _ _ _ _ _ _ _ _ _ _ _ _ _ _)
   | (with_reducible exact ih2 _ _ _ _ _ _ _ _ _ _ _ _ _ _ _)
   | (with_reducible exact ih3 _ _ _ _ _ _ _ _ _ _ _ _ _ _ _ _)
   | (with_reducible exact impl_CodeOf.mono _ _ _)
   | (with_reducible exact impl_MatchOf.mono _ _ _ _ _ _ _)
   | (with_reducible exact impl_Try.mono _ _ _ _ _ _ _ _)
   | (with_reducible exact spec_CodeOf.mono _ _ _)
   | (with_reducible exact spec_DrawLock.mono _ _)
   | (with_reducible exact spec_DrawPlaces.mono _ _)
   | (with_reducible exact spec_MatchOf.mono _ _ _ _ _ _ _)
   | (with_reducible exact spec_Try.mono _ _ _ _ _ _ _ _)
   | (with_reducible exact LeO.refl _)
   | (with_reducible exact LeO.none _)
   | (with_reducible refine LeO.ite ?_ ?_)
   | (with_reducible refine LeO.bind ?_ (fun _ => ?_))
   | exact ih0 _ _ _ _ _ _ _ _ _
   | exact ih1 _ _ _ _ _ _ _ _ _ _ _ _ _ _ _ _ _ _
   | exact ih2 _ _ _ _ _ _ _ _ _ _ _ _ _ _ _
   | exact ih3 _ _ _ _ _ _ _ _ _ _ _ _ _ _ _ _
   | exact impl_CodeOf.mono _ _ _
   | exact impl_MatchOf.mono _ _ _ _ _ _ _
   | exact impl_Try.mono _ _ _ _ _ _ _ _
   | exact spec_CodeOf.mono _ _ _
   | exact spec_DrawLock.mono _ _
   | exact spec_DrawPlaces.mono _ _
   | exact spec_MatchOf.mono _ _ _ _ _ _ _
   | exact spec_Try.mono _ _ _ _ _ _ _ _
   | exact LeO.none _
   | refine LeO.ite ?_ ?_
   | refine LeO.bind ?_ (fun _ => ?_)
  ·intro y0 y1 y2 y3 y4 y5 y6 y7 y8 y9 y10 y11 y12 y13 y14
   unfold laws_FnCounts.j3
   repeat' first
   | (with_reducible exact ih0 _ _ _ _ _ _ _ _ _)
   | (with_reducible exact ih1 _ _ _ _ _ _ _ _ _ _ _ _ _ _ _ _ _ _)
   | (with_reducible exact ih2 _ _ _ _ _ _ _ _ _ _ _ _ _ _ _)
   | (with_reducible exact ih3 _ _ _ _ _ _ _ _ _ _ _ _ _ _ _ _)
   | (with_reducible exact impl_CodeOf.mono _ _ _)
   | (with_reducible exact impl_MatchOf.mono _ _ _ _ _ _ _)
   | (with_reducible exact impl_Try.mono _ _ _ _ _ _ _ _)
   | (with_reducible exact spec_CodeOf.mono _ _ _)
   | (with_reducible exact spec_DrawLock.mono _ _)
   | (with_reducible exact spec_DrawPlaces.mono _ _)
   | (with_reducible exact spec_MatchOf.mono _ _ _ _ _ _ _)
   | (with_reducible exact spec_Try.mono _ _ _ _ _ _ _ _)
   | (with_reducible exact LeO.refl _)
   | (with_reducible exact LeO.none _)
   | (with_reducible refine LeO.ite ?_ ?_)
   | (with_reducible refine LeO.bind ?_ (fun _ => ?_))
   | exact ih0 _ _ _ _ _ _ _ _ _
   | exact ih1 _ _ _ _ _ _ _ _ _ _ _ _ _ _ _ _ _ _
   | exact ih2 _ _ _ _ _ _ _ _ _ _ _ _ _ _ _
   | exact ih3 _ _ _ _ _ _ _ _ _ _ _ _ _ _ _ _
   | exact impl_CodeOf.mono _ _ _
   | exact impl_MatchOf.mono _ _ _ _ _ _ _
   | exact impl_Try.mono _ _ _ _ _ _ _ _
   | exact spec_CodeOf.mono _ _ _
   | exact spec_DrawLock.mono _ _
   | exact spec_DrawPlaces.mono _ _
   | exact spec_MatchOf.mono _ _ _ _ _ _ _
   | exact spec_Try.mono _ _ _ _ _ _ _ _
   | exact LeO.none _
   | refine LeO.ite ?_ ?_
   | refine LeO.bind ?_ (fun _ => ?_)
  ·intro y0 y1 y2 y3 y4 y5 y6 y7 y8 y9 y10 y11 y12 y13 y14 y15
   unfold laws_FnCounts.j2
   repeat' first
   | (with_reducible exact ih0 _ _ _ _ _ _ _ _ _)
   | (with_reducible exact ih1 _ _ _ _ _ _ _ _ _ _ _ _ _ _ _ _ _ _)
   | (with_reducible exact ih2 _ _ _ _ _ _ _ _ _ _ _ _ _ _ _)
   | (with_reducible exact ih3 _ _ _ _ _ _ _ _ _ _ _ _ _ _ _ _)
   | (with_reducible exact impl_CodeOf.mono _ _ _)
   | (with_reducible exact impl_MatchOf.mono _ _ _ _ _ _ _)
   | (with_reducible exact impl_Try.mono _ _ _ _ _ _ _ _)
   | (with_reducible exact spec_CodeOf.mono _ _ _)
   | (with_reducible exact spec_DrawLock.mono _ _)
   | (with_reducible exact spec_DrawPlaces.mono _ _)
   | (with_reducible exact spec_MatchOf.mono _ _ _ _ _ _ _)
   | (with_reducible exact spec_Try.mono _ _ _ _ _ _ _ _)
   | (with_reducible exact LeO.refl _)
   | (with_reducible exact LeO.none _)
   | (with_reducible refine LeO.ite ?_ ?_)
   | (with_reducible refine LeO.bind ?_ (fun _ => ?_))
   | exact ih0 _ _ _ _ _ _ _ _ _
   | exact ih1 _ _ _ _ _ _ _ _ _ _ _ _ _ _ _ _ _ _
   | exact ih2 _ _ _ _ _ _ _ _ _ _ _ _ _ _ _
   | exact ih3 _ _ _ _ _ _ _ _ _ _ _ _ _ _ _ _
   | exact impl_CodeOf.mono _ _ _
   | exact impl_MatchOf.mono _ _ _ _ _ _ _
   | exact impl_Try.mono _ _ _ _ _ _ _ _
   | exact spec_CodeOf.mono _ _ _
   | exact spec_DrawLock.mono _ _
   | exact spec_DrawPlaces.mono _ _
   | exact spec_MatchOf.mono _ _ _ _ _ _ _
   | exact spec_Try.mono _ _ _ _ _ _ _ _
   | exact LeO.none _
   | refine LeO.ite ?_ ?_
   | refine LeO.bind ?_ (fun _ => ?_)
theorem laws_FnCounts.mono : ∀ a0 k, LeO (laws_FnCounts.f k a0) (laws_FnCounts.f (k + 1) a0) := by
 intro a0 k
 obtain ⟨ih0, ih1, ih2, ih3⟩ := laws_FnCounts.mono_l k
 unfold laws_FnCounts.f
 repeat' first
   | (with_reducible exact ih0 _ _ _ _ _ _ _ _ _)
   | (with_reducible exact ih1 _ _ _ _ _ _ _ _ _ _ _ _ _ _ _ _ _ _)
   | (with_reducible exact ih2 _ _ _ _ _ _ _ _ _ _ _ _ _ _ _)
   | (with_reducible exact ih3 _ _ _ _ _ _ _ _ _ _ _ _ _ _ _ _)
   | (with_reducible exact impl_CodeOf.mono _ _ _)
   | (with_reducible exact impl_MatchOf.mono _ _ _ _ _ _ _)
   | (with_reducible exact impl_Try.mono _ _ _ _ _ _ _ _)
   | (with_reducible exact spec_CodeOf.mono _ _ _)
   | (with_reducible exact spec_DrawLock.mono _ _)
   | (with_reducible exact spec_DrawPlaces.mono _ _)
   | (with_reducible exact spec_MatchOf.mono _ _ _ _ _ _ _)
   | (with_reducible exact spec_Try.mono _ _ _ _ _ _ _ _)
   | (with_reducible exact LeO.refl _)
   | (with_reducible exact LeO.none _)
   | (with_reducible refine LeO.ite ?_ ?_)
   | (with_reducible refine LeO.bind ?_ (fun _ => ?_))
   | exact ih0 _ _ _ _ _ _ _ _ _
   | exact ih1 _ _ _ _ _ _ _ _ _ _ _ _ _ _ _ _ _ _
   | exact ih2 _ _ _ _ _ _ _ _ _ _ _ _ _ _ _
   | exact ih3 _ _ _ _ _ _ _ _ _ _ _ _ _ _ _ _
   | exact impl_CodeOf.mono _ _ _
   | exact impl_MatchOf.mono _ _ _ _ _ _ _
   | exact impl_Try.mono _ _ _ _ _ _ _ _
   | exact spec_CodeOf.mono _ _ _
   | exact spec_DrawLock.mono _ _
   | exact spec_DrawPlaces.mono _ _
   | exact spec_MatchOf.mono _ _ _ _ _ _ _
   | exact spec_Try.mono _ _ _ _ _ _ _ _
   | exact LeO.none _
   | refine LeO.ite ?_ ?_
   | refine LeO.bind ?_ (fun _ => ?_)
set_option maxHeartbeats 8000000 in
set_option maxRecDepth 100000 in
theorem laws_FnCounts.calls (k : Nat) (A0 : Option Addr) (c0 : Nat) (l0 : List Int) (r : Bool) (w : World) (hr0 : Kd.C (Kd.int .u8) w A0 l0.length l0) (hc0 : l0.length ≤ c0) (h : laws_FnCounts.f k l0 = some r) (HTAB : Sh.TabH w := by exact Sh.tabH HTAB (by repeat (first | (with_reducible first | exact HB.out | exact HBW.out | apply eA | apply eN | apply eD | refine eS ?_ (Aside0.out ‹_›)) | exact HB.out))) :
  Calls Tryd.prog 8 #[.slice A0 l0.length c0] w fun e w' => e = .returned (.bool r) ∧ Below w.heap.size w w' := by
 have hu25 := Tryd.underlying25
 have HR0 := aM hr0
 have HC0 := aM hc0
 clear hr0 hc0
 have HB := aM (Below.refl w.heap.size w)
 have H : ((laws_big.f l0).bind fun t247 => (if t247 = true then (some true) else ((spec_DrawLock.f k l0).bind fun bt248 => ((spec_DrawPlaces.f k l0).bind fun t254 => (laws_FnCounts.l0 k t254 (-1) bt248.2.2.2.2 0 bt248.1 bt248.2.1 bt248.2.2.1 bt248.2.2.2.1 bt248.2.2.2.2))))) = some r := h
 clear h
 replace H := Option.bind_eq_some_iff.mp H
 obtain ⟨t247, A20, H⟩ := H
 replace H : (if t247 = true then (some true) else ((spec_DrawLock.f k l0).bind fun bt248 => ((spec_DrawPlaces.f k l0).bind fun t254 => (laws_FnCounts.l0 k t254 (-1) bt248.2.2.2.2 0 bt248.1 bt248.2.1 bt248.2.2.1 bt248.2.2.2.1 bt248.2.2.2.2)))) = some r := H
 have A2 := aM A20
 clear A20
 by_cases c3 : t247 = true
 ·subst c3
  have H1 : (some true) = some r := by rw [if_pos rfl] at H; exact H
  clear H
  have H := H1
  clear H1
  obtain rfl := Option.some.inj H
  go_enter Tryd.func8, Tryd.ntmps8
  go_wp2_with (first | (go_at_call 17; (with_reducible refine (laws_big.calls _ _ l0 true _ ?side1 ?side2 A2.out).mono ?_); (case side1 => repeat (first | exact HR0.out | (with_reducible refine Kd.C_alloc ?_ _) | (with_reducible refine Kd.C_drewN ?_ _) | (with_reducible refine Kd.C_drew ?_))); (case side2 => exact HC0.out); rintro e w' ⟨rfl, ⟨nd, rfl⟩⟩; (try first | exact ⟨rfl, _, World.drewN_drewN _ _ _⟩ | exact ⟨rfl, _, Eq.trans (World.drewN_drewN _ _ _) (congrArg (World.drewN _) (Nat.add_assoc _ _ _))⟩)))
  repeat (go_quiet (first | (go_at_call 17; (with_reducible refine (laws_big.calls _ _ l0 true _ ?side1 ?side2 A2.out).mono ?_); (case side1 => repeat (first | exact HR0.out | (with_reducible refine Kd.C_alloc ?_ _) | (with_reducible refine Kd.C_drewN ?_ _) | (with_reducible refine Kd.C_drew ?_))); (case side2 => exact HC0.out); rintro e w' ⟨rfl, ⟨nd, rfl⟩⟩; (try first | exact ⟨rfl, _, World.drewN_drewN _ _ _⟩ | exact ⟨rfl, _, Eq.trans (World.drewN_drewN _ _ _) (congrArg (World.drewN _) (Nat.add_assoc _ _ _))⟩))); try go_wp2_with (first | (go_at_call 17; (with_reducible refine (laws_big.calls _ _ l0 true _ ?side1 ?side2 A2.out).mono ?_); (case side1 => repeat (first | exact HR0.out | (with_reducible refine Kd.C_alloc ?_ _) | (with_reducible refine Kd.C_drewN ?_ _) | (with_reducible refine Kd.C_drew ?_))); (case side2 => exact HC0.out); rintro e w' ⟨rfl, ⟨nd, rfl⟩⟩; (try first | exact ⟨rfl, _, World.drewN_drewN _ _ _⟩ | exact ⟨rfl, _, Eq.trans (World.drewN_drewN _ _ _) (congrArg (World.drewN _) (Nat.add_assoc _ _ _))⟩))))
  go_ret
  exact ⟨zr, zb⟩
 ·replace c3 := Bool.eq_false_iff.mpr c3
  subst c3
  have H1 : ((spec_DrawLock.f k l0).bind fun bt248 => ((spec_DrawPlaces.f k l0).bind fun t254 => (laws_FnCounts.l0 k t254 (-1) bt248.2.2.2.2 0 bt248.1 bt248.2.1 bt248.2.2.1 bt248.2.2.2.1 bt248.2.2.2.2))) = some r := by rw [if_neg (show ¬ (false = true) by decide)] at H; exact H
  clear H
  have H := H1
  clear H1
  replace H := Option.bind_eq_some_iff.mp H
  obtain ⟨⟨t248, t249, t250, t251, t252⟩, A40, H⟩ := H
  replace H : ((spec_DrawPlaces.f k l0).bind fun t254 => (laws_FnCounts.l0 k t254 (-1) t252 0 t248 t249 t250 t251 t252)) = some r := H
  have A4 := aM A40
  clear A40
  replace H := Option.bind_eq_some_iff.mp H
  obtain ⟨t254, A50, H⟩ := H
  replace H : (laws_FnCounts.l0 k t254 (-1) t252 0 t248 t249 t250 t251 t252) = some r := H
  have A5 := aM A50
  clear A50
  have H' := aM H
  clear H
  go_enter Tryd.func8, Tryd.ntmps8
  go_wp2_with (first | (go_at_call 17; (with_reducible refine (laws_big.calls _ _ l0 false _ ?side1 ?side2 A2.out).mono ?_); (case side1 => repeat (first | exact HR0.out | (with_reducible refine Kd.C_alloc ?_ _) | (with_reducible refine Kd.C_drewN ?_ _) | (with_reducible refine Kd.C_drew ?_))); (case side2 => exact HC0.out); rintro e w' ⟨rfl, ⟨nd, rfl⟩⟩; (try first | exact ⟨rfl, _, World.drewN_drewN _ _ _⟩ | exact ⟨rfl, _, Eq.trans (World.drewN_drewN _ _ _) (congrArg (World.drewN _) (Nat.add_assoc _ _ _))⟩)) | (go_at_call 18; (with_reducible refine (spec_DrawLock.calls k _ _ l0 t248 t249 t250 t251 t252 _ ?side1 ?side2 A4.out).mono ?_); (case side1 => repeat (first | exact HR0.out | (with_reducible refine Kd.C_alloc ?_ _) | (with_reducible refine Kd.C_drewN ?_ _) | (with_reducible refine Kd.C_drew ?_))); (case side2 => exact HC0.out); rintro e w6 ⟨rfl, hb⟩; have n0_ := aM (below_step (zb) hb); clear HB; have HB := n0_; clear n0_; (try clear hb); (try clear hb2); (try clear hk); (try clear hi)) | ((with_reducible refine gate_dst (N := 3) rfl ?_); refine box_event ?hg (N := 3) ?hd (cs := #[.int .i64 0, .int .i64 0, .int .i64 0, .int .i64 0, .int .i64 0]) (t := 25) ?hr ?_; (case hd => rfl); (case hg => rfl); (case hr => exact zg); intro gb253 hg w7 hbox hb; have n0_ := aM (below_step (zb) hb); have n1_ := aM (hbox); have n2_ := aM ((by rw [hg]; exact (below_size (zb)) : w.heap.size ≤ gb253)); have n3_ := aM ((by rw [hg]; exact (below_size (zb)) : w.heap.size ≤ gb253)); clear HB; have HB := n0_; have BK253 := n1_; have GW253 := n2_; have GE253 := n3_; clear n0_ n1_ n2_ n3_; clear hb hbox hg; obtain ⟨hcz8_0, hcz8_1, hcz8_2, hcz8_3, hcz8_4, hfz8_0, hfz8_1, hfz8_2, hfz8_3, hfz8_4⟩ := cells5 BK253.out) | (go_at_call 19; (with_reducible refine (spec_DrawPlaces.calls k _ _ l0 t254 _ ?side1 ?side2 A5.out).mono ?_); (case side1 => exact Kd.C_below HR0.out (zb)); (case side2 => exact HC0.out); rintro e w9 ⟨v255, rfl, ho0, hb⟩; have n0_ := aM (Kd.R_lower ho0 (below_size (zb))); have n1_ := aM (blk_below (g := gb253) (o := .cells #[.int .i64 t248, .int .i64 t249, .int .i64 t250, .int .i64 t251, .int .i64 t252] 25 (0, 0)) (by refine pq ?_; refine blk_put (cs := #[.int .i64 t248, .int .i64 t249, .int .i64 t250, .int .i64 t251, .int .i64 0]) ?_ 4 _ rfl; refine pq ?_; refine blk_put (cs := #[.int .i64 t248, .int .i64 t249, .int .i64 t250, .int .i64 0, .int .i64 0]) ?_ 3 _ rfl; refine pq ?_; refine blk_put (cs := #[.int .i64 t248, .int .i64 t249, .int .i64 0, .int .i64 0, .int .i64 0]) ?_ 2 _ rfl; refine pq ?_; refine blk_put (cs := #[.int .i64 t248, .int .i64 0, .int .i64 0, .int .i64 0, .int .i64 0]) ?_ 1 _ rfl; refine pq ?_; refine blk_put (cs := #[.int .i64 0, .int .i64 0, .int .i64 0, .int .i64 0, .int .i64 0]) ?_ 0 _ rfl; refine pq ?_; exact BK253.out) hb); have n2_ := aM (below_step (zb) hb); clear BK253; clear HB; have HO256 := n0_; have BK253 := n1_; have HB := n2_; clear n0_ n1_ n2_; (try clear hb); (try clear hb2); (try clear hk); (try clear hi); (try clear ho0); obtain ⟨hcz10_0, hcz10_1, hcz10_2, hcz10_3, hcz10_4, hfz10_0, hfz10_1, hfz10_2, hfz10_3, hfz10_4⟩ := cells5 BK253.out))
  repeat (go_quiet (first | (go_at_call 17; (with_reducible refine (laws_big.calls _ _ l0 false _ ?side1 ?side2 A2.out).mono ?_); (case side1 => repeat (first | exact HR0.out | (with_reducible refine Kd.C_alloc ?_ _) | (with_reducible refine Kd.C_drewN ?_ _) | (with_reducible refine Kd.C_drew ?_))); (case side2 => exact HC0.out); rintro e w' ⟨rfl, ⟨nd, rfl⟩⟩; (try first | exact ⟨rfl, _, World.drewN_drewN _ _ _⟩ | exact ⟨rfl, _, Eq.trans (World.drewN_drewN _ _ _) (congrArg (World.drewN _) (Nat.add_assoc _ _ _))⟩)) | (go_at_call 18; (with_reducible refine (spec_DrawLock.calls k _ _ l0 t248 t249 t250 t251 t252 _ ?side1 ?side2 A4.out).mono ?_); (case side1 => repeat (first | exact HR0.out | (with_reducible refine Kd.C_alloc ?_ _) | (with_reducible refine Kd.C_drewN ?_ _) | (with_reducible refine Kd.C_drew ?_))); (case side2 => exact HC0.out); rintro e w6 ⟨rfl, hb⟩; have n0_ := aM (below_step (zb) hb); clear HB; have HB := n0_; clear n0_; (try clear hb); (try clear hb2); (try clear hk); (try clear hi)) | ((with_reducible refine gate_dst (N := 3) rfl ?_); refine box_event ?hg (N := 3) ?hd (cs := #[.int .i64 0, .int .i64 0, .int .i64 0, .int .i64 0, .int .i64 0]) (t := 25) ?hr ?_; (case hd => rfl); (case hg => rfl); (case hr => exact zg); intro gb253 hg w7 hbox hb; have n0_ := aM (below_step (zb) hb); have n1_ := aM (hbox); have n2_ := aM ((by rw [hg]; exact (below_size (zb)) : w.heap.size ≤ gb253)); have n3_ := aM ((by rw [hg]; exact (below_size (zb)) : w.heap.size ≤ gb253)); clear HB; have HB := n0_; have BK253 := n1_; have GW253 := n2_; have GE253 := n3_; clear n0_ n1_ n2_ n3_; clear hb hbox hg; obtain ⟨hcz8_0, hcz8_1, hcz8_2, hcz8_3, hcz8_4, hfz8_0, hfz8_1, hfz8_2, hfz8_3, hfz8_4⟩ := cells5 BK253.out) | (go_at_call 19; (with_reducible refine (spec_DrawPlaces.calls k _ _ l0 t254 _ ?side1 ?side2 A5.out).mono ?_); (case side1 => exact Kd.C_below HR0.out (zb)); (case side2 => exact HC0.out); rintro e w9 ⟨v255, rfl, ho0, hb⟩; have n0_ := aM (Kd.R_lower ho0 (below_size (zb))); have n1_ := aM (blk_below (g := gb253) (o := .cells #[.int .i64 t248, .int .i64 t249, .int .i64 t250, .int .i64 t251, .int .i64 t252] 25 (0, 0)) (by refine pq ?_; refine blk_put (cs := #[.int .i64 t248, .int .i64 t249, .int .i64 t250, .int .i64 t251, .int .i64 0]) ?_ 4 _ rfl; refine pq ?_; refine blk_put (cs := #[.int .i64 t248, .int .i64 t249, .int .i64 t250, .int .i64 0, .int .i64 0]) ?_ 3 _ rfl; refine pq ?_; refine blk_put (cs := #[.int .i64 t248, .int .i64 t249, .int .i64 0, .int .i64 0, .int .i64 0]) ?_ 2 _ rfl; refine pq ?_; refine blk_put (cs := #[.int .i64 t248, .int .i64 0, .int .i64 0, .int .i64 0, .int .i64 0]) ?_ 1 _ rfl; refine pq ?_; refine blk_put (cs := #[.int .i64 0, .int .i64 0, .int .i64 0, .int .i64 0, .int .i64 0]) ?_ 0 _ rfl; refine pq ?_; exact BK253.out) hb); have n2_ := aM (below_step (zb) hb); clear BK253; clear HB; have HO256 := n0_; have BK253 := n1_; have HB := n2_; clear n0_ n1_ n2_; (try clear hb); (try clear hb2); (try clear hk); (try clear hi); (try clear ho0); obtain ⟨hcz10_0, hcz10_1, hcz10_2, hcz10_3, hcz10_4, hfz10_0, hfz10_1, hfz10_2, hfz10_3, hfz10_4⟩ := cells5 BK253.out)); try go_wp2_with (first | (go_at_call 17; (with_reducible refine (laws_big.calls _ _ l0 false _ ?side1 ?side2 A2.out).mono ?_); (case side1 => repeat (first | exact HR0.out | (with_reducible refine Kd.C_alloc ?_ _) | (with_reducible refine Kd.C_drewN ?_ _) | (with_reducible refine Kd.C_drew ?_))); (case side2 => exact HC0.out); rintro e w' ⟨rfl, ⟨nd, rfl⟩⟩; (try first | exact ⟨rfl, _, World.drewN_drewN _ _ _⟩ | exact ⟨rfl, _, Eq.trans (World.drewN_drewN _ _ _) (congrArg (World.drewN _) (Nat.add_assoc _ _ _))⟩)) | (go_at_call 18; (with_reducible refine (spec_DrawLock.calls k _ _ l0 t248 t249 t250 t251 t252 _ ?side1 ?side2 A4.out).mono ?_); (case side1 => repeat (first | exact HR0.out | (with_reducible refine Kd.C_alloc ?_ _) | (with_reducible refine Kd.C_drewN ?_ _) | (with_reducible refine Kd.C_drew ?_))); (case side2 => exact HC0.out); rintro e w6 ⟨rfl, hb⟩; have n0_ := aM (below_step (zb) hb); clear HB; have HB := n0_; clear n0_; (try clear hb); (try clear hb2); (try clear hk); (try clear hi)) | ((with_reducible refine gate_dst (N := 3) rfl ?_); refine box_event ?hg (N := 3) ?hd (cs := #[.int .i64 0, .int .i64 0, .int .i64 0, .int .i64 0, .int .i64 0]) (t := 25) ?hr ?_; (case hd => rfl); (case hg => rfl); (case hr => exact zg); intro gb253 hg w7 hbox hb; have n0_ := aM (below_step (zb) hb); have n1_ := aM (hbox); have n2_ := aM ((by rw [hg]; exact (below_size (zb)) : w.heap.size ≤ gb253)); have n3_ := aM ((by rw [hg]; exact (below_size (zb)) : w.heap.size ≤ gb253)); clear HB; have HB := n0_; have BK253 := n1_; have GW253 := n2_; have GE253 := n3_; clear n0_ n1_ n2_ n3_; clear hb hbox hg; obtain ⟨hcz8_0, hcz8_1, hcz8_2, hcz8_3, hcz8_4, hfz8_0, hfz8_1, hfz8_2, hfz8_3, hfz8_4⟩ := cells5 BK253.out) | (go_at_call 19; (with_reducible refine (spec_DrawPlaces.calls k _ _ l0 t254 _ ?side1 ?side2 A5.out).mono ?_); (case side1 => exact Kd.C_below HR0.out (zb)); (case side2 => exact HC0.out); rintro e w9 ⟨v255, rfl, ho0, hb⟩; have n0_ := aM (Kd.R_lower ho0 (below_size (zb))); have n1_ := aM (blk_below (g := gb253) (o := .cells #[.int .i64 t248, .int .i64 t249, .int .i64 t250, .int .i64 t251, .int .i64 t252] 25 (0, 0)) (by refine pq ?_; refine blk_put (cs := #[.int .i64 t248, .int .i64 t249, .int .i64 t250, .int .i64 t251, .int .i64 0]) ?_ 4 _ rfl; refine pq ?_; refine blk_put (cs := #[.int .i64 t248, .int .i64 t249, .int .i64 t250, .int .i64 0, .int .i64 0]) ?_ 3 _ rfl; refine pq ?_; refine blk_put (cs := #[.int .i64 t248, .int .i64 t249, .int .i64 0, .int .i64 0, .int .i64 0]) ?_ 2 _ rfl; refine pq ?_; refine blk_put (cs := #[.int .i64 t248, .int .i64 0, .int .i64 0, .int .i64 0, .int .i64 0]) ?_ 1 _ rfl; refine pq ?_; refine blk_put (cs := #[.int .i64 0, .int .i64 0, .int .i64 0, .int .i64 0, .int .i64 0]) ?_ 0 _ rfl; refine pq ?_; exact BK253.out) hb); have n2_ := aM (below_step (zb) hb); clear BK253; clear HB; have HO256 := n0_; have BK253 := n1_; have HB := n2_; clear n0_ n1_ n2_; (try clear hb); (try clear hb2); (try clear hk); (try clear hi); (try clear ho0); obtain ⟨hcz10_0, hcz10_1, hcz10_2, hcz10_3, hcz10_4, hfz10_0, hfz10_1, hfz10_2, hfz10_3, hfz10_4⟩ := cells5 BK253.out)))
  go_loopg [5, 6, 7] k (fun kq v5 v6 v7 w' => ∃ (x5_1 : Int) (x6_1 : Int) (x7_1 : Int) (x254000_1 : Int) (x254001_1 : Int) (x254002_1 : Int) (x254003_1 : Int) (x254004_1 : Int), v5 = .int .i64 x5_1 ∧ v6 = .int .i64 x6_1 ∧ v7 = .int .i64 x7_1 ∧ Aside0 (laws_FnCounts.l0 kq t254 x5_1 x6_1 x7_1 x254000_1 x254001_1 x254002_1 x254003_1 x254004_1 = some r) ∧ Aside0 (kq ≤ k) ∧ Aside0 (Kd.R (Kd.int .i64) 3 w' w.heap.size (fun _ => True) v255 t254) ∧ Aside0 (w'.heap[gb253]? = some (.cells #[.int .i64 x254000_1, .int .i64 x254001_1, .int .i64 x254002_1, .int .i64 x254003_1, .int .i64 x254004_1] 25 (0, 0))) ∧ Aside0 (Below w.heap.size w w'))
  case atStart => exact ⟨((-1)), (t252), (0), (t248), (t249), (t250), (t251), (t252), zs, zs, zs, H', ⟨Nat.le_refl _⟩, ⟨by (with_reducible repeat (first | apply Kd.R_alloc | apply Kd.R_drewN | apply Kd.R_drew)); exact HO256.out⟩, ⟨by exact pk BK253.out⟩, ⟨zb⟩⟩
  case round =>
   clear H'
   try clear p2
   try clear c3
   try clear c8
   try clear hcz10_0 hcz10_1 hcz10_2 hcz10_3 hcz10_4 hfz10_0 hfz10_1 hfz10_2 hfz10_3 hfz10_4
   try clear hcz8_0 hcz8_1 hcz8_2 hcz8_3 hcz8_4 hfz8_0 hfz8_1 hfz8_2 hfz8_3 hfz8_4
   obtain ⟨x5_1, x6_1, x7_1, x254000_1, x254001_1, x254002_1, x254003_1, x254004_1, rfl, rfl, rfl, HA, HK1, HO_4, BK253, HB⟩ := hrel
   cases gk with
   | zero => exact absurd HA.out (by simp [laws_FnCounts.l0])
   | succ k1 =>
    have H := HA.out
    clear HA
    simp only [laws_FnCounts.l0] at H
    by_cases c11 : x7_1 < 10
    ·rw [if_pos c11] at H
     have c11b0 : decide (x7_1 < 10) = true := decide_eq_true c11
     clear c11
     by_cases c12 : 0 ≤ x7_1
     ·rw [if_pos c12] at H
      have c12b0 : decide (0 ≤ x7_1) = true := decide_eq_true c12
      clear c12
      by_cases c13 : x7_1 < (t254.length : Int)
      ·rw [if_pos c13] at H
       have c13b0 : decide (x7_1 < (t254.length : Int)) = true := decide_eq_true c13
       clear c13
       replace H := Option.bind_eq_some_iff.mp H
       obtain ⟨t259, A140, H⟩ := H
       replace H : (if 0 ≤ (wrap64 (11 - x7_1)) then (if (wrap64 (11 - x7_1)) < (t254.length : Int) then ((impl_MatchOf.f k1 x254000_1 x254001_1 x254002_1 x254003_1 x254004_1 t259).bind fun t261 => ((impl_Try.f k1 x254000_1 x254001_1 x254002_1 x254003_1 x254004_1 t259 (wrap64 (x6_1 + (Int.tmod (rd t254 (wrap64 (11 - x7_1))) 4)))).bind fun bt262 => ((spec_Try.f k1 x254000_1 x254001_1 x254002_1 x254003_1 x254004_1 t259 (wrap64 (x6_1 + (Int.tmod (rd t254 (wrap64 (11 - x7_1))) 4)))).bind fun bt269 => (if (!(bt262.1 == bt269.1) || (!(bt262.2.1 == bt269.2.1) || (!(bt262.2.2.1 == bt269.2.2.1) || (!(bt262.2.2.2.1 == bt269.2.2.2.1) || (!(bt262.2.2.2.2.1 == bt269.2.2.2.2.1)))))) = true then (laws_FnCounts.j1 k1 t254 x5_1 (wrap64 (x6_1 + (Int.tmod (rd t254 (wrap64 (11 - x7_1))) 4))) x7_1 t259 t261 bt262.2.2.2.2.2 true x254000_1 x254001_1 x254002_1 x254003_1 x254004_1 bt269.1 bt269.2.1 bt269.2.2.1 bt269.2.2.2.1 bt269.2.2.2.2.1) else (if bt262.2.2.2.2.2 = bt269.2.2.2.2.2 then ((impl_TryName.f bt262.2.2.2.2.2).bind fun t276 => (if t276.toList = ([] : List UInt8) then (laws_FnCounts.j1 k1 t254 x5_1 (wrap64 (x6_1 + (Int.tmod (rd t254 (wrap64 (11 - x7_1))) 4))) x7_1 t259 t261 bt262.2.2.2.2.2 true x254000_1 x254001_1 x254002_1 x254003_1 x254004_1 bt269.1 bt269.2.1 bt269.2.2.1 bt269.2.2.2.1 bt269.2.2.2.2.1) else ((spec_MatchOf.f k1 x254000_1 x254001_1 x254002_1 x254003_1 x254004_1 t259).bind fun t277 => (laws_FnCounts.j1 k1 t254 x5_1 (wrap64 (x6_1 + (Int.tmod (rd t254 (wrap64 (11 - x7_1))) 4))) x7_1 t259 t261 bt262.2.2.2.2.2 (t261 != t277) x254000_1 x254001_1 x254002_1 x254003_1 x254004_1 bt269.1 bt269.2.1 bt269.2.2.1 bt269.2.2.2.1 bt269.2.2.2.2.1)))) else (laws_FnCounts.j1 k1 t254 x5_1 (wrap64 (x6_1 + (Int.tmod (rd t254 (wrap64 (11 - x7_1))) 4))) x7_1 t259 t261 bt262.2.2.2.2.2 true x254000_1 x254001_1 x254002_1 x254003_1 x254004_1 bt269.1 bt269.2.1 bt269.2.2.1 bt269.2.2.2.1 bt269.2.2.2.2.1)))))) else (none)) else (none)) = some r := H
       have A14 := aM A140
       clear A140
       obtain ⟨ji15, hji15⟩ : ∃ j_ : Int, (wrap64 (11 - x7_1)) = j_ := ⟨_, rfl⟩
       replace H : (if 0 ≤ (ji15) then (if (ji15) < (t254.length : Int) then ((impl_MatchOf.f k1 x254000_1 x254001_1 x254002_1 x254003_1 x254004_1 t259).bind fun t261 => ((impl_Try.f k1 x254000_1 x254001_1 x254002_1 x254003_1 x254004_1 t259 (wrap64 (x6_1 + (Int.tmod (rd t254 (ji15)) 4)))).bind fun bt262 => ((spec_Try.f k1 x254000_1 x254001_1 x254002_1 x254003_1 x254004_1 t259 (wrap64 (x6_1 + (Int.tmod (rd t254 (ji15)) 4)))).bind fun bt269 => (if (!(bt262.1 == bt269.1) || (!(bt262.2.1 == bt269.2.1) || (!(bt262.2.2.1 == bt269.2.2.1) || (!(bt262.2.2.2.1 == bt269.2.2.2.1) || (!(bt262.2.2.2.2.1 == bt269.2.2.2.2.1)))))) = true then (laws_FnCounts.j1 k1 t254 x5_1 (wrap64 (x6_1 + (Int.tmod (rd t254 (ji15)) 4))) x7_1 t259 t261 bt262.2.2.2.2.2 true x254000_1 x254001_1 x254002_1 x254003_1 x254004_1 bt269.1 bt269.2.1 bt269.2.2.1 bt269.2.2.2.1 bt269.2.2.2.2.1) else (if bt262.2.2.2.2.2 = bt269.2.2.2.2.2 then ((impl_TryName.f bt262.2.2.2.2.2).bind fun t276 => (if t276.toList = ([] : List UInt8) then (laws_FnCounts.j1 k1 t254 x5_1 (wrap64 (x6_1 + (Int.tmod (rd t254 (ji15)) 4))) x7_1 t259 t261 bt262.2.2.2.2.2 true x254000_1 x254001_1 x254002_1 x254003_1 x254004_1 bt269.1 bt269.2.1 bt269.2.2.1 bt269.2.2.2.1 bt269.2.2.2.2.1) else ((spec_MatchOf.f k1 x254000_1 x254001_1 x254002_1 x254003_1 x254004_1 t259).bind fun t277 => (laws_FnCounts.j1 k1 t254 x5_1 (wrap64 (x6_1 + (Int.tmod (rd t254 (ji15)) 4))) x7_1 t259 t261 bt262.2.2.2.2.2 (t261 != t277) x254000_1 x254001_1 x254002_1 x254003_1 x254004_1 bt269.1 bt269.2.1 bt269.2.2.1 bt269.2.2.2.1 bt269.2.2.2.2.1)))) else (laws_FnCounts.j1 k1 t254 x5_1 (wrap64 (x6_1 + (Int.tmod (rd t254 (ji15)) 4))) x7_1 t259 t261 bt262.2.2.2.2.2 true x254000_1 x254001_1 x254002_1 x254003_1 x254004_1 bt269.1 bt269.2.1 bt269.2.2.1 bt269.2.2.2.1 bt269.2.2.2.2.1)))))) else (none)) else (none)) = some r := by first | (rw [hji15] at H; exact H) | (simp only [hji15] at H ⊢; exact H)
       (try rw [hji15] at A14)
       have hji15w : (IntKind.i64.wrap (11 - x7_1)) = ji15 := (i64_w _).trans hji15
       by_cases c16 : 0 ≤ (ji15)
       ·rw [if_pos c16] at H
        have c16b0 : decide (0 ≤ (ji15)) = true := decide_eq_true c16
        clear c16
        by_cases c17 : (ji15) < (t254.length : Int)
        ·rw [if_pos c17] at H
         have c17b0 : decide ((ji15) < (t254.length : Int)) = true := decide_eq_true c17
         clear c17
         replace H := Option.bind_eq_some_iff.mp H
         obtain ⟨t261, A180, H⟩ := H
         replace H : ((impl_Try.f k1 x254000_1 x254001_1 x254002_1 x254003_1 x254004_1 t259 (wrap64 (x6_1 + (Int.tmod (rd t254 (ji15)) 4)))).bind fun bt262 => ((spec_Try.f k1 x254000_1 x254001_1 x254002_1 x254003_1 x254004_1 t259 (wrap64 (x6_1 + (Int.tmod (rd t254 (ji15)) 4)))).bind fun bt269 => (if (!(bt262.1 == bt269.1) || (!(bt262.2.1 == bt269.2.1) || (!(bt262.2.2.1 == bt269.2.2.1) || (!(bt262.2.2.2.1 == bt269.2.2.2.1) || (!(bt262.2.2.2.2.1 == bt269.2.2.2.2.1)))))) = true then (laws_FnCounts.j1 k1 t254 x5_1 (wrap64 (x6_1 + (Int.tmod (rd t254 (ji15)) 4))) x7_1 t259 t261 bt262.2.2.2.2.2 true x254000_1 x254001_1 x254002_1 x254003_1 x254004_1 bt269.1 bt269.2.1 bt269.2.2.1 bt269.2.2.2.1 bt269.2.2.2.2.1) else (if bt262.2.2.2.2.2 = bt269.2.2.2.2.2 then ((impl_TryName.f bt262.2.2.2.2.2).bind fun t276 => (if t276.toList = ([] : List UInt8) then (laws_FnCounts.j1 k1 t254 x5_1 (wrap64 (x6_1 + (Int.tmod (rd t254 (ji15)) 4))) x7_1 t259 t261 bt262.2.2.2.2.2 true x254000_1 x254001_1 x254002_1 x254003_1 x254004_1 bt269.1 bt269.2.1 bt269.2.2.1 bt269.2.2.2.1 bt269.2.2.2.2.1) else ((spec_MatchOf.f k1 x254000_1 x254001_1 x254002_1 x254003_1 x254004_1 t259).bind fun t277 => (laws_FnCounts.j1 k1 t254 x5_1 (wrap64 (x6_1 + (Int.tmod (rd t254 (ji15)) 4))) x7_1 t259 t261 bt262.2.2.2.2.2 (t261 != t277) x254000_1 x254001_1 x254002_1 x254003_1 x254004_1 bt269.1 bt269.2.1 bt269.2.2.1 bt269.2.2.2.1 bt269.2.2.2.2.1)))) else (laws_FnCounts.j1 k1 t254 x5_1 (wrap64 (x6_1 + (Int.tmod (rd t254 (ji15)) 4))) x7_1 t259 t261 bt262.2.2.2.2.2 true x254000_1 x254001_1 x254002_1 x254003_1 x254004_1 bt269.1 bt269.2.1 bt269.2.2.1 bt269.2.2.2.1 bt269.2.2.2.2.1))))) = some r := H
         have A18 := aM A180
         clear A180
         replace H := Option.bind_eq_some_iff.mp H
         obtain ⟨⟨t262, t263, t264, t265, t266, t267⟩, A190, H⟩ := H
         replace H : ((spec_Try.f k1 x254000_1 x254001_1 x254002_1 x254003_1 x254004_1 t259 (wrap64 (x6_1 + (Int.tmod (rd t254 (ji15)) 4)))).bind fun bt269 => (if (!(t262 == bt269.1) || (!(t263 == bt269.2.1) || (!(t264 == bt269.2.2.1) || (!(t265 == bt269.2.2.2.1) || (!(t266 == bt269.2.2.2.2.1)))))) = true then (laws_FnCounts.j1 k1 t254 x5_1 (wrap64 (x6_1 + (Int.tmod (rd t254 (ji15)) 4))) x7_1 t259 t261 t267 true x254000_1 x254001_1 x254002_1 x254003_1 x254004_1 bt269.1 bt269.2.1 bt269.2.2.1 bt269.2.2.2.1 bt269.2.2.2.2.1) else (if t267 = bt269.2.2.2.2.2 then ((impl_TryName.f t267).bind fun t276 => (if t276.toList = ([] : List UInt8) then (laws_FnCounts.j1 k1 t254 x5_1 (wrap64 (x6_1 + (Int.tmod (rd t254 (ji15)) 4))) x7_1 t259 t261 t267 true x254000_1 x254001_1 x254002_1 x254003_1 x254004_1 bt269.1 bt269.2.1 bt269.2.2.1 bt269.2.2.2.1 bt269.2.2.2.2.1) else ((spec_MatchOf.f k1 x254000_1 x254001_1 x254002_1 x254003_1 x254004_1 t259).bind fun t277 => (laws_FnCounts.j1 k1 t254 x5_1 (wrap64 (x6_1 + (Int.tmod (rd t254 (ji15)) 4))) x7_1 t259 t261 t267 (t261 != t277) x254000_1 x254001_1 x254002_1 x254003_1 x254004_1 bt269.1 bt269.2.1 bt269.2.2.1 bt269.2.2.2.1 bt269.2.2.2.2.1)))) else (laws_FnCounts.j1 k1 t254 x5_1 (wrap64 (x6_1 + (Int.tmod (rd t254 (ji15)) 4))) x7_1 t259 t261 t267 true x254000_1 x254001_1 x254002_1 x254003_1 x254004_1 bt269.1 bt269.2.1 bt269.2.2.1 bt269.2.2.2.1 bt269.2.2.2.2.1)))) = some r := H
         have A19 := aM A190
         clear A190
         replace H := Option.bind_eq_some_iff.mp H
         obtain ⟨⟨t269, t270, t271, t272, t273, t274⟩, A200, H⟩ := H
         replace H : (if (!(t262 == t269) || (!(t263 == t270) || (!(t264 == t271) || (!(t265 == t272) || (!(t266 == t273)))))) = true then (laws_FnCounts.j1 k1 t254 x5_1 (wrap64 (x6_1 + (Int.tmod (rd t254 (ji15)) 4))) x7_1 t259 t261 t267 true x254000_1 x254001_1 x254002_1 x254003_1 x254004_1 t269 t270 t271 t272 t273) else (if t267 = t274 then ((impl_TryName.f t267).bind fun t276 => (if t276.toList = ([] : List UInt8) then (laws_FnCounts.j1 k1 t254 x5_1 (wrap64 (x6_1 + (Int.tmod (rd t254 (ji15)) 4))) x7_1 t259 t261 t267 true x254000_1 x254001_1 x254002_1 x254003_1 x254004_1 t269 t270 t271 t272 t273) else ((spec_MatchOf.f k1 x254000_1 x254001_1 x254002_1 x254003_1 x254004_1 t259).bind fun t277 => (laws_FnCounts.j1 k1 t254 x5_1 (wrap64 (x6_1 + (Int.tmod (rd t254 (ji15)) 4))) x7_1 t259 t261 t267 (t261 != t277) x254000_1 x254001_1 x254002_1 x254003_1 x254004_1 t269 t270 t271 t272 t273)))) else (laws_FnCounts.j1 k1 t254 x5_1 (wrap64 (x6_1 + (Int.tmod (rd t254 (ji15)) 4))) x7_1 t259 t261 t267 true x254000_1 x254001_1 x254002_1 x254003_1 x254004_1 t269 t270 t271 t272 t273))) = some r := H
         have A20 := aM A200
         clear A200
         have HC21 := aM H
         clear H
         obtain ⟨hcz22_0, hcz22_1, hcz22_2, hcz22_3, hcz22_4, hfz22_0, hfz22_1, hfz22_2, hfz22_3, hfz22_4⟩ := cells5 BK253.out
         obtain ⟨Ao23, co23, eo23⟩ := Kd.R_slice HO_4.out
         subst eo23
         have p258 : 0 ≤ (x7_1 : Int) := of_decide_eq_true (by first | (with_reducible assumption) | assumption)
         have q258 : x7_1 < (t254.length : Int) := of_decide_eq_true (by first | (with_reducible assumption) | assumption)
         obtain ⟨ad258, e258, hx258_0⟩ := Kd.at_int (Kd.R_reads' HO_4.out).2.2 x7_1 p258 q258
         cases e258
         replace p258 := eq_true p258
         replace q258 := eq_true q258
         go_upto_region 16 with (first | (go_at_call 23; (with_reducible refine (spec_CodeOf.calls k1 x254000_1 (wrap64 ((wrap64 (x254001_1 + (Int.tmod (rd t254 x7_1) 8))) - 2)) t259 _ A14.out).mono ?_); rintro e w24 ⟨rfl, hb⟩; have n0_ := aM (Kd.R_below (by (with_reducible repeat (first | apply Kd.R_alloc | apply Kd.R_drewN | apply Kd.R_drew)); exact HO_4.out) hb); have n1_ := aM (bb BK253.out hb); have n2_ := aM (below_step (zb) hb); clear HO_4; clear BK253; clear HB; have HO_4 := n0_; have BK253 := n1_; have HB := n2_; clear n0_ n1_ n2_; (try clear hb); (try clear hb2); (try clear hk); (try clear hi); have p260 : 0 ≤ ((ji15) : Int) := of_decide_eq_true (by first | (with_reducible assumption) | assumption); have q260 : (ji15) < (t254.length : Int) := of_decide_eq_true (by first | (with_reducible assumption) | assumption); obtain ⟨ad260, e260, hx260_0⟩ := Kd.at_int (Kd.R_reads' HO_4.out).2.2 (ji15) p260 q260; obtain rfl : ad258 = ad260 := (by injection e260); replace p260 := eq_true p260; replace q260 := eq_true q260; obtain ⟨hcz25_0, hcz25_1, hcz25_2, hcz25_3, hcz25_4, hfz25_0, hfz25_1, hfz25_2, hfz25_3, hfz25_4⟩ := cells5 BK253.out) | (go_at_call 11; (with_reducible refine (impl_MatchOf.calls k1 x254000_1 x254001_1 x254002_1 x254003_1 x254004_1 t259 t261 _ A18.out).mono ?_); rintro e w26 ⟨rfl, hb⟩; have n0_ := aM (Kd.R_below (by (with_reducible repeat (first | apply Kd.R_alloc | apply Kd.R_drewN | apply Kd.R_drew)); exact HO_4.out) hb); have n1_ := aM (bb BK253.out hb); have n2_ := aM (below_step (zb) hb); clear HO_4; clear BK253; clear HB; have HO_4 := n0_; have BK253 := n1_; have HB := n2_; clear n0_ n1_ n2_; (try clear hb); (try clear hb2); (try clear hk); (try clear hi); obtain ⟨hcz27_0, hcz27_1, hcz27_2, hcz27_3, hcz27_4, hfz27_0, hfz27_1, hfz27_2, hfz27_3, hfz27_4⟩ := cells5 BK253.out) | (go_at_call 13; (with_reducible refine (impl_Try.calls k1 x254000_1 x254001_1 x254002_1 x254003_1 x254004_1 t259 (wrap64 (x6_1 + (Int.tmod (rd t254 (ji15)) 4))) t262 t263 t264 t265 t266 t267 _ A19.out).mono ?_); rintro e w28 ⟨rfl, hb⟩; have n0_ := aM (Kd.R_below (by (with_reducible repeat (first | apply Kd.R_alloc | apply Kd.R_drewN | apply Kd.R_drew)); exact HO_4.out) hb); have n1_ := aM (bb BK253.out hb); have n2_ := aM (below_step (zb) hb); clear HO_4; clear BK253; clear HB; have HO_4 := n0_; have BK253 := n1_; have HB := n2_; clear n0_ n1_ n2_; (try clear hb); (try clear hb2); (try clear hk); (try clear hi)) | ((with_reducible refine gate_dst (N := 11) rfl ?_); refine box_event ?hg (N := 11) ?hd (cs := #[.int .i64 0, .int .i64 0, .int .i64 0, .int .i64 0, .int .i64 0]) (t := 25) ?hr ?_; (case hd => rfl); (case hg => rfl); (case hr => exact zg); intro gb268 hg w29 hbox hb; have n0_ := aM (Kd.R_below (by (with_reducible repeat (first | apply Kd.R_alloc | apply Kd.R_drewN | apply Kd.R_drew)); exact HO_4.out) hb); have n1_ := aM (bb BK253.out hb); have n2_ := aM (below_step (zb) hb); have n3_ := aM (hbox); have n4_ := aM ((by rw [hg]; exact (below_size (zb)) : w.heap.size ≤ gb268)); have n5_ := aM ((by rw [hg]; exact (below_size (zb)) : w.heap.size ≤ gb268)); have n6_ := aM ((by rw [hg]; exact Nat.ne_of_lt (nl BK253.out) : gb253 ≠ gb268)); have n7_ := aM ((by rw [hg]; exact Nat.ne_of_gt (nl BK253.out) : gb268 ≠ gb253)); clear HO_4; clear BK253; clear HB; have HO_4 := n0_; have BK253 := n1_; have HB := n2_; have BK268 := n3_; have GW268 := n4_; have GE268 := n5_; have NB253_268 := n6_; have NB268_253 := n7_; clear n0_ n1_ n2_ n3_ n4_ n5_ n6_ n7_; clear hb hbox hg; have hnb30 := NB268_253.out; have hnc30 := NB253_268.out; obtain ⟨hcz31_0, hcz31_1, hcz31_2, hcz31_3, hcz31_4, hfz31_0, hfz31_1, hfz31_2, hfz31_3, hfz31_4⟩ := cells5 BK268.out; obtain ⟨hcz32_0, hcz32_1, hcz32_2, hcz32_3, hcz32_4, hfz32_0, hfz32_1, hfz32_2, hfz32_3, hfz32_4⟩ := cells5 BK253.out) | (go_at_call 12; (with_reducible refine (spec_Try.calls k1 x254000_1 x254001_1 x254002_1 x254003_1 x254004_1 t259 (wrap64 (x6_1 + (Int.tmod (rd t254 (ji15)) 4))) t269 t270 t271 t272 t273 t274 _ A20.out).mono ?_); rintro e w33 ⟨rfl, hb⟩; have n0_ := aM (Kd.R_below (by (with_reducible repeat (first | apply Kd.R_alloc | apply Kd.R_drewN | apply Kd.R_drew)); exact (Kd.R_mono (Kd.R_far (p := ⟨gb268, 4, none⟩) (Kd.R_far (p := ⟨gb268, 3, none⟩) (Kd.R_far (p := ⟨gb268, 2, none⟩) (Kd.R_far (p := ⟨gb268, 1, none⟩) (Kd.R_far (p := ⟨gb268, 0, none⟩) (Kd.R_types HO_4.out BK268.out (by decide)) (fun _ hk => hk.2) (.int .i64 t262)) (fun _ hk => hk.2) (.int .i64 t263)) (fun _ hk => hk.2) (.int .i64 t264)) (fun _ hk => hk.2) (.int .i64 t265)) (fun _ hk => hk.2) (.int .i64 t266)) (fun _ h_ => h_.1))) hb); have n1_ := aM (blk_below (g := gb253) (o := .cells #[.int .i64 x254000_1, .int .i64 x254001_1, .int .i64 x254002_1, .int .i64 x254003_1, .int .i64 x254004_1] 25 (0, 0)) (by refine pq ?_; refine blk_far ?_ NB253_268.out _; refine pq ?_; refine blk_far ?_ NB253_268.out _; refine pq ?_; refine blk_far ?_ NB253_268.out _; refine pq ?_; refine blk_far ?_ NB253_268.out _; refine pq ?_; refine blk_far ?_ NB253_268.out _; refine pq ?_; exact BK253.out) hb); have n2_ := aM (blk_below (g := gb268) (o := .cells #[.int .i64 t262, .int .i64 t263, .int .i64 t264, .int .i64 t265, .int .i64 t266] 25 (0, 0)) (by refine pq ?_; refine blk_put (cs := #[.int .i64 t262, .int .i64 t263, .int .i64 t264, .int .i64 t265, .int .i64 0]) ?_ 4 _ rfl; refine pq ?_; refine blk_put (cs := #[.int .i64 t262, .int .i64 t263, .int .i64 t264, .int .i64 0, .int .i64 0]) ?_ 3 _ rfl; refine pq ?_; refine blk_put (cs := #[.int .i64 t262, .int .i64 t263, .int .i64 0, .int .i64 0, .int .i64 0]) ?_ 2 _ rfl; refine pq ?_; refine blk_put (cs := #[.int .i64 t262, .int .i64 0, .int .i64 0, .int .i64 0, .int .i64 0]) ?_ 1 _ rfl; refine pq ?_; refine blk_put (cs := #[.int .i64 0, .int .i64 0, .int .i64 0, .int .i64 0, .int .i64 0]) ?_ 0 _ rfl; refine pq ?_; exact BK268.out) hb); have n3_ := aM (below_step (zb) hb); clear HO_4; clear BK253; clear BK268; clear HB; have HO_4 := n0_; have BK253 := n1_; have BK268 := n2_; have HB := n3_; clear n0_ n1_ n2_ n3_; (try clear hb); (try clear hb2); (try clear hk); (try clear hi)) | ((with_reducible refine gate_dst (N := 13) rfl ?_); refine box_event ?hg (N := 13) ?hd (cs := #[.int .i64 0, .int .i64 0, .int .i64 0, .int .i64 0, .int .i64 0]) (t := 25) ?hr ?_; (case hd => rfl); (case hg => rfl); (case hr => exact zg); intro gb275 hg w34 hbox hb; have n0_ := aM (Kd.R_below (by (with_reducible repeat (first | apply Kd.R_alloc | apply Kd.R_drewN | apply Kd.R_drew)); exact HO_4.out) hb); have n1_ := aM (bb BK253.out hb); have n2_ := aM (bb BK268.out hb); have n3_ := aM (below_step (zb) hb); have n4_ := aM (hbox); have n5_ := aM ((by rw [hg]; exact (below_size (zb)) : w.heap.size ≤ gb275)); have n6_ := aM ((by rw [hg]; exact (below_size (zb)) : w.heap.size ≤ gb275)); have n7_ := aM ((by rw [hg]; exact Nat.ne_of_lt (nl BK253.out) : gb253 ≠ gb275)); have n8_ := aM ((by rw [hg]; exact Nat.ne_of_gt (nl BK253.out) : gb275 ≠ gb253)); have n9_ := aM ((by rw [hg]; exact Nat.ne_of_lt (nl BK268.out) : gb268 ≠ gb275)); have n10_ := aM ((by rw [hg]; exact Nat.ne_of_gt (nl BK268.out) : gb275 ≠ gb268)); clear HO_4; clear BK253; clear BK268; clear HB; have HO_4 := n0_; have BK253 := n1_; have BK268 := n2_; have HB := n3_; have BK275 := n4_; have GW275 := n5_; have GE275 := n6_; have NB253_275 := n7_; have NB275_253 := n8_; have NB268_275 := n9_; have NB275_268 := n10_; clear n0_ n1_ n2_ n3_ n4_ n5_ n6_ n7_ n8_ n9_ n10_; clear hb hbox hg; have hnb35 := NB275_253.out; have hnc35 := NB253_275.out; have hnb36 := NB275_268.out; have hnc36 := NB268_275.out; obtain ⟨hcz37_0, hcz37_1, hcz37_2, hcz37_3, hcz37_4, hfz37_0, hfz37_1, hfz37_2, hfz37_3, hfz37_4⟩ := cells5 BK275.out))
         repeat (go_quiet (first | (go_at_call 23; (with_reducible refine (spec_CodeOf.calls k1 x254000_1 (wrap64 ((wrap64 (x254001_1 + (Int.tmod (rd t254 x7_1) 8))) - 2)) t259 _ A14.out).mono ?_); rintro e w24 ⟨rfl, hb⟩; have n0_ := aM (Kd.R_below (by (with_reducible repeat (first | apply Kd.R_alloc | apply Kd.R_drewN | apply Kd.R_drew)); exact HO_4.out) hb); have n1_ := aM (bb BK253.out hb); have n2_ := aM (below_step (zb) hb); clear HO_4; clear BK253; clear HB; have HO_4 := n0_; have BK253 := n1_; have HB := n2_; clear n0_ n1_ n2_; (try clear hb); (try clear hb2); (try clear hk); (try clear hi); have p260 : 0 ≤ ((ji15) : Int) := of_decide_eq_true (by first | (with_reducible assumption) | assumption); have q260 : (ji15) < (t254.length : Int) := of_decide_eq_true (by first | (with_reducible assumption) | assumption); obtain ⟨ad260, e260, hx260_0⟩ := Kd.at_int (Kd.R_reads' HO_4.out).2.2 (ji15) p260 q260; obtain rfl : ad258 = ad260 := (by injection e260); replace p260 := eq_true p260; replace q260 := eq_true q260; obtain ⟨hcz25_0, hcz25_1, hcz25_2, hcz25_3, hcz25_4, hfz25_0, hfz25_1, hfz25_2, hfz25_3, hfz25_4⟩ := cells5 BK253.out) | (go_at_call 11; (with_reducible refine (impl_MatchOf.calls k1 x254000_1 x254001_1 x254002_1 x254003_1 x254004_1 t259 t261 _ A18.out).mono ?_); rintro e w26 ⟨rfl, hb⟩; have n0_ := aM (Kd.R_below (by (with_reducible repeat (first | apply Kd.R_alloc | apply Kd.R_drewN | apply Kd.R_drew)); exact HO_4.out) hb); have n1_ := aM (bb BK253.out hb); have n2_ := aM (below_step (zb) hb); clear HO_4; clear BK253; clear HB; have HO_4 := n0_; have BK253 := n1_; have HB := n2_; clear n0_ n1_ n2_; (try clear hb); (try clear hb2); (try clear hk); (try clear hi); obtain ⟨hcz27_0, hcz27_1, hcz27_2, hcz27_3, hcz27_4, hfz27_0, hfz27_1, hfz27_2, hfz27_3, hfz27_4⟩ := cells5 BK253.out) | (go_at_call 13; (with_reducible refine (impl_Try.calls k1 x254000_1 x254001_1 x254002_1 x254003_1 x254004_1 t259 (wrap64 (x6_1 + (Int.tmod (rd t254 (ji15)) 4))) t262 t263 t264 t265 t266 t267 _ A19.out).mono ?_); rintro e w28 ⟨rfl, hb⟩; have n0_ := aM (Kd.R_below (by (with_reducible repeat (first | apply Kd.R_alloc | apply Kd.R_drewN | apply Kd.R_drew)); exact HO_4.out) hb); have n1_ := aM (bb BK253.out hb); have n2_ := aM (below_step (zb) hb); clear HO_4; clear BK253; clear HB; have HO_4 := n0_; have BK253 := n1_; have HB := n2_; clear n0_ n1_ n2_; (try clear hb); (try clear hb2); (try clear hk); (try clear hi)) | ((with_reducible refine gate_dst (N := 11) rfl ?_); refine box_event ?hg (N := 11) ?hd (cs := #[.int .i64 0, .int .i64 0, .int .i64 0, .int .i64 0, .int .i64 0]) (t := 25) ?hr ?_; (case hd => rfl); (case hg => rfl); (case hr => exact zg); intro gb268 hg w29 hbox hb; have n0_ := aM (Kd.R_below (by (with_reducible repeat (first | apply Kd.R_alloc | apply Kd.R_drewN | apply Kd.R_drew)); exact HO_4.out) hb); have n1_ := aM (bb BK253.out hb); have n2_ := aM (below_step (zb) hb); have n3_ := aM (hbox); have n4_ := aM ((by rw [hg]; exact (below_size (zb)) : w.heap.size ≤ gb268)); have n5_ := aM ((by rw [hg]; exact (below_size (zb)) : w.heap.size ≤ gb268)); have n6_ := aM ((by rw [hg]; exact Nat.ne_of_lt (nl BK253.out) : gb253 ≠ gb268)); have n7_ := aM ((by rw [hg]; exact Nat.ne_of_gt (nl BK253.out) : gb268 ≠ gb253)); clear HO_4; clear BK253; clear HB; have HO_4 := n0_; have BK253 := n1_; have HB := n2_; have BK268 := n3_; have GW268 := n4_; have GE268 := n5_; have NB253_268 := n6_; have NB268_253 := n7_; clear n0_ n1_ n2_ n3_ n4_ n5_ n6_ n7_; clear hb hbox hg; have hnb30 := NB268_253.out; have hnc30 := NB253_268.out; obtain ⟨hcz31_0, hcz31_1, hcz31_2, hcz31_3, hcz31_4, hfz31_0, hfz31_1, hfz31_2, hfz31_3, hfz31_4⟩ := cells5 BK268.out; obtain ⟨hcz32_0, hcz32_1, hcz32_2, hcz32_3, hcz32_4, hfz32_0, hfz32_1, hfz32_2, hfz32_3, hfz32_4⟩ := cells5 BK253.out) | (go_at_call 12; (with_reducible refine (spec_Try.calls k1 x254000_1 x254001_1 x254002_1 x254003_1 x254004_1 t259 (wrap64 (x6_1 + (Int.tmod (rd t254 (ji15)) 4))) t269 t270 t271 t272 t273 t274 _ A20.out).mono ?_); rintro e w33 ⟨rfl, hb⟩; have n0_ := aM (Kd.R_below (by (with_reducible repeat (first | apply Kd.R_alloc | apply Kd.R_drewN | apply Kd.R_drew)); exact (Kd.R_mono (Kd.R_far (p := ⟨gb268, 4, none⟩) (Kd.R_far (p := ⟨gb268, 3, none⟩) (Kd.R_far (p := ⟨gb268, 2, none⟩) (Kd.R_far (p := ⟨gb268, 1, none⟩) (Kd.R_far (p := ⟨gb268, 0, none⟩) (Kd.R_types HO_4.out BK268.out (by decide)) (fun _ hk => hk.2) (.int .i64 t262)) (fun _ hk => hk.2) (.int .i64 t263)) (fun _ hk => hk.2) (.int .i64 t264)) (fun _ hk => hk.2) (.int .i64 t265)) (fun _ hk => hk.2) (.int .i64 t266)) (fun _ h_ => h_.1))) hb); have n1_ := aM (blk_below (g := gb253) (o := .cells #[.int .i64 x254000_1, .int .i64 x254001_1, .int .i64 x254002_1, .int .i64 x254003_1, .int .i64 x254004_1] 25 (0, 0)) (by refine pq ?_; refine blk_far ?_ NB253_268.out _; refine pq ?_; refine blk_far ?_ NB253_268.out _; refine pq ?_; refine blk_far ?_ NB253_268.out _; refine pq ?_; refine blk_far ?_ NB253_268.out _; refine pq ?_; refine blk_far ?_ NB253_268.out _; refine pq ?_; exact BK253.out) hb); have n2_ := aM (blk_below (g := gb268) (o := .cells #[.int .i64 t262, .int .i64 t263, .int .i64 t264, .int .i64 t265, .int .i64 t266] 25 (0, 0)) (by refine pq ?_; refine blk_put (cs := #[.int .i64 t262, .int .i64 t263, .int .i64 t264, .int .i64 t265, .int .i64 0]) ?_ 4 _ rfl; refine pq ?_; refine blk_put (cs := #[.int .i64 t262, .int .i64 t263, .int .i64 t264, .int .i64 0, .int .i64 0]) ?_ 3 _ rfl; refine pq ?_; refine blk_put (cs := #[.int .i64 t262, .int .i64 t263, .int .i64 0, .int .i64 0, .int .i64 0]) ?_ 2 _ rfl; refine pq ?_; refine blk_put (cs := #[.int .i64 t262, .int .i64 0, .int .i64 0, .int .i64 0, .int .i64 0]) ?_ 1 _ rfl; refine pq ?_; refine blk_put (cs := #[.int .i64 0, .int .i64 0, .int .i64 0, .int .i64 0, .int .i64 0]) ?_ 0 _ rfl; refine pq ?_; exact BK268.out) hb); have n3_ := aM (below_step (zb) hb); clear HO_4; clear BK253; clear BK268; clear HB; have HO_4 := n0_; have BK253 := n1_; have BK268 := n2_; have HB := n3_; clear n0_ n1_ n2_ n3_; (try clear hb); (try clear hb2); (try clear hk); (try clear hi)) | ((with_reducible refine gate_dst (N := 13) rfl ?_); refine box_event ?hg (N := 13) ?hd (cs := #[.int .i64 0, .int .i64 0, .int .i64 0, .int .i64 0, .int .i64 0]) (t := 25) ?hr ?_; (case hd => rfl); (case hg => rfl); (case hr => exact zg); intro gb275 hg w34 hbox hb; have n0_ := aM (Kd.R_below (by (with_reducible repeat (first | apply Kd.R_alloc | apply Kd.R_drewN | apply Kd.R_drew)); exact HO_4.out) hb); have n1_ := aM (bb BK253.out hb); have n2_ := aM (bb BK268.out hb); have n3_ := aM (below_step (zb) hb); have n4_ := aM (hbox); have n5_ := aM ((by rw [hg]; exact (below_size (zb)) : w.heap.size ≤ gb275)); have n6_ := aM ((by rw [hg]; exact (below_size (zb)) : w.heap.size ≤ gb275)); have n7_ := aM ((by rw [hg]; exact Nat.ne_of_lt (nl BK253.out) : gb253 ≠ gb275)); have n8_ := aM ((by rw [hg]; exact Nat.ne_of_gt (nl BK253.out) : gb275 ≠ gb253)); have n9_ := aM ((by rw [hg]; exact Nat.ne_of_lt (nl BK268.out) : gb268 ≠ gb275)); have n10_ := aM ((by rw [hg]; exact Nat.ne_of_gt (nl BK268.out) : gb275 ≠ gb268)); clear HO_4; clear BK253; clear BK268; clear HB; have HO_4 := n0_; have BK253 := n1_; have BK268 := n2_; have HB := n3_; have BK275 := n4_; have GW275 := n5_; have GE275 := n6_; have NB253_275 := n7_; have NB275_253 := n8_; have NB268_275 := n9_; have NB275_268 := n10_; clear n0_ n1_ n2_ n3_ n4_ n5_ n6_ n7_ n8_ n9_ n10_; clear hb hbox hg; have hnb35 := NB275_253.out; have hnc35 := NB253_275.out; have hnb36 := NB275_268.out; have hnc36 := NB268_275.out; obtain ⟨hcz37_0, hcz37_1, hcz37_2, hcz37_3, hcz37_4, hfz37_0, hfz37_1, hfz37_2, hfz37_3, hfz37_4⟩ := cells5 BK275.out)); go_upto_region 16 with (first | (go_at_call 23; (with_reducible refine (spec_CodeOf.calls k1 x254000_1 (wrap64 ((wrap64 (x254001_1 + (Int.tmod (rd t254 x7_1) 8))) - 2)) t259 _ A14.out).mono ?_); rintro e w24 ⟨rfl, hb⟩; have n0_ := aM (Kd.R_below (by (with_reducible repeat (first | apply Kd.R_alloc | apply Kd.R_drewN | apply Kd.R_drew)); exact HO_4.out) hb); have n1_ := aM (bb BK253.out hb); have n2_ := aM (below_step (zb) hb); clear HO_4; clear BK253; clear HB; have HO_4 := n0_; have BK253 := n1_; have HB := n2_; clear n0_ n1_ n2_; (try clear hb); (try clear hb2); (try clear hk); (try clear hi); have p260 : 0 ≤ ((ji15) : Int) := of_decide_eq_true (by first | (with_reducible assumption) | assumption); have q260 : (ji15) < (t254.length : Int) := of_decide_eq_true (by first | (with_reducible assumption) | assumption); obtain ⟨ad260, e260, hx260_0⟩ := Kd.at_int (Kd.R_reads' HO_4.out).2.2 (ji15) p260 q260; obtain rfl : ad258 = ad260 := (by injection e260); replace p260 := eq_true p260; replace q260 := eq_true q260; obtain ⟨hcz25_0, hcz25_1, hcz25_2, hcz25_3, hcz25_4, hfz25_0, hfz25_1, hfz25_2, hfz25_3, hfz25_4⟩ := cells5 BK253.out) | (go_at_call 11; (with_reducible refine (impl_MatchOf.calls k1 x254000_1 x254001_1 x254002_1 x254003_1 x254004_1 t259 t261 _ A18.out).mono ?_); rintro e w26 ⟨rfl, hb⟩; have n0_ := aM (Kd.R_below (by (with_reducible repeat (first | apply Kd.R_alloc | apply Kd.R_drewN | apply Kd.R_drew)); exact HO_4.out) hb); have n1_ := aM (bb BK253.out hb); have n2_ := aM (below_step (zb) hb); clear HO_4; clear BK253; clear HB; have HO_4 := n0_; have BK253 := n1_; have HB := n2_; clear n0_ n1_ n2_; (try clear hb); (try clear hb2); (try clear hk); (try clear hi); obtain ⟨hcz27_0, hcz27_1, hcz27_2, hcz27_3, hcz27_4, hfz27_0, hfz27_1, hfz27_2, hfz27_3, hfz27_4⟩ := cells5 BK253.out) | (go_at_call 13; (with_reducible refine (impl_Try.calls k1 x254000_1 x254001_1 x254002_1 x254003_1 x254004_1 t259 (wrap64 (x6_1 + (Int.tmod (rd t254 (ji15)) 4))) t262 t263 t264 t265 t266 t267 _ A19.out).mono ?_); rintro e w28 ⟨rfl, hb⟩; have n0_ := aM (Kd.R_below (by (with_reducible repeat (first | apply Kd.R_alloc | apply Kd.R_drewN | apply Kd.R_drew)); exact HO_4.out) hb); have n1_ := aM (bb BK253.out hb); have n2_ := aM (below_step (zb) hb); clear HO_4; clear BK253; clear HB; have HO_4 := n0_; have BK253 := n1_; have HB := n2_; clear n0_ n1_ n2_; (try clear hb); (try clear hb2); (try clear hk); (try clear hi)) | ((with_reducible refine gate_dst (N := 11) rfl ?_); refine box_event ?hg (N := 11) ?hd (cs := #[.int .i64 0, .int .i64 0, .int .i64 0, .int .i64 0, .int .i64 0]) (t := 25) ?hr ?_; (case hd => rfl); (case hg => rfl); (case hr => exact zg); intro gb268 hg w29 hbox hb; have n0_ := aM (Kd.R_below (by (with_reducible repeat (first | apply Kd.R_alloc | apply Kd.R_drewN | apply Kd.R_drew)); exact HO_4.out) hb); have n1_ := aM (bb BK253.out hb); have n2_ := aM (below_step (zb) hb); have n3_ := aM (hbox); have n4_ := aM ((by rw [hg]; exact (below_size (zb)) : w.heap.size ≤ gb268)); have n5_ := aM ((by rw [hg]; exact (below_size (zb)) : w.heap.size ≤ gb268)); have n6_ := aM ((by rw [hg]; exact Nat.ne_of_lt (nl BK253.out) : gb253 ≠ gb268)); have n7_ := aM ((by rw [hg]; exact Nat.ne_of_gt (nl BK253.out) : gb268 ≠ gb253)); clear HO_4; clear BK253; clear HB; have HO_4 := n0_; have BK253 := n1_; have HB := n2_; have BK268 := n3_; have GW268 := n4_; have GE268 := n5_; have NB253_268 := n6_; have NB268_253 := n7_; clear n0_ n1_ n2_ n3_ n4_ n5_ n6_ n7_; clear hb hbox hg; have hnb30 := NB268_253.out; have hnc30 := NB253_268.out; obtain ⟨hcz31_0, hcz31_1, hcz31_2, hcz31_3, hcz31_4, hfz31_0, hfz31_1, hfz31_2, hfz31_3, hfz31_4⟩ := cells5 BK268.out; obtain ⟨hcz32_0, hcz32_1, hcz32_2, hcz32_3, hcz32_4, hfz32_0, hfz32_1, hfz32_2, hfz32_3, hfz32_4⟩ := cells5 BK253.out) | (go_at_call 12; (with_reducible refine (spec_Try.calls k1 x254000_1 x254001_1 x254002_1 x254003_1 x254004_1 t259 (wrap64 (x6_1 + (Int.tmod (rd t254 (ji15)) 4))) t269 t270 t271 t272 t273 t274 _ A20.out).mono ?_); rintro e w33 ⟨rfl, hb⟩; have n0_ := aM (Kd.R_below (by (with_reducible repeat (first | apply Kd.R_alloc | apply Kd.R_drewN | apply Kd.R_drew)); exact (Kd.R_mono (Kd.R_far (p := ⟨gb268, 4, none⟩) (Kd.R_far (p := ⟨gb268, 3, none⟩) (Kd.R_far (p := ⟨gb268, 2, none⟩) (Kd.R_far (p := ⟨gb268, 1, none⟩) (Kd.R_far (p := ⟨gb268, 0, none⟩) (Kd.R_types HO_4.out BK268.out (by decide)) (fun _ hk => hk.2) (.int .i64 t262)) (fun _ hk => hk.2) (.int .i64 t263)) (fun _ hk => hk.2) (.int .i64 t264)) (fun _ hk => hk.2) (.int .i64 t265)) (fun _ hk => hk.2) (.int .i64 t266)) (fun _ h_ => h_.1))) hb); have n1_ := aM (blk_below (g := gb253) (o := .cells #[.int .i64 x254000_1, .int .i64 x254001_1, .int .i64 x254002_1, .int .i64 x254003_1, .int .i64 x254004_1] 25 (0, 0)) (by refine pq ?_; refine blk_far ?_ NB253_268.out _; refine pq ?_; refine blk_far ?_ NB253_268.out _; refine pq ?_; refine blk_far ?_ NB253_268.out _; refine pq ?_; refine blk_far ?_ NB253_268.out _; refine pq ?_; refine blk_far ?_ NB253_268.out _; refine pq ?_; exact BK253.out) hb); have n2_ := aM (blk_below (g := gb268) (o := .cells #[.int .i64 t262, .int .i64 t263, .int .i64 t264, .int .i64 t265, .int .i64 t266] 25 (0, 0)) (by refine pq ?_; refine blk_put (cs := #[.int .i64 t262, .int .i64 t263, .int .i64 t264, .int .i64 t265, .int .i64 0]) ?_ 4 _ rfl; refine pq ?_; refine blk_put (cs := #[.int .i64 t262, .int .i64 t263, .int .i64 t264, .int .i64 0, .int .i64 0]) ?_ 3 _ rfl; refine pq ?_; refine blk_put (cs := #[.int .i64 t262, .int .i64 t263, .int .i64 0, .int .i64 0, .int .i64 0]) ?_ 2 _ rfl; refine pq ?_; refine blk_put (cs := #[.int .i64 t262, .int .i64 0, .int .i64 0, .int .i64 0, .int .i64 0]) ?_ 1 _ rfl; refine pq ?_; refine blk_put (cs := #[.int .i64 0, .int .i64 0, .int .i64 0, .int .i64 0, .int .i64 0]) ?_ 0 _ rfl; refine pq ?_; exact BK268.out) hb); have n3_ := aM (below_step (zb) hb); clear HO_4; clear BK253; clear BK268; clear HB; have HO_4 := n0_; have BK253 := n1_; have BK268 := n2_; have HB := n3_; clear n0_ n1_ n2_ n3_; (try clear hb); (try clear hb2); (try clear hk); (try clear hi)) | ((with_reducible refine gate_dst (N := 13) rfl ?_); refine box_event ?hg (N := 13) ?hd (cs := #[.int .i64 0, .int .i64 0, .int .i64 0, .int .i64 0, .int .i64 0]) (t := 25) ?hr ?_; (case hd => rfl); (case hg => rfl); (case hr => exact zg); intro gb275 hg w34 hbox hb; have n0_ := aM (Kd.R_below (by (with_reducible repeat (first | apply Kd.R_alloc | apply Kd.R_drewN | apply Kd.R_drew)); exact HO_4.out) hb); have n1_ := aM (bb BK253.out hb); have n2_ := aM (bb BK268.out hb); have n3_ := aM (below_step (zb) hb); have n4_ := aM (hbox); have n5_ := aM ((by rw [hg]; exact (below_size (zb)) : w.heap.size ≤ gb275)); have n6_ := aM ((by rw [hg]; exact (below_size (zb)) : w.heap.size ≤ gb275)); have n7_ := aM ((by rw [hg]; exact Nat.ne_of_lt (nl BK253.out) : gb253 ≠ gb275)); have n8_ := aM ((by rw [hg]; exact Nat.ne_of_gt (nl BK253.out) : gb275 ≠ gb253)); have n9_ := aM ((by rw [hg]; exact Nat.ne_of_lt (nl BK268.out) : gb268 ≠ gb275)); have n10_ := aM ((by rw [hg]; exact Nat.ne_of_gt (nl BK268.out) : gb275 ≠ gb268)); clear HO_4; clear BK253; clear BK268; clear HB; have HO_4 := n0_; have BK253 := n1_; have BK268 := n2_; have HB := n3_; have BK275 := n4_; have GW275 := n5_; have GE275 := n6_; have NB253_275 := n7_; have NB275_253 := n8_; have NB268_275 := n9_; have NB275_268 := n10_; clear n0_ n1_ n2_ n3_ n4_ n5_ n6_ n7_ n8_ n9_ n10_; clear hb hbox hg; have hnb35 := NB275_253.out; have hnc35 := NB253_275.out; have hnb36 := NB275_268.out; have hnc36 := NB268_275.out; obtain ⟨hcz37_0, hcz37_1, hcz37_2, hcz37_3, hcz37_4, hfz37_0, hfz37_1, hfz37_2, hfz37_3, hfz37_4⟩ := cells5 BK275.out)))
         (try simp only [Act.put, List.setIfInBounds_toArray, List.set_cons_zero, List.set_cons_succ])
         go_cut [84] (fun v84 wc => ∃ (kq : Nat) (x84_20 : Bool), v84 = .bool x84_20 ∧ Aside0 (laws_FnCounts.j1 kq t254 x5_1 (wrap64 (x6_1 + (Int.tmod (rd t254 (ji15)) 4))) x7_1 t259 t261 t267 x84_20 x254000_1 x254001_1 x254002_1 x254003_1 x254004_1 t269 t270 t271 t272 t273 = some r) ∧ Aside0 (kq ≤ k1) ∧ Aside0 (Kd.R (Kd.int .i64) 3 wc w.heap.size (fun _ => True) (.slice (some ad258) t254.length co23) t254) ∧ Aside0 (wc.heap[gb253]? = some (.cells #[.int .i64 x254000_1, .int .i64 x254001_1, .int .i64 x254002_1, .int .i64 x254003_1, .int .i64 x254004_1] 25 (0, 0))) ∧ Aside0 (wc.heap[gb268]? = some (.cells #[.int .i64 t262, .int .i64 t263, .int .i64 t264, .int .i64 t265, .int .i64 t266] 25 (0, 0))) ∧ Aside0 (wc.heap[gb275]? = some (.cells #[.int .i64 t269, .int .i64 t270, .int .i64 t271, .int .i64 t272, .int .i64 t273] 25 (0, 0))) ∧ Aside0 (Below w.heap.size w wc))
         case first =>
          have H := HC21.out
          clear HC21
          by_cases c38 : (!(t262 == t269) || (!(t263 == t270) || (!(t264 == t271) || (!(t265 == t272) || (!(t266 == t273)))))) = true
          ·rw [if_pos c38] at H
           have c38b0 : (!(t262 == t269) || (!(t263 == t270) || (!(t264 == t271) || (!(t265 == t272) || (!(t266 == t273)))))) = true := c38
           clear c38
           (first | rw [c38b0] | (simp only [i64_w, i32_w]; rw [c38b0]) | skip)
           have H' := aM H
           clear H
           have hnb39 := NB268_253.out
           have hnc39 := NB253_268.out
           have hnb40 := NB268_275.out
           have hnc40 := NB275_268.out
           obtain ⟨hcz41_0, hcz41_1, hcz41_2, hcz41_3, hcz41_4, hfz41_0, hfz41_1, hfz41_2, hfz41_3, hfz41_4⟩ := cells5 BK268.out
           have hnb42 := NB275_253.out
           have hnc42 := NB253_275.out
           obtain ⟨hcz43_0, hcz43_1, hcz43_2, hcz43_3, hcz43_4, hfz43_0, hfz43_1, hfz43_2, hfz43_3, hfz43_4⟩ := cells5 BK275.out
           go_wp2
           repeat (go_quiet (fail); try go_wp2)
           go_meet
           case rel => exact ⟨_, (true), zs, H', ⟨by have := HK1.out; first | omega | exact Nat.le_refl _⟩, ⟨by (with_reducible repeat (first | apply Kd.R_alloc | apply Kd.R_drewN | apply Kd.R_drew)); exact Kd.R_mono (Kd.R_far (p := ⟨gb275, 4, none⟩) (Kd.R_far (p := ⟨gb275, 3, none⟩) (Kd.R_far (p := ⟨gb275, 2, none⟩) (Kd.R_far (p := ⟨gb275, 1, none⟩) (Kd.R_far (p := ⟨gb275, 0, none⟩) (Kd.R_types HO_4.out BK275.out (by decide)) (fun _ hk => hk.2) (.int .i64 t269)) (fun _ hk => hk.2) (.int .i64 t270)) (fun _ hk => hk.2) (.int .i64 t271)) (fun _ hk => hk.2) (.int .i64 t272)) (fun _ hk => hk.2) (.int .i64 t273)) (fun _ hk => trivial)⟩, ⟨by refine pq ?_; refine blk_far ?_ NB253_275.out _; refine pq ?_; refine blk_far ?_ NB253_275.out _; refine pq ?_; refine blk_far ?_ NB253_275.out _; refine pq ?_; refine blk_far ?_ NB253_275.out _; refine pq ?_; refine blk_far ?_ NB253_275.out _; refine pq ?_; exact BK253.out⟩, ⟨by refine pq ?_; refine blk_far ?_ NB268_275.out _; refine pq ?_; refine blk_far ?_ NB268_275.out _; refine pq ?_; refine blk_far ?_ NB268_275.out _; refine pq ?_; refine blk_far ?_ NB268_275.out _; refine pq ?_; refine blk_far ?_ NB268_275.out _; refine pq ?_; exact BK268.out⟩, ⟨by refine pq ?_; refine blk_put (cs := #[.int .i64 t269, .int .i64 t270, .int .i64 t271, .int .i64 t272, .int .i64 0]) ?_ 4 _ rfl; refine pq ?_; refine blk_put (cs := #[.int .i64 t269, .int .i64 t270, .int .i64 t271, .int .i64 0, .int .i64 0]) ?_ 3 _ rfl; refine pq ?_; refine blk_put (cs := #[.int .i64 t269, .int .i64 t270, .int .i64 0, .int .i64 0, .int .i64 0]) ?_ 2 _ rfl; refine pq ?_; refine blk_put (cs := #[.int .i64 t269, .int .i64 0, .int .i64 0, .int .i64 0, .int .i64 0]) ?_ 1 _ rfl; refine pq ?_; refine blk_put (cs := #[.int .i64 0, .int .i64 0, .int .i64 0, .int .i64 0, .int .i64 0]) ?_ 0 _ rfl; refine pq ?_; exact BK275.out⟩, ⟨zb⟩⟩
          ·rw [if_neg c38] at H
           have c38b0 : (!(t262 == t269) || (!(t263 == t270) || (!(t264 == t271) || (!(t265 == t272) || (!(t266 == t273)))))) = false := by simpa using c38
           clear c38
           (first | rw [c38b0] | (simp only [i64_w, i32_w]; rw [c38b0]) | skip)
           by_cases c44 : t267 = t274
           ·rw [if_pos c44] at H
            have c44b0 : (t267 == t274) = true := beq_iff_eq.mpr c44
            have c44b1 : (t267 != t274) = false := bne_eq_false_iff_eq.mpr c44
            clear c44
            replace H := Option.bind_eq_some_iff.mp H
            obtain ⟨t276, A450, H⟩ := H
            replace H : (if t276.toList = ([] : List UInt8) then (laws_FnCounts.j1 k1 t254 x5_1 (wrap64 (x6_1 + (Int.tmod (rd t254 (ji15)) 4))) x7_1 t259 t261 t267 true x254000_1 x254001_1 x254002_1 x254003_1 x254004_1 t269 t270 t271 t272 t273) else ((spec_MatchOf.f k1 x254000_1 x254001_1 x254002_1 x254003_1 x254004_1 t259).bind fun t277 => (laws_FnCounts.j1 k1 t254 x5_1 (wrap64 (x6_1 + (Int.tmod (rd t254 (ji15)) 4))) x7_1 t259 t261 t267 (t261 != t277) x254000_1 x254001_1 x254002_1 x254003_1 x254004_1 t269 t270 t271 t272 t273))) = some r := H
            have A45 := aM A450
            clear A450
            by_cases c46 : t276.toList = ([] : List UInt8)
            ·rw [if_pos c46] at H
             have c46b0 : (t276.toList == ([] : List UInt8)) = true := beq_iff_eq.mpr c46
             have c46b1 : (t276.toList != ([] : List UInt8)) = false := bne_eq_false_iff_eq.mpr c46
             clear c46
             have H' := aM H
             clear H
             have hnb47 := NB268_253.out
             have hnc47 := NB253_268.out
             have hnb48 := NB268_275.out
             have hnc48 := NB275_268.out
             obtain ⟨hcz49_0, hcz49_1, hcz49_2, hcz49_3, hcz49_4, hfz49_0, hfz49_1, hfz49_2, hfz49_3, hfz49_4⟩ := cells5 BK268.out
             have hnb50 := NB275_253.out
             have hnc50 := NB253_275.out
             obtain ⟨hcz51_0, hcz51_1, hcz51_2, hcz51_3, hcz51_4, hfz51_0, hfz51_1, hfz51_2, hfz51_3, hfz51_4⟩ := cells5 BK275.out
             go_wp2_with (first | (go_at_call 24; (with_reducible refine (impl_TryName.calls t267 t276 _ A45.out).mono ?_); rintro e w52 ⟨rfl, hb⟩; have n0_ := aM (Kd.R_below (by (with_reducible repeat (first | apply Kd.R_alloc | apply Kd.R_drewN | apply Kd.R_drew)); exact (Kd.R_mono (Kd.R_far (p := ⟨gb275, 4, none⟩) (Kd.R_far (p := ⟨gb275, 3, none⟩) (Kd.R_far (p := ⟨gb275, 2, none⟩) (Kd.R_far (p := ⟨gb275, 1, none⟩) (Kd.R_far (p := ⟨gb275, 0, none⟩) (Kd.R_types HO_4.out BK275.out (by decide)) (fun _ hk => hk.2) (.int .i64 t269)) (fun _ hk => hk.2) (.int .i64 t270)) (fun _ hk => hk.2) (.int .i64 t271)) (fun _ hk => hk.2) (.int .i64 t272)) (fun _ hk => hk.2) (.int .i64 t273)) (fun _ h_ => h_.1))) hb); have n1_ := aM (blk_below (g := gb253) (o := .cells #[.int .i64 x254000_1, .int .i64 x254001_1, .int .i64 x254002_1, .int .i64 x254003_1, .int .i64 x254004_1] 25 (0, 0)) (by refine pq ?_; refine blk_far ?_ NB253_275.out _; refine pq ?_; refine blk_far ?_ NB253_275.out _; refine pq ?_; refine blk_far ?_ NB253_275.out _; refine pq ?_; refine blk_far ?_ NB253_275.out _; refine pq ?_; refine blk_far ?_ NB253_275.out _; refine pq ?_; exact BK253.out) hb); have n2_ := aM (blk_below (g := gb268) (o := .cells #[.int .i64 t262, .int .i64 t263, .int .i64 t264, .int .i64 t265, .int .i64 t266] 25 (0, 0)) (by refine pq ?_; refine blk_far ?_ NB268_275.out _; refine pq ?_; refine blk_far ?_ NB268_275.out _; refine pq ?_; refine blk_far ?_ NB268_275.out _; refine pq ?_; refine blk_far ?_ NB268_275.out _; refine pq ?_; refine blk_far ?_ NB268_275.out _; refine pq ?_; exact BK268.out) hb); have n3_ := aM (blk_below (g := gb275) (o := .cells #[.int .i64 t269, .int .i64 t270, .int .i64 t271, .int .i64 t272, .int .i64 t273] 25 (0, 0)) (by refine pq ?_; refine blk_put (cs := #[.int .i64 t269, .int .i64 t270, .int .i64 t271, .int .i64 t272, .int .i64 0]) ?_ 4 _ rfl; refine pq ?_; refine blk_put (cs := #[.int .i64 t269, .int .i64 t270, .int .i64 t271, .int .i64 0, .int .i64 0]) ?_ 3 _ rfl; refine pq ?_; refine blk_put (cs := #[.int .i64 t269, .int .i64 t270, .int .i64 0, .int .i64 0, .int .i64 0]) ?_ 2 _ rfl; refine pq ?_; refine blk_put (cs := #[.int .i64 t269, .int .i64 0, .int .i64 0, .int .i64 0, .int .i64 0]) ?_ 1 _ rfl; refine pq ?_; refine blk_put (cs := #[.int .i64 0, .int .i64 0, .int .i64 0, .int .i64 0, .int .i64 0]) ?_ 0 _ rfl; refine pq ?_; exact BK275.out) hb); have n4_ := aM (below_step (zb) hb); clear HO_4; clear BK253; clear BK268; clear BK275; clear HB; have HO_4 := n0_; have BK253 := n1_; have BK268 := n2_; have BK275 := n3_; have HB := n4_; clear n0_ n1_ n2_ n3_ n4_; (try clear hb); (try clear hb2); (try clear hk); (try clear hi)))
             repeat (go_quiet (first | (go_at_call 24; (with_reducible refine (impl_TryName.calls t267 t276 _ A45.out).mono ?_); rintro e w52 ⟨rfl, hb⟩; have n0_ := aM (Kd.R_below (by (with_reducible repeat (first | apply Kd.R_alloc | apply Kd.R_drewN | apply Kd.R_drew)); exact (Kd.R_mono (Kd.R_far (p := ⟨gb275, 4, none⟩) (Kd.R_far (p := ⟨gb275, 3, none⟩) (Kd.R_far (p := ⟨gb275, 2, none⟩) (Kd.R_far (p := ⟨gb275, 1, none⟩) (Kd.R_far (p := ⟨gb275, 0, none⟩) (Kd.R_types HO_4.out BK275.out (by decide)) (fun _ hk => hk.2) (.int .i64 t269)) (fun _ hk => hk.2) (.int .i64 t270)) (fun _ hk => hk.2) (.int .i64 t271)) (fun _ hk => hk.2) (.int .i64 t272)) (fun _ hk => hk.2) (.int .i64 t273)) (fun _ h_ => h_.1))) hb); have n1_ := aM (blk_below (g := gb253) (o := .cells #[.int .i64 x254000_1, .int .i64 x254001_1, .int .i64 x254002_1, .int .i64 x254003_1, .int .i64 x254004_1] 25 (0, 0)) (by refine pq ?_; refine blk_far ?_ NB253_275.out _; refine pq ?_; refine blk_far ?_ NB253_275.out _; refine pq ?_; refine blk_far ?_ NB253_275.out _; refine pq ?_; refine blk_far ?_ NB253_275.out _; refine pq ?_; refine blk_far ?_ NB253_275.out _; refine pq ?_; exact BK253.out) hb); have n2_ := aM (blk_below (g := gb268) (o := .cells #[.int .i64 t262, .int .i64 t263, .int .i64 t264, .int .i64 t265, .int .i64 t266] 25 (0, 0)) (by refine pq ?_; refine blk_far ?_ NB268_275.out _; refine pq ?_; refine blk_far ?_ NB268_275.out _; refine pq ?_; refine blk_far ?_ NB268_275.out _; refine pq ?_; refine blk_far ?_ NB268_275.out _; refine pq ?_; refine blk_far ?_ NB268_275.out _; refine pq ?_; exact BK268.out) hb); have n3_ := aM (blk_below (g := gb275) (o := .cells #[.int .i64 t269, .int .i64 t270, .int .i64 t271, .int .i64 t272, .int .i64 t273] 25 (0, 0)) (by refine pq ?_; refine blk_put (cs := #[.int .i64 t269, .int .i64 t270, .int .i64 t271, .int .i64 t272, .int .i64 0]) ?_ 4 _ rfl; refine pq ?_; refine blk_put (cs := #[.int .i64 t269, .int .i64 t270, .int .i64 t271, .int .i64 0, .int .i64 0]) ?_ 3 _ rfl; refine pq ?_; refine blk_put (cs := #[.int .i64 t269, .int .i64 t270, .int .i64 0, .int .i64 0, .int .i64 0]) ?_ 2 _ rfl; refine pq ?_; refine blk_put (cs := #[.int .i64 t269, .int .i64 0, .int .i64 0, .int .i64 0, .int .i64 0]) ?_ 1 _ rfl; refine pq ?_; refine blk_put (cs := #[.int .i64 0, .int .i64 0, .int .i64 0, .int .i64 0, .int .i64 0]) ?_ 0 _ rfl; refine pq ?_; exact BK275.out) hb); have n4_ := aM (below_step (zb) hb); clear HO_4; clear BK253; clear BK268; clear BK275; clear HB; have HO_4 := n0_; have BK253 := n1_; have BK268 := n2_; have BK275 := n3_; have HB := n4_; clear n0_ n1_ n2_ n3_ n4_; (try clear hb); (try clear hb2); (try clear hk); (try clear hi))); try go_wp2_with (first | (go_at_call 24; (with_reducible refine (impl_TryName.calls t267 t276 _ A45.out).mono ?_); rintro e w52 ⟨rfl, hb⟩; have n0_ := aM (Kd.R_below (by (with_reducible repeat (first | apply Kd.R_alloc | apply Kd.R_drewN | apply Kd.R_drew)); exact (Kd.R_mono (Kd.R_far (p := ⟨gb275, 4, none⟩) (Kd.R_far (p := ⟨gb275, 3, none⟩) (Kd.R_far (p := ⟨gb275, 2, none⟩) (Kd.R_far (p := ⟨gb275, 1, none⟩) (Kd.R_far (p := ⟨gb275, 0, none⟩) (Kd.R_types HO_4.out BK275.out (by decide)) (fun _ hk => hk.2) (.int .i64 t269)) (fun _ hk => hk.2) (.int .i64 t270)) (fun _ hk => hk.2) (.int .i64 t271)) (fun _ hk => hk.2) (.int .i64 t272)) (fun _ hk => hk.2) (.int .i64 t273)) (fun _ h_ => h_.1))) hb); have n1_ := aM (blk_below (g := gb253) (o := .cells #[.int .i64 x254000_1, .int .i64 x254001_1, .int .i64 x254002_1, .int .i64 x254003_1, .int .i64 x254004_1] 25 (0, 0)) (by refine pq ?_; refine blk_far ?_ NB253_275.out _; refine pq ?_; refine blk_far ?_ NB253_275.out _; refine pq ?_; refine blk_far ?_ NB253_275.out _; refine pq ?_; refine blk_far ?_ NB253_275.out _; refine pq ?_; refine blk_far ?_ NB253_275.out _; refine pq ?_; exact BK253.out) hb); have n2_ := aM (blk_below (g := gb268) (o := .cells #[.int .i64 t262, .int .i64 t263, .int .i64 t264, .int .i64 t265, .int .i64 t266] 25 (0, 0)) (by refine pq ?_; refine blk_far ?_ NB268_275.out _; refine pq ?_; refine blk_far ?_ NB268_275.out _; refine pq ?_; refine blk_far ?_ NB268_275.out _; refine pq ?_; refine blk_far ?_ NB268_275.out _; refine pq ?_; refine blk_far ?_ NB268_275.out _; refine pq ?_; exact BK268.out) hb); have n3_ := aM (blk_below (g := gb275) (o := .cells #[.int .i64 t269, .int .i64 t270, .int .i64 t271, .int .i64 t272, .int .i64 t273] 25 (0, 0)) (by refine pq ?_; refine blk_put (cs := #[.int .i64 t269, .int .i64 t270, .int .i64 t271, .int .i64 t272, .int .i64 0]) ?_ 4 _ rfl; refine pq ?_; refine blk_put (cs := #[.int .i64 t269, .int .i64 t270, .int .i64 t271, .int .i64 0, .int .i64 0]) ?_ 3 _ rfl; refine pq ?_; refine blk_put (cs := #[.int .i64 t269, .int .i64 t270, .int .i64 0, .int .i64 0, .int .i64 0]) ?_ 2 _ rfl; refine pq ?_; refine blk_put (cs := #[.int .i64 t269, .int .i64 0, .int .i64 0, .int .i64 0, .int .i64 0]) ?_ 1 _ rfl; refine pq ?_; refine blk_put (cs := #[.int .i64 0, .int .i64 0, .int .i64 0, .int .i64 0, .int .i64 0]) ?_ 0 _ rfl; refine pq ?_; exact BK275.out) hb); have n4_ := aM (below_step (zb) hb); clear HO_4; clear BK253; clear BK268; clear BK275; clear HB; have HO_4 := n0_; have BK253 := n1_; have BK268 := n2_; have BK275 := n3_; have HB := n4_; clear n0_ n1_ n2_ n3_ n4_; (try clear hb); (try clear hb2); (try clear hk); (try clear hi))))
             go_meet
             case rel => exact ⟨_, (true), zs, H', ⟨by have := HK1.out; first | omega | exact Nat.le_refl _⟩, ⟨by (with_reducible repeat (first | apply Kd.R_alloc | apply Kd.R_drewN | apply Kd.R_drew)); exact HO_4.out⟩, ⟨by exact pk BK253.out⟩, ⟨by exact pk BK268.out⟩, ⟨by exact pk BK275.out⟩, ⟨zb⟩⟩
            ·rw [if_neg c46] at H
             have c46b0 : (t276.toList == ([] : List UInt8)) = false := beq_eq_false_iff_ne.mpr c46
             have c46b1 : (t276.toList != ([] : List UInt8)) = true := bne_iff_ne.mpr c46
             replace H := Option.bind_eq_some_iff.mp H
             obtain ⟨t277, A530, H⟩ := H
             replace H : (laws_FnCounts.j1 k1 t254 x5_1 (wrap64 (x6_1 + (Int.tmod (rd t254 (ji15)) 4))) x7_1 t259 t261 t267 (t261 != t277) x254000_1 x254001_1 x254002_1 x254003_1 x254004_1 t269 t270 t271 t272 t273) = some r := H
             have A53 := aM A530
             clear A530
             have H' := aM H
             clear H
             have hnb54 := NB268_253.out
             have hnc54 := NB253_268.out
             have hnb55 := NB268_275.out
             have hnc55 := NB275_268.out
             obtain ⟨hcz56_0, hcz56_1, hcz56_2, hcz56_3, hcz56_4, hfz56_0, hfz56_1, hfz56_2, hfz56_3, hfz56_4⟩ := cells5 BK268.out
             have hnb57 := NB275_253.out
             have hnc57 := NB253_275.out
             obtain ⟨hcz58_0, hcz58_1, hcz58_2, hcz58_3, hcz58_4, hfz58_0, hfz58_1, hfz58_2, hfz58_3, hfz58_4⟩ := cells5 BK275.out
             go_wp2_with (first | (go_at_call 24; (with_reducible refine (impl_TryName.calls t267 t276 _ A45.out).mono ?_); rintro e w59 ⟨rfl, hb⟩; have n0_ := aM (Kd.R_below (by (with_reducible repeat (first | apply Kd.R_alloc | apply Kd.R_drewN | apply Kd.R_drew)); exact (Kd.R_mono (Kd.R_far (p := ⟨gb275, 4, none⟩) (Kd.R_far (p := ⟨gb275, 3, none⟩) (Kd.R_far (p := ⟨gb275, 2, none⟩) (Kd.R_far (p := ⟨gb275, 1, none⟩) (Kd.R_far (p := ⟨gb275, 0, none⟩) (Kd.R_types HO_4.out BK275.out (by decide)) (fun _ hk => hk.2) (.int .i64 t269)) (fun _ hk => hk.2) (.int .i64 t270)) (fun _ hk => hk.2) (.int .i64 t271)) (fun _ hk => hk.2) (.int .i64 t272)) (fun _ hk => hk.2) (.int .i64 t273)) (fun _ h_ => h_.1))) hb); have n1_ := aM (blk_below (g := gb253) (o := .cells #[.int .i64 x254000_1, .int .i64 x254001_1, .int .i64 x254002_1, .int .i64 x254003_1, .int .i64 x254004_1] 25 (0, 0)) (by refine pq ?_; refine blk_far ?_ NB253_275.out _; refine pq ?_; refine blk_far ?_ NB253_275.out _; refine pq ?_; refine blk_far ?_ NB253_275.out _; refine pq ?_; refine blk_far ?_ NB253_275.out _; refine pq ?_; refine blk_far ?_ NB253_275.out _; refine pq ?_; exact BK253.out) hb); have n2_ := aM (blk_below (g := gb268) (o := .cells #[.int .i64 t262, .int .i64 t263, .int .i64 t264, .int .i64 t265, .int .i64 t266] 25 (0, 0)) (by refine pq ?_; refine blk_far ?_ NB268_275.out _; refine pq ?_; refine blk_far ?_ NB268_275.out _; refine pq ?_; refine blk_far ?_ NB268_275.out _; refine pq ?_; refine blk_far ?_ NB268_275.out _; refine pq ?_; refine blk_far ?_ NB268_275.out _; refine pq ?_; exact BK268.out) hb); have n3_ := aM (blk_below (g := gb275) (o := .cells #[.int .i64 t269, .int .i64 t270, .int .i64 t271, .int .i64 t272, .int .i64 t273] 25 (0, 0)) (by refine pq ?_; refine blk_put (cs := #[.int .i64 t269, .int .i64 t270, .int .i64 t271, .int .i64 t272, .int .i64 0]) ?_ 4 _ rfl; refine pq ?_; refine blk_put (cs := #[.int .i64 t269, .int .i64 t270, .int .i64 t271, .int .i64 0, .int .i64 0]) ?_ 3 _ rfl; refine pq ?_; refine blk_put (cs := #[.int .i64 t269, .int .i64 t270, .int .i64 0, .int .i64 0, .int .i64 0]) ?_ 2 _ rfl; refine pq ?_; refine blk_put (cs := #[.int .i64 t269, .int .i64 0, .int .i64 0, .int .i64 0, .int .i64 0]) ?_ 1 _ rfl; refine pq ?_; refine blk_put (cs := #[.int .i64 0, .int .i64 0, .int .i64 0, .int .i64 0, .int .i64 0]) ?_ 0 _ rfl; refine pq ?_; exact BK275.out) hb); have n4_ := aM (below_step (zb) hb); clear HO_4; clear BK253; clear BK268; clear BK275; clear HB; have HO_4 := n0_; have BK253 := n1_; have BK268 := n2_; have BK275 := n3_; have HB := n4_; clear n0_ n1_ n2_ n3_ n4_; (try clear hb); (try clear hb2); (try clear hk); (try clear hi); obtain ⟨hcz60_0, hcz60_1, hcz60_2, hcz60_3, hcz60_4, hfz60_0, hfz60_1, hfz60_2, hfz60_3, hfz60_4⟩ := cells5 BK253.out) | (go_at_call 9; (with_reducible refine (spec_MatchOf.calls k1 x254000_1 x254001_1 x254002_1 x254003_1 x254004_1 t259 t277 _ A53.out).mono ?_); rintro e w61 ⟨rfl, hb⟩; have n0_ := aM (Kd.R_below (by (with_reducible repeat (first | apply Kd.R_alloc | apply Kd.R_drewN | apply Kd.R_drew)); exact HO_4.out) hb); have n1_ := aM (bb BK253.out hb); have n2_ := aM (bb BK268.out hb); have n3_ := aM (bb BK275.out hb); have n4_ := aM (below_step (zb) hb); clear HO_4; clear BK253; clear BK268; clear BK275; clear HB; have HO_4 := n0_; have BK253 := n1_; have BK268 := n2_; have BK275 := n3_; have HB := n4_; clear n0_ n1_ n2_ n3_ n4_; (try clear hb); (try clear hb2); (try clear hk); (try clear hi)))
             repeat (go_quiet (first | (go_at_call 24; (with_reducible refine (impl_TryName.calls t267 t276 _ A45.out).mono ?_); rintro e w59 ⟨rfl, hb⟩; have n0_ := aM (Kd.R_below (by (with_reducible repeat (first | apply Kd.R_alloc | apply Kd.R_drewN | apply Kd.R_drew)); exact (Kd.R_mono (Kd.R_far (p := ⟨gb275, 4, none⟩) (Kd.R_far (p := ⟨gb275, 3, none⟩) (Kd.R_far (p := ⟨gb275, 2, none⟩) (Kd.R_far (p := ⟨gb275, 1, none⟩) (Kd.R_far (p := ⟨gb275, 0, none⟩) (Kd.R_types HO_4.out BK275.out (by decide)) (fun _ hk => hk.2) (.int .i64 t269)) (fun _ hk => hk.2) (.int .i64 t270)) (fun _ hk => hk.2) (.int .i64 t271)) (fun _ hk => hk.2) (.int .i64 t272)) (fun _ hk => hk.2) (.int .i64 t273)) (fun _ h_ => h_.1))) hb); have n1_ := aM (blk_below (g := gb253) (o := .cells #[.int .i64 x254000_1, .int .i64 x254001_1, .int .i64 x254002_1, .int .i64 x254003_1, .int .i64 x254004_1] 25 (0, 0)) (by refine pq ?_; refine blk_far ?_ NB253_275.out _; refine pq ?_; refine blk_far ?_ NB253_275.out _; refine pq ?_; refine blk_far ?_ NB253_275.out _; refine pq ?_; refine blk_far ?_ NB253_275.out _; refine pq ?_; refine blk_far ?_ NB253_275.out _; refine pq ?_; exact BK253.out) hb); have n2_ := aM (blk_below (g := gb268) (o := .cells #[.int .i64 t262, .int .i64 t263, .int .i64 t264, .int .i64 t265, .int .i64 t266] 25 (0, 0)) (by refine pq ?_; refine blk_far ?_ NB268_275.out _; refine pq ?_; refine blk_far ?_ NB268_275.out _; refine pq ?_; refine blk_far ?_ NB268_275.out _; refine pq ?_; refine blk_far ?_ NB268_275.out _; refine pq ?_; refine blk_far ?_ NB268_275.out _; refine pq ?_; exact BK268.out) hb); have n3_ := aM (blk_below (g := gb275) (o := .cells #[.int .i64 t269, .int .i64 t270, .int .i64 t271, .int .i64 t272, .int .i64 t273] 25 (0, 0)) (by refine pq ?_; refine blk_put (cs := #[.int .i64 t269, .int .i64 t270, .int .i64 t271, .int .i64 t272, .int .i64 0]) ?_ 4 _ rfl; refine pq ?_; refine blk_put (cs := #[.int .i64 t269, .int .i64 t270, .int .i64 t271, .int .i64 0, .int .i64 0]) ?_ 3 _ rfl; refine pq ?_; refine blk_put (cs := #[.int .i64 t269, .int .i64 t270, .int .i64 0, .int .i64 0, .int .i64 0]) ?_ 2 _ rfl; refine pq ?_; refine blk_put (cs := #[.int .i64 t269, .int .i64 0, .int .i64 0, .int .i64 0, .int .i64 0]) ?_ 1 _ rfl; refine pq ?_; refine blk_put (cs := #[.int .i64 0, .int .i64 0, .int .i64 0, .int .i64 0, .int .i64 0]) ?_ 0 _ rfl; refine pq ?_; exact BK275.out) hb); have n4_ := aM (below_step (zb) hb); clear HO_4; clear BK253; clear BK268; clear BK275; clear HB; have HO_4 := n0_; have BK253 := n1_; have BK268 := n2_; have BK275 := n3_; have HB := n4_; clear n0_ n1_ n2_ n3_ n4_; (try clear hb); (try clear hb2); (try clear hk); (try clear hi); obtain ⟨hcz60_0, hcz60_1, hcz60_2, hcz60_3, hcz60_4, hfz60_0, hfz60_1, hfz60_2, hfz60_3, hfz60_4⟩ := cells5 BK253.out) | (go_at_call 9; (with_reducible refine (spec_MatchOf.calls k1 x254000_1 x254001_1 x254002_1 x254003_1 x254004_1 t259 t277 _ A53.out).mono ?_); rintro e w61 ⟨rfl, hb⟩; have n0_ := aM (Kd.R_below (by (with_reducible repeat (first | apply Kd.R_alloc | apply Kd.R_drewN | apply Kd.R_drew)); exact HO_4.out) hb); have n1_ := aM (bb BK253.out hb); have n2_ := aM (bb BK268.out hb); have n3_ := aM (bb BK275.out hb); have n4_ := aM (below_step (zb) hb); clear HO_4; clear BK253; clear BK268; clear BK275; clear HB; have HO_4 := n0_; have BK253 := n1_; have BK268 := n2_; have BK275 := n3_; have HB := n4_; clear n0_ n1_ n2_ n3_ n4_; (try clear hb); (try clear hb2); (try clear hk); (try clear hi))); try go_wp2_with (first | (go_at_call 24; (with_reducible refine (impl_TryName.calls t267 t276 _ A45.out).mono ?_); rintro e w59 ⟨rfl, hb⟩; have n0_ := aM (Kd.R_below (by (with_reducible repeat (first | apply Kd.R_alloc | apply Kd.R_drewN | apply Kd.R_drew)); exact (Kd.R_mono (Kd.R_far (p := ⟨gb275, 4, none⟩) (Kd.R_far (p := ⟨gb275, 3, none⟩) (Kd.R_far (p := ⟨gb275, 2, none⟩) (Kd.R_far (p := ⟨gb275, 1, none⟩) (Kd.R_far (p := ⟨gb275, 0, none⟩) (Kd.R_types HO_4.out BK275.out (by decide)) (fun _ hk => hk.2) (.int .i64 t269)) (fun _ hk => hk.2) (.int .i64 t270)) (fun _ hk => hk.2) (.int .i64 t271)) (fun _ hk => hk.2) (.int .i64 t272)) (fun _ hk => hk.2) (.int .i64 t273)) (fun _ h_ => h_.1))) hb); have n1_ := aM (blk_below (g := gb253) (o := .cells #[.int .i64 x254000_1, .int .i64 x254001_1, .int .i64 x254002_1, .int .i64 x254003_1, .int .i64 x254004_1] 25 (0, 0)) (by refine pq ?_; refine blk_far ?_ NB253_275.out _; refine pq ?_; refine blk_far ?_ NB253_275.out _; refine pq ?_; refine blk_far ?_ NB253_275.out _; refine pq ?_; refine blk_far ?_ NB253_275.out _; refine pq ?_; refine blk_far ?_ NB253_275.out _; refine pq ?_; exact BK253.out) hb); have n2_ := aM (blk_below (g := gb268) (o := .cells #[.int .i64 t262, .int .i64 t263, .int .i64 t264, .int .i64 t265, .int .i64 t266] 25 (0, 0)) (by refine pq ?_; refine blk_far ?_ NB268_275.out _; refine pq ?_; refine blk_far ?_ NB268_275.out _; refine pq ?_; refine blk_far ?_ NB268_275.out _; refine pq ?_; refine blk_far ?_ NB268_275.out _; refine pq ?_; refine blk_far ?_ NB268_275.out _; refine pq ?_; exact BK268.out) hb); have n3_ := aM (blk_below (g := gb275) (o := .cells #[.int .i64 t269, .int .i64 t270, .int .i64 t271, .int .i64 t272, .int .i64 t273] 25 (0, 0)) (by refine pq ?_; refine blk_put (cs := #[.int .i64 t269, .int .i64 t270, .int .i64 t271, .int .i64 t272, .int .i64 0]) ?_ 4 _ rfl; refine pq ?_; refine blk_put (cs := #[.int .i64 t269, .int .i64 t270, .int .i64 t271, .int .i64 0, .int .i64 0]) ?_ 3 _ rfl; refine pq ?_; refine blk_put (cs := #[.int .i64 t269, .int .i64 t270, .int .i64 0, .int .i64 0, .int .i64 0]) ?_ 2 _ rfl; refine pq ?_; refine blk_put (cs := #[.int .i64 t269, .int .i64 0, .int .i64 0, .int .i64 0, .int .i64 0]) ?_ 1 _ rfl; refine pq ?_; refine blk_put (cs := #[.int .i64 0, .int .i64 0, .int .i64 0, .int .i64 0, .int .i64 0]) ?_ 0 _ rfl; refine pq ?_; exact BK275.out) hb); have n4_ := aM (below_step (zb) hb); clear HO_4; clear BK253; clear BK268; clear BK275; clear HB; have HO_4 := n0_; have BK253 := n1_; have BK268 := n2_; have BK275 := n3_; have HB := n4_; clear n0_ n1_ n2_ n3_ n4_; (try clear hb); (try clear hb2); (try clear hk); (try clear hi); obtain ⟨hcz60_0, hcz60_1, hcz60_2, hcz60_3, hcz60_4, hfz60_0, hfz60_1, hfz60_2, hfz60_3, hfz60_4⟩ := cells5 BK253.out) | (go_at_call 9; (with_reducible refine (spec_MatchOf.calls k1 x254000_1 x254001_1 x254002_1 x254003_1 x254004_1 t259 t277 _ A53.out).mono ?_); rintro e w61 ⟨rfl, hb⟩; have n0_ := aM (Kd.R_below (by (with_reducible repeat (first | apply Kd.R_alloc | apply Kd.R_drewN | apply Kd.R_drew)); exact HO_4.out) hb); have n1_ := aM (bb BK253.out hb); have n2_ := aM (bb BK268.out hb); have n3_ := aM (bb BK275.out hb); have n4_ := aM (below_step (zb) hb); clear HO_4; clear BK253; clear BK268; clear BK275; clear HB; have HO_4 := n0_; have BK253 := n1_; have BK268 := n2_; have BK275 := n3_; have HB := n4_; clear n0_ n1_ n2_ n3_ n4_; (try clear hb); (try clear hb2); (try clear hk); (try clear hi))))
             go_meet
             case rel => exact ⟨_, ((t261 != t277)), zs, H', ⟨by have := HK1.out; first | omega | exact Nat.le_refl _⟩, ⟨by (with_reducible repeat (first | apply Kd.R_alloc | apply Kd.R_drewN | apply Kd.R_drew)); exact HO_4.out⟩, ⟨by exact pk BK253.out⟩, ⟨by exact pk BK268.out⟩, ⟨by exact pk BK275.out⟩, ⟨zb⟩⟩
           ·rw [if_neg c44] at H
            have c44b0 : (t267 == t274) = false := beq_eq_false_iff_ne.mpr c44
            have c44b1 : (t267 != t274) = true := bne_iff_ne.mpr c44
            have H' := aM H
            clear H
            have hnb62 := NB268_253.out
            have hnc62 := NB253_268.out
            have hnb63 := NB268_275.out
            have hnc63 := NB275_268.out
            obtain ⟨hcz64_0, hcz64_1, hcz64_2, hcz64_3, hcz64_4, hfz64_0, hfz64_1, hfz64_2, hfz64_3, hfz64_4⟩ := cells5 BK268.out
            have hnb65 := NB275_253.out
            have hnc65 := NB253_275.out
            obtain ⟨hcz66_0, hcz66_1, hcz66_2, hcz66_3, hcz66_4, hfz66_0, hfz66_1, hfz66_2, hfz66_3, hfz66_4⟩ := cells5 BK275.out
            go_wp2
            repeat (go_quiet (fail); try go_wp2)
            go_meet
            case rel => exact ⟨_, (true), zs, H', ⟨by have := HK1.out; first | omega | exact Nat.le_refl _⟩, ⟨by (with_reducible repeat (first | apply Kd.R_alloc | apply Kd.R_drewN | apply Kd.R_drew)); exact Kd.R_mono (Kd.R_far (p := ⟨gb275, 4, none⟩) (Kd.R_far (p := ⟨gb275, 3, none⟩) (Kd.R_far (p := ⟨gb275, 2, none⟩) (Kd.R_far (p := ⟨gb275, 1, none⟩) (Kd.R_far (p := ⟨gb275, 0, none⟩) (Kd.R_types HO_4.out BK275.out (by decide)) (fun _ hk => hk.2) (.int .i64 t269)) (fun _ hk => hk.2) (.int .i64 t270)) (fun _ hk => hk.2) (.int .i64 t271)) (fun _ hk => hk.2) (.int .i64 t272)) (fun _ hk => hk.2) (.int .i64 t273)) (fun _ hk => trivial)⟩, ⟨by refine pq ?_; refine blk_far ?_ NB253_275.out _; refine pq ?_; refine blk_far ?_ NB253_275.out _; refine pq ?_; refine blk_far ?_ NB253_275.out _; refine pq ?_; refine blk_far ?_ NB253_275.out _; refine pq ?_; refine blk_far ?_ NB253_275.out _; refine pq ?_; exact BK253.out⟩, ⟨by refine pq ?_; refine blk_far ?_ NB268_275.out _; refine pq ?_; refine blk_far ?_ NB268_275.out _; refine pq ?_; refine blk_far ?_ NB268_275.out _; refine pq ?_; refine blk_far ?_ NB268_275.out _; refine pq ?_; refine blk_far ?_ NB268_275.out _; refine pq ?_; exact BK268.out⟩, ⟨by refine pq ?_; refine blk_put (cs := #[.int .i64 t269, .int .i64 t270, .int .i64 t271, .int .i64 t272, .int .i64 0]) ?_ 4 _ rfl; refine pq ?_; refine blk_put (cs := #[.int .i64 t269, .int .i64 t270, .int .i64 t271, .int .i64 0, .int .i64 0]) ?_ 3 _ rfl; refine pq ?_; refine blk_put (cs := #[.int .i64 t269, .int .i64 t270, .int .i64 0, .int .i64 0, .int .i64 0]) ?_ 2 _ rfl; refine pq ?_; refine blk_put (cs := #[.int .i64 t269, .int .i64 0, .int .i64 0, .int .i64 0, .int .i64 0]) ?_ 1 _ rfl; refine pq ?_; refine blk_put (cs := #[.int .i64 0, .int .i64 0, .int .i64 0, .int .i64 0, .int .i64 0]) ?_ 0 _ rfl; refine pq ?_; exact BK275.out⟩, ⟨zb⟩⟩
         case rest =>
          clear HC21
          try clear c1
          try clear p2
          try clear q2
          try clear hx2
          try clear c3
          try clear c4
          try clear c5
          try clear c6
          try clear p6
          try clear c8
          try clear c11
          try clear c11b0
          try clear c12
          try clear c12b0
          try clear c13
          try clear c13b0
          try clear c16
          try clear c16b0
          try clear c17
          try clear c17b0
          try clear p25
          try clear q25
          try clear hx25
          try clear p26
          try clear q26
          try clear hx26
          try clear c30
          try clear c35
          try clear c36
          try clear c38
          try clear c38b0
          try clear c39
          try clear c40
          try clear c42
          try clear c44
          try clear c44b0
          try clear c44b1
          try clear c46
          try clear c46b0
          try clear c46b1
          try clear c47
          try clear c48
          try clear c50
          try clear c54
          try clear c55
          try clear c57
          try clear c62
          try clear c63
          try clear p64
          try clear c65
          try clear hcz10_0 hcz10_1 hcz10_2 hcz10_3 hcz10_4 hfz10_0 hfz10_1 hfz10_2 hfz10_3 hfz10_4
          try clear hcz22_0 hcz22_1 hcz22_2 hcz22_3 hcz22_4 hfz22_0 hfz22_1 hfz22_2 hfz22_3 hfz22_4
          try clear hcz25_0 hcz25_1 hcz25_2 hcz25_3 hcz25_4 hfz25_0 hfz25_1 hfz25_2 hfz25_3 hfz25_4
          try clear hcz27_0 hcz27_1 hcz27_2 hcz27_3 hcz27_4 hfz27_0 hfz27_1 hfz27_2 hfz27_3 hfz27_4
          try clear hcz31_0 hcz31_1 hcz31_2 hcz31_3 hcz31_4 hfz31_0 hfz31_1 hfz31_2 hfz31_3 hfz31_4
          try clear hcz32_0 hcz32_1 hcz32_2 hcz32_3 hcz32_4 hfz32_0 hfz32_1 hfz32_2 hfz32_3 hfz32_4
          try clear hcz37_0 hcz37_1 hcz37_2 hcz37_3 hcz37_4 hfz37_0 hfz37_1 hfz37_2 hfz37_3 hfz37_4
          try clear hcz41_0 hcz41_1 hcz41_2 hcz41_3 hcz41_4 hfz41_0 hfz41_1 hfz41_2 hfz41_3 hfz41_4
          try clear hcz43_0 hcz43_1 hcz43_2 hcz43_3 hcz43_4 hfz43_0 hfz43_1 hfz43_2 hfz43_3 hfz43_4
          try clear hcz49_0 hcz49_1 hcz49_2 hcz49_3 hcz49_4 hfz49_0 hfz49_1 hfz49_2 hfz49_3 hfz49_4
          try clear hcz51_0 hcz51_1 hcz51_2 hcz51_3 hcz51_4 hfz51_0 hfz51_1 hfz51_2 hfz51_3 hfz51_4
          try clear hcz56_0 hcz56_1 hcz56_2 hcz56_3 hcz56_4 hfz56_0 hfz56_1 hfz56_2 hfz56_3 hfz56_4
          try clear hcz58_0 hcz58_1 hcz58_2 hcz58_3 hcz58_4 hfz58_0 hfz58_1 hfz58_2 hfz58_3 hfz58_4
          try clear hcz60_0 hcz60_1 hcz60_2 hcz60_3 hcz60_4 hfz60_0 hfz60_1 hfz60_2 hfz60_3 hfz60_4
          try clear hcz64_0 hcz64_1 hcz64_2 hcz64_3 hcz64_4 hfz64_0 hfz64_1 hfz64_2 hfz64_3 hfz64_4
          try clear hcz66_0 hcz66_1 hcz66_2 hcz66_3 hcz66_4 hfz66_0 hfz66_1 hfz66_2 hfz66_3 hfz66_4
          try clear hcz8_0 hcz8_1 hcz8_2 hcz8_3 hcz8_4 hfz8_0 hfz8_1 hfz8_2 hfz8_3 hfz8_4
          try clear hx258_0
          try clear hx260_0
          try clear p2
          try clear p258
          try clear p260
          try clear q258
          try clear q260
          obtain ⟨kq, x84_20, rfl, HA, HJ20, HO_4, BK253, BK268, BK275, HB⟩ := hcut
          cases kq with
          | zero => exact absurd HA.out (by simp [laws_FnCounts.j1])
          | succ kj20 =>
           have H := HA.out
           clear HA
           simp only [laws_FnCounts.j1] at H
           by_cases c67 : x84_20 = true
           ·subst c67
            have H1 : (none) = some r := by rw [if_pos rfl] at H; exact H
            clear H
            have H := H1
            clear H1
            exact absurd H (by simp)
           ·replace c67 := Bool.eq_false_iff.mpr c67
            subst c67
            have H1 : (if t267 = 0 then (if t261 ≤ x5_1 then (laws_FnCounts.j2 kj20 t254 (wrap64 (x6_1 + (Int.tmod (rd t254 (ji15)) 4))) x7_1 t261 t267 true x254000_1 x254001_1 x254002_1 x254003_1 x254004_1 t269 t270 t271 t272 t273) else (if t261 < x254001_1 then (laws_FnCounts.j2 kj20 t254 (wrap64 (x6_1 + (Int.tmod (rd t254 (ji15)) 4))) x7_1 t261 t267 true x254000_1 x254001_1 x254002_1 x254003_1 x254004_1 t269 t270 t271 t272 t273) else (if t270 = (wrap64 (t261 + 1)) then ((impl_CodeOf.f kj20 x254000_1 t261).bind fun t278 => (laws_FnCounts.j2 kj20 t254 (wrap64 (x6_1 + (Int.tmod (rd t254 (ji15)) 4))) x7_1 t261 t267 (t278.toList != t259.toList) x254000_1 x254001_1 x254002_1 x254003_1 x254004_1 t269 t270 t271 t272 t273)) else (laws_FnCounts.j2 kj20 t254 (wrap64 (x6_1 + (Int.tmod (rd t254 (ji15)) 4))) x7_1 t261 t267 true x254000_1 x254001_1 x254002_1 x254003_1 x254004_1 t269 t270 t271 t272 t273)))) else (laws_FnCounts.j3 kj20 t254 x5_1 (wrap64 (x6_1 + (Int.tmod (rd t254 (ji15)) 4))) x7_1 t267 x254000_1 x254001_1 x254002_1 x254003_1 x254004_1 t269 t270 t271 t272 t273)) = some r := by rw [if_neg (show ¬ (false = true) by decide)] at H; exact H
            clear H
            have H := H1
            clear H1
            have HC68 := aM H
            clear H
            go_upto_if 86 with (fail)
            repeat (go_quiet (fail); go_upto_if 86 with (fail))
            go_cut [5] (fun v5 wc => ∃ (kq : Nat) (x5_67 : Int), v5 = .int .i64 x5_67 ∧ Aside0 (laws_FnCounts.j3 kq t254 x5_67 (wrap64 (x6_1 + (Int.tmod (rd t254 (ji15)) 4))) x7_1 t267 x254000_1 x254001_1 x254002_1 x254003_1 x254004_1 t269 t270 t271 t272 t273 = some r) ∧ Aside0 (kq ≤ kj20) ∧ Aside0 (Kd.R (Kd.int .i64) 3 wc w.heap.size (fun _ => True) (.slice (some ad258) t254.length co23) t254) ∧ Aside0 (wc.heap[gb253]? = some (.cells #[.int .i64 x254000_1, .int .i64 x254001_1, .int .i64 x254002_1, .int .i64 x254003_1, .int .i64 x254004_1] 25 (0, 0))) ∧ Aside0 (wc.heap[gb268]? = some (.cells #[.int .i64 t262, .int .i64 t263, .int .i64 t264, .int .i64 t265, .int .i64 t266] 25 (0, 0))) ∧ Aside0 (wc.heap[gb275]? = some (.cells #[.int .i64 t269, .int .i64 t270, .int .i64 t271, .int .i64 t272, .int .i64 t273] 25 (0, 0))) ∧ Aside0 (Below w.heap.size w wc))
            case first =>
             have H := HC68.out
             clear HC68
             by_cases c69 : t267 = 0
             ·rw [if_pos c69] at H
              have c69b0 : (t267 == 0) = true := beq_iff_eq.mpr c69
              have c69b1 : (t267 != 0) = false := bne_eq_false_iff_eq.mpr c69
              clear c69
              (first | rw [c69b0] | (simp only [i64_w, i32_w]; rw [c69b0]) | skip)
              have HC70 := aM H
              clear H
              go_upto_region 19 with (fail)
              repeat (go_quiet (fail); go_upto_region 19 with (fail))
              go_cut [110] (fun v110 wc => ∃ (kq : Nat) (x110_69 : Bool), v110 = .bool x110_69 ∧ Aside0 (laws_FnCounts.j2 kq t254 (wrap64 (x6_1 + (Int.tmod (rd t254 (ji15)) 4))) x7_1 t261 t267 x110_69 x254000_1 x254001_1 x254002_1 x254003_1 x254004_1 t269 t270 t271 t272 t273 = some r) ∧ Aside0 (kq ≤ kj20) ∧ Aside0 (Kd.R (Kd.int .i64) 3 wc w.heap.size (fun _ => True) (.slice (some ad258) t254.length co23) t254) ∧ Aside0 (wc.heap[gb253]? = some (.cells #[.int .i64 x254000_1, .int .i64 x254001_1, .int .i64 x254002_1, .int .i64 x254003_1, .int .i64 x254004_1] 25 (0, 0))) ∧ Aside0 (wc.heap[gb268]? = some (.cells #[.int .i64 t262, .int .i64 t263, .int .i64 t264, .int .i64 t265, .int .i64 t266] 25 (0, 0))) ∧ Aside0 (wc.heap[gb275]? = some (.cells #[.int .i64 t269, .int .i64 t270, .int .i64 t271, .int .i64 t272, .int .i64 t273] 25 (0, 0))) ∧ Aside0 (Below w.heap.size w wc))
              case first =>
               have H := HC70.out
               clear HC70
               by_cases c71 : t261 ≤ x5_1
               ·rw [if_pos c71] at H
                have c71b0 : decide (t261 ≤ x5_1) = true := decide_eq_true c71
                clear c71
                (first | rw [c71b0] | (simp only [i64_w, i32_w]; rw [c71b0]) | skip)
                have H' := aM H
                clear H
                go_wp2
                repeat (go_quiet (fail); try go_wp2)
                go_meet
                case rel => exact ⟨_, (true), zs, H', ⟨by have := HK1.out; have := HJ20.out; first | omega | exact Nat.le_refl _⟩, ⟨by (with_reducible repeat (first | apply Kd.R_alloc | apply Kd.R_drewN | apply Kd.R_drew)); exact HO_4.out⟩, ⟨by exact pk BK253.out⟩, ⟨by exact pk BK268.out⟩, ⟨by exact pk BK275.out⟩, ⟨zb⟩⟩
               ·rw [if_neg c71] at H
                have c71b0 : decide (t261 ≤ x5_1) = false := decide_eq_false c71
                clear c71
                (first | rw [c71b0] | (simp only [i64_w, i32_w]; rw [c71b0]) | skip)
                by_cases c72 : t261 < x254001_1
                ·rw [if_pos c72] at H
                 have c72b0 : decide (t261 < x254001_1) = true := decide_eq_true c72
                 clear c72
                 have H' := aM H
                 clear H
                 have hnb73 := NB253_268.out
                 have hnc73 := NB268_253.out
                 have hnb74 := NB253_275.out
                 have hnc74 := NB275_253.out
                 obtain ⟨hcz75_0, hcz75_1, hcz75_2, hcz75_3, hcz75_4, hfz75_0, hfz75_1, hfz75_2, hfz75_3, hfz75_4⟩ := cells5 BK253.out
                 go_wp2
                 repeat (go_quiet (fail); try go_wp2)
                 go_meet
                 case rel => exact ⟨_, (true), zs, H', ⟨by have := HK1.out; have := HJ20.out; first | omega | exact Nat.le_refl _⟩, ⟨by (with_reducible repeat (first | apply Kd.R_alloc | apply Kd.R_drewN | apply Kd.R_drew)); exact HO_4.out⟩, ⟨by exact pk BK253.out⟩, ⟨by exact pk BK268.out⟩, ⟨by exact pk BK275.out⟩, ⟨zb⟩⟩
                ·rw [if_neg c72] at H
                 have c72b0 : decide (t261 < x254001_1) = false := decide_eq_false c72
                 clear c72
                 by_cases c76 : t270 = (wrap64 (t261 + 1))
                 ·rw [if_pos c76] at H
                  have c76b0 : (t270 == (wrap64 (t261 + 1))) = true := beq_iff_eq.mpr c76
                  have c76b1 : (t270 != (wrap64 (t261 + 1))) = false := bne_eq_false_iff_eq.mpr c76
                  clear c76
                  replace H := Option.bind_eq_some_iff.mp H
                  obtain ⟨t278, A770, H⟩ := H
                  replace H : (laws_FnCounts.j2 kj20 t254 (wrap64 (x6_1 + (Int.tmod (rd t254 (ji15)) 4))) x7_1 t261 t267 (t278.toList != t259.toList) x254000_1 x254001_1 x254002_1 x254003_1 x254004_1 t269 t270 t271 t272 t273) = some r := H
                  have A77 := aM A770
                  clear A770
                  have H' := aM H
                  clear H
                  have hnb78 := NB253_268.out
                  have hnc78 := NB268_253.out
                  have hnb79 := NB253_275.out
                  have hnc79 := NB275_253.out
                  obtain ⟨hcz80_0, hcz80_1, hcz80_2, hcz80_3, hcz80_4, hfz80_0, hfz80_1, hfz80_2, hfz80_3, hfz80_4⟩ := cells5 BK253.out
                  have hnb81 := NB275_268.out
                  have hnc81 := NB268_275.out
                  obtain ⟨hcz82_0, hcz82_1, hcz82_2, hcz82_3, hcz82_4, hfz82_0, hfz82_1, hfz82_2, hfz82_3, hfz82_4⟩ := cells5 BK275.out
                  go_wp2_with (first | (go_at_call 25; (with_reducible refine (impl_CodeOf.calls kj20 x254000_1 t261 t278 _ A77.out).mono ?_); rintro e w83 ⟨rfl, hb⟩; have n0_ := aM (Kd.R_below (by (with_reducible repeat (first | apply Kd.R_alloc | apply Kd.R_drewN | apply Kd.R_drew)); exact HO_4.out) hb); have n1_ := aM (bb BK253.out hb); have n2_ := aM (bb BK268.out hb); have n3_ := aM (bb BK275.out hb); have n4_ := aM (below_step (zb) hb); clear HO_4; clear BK253; clear BK268; clear BK275; clear HB; have HO_4 := n0_; have BK253 := n1_; have BK268 := n2_; have BK275 := n3_; have HB := n4_; clear n0_ n1_ n2_ n3_ n4_; (try clear hb); (try clear hb2); (try clear hk); (try clear hi)))
                  repeat (go_quiet (first | (go_at_call 25; (with_reducible refine (impl_CodeOf.calls kj20 x254000_1 t261 t278 _ A77.out).mono ?_); rintro e w83 ⟨rfl, hb⟩; have n0_ := aM (Kd.R_below (by (with_reducible repeat (first | apply Kd.R_alloc | apply Kd.R_drewN | apply Kd.R_drew)); exact HO_4.out) hb); have n1_ := aM (bb BK253.out hb); have n2_ := aM (bb BK268.out hb); have n3_ := aM (bb BK275.out hb); have n4_ := aM (below_step (zb) hb); clear HO_4; clear BK253; clear BK268; clear BK275; clear HB; have HO_4 := n0_; have BK253 := n1_; have BK268 := n2_; have BK275 := n3_; have HB := n4_; clear n0_ n1_ n2_ n3_ n4_; (try clear hb); (try clear hb2); (try clear hk); (try clear hi))); try go_wp2_with (first | (go_at_call 25; (with_reducible refine (impl_CodeOf.calls kj20 x254000_1 t261 t278 _ A77.out).mono ?_); rintro e w83 ⟨rfl, hb⟩; have n0_ := aM (Kd.R_below (by (with_reducible repeat (first | apply Kd.R_alloc | apply Kd.R_drewN | apply Kd.R_drew)); exact HO_4.out) hb); have n1_ := aM (bb BK253.out hb); have n2_ := aM (bb BK268.out hb); have n3_ := aM (bb BK275.out hb); have n4_ := aM (below_step (zb) hb); clear HO_4; clear BK253; clear BK268; clear BK275; clear HB; have HO_4 := n0_; have BK253 := n1_; have BK268 := n2_; have BK275 := n3_; have HB := n4_; clear n0_ n1_ n2_ n3_ n4_; (try clear hb); (try clear hb2); (try clear hk); (try clear hi))))
                  go_meet
                  case rel => exact ⟨_, ((t278.toList != t259.toList)), zs, H', ⟨by have := HK1.out; have := HJ20.out; first | omega | exact Nat.le_refl _⟩, ⟨by (with_reducible repeat (first | apply Kd.R_alloc | apply Kd.R_drewN | apply Kd.R_drew)); exact HO_4.out⟩, ⟨by exact pk BK253.out⟩, ⟨by exact pk BK268.out⟩, ⟨by exact pk BK275.out⟩, ⟨zb⟩⟩
                 ·rw [if_neg c76] at H
                  have c76b0 : (t270 == (wrap64 (t261 + 1))) = false := beq_eq_false_iff_ne.mpr c76
                  have c76b1 : (t270 != (wrap64 (t261 + 1))) = true := bne_iff_ne.mpr c76
                  have H' := aM H
                  clear H
                  have hnb84 := NB253_268.out
                  have hnc84 := NB268_253.out
                  have hnb85 := NB253_275.out
                  have hnc85 := NB275_253.out
                  obtain ⟨hcz86_0, hcz86_1, hcz86_2, hcz86_3, hcz86_4, hfz86_0, hfz86_1, hfz86_2, hfz86_3, hfz86_4⟩ := cells5 BK253.out
                  have hnb87 := NB275_268.out
                  have hnc87 := NB268_275.out
                  obtain ⟨hcz88_0, hcz88_1, hcz88_2, hcz88_3, hcz88_4, hfz88_0, hfz88_1, hfz88_2, hfz88_3, hfz88_4⟩ := cells5 BK275.out
                  go_wp2
                  repeat (go_quiet (fail); try go_wp2)
                  go_meet
                  case rel => exact ⟨_, (true), zs, H', ⟨by have := HK1.out; have := HJ20.out; first | omega | exact Nat.le_refl _⟩, ⟨by (with_reducible repeat (first | apply Kd.R_alloc | apply Kd.R_drewN | apply Kd.R_drew)); exact HO_4.out⟩, ⟨by exact pk BK253.out⟩, ⟨by exact pk BK268.out⟩, ⟨by exact pk BK275.out⟩, ⟨zb⟩⟩
              case rest =>
               clear HC70
               try clear c1
               try clear p2
               try clear q2
               try clear hx2
               try clear c3
               try clear c4
               try clear c5
               try clear c6
               try clear p6
               try clear c7
               try clear c8
               try clear c11
               try clear c11b0
               try clear c12
               try clear c12b0
               try clear c13
               try clear c13b0
               try clear c16
               try clear c16b0
               try clear c17
               try clear c17b0
               try clear p25
               try clear q25
               try clear hx25
               try clear p26
               try clear q26
               try clear hx26
               try clear c30
               try clear c35
               try clear c36
               try clear c38
               try clear c38b0
               try clear c39
               try clear c40
               try clear c42
               try clear c44
               try clear c44b0
               try clear c44b1
               try clear c46
               try clear c46b0
               try clear c46b1
               try clear c47
               try clear c48
               try clear c50
               try clear c54
               try clear c55
               try clear c57
               try clear c62
               try clear c63
               try clear p64
               try clear c65
               try clear c67
               try clear c69
               try clear c69b0
               try clear c69b1
               try clear c71
               try clear c71b0
               try clear c72
               try clear c72b0
               try clear c73
               try clear c74
               try clear c76
               try clear c76b0
               try clear c76b1
               try clear c78
               try clear c79
               try clear c81
               try clear c84
               try clear c85
               try clear c87
               try clear hcz10_0 hcz10_1 hcz10_2 hcz10_3 hcz10_4 hfz10_0 hfz10_1 hfz10_2 hfz10_3 hfz10_4
               try clear hcz22_0 hcz22_1 hcz22_2 hcz22_3 hcz22_4 hfz22_0 hfz22_1 hfz22_2 hfz22_3 hfz22_4
               try clear hcz25_0 hcz25_1 hcz25_2 hcz25_3 hcz25_4 hfz25_0 hfz25_1 hfz25_2 hfz25_3 hfz25_4
               try clear hcz27_0 hcz27_1 hcz27_2 hcz27_3 hcz27_4 hfz27_0 hfz27_1 hfz27_2 hfz27_3 hfz27_4
               try clear hcz31_0 hcz31_1 hcz31_2 hcz31_3 hcz31_4 hfz31_0 hfz31_1 hfz31_2 hfz31_3 hfz31_4
               try clear hcz32_0 hcz32_1 hcz32_2 hcz32_3 hcz32_4 hfz32_0 hfz32_1 hfz32_2 hfz32_3 hfz32_4
               try clear hcz37_0 hcz37_1 hcz37_2 hcz37_3 hcz37_4 hfz37_0 hfz37_1 hfz37_2 hfz37_3 hfz37_4
               try clear hcz41_0 hcz41_1 hcz41_2 hcz41_3 hcz41_4 hfz41_0 hfz41_1 hfz41_2 hfz41_3 hfz41_4
               try clear hcz43_0 hcz43_1 hcz43_2 hcz43_3 hcz43_4 hfz43_0 hfz43_1 hfz43_2 hfz43_3 hfz43_4
               try clear hcz49_0 hcz49_1 hcz49_2 hcz49_3 hcz49_4 hfz49_0 hfz49_1 hfz49_2 hfz49_3 hfz49_4
               try clear hcz51_0 hcz51_1 hcz51_2 hcz51_3 hcz51_4 hfz51_0 hfz51_1 hfz51_2 hfz51_3 hfz51_4
               try clear hcz56_0 hcz56_1 hcz56_2 hcz56_3 hcz56_4 hfz56_0 hfz56_1 hfz56_2 hfz56_3 hfz56_4
               try clear hcz58_0 hcz58_1 hcz58_2 hcz58_3 hcz58_4 hfz58_0 hfz58_1 hfz58_2 hfz58_3 hfz58_4
               try clear hcz60_0 hcz60_1 hcz60_2 hcz60_3 hcz60_4 hfz60_0 hfz60_1 hfz60_2 hfz60_3 hfz60_4
               try clear hcz64_0 hcz64_1 hcz64_2 hcz64_3 hcz64_4 hfz64_0 hfz64_1 hfz64_2 hfz64_3 hfz64_4
               try clear hcz66_0 hcz66_1 hcz66_2 hcz66_3 hcz66_4 hfz66_0 hfz66_1 hfz66_2 hfz66_3 hfz66_4
               try clear hcz75_0 hcz75_1 hcz75_2 hcz75_3 hcz75_4 hfz75_0 hfz75_1 hfz75_2 hfz75_3 hfz75_4
               try clear hcz80_0 hcz80_1 hcz80_2 hcz80_3 hcz80_4 hfz80_0 hfz80_1 hfz80_2 hfz80_3 hfz80_4
               try clear hcz82_0 hcz82_1 hcz82_2 hcz82_3 hcz82_4 hfz82_0 hfz82_1 hfz82_2 hfz82_3 hfz82_4
               try clear hcz86_0 hcz86_1 hcz86_2 hcz86_3 hcz86_4 hfz86_0 hfz86_1 hfz86_2 hfz86_3 hfz86_4
               try clear hcz88_0 hcz88_1 hcz88_2 hcz88_3 hcz88_4 hfz88_0 hfz88_1 hfz88_2 hfz88_3 hfz88_4
               try clear hcz8_0 hcz8_1 hcz8_2 hcz8_3 hcz8_4 hfz8_0 hfz8_1 hfz8_2 hfz8_3 hfz8_4
               try clear hx258_0
               try clear hx260_0
               try clear p2
               try clear p25
               try clear p258
               try clear p26
               try clear p260
               try clear p6
               try clear p64
               try clear q2
               try clear q25
               try clear q258
               try clear q26
               try clear q260
               obtain ⟨kq, x110_69, rfl, HA, HJ69, HO_4, BK253, BK268, BK275, HB⟩ := hcut
               cases kq with
               | zero => exact absurd HA.out (by simp [laws_FnCounts.j2])
               | succ kj69 =>
                have H := HA.out
                clear HA
                simp only [laws_FnCounts.j2] at H
                by_cases c89 : x110_69 = true
                ·subst c89
                 have H1 : (none) = some r := by rw [if_pos rfl] at H; exact H
                 clear H
                 have H := H1
                 clear H1
                 exact absurd H (by simp)
                ·replace c89 := Bool.eq_false_iff.mpr c89
                 subst c89
                 have H1 : (laws_FnCounts.j3 kj69 t254 t261 (wrap64 (x6_1 + (Int.tmod (rd t254 (ji15)) 4))) x7_1 t267 x254000_1 x254001_1 x254002_1 x254003_1 x254004_1 t269 t270 t271 t272 t273) = some r := by rw [if_neg (show ¬ (false = true) by decide)] at H; exact H
                 clear H
                 have H := H1
                 clear H1
                 have H' := aM H
                 clear H
                 go_wp2
                 repeat (go_quiet (fail); try go_wp2)
                 go_meet
                 case rel => exact ⟨_, (t261), zs, H', ⟨by have := HK1.out; have := HJ20.out; have := HJ69.out; first | omega | exact Nat.le_refl _⟩, ⟨by (with_reducible repeat (first | apply Kd.R_alloc | apply Kd.R_drewN | apply Kd.R_drew)); exact HO_4.out⟩, ⟨by exact pk BK253.out⟩, ⟨by exact pk BK268.out⟩, ⟨by exact pk BK275.out⟩, ⟨zb⟩⟩
             ·rw [if_neg c69] at H
              have c69b0 : (t267 == 0) = false := beq_eq_false_iff_ne.mpr c69
              have c69b1 : (t267 != 0) = true := bne_iff_ne.mpr c69
              (first | rw [c69b0] | (simp only [i64_w, i32_w]; rw [c69b0]) | skip)
              have H' := aM H
              clear H
              go_wp2
              repeat (go_quiet (fail); try go_wp2)
              go_meet
              case rel => exact ⟨_, (x5_1), zs, H', ⟨by have := HK1.out; have := HJ20.out; first | omega | exact Nat.le_refl _⟩, ⟨by (with_reducible repeat (first | apply Kd.R_alloc | apply Kd.R_drewN | apply Kd.R_drew)); exact HO_4.out⟩, ⟨by exact pk BK253.out⟩, ⟨by exact pk BK268.out⟩, ⟨by exact pk BK275.out⟩, ⟨zb⟩⟩
            case rest =>
             clear HC68
             try clear c1
             try clear p2
             try clear q2
             try clear hx2
             try clear c3
             try clear c4
             try clear c5
             try clear c6
             try clear p6
             try clear c7
             try clear c8
             try clear c11
             try clear c11b0
             try clear c12
             try clear c12b0
             try clear c13
             try clear c13b0
             try clear c16
             try clear c16b0
             try clear c17
             try clear c17b0
             try clear p25
             try clear q25
             try clear hx25
             try clear p26
             try clear q26
             try clear hx26
             try clear c30
             try clear c35
             try clear c36
             try clear c38
             try clear c38b0
             try clear c39
             try clear c40
             try clear c42
             try clear c44
             try clear c44b0
             try clear c44b1
             try clear c46
             try clear c46b0
             try clear c46b1
             try clear c47
             try clear c48
             try clear c50
             try clear c54
             try clear c55
             try clear c57
             try clear c62
             try clear c63
             try clear p64
             try clear c65
             try clear c67
             try clear c69
             try clear c69b0
             try clear c69b1
             try clear c71
             try clear c71b0
             try clear c72
             try clear c72b0
             try clear c73
             try clear c74
             try clear c76
             try clear c76b0
             try clear c76b1
             try clear c78
             try clear c79
             try clear c81
             try clear c84
             try clear c85
             try clear c87
             try clear c89
             try clear hcz10_0 hcz10_1 hcz10_2 hcz10_3 hcz10_4 hfz10_0 hfz10_1 hfz10_2 hfz10_3 hfz10_4
             try clear hcz22_0 hcz22_1 hcz22_2 hcz22_3 hcz22_4 hfz22_0 hfz22_1 hfz22_2 hfz22_3 hfz22_4
             try clear hcz25_0 hcz25_1 hcz25_2 hcz25_3 hcz25_4 hfz25_0 hfz25_1 hfz25_2 hfz25_3 hfz25_4
             try clear hcz27_0 hcz27_1 hcz27_2 hcz27_3 hcz27_4 hfz27_0 hfz27_1 hfz27_2 hfz27_3 hfz27_4
             try clear hcz31_0 hcz31_1 hcz31_2 hcz31_3 hcz31_4 hfz31_0 hfz31_1 hfz31_2 hfz31_3 hfz31_4
             try clear hcz32_0 hcz32_1 hcz32_2 hcz32_3 hcz32_4 hfz32_0 hfz32_1 hfz32_2 hfz32_3 hfz32_4
             try clear hcz37_0 hcz37_1 hcz37_2 hcz37_3 hcz37_4 hfz37_0 hfz37_1 hfz37_2 hfz37_3 hfz37_4
             try clear hcz41_0 hcz41_1 hcz41_2 hcz41_3 hcz41_4 hfz41_0 hfz41_1 hfz41_2 hfz41_3 hfz41_4
             try clear hcz43_0 hcz43_1 hcz43_2 hcz43_3 hcz43_4 hfz43_0 hfz43_1 hfz43_2 hfz43_3 hfz43_4
             try clear hcz49_0 hcz49_1 hcz49_2 hcz49_3 hcz49_4 hfz49_0 hfz49_1 hfz49_2 hfz49_3 hfz49_4
             try clear hcz51_0 hcz51_1 hcz51_2 hcz51_3 hcz51_4 hfz51_0 hfz51_1 hfz51_2 hfz51_3 hfz51_4
             try clear hcz56_0 hcz56_1 hcz56_2 hcz56_3 hcz56_4 hfz56_0 hfz56_1 hfz56_2 hfz56_3 hfz56_4
             try clear hcz58_0 hcz58_1 hcz58_2 hcz58_3 hcz58_4 hfz58_0 hfz58_1 hfz58_2 hfz58_3 hfz58_4
             try clear hcz60_0 hcz60_1 hcz60_2 hcz60_3 hcz60_4 hfz60_0 hfz60_1 hfz60_2 hfz60_3 hfz60_4
             try clear hcz64_0 hcz64_1 hcz64_2 hcz64_3 hcz64_4 hfz64_0 hfz64_1 hfz64_2 hfz64_3 hfz64_4
             try clear hcz66_0 hcz66_1 hcz66_2 hcz66_3 hcz66_4 hfz66_0 hfz66_1 hfz66_2 hfz66_3 hfz66_4
             try clear hcz75_0 hcz75_1 hcz75_2 hcz75_3 hcz75_4 hfz75_0 hfz75_1 hfz75_2 hfz75_3 hfz75_4
             try clear hcz80_0 hcz80_1 hcz80_2 hcz80_3 hcz80_4 hfz80_0 hfz80_1 hfz80_2 hfz80_3 hfz80_4
             try clear hcz82_0 hcz82_1 hcz82_2 hcz82_3 hcz82_4 hfz82_0 hfz82_1 hfz82_2 hfz82_3 hfz82_4
             try clear hcz86_0 hcz86_1 hcz86_2 hcz86_3 hcz86_4 hfz86_0 hfz86_1 hfz86_2 hfz86_3 hfz86_4
             try clear hcz88_0 hcz88_1 hcz88_2 hcz88_3 hcz88_4 hfz88_0 hfz88_1 hfz88_2 hfz88_3 hfz88_4
             try clear hcz8_0 hcz8_1 hcz8_2 hcz8_3 hcz8_4 hfz8_0 hfz8_1 hfz8_2 hfz8_3 hfz8_4
             try clear hx258_0
             try clear hx260_0
             try clear p2
             try clear p25
             try clear p258
             try clear p26
             try clear p260
             try clear p6
             try clear p64
             try clear q2
             try clear q25
             try clear q258
             try clear q26
             try clear q260
             obtain ⟨kq, x5_67, rfl, HA, HJ67, HO_4, BK253, BK268, BK275, HB⟩ := hcut
             cases kq with
             | zero => exact absurd HA.out (by simp [laws_FnCounts.j3])
             | succ kj67 =>
              have H := HA.out
              clear HA
              simp only [laws_FnCounts.j3] at H
              by_cases c90 : t267 = 0
              ·rw [if_pos c90] at H
               have c90b0 : (t267 == 0) = true := beq_iff_eq.mpr c90
               have c90b1 : (t267 != 0) = false := bne_eq_false_iff_eq.mpr c90
               clear c90
               have H' := aM H
               clear H
               have hnb91 := NB275_253.out
               have hnc91 := NB253_275.out
               have hnb92 := NB275_268.out
               have hnc92 := NB268_275.out
               obtain ⟨hcz93_0, hcz93_1, hcz93_2, hcz93_3, hcz93_4, hfz93_0, hfz93_1, hfz93_2, hfz93_3, hfz93_4⟩ := cells5 BK275.out
               have hnb94 := NB253_268.out
               have hnc94 := NB268_253.out
               obtain ⟨hcz95_0, hcz95_1, hcz95_2, hcz95_3, hcz95_4, hfz95_0, hfz95_1, hfz95_2, hfz95_3, hfz95_4⟩ := cells5 BK253.out
               go_wp2
               repeat (go_quiet (fail); try go_wp2)
               go_roundg kj67
               case measure => have := HK1.out; have := HJ20.out; have := HJ67.out; omega
               case rel => exact ⟨(x5_67), ((wrap64 (x6_1 + (Int.tmod (rd t254 (ji15)) 4)))), (wrap64 (x7_1 + 1)), (t269), (t270), (t271), (t272), (t273), zs, (by first | rfl | (simp; done) | (simp only [← hji15] <;> (first | rfl | simp)) | (simp [*]; done)), zs, H', ⟨by have := HK1.out; have := HJ20.out; have := HJ67.out; omega⟩, ⟨by (with_reducible repeat (first | apply Kd.R_alloc | apply Kd.R_drewN | apply Kd.R_drew)); exact Kd.R_mono (Kd.R_far (p := ⟨gb253, 4, none⟩) (Kd.R_far (p := ⟨gb253, 3, none⟩) (Kd.R_far (p := ⟨gb253, 2, none⟩) (Kd.R_far (p := ⟨gb253, 1, none⟩) (Kd.R_far (p := ⟨gb253, 0, none⟩) (Kd.R_types HO_4.out BK253.out (by decide)) (fun _ hk => hk.2) (.int .i64 t269)) (fun _ hk => hk.2) (.int .i64 t270)) (fun _ hk => hk.2) (.int .i64 t271)) (fun _ hk => hk.2) (.int .i64 t272)) (fun _ hk => hk.2) (.int .i64 t273)) (fun _ hk => trivial)⟩, ⟨by refine pq ?_; refine blk_put (cs := #[.int .i64 t269, .int .i64 t270, .int .i64 t271, .int .i64 t272, .int .i64 x254004_1]) ?_ 4 _ rfl; refine pq ?_; refine blk_put (cs := #[.int .i64 t269, .int .i64 t270, .int .i64 t271, .int .i64 x254003_1, .int .i64 x254004_1]) ?_ 3 _ rfl; refine pq ?_; refine blk_put (cs := #[.int .i64 t269, .int .i64 t270, .int .i64 x254002_1, .int .i64 x254003_1, .int .i64 x254004_1]) ?_ 2 _ rfl; refine pq ?_; refine blk_put (cs := #[.int .i64 t269, .int .i64 x254001_1, .int .i64 x254002_1, .int .i64 x254003_1, .int .i64 x254004_1]) ?_ 1 _ rfl; refine pq ?_; refine blk_put (cs := #[.int .i64 x254000_1, .int .i64 x254001_1, .int .i64 x254002_1, .int .i64 x254003_1, .int .i64 x254004_1]) ?_ 0 _ rfl; refine pq ?_; exact BK253.out⟩, ⟨zb⟩⟩
              ·rw [if_neg c90] at H
               have c90b0 : (t267 == 0) = false := beq_eq_false_iff_ne.mpr c90
               have c90b1 : (t267 != 0) = true := bne_iff_ne.mpr c90
               by_cases c96 : t270 = x254001_1
               ·rw [if_pos c96] at H
                have c96b0 : (t270 == x254001_1) = true := beq_iff_eq.mpr c96
                have c96b1 : (t270 != x254001_1) = false := bne_eq_false_iff_eq.mpr c96
                clear c96
                have H' := aM H
                clear H
                have hnb97 := NB275_253.out
                have hnc97 := NB253_275.out
                have hnb98 := NB275_268.out
                have hnc98 := NB268_275.out
                obtain ⟨hcz99_0, hcz99_1, hcz99_2, hcz99_3, hcz99_4, hfz99_0, hfz99_1, hfz99_2, hfz99_3, hfz99_4⟩ := cells5 BK275.out
                have hnb100 := NB253_268.out
                have hnc100 := NB268_253.out
                obtain ⟨hcz101_0, hcz101_1, hcz101_2, hcz101_3, hcz101_4, hfz101_0, hfz101_1, hfz101_2, hfz101_3, hfz101_4⟩ := cells5 BK253.out
                go_wp2
                repeat (go_quiet (fail); try go_wp2)
                go_roundg kj67
                case measure => have := HK1.out; have := HJ20.out; have := HJ67.out; omega
                case rel => exact ⟨(x5_67), ((wrap64 (x6_1 + (Int.tmod (rd t254 (ji15)) 4)))), (wrap64 (x7_1 + 1)), (t269), (t270), (t271), (t272), (t273), zs, (by first | rfl | (simp; done) | (simp only [← hji15] <;> (first | rfl | simp)) | (simp [*]; done)), zs, H', ⟨by have := HK1.out; have := HJ20.out; have := HJ67.out; omega⟩, ⟨by (with_reducible repeat (first | apply Kd.R_alloc | apply Kd.R_drewN | apply Kd.R_drew)); exact Kd.R_mono (Kd.R_far (p := ⟨gb253, 4, none⟩) (Kd.R_far (p := ⟨gb253, 3, none⟩) (Kd.R_far (p := ⟨gb253, 2, none⟩) (Kd.R_far (p := ⟨gb253, 1, none⟩) (Kd.R_far (p := ⟨gb253, 0, none⟩) (Kd.R_types HO_4.out BK253.out (by decide)) (fun _ hk => hk.2) (.int .i64 t269)) (fun _ hk => hk.2) (.int .i64 t270)) (fun _ hk => hk.2) (.int .i64 t271)) (fun _ hk => hk.2) (.int .i64 t272)) (fun _ hk => hk.2) (.int .i64 t273)) (fun _ hk => trivial)⟩, ⟨by refine pq ?_; refine blk_put (cs := #[.int .i64 t269, .int .i64 t270, .int .i64 t271, .int .i64 t272, .int .i64 x254004_1]) ?_ 4 _ rfl; refine pq ?_; refine blk_put (cs := #[.int .i64 t269, .int .i64 t270, .int .i64 t271, .int .i64 x254003_1, .int .i64 x254004_1]) ?_ 3 _ rfl; refine pq ?_; refine blk_put (cs := #[.int .i64 t269, .int .i64 t270, .int .i64 x254002_1, .int .i64 x254003_1, .int .i64 x254004_1]) ?_ 2 _ rfl; refine pq ?_; refine blk_put (cs := #[.int .i64 t269, .int .i64 x254001_1, .int .i64 x254002_1, .int .i64 x254003_1, .int .i64 x254004_1]) ?_ 1 _ rfl; refine pq ?_; refine blk_put (cs := #[.int .i64 x254000_1, .int .i64 x254001_1, .int .i64 x254002_1, .int .i64 x254003_1, .int .i64 x254004_1]) ?_ 0 _ rfl; refine pq ?_; exact BK253.out⟩, ⟨zb⟩⟩
               ·rw [if_neg c96] at H
                exact absurd H (by simp)
        ·rw [if_neg c17] at H
         exact absurd H (by simp)
       ·rw [if_neg c16] at H
        exact absurd H (by simp)
      ·rw [if_neg c13] at H
       exact absurd H (by simp)
     ·rw [if_neg c12] at H
      exact absurd H (by simp)
    ·rw [if_neg c11] at H
     have c11b0 : decide (x7_1 < 10) = false := decide_eq_false c11
     clear c11
     replace H := Option.bind_eq_some_iff.mp H
     obtain ⟨t257, A1020, H⟩ := H
     replace H : (some t257) = some r := H
     have A102 := aM A1020
     clear A1020
     obtain rfl := Option.some.inj H
     obtain ⟨hcz103_0, hcz103_1, hcz103_2, hcz103_3, hcz103_4, hfz103_0, hfz103_1, hfz103_2, hfz103_3, hfz103_4⟩ := cells5 BK253.out
     go_wp2_with (first | (go_at_call 21; (with_reducible refine (impl_LockOk.calls x254000_1 x254001_1 x254002_1 x254003_1 x254004_1 t257 _ A102.out).mono ?_); rintro e w104 ⟨rfl, hb⟩; have n0_ := aM (Kd.R_below (by (with_reducible repeat (first | apply Kd.R_alloc | apply Kd.R_drewN | apply Kd.R_drew)); exact HO_4.out) hb); have n1_ := aM (bb BK253.out hb); have n2_ := aM (below_step (zb) hb); clear HO_4; clear BK253; clear HB; have HO_4 := n0_; have BK253 := n1_; have HB := n2_; clear n0_ n1_ n2_; (try clear hb); (try clear hb2); (try clear hk); (try clear hi)))
     repeat (go_quiet (first | (go_at_call 21; (with_reducible refine (impl_LockOk.calls x254000_1 x254001_1 x254002_1 x254003_1 x254004_1 t257 _ A102.out).mono ?_); rintro e w104 ⟨rfl, hb⟩; have n0_ := aM (Kd.R_below (by (with_reducible repeat (first | apply Kd.R_alloc | apply Kd.R_drewN | apply Kd.R_drew)); exact HO_4.out) hb); have n1_ := aM (bb BK253.out hb); have n2_ := aM (below_step (zb) hb); clear HO_4; clear BK253; clear HB; have HO_4 := n0_; have BK253 := n1_; have HB := n2_; clear n0_ n1_ n2_; (try clear hb); (try clear hb2); (try clear hk); (try clear hi))); try go_wp2_with (first | (go_at_call 21; (with_reducible refine (impl_LockOk.calls x254000_1 x254001_1 x254002_1 x254003_1 x254004_1 t257 _ A102.out).mono ?_); rintro e w104 ⟨rfl, hb⟩; have n0_ := aM (Kd.R_below (by (with_reducible repeat (first | apply Kd.R_alloc | apply Kd.R_drewN | apply Kd.R_drew)); exact HO_4.out) hb); have n1_ := aM (bb BK253.out hb); have n2_ := aM (below_step (zb) hb); clear HO_4; clear BK253; clear HB; have HO_4 := n0_; have BK253 := n1_; have HB := n2_; clear n0_ n1_ n2_; (try clear hb); (try clear hb2); (try clear hk); (try clear hi))))
     go_ret
     exact ⟨zr, zb⟩

/-- THE ONE PURE STATEMENT of laws_FnCounts: yours. -/
def laws_FnCounts.Pure : Prop := ∀ (l0 : List Int), l0.length ≤ maxLen → l0.length * 1 ≤ 140737488351232 → (∀ x ∈ l0, (Lit.int .u8 x).wf = true) → ∃ k, laws_FnCounts.f k l0 = some true
theorem laws_FnCounts.walk (P : laws_FnCounts.Pure) (a0 : Option Addr) (len0 cap0 : Nat) (z0 : List Int) (w : World) (w0 : (a0 = none ∧ len0 = 0 ∧ cap0 = 0 ∧ z0 = []) ∨ ∃ x, a0 = some x ∧ len0 ≤ cap0 ∧ cap0 ≤ maxLen ∧ z0.length = cap0 ∧ (∀ i, i < z0.length → w.cell? (x.add i) = some (.int .u8 (z0.getD i 0))) ∧ ∀ n ∈ z0, (Lit.int .u8 n).wf = true) (y0 : len0 * 1 ≤ 140737488351232) (HTAB : Sh.TabH w := by exact Sh.tabH HTAB (by repeat (first | (with_reducible first | exact HB.out | exact HBW.out | apply eA | apply eN | apply eD | refine eS ?_ (Aside0.out ‹_›)) | exact HB.out))) :
  Calls Tryd.prog 8 #[.slice a0 len0 cap0] w fun e w' => e = .returned (.bool true) ∧ Below w.heap.size w w' := by
 obtain ⟨l0, rfl, hr0, hm0, hw0, hc0⟩ := ReadsInt.ofRowC w0
 obtain ⟨k, h⟩ := P l0 hm0 y0 hw0
 have HB := aM (Below.refl w.heap.size w)
 refine (laws_FnCounts.calls k _ _ l0 true w (Kd.C_of_reads (d := (0 : Int)) (h1 := fun _ => rfl) hr0) hc0 h).mono ?_
 rintro e w' ⟨rfl, hd⟩
 exact ⟨rfl, hd⟩

end Go.Proofs.YtdhinnolfpacgaaDoor.QFnCounts
