-- Printed functions and their walks: by print.py, turned by wip/tools/myprint.py.
import Derived.Test.YtcpjfkagbnoagaaQFnGrantingx0
import Derived.Test.YtcpjfkagbnoagaaQFnGrantingx2
import Derived.Test.YtcpjfkagbnoagaaQFnGrantingx3
import Derived.Test.YtcpjfkagbnoagaaQFnGrantingx5
import Derived.Test.YtcpjfkagbnoagaaQFnGrantingx7
import Derived.Test.YtcpjfkagbnoagaaQFnGrantingx8
namespace Go.Proofs.Ytcpjfkagbnoagaa.QFnGranting
open Go.RowKit Go.Proofs.YtcpjfkagbnoagaaW.PrintWords Go.Proofs.YtcpjfkagbnoagaaW.PrintLast Go.Proofs.YtcpjfkagbnoagaaW.PrintMore
attribute [local go_sem] max2_int min2_int max_two min_two max_three min_three max_four min_four   -- for this text's walks alone
set_option linter.unusedVariables false
set_option linter.unusedSimpArgs false

/-! ### laws_FnGranting: function 15 -/
mutual
def laws_FnGranting.j0 : Nat → List (S25) → Int → Int → Int → List (S25) → Bool → Int → Int → Int → Int → Int → Int → Bool → Option (Bool)
 | 0, _, _, _, _, _, _, _, _, _, _, _, _, _ => none
 | k + 1, x3, x5, x6, x7, x11, x65, x292000, x292001, x292002, x292003, x292004, x292005, x292006 => if x65 = true then (none) else ((impl_SpareOf.f k x3 x5 x6 1 x7).bind fun t301 => ((spec_SpareOf.f k x3 x5 x6 1 x7).bind fun t302 => (if t301 = t302 then ((impl_MayTake.f k x3 x5 x6 1 x7).bind fun t303 => (if ((decide (t301 ≥ 0)) != t303) = true then (laws_FnGranting.j1 k x3 x5 x7 x11 t301 true x292000 x292001 x292002 x292003 x292004 x292005 x292006) else (if x5 = x6 then (laws_FnGranting.j1 k x3 x5 x7 x11 t301 (t301 != 5) x292000 x292001 x292002 x292003 x292004 x292005 x292006) else (laws_FnGranting.j1 k x3 x5 x7 x11 t301 false x292000 x292001 x292002 x292003 x292004 x292005 x292006)))) else (laws_FnGranting.j1 k x3 x5 x7 x11 t301 true x292000 x292001 x292002 x292003 x292004 x292005 x292006))))
def laws_FnGranting.j1 : Nat → List (S25) → Int → Int → List (S25) → Int → Bool → Int → Int → Int → Int → Int → Int → Bool → Option (Bool)
 | 0, _, _, _, _, _, _, _, _, _, _, _, _, _ => none
 | k + 1, x3, x5, x7, x11, x13, x96, x292000, x292001, x292002, x292003, x292004, x292005, x292006 => if x96 = true then (none) else (laws_FnGranting.l0 k x3 x5 x7 x11 x13 1 x292000 x292001 x292002 x292003 x292004 x292005 x292006)
def laws_FnGranting.l0 : Nat → List (S25) → Int → Int → List (S25) → Int → Int → Int → Int → Int → Int → Int → Int → Bool → Option (Bool)
 | 0, _, _, _, _, _, _, _, _, _, _, _, _, _ => none
 | k + 1, x3, x5, x7, x11, x13, x14, x292000, x292001, x292002, x292003, x292004, x292005, x292006 => if x14 ≤ 7 then ((impl_MayTake.f k x3 x5 x14 1 x7).bind fun t307 => (if t307 = true then ((impl_MayTake.f k x11 x5 x14 1 x7).bind fun t308 => (if t308 = true then (laws_FnGranting.l0 k x3 x5 x7 x11 x13 (wrap64 (x14 + 1)) x292000 x292001 x292002 x292003 x292004 x292005 x292006) else (none))) else (laws_FnGranting.l0 k x3 x5 x7 x11 x13 (wrap64 (x14 + 1)) x292000 x292001 x292002 x292003 x292004 x292005 x292006))) else ((impl_MayTake.f k x3 x5 30 1 x7).bind fun t304 => (if t304 = true then (none) else ((impl_MayTake.f k x11 x5 30 1 x7).bind fun t305 => (if (t305 == (decide (x13 ≥ 1))) = true then (if x13 < 1 then (some true) else ((impl_SpareOf.f k x11 x5 30 1 x7).bind fun t306 => (some (t306 == (mn x292003 (wrap64 (x13 - 1))))))) else (none)))))
end
def laws_FnGranting.f (k : Nat) (l0 : List Int) : Option (Bool) := (laws_big.f l0).bind fun t280 => (if t280 = true then (some true) else ((spec_DrawGrants.f k l0).bind fun t281 => ((spec_DrawPlaces.f k l0).bind fun t284 => (if 0 < (t284.length : Int) then (if 1 < (t284.length : Int) then (if 2 < (t284.length : Int) then (if 3 < (t284.length : Int) then ((impl_AddGrant.f k t281 (wrap64 (1 + (Int.tmod (rd t284 1) 6))) 30 0 (Int.tmod (rd t284 3) 3) 0 100 false).bind fun bt292 => ((spec_AddGrant.f k t281 (wrap64 (1 + (Int.tmod (rd t284 1) 6))) 30 0 (Int.tmod (rd t284 3) 3) 0 100 false).bind fun bt296 => (if (bt292.2 != bt296.2) = true then (laws_FnGranting.j0 k t281 (wrap64 (1 + (Int.tmod (rd t284 0) 6))) (wrap64 (1 + (Int.tmod (rd t284 1) 6))) (Int.tmod (rd t284 2) 40) bt296.1 true (wrap64 (1 + (Int.tmod (rd t284 1) 6))) 30 0 (Int.tmod (rd t284 3) 3) 0 100 false) else ((laws_sameGrants.f k bt292.1 bt296.1).bind fun t300 => (if t300 = true then (laws_FnGranting.j0 k t281 (wrap64 (1 + (Int.tmod (rd t284 0) 6))) (wrap64 (1 + (Int.tmod (rd t284 1) 6))) (Int.tmod (rd t284 2) 40) bt296.1 (!bt292.2) (wrap64 (1 + (Int.tmod (rd t284 1) 6))) 30 0 (Int.tmod (rd t284 3) 3) 0 100 false) else (laws_FnGranting.j0 k t281 (wrap64 (1 + (Int.tmod (rd t284 0) 6))) (wrap64 (1 + (Int.tmod (rd t284 1) 6))) (Int.tmod (rd t284 2) 40) bt296.1 true (wrap64 (1 + (Int.tmod (rd t284 1) 6))) 30 0 (Int.tmod (rd t284 3) 3) 0 100 false)))))) else (none)) else (none)) else (none)) else (none)))))
theorem laws_FnGranting.mono_l : ∀ k, (∀ y0 y1 y2 y3 y4 y5 y6 y7 y8 y9 y10 y11 y12, LeO (laws_FnGranting.j0 k y0 y1 y2 y3 y4 y5 y6 y7 y8 y9 y10 y11 y12) (laws_FnGranting.j0 (k + 1) y0 y1 y2 y3 y4 y5 y6 y7 y8 y9 y10 y11 y12)) ∧ (∀ y0 y1 y2 y3 y4 y5 y6 y7 y8 y9 y10 y11 y12, LeO (laws_FnGranting.j1 k y0 y1 y2 y3 y4 y5 y6 y7 y8 y9 y10 y11 y12) (laws_FnGranting.j1 (k + 1) y0 y1 y2 y3 y4 y5 y6 y7 y8 y9 y10 y11 y12)) ∧ (∀ y0 y1 y2 y3 y4 y5 y6 y7 y8 y9 y10 y11 y12, LeO (laws_FnGranting.l0 k y0 y1 y2 y3 y4 y5 y6 y7 y8 y9 y10 y11 y12) (laws_FnGranting.l0 (k + 1) y0 y1 y2 y3 y4 y5 y6 y7 y8 y9 y10 y11 y12))
 | 0 => ⟨fun _ _ _ _ _ _ _ _ _ _ _ _ _ r h => by simp [laws_FnGranting.j0] at h, fun _ _ _ _ _ _ _ _ _ _ _ _ _ r h => by simp [laws_FnGranting.j1] at h, fun _ _ _ _ _ _ _ _ _ _ _ _ _ r h => by simp [laws_FnGranting.l0] at h⟩
 | k + 1 => by
  obtain ⟨ih0, ih1, ih2⟩ := laws_FnGranting.mono_l k
  refine ⟨?_, ?_, ?_⟩
  ·intro y0 y1 y2 y3 y4 y5 y6 y7 y8 y9 y10 y11 y12
   unfold laws_FnGranting.j0
   repeat' first
   | (with_reducible exact ih0 _ _ _ _ _ _ _ _ _ _ _ _ _)
   | (with_reducible exact ih1 _ _ _ _ _ _ _ _ _ _ _ _ _)
   | (with_reducible exact ih2 _ _ _ _ _ _ _ _ _ _ _ _ _)
   | (with_reducible exact impl_AddGrant.mono _ _ _ _ _ _ _ _ _)
   | (with_reducible exact impl_MayTake.mono _ _ _ _ _ _)
   | (with_reducible exact impl_SpareOf.mono _ _ _ _ _ _)
   | (with_reducible exact laws_sameGrants.mono _ _ _)
   | (with_reducible exact spec_AddGrant.mono _ _ _ _ _ _ _ _ _)
   | (with_reducible exact spec_DrawGrants.mono _ _)
   | (with_reducible exact spec_DrawPlaces.mono _ _)
   | (with_reducible exact spec_SpareOf.mono _ _ _ _ _ _)
   | (with_reducible exact LeO.refl _)
   | (with_reducible exact LeO.none _)
   | (with_reducible refine LeO.ite ?_ ?_)
   | (with_reducible refine LeO.bind ?_ (fun _ => ?_))
   | exact ih0 _ _ _ _ _ _ _ _ _ _ _ _ _
   | exact ih1 _ _ _ _ _ _ _ _ _ _ _ _ _
   | exact ih2 _ _ _ _ _ _ _ _ _ _ _ _ _
   | exact impl_AddGrant.mono _ _ _ _ _ _ _ _ _
   | exact impl_MayTake.mono _ _ _ _ _ _
   | exact impl_SpareOf.mono _ _ _ _ _ _
   | exact laws_sameGrants.mono _ _ _
   | exact spec_AddGrant.mono _ _ _ _ _ _ _ _ _
   | exact spec_DrawGrants.mono _ _
   | exact spec_DrawPlaces.mono _ _
   | exact spec_SpareOf.mono _ _ _ _ _ _
   | exact LeO.none _
   | refine LeO.ite ?_ ?_
   | refine LeO.bind ?_ (fun _ => ?_)
  ·intro y0 y1 y2 y3 y4 y5 y6 y7 y8 y9 y10 y11 y12
   unfold laws_FnGranting.j1
   repeat' first
   | (with_reducible exact ih0 _ _ _ _ _ _ _ _ _ _ _ _ _)
   | (with_reducible exact ih1 _ _ _ _ _ _ _ _ _ _ _ _ _)
   | (with_reducible exact ih2 _ _ _ _ _ _ _ _ _ _ _ _ _)
   | (with_reducible exact impl_AddGrant.mono _ _ _ _ _ _ _ _ _)
   | (with_reducible exact impl_MayTake.mono _ _ _ _ _ _)
   | (with_reducible exact impl_SpareOf.mono _ _ _ _ _ _)
   | (with_reducible exact laws_sameGrants.mono _ _ _)
   | (with_reducible exact spec_AddGrant.mono _ _ _ _ _ _ _ _ _)
   | (with_reducible exact spec_DrawGrants.mono _ _)
   | (with_reducible exact spec_DrawPlaces.mono _ _)
   | (with_reducible exact spec_SpareOf.mono _ _ _ _ _ _)
   | (with_reducible exact LeO.refl _)
   | (with_reducible exact LeO.none _)
   | (with_reducible refine LeO.ite ?_ ?_)
   | (with_reducible refine LeO.bind ?_ (fun _ => ?_))
   | exact ih0 _ _ _ _ _ _ _ _ _ _ _ _ _
   | exact ih1 _ _ _ _ _ _ _ _ _ _ _ _ _
   | exact ih2 _ _ _ _ _ _ _ _ _ _ _ _ _
   | exact impl_AddGrant.mono _ _ _ _ _ _ _ _ _
   | exact impl_MayTake.mono _ _ _ _ _ _
   | exact impl_SpareOf.mono _ _ _ _ _ _
   | exact laws_sameGrants.mono _ _ _
   | exact spec_AddGrant.mono _ _ _ _ _ _ _ _ _
   | exact spec_DrawGrants.mono _ _
   | exact spec_DrawPlaces.mono _ _
   | exact spec_SpareOf.mono _ _ _ _ _ _
   | exact LeO.none _
   | refine LeO.ite ?_ ?_
   | refine LeO.bind ?_ (fun _ => ?_)
  ·intro y0 y1 y2 y3 y4 y5 y6 y7 y8 y9 y10 y11 y12
   unfold laws_FnGranting.l0
   repeat' first
   | (with_reducible exact ih0 _ _ _ _ _ _ _ _ _ _ _ _ _)
   | (with_reducible exact ih1 _ _ _ _ _ _ _ _ _ _ _ _ _)
   | (with_reducible exact ih2 _ _ _ _ _ _ _ _ _ _ _ _ _)
   | (with_reducible exact impl_AddGrant.mono _ _ _ _ _ _ _ _ _)
   | (with_reducible exact impl_MayTake.mono _ _ _ _ _ _)
   | (with_reducible exact impl_SpareOf.mono _ _ _ _ _ _)
   | (with_reducible exact laws_sameGrants.mono _ _ _)
   | (with_reducible exact spec_AddGrant.mono _ _ _ _ _ _ _ _ _)
   | (with_reducible exact spec_DrawGrants.mono _ _)
   | (with_reducible exact spec_DrawPlaces.mono _ _)
   | (with_reducible exact spec_SpareOf.mono _ _ _ _ _ _)
   | (with_reducible exact LeO.refl _)
   | (with_reducible exact LeO.none _)
   | (with_reducible refine LeO.ite ?_ ?_)
   | (with_reducible refine LeO.bind ?_ (fun _ => ?_))
   | exact ih0 _ _ _ _ _ _ _ _ _ _ _ _ _
   | exact ih1 _ _ _ _ _ _ _ _ _ _ _ _ _
   | exact ih2 _ _ _ _ _ _ _ _ _ _ _ _ _
   | exact impl_AddGrant.mono _ _ _ _ _ _ _ _ _
   | exact impl_MayTake.mono _ _ _ _ _ _
   | exact impl_SpareOf.mono _ _ _ _ _ _
   | exact laws_sameGrants.mono _ _ _
   | exact spec_AddGrant.mono _ _ _ _ _ _ _ _ _
   | exact spec_DrawGrants.mono _ _
   | exact spec_DrawPlaces.mono _ _
   | exact spec_SpareOf.mono _ _ _ _ _ _
   | exact LeO.none _
   | refine LeO.ite ?_ ?_
   | refine LeO.bind ?_ (fun _ => ?_)
theorem laws_FnGranting.mono : ∀ a0 k, LeO (laws_FnGranting.f k a0) (laws_FnGranting.f (k + 1) a0) := by
 intro a0 k
 obtain ⟨ih0, ih1, ih2⟩ := laws_FnGranting.mono_l k
 unfold laws_FnGranting.f
 repeat' first
   | (with_reducible exact ih0 _ _ _ _ _ _ _ _ _ _ _ _ _)
   | (with_reducible exact ih1 _ _ _ _ _ _ _ _ _ _ _ _ _)
   | (with_reducible exact ih2 _ _ _ _ _ _ _ _ _ _ _ _ _)
   | (with_reducible exact impl_AddGrant.mono _ _ _ _ _ _ _ _ _)
   | (with_reducible exact impl_MayTake.mono _ _ _ _ _ _)
   | (with_reducible exact impl_SpareOf.mono _ _ _ _ _ _)
   | (with_reducible exact laws_sameGrants.mono _ _ _)
   | (with_reducible exact spec_AddGrant.mono _ _ _ _ _ _ _ _ _)
   | (with_reducible exact spec_DrawGrants.mono _ _)
   | (with_reducible exact spec_DrawPlaces.mono _ _)
   | (with_reducible exact spec_SpareOf.mono _ _ _ _ _ _)
   | (with_reducible exact LeO.refl _)
   | (with_reducible exact LeO.none _)
   | (with_reducible refine LeO.ite ?_ ?_)
   | (with_reducible refine LeO.bind ?_ (fun _ => ?_))
   | exact ih0 _ _ _ _ _ _ _ _ _ _ _ _ _
   | exact ih1 _ _ _ _ _ _ _ _ _ _ _ _ _
   | exact ih2 _ _ _ _ _ _ _ _ _ _ _ _ _
   | exact impl_AddGrant.mono _ _ _ _ _ _ _ _ _
   | exact impl_MayTake.mono _ _ _ _ _ _
   | exact impl_SpareOf.mono _ _ _ _ _ _
   | exact laws_sameGrants.mono _ _ _
   | exact spec_AddGrant.mono _ _ _ _ _ _ _ _ _
   | exact spec_DrawGrants.mono _ _
   | exact spec_DrawPlaces.mono _ _
   | exact spec_SpareOf.mono _ _ _ _ _ _
   | exact LeO.none _
   | refine LeO.ite ?_ ?_
   | refine LeO.bind ?_ (fun _ => ?_)
def laws_FnGranting.T21 : Bool × List (List Nat × List Nat) := (true, [([], []), ([], []), ([], []), ([0, 1, 2], [0, 1, 2]), ([3], [3]), ([4, 3], [4]), ([5], [5]), ([5], [5]), ([5], [5]), ([6, 7, 8, 5, 5], [5, 6, 7, 8]), ([5], [5]), ([10, 5], [5, 10]), ([9, 11, 5], [5, 9, 11]), ([5, 12], [5, 12]), ([13, 9], [13]), ([14], [14]), ([15, 14], [14, 15]), ([16, 14, 14], [14, 16]), ([17], [17]), ([17], [17]), ([17], [17]), ([18, 19, 20, 17, 17], [17, 18, 19, 20]), ([17], [17]), ([22, 17], [17, 22]), ([17], [17]), ([24, 17], [17, 24]), ([23, 25, 17], [17, 23, 25]), ([21, 26, 17], [17, 21, 26]), ([17, 27, 14], [14, 17, 27]), ([14, 28], [14, 28]), ([29, 21, 0, 1, 2, 3, 4, 5, 6, 7, 8, 9, 10, 11, 12, 13, 14, 15, 16, 17, 18, 19, 20, 21, 22, 23, 24, 25, 26, 27, 28, 29], [29])])
def laws_FnGranting.B21 : List Nat := [0, 0, 0, 7, 15, 31, 63, 63, 63, 511, 63, 1087, 4095, 8191, 16383, 32767, 65535, 131071, 262143, 262143, 262143, 2097151, 262143, 4456447, 262143, 17039359, 63176703, 134217727, 268435455, 536870911, 1073741823]
theorem laws_FnGranting.tab21 : rtab .any (opsOf Try.f15 21) = laws_FnGranting.T21 := by kernel_rfl
theorem laws_FnGranting.bits21 : waitsOk laws_FnGranting.T21.2 laws_FnGranting.B21 = true := by kernel_rfl
set_option maxHeartbeats 8000000 in
set_option maxRecDepth 100000 in
theorem laws_FnGranting.calls (k : Nat) (A0 : Option Addr) (c0 : Nat) (l0 : List Int) (r : Bool) (w : World) (hr0 : Kd.C (Kd.int .u8) w A0 l0.length l0) (hc0 : l0.length ≤ c0) (h : laws_FnGranting.f k l0 = some r) :
  Calls Try.prog 15 #[.slice A0 l0.length c0] w fun e w' => e = .returned (.bool r) ∧ Below w.heap.size w w' := by
 have hu25 := Try.underlying25
 have HR0 := aM hr0
 have HC0 := aM hc0
 clear hr0 hc0
 have HB := aM (Below.refl w.heap.size w)
 have H : ((laws_big.f l0).bind fun t280 => (if t280 = true then (some true) else ((spec_DrawGrants.f k l0).bind fun t281 => ((spec_DrawPlaces.f k l0).bind fun t284 => (if 0 < (t284.length : Int) then (if 1 < (t284.length : Int) then (if 2 < (t284.length : Int) then (if 3 < (t284.length : Int) then ((impl_AddGrant.f k t281 (wrap64 (1 + (Int.tmod (rd t284 1) 6))) 30 0 (Int.tmod (rd t284 3) 3) 0 100 false).bind fun bt292 => ((spec_AddGrant.f k t281 (wrap64 (1 + (Int.tmod (rd t284 1) 6))) 30 0 (Int.tmod (rd t284 3) 3) 0 100 false).bind fun bt296 => (if (bt292.2 != bt296.2) = true then (laws_FnGranting.j0 k t281 (wrap64 (1 + (Int.tmod (rd t284 0) 6))) (wrap64 (1 + (Int.tmod (rd t284 1) 6))) (Int.tmod (rd t284 2) 40) bt296.1 true (wrap64 (1 + (Int.tmod (rd t284 1) 6))) 30 0 (Int.tmod (rd t284 3) 3) 0 100 false) else ((laws_sameGrants.f k bt292.1 bt296.1).bind fun t300 => (if t300 = true then (laws_FnGranting.j0 k t281 (wrap64 (1 + (Int.tmod (rd t284 0) 6))) (wrap64 (1 + (Int.tmod (rd t284 1) 6))) (Int.tmod (rd t284 2) 40) bt296.1 (!bt292.2) (wrap64 (1 + (Int.tmod (rd t284 1) 6))) 30 0 (Int.tmod (rd t284 3) 3) 0 100 false) else (laws_FnGranting.j0 k t281 (wrap64 (1 + (Int.tmod (rd t284 0) 6))) (wrap64 (1 + (Int.tmod (rd t284 1) 6))) (Int.tmod (rd t284 2) 40) bt296.1 true (wrap64 (1 + (Int.tmod (rd t284 1) 6))) 30 0 (Int.tmod (rd t284 3) 3) 0 100 false)))))) else (none)) else (none)) else (none)) else (none)))))) = some r := h
 clear h
 replace H := Option.bind_eq_some_iff.mp H
 obtain ⟨t280, A20, H⟩ := H
 replace H : (if t280 = true then (some true) else ((spec_DrawGrants.f k l0).bind fun t281 => ((spec_DrawPlaces.f k l0).bind fun t284 => (if 0 < (t284.length : Int) then (if 1 < (t284.length : Int) then (if 2 < (t284.length : Int) then (if 3 < (t284.length : Int) then ((impl_AddGrant.f k t281 (wrap64 (1 + (Int.tmod (rd t284 1) 6))) 30 0 (Int.tmod (rd t284 3) 3) 0 100 false).bind fun bt292 => ((spec_AddGrant.f k t281 (wrap64 (1 + (Int.tmod (rd t284 1) 6))) 30 0 (Int.tmod (rd t284 3) 3) 0 100 false).bind fun bt296 => (if (bt292.2 != bt296.2) = true then (laws_FnGranting.j0 k t281 (wrap64 (1 + (Int.tmod (rd t284 0) 6))) (wrap64 (1 + (Int.tmod (rd t284 1) 6))) (Int.tmod (rd t284 2) 40) bt296.1 true (wrap64 (1 + (Int.tmod (rd t284 1) 6))) 30 0 (Int.tmod (rd t284 3) 3) 0 100 false) else ((laws_sameGrants.f k bt292.1 bt296.1).bind fun t300 => (if t300 = true then (laws_FnGranting.j0 k t281 (wrap64 (1 + (Int.tmod (rd t284 0) 6))) (wrap64 (1 + (Int.tmod (rd t284 1) 6))) (Int.tmod (rd t284 2) 40) bt296.1 (!bt292.2) (wrap64 (1 + (Int.tmod (rd t284 1) 6))) 30 0 (Int.tmod (rd t284 3) 3) 0 100 false) else (laws_FnGranting.j0 k t281 (wrap64 (1 + (Int.tmod (rd t284 0) 6))) (wrap64 (1 + (Int.tmod (rd t284 1) 6))) (Int.tmod (rd t284 2) 40) bt296.1 true (wrap64 (1 + (Int.tmod (rd t284 1) 6))) 30 0 (Int.tmod (rd t284 3) 3) 0 100 false)))))) else (none)) else (none)) else (none)) else (none))))) = some r := H
 have A2 := aM A20
 clear A20
 by_cases c3 : t280 = true
 ·subst c3
  have H1 : (some true) = some r := by rw [if_pos rfl] at H; exact H
  clear H
  have H := H1
  clear H1
  obtain rfl := Option.some.inj H
  go_enter Try.func15, Try.ntmps15
  go_wp2_with (first | ((with_reducible refine gate_callee (f := 34) rfl ?_); refine goesL_ (some 16) rfl rfl Try.func34 (by kernel_rfl) rfl #[.slice A0 l0.length c0] rfl za ?_; (with_reducible refine (laws_big.calls _ _ l0 true _ ?side1 ?side2 A2.out).mono ?_); (case side1 => repeat (first | exact HR0.out | (with_reducible refine Kd.C_alloc ?_ _) | (with_reducible refine Kd.C_drewN ?_ _) | (with_reducible refine Kd.C_drew ?_))); (case side2 => exact HC0.out); rintro e w' ⟨rfl, ⟨nd, rfl⟩⟩; refine ⟨_, rfl, ?_⟩))
  go_ret
  exact ⟨zr, zb⟩
 ·replace c3 := Bool.eq_false_iff.mpr c3
  subst c3
  have H1 : ((spec_DrawGrants.f k l0).bind fun t281 => ((spec_DrawPlaces.f k l0).bind fun t284 => (if 0 < (t284.length : Int) then (if 1 < (t284.length : Int) then (if 2 < (t284.length : Int) then (if 3 < (t284.length : Int) then ((impl_AddGrant.f k t281 (wrap64 (1 + (Int.tmod (rd t284 1) 6))) 30 0 (Int.tmod (rd t284 3) 3) 0 100 false).bind fun bt292 => ((spec_AddGrant.f k t281 (wrap64 (1 + (Int.tmod (rd t284 1) 6))) 30 0 (Int.tmod (rd t284 3) 3) 0 100 false).bind fun bt296 => (if (bt292.2 != bt296.2) = true then (laws_FnGranting.j0 k t281 (wrap64 (1 + (Int.tmod (rd t284 0) 6))) (wrap64 (1 + (Int.tmod (rd t284 1) 6))) (Int.tmod (rd t284 2) 40) bt296.1 true (wrap64 (1 + (Int.tmod (rd t284 1) 6))) 30 0 (Int.tmod (rd t284 3) 3) 0 100 false) else ((laws_sameGrants.f k bt292.1 bt296.1).bind fun t300 => (if t300 = true then (laws_FnGranting.j0 k t281 (wrap64 (1 + (Int.tmod (rd t284 0) 6))) (wrap64 (1 + (Int.tmod (rd t284 1) 6))) (Int.tmod (rd t284 2) 40) bt296.1 (!bt292.2) (wrap64 (1 + (Int.tmod (rd t284 1) 6))) 30 0 (Int.tmod (rd t284 3) 3) 0 100 false) else (laws_FnGranting.j0 k t281 (wrap64 (1 + (Int.tmod (rd t284 0) 6))) (wrap64 (1 + (Int.tmod (rd t284 1) 6))) (Int.tmod (rd t284 2) 40) bt296.1 true (wrap64 (1 + (Int.tmod (rd t284 1) 6))) 30 0 (Int.tmod (rd t284 3) 3) 0 100 false)))))) else (none)) else (none)) else (none)) else (none)))) = some r := by rw [if_neg (show ¬ (false = true) by decide)] at H; exact H
  clear H
  have H := H1
  clear H1
  replace H := Option.bind_eq_some_iff.mp H
  obtain ⟨t281, A40, H⟩ := H
  replace H : ((spec_DrawPlaces.f k l0).bind fun t284 => (if 0 < (t284.length : Int) then (if 1 < (t284.length : Int) then (if 2 < (t284.length : Int) then (if 3 < (t284.length : Int) then ((impl_AddGrant.f k t281 (wrap64 (1 + (Int.tmod (rd t284 1) 6))) 30 0 (Int.tmod (rd t284 3) 3) 0 100 false).bind fun bt292 => ((spec_AddGrant.f k t281 (wrap64 (1 + (Int.tmod (rd t284 1) 6))) 30 0 (Int.tmod (rd t284 3) 3) 0 100 false).bind fun bt296 => (if (bt292.2 != bt296.2) = true then (laws_FnGranting.j0 k t281 (wrap64 (1 + (Int.tmod (rd t284 0) 6))) (wrap64 (1 + (Int.tmod (rd t284 1) 6))) (Int.tmod (rd t284 2) 40) bt296.1 true (wrap64 (1 + (Int.tmod (rd t284 1) 6))) 30 0 (Int.tmod (rd t284 3) 3) 0 100 false) else ((laws_sameGrants.f k bt292.1 bt296.1).bind fun t300 => (if t300 = true then (laws_FnGranting.j0 k t281 (wrap64 (1 + (Int.tmod (rd t284 0) 6))) (wrap64 (1 + (Int.tmod (rd t284 1) 6))) (Int.tmod (rd t284 2) 40) bt296.1 (!bt292.2) (wrap64 (1 + (Int.tmod (rd t284 1) 6))) 30 0 (Int.tmod (rd t284 3) 3) 0 100 false) else (laws_FnGranting.j0 k t281 (wrap64 (1 + (Int.tmod (rd t284 0) 6))) (wrap64 (1 + (Int.tmod (rd t284 1) 6))) (Int.tmod (rd t284 2) 40) bt296.1 true (wrap64 (1 + (Int.tmod (rd t284 1) 6))) 30 0 (Int.tmod (rd t284 3) 3) 0 100 false)))))) else (none)) else (none)) else (none)) else (none))) = some r := H
  have A4 := aM A40
  clear A40
  replace H := Option.bind_eq_some_iff.mp H
  obtain ⟨t284, A50, H⟩ := H
  replace H : (if 0 < (t284.length : Int) then (if 1 < (t284.length : Int) then (if 2 < (t284.length : Int) then (if 3 < (t284.length : Int) then ((impl_AddGrant.f k t281 (wrap64 (1 + (Int.tmod (rd t284 1) 6))) 30 0 (Int.tmod (rd t284 3) 3) 0 100 false).bind fun bt292 => ((spec_AddGrant.f k t281 (wrap64 (1 + (Int.tmod (rd t284 1) 6))) 30 0 (Int.tmod (rd t284 3) 3) 0 100 false).bind fun bt296 => (if (bt292.2 != bt296.2) = true then (laws_FnGranting.j0 k t281 (wrap64 (1 + (Int.tmod (rd t284 0) 6))) (wrap64 (1 + (Int.tmod (rd t284 1) 6))) (Int.tmod (rd t284 2) 40) bt296.1 true (wrap64 (1 + (Int.tmod (rd t284 1) 6))) 30 0 (Int.tmod (rd t284 3) 3) 0 100 false) else ((laws_sameGrants.f k bt292.1 bt296.1).bind fun t300 => (if t300 = true then (laws_FnGranting.j0 k t281 (wrap64 (1 + (Int.tmod (rd t284 0) 6))) (wrap64 (1 + (Int.tmod (rd t284 1) 6))) (Int.tmod (rd t284 2) 40) bt296.1 (!bt292.2) (wrap64 (1 + (Int.tmod (rd t284 1) 6))) 30 0 (Int.tmod (rd t284 3) 3) 0 100 false) else (laws_FnGranting.j0 k t281 (wrap64 (1 + (Int.tmod (rd t284 0) 6))) (wrap64 (1 + (Int.tmod (rd t284 1) 6))) (Int.tmod (rd t284 2) 40) bt296.1 true (wrap64 (1 + (Int.tmod (rd t284 1) 6))) 30 0 (Int.tmod (rd t284 3) 3) 0 100 false)))))) else (none)) else (none)) else (none)) else (none)) = some r := H
  have A5 := aM A50
  clear A50
  by_cases c6 : 0 < (t284.length : Int)
  ·rw [if_pos c6] at H
   have c6b0 : decide (0 < (t284.length : Int)) = true := decide_eq_true c6
   have c6b1 : decide (0 < t284.length) = true := decide_eq_true (by omega)
   clear c6
   by_cases c7 : 1 < (t284.length : Int)
   ·rw [if_pos c7] at H
    have c7b0 : decide (1 < (t284.length : Int)) = true := decide_eq_true c7
    have c7b1 : decide (1 < t284.length) = true := decide_eq_true (by omega)
    clear c7
    by_cases c8 : 2 < (t284.length : Int)
    ·rw [if_pos c8] at H
     have c8b0 : decide (2 < (t284.length : Int)) = true := decide_eq_true c8
     have c8b1 : decide (2 < t284.length) = true := decide_eq_true (by omega)
     clear c8
     by_cases c9 : 3 < (t284.length : Int)
     ·rw [if_pos c9] at H
      have c9b0 : decide (3 < (t284.length : Int)) = true := decide_eq_true c9
      have c9b1 : decide (3 < t284.length) = true := decide_eq_true (by omega)
      clear c9
      replace H := Option.bind_eq_some_iff.mp H
      obtain ⟨⟨t292, t295⟩, A100, H⟩ := H
      replace H : ((spec_AddGrant.f k t281 (wrap64 (1 + (Int.tmod (rd t284 1) 6))) 30 0 (Int.tmod (rd t284 3) 3) 0 100 false).bind fun bt296 => (if (t295 != bt296.2) = true then (laws_FnGranting.j0 k t281 (wrap64 (1 + (Int.tmod (rd t284 0) 6))) (wrap64 (1 + (Int.tmod (rd t284 1) 6))) (Int.tmod (rd t284 2) 40) bt296.1 true (wrap64 (1 + (Int.tmod (rd t284 1) 6))) 30 0 (Int.tmod (rd t284 3) 3) 0 100 false) else ((laws_sameGrants.f k t292 bt296.1).bind fun t300 => (if t300 = true then (laws_FnGranting.j0 k t281 (wrap64 (1 + (Int.tmod (rd t284 0) 6))) (wrap64 (1 + (Int.tmod (rd t284 1) 6))) (Int.tmod (rd t284 2) 40) bt296.1 (!t295) (wrap64 (1 + (Int.tmod (rd t284 1) 6))) 30 0 (Int.tmod (rd t284 3) 3) 0 100 false) else (laws_FnGranting.j0 k t281 (wrap64 (1 + (Int.tmod (rd t284 0) 6))) (wrap64 (1 + (Int.tmod (rd t284 1) 6))) (Int.tmod (rd t284 2) 40) bt296.1 true (wrap64 (1 + (Int.tmod (rd t284 1) 6))) 30 0 (Int.tmod (rd t284 3) 3) 0 100 false))))) = some r := H
      have A10 := aM A100
      clear A100
      replace H := Option.bind_eq_some_iff.mp H
      obtain ⟨⟨t296, t299⟩, A110, H⟩ := H
      replace H : (if (t295 != t299) = true then (laws_FnGranting.j0 k t281 (wrap64 (1 + (Int.tmod (rd t284 0) 6))) (wrap64 (1 + (Int.tmod (rd t284 1) 6))) (Int.tmod (rd t284 2) 40) t296 true (wrap64 (1 + (Int.tmod (rd t284 1) 6))) 30 0 (Int.tmod (rd t284 3) 3) 0 100 false) else ((laws_sameGrants.f k t292 t296).bind fun t300 => (if t300 = true then (laws_FnGranting.j0 k t281 (wrap64 (1 + (Int.tmod (rd t284 0) 6))) (wrap64 (1 + (Int.tmod (rd t284 1) 6))) (Int.tmod (rd t284 2) 40) t296 (!t295) (wrap64 (1 + (Int.tmod (rd t284 1) 6))) 30 0 (Int.tmod (rd t284 3) 3) 0 100 false) else (laws_FnGranting.j0 k t281 (wrap64 (1 + (Int.tmod (rd t284 0) 6))) (wrap64 (1 + (Int.tmod (rd t284 1) 6))) (Int.tmod (rd t284 2) 40) t296 true (wrap64 (1 + (Int.tmod (rd t284 1) 6))) 30 0 (Int.tmod (rd t284 3) 3) 0 100 false)))) = some r := H
      have A11 := aM A110
      clear A110
      have HC12 := aM H
      clear H
      go_enter Try.func15, Try.ntmps15
      go_upto_region 11 with (first | ((with_reducible refine gate_callee (f := 34) rfl ?_); refine goesL_ (some 16) rfl rfl Try.func34 (by kernel_rfl) rfl #[.slice A0 l0.length c0] rfl za ?_; (with_reducible refine (laws_big.calls _ _ l0 false _ ?side1 ?side2 A2.out).mono ?_); (case side1 => repeat (first | exact HR0.out | (with_reducible refine Kd.C_alloc ?_ _) | (with_reducible refine Kd.C_drewN ?_ _) | (with_reducible refine Kd.C_drew ?_))); (case side2 => exact HC0.out); rintro e w' ⟨rfl, ⟨nd, rfl⟩⟩; refine ⟨_, rfl, ?_⟩) | ((with_reducible refine gate_callee (f := 53) rfl ?_); refine goesL_ (some 18) rfl rfl Try.func53 (by kernel_rfl) rfl #[.slice A0 l0.length c0] rfl za ?_; (with_reducible refine (spec_DrawGrants.calls k _ _ l0 t281 _ ?side1 ?side2 A4.out).mono ?_); (case side1 => repeat (first | exact HR0.out | (with_reducible refine Kd.C_alloc ?_ _) | (with_reducible refine Kd.C_drewN ?_ _) | (with_reducible refine Kd.C_drew ?_))); (case side2 => exact HC0.out); rintro e w13 ⟨v282, rfl, ho0, hb⟩; refine ⟨_, rfl, ?_⟩; have n0_ := aM (Kd.R_lower ho0 (below_size (zb))); have n1_ := aM (below_step (zb) hb); clear HB; have HO283 := n0_; have HB := n1_; clear n0_ n1_; (try clear hb); (try clear hb2); (try clear hk); (try clear hi); (try clear ho0)) | ((with_reducible refine gate_callee (f := 54) rfl ?_); refine goesL_ (some 20) rfl rfl Try.func54 (by kernel_rfl) rfl #[.slice A0 l0.length c0] rfl za ?_; (with_reducible refine (spec_DrawPlaces.calls k _ _ l0 t284 _ ?side1 ?side2 A5.out).mono ?_); (case side1 => repeat (first | exact (Kd.C_below HR0.out HB.out) | (with_reducible refine Kd.C_alloc ?_ _) | (with_reducible refine Kd.C_drewN ?_ _) | (with_reducible refine Kd.C_drew ?_))); (case side2 => exact HC0.out); rintro e w14 ⟨v285, rfl, ho0, hb⟩; refine ⟨_, rfl, ?_⟩; have n0_ := aM (Kd.R_below (by (with_reducible repeat (first | apply Kd.R_alloc | apply Kd.R_drewN | apply Kd.R_drew)); exact HO283.out) hb); have n1_ := aM (Kd.R_lower ho0 (below_size (zb))); have n2_ := aM (below_step (zb) hb); clear HO283; clear HB; have HO283 := n0_; have HO286 := n1_; have HB := n2_; clear n0_ n1_ n2_; (try clear hb); (try clear hb2); (try clear hk); (try clear hi); (try clear ho0); obtain ⟨Ao15, co15, eo15⟩ := Kd.R_slice HO286.out; subst eo15; have p287 : 0 ≤ (0 : Int) := (by omega); have q287 : 0 < (t284.length : Int) := of_decide_eq_true (by first | (with_reducible assumption) | assumption); obtain ⟨ad287, e287, hx287_0⟩ := Kd.at_int (Kd.R_reads' HO286.out).2.2 0 p287 q287; cases e287; have qi287 : (0 < t284.length) = True := eq_true (by omega); (try rw [show ((0 : Int)).toNat = 0 from rfl] at hx287_0); (try rw [Addr.add_zero'] at hx287_0); replace p287 := eq_true p287; replace q287 := eq_true q287; have p288 : 0 ≤ (1 : Int) := (by omega); have q288 : 1 < (t284.length : Int) := of_decide_eq_true (by first | (with_reducible assumption) | assumption); obtain ⟨ad288, e288, hx288_0⟩ := Kd.at_int (Kd.R_reads' HO286.out).2.2 1 p288 q288; obtain rfl : ad287 = ad288 := (by injection e288); (try simp only [show (1 : Int).toNat = 1 from rfl, Nat.reduceMul, Nat.reduceEqDiff, Go.Addr.add, ↓reduceIte] at hx288_0); have qi288 : (1 < t284.length) = True := eq_true (by omega); (try rw [show ((1 : Int)).toNat = 1 from rfl] at hx288_0); replace p288 := eq_true p288; replace q288 := eq_true q288; have p289 : 0 ≤ (2 : Int) := (by omega); have q289 : 2 < (t284.length : Int) := of_decide_eq_true (by first | (with_reducible assumption) | assumption); obtain ⟨ad289, e289, hx289_0⟩ := Kd.at_int (Kd.R_reads' HO286.out).2.2 2 p289 q289; obtain rfl : ad287 = ad289 := (by injection e289); (try simp only [show (2 : Int).toNat = 2 from rfl, Nat.reduceMul, Nat.reduceEqDiff, Go.Addr.add, ↓reduceIte] at hx289_0); have qi289 : (2 < t284.length) = True := eq_true (by omega); (try rw [show ((2 : Int)).toNat = 2 from rfl] at hx289_0); replace p289 := eq_true p289; replace q289 := eq_true q289; have p290 : 0 ≤ (3 : Int) := (by omega); have q290 : 3 < (t284.length : Int) := of_decide_eq_true (by first | (with_reducible assumption) | assumption); obtain ⟨ad290, e290, hx290_0⟩ := Kd.at_int (Kd.R_reads' HO286.out).2.2 3 p290 q290; obtain rfl : ad287 = ad290 := (by injection e290); (try simp only [show (3 : Int).toNat = 3 from rfl, Nat.reduceMul, Nat.reduceEqDiff, Go.Addr.add, ↓reduceIte] at hx290_0); have qi290 : (3 < t284.length) = True := eq_true (by omega); (try rw [show ((3 : Int)).toNat = 3 from rfl] at hx290_0); replace p290 := eq_true p290; replace q290 := eq_true q290) | ((with_reducible refine gate_dst (N := 8) rfl ?_); (try (refine gate_guard (by rfl) ?_; dsimp only)); refine box_event ?hg (N := 8) ?hd (cs := #[.int .i64 0, .int .i64 0, .int .i64 0, .int .i64 0, .int .i64 0, .int .i64 0, .bool false]) (t := 25) ?hr ?_; (case hd => rfl); (case hg => rfl); (case hr => exact zg); intro gb291 hg w16 hbox hb; have n0_ := aM (Kd.R_below (Kd.R_elderB (by (with_reducible repeat (first | apply Kd.R_alloc | apply Kd.R_drewN | apply Kd.R_drew)); exact HO283.out) gb291 (Nat.le_of_eq hg.symm)) hb); have n1_ := aM (Kd.R_below (by (with_reducible repeat (first | apply Kd.R_alloc | apply Kd.R_drewN | apply Kd.R_drew)); exact HO286.out) hb); have n2_ := aM (below_step (zb) hb); have n3_ := aM (hbox); have n4_ := aM ((by rw [hg]; exact (below_size (zb)) : w.heap.size ≤ gb291)); have n5_ := aM ((by rw [hg]; exact (below_size (zb)) : w.heap.size ≤ gb291)); clear HO283; clear HO286; clear HB; have HO283 := n0_; have HO286 := n1_; have HB := n2_; have BK291 := n3_; have GW291 := n4_; have GE291 := n5_; clear n0_ n1_ n2_ n3_ n4_ n5_; clear hb hbox hg; obtain ⟨hcz17_0, hcz17_1, hcz17_2, hcz17_3, hcz17_4, hcz17_5, hcz17_6, hfz17_0, hfz17_1, hfz17_2, hfz17_3, hfz17_4, hfz17_5, hfz17_6⟩ := cells7 BK291.out; obtain ⟨Ao18, co18, eo18⟩ := Kd.R_slice HO283.out; subst eo18) | ((with_reducible refine gate_callee (f := 29) rfl ?_); refine goesL_ (some 44) rfl rfl Try.func29 (by kernel_rfl) rfl #[.slice Ao18 t281.length co18, .agg #[.int .i64 (wrap64 (1 + (Int.tmod (rd t284 1) 6))), .int .i64 30, .int .i64 0, .int .i64 (Int.tmod (rd t284 3) 3), .int .i64 0, .int .i64 100, .bool false]] rfl za ?_; (with_reducible refine (impl_AddGrant.calls k _ _ t281 (wrap64 (1 + (Int.tmod (rd t284 1) 6))) 30 0 (Int.tmod (rd t284 3) 3) 0 100 false t292 t295 _ ?side1 ?side2 A10.out).mono ?_); (case side1 => refine (Kd.R_reads' (e := 25) (base := w.heap.size) (ok := fun k_ => (True ∧ k_ ≠ gb291)) (n := t281.length) (c := co18) ?_).2.2; exact (by (with_reducible repeat (first | apply Kd.R_alloc | apply Kd.R_drewN | apply Kd.R_drew)); exact (Kd.R_mono (Kd.R_far (p := ⟨gb291, 6, none⟩) (Kd.R_far (p := ⟨gb291, 5, none⟩) (Kd.R_far (p := ⟨gb291, 4, none⟩) (Kd.R_far (p := ⟨gb291, 3, none⟩) (Kd.R_far (p := ⟨gb291, 2, none⟩) (Kd.R_far (p := ⟨gb291, 1, none⟩) (Kd.R_far (p := ⟨gb291, 0, none⟩) (Kd.R_mono HO283.out (fun k_ hk => (⟨hk, hk.2⟩ : _ ∧ k_ ≠ gb291))) (fun _ hk => hk.2) (.int .i64 (wrap64 (1 + (Int.tmod (rd t284 1) 6))))) (fun _ hk => hk.2) (.int .i64 30)) (fun _ hk => hk.2) (.int .i64 0)) (fun _ hk => hk.2) (.int .i64 (Int.tmod (rd t284 3) 3))) (fun _ hk => hk.2) (.int .i64 0)) (fun _ hk => hk.2) (.int .i64 100)) (fun _ hk => hk.2) (.bool false)) (fun _ h_ => h_.1)))); (case side2 => exact (Kd.R_reads' HO283.out).2.1); rintro e w19 ⟨v293, rfl, ho0, hb⟩; refine ⟨_, rfl, ?_⟩; have n0_ := aM (Kd.R_elder' (by (with_reducible repeat (first | apply Kd.R_alloc | apply Kd.R_drewN | apply Kd.R_drew)); exact (Kd.R_mono (Kd.R_far (p := ⟨gb291, 6, none⟩) (Kd.R_far (p := ⟨gb291, 5, none⟩) (Kd.R_far (p := ⟨gb291, 4, none⟩) (Kd.R_far (p := ⟨gb291, 3, none⟩) (Kd.R_far (p := ⟨gb291, 2, none⟩) (Kd.R_far (p := ⟨gb291, 1, none⟩) (Kd.R_far (p := ⟨gb291, 0, none⟩) (Kd.R_mono HO283.out (fun k_ hk => (⟨hk, hk.2⟩ : _ ∧ k_ ≠ gb291))) (fun _ hk => hk.2) (.int .i64 (wrap64 (1 + (Int.tmod (rd t284 1) 6))))) (fun _ hk => hk.2) (.int .i64 30)) (fun _ hk => hk.2) (.int .i64 0)) (fun _ hk => hk.2) (.int .i64 (Int.tmod (rd t284 3) 3))) (fun _ hk => hk.2) (.int .i64 0)) (fun _ hk => hk.2) (.int .i64 100)) (fun _ hk => hk.2) (.bool false)) (fun _ h_ => h_.1))) (Kd.R_base ho0) hb); have n1_ := aM (Kd.R_below (by (with_reducible repeat (first | apply Kd.R_alloc | apply Kd.R_drewN | apply Kd.R_drew)); exact (Kd.R_mono (Kd.R_far (p := ⟨gb291, 6, none⟩) (Kd.R_far (p := ⟨gb291, 5, none⟩) (Kd.R_far (p := ⟨gb291, 4, none⟩) (Kd.R_far (p := ⟨gb291, 3, none⟩) (Kd.R_far (p := ⟨gb291, 2, none⟩) (Kd.R_far (p := ⟨gb291, 1, none⟩) (Kd.R_far (p := ⟨gb291, 0, none⟩) (Kd.R_types HO286.out BK291.out (by decide)) (fun _ hk => hk.2) (.int .i64 (wrap64 (1 + (Int.tmod (rd t284 1) 6))))) (fun _ hk => hk.2) (.int .i64 30)) (fun _ hk => hk.2) (.int .i64 0)) (fun _ hk => hk.2) (.int .i64 (Int.tmod (rd t284 3) 3))) (fun _ hk => hk.2) (.int .i64 0)) (fun _ hk => hk.2) (.int .i64 100)) (fun _ hk => hk.2) (.bool false)) (fun _ h_ => h_.1))) hb); have n2_ := aM (Kd.R_lower (Kd.R_newB (Kd.R_new' ho0 (Kd.R_lt (by (with_reducible repeat (first | apply Kd.R_alloc | apply Kd.R_drewN | apply Kd.R_drew)); exact (Kd.R_mono (Kd.R_far (p := ⟨gb291, 6, none⟩) (Kd.R_far (p := ⟨gb291, 5, none⟩) (Kd.R_far (p := ⟨gb291, 4, none⟩) (Kd.R_far (p := ⟨gb291, 3, none⟩) (Kd.R_far (p := ⟨gb291, 2, none⟩) (Kd.R_far (p := ⟨gb291, 1, none⟩) (Kd.R_far (p := ⟨gb291, 0, none⟩) (Kd.R_mono HO283.out (fun k_ hk => (⟨hk, hk.2⟩ : _ ∧ k_ ≠ gb291))) (fun _ hk => hk.2) (.int .i64 (wrap64 (1 + (Int.tmod (rd t284 1) 6))))) (fun _ hk => hk.2) (.int .i64 30)) (fun _ hk => hk.2) (.int .i64 0)) (fun _ hk => hk.2) (.int .i64 (Int.tmod (rd t284 3) 3))) (fun _ hk => hk.2) (.int .i64 0)) (fun _ hk => hk.2) (.int .i64 100)) (fun _ hk => hk.2) (.bool false)) (fun _ h_ => h_.1))))) (g := gb291) (o := .cells #[.int .i64 (wrap64 (1 + (Int.tmod (rd t284 1) 6))), .int .i64 30, .int .i64 0, .int .i64 (Int.tmod (rd t284 3) 3), .int .i64 0, .int .i64 100, .bool false] 25 (0, 0)) (by refine pq ?_; refine blk_put (cs := #[.int .i64 (wrap64 (1 + (Int.tmod (rd t284 1) 6))), .int .i64 30, .int .i64 0, .int .i64 (Int.tmod (rd t284 3) 3), .int .i64 0, .int .i64 100, .bool false]) ?_ 6 _ rfl; refine pq ?_; refine blk_put (cs := #[.int .i64 (wrap64 (1 + (Int.tmod (rd t284 1) 6))), .int .i64 30, .int .i64 0, .int .i64 (Int.tmod (rd t284 3) 3), .int .i64 0, .int .i64 0, .bool false]) ?_ 5 _ rfl; refine pq ?_; refine blk_put (cs := #[.int .i64 (wrap64 (1 + (Int.tmod (rd t284 1) 6))), .int .i64 30, .int .i64 0, .int .i64 (Int.tmod (rd t284 3) 3), .int .i64 0, .int .i64 0, .bool false]) ?_ 4 _ rfl; refine pq ?_; refine blk_put (cs := #[.int .i64 (wrap64 (1 + (Int.tmod (rd t284 1) 6))), .int .i64 30, .int .i64 0, .int .i64 0, .int .i64 0, .int .i64 0, .bool false]) ?_ 3 _ rfl; refine pq ?_; refine blk_put (cs := #[.int .i64 (wrap64 (1 + (Int.tmod (rd t284 1) 6))), .int .i64 30, .int .i64 0, .int .i64 0, .int .i64 0, .int .i64 0, .bool false]) ?_ 2 _ rfl; refine pq ?_; refine blk_put (cs := #[.int .i64 (wrap64 (1 + (Int.tmod (rd t284 1) 6))), .int .i64 0, .int .i64 0, .int .i64 0, .int .i64 0, .int .i64 0, .bool false]) ?_ 1 _ rfl; refine pq ?_; refine blk_put (cs := #[.int .i64 0, .int .i64 0, .int .i64 0, .int .i64 0, .int .i64 0, .int .i64 0, .bool false]) ?_ 0 _ rfl; refine pq ?_; exact BK291.out)) (below_size (zb))); have n3_ := aM (blk_below (g := gb291) (o := .cells #[.int .i64 (wrap64 (1 + (Int.tmod (rd t284 1) 6))), .int .i64 30, .int .i64 0, .int .i64 (Int.tmod (rd t284 3) 3), .int .i64 0, .int .i64 100, .bool false] 25 (0, 0)) (by refine pq ?_; refine blk_put (cs := #[.int .i64 (wrap64 (1 + (Int.tmod (rd t284 1) 6))), .int .i64 30, .int .i64 0, .int .i64 (Int.tmod (rd t284 3) 3), .int .i64 0, .int .i64 100, .bool false]) ?_ 6 _ rfl; refine pq ?_; refine blk_put (cs := #[.int .i64 (wrap64 (1 + (Int.tmod (rd t284 1) 6))), .int .i64 30, .int .i64 0, .int .i64 (Int.tmod (rd t284 3) 3), .int .i64 0, .int .i64 0, .bool false]) ?_ 5 _ rfl; refine pq ?_; refine blk_put (cs := #[.int .i64 (wrap64 (1 + (Int.tmod (rd t284 1) 6))), .int .i64 30, .int .i64 0, .int .i64 (Int.tmod (rd t284 3) 3), .int .i64 0, .int .i64 0, .bool false]) ?_ 4 _ rfl; refine pq ?_; refine blk_put (cs := #[.int .i64 (wrap64 (1 + (Int.tmod (rd t284 1) 6))), .int .i64 30, .int .i64 0, .int .i64 0, .int .i64 0, .int .i64 0, .bool false]) ?_ 3 _ rfl; refine pq ?_; refine blk_put (cs := #[.int .i64 (wrap64 (1 + (Int.tmod (rd t284 1) 6))), .int .i64 30, .int .i64 0, .int .i64 0, .int .i64 0, .int .i64 0, .bool false]) ?_ 2 _ rfl; refine pq ?_; refine blk_put (cs := #[.int .i64 (wrap64 (1 + (Int.tmod (rd t284 1) 6))), .int .i64 0, .int .i64 0, .int .i64 0, .int .i64 0, .int .i64 0, .bool false]) ?_ 1 _ rfl; refine pq ?_; refine blk_put (cs := #[.int .i64 0, .int .i64 0, .int .i64 0, .int .i64 0, .int .i64 0, .int .i64 0, .bool false]) ?_ 0 _ rfl; refine pq ?_; exact BK291.out) hb); have n4_ := aM (below_step (zb) hb); clear HO283; clear HO286; clear BK291; clear HB; have HO283 := n0_; have HO286 := n1_; have HO294 := n2_; have BK291 := n3_; have HB := n4_; clear n0_ n1_ n2_ n3_ n4_; (try clear hb); (try clear hb2); (try clear hk); (try clear hi); (try clear ho0); obtain ⟨hcz20_0, hcz20_1, hcz20_2, hcz20_3, hcz20_4, hcz20_5, hcz20_6, hfz20_0, hfz20_1, hfz20_2, hfz20_3, hfz20_4, hfz20_5, hfz20_6⟩ := cells7 BK291.out) | ((with_reducible refine gate_callee (f := 28) rfl ?_); refine goesL_ (some 50) rfl rfl Try.func28 (by kernel_rfl) rfl #[.slice Ao18 t281.length co18, .agg #[.int .i64 (wrap64 (1 + (Int.tmod (rd t284 1) 6))), .int .i64 30, .int .i64 0, .int .i64 (Int.tmod (rd t284 3) 3), .int .i64 0, .int .i64 100, .bool false]] rfl za ?_; (with_reducible refine (spec_AddGrant.calls k _ _ t281 (wrap64 (1 + (Int.tmod (rd t284 1) 6))) 30 0 (Int.tmod (rd t284 3) 3) 0 100 false t296 t299 _ ?side1 ?side2 A11.out).mono ?_); (case side1 => repeat (first | exact (Kd.R_reads' HO283.out).2.2 | (with_reducible refine Kd.C_alloc ?_ _) | (with_reducible refine Kd.C_drewN ?_ _) | (with_reducible refine Kd.C_drew ?_))); (case side2 => exact (Kd.R_reads' HO283.out).2.1); rintro e w21 ⟨v297, rfl, ho0, hb⟩; refine ⟨_, rfl, ?_⟩; have n0_ := aM (Kd.R_elder' (by (with_reducible repeat (first | apply Kd.R_alloc | apply Kd.R_drewN | apply Kd.R_drew)); exact HO283.out) (Kd.R_base ho0) hb); have n1_ := aM (Kd.R_below (by (with_reducible repeat (first | apply Kd.R_alloc | apply Kd.R_drewN | apply Kd.R_drew)); exact HO286.out) hb); have n2_ := aM (Kd.R_elder' (by (with_reducible repeat (first | apply Kd.R_alloc | apply Kd.R_drewN | apply Kd.R_drew)); exact HO294.out) (Kd.R_base ho0) hb); have n3_ := aM (Kd.R_lower (Kd.R_newB (Kd.R_new' (Kd.R_new' ho0 (Kd.R_lt (by (with_reducible repeat (first | apply Kd.R_alloc | apply Kd.R_drewN | apply Kd.R_drew)); exact HO283.out))) (Kd.R_lt (by (with_reducible repeat (first | apply Kd.R_alloc | apply Kd.R_drewN | apply Kd.R_drew)); exact HO294.out))) (g := gb291) (o := .cells #[.int .i64 (wrap64 (1 + (Int.tmod (rd t284 1) 6))), .int .i64 30, .int .i64 0, .int .i64 (Int.tmod (rd t284 3) 3), .int .i64 0, .int .i64 100, .bool false] 25 (0, 0)) (by exact pk BK291.out)) (below_size (zb))); have n4_ := aM (bb BK291.out hb); have n5_ := aM (below_step (zb) hb); clear HO283; clear HO286; clear HO294; clear BK291; clear HB; have HO283 := n0_; have HO286 := n1_; have HO294 := n2_; have HO298 := n3_; have BK291 := n4_; have HB := n5_; clear n0_ n1_ n2_ n3_ n4_ n5_; (try clear hb); (try clear hb2); (try clear hk); (try clear hi); (try clear ho0)))
      (try simp only [Act.put, List.setIfInBounds_toArray, List.set_cons_zero, List.set_cons_succ])
      go_cut [65] (fun v65 wc => ∃ (kq : Nat) (x65_11 : Bool), v65 = .bool x65_11 ∧ Aside0 (laws_FnGranting.j0 kq t281 (wrap64 (1 + (Int.tmod (rd t284 0) 6))) (wrap64 (1 + (Int.tmod (rd t284 1) 6))) (Int.tmod (rd t284 2) 40) t296 x65_11 (wrap64 (1 + (Int.tmod (rd t284 1) 6))) 30 0 (Int.tmod (rd t284 3) 3) 0 100 false = some r) ∧ Aside0 (kq ≤ k) ∧ Aside0 (Kd.R k25 25 wc w.heap.size (fun k_ => some k_ ≠ (v297 : Value).ownBlock ∧ k_ ≠ gb291) (.slice Ao18 t281.length co18) t281) ∧ Aside0 (Kd.R k25 25 wc w.heap.size (fun k_ => some k_ ≠ ((.slice Ao18 t281.length co18) : Value).ownBlock ∧ k_ ≠ gb291) v297 t296) ∧ Aside0 (wc.heap[gb291]? = some (.cells #[.int .i64 (wrap64 (1 + (Int.tmod (rd t284 1) 6))), .int .i64 30, .int .i64 0, .int .i64 (Int.tmod (rd t284 3) 3), .int .i64 0, .int .i64 100, .bool false] 25 (0, 0))) ∧ Aside0 (Below w.heap.size w wc))
      case first =>
       have H := HC12.out
       clear HC12
       by_cases c22 : (t295 != t299) = true
       ·rw [if_pos c22] at H
        have c22b0 : (t295 != t299) = true := c22
        (try (have c22b1 : decide (t295 = t299) = false := by simpa using c22))
        (try (have c22b2 : (t295 == t299) = false := by simpa using c22))
        (try (have c22b3 : ¬ (t295 = t299) := by simpa using c22))
        clear c22
        (first | rw [c22b0] | (simp only [i64_w, i32_w]; rw [c22b0]) | skip)
        have H' := aM H
        clear H
        go_wp2
        go_meet
        case rel => exact ⟨_, (true), zs, H', ⟨by first | omega | exact Nat.le_refl _⟩, ⟨by (with_reducible repeat (first | apply Kd.R_alloc | apply Kd.R_drewN | apply Kd.R_drew)); exact Kd.R_mono HO283.out (fun _ hk => ⟨hk.2, hk.1.1.2⟩)⟩, ⟨by (with_reducible repeat (first | apply Kd.R_alloc | apply Kd.R_drewN | apply Kd.R_drew)); exact Kd.R_mono HO298.out (fun _ hk => ⟨hk.1.1.2, hk.2⟩)⟩, ⟨by exact pk BK291.out⟩, ⟨zb⟩⟩
       ·rw [if_neg c22] at H
        have c22b0 : (t295 != t299) = false := by simpa using c22
        (try (have c22b1 : decide (t295 = t299) = true := by simpa using c22))
        (try (have c22b2 : (t295 == t299) = true := by simpa using c22))
        clear c22
        (first | rw [c22b0] | (simp only [i64_w, i32_w]; rw [c22b0]) | skip)
        replace H := Option.bind_eq_some_iff.mp H
        obtain ⟨t300, A230, H⟩ := H
        replace H : (if t300 = true then (laws_FnGranting.j0 k t281 (wrap64 (1 + (Int.tmod (rd t284 0) 6))) (wrap64 (1 + (Int.tmod (rd t284 1) 6))) (Int.tmod (rd t284 2) 40) t296 (!t295) (wrap64 (1 + (Int.tmod (rd t284 1) 6))) 30 0 (Int.tmod (rd t284 3) 3) 0 100 false) else (laws_FnGranting.j0 k t281 (wrap64 (1 + (Int.tmod (rd t284 0) 6))) (wrap64 (1 + (Int.tmod (rd t284 1) 6))) (Int.tmod (rd t284 2) 40) t296 true (wrap64 (1 + (Int.tmod (rd t284 1) 6))) 30 0 (Int.tmod (rd t284 3) 3) 0 100 false)) = some r := H
        have A23 := aM A230
        clear A230
        by_cases c24 : t300 = true
        ·subst c24
         have H1 : (laws_FnGranting.j0 k t281 (wrap64 (1 + (Int.tmod (rd t284 0) 6))) (wrap64 (1 + (Int.tmod (rd t284 1) 6))) (Int.tmod (rd t284 2) 40) t296 (!t295) (wrap64 (1 + (Int.tmod (rd t284 1) 6))) 30 0 (Int.tmod (rd t284 3) 3) 0 100 false) = some r := by rw [if_pos rfl] at H; exact H
         clear H
         have H := H1
         clear H1
         have H' := aM H
         clear H
         obtain ⟨Ao25, co25, eo25⟩ := Kd.R_slice HO294.out
         subst eo25
         obtain ⟨Ao26, co26, eo26⟩ := Kd.R_slice HO298.out
         subst eo26
         go_wp2_with (first | (go_at_call 55; (with_reducible refine (laws_sameGrants.calls k _ _ t292 _ _ t296 true _ ?side1 ?side2 ?side3 ?side4 A23.out).mono ?_); (case side1 => repeat (first | exact (Kd.R_reads' HO294.out).2.2 | (with_reducible refine Kd.C_alloc ?_ _) | (with_reducible refine Kd.C_drewN ?_ _) | (with_reducible refine Kd.C_drew ?_))); (case side2 => exact (Kd.R_reads' HO294.out).2.1); (case side3 => repeat (first | exact (Kd.R_reads' HO298.out).2.2 | (with_reducible refine Kd.C_alloc ?_ _) | (with_reducible refine Kd.C_drewN ?_ _) | (with_reducible refine Kd.C_drew ?_))); (case side4 => exact (Kd.R_reads' HO298.out).2.1); rintro e w' ⟨rfl, ⟨nd, rfl⟩⟩))
         go_meet
         case rel => exact ⟨_, (!t295), zs, H', ⟨by first | omega | exact Nat.le_refl _⟩, ⟨by (with_reducible repeat (first | apply Kd.R_alloc | apply Kd.R_drewN | apply Kd.R_drew)); exact Kd.R_mono HO283.out (fun _ hk => ⟨hk.2, hk.1.1.2⟩)⟩, ⟨by (with_reducible repeat (first | apply Kd.R_alloc | apply Kd.R_drewN | apply Kd.R_drew)); exact Kd.R_mono HO298.out (fun _ hk => ⟨hk.1.1.2, hk.2⟩)⟩, ⟨by exact pk BK291.out⟩, ⟨zb⟩⟩
        ·replace c24 := Bool.eq_false_iff.mpr c24
         subst c24
         have H1 : (laws_FnGranting.j0 k t281 (wrap64 (1 + (Int.tmod (rd t284 0) 6))) (wrap64 (1 + (Int.tmod (rd t284 1) 6))) (Int.tmod (rd t284 2) 40) t296 true (wrap64 (1 + (Int.tmod (rd t284 1) 6))) 30 0 (Int.tmod (rd t284 3) 3) 0 100 false) = some r := by rw [if_neg (show ¬ (false = true) by decide)] at H; exact H
         clear H
         have H := H1
         clear H1
         have H' := aM H
         clear H
         obtain ⟨Ao27, co27, eo27⟩ := Kd.R_slice HO294.out
         subst eo27
         obtain ⟨Ao28, co28, eo28⟩ := Kd.R_slice HO298.out
         subst eo28
         go_wp2_with (first | (go_at_call 55; (with_reducible refine (laws_sameGrants.calls k _ _ t292 _ _ t296 false _ ?side1 ?side2 ?side3 ?side4 A23.out).mono ?_); (case side1 => repeat (first | exact (Kd.R_reads' HO294.out).2.2 | (with_reducible refine Kd.C_alloc ?_ _) | (with_reducible refine Kd.C_drewN ?_ _) | (with_reducible refine Kd.C_drew ?_))); (case side2 => exact (Kd.R_reads' HO294.out).2.1); (case side3 => repeat (first | exact (Kd.R_reads' HO298.out).2.2 | (with_reducible refine Kd.C_alloc ?_ _) | (with_reducible refine Kd.C_drewN ?_ _) | (with_reducible refine Kd.C_drew ?_))); (case side4 => exact (Kd.R_reads' HO298.out).2.1); rintro e w' ⟨rfl, ⟨nd, rfl⟩⟩))
         go_meet
         case rel => exact ⟨_, (true), zs, H', ⟨by first | omega | exact Nat.le_refl _⟩, ⟨by (with_reducible repeat (first | apply Kd.R_alloc | apply Kd.R_drewN | apply Kd.R_drew)); exact Kd.R_mono HO283.out (fun _ hk => ⟨hk.2, hk.1.1.2⟩)⟩, ⟨by (with_reducible repeat (first | apply Kd.R_alloc | apply Kd.R_drewN | apply Kd.R_drew)); exact Kd.R_mono HO298.out (fun _ hk => ⟨hk.1.1.2, hk.2⟩)⟩, ⟨by exact pk BK291.out⟩, ⟨zb⟩⟩
      case rest =>
       clear HC12
       try clear c1
       try clear c2
       try clear p2
       try clear q2
       try clear hx2
       try clear qi2
       try clear c3
       try clear c5
       try clear c6
       try clear c6b0
       try clear c6b1
       try clear p6
       try clear c7
       try clear c7b0
       try clear c7b1
       try clear c8
       try clear c8b0
       try clear c8b1
       try clear c9
       try clear c9b0
       try clear c9b1
       try clear c15
       try clear c22
       try clear c22b0
       try clear c22b1
       try clear c22b2
       try clear c24
       try clear c28
       try clear p28
       try clear q28
       try clear hx28
       try clear qi28
       try clear hcz17_0 hcz17_1 hcz17_2 hcz17_3 hcz17_4 hcz17_5 hcz17_6 hfz17_0 hfz17_1 hfz17_2 hfz17_3 hfz17_4 hfz17_5 hfz17_6
       try clear hcz20_0 hcz20_1 hcz20_2 hcz20_3 hcz20_4 hcz20_5 hcz20_6 hfz20_0 hfz20_1 hfz20_2 hfz20_3 hfz20_4 hfz20_5 hfz20_6
       try clear hx287_0
       try clear hx288_0
       try clear hx289_0
       try clear hx290_0
       try clear p287
       try clear p288
       try clear p289
       try clear p290
       try clear q287
       try clear q288
       try clear q289
       try clear q290
       obtain ⟨kq, x65_11, rfl, HA, HJ11, HO_3, HO_11, BK291, HB⟩ := hcut
       cases kq with
       | zero => exact absurd HA.out (by simp [laws_FnGranting.j0])
       | succ kj11 =>
        have H := HA.out
        clear HA
        simp only [laws_FnGranting.j0] at H
        by_cases c29 : x65_11 = true
        ·subst c29
         have H1 : (none) = some r := by rw [if_pos rfl] at H; exact H
         clear H
         have H := H1
         clear H1
         exact absurd H (by simp)
        ·replace c29 := Bool.eq_false_iff.mpr c29
         subst c29
         have H1 : ((impl_SpareOf.f kj11 t281 (wrap64 (1 + (Int.tmod (rd t284 0) 6))) (wrap64 (1 + (Int.tmod (rd t284 1) 6))) 1 (Int.tmod (rd t284 2) 40)).bind fun t301 => ((spec_SpareOf.f kj11 t281 (wrap64 (1 + (Int.tmod (rd t284 0) 6))) (wrap64 (1 + (Int.tmod (rd t284 1) 6))) 1 (Int.tmod (rd t284 2) 40)).bind fun t302 => (if t301 = t302 then ((impl_MayTake.f kj11 t281 (wrap64 (1 + (Int.tmod (rd t284 0) 6))) (wrap64 (1 + (Int.tmod (rd t284 1) 6))) 1 (Int.tmod (rd t284 2) 40)).bind fun t303 => (if ((decide (t301 ≥ 0)) != t303) = true then (laws_FnGranting.j1 kj11 t281 (wrap64 (1 + (Int.tmod (rd t284 0) 6))) (Int.tmod (rd t284 2) 40) t296 t301 true (wrap64 (1 + (Int.tmod (rd t284 1) 6))) 30 0 (Int.tmod (rd t284 3) 3) 0 100 false) else (if (wrap64 (1 + (Int.tmod (rd t284 0) 6))) = (wrap64 (1 + (Int.tmod (rd t284 1) 6))) then (laws_FnGranting.j1 kj11 t281 (wrap64 (1 + (Int.tmod (rd t284 0) 6))) (Int.tmod (rd t284 2) 40) t296 t301 (t301 != 5) (wrap64 (1 + (Int.tmod (rd t284 1) 6))) 30 0 (Int.tmod (rd t284 3) 3) 0 100 false) else (laws_FnGranting.j1 kj11 t281 (wrap64 (1 + (Int.tmod (rd t284 0) 6))) (Int.tmod (rd t284 2) 40) t296 t301 false (wrap64 (1 + (Int.tmod (rd t284 1) 6))) 30 0 (Int.tmod (rd t284 3) 3) 0 100 false)))) else (laws_FnGranting.j1 kj11 t281 (wrap64 (1 + (Int.tmod (rd t284 0) 6))) (Int.tmod (rd t284 2) 40) t296 t301 true (wrap64 (1 + (Int.tmod (rd t284 1) 6))) 30 0 (Int.tmod (rd t284 3) 3) 0 100 false)))) = some r := by rw [if_neg (show ¬ (false = true) by decide)] at H; exact H
         clear H
         have H := H1
         clear H1
         replace H := Option.bind_eq_some_iff.mp H
         obtain ⟨t301, A300, H⟩ := H
         replace H : ((spec_SpareOf.f kj11 t281 (wrap64 (1 + (Int.tmod (rd t284 0) 6))) (wrap64 (1 + (Int.tmod (rd t284 1) 6))) 1 (Int.tmod (rd t284 2) 40)).bind fun t302 => (if t301 = t302 then ((impl_MayTake.f kj11 t281 (wrap64 (1 + (Int.tmod (rd t284 0) 6))) (wrap64 (1 + (Int.tmod (rd t284 1) 6))) 1 (Int.tmod (rd t284 2) 40)).bind fun t303 => (if ((decide (t301 ≥ 0)) != t303) = true then (laws_FnGranting.j1 kj11 t281 (wrap64 (1 + (Int.tmod (rd t284 0) 6))) (Int.tmod (rd t284 2) 40) t296 t301 true (wrap64 (1 + (Int.tmod (rd t284 1) 6))) 30 0 (Int.tmod (rd t284 3) 3) 0 100 false) else (if (wrap64 (1 + (Int.tmod (rd t284 0) 6))) = (wrap64 (1 + (Int.tmod (rd t284 1) 6))) then (laws_FnGranting.j1 kj11 t281 (wrap64 (1 + (Int.tmod (rd t284 0) 6))) (Int.tmod (rd t284 2) 40) t296 t301 (t301 != 5) (wrap64 (1 + (Int.tmod (rd t284 1) 6))) 30 0 (Int.tmod (rd t284 3) 3) 0 100 false) else (laws_FnGranting.j1 kj11 t281 (wrap64 (1 + (Int.tmod (rd t284 0) 6))) (Int.tmod (rd t284 2) 40) t296 t301 false (wrap64 (1 + (Int.tmod (rd t284 1) 6))) 30 0 (Int.tmod (rd t284 3) 3) 0 100 false)))) else (laws_FnGranting.j1 kj11 t281 (wrap64 (1 + (Int.tmod (rd t284 0) 6))) (Int.tmod (rd t284 2) 40) t296 t301 true (wrap64 (1 + (Int.tmod (rd t284 1) 6))) 30 0 (Int.tmod (rd t284 3) 3) 0 100 false))) = some r := H
         have A30 := aM A300
         clear A300
         have HC31 := aM H
         clear H
         go_upto_region 14 with (first | ((with_reducible refine gate_callee (f := 46) rfl ?_); refine goesL_ (some 70) rfl rfl Try.func46 (by kernel_rfl) rfl #[.slice Ao18 t281.length co18, .int .i64 (wrap64 (1 + (Int.tmod (rd t284 0) 6))), .int .i64 (wrap64 (1 + (Int.tmod (rd t284 1) 6))), .int .i64 1, .int .i64 (Int.tmod (rd t284 2) 40)] rfl za ?_; (with_reducible refine (impl_SpareOf.calls kj11 _ _ t281 (wrap64 (1 + (Int.tmod (rd t284 0) 6))) (wrap64 (1 + (Int.tmod (rd t284 1) 6))) 1 (Int.tmod (rd t284 2) 40) t301 _ ?side1 ?side2 A30.out).mono ?_); (case side1 => repeat (first | exact (Kd.R_reads' HO_3.out).2.2 | (with_reducible refine Kd.C_alloc ?_ _) | (with_reducible refine Kd.C_drewN ?_ _) | (with_reducible refine Kd.C_drew ?_))); (case side2 => exact (Kd.R_reads' HO_3.out).2.1); rintro e w32 ⟨rfl, hb⟩; refine ⟨_, rfl, ?_⟩; have n0_ := aM (Kd.R_below (by (with_reducible repeat (first | apply Kd.R_alloc | apply Kd.R_drewN | apply Kd.R_drew)); exact HO_3.out) hb); have n1_ := aM (Kd.R_below (by (with_reducible repeat (first | apply Kd.R_alloc | apply Kd.R_drewN | apply Kd.R_drew)); exact HO_11.out) hb); have n2_ := aM (bb BK291.out hb); have n3_ := aM (below_step (zb) hb); clear HO_3; clear HO_11; clear BK291; clear HB; have HO_3 := n0_; have HO_11 := n1_; have BK291 := n2_; have HB := n3_; clear n0_ n1_ n2_ n3_; (try clear hb); (try clear hb2); (try clear hk); (try clear hi)))
         (try simp only [Act.put, List.setIfInBounds_toArray, List.set_cons_zero, List.set_cons_succ])
         go_cut [96] (fun v96 wc => ∃ (kq : Nat) (x96_30 : Bool), v96 = .bool x96_30 ∧ Aside0 (laws_FnGranting.j1 kq t281 (wrap64 (1 + (Int.tmod (rd t284 0) 6))) (Int.tmod (rd t284 2) 40) t296 t301 x96_30 (wrap64 (1 + (Int.tmod (rd t284 1) 6))) 30 0 (Int.tmod (rd t284 3) 3) 0 100 false = some r) ∧ Aside0 (kq ≤ kj11) ∧ Aside0 (Kd.R k25 25 wc w.heap.size (fun k_ => some k_ ≠ (v297 : Value).ownBlock ∧ k_ ≠ gb291) (.slice Ao18 t281.length co18) t281) ∧ Aside0 (Kd.R k25 25 wc w.heap.size (fun k_ => some k_ ≠ ((.slice Ao18 t281.length co18) : Value).ownBlock ∧ k_ ≠ gb291) v297 t296) ∧ Aside0 (wc.heap[gb291]? = some (.cells #[.int .i64 (wrap64 (1 + (Int.tmod (rd t284 1) 6))), .int .i64 30, .int .i64 0, .int .i64 (Int.tmod (rd t284 3) 3), .int .i64 0, .int .i64 100, .bool false] 25 (0, 0))) ∧ Aside0 (Below w.heap.size w wc))
         case first =>
          have H := HC31.out
          clear HC31
          replace H := Option.bind_eq_some_iff.mp H
          obtain ⟨t302, A330, H⟩ := H
          replace H : (if t301 = t302 then ((impl_MayTake.f kj11 t281 (wrap64 (1 + (Int.tmod (rd t284 0) 6))) (wrap64 (1 + (Int.tmod (rd t284 1) 6))) 1 (Int.tmod (rd t284 2) 40)).bind fun t303 => (if ((decide (t301 ≥ 0)) != t303) = true then (laws_FnGranting.j1 kj11 t281 (wrap64 (1 + (Int.tmod (rd t284 0) 6))) (Int.tmod (rd t284 2) 40) t296 t301 true (wrap64 (1 + (Int.tmod (rd t284 1) 6))) 30 0 (Int.tmod (rd t284 3) 3) 0 100 false) else (if (wrap64 (1 + (Int.tmod (rd t284 0) 6))) = (wrap64 (1 + (Int.tmod (rd t284 1) 6))) then (laws_FnGranting.j1 kj11 t281 (wrap64 (1 + (Int.tmod (rd t284 0) 6))) (Int.tmod (rd t284 2) 40) t296 t301 (t301 != 5) (wrap64 (1 + (Int.tmod (rd t284 1) 6))) 30 0 (Int.tmod (rd t284 3) 3) 0 100 false) else (laws_FnGranting.j1 kj11 t281 (wrap64 (1 + (Int.tmod (rd t284 0) 6))) (Int.tmod (rd t284 2) 40) t296 t301 false (wrap64 (1 + (Int.tmod (rd t284 1) 6))) 30 0 (Int.tmod (rd t284 3) 3) 0 100 false)))) else (laws_FnGranting.j1 kj11 t281 (wrap64 (1 + (Int.tmod (rd t284 0) 6))) (Int.tmod (rd t284 2) 40) t296 t301 true (wrap64 (1 + (Int.tmod (rd t284 1) 6))) 30 0 (Int.tmod (rd t284 3) 3) 0 100 false)) = some r := H
          have A33 := aM A330
          clear A330
          by_cases c34 : t301 = t302
          ·rw [if_pos c34] at H
           have c34b0 : (t301 == t302) = true := beq_iff_eq.mpr c34
           have c34b1 : (t301 != t302) = false := bne_eq_false_iff_eq.mpr c34
           clear c34
           (first | rw [c34b0] | (simp only [i64_w, i32_w]; rw [c34b0]) | skip)
           replace H := Option.bind_eq_some_iff.mp H
           obtain ⟨t303, A350, H⟩ := H
           replace H : (if ((decide (t301 ≥ 0)) != t303) = true then (laws_FnGranting.j1 kj11 t281 (wrap64 (1 + (Int.tmod (rd t284 0) 6))) (Int.tmod (rd t284 2) 40) t296 t301 true (wrap64 (1 + (Int.tmod (rd t284 1) 6))) 30 0 (Int.tmod (rd t284 3) 3) 0 100 false) else (if (wrap64 (1 + (Int.tmod (rd t284 0) 6))) = (wrap64 (1 + (Int.tmod (rd t284 1) 6))) then (laws_FnGranting.j1 kj11 t281 (wrap64 (1 + (Int.tmod (rd t284 0) 6))) (Int.tmod (rd t284 2) 40) t296 t301 (t301 != 5) (wrap64 (1 + (Int.tmod (rd t284 1) 6))) 30 0 (Int.tmod (rd t284 3) 3) 0 100 false) else (laws_FnGranting.j1 kj11 t281 (wrap64 (1 + (Int.tmod (rd t284 0) 6))) (Int.tmod (rd t284 2) 40) t296 t301 false (wrap64 (1 + (Int.tmod (rd t284 1) 6))) 30 0 (Int.tmod (rd t284 3) 3) 0 100 false))) = some r := H
           have A35 := aM A350
           clear A350
           by_cases c36 : ((decide (t301 ≥ 0)) != t303) = true
           ·rw [if_pos c36] at H
            have c36b0 : ((decide (t301 ≥ 0)) != t303) = true := c36
            (try (have c36b1 : decide ((decide (t301 ≥ 0)) = t303) = false := by simpa using c36))
            (try (have c36b2 : ((decide (t301 ≥ 0)) == t303) = false := by simpa using c36))
            (try (have c36b3 : ¬ ((decide (t301 ≥ 0)) = t303) := by simpa using c36))
            clear c36
            have H' := aM H
            clear H
            go_wp2_with (first | ((with_reducible refine gate_callee (f := 45) rfl ?_); refine goesL_ (some 76) rfl rfl Try.func45 (by kernel_rfl) rfl #[.slice Ao18 t281.length co18, .int .i64 (wrap64 (1 + (Int.tmod (rd t284 0) 6))), .int .i64 (wrap64 (1 + (Int.tmod (rd t284 1) 6))), .int .i64 1, .int .i64 (Int.tmod (rd t284 2) 40)] rfl za ?_; (with_reducible refine (spec_SpareOf.calls kj11 _ _ t281 (wrap64 (1 + (Int.tmod (rd t284 0) 6))) (wrap64 (1 + (Int.tmod (rd t284 1) 6))) 1 (Int.tmod (rd t284 2) 40) t302 _ ?side1 ?side2 A33.out).mono ?_); (case side1 => repeat (first | exact (Kd.R_reads' HO_3.out).2.2 | (with_reducible refine Kd.C_alloc ?_ _) | (with_reducible refine Kd.C_drewN ?_ _) | (with_reducible refine Kd.C_drew ?_))); (case side2 => exact (Kd.R_reads' HO_3.out).2.1); rintro e w37 ⟨rfl, hb⟩; refine ⟨_, rfl, ?_⟩; have n0_ := aM (Kd.R_below (by (with_reducible repeat (first | apply Kd.R_alloc | apply Kd.R_drewN | apply Kd.R_drew)); exact HO_3.out) hb); have n1_ := aM (Kd.R_below (by (with_reducible repeat (first | apply Kd.R_alloc | apply Kd.R_drewN | apply Kd.R_drew)); exact HO_11.out) hb); have n2_ := aM (bb BK291.out hb); have n3_ := aM (below_step (zb) hb); clear HO_3; clear HO_11; clear BK291; clear HB; have HO_3 := n0_; have HO_11 := n1_; have BK291 := n2_; have HB := n3_; clear n0_ n1_ n2_ n3_; (try clear hb); (try clear hb2); (try clear hk); (try clear hi)) | (go_at_call 39; (with_reducible refine (impl_MayTake.calls kj11 _ _ t281 (wrap64 (1 + (Int.tmod (rd t284 0) 6))) (wrap64 (1 + (Int.tmod (rd t284 1) 6))) 1 (Int.tmod (rd t284 2) 40) t303 _ ?side1 ?side2 A35.out).mono ?_); (case side1 => repeat (first | exact (Kd.R_reads' HO_3.out).2.2 | (with_reducible refine Kd.C_alloc ?_ _) | (with_reducible refine Kd.C_drewN ?_ _) | (with_reducible refine Kd.C_drew ?_))); (case side2 => exact (Kd.R_reads' HO_3.out).2.1); rintro e w38 ⟨rfl, hb⟩; have n0_ := aM (Kd.R_below (by (with_reducible repeat (first | apply Kd.R_alloc | apply Kd.R_drewN | apply Kd.R_drew)); exact HO_3.out) hb); have n1_ := aM (Kd.R_below (by (with_reducible repeat (first | apply Kd.R_alloc | apply Kd.R_drewN | apply Kd.R_drew)); exact HO_11.out) hb); have n2_ := aM (bb BK291.out hb); have n3_ := aM (below_step (zb) hb); clear HO_3; clear HO_11; clear BK291; clear HB; have HO_3 := n0_; have HO_11 := n1_; have BK291 := n2_; have HB := n3_; clear n0_ n1_ n2_ n3_; (try clear hb); (try clear hb2); (try clear hk); (try clear hi)))
            go_meet
            case rel => exact ⟨_, (true), zs, H', ⟨by have := HJ11.out; first | omega | exact Nat.le_refl _⟩, ⟨by (with_reducible repeat (first | apply Kd.R_alloc | apply Kd.R_drewN | apply Kd.R_drew)); exact HO_3.out⟩, ⟨by (with_reducible repeat (first | apply Kd.R_alloc | apply Kd.R_drewN | apply Kd.R_drew)); exact HO_11.out⟩, ⟨by exact pk BK291.out⟩, ⟨zb⟩⟩
           ·rw [if_neg c36] at H
            have c36b0 : ((decide (t301 ≥ 0)) != t303) = false := by simpa using c36
            (try (have c36b1 : decide ((decide (t301 ≥ 0)) = t303) = true := by simpa using c36))
            (try (have c36b2 : ((decide (t301 ≥ 0)) == t303) = true := by simpa using c36))
            clear c36
            by_cases c39 : (wrap64 (1 + (Int.tmod (rd t284 0) 6))) = (wrap64 (1 + (Int.tmod (rd t284 1) 6)))
            ·rw [if_pos c39] at H
             have c39b0 : ((wrap64 (1 + (Int.tmod (rd t284 0) 6))) == (wrap64 (1 + (Int.tmod (rd t284 1) 6)))) = true := beq_iff_eq.mpr c39
             have c39b1 : ((wrap64 (1 + (Int.tmod (rd t284 0) 6))) != (wrap64 (1 + (Int.tmod (rd t284 1) 6)))) = false := bne_eq_false_iff_eq.mpr c39
             clear c39
             have H' := aM H
             clear H
             go_wp2_with (first | ((with_reducible refine gate_callee (f := 45) rfl ?_); refine goesL_ (some 76) rfl rfl Try.func45 (by kernel_rfl) rfl #[.slice Ao18 t281.length co18, .int .i64 (wrap64 (1 + (Int.tmod (rd t284 0) 6))), .int .i64 (wrap64 (1 + (Int.tmod (rd t284 1) 6))), .int .i64 1, .int .i64 (Int.tmod (rd t284 2) 40)] rfl za ?_; (with_reducible refine (spec_SpareOf.calls kj11 _ _ t281 (wrap64 (1 + (Int.tmod (rd t284 0) 6))) (wrap64 (1 + (Int.tmod (rd t284 1) 6))) 1 (Int.tmod (rd t284 2) 40) t302 _ ?side1 ?side2 A33.out).mono ?_); (case side1 => repeat (first | exact (Kd.R_reads' HO_3.out).2.2 | (with_reducible refine Kd.C_alloc ?_ _) | (with_reducible refine Kd.C_drewN ?_ _) | (with_reducible refine Kd.C_drew ?_))); (case side2 => exact (Kd.R_reads' HO_3.out).2.1); rintro e w40 ⟨rfl, hb⟩; refine ⟨_, rfl, ?_⟩; have n0_ := aM (Kd.R_below (by (with_reducible repeat (first | apply Kd.R_alloc | apply Kd.R_drewN | apply Kd.R_drew)); exact HO_3.out) hb); have n1_ := aM (Kd.R_below (by (with_reducible repeat (first | apply Kd.R_alloc | apply Kd.R_drewN | apply Kd.R_drew)); exact HO_11.out) hb); have n2_ := aM (bb BK291.out hb); have n3_ := aM (below_step (zb) hb); clear HO_3; clear HO_11; clear BK291; clear HB; have HO_3 := n0_; have HO_11 := n1_; have BK291 := n2_; have HB := n3_; clear n0_ n1_ n2_ n3_; (try clear hb); (try clear hb2); (try clear hk); (try clear hi)) | (go_at_call 39; (with_reducible refine (impl_MayTake.calls kj11 _ _ t281 (wrap64 (1 + (Int.tmod (rd t284 0) 6))) (wrap64 (1 + (Int.tmod (rd t284 1) 6))) 1 (Int.tmod (rd t284 2) 40) t303 _ ?side1 ?side2 A35.out).mono ?_); (case side1 => repeat (first | exact (Kd.R_reads' HO_3.out).2.2 | (with_reducible refine Kd.C_alloc ?_ _) | (with_reducible refine Kd.C_drewN ?_ _) | (with_reducible refine Kd.C_drew ?_))); (case side2 => exact (Kd.R_reads' HO_3.out).2.1); rintro e w41 ⟨rfl, hb⟩; have n0_ := aM (Kd.R_below (by (with_reducible repeat (first | apply Kd.R_alloc | apply Kd.R_drewN | apply Kd.R_drew)); exact HO_3.out) hb); have n1_ := aM (Kd.R_below (by (with_reducible repeat (first | apply Kd.R_alloc | apply Kd.R_drewN | apply Kd.R_drew)); exact HO_11.out) hb); have n2_ := aM (bb BK291.out hb); have n3_ := aM (below_step (zb) hb); clear HO_3; clear HO_11; clear BK291; clear HB; have HO_3 := n0_; have HO_11 := n1_; have BK291 := n2_; have HB := n3_; clear n0_ n1_ n2_ n3_; (try clear hb); (try clear hb2); (try clear hk); (try clear hi)))
             go_meet
             case rel => exact ⟨_, ((t301 != 5)), zs, H', ⟨by have := HJ11.out; first | omega | exact Nat.le_refl _⟩, ⟨by (with_reducible repeat (first | apply Kd.R_alloc | apply Kd.R_drewN | apply Kd.R_drew)); exact HO_3.out⟩, ⟨by (with_reducible repeat (first | apply Kd.R_alloc | apply Kd.R_drewN | apply Kd.R_drew)); exact HO_11.out⟩, ⟨by exact pk BK291.out⟩, ⟨zb⟩⟩
            ·rw [if_neg c39] at H
             have c39b0 : ((wrap64 (1 + (Int.tmod (rd t284 0) 6))) == (wrap64 (1 + (Int.tmod (rd t284 1) 6)))) = false := beq_eq_false_iff_ne.mpr c39
             have c39b1 : ((wrap64 (1 + (Int.tmod (rd t284 0) 6))) != (wrap64 (1 + (Int.tmod (rd t284 1) 6)))) = true := bne_iff_ne.mpr c39
             have H' := aM H
             clear H
             go_wp2_with (first | ((with_reducible refine gate_callee (f := 45) rfl ?_); refine goesL_ (some 76) rfl rfl Try.func45 (by kernel_rfl) rfl #[.slice Ao18 t281.length co18, .int .i64 (wrap64 (1 + (Int.tmod (rd t284 0) 6))), .int .i64 (wrap64 (1 + (Int.tmod (rd t284 1) 6))), .int .i64 1, .int .i64 (Int.tmod (rd t284 2) 40)] rfl za ?_; (with_reducible refine (spec_SpareOf.calls kj11 _ _ t281 (wrap64 (1 + (Int.tmod (rd t284 0) 6))) (wrap64 (1 + (Int.tmod (rd t284 1) 6))) 1 (Int.tmod (rd t284 2) 40) t302 _ ?side1 ?side2 A33.out).mono ?_); (case side1 => repeat (first | exact (Kd.R_reads' HO_3.out).2.2 | (with_reducible refine Kd.C_alloc ?_ _) | (with_reducible refine Kd.C_drewN ?_ _) | (with_reducible refine Kd.C_drew ?_))); (case side2 => exact (Kd.R_reads' HO_3.out).2.1); rintro e w42 ⟨rfl, hb⟩; refine ⟨_, rfl, ?_⟩; have n0_ := aM (Kd.R_below (by (with_reducible repeat (first | apply Kd.R_alloc | apply Kd.R_drewN | apply Kd.R_drew)); exact HO_3.out) hb); have n1_ := aM (Kd.R_below (by (with_reducible repeat (first | apply Kd.R_alloc | apply Kd.R_drewN | apply Kd.R_drew)); exact HO_11.out) hb); have n2_ := aM (bb BK291.out hb); have n3_ := aM (below_step (zb) hb); clear HO_3; clear HO_11; clear BK291; clear HB; have HO_3 := n0_; have HO_11 := n1_; have BK291 := n2_; have HB := n3_; clear n0_ n1_ n2_ n3_; (try clear hb); (try clear hb2); (try clear hk); (try clear hi)) | (go_at_call 39; (with_reducible refine (impl_MayTake.calls kj11 _ _ t281 (wrap64 (1 + (Int.tmod (rd t284 0) 6))) (wrap64 (1 + (Int.tmod (rd t284 1) 6))) 1 (Int.tmod (rd t284 2) 40) t303 _ ?side1 ?side2 A35.out).mono ?_); (case side1 => repeat (first | exact (Kd.R_reads' HO_3.out).2.2 | (with_reducible refine Kd.C_alloc ?_ _) | (with_reducible refine Kd.C_drewN ?_ _) | (with_reducible refine Kd.C_drew ?_))); (case side2 => exact (Kd.R_reads' HO_3.out).2.1); rintro e w43 ⟨rfl, hb⟩; have n0_ := aM (Kd.R_below (by (with_reducible repeat (first | apply Kd.R_alloc | apply Kd.R_drewN | apply Kd.R_drew)); exact HO_3.out) hb); have n1_ := aM (Kd.R_below (by (with_reducible repeat (first | apply Kd.R_alloc | apply Kd.R_drewN | apply Kd.R_drew)); exact HO_11.out) hb); have n2_ := aM (bb BK291.out hb); have n3_ := aM (below_step (zb) hb); clear HO_3; clear HO_11; clear BK291; clear HB; have HO_3 := n0_; have HO_11 := n1_; have BK291 := n2_; have HB := n3_; clear n0_ n1_ n2_ n3_; (try clear hb); (try clear hb2); (try clear hk); (try clear hi)))
             go_meet
             case rel => exact ⟨_, (false), zs, H', ⟨by have := HJ11.out; first | omega | exact Nat.le_refl _⟩, ⟨by (with_reducible repeat (first | apply Kd.R_alloc | apply Kd.R_drewN | apply Kd.R_drew)); exact HO_3.out⟩, ⟨by (with_reducible repeat (first | apply Kd.R_alloc | apply Kd.R_drewN | apply Kd.R_drew)); exact HO_11.out⟩, ⟨by exact pk BK291.out⟩, ⟨zb⟩⟩
          ·rw [if_neg c34] at H
           have c34b0 : (t301 == t302) = false := beq_eq_false_iff_ne.mpr c34
           have c34b1 : (t301 != t302) = true := bne_iff_ne.mpr c34
           (first | rw [c34b0] | (simp only [i64_w, i32_w]; rw [c34b0]) | skip)
           have H' := aM H
           clear H
           go_wp2_with (first | ((with_reducible refine gate_callee (f := 45) rfl ?_); refine goesL_ (some 76) rfl rfl Try.func45 (by kernel_rfl) rfl #[.slice Ao18 t281.length co18, .int .i64 (wrap64 (1 + (Int.tmod (rd t284 0) 6))), .int .i64 (wrap64 (1 + (Int.tmod (rd t284 1) 6))), .int .i64 1, .int .i64 (Int.tmod (rd t284 2) 40)] rfl za ?_; (with_reducible refine (spec_SpareOf.calls kj11 _ _ t281 (wrap64 (1 + (Int.tmod (rd t284 0) 6))) (wrap64 (1 + (Int.tmod (rd t284 1) 6))) 1 (Int.tmod (rd t284 2) 40) t302 _ ?side1 ?side2 A33.out).mono ?_); (case side1 => repeat (first | exact (Kd.R_reads' HO_3.out).2.2 | (with_reducible refine Kd.C_alloc ?_ _) | (with_reducible refine Kd.C_drewN ?_ _) | (with_reducible refine Kd.C_drew ?_))); (case side2 => exact (Kd.R_reads' HO_3.out).2.1); rintro e w44 ⟨rfl, hb⟩; refine ⟨_, rfl, ?_⟩; have n0_ := aM (Kd.R_below (by (with_reducible repeat (first | apply Kd.R_alloc | apply Kd.R_drewN | apply Kd.R_drew)); exact HO_3.out) hb); have n1_ := aM (Kd.R_below (by (with_reducible repeat (first | apply Kd.R_alloc | apply Kd.R_drewN | apply Kd.R_drew)); exact HO_11.out) hb); have n2_ := aM (bb BK291.out hb); have n3_ := aM (below_step (zb) hb); clear HO_3; clear HO_11; clear BK291; clear HB; have HO_3 := n0_; have HO_11 := n1_; have BK291 := n2_; have HB := n3_; clear n0_ n1_ n2_ n3_; (try clear hb); (try clear hb2); (try clear hk); (try clear hi)))
           go_meet
           case rel => exact ⟨_, (true), zs, H', ⟨by have := HJ11.out; first | omega | exact Nat.le_refl _⟩, ⟨by (with_reducible repeat (first | apply Kd.R_alloc | apply Kd.R_drewN | apply Kd.R_drew)); exact HO_3.out⟩, ⟨by (with_reducible repeat (first | apply Kd.R_alloc | apply Kd.R_drewN | apply Kd.R_drew)); exact HO_11.out⟩, ⟨by exact pk BK291.out⟩, ⟨zb⟩⟩
         case rest =>
          clear HC31
          try clear c1
          try clear c2
          try clear p2
          try clear q2
          try clear hx2
          try clear qi2
          try clear c3
          try clear c4
          try clear c5
          try clear c6
          try clear c6b0
          try clear c6b1
          try clear p6
          try clear c7
          try clear c7b0
          try clear c7b1
          try clear c8
          try clear c8b0
          try clear c8b1
          try clear c9
          try clear c9b0
          try clear c9b1
          try clear c15
          try clear c22
          try clear c22b0
          try clear c22b1
          try clear c22b2
          try clear c24
          try clear c28
          try clear p28
          try clear q28
          try clear hx28
          try clear qi28
          try clear c29
          try clear p29
          try clear q29
          try clear hx29
          try clear qi29
          try clear c34
          try clear c34b0
          try clear c34b1
          try clear c36
          try clear c36b0
          try clear c36b1
          try clear c36b2
          try clear c39
          try clear c39b0
          try clear c39b1
          try clear hcz17_0 hcz17_1 hcz17_2 hcz17_3 hcz17_4 hcz17_5 hcz17_6 hfz17_0 hfz17_1 hfz17_2 hfz17_3 hfz17_4 hfz17_5 hfz17_6
          try clear hcz20_0 hcz20_1 hcz20_2 hcz20_3 hcz20_4 hcz20_5 hcz20_6 hfz20_0 hfz20_1 hfz20_2 hfz20_3 hfz20_4 hfz20_5 hfz20_6
          try clear hx287_0
          try clear hx288_0
          try clear hx289_0
          try clear hx290_0
          try clear p2
          try clear p28
          try clear p287
          try clear p288
          try clear p289
          try clear p290
          try clear p6
          try clear q2
          try clear q28
          try clear q287
          try clear q288
          try clear q289
          try clear q290
          obtain ⟨kq, x96_30, rfl, HA, HJ30, HO_3, HO_11, BK291, HB⟩ := hcut
          cases kq with
          | zero => exact absurd HA.out (by simp [laws_FnGranting.j1])
          | succ kj30 =>
           have H := HA.out
           clear HA
           simp only [laws_FnGranting.j1] at H
           by_cases c45 : x96_30 = true
           ·subst c45
            have H1 : (none) = some r := by rw [if_pos rfl] at H; exact H
            clear H
            have H := H1
            clear H1
            exact absurd H (by simp)
           ·replace c45 := Bool.eq_false_iff.mpr c45
            subst c45
            have H1 : (laws_FnGranting.l0 kj30 t281 (wrap64 (1 + (Int.tmod (rd t284 0) 6))) (Int.tmod (rd t284 2) 40) t296 t301 1 (wrap64 (1 + (Int.tmod (rd t284 1) 6))) 30 0 (Int.tmod (rd t284 3) 3) 0 100 false) = some r := by rw [if_neg (show ¬ (false = true) by decide)] at H; exact H
            clear H
            have H := H1
            clear H1
            have H' := aM H
            clear H
            go_wp2
            go_loopg [14] kj30 (fun kq v14 w' => ∃ (x14_3 : Int), v14 = .int .i64 x14_3 ∧ Aside0 (laws_FnGranting.l0 kq t281 (wrap64 (1 + (Int.tmod (rd t284 0) 6))) (Int.tmod (rd t284 2) 40) t296 t301 x14_3 (wrap64 (1 + (Int.tmod (rd t284 1) 6))) 30 0 (Int.tmod (rd t284 3) 3) 0 100 false = some r) ∧ Aside0 (kq ≤ kj30) ∧ Aside0 (Kd.R k25 25 w' w.heap.size (fun k_ => some k_ ≠ (v297 : Value).ownBlock ∧ k_ ≠ gb291) (.slice Ao18 t281.length co18) t281) ∧ Aside0 (Kd.R k25 25 w' w.heap.size (fun k_ => some k_ ≠ ((.slice Ao18 t281.length co18) : Value).ownBlock ∧ k_ ≠ gb291) v297 t296) ∧ Aside0 (w'.heap[gb291]? = some (.cells #[.int .i64 (wrap64 (1 + (Int.tmod (rd t284 1) 6))), .int .i64 30, .int .i64 0, .int .i64 (Int.tmod (rd t284 3) 3), .int .i64 0, .int .i64 100, .bool false] 25 (0, 0))) ∧ Aside0 (Below w.heap.size w w'))
            case atStart => exact ⟨(1), zs, H', ⟨Nat.le_refl _⟩, ⟨by (with_reducible repeat (first | apply Kd.R_alloc | apply Kd.R_drewN | apply Kd.R_drew)); exact HO_3.out⟩, ⟨by (with_reducible repeat (first | apply Kd.R_alloc | apply Kd.R_drewN | apply Kd.R_drew)); exact HO_11.out⟩, ⟨by exact pk BK291.out⟩, ⟨zb⟩⟩
            case round =>
             clear H'
             try clear c1
             try clear c2
             try clear p2
             try clear q2
             try clear hx2
             try clear qi2
             try clear c3
             try clear c4
             try clear c5
             try clear c6
             try clear c6b0
             try clear c6b1
             try clear p6
             try clear c7
             try clear c7b0
             try clear c7b1
             try clear c8
             try clear c8b0
             try clear c8b1
             try clear c9
             try clear c9b0
             try clear c9b1
             try clear c15
             try clear c22
             try clear c22b0
             try clear c22b1
             try clear c22b2
             try clear c24
             try clear c28
             try clear p28
             try clear q28
             try clear hx28
             try clear qi28
             try clear c29
             try clear p29
             try clear q29
             try clear hx29
             try clear qi29
             try clear c34
             try clear c34b0
             try clear c34b1
             try clear c36
             try clear c36b0
             try clear c36b1
             try clear c36b2
             try clear c39
             try clear c39b0
             try clear c39b1
             try clear c45
             try clear hcz17_0 hcz17_1 hcz17_2 hcz17_3 hcz17_4 hcz17_5 hcz17_6 hfz17_0 hfz17_1 hfz17_2 hfz17_3 hfz17_4 hfz17_5 hfz17_6
             try clear hcz20_0 hcz20_1 hcz20_2 hcz20_3 hcz20_4 hcz20_5 hcz20_6 hfz20_0 hfz20_1 hfz20_2 hfz20_3 hfz20_4 hfz20_5 hfz20_6
             try clear hx287_0
             try clear hx288_0
             try clear hx289_0
             try clear hx290_0
             try clear p2
             try clear p28
             try clear p287
             try clear p288
             try clear p289
             try clear p29
             try clear p290
             try clear p6
             try clear q2
             try clear q28
             try clear q287
             try clear q288
             try clear q289
             try clear q29
             try clear q290
             obtain ⟨x14_3, rfl, HA, HK3, HO_3, HO_11, BK291, HB⟩ := hrel
             cases gk with
             | zero => exact absurd HA.out (by simp [laws_FnGranting.l0])
             | succ k3 =>
              have H := HA.out
              clear HA
              simp only [laws_FnGranting.l0] at H
              by_cases c46 : x14_3 ≤ 7
              ·rw [if_pos c46] at H
               have c46b0 : decide (x14_3 ≤ 7) = true := decide_eq_true c46
               clear c46
               replace H := Option.bind_eq_some_iff.mp H
               obtain ⟨t307, A470, H⟩ := H
               replace H : (if t307 = true then ((impl_MayTake.f k3 t296 (wrap64 (1 + (Int.tmod (rd t284 0) 6))) x14_3 1 (Int.tmod (rd t284 2) 40)).bind fun t308 => (if t308 = true then (laws_FnGranting.l0 k3 t281 (wrap64 (1 + (Int.tmod (rd t284 0) 6))) (Int.tmod (rd t284 2) 40) t296 t301 (wrap64 (x14_3 + 1)) (wrap64 (1 + (Int.tmod (rd t284 1) 6))) 30 0 (Int.tmod (rd t284 3) 3) 0 100 false) else (none))) else (laws_FnGranting.l0 k3 t281 (wrap64 (1 + (Int.tmod (rd t284 0) 6))) (Int.tmod (rd t284 2) 40) t296 t301 (wrap64 (x14_3 + 1)) (wrap64 (1 + (Int.tmod (rd t284 1) 6))) 30 0 (Int.tmod (rd t284 3) 3) 0 100 false)) = some r := H
               have A47 := aM A470
               clear A470
               by_cases c48 : t307 = true
               ·subst c48
                have H1 : ((impl_MayTake.f k3 t296 (wrap64 (1 + (Int.tmod (rd t284 0) 6))) x14_3 1 (Int.tmod (rd t284 2) 40)).bind fun t308 => (if t308 = true then (laws_FnGranting.l0 k3 t281 (wrap64 (1 + (Int.tmod (rd t284 0) 6))) (Int.tmod (rd t284 2) 40) t296 t301 (wrap64 (x14_3 + 1)) (wrap64 (1 + (Int.tmod (rd t284 1) 6))) 30 0 (Int.tmod (rd t284 3) 3) 0 100 false) else (none))) = some r := by rw [if_pos rfl] at H; exact H
                clear H
                have H := H1
                clear H1
                replace H := Option.bind_eq_some_iff.mp H
                obtain ⟨t308, A490, H⟩ := H
                replace H : (if t308 = true then (laws_FnGranting.l0 k3 t281 (wrap64 (1 + (Int.tmod (rd t284 0) 6))) (Int.tmod (rd t284 2) 40) t296 t301 (wrap64 (x14_3 + 1)) (wrap64 (1 + (Int.tmod (rd t284 1) 6))) 30 0 (Int.tmod (rd t284 3) 3) 0 100 false) else (none)) = some r := H
                have A49 := aM A490
                clear A490
                by_cases c50 : t308 = true
                ·subst c50
                 have H1 : (laws_FnGranting.l0 k3 t281 (wrap64 (1 + (Int.tmod (rd t284 0) 6))) (Int.tmod (rd t284 2) 40) t296 t301 (wrap64 (x14_3 + 1)) (wrap64 (1 + (Int.tmod (rd t284 1) 6))) 30 0 (Int.tmod (rd t284 3) 3) 0 100 false) = some r := by rw [if_pos rfl] at H; exact H
                 clear H
                 have H := H1
                 clear H1
                 have H' := aM H
                 clear H
                 go_wp2_with (first | ((with_reducible refine gate_callee (f := 39) rfl ?_); refine goesL_ (some 105) rfl rfl Try.func39 (by kernel_rfl) rfl #[.slice Ao18 t281.length co18, .int .i64 (wrap64 (1 + (Int.tmod (rd t284 0) 6))), .int .i64 x14_3, .int .i64 1, .int .i64 (Int.tmod (rd t284 2) 40)] rfl za ?_; (with_reducible refine (impl_MayTake.calls k3 _ _ t281 (wrap64 (1 + (Int.tmod (rd t284 0) 6))) x14_3 1 (Int.tmod (rd t284 2) 40) true _ ?side1 ?side2 A47.out).mono ?_); (case side1 => repeat (first | exact (Kd.R_reads' HO_3.out).2.2 | (with_reducible refine Kd.C_alloc ?_ _) | (with_reducible refine Kd.C_drewN ?_ _) | (with_reducible refine Kd.C_drew ?_))); (case side2 => exact (Kd.R_reads' HO_3.out).2.1); rintro e w51 ⟨rfl, hb⟩; refine ⟨_, rfl, ?_⟩; have n0_ := aM (Kd.R_below (by (with_reducible repeat (first | apply Kd.R_alloc | apply Kd.R_drewN | apply Kd.R_drew)); exact HO_3.out) hb); have n1_ := aM (Kd.R_below (by (with_reducible repeat (first | apply Kd.R_alloc | apply Kd.R_drewN | apply Kd.R_drew)); exact HO_11.out) hb); have n2_ := aM (bb BK291.out hb); have n3_ := aM (below_step (zb) hb); clear HO_3; clear HO_11; clear BK291; clear HB; have HO_3 := n0_; have HO_11 := n1_; have BK291 := n2_; have HB := n3_; clear n0_ n1_ n2_ n3_; (try clear hb); (try clear hb2); (try clear hk); (try clear hi); obtain ⟨Ao52, co52, eo52⟩ := Kd.R_slice HO_11.out; subst eo52) | (go_at_call 39; (with_reducible refine (impl_MayTake.calls k3 _ _ t296 (wrap64 (1 + (Int.tmod (rd t284 0) 6))) x14_3 1 (Int.tmod (rd t284 2) 40) true _ ?side1 ?side2 A49.out).mono ?_); (case side1 => repeat (first | exact (Kd.R_reads' HO_11.out).2.2 | (with_reducible refine Kd.C_alloc ?_ _) | (with_reducible refine Kd.C_drewN ?_ _) | (with_reducible refine Kd.C_drew ?_))); (case side2 => exact (Kd.R_reads' HO_11.out).2.1); rintro e w53 ⟨rfl, hb⟩; have n0_ := aM (Kd.R_below (by (with_reducible repeat (first | apply Kd.R_alloc | apply Kd.R_drewN | apply Kd.R_drew)); exact HO_3.out) hb); have n1_ := aM (Kd.R_below (by (with_reducible repeat (first | apply Kd.R_alloc | apply Kd.R_drewN | apply Kd.R_drew)); exact HO_11.out) hb); have n2_ := aM (bb BK291.out hb); have n3_ := aM (below_step (zb) hb); clear HO_3; clear HO_11; clear BK291; clear HB; have HO_3 := n0_; have HO_11 := n1_; have BK291 := n2_; have HB := n3_; clear n0_ n1_ n2_ n3_; (try clear hb); (try clear hb2); (try clear hk); (try clear hi)))
                 go_roundg k3
                 case measure => have := HJ11.out; have := HJ30.out; have := HK3.out; omega
                 case rel => exact ⟨(wrap64 (x14_3 + 1)), zs, H', ⟨by have := HJ11.out; have := HJ30.out; have := HK3.out; omega⟩, ⟨by (with_reducible repeat (first | apply Kd.R_alloc | apply Kd.R_drewN | apply Kd.R_drew)); exact HO_3.out⟩, ⟨by (with_reducible repeat (first | apply Kd.R_alloc | apply Kd.R_drewN | apply Kd.R_drew)); exact HO_11.out⟩, ⟨by exact pk BK291.out⟩, ⟨zb⟩⟩
                ·replace c50 := Bool.eq_false_iff.mpr c50
                 subst c50
                 have H1 : (none) = some r := by rw [if_neg (show ¬ (false = true) by decide)] at H; exact H
                 clear H
                 have H := H1
                 clear H1
                 exact absurd H (by simp)
               ·replace c48 := Bool.eq_false_iff.mpr c48
                subst c48
                have H1 : (laws_FnGranting.l0 k3 t281 (wrap64 (1 + (Int.tmod (rd t284 0) 6))) (Int.tmod (rd t284 2) 40) t296 t301 (wrap64 (x14_3 + 1)) (wrap64 (1 + (Int.tmod (rd t284 1) 6))) 30 0 (Int.tmod (rd t284 3) 3) 0 100 false) = some r := by rw [if_neg (show ¬ (false = true) by decide)] at H; exact H
                clear H
                have H := H1
                clear H1
                have H' := aM H
                clear H
                go_wp2_with (first | ((with_reducible refine gate_callee (f := 39) rfl ?_); refine goesL_ (some 105) rfl rfl Try.func39 (by kernel_rfl) rfl #[.slice Ao18 t281.length co18, .int .i64 (wrap64 (1 + (Int.tmod (rd t284 0) 6))), .int .i64 x14_3, .int .i64 1, .int .i64 (Int.tmod (rd t284 2) 40)] rfl za ?_; (with_reducible refine (impl_MayTake.calls k3 _ _ t281 (wrap64 (1 + (Int.tmod (rd t284 0) 6))) x14_3 1 (Int.tmod (rd t284 2) 40) false _ ?side1 ?side2 A47.out).mono ?_); (case side1 => repeat (first | exact (Kd.R_reads' HO_3.out).2.2 | (with_reducible refine Kd.C_alloc ?_ _) | (with_reducible refine Kd.C_drewN ?_ _) | (with_reducible refine Kd.C_drew ?_))); (case side2 => exact (Kd.R_reads' HO_3.out).2.1); rintro e w54 ⟨rfl, hb⟩; refine ⟨_, rfl, ?_⟩; have n0_ := aM (Kd.R_below (by (with_reducible repeat (first | apply Kd.R_alloc | apply Kd.R_drewN | apply Kd.R_drew)); exact HO_3.out) hb); have n1_ := aM (Kd.R_below (by (with_reducible repeat (first | apply Kd.R_alloc | apply Kd.R_drewN | apply Kd.R_drew)); exact HO_11.out) hb); have n2_ := aM (bb BK291.out hb); have n3_ := aM (below_step (zb) hb); clear HO_3; clear HO_11; clear BK291; clear HB; have HO_3 := n0_; have HO_11 := n1_; have BK291 := n2_; have HB := n3_; clear n0_ n1_ n2_ n3_; (try clear hb); (try clear hb2); (try clear hk); (try clear hi)))
                go_roundg k3
                case measure => have := HJ11.out; have := HJ30.out; have := HK3.out; omega
                case rel => exact ⟨(wrap64 (x14_3 + 1)), zs, H', ⟨by have := HJ11.out; have := HJ30.out; have := HK3.out; omega⟩, ⟨by (with_reducible repeat (first | apply Kd.R_alloc | apply Kd.R_drewN | apply Kd.R_drew)); exact HO_3.out⟩, ⟨by (with_reducible repeat (first | apply Kd.R_alloc | apply Kd.R_drewN | apply Kd.R_drew)); exact HO_11.out⟩, ⟨by exact pk BK291.out⟩, ⟨zb⟩⟩
              ·rw [if_neg c46] at H
               have c46b0 : decide (x14_3 ≤ 7) = false := decide_eq_false c46
               clear c46
               replace H := Option.bind_eq_some_iff.mp H
               obtain ⟨t304, A550, H⟩ := H
               replace H : (if t304 = true then (none) else ((impl_MayTake.f k3 t296 (wrap64 (1 + (Int.tmod (rd t284 0) 6))) 30 1 (Int.tmod (rd t284 2) 40)).bind fun t305 => (if (t305 == (decide (t301 ≥ 1))) = true then (if t301 < 1 then (some true) else ((impl_SpareOf.f k3 t296 (wrap64 (1 + (Int.tmod (rd t284 0) 6))) 30 1 (Int.tmod (rd t284 2) 40)).bind fun t306 => (some (t306 == (mn (Int.tmod (rd t284 3) 3) (wrap64 (t301 - 1))))))) else (none)))) = some r := H
               have A55 := aM A550
               clear A550
               by_cases c56 : t304 = true
               ·subst c56
                have H1 : (none) = some r := by rw [if_pos rfl] at H; exact H
                clear H
                have H := H1
                clear H1
                exact absurd H (by simp)
               ·replace c56 := Bool.eq_false_iff.mpr c56
                subst c56
                have H1 : ((impl_MayTake.f k3 t296 (wrap64 (1 + (Int.tmod (rd t284 0) 6))) 30 1 (Int.tmod (rd t284 2) 40)).bind fun t305 => (if (t305 == (decide (t301 ≥ 1))) = true then (if t301 < 1 then (some true) else ((impl_SpareOf.f k3 t296 (wrap64 (1 + (Int.tmod (rd t284 0) 6))) 30 1 (Int.tmod (rd t284 2) 40)).bind fun t306 => (some (t306 == (mn (Int.tmod (rd t284 3) 3) (wrap64 (t301 - 1))))))) else (none))) = some r := by rw [if_neg (show ¬ (false = true) by decide)] at H; exact H
                clear H
                have H := H1
                clear H1
                replace H := Option.bind_eq_some_iff.mp H
                obtain ⟨t305, A570, H⟩ := H
                replace H : (if (t305 == (decide (t301 ≥ 1))) = true then (if t301 < 1 then (some true) else ((impl_SpareOf.f k3 t296 (wrap64 (1 + (Int.tmod (rd t284 0) 6))) 30 1 (Int.tmod (rd t284 2) 40)).bind fun t306 => (some (t306 == (mn (Int.tmod (rd t284 3) 3) (wrap64 (t301 - 1))))))) else (none)) = some r := H
                have A57 := aM A570
                clear A570
                by_cases c58 : (t305 == (decide (t301 ≥ 1))) = true
                ·rw [if_pos c58] at H
                 have c58b0 : (t305 == (decide (t301 ≥ 1))) = true := c58
                 (try (have c58b1 : decide (t305 = (decide (t301 ≥ 1))) = true := by simpa using c58))
                 (try (have c58b2 : (t305 == (decide (t301 ≥ 1))) = true := by simpa using c58))
                 clear c58
                 by_cases c59 : t301 < 1
                 ·rw [if_pos c59] at H
                  have c59b0 : decide (t301 < 1) = true := decide_eq_true c59
                  clear c59
                  obtain rfl := Option.some.inj H
                  try go_wp2
                  have n0_ := aM (Kd.R_drew HO_3.out)
                  have n1_ := aM (Kd.R_drew HO_11.out)
                  have n2_ := aM (blk_drew BK291.out)
                  have n3_ := aM (below_drew1 HB.out)
                  clear HO_3
                  clear HO_11
                  clear BK291
                  clear HB
                  have HO_3 := n0_
                  have HO_11 := n1_
                  have BK291 := n2_
                  have HB := n3_
                  clear n0_ n1_ n2_ n3_
                  refine start_ (n := 31) (S := fun w' => True) (ds := []) #[false, false, false, false, false, false, false, false, false, false, false, false, false, false, false, false, false, false, false, false, false, false, false, false, false, false, false, false, false, false, false] (by kernel_rfl) rfl rfl trivial (fun hHeld => ?_); refine with_tabW laws_FnGranting.tab21 laws_FnGranting.bits21 (fun HT_ HW_ => ?_)
                  generalize wr.drew = w60 at HO_3 HO_11 BK291 HB hHeld ⊢
                  refine pure_ (i := 0) (N := some 114) (v := ?_) (a' := ?_) #[true, false, false, false, false, false, false, false, false, false, false, false, false, false, false, false, false, false, false, false, false, false, false, false, false, false, false, false, false, false, false] rfl rfl (any_of HT_.out (by kernel_rfl)) (fun _ _ _ h => h) (Or.inl ⟨by rfl, ?_⟩) ?_ ?_
                  rotate_left
                  ·intro w'
                   go_simp
                   with_reducible rfl
                  rotate_left
                  ·simp only [Act.put, List.setIfInBounds_toArray, List.set_cons_zero, List.set_cons_succ, i64_w, i32_w]
                   rfl
                  refine pure_ (i := 1) (N := some 115) (v := ?_) (a' := ?_) #[true, true, false, false, false, false, false, false, false, false, false, false, false, false, false, false, false, false, false, false, false, false, false, false, false, false, false, false, false, false, false] rfl rfl (any_of HT_.out (by kernel_rfl)) (fun _ _ _ h => h) (Or.inl ⟨by rfl, ?_⟩) ?_ ?_
                  rotate_left
                  ·intro w'
                   go_simp
                   with_reducible rfl
                  rotate_left
                  ·simp only [Act.put, List.setIfInBounds_toArray, List.set_cons_zero, List.set_cons_succ, i64_w, i32_w]
                   rfl
                  refine pure_ (i := 2) (N := some 116) (v := ?_) (a' := ?_) #[true, true, true, false, false, false, false, false, false, false, false, false, false, false, false, false, false, false, false, false, false, false, false, false, false, false, false, false, false, false, false] rfl rfl (any_of HT_.out (by kernel_rfl)) (fun _ _ _ h => h) (Or.inl ⟨by rfl, ?_⟩) ?_ ?_
                  rotate_left
                  ·intro w'
                   go_simp
                   with_reducible rfl
                  rotate_left
                  ·simp only [Act.put, List.setIfInBounds_toArray, List.set_cons_zero, List.set_cons_succ, i64_w, i32_w]
                   rfl
                  refine one_ (i := 3) (N := some 117) #[true, true, true, true, false, false, false, false, false, false, false, false, false, false, false, false, false, false, false, false, false, false, false, false, false, false, false, false, false, false, false] rfl rfl (one_of HT_.out (by kernel_rfl)) (by decide) (fun K hK => ?_)
                  refine goes_ Try.func39 (by kernel_rfl) rfl #[.slice Ao18 t281.length co18, .int .i64 (wrap64 (1 + (Int.tmod (rd t284 0) 6))), .int .i64 30, .int .i64 1, .int .i64 (Int.tmod (rd t284 2) 40)] (by rfl) rfl rfl za ?_
                  with_reducible refine (impl_MayTake.calls k3 _ _ t281 (wrap64 (1 + (Int.tmod (rd t284 0) 6))) 30 1 (Int.tmod (rd t284 2) 40) false _ ?side1 ?side2 A55.out).mono ?_
                  (case side1 => repeat (first | exact (Kd.R_reads' HO_3.out).2.2 | (with_reducible refine Kd.C_alloc ?_ _) | (with_reducible refine Kd.C_drewN ?_ _) | (with_reducible refine Kd.C_drew ?_)))
                  (case side2 => exact (Kd.R_reads' HO_3.out).2.1)
                  rintro e w61 ⟨rfl, hb⟩
                  refine ⟨_, rfl, ?_⟩
                  have n0_ := aM (Kd.R_below (by (with_reducible repeat (first | apply Kd.R_alloc | apply Kd.R_drewN | apply Kd.R_drew)); exact HO_3.out) hb)
                  have n1_ := aM (Kd.R_below (by (with_reducible repeat (first | apply Kd.R_alloc | apply Kd.R_drewN | apply Kd.R_drew)); exact HO_11.out) hb)
                  have n2_ := aM (bb BK291.out hb)
                  have n3_ := aM (below_step (zb) hb)
                  clear HO_3
                  clear HO_11
                  clear BK291
                  clear HB
                  have HO_3 := n0_
                  have HO_11 := n1_
                  have BK291 := n2_
                  have HB := n3_
                  clear n0_ n1_ n2_ n3_
                  (try clear hb)
                  (try clear hb2)
                  (try clear hk)
                  (try clear hi)
                  obtain ⟨Ao62, co62, eo62⟩ := Kd.R_slice HO_11.out
                  (first | subst eo62 | (injection eo62 with f1_ f2_ f3_; have f4_ := f1_.symm; have f5_ := f3_.symm; clear f1_ f2_ f3_; subst f4_; subst f5_))
                  refine hK.out _ _ trivial (fun hHeld => ?_)
                  clear hK K
                  refine norm_ (a' := ?_) ?_ ?_
                  rotate_left
                  ·show Act.put _ (some 117) _ = _
                   simp only [Act.put, List.setIfInBounds_toArray, List.set_cons_zero, List.set_cons_succ, i64_w, i32_w]
                   rfl
                  refine pure_ (i := 4) (N := some 118) (v := ?_) (a' := ?_) #[true, true, true, true, true, false, false, false, false, false, false, false, false, false, false, false, false, false, false, false, false, false, false, false, false, false, false, false, false, false, false] rfl rfl (any_of HT_.out (by kernel_rfl)) (fun _ _ _ h => h) (Or.inl ⟨by rfl, ?_⟩) ?_ ?_
                  rotate_left
                  ·intro w'
                   go_simp
                   with_reducible rfl
                  rotate_left
                  ·simp only [Act.put, List.setIfInBounds_toArray, List.set_cons_zero, List.set_cons_succ, i64_w, i32_w]
                   rfl
                  refine pure_ (i := 5) (N := some 119) (v := ?_) (a' := ?_) #[true, true, true, true, true, true, false, false, false, false, false, false, false, false, false, false, false, false, false, false, false, false, false, false, false, false, false, false, false, false, false] rfl rfl (any_of HT_.out (by kernel_rfl)) (fun _ _ _ h => h) (Or.inl ⟨by rfl, ?_⟩) ?_ ?_
                  rotate_left
                  ·intro w'
                   go_simp
                   with_reducible rfl
                  rotate_left
                  ·simp only [Act.put, List.setIfInBounds_toArray, List.set_cons_zero, List.set_cons_succ, i64_w, i32_w]
                   rfl
                  refine pure_ (i := 6) (N := some 120) (v := ?_) (a' := ?_) #[true, true, true, true, true, true, true, false, false, false, false, false, false, false, false, false, false, false, false, false, false, false, false, false, false, false, false, false, false, false, false] rfl rfl (any_of HT_.out (by kernel_rfl)) (fun _ _ _ h => h) (Or.inl ⟨by rfl, ?_⟩) ?_ ?_
                  rotate_left
                  ·intro w'
                   go_simp
                   with_reducible rfl
                  rotate_left
                  ·simp only [Act.put, List.setIfInBounds_toArray, List.set_cons_zero, List.set_cons_succ, i64_w, i32_w]
                   rfl
                  refine pure_ (i := 7) (N := some 121) (v := ?_) (a' := ?_) #[true, true, true, true, true, true, true, true, false, false, false, false, false, false, false, false, false, false, false, false, false, false, false, false, false, false, false, false, false, false, false] rfl rfl (any_of HT_.out (by kernel_rfl)) (fun _ _ _ h => h) (Or.inl ⟨by rfl, ?_⟩) ?_ ?_
                  rotate_left
                  ·intro w'
                   go_simp
                   with_reducible rfl
                  rotate_left
                  ·simp only [Act.put, List.setIfInBounds_toArray, List.set_cons_zero, List.set_cons_succ, i64_w, i32_w]
                   rfl
                  refine pure_ (i := 8) (N := some 122) (v := ?_) (a' := ?_) #[true, true, true, true, true, true, true, true, true, false, false, false, false, false, false, false, false, false, false, false, false, false, false, false, false, false, false, false, false, false, false] rfl rfl (any_of HT_.out (by kernel_rfl)) (fun _ _ _ h => h) (Or.inl ⟨by rfl, ?_⟩) ?_ ?_
                  rotate_left
                  ·intro w'
                   go_simp
                   with_reducible rfl
                  rotate_left
                  ·simp only [Act.put, List.setIfInBounds_toArray, List.set_cons_zero, List.set_cons_succ, i64_w, i32_w]
                   rfl
                  refine pure_ (i := 10) (N := some 124) (v := ?_) (a' := ?_) #[true, true, true, true, true, true, true, true, true, false, true, false, false, false, false, false, false, false, false, false, false, false, false, false, false, false, false, false, false, false, false] rfl rfl (any_of HT_.out (by kernel_rfl)) (fun _ _ _ h => h) (Or.inl ⟨by rfl, ?_⟩) ?_ ?_
                  rotate_left
                  ·intro w'
                   go_simp
                   with_reducible rfl
                  rotate_left
                  ·simp only [Act.put, List.setIfInBounds_toArray, List.set_cons_zero, List.set_cons_succ, i64_w, i32_w]
                   rfl
                  refine pure_ (i := 11) (N := some 125) (v := ?_) (a' := ?_) #[true, true, true, true, true, true, true, true, true, false, true, true, false, false, false, false, false, false, false, false, false, false, false, false, false, false, false, false, false, false, false] rfl rfl (any_of HT_.out (by kernel_rfl)) (fun _ _ _ h => h) (Or.inl ⟨by rfl, ?_⟩) ?_ ?_
                  rotate_left
                  ·intro w'
                   go_simp
                   with_reducible rfl
                  rotate_left
                  ·simp only [Act.put, List.setIfInBounds_toArray, List.set_cons_zero, List.set_cons_succ, i64_w, i32_w]
                   rfl
                  refine one_ (i := 9) (N := some 123) #[true, true, true, true, true, true, true, true, true, true, true, true, false, false, false, false, false, false, false, false, false, false, false, false, false, false, false, false, false, false, false] rfl rfl (one_of HT_.out (by kernel_rfl)) (by decide) (fun K hK => ?_)
                  refine goes_ Try.func39 (by kernel_rfl) rfl #[.slice Ao62 t296.length co62, .int .i64 (wrap64 (1 + (Int.tmod (rd t284 0) 6))), .int .i64 30, .int .i64 1, .int .i64 (Int.tmod (rd t284 2) 40)] (by rfl) rfl rfl za ?_
                  with_reducible refine (impl_MayTake.calls k3 _ _ t296 (wrap64 (1 + (Int.tmod (rd t284 0) 6))) 30 1 (Int.tmod (rd t284 2) 40) t305 _ ?side1 ?side2 A57.out).mono ?_
                  (case side1 => repeat (first | exact (Kd.R_reads' HO_11.out).2.2 | (with_reducible refine Kd.C_alloc ?_ _) | (with_reducible refine Kd.C_drewN ?_ _) | (with_reducible refine Kd.C_drew ?_)))
                  (case side2 => exact (Kd.R_reads' HO_11.out).2.1)
                  rintro e w63 ⟨rfl, hb⟩
                  refine ⟨_, rfl, ?_⟩
                  have n0_ := aM (Kd.R_below (by (with_reducible repeat (first | apply Kd.R_alloc | apply Kd.R_drewN | apply Kd.R_drew)); exact HO_3.out) hb)
                  have n1_ := aM (Kd.R_below (by (with_reducible repeat (first | apply Kd.R_alloc | apply Kd.R_drewN | apply Kd.R_drew)); exact HO_11.out) hb)
                  have n2_ := aM (bb BK291.out hb)
                  have n3_ := aM (below_step (zb) hb)
                  clear HO_3
                  clear HO_11
                  clear BK291
                  clear HB
                  have HO_3 := n0_
                  have HO_11 := n1_
                  have BK291 := n2_
                  have HB := n3_
                  clear n0_ n1_ n2_ n3_
                  (try clear hb)
                  (try clear hb2)
                  (try clear hk)
                  (try clear hi)
                  refine hK.out _ _ trivial (fun hHeld => ?_)
                  clear hK K
                  refine norm_ (a' := ?_) ?_ ?_
                  rotate_left
                  ·show Act.put _ (some 123) _ = _
                   simp only [Act.put, List.setIfInBounds_toArray, List.set_cons_zero, List.set_cons_succ, i64_w, i32_w]
                   rfl
                  refine pure_ (i := 12) (N := some 126) (v := ?_) (a' := ?_) #[true, true, true, true, true, true, true, true, true, true, true, true, true, false, false, false, false, false, false, false, false, false, false, false, false, false, false, false, false, false, false] rfl rfl (any_of HT_.out (by kernel_rfl)) (fun _ _ _ h => h) (Or.inl ⟨by rfl, ?_⟩) ?_ ?_
                  rotate_left
                  ·intro w'
                   go_simp
                   with_reducible rfl
                  rotate_left
                  ·simp only [Act.put, List.setIfInBounds_toArray, List.set_cons_zero, List.set_cons_succ, i64_w, i32_w]
                   rfl
                  refine pure_ (i := 13) (N := some 127) (v := ?_) (a' := ?_) #[true, true, true, true, true, true, true, true, true, true, true, true, true, true, false, false, false, false, false, false, false, false, false, false, false, false, false, false, false, false, false] rfl rfl (any_of HT_.out (by kernel_rfl)) (fun _ _ _ h => h) (Or.inl ⟨by rfl, ?_⟩) ?_ ?_
                  rotate_left
                  ·intro w'
                   go_simp
                   with_reducible rfl
                  rotate_left
                  ·simp only [Act.put, List.setIfInBounds_toArray, List.set_cons_zero, List.set_cons_succ, i64_w, i32_w]
                   rfl
                  refine pure_ (i := 14) (N := some 128) (v := ?_) (a' := ?_) #[true, true, true, true, true, true, true, true, true, true, true, true, true, true, true, false, false, false, false, false, false, false, false, false, false, false, false, false, false, false, false] rfl rfl (any_of HT_.out (by kernel_rfl)) (fun _ _ _ h => h) (Or.inl ⟨by rfl, ?_⟩) ?_ ?_
                  rotate_left
                  ·intro w'
                   go_simp
                   with_reducible rfl
                  rotate_left
                  ·simp only [Act.put, List.setIfInBounds_toArray, List.set_cons_zero, List.set_cons_succ, i64_w, i32_w]
                   rfl
                  refine pure_ (i := 15) (N := some 129) (v := ?_) (a' := ?_) #[true, true, true, true, true, true, true, true, true, true, true, true, true, true, true, true, false, false, false, false, false, false, false, false, false, false, false, false, false, false, false] rfl rfl (any_of HT_.out (by kernel_rfl)) (fun _ _ _ h => h) (Or.inl ⟨by rfl, ?_⟩) ?_ ?_
                  rotate_left
                  ·intro w'
                   go_simp
                   with_reducible rfl
                  rotate_left
                  ·simp only [Act.put, List.setIfInBounds_toArray, List.set_cons_zero, List.set_cons_succ, i64_w, i32_w]
                   rfl
                  refine pure_ (i := 16) (N := some 130) (v := ?_) (a' := ?_) #[true, true, true, true, true, true, true, true, true, true, true, true, true, true, true, true, true, false, false, false, false, false, false, false, false, false, false, false, false, false, false] rfl rfl (any_of HT_.out (by kernel_rfl)) (fun _ _ _ h => h) (Or.inl ⟨by rfl, ?_⟩) ?_ ?_
                  rotate_left
                  ·intro w'
                   go_simp
                   with_reducible rfl
                  rotate_left
                  ·simp only [Act.put, List.setIfInBounds_toArray, List.set_cons_zero, List.set_cons_succ, i64_w, i32_w]
                   rfl
                  refine pure_ (i := 17) (N := some 131) (v := ?_) (a' := ?_) #[true, true, true, true, true, true, true, true, true, true, true, true, true, true, true, true, true, true, false, false, false, false, false, false, false, false, false, false, false, false, false] rfl rfl (any_of HT_.out (by kernel_rfl)) (fun _ _ _ h => h) (Or.inl ⟨by rfl, ?_⟩) ?_ ?_
                  rotate_left
                  ·intro w'
                   go_simp
                   with_reducible rfl
                  rotate_left
                  ·simp only [Act.put, List.setIfInBounds_toArray, List.set_cons_zero, List.set_cons_succ, i64_w, i32_w]
                   rfl
                  refine pure_ (i := 18) (N := some 132) (v := undef) (a' := ?_) #[true, true, true, true, true, true, true, true, true, true, true, true, true, true, true, true, true, true, true, false, false, false, false, false, false, false, false, false, false, false, false] rfl rfl (any_of HT_.out (by kernel_rfl)) (fun _ _ _ h => h) (Or.inr ⟨by rfl, rfl⟩) ?_ ?_
                  rotate_left
                  ·simp only [Act.put, List.setIfInBounds_toArray, List.set_cons_zero, List.set_cons_succ, i64_w, i32_w]
                   rfl
                  refine pure_ (i := 19) (N := some 133) (v := undef) (a' := ?_) #[true, true, true, true, true, true, true, true, true, true, true, true, true, true, true, true, true, true, true, true, false, false, false, false, false, false, false, false, false, false, false] rfl rfl (any_of HT_.out (by kernel_rfl)) (fun _ _ _ h => h) (Or.inr ⟨by rfl, rfl⟩) ?_ ?_
                  rotate_left
                  ·simp only [Act.put, List.setIfInBounds_toArray, List.set_cons_zero, List.set_cons_succ, i64_w, i32_w]
                   rfl
                  refine pure_ (i := 20) (N := some 134) (v := undef) (a' := ?_) #[true, true, true, true, true, true, true, true, true, true, true, true, true, true, true, true, true, true, true, true, true, false, false, false, false, false, false, false, false, false, false] rfl rfl (any_of HT_.out (by kernel_rfl)) (fun _ _ _ h => h) (Or.inr ⟨by rfl, rfl⟩) ?_ ?_
                  rotate_left
                  ·simp only [Act.put, List.setIfInBounds_toArray, List.set_cons_zero, List.set_cons_succ, i64_w, i32_w]
                   rfl
                  refine pure_ (i := 21) (N := some 135) (v := undef) (a' := ?_) #[true, true, true, true, true, true, true, true, true, true, true, true, true, true, true, true, true, true, true, true, true, true, false, false, false, false, false, false, false, false, false] rfl rfl (any_of HT_.out (by kernel_rfl)) (fun _ _ _ h => h) (Or.inr ⟨by rfl, rfl⟩) ?_ ?_
                  rotate_left
                  ·simp only [Act.put, List.setIfInBounds_toArray, List.set_cons_zero, List.set_cons_succ, i64_w, i32_w]
                   rfl
                  refine pure_ (i := 22) (N := some 136) (v := undef) (a' := ?_) #[true, true, true, true, true, true, true, true, true, true, true, true, true, true, true, true, true, true, true, true, true, true, true, false, false, false, false, false, false, false, false] rfl rfl (any_of HT_.out (by kernel_rfl)) (fun _ _ _ h => h) (Or.inr ⟨by rfl, rfl⟩) ?_ ?_
                  rotate_left
                  ·simp only [Act.put, List.setIfInBounds_toArray, List.set_cons_zero, List.set_cons_succ, i64_w, i32_w]
                   rfl
                  refine pure_ (i := 23) (N := some 137) (v := undef) (a' := ?_) #[true, true, true, true, true, true, true, true, true, true, true, true, true, true, true, true, true, true, true, true, true, true, true, true, false, false, false, false, false, false, false] rfl rfl (any_of HT_.out (by kernel_rfl)) (fun _ _ _ h => h) (Or.inr ⟨by rfl, rfl⟩) ?_ ?_
                  rotate_left
                  ·simp only [Act.put, List.setIfInBounds_toArray, List.set_cons_zero, List.set_cons_succ, i64_w, i32_w]
                   rfl
                  refine pure_ (i := 24) (N := some 138) (v := undef) (a' := ?_) #[true, true, true, true, true, true, true, true, true, true, true, true, true, true, true, true, true, true, true, true, true, true, true, true, true, false, false, false, false, false, false] rfl rfl (any_of HT_.out (by kernel_rfl)) (fun _ _ _ h => h) (Or.inr ⟨by rfl, rfl⟩) ?_ ?_
                  rotate_left
                  ·simp only [Act.put, List.setIfInBounds_toArray, List.set_cons_zero, List.set_cons_succ, i64_w, i32_w]
                   rfl
                  refine pure_ (i := 25) (N := some 139) (v := undef) (a' := ?_) #[true, true, true, true, true, true, true, true, true, true, true, true, true, true, true, true, true, true, true, true, true, true, true, true, true, true, false, false, false, false, false] rfl rfl (any_of HT_.out (by kernel_rfl)) (fun _ _ _ h => h) (Or.inr ⟨by rfl, rfl⟩) ?_ ?_
                  rotate_left
                  ·simp only [Act.put, List.setIfInBounds_toArray, List.set_cons_zero, List.set_cons_succ, i64_w, i32_w]
                   rfl
                  refine pure_ (i := 26) (N := some 140) (v := undef) (a' := ?_) #[true, true, true, true, true, true, true, true, true, true, true, true, true, true, true, true, true, true, true, true, true, true, true, true, true, true, true, false, false, false, false] rfl rfl (any_of HT_.out (by kernel_rfl)) (fun _ _ _ h => h) (Or.inr ⟨by rfl, rfl⟩) ?_ ?_
                  rotate_left
                  ·simp only [Act.put, List.setIfInBounds_toArray, List.set_cons_zero, List.set_cons_succ, i64_w, i32_w]
                   rfl
                  refine pure_ (i := 27) (N := some 141) (v := undef) (a' := ?_) #[true, true, true, true, true, true, true, true, true, true, true, true, true, true, true, true, true, true, true, true, true, true, true, true, true, true, true, true, false, false, false] rfl rfl (any_of HT_.out (by kernel_rfl)) (fun _ _ _ h => h) (Or.inr ⟨by rfl, rfl⟩) ?_ ?_
                  rotate_left
                  ·simp only [Act.put, List.setIfInBounds_toArray, List.set_cons_zero, List.set_cons_succ, i64_w, i32_w]
                   rfl
                  refine pure_ (i := 28) (N := some 142) (v := ?_) (a' := ?_) #[true, true, true, true, true, true, true, true, true, true, true, true, true, true, true, true, true, true, true, true, true, true, true, true, true, true, true, true, true, false, false] rfl rfl (any_of HT_.out (by kernel_rfl)) (fun _ _ _ h => h) (Or.inl ⟨by rfl, ?_⟩) ?_ ?_
                  rotate_left
                  ·intro w'
                   go_simp
                   with_reducible rfl
                  rotate_left
                  ·simp only [Act.put, List.setIfInBounds_toArray, List.set_cons_zero, List.set_cons_succ, i64_w, i32_w]
                   rfl
                  refine pure_ (i := 29) (N := some 143) (v := ?_) (a' := ?_) #[true, true, true, true, true, true, true, true, true, true, true, true, true, true, true, true, true, true, true, true, true, true, true, true, true, true, true, true, true, true, false] rfl rfl (any_of HT_.out (by kernel_rfl)) (fun _ _ _ h => h) (Or.inl ⟨by rfl, ?_⟩) ?_ ?_
                  rotate_left
                  ·intro w'
                   go_simp
                   with_reducible rfl
                  rotate_left
                  ·simp only [Act.put, List.setIfInBounds_toArray, List.set_cons_zero, List.set_cons_succ, i64_w, i32_w]
                   rfl
                  refine pure_ (i := 30) (N := some 2) (v := ?_) (a' := ?_) #[true, true, true, true, true, true, true, true, true, true, true, true, true, true, true, true, true, true, true, true, true, true, true, true, true, true, true, true, true, true, true] rfl rfl (any_of HT_.out (by kernel_rfl)) (fun _ _ _ h => h) (Or.inl ⟨by rfl, ?_⟩) ?_ ?_
                  rotate_left
                  ·intro w'
                   go_simp
                   with_reducible rfl
                  rotate_left
                  ·simp only [Act.put, List.setIfInBounds_toArray, List.set_cons_zero, List.set_cons_succ, i64_w, i32_w]
                   rfl
                  refine done_ (done_of HT_.out (by kernel_rfl)) ?_
                  try go_wp2
                  go_ret
                  exact ⟨zr, zb⟩
                 ·rw [if_neg c59] at H
                  have c59b0 : decide (t301 < 1) = false := decide_eq_false c59
                  clear c59
                  replace H := Option.bind_eq_some_iff.mp H
                  obtain ⟨t306, A640, H⟩ := H
                  replace H : (some (t306 == (mn (Int.tmod (rd t284 3) 3) (wrap64 (t301 - 1))))) = some r := H
                  have A64 := aM A640
                  clear A640
                  obtain ⟨ji65, hji65⟩ : ∃ j_ : Int, (mn (Int.tmod (rd t284 3) 3) (wrap64 (t301 - 1))) = j_ := ⟨_, rfl⟩
                  replace H : (some (t306 == (ji65))) = some r := by first | (rw [hji65] at H; exact H) | (simp only [hji65] at H ⊢; exact H)
                  (try rw [hji65] at A55)
                  (try rw [hji65] at A57)
                  (try rw [hji65] at A64)
                  have hji65_ : (if (wrap64 (t301 - 1)) < (Int.tmod (rd t284 3) 3) then (wrap64 (t301 - 1)) else (Int.tmod (rd t284 3) 3)) = ji65 := hji65
                  obtain rfl := Option.some.inj H
                  try go_wp2
                  have n0_ := aM (Kd.R_drew HO_3.out)
                  have n1_ := aM (Kd.R_drew HO_11.out)
                  have n2_ := aM (blk_drew BK291.out)
                  have n3_ := aM (below_drew1 HB.out)
                  clear HO_3
                  clear HO_11
                  clear BK291
                  clear HB
                  have HO_3 := n0_
                  have HO_11 := n1_
                  have BK291 := n2_
                  have HB := n3_
                  clear n0_ n1_ n2_ n3_
                  refine start_ (n := 31) (S := fun w' => w'.cell? ⟨gb291, 0, none⟩ = some (.int .i64 (wrap64 (1 + (Int.tmod (rd t284 1) 6)))) ∧ w'.cell? ⟨gb291, 1, none⟩ = some (.int .i64 30) ∧ w'.cell? ⟨gb291, 2, none⟩ = some (.int .i64 0) ∧ w'.cell? ⟨gb291, 3, none⟩ = some (.int .i64 (Int.tmod (rd t284 3) 3)) ∧ w'.cell? ⟨gb291, 4, none⟩ = some (.int .i64 0) ∧ w'.cell? ⟨gb291, 5, none⟩ = some (.int .i64 100) ∧ w'.cell? ⟨gb291, 6, none⟩ = some (.bool false)) (ds := []) #[false, false, false, false, false, false, false, false, false, false, false, false, false, false, false, false, false, false, false, false, false, false, false, false, false, false, false, false, false, false, false] (by kernel_rfl) rfl rfl ⟨(blk_cell BK291.out 0).trans rfl, (blk_cell BK291.out 1).trans rfl, (blk_cell BK291.out 2).trans rfl, (blk_cell BK291.out 3).trans rfl, (blk_cell BK291.out 4).trans rfl, (blk_cell BK291.out 5).trans rfl, (blk_cell BK291.out 6).trans rfl⟩ (fun hHeld => ?_); refine with_tabW laws_FnGranting.tab21 laws_FnGranting.bits21 (fun HT_ HW_ => ?_)
                  generalize wr.drew = w66 at HO_3 HO_11 BK291 HB hHeld ⊢
                  refine pure_ (i := 0) (N := some 114) (v := ?_) (a' := ?_) #[true, false, false, false, false, false, false, false, false, false, false, false, false, false, false, false, false, false, false, false, false, false, false, false, false, false, false, false, false, false, false] rfl rfl (any_of HT_.out (by kernel_rfl)) (fun _ _ _ h => h) (Or.inl ⟨by rfl, ?_⟩) ?_ ?_
                  rotate_left
                  ·intro w'
                   go_simp
                   with_reducible rfl
                  rotate_left
                  ·simp only [Act.put, List.setIfInBounds_toArray, List.set_cons_zero, List.set_cons_succ, i64_w, i32_w]
                   rfl
                  refine pure_ (i := 1) (N := some 115) (v := ?_) (a' := ?_) #[true, true, false, false, false, false, false, false, false, false, false, false, false, false, false, false, false, false, false, false, false, false, false, false, false, false, false, false, false, false, false] rfl rfl (any_of HT_.out (by kernel_rfl)) (fun _ _ _ h => h) (Or.inl ⟨by rfl, ?_⟩) ?_ ?_
                  rotate_left
                  ·intro w'
                   go_simp
                   with_reducible rfl
                  rotate_left
                  ·simp only [Act.put, List.setIfInBounds_toArray, List.set_cons_zero, List.set_cons_succ, i64_w, i32_w]
                   rfl
                  refine pure_ (i := 2) (N := some 116) (v := ?_) (a' := ?_) #[true, true, true, false, false, false, false, false, false, false, false, false, false, false, false, false, false, false, false, false, false, false, false, false, false, false, false, false, false, false, false] rfl rfl (any_of HT_.out (by kernel_rfl)) (fun _ _ _ h => h) (Or.inl ⟨by rfl, ?_⟩) ?_ ?_
                  rotate_left
                  ·intro w'
                   go_simp
                   with_reducible rfl
                  rotate_left
                  ·simp only [Act.put, List.setIfInBounds_toArray, List.set_cons_zero, List.set_cons_succ, i64_w, i32_w]
                   rfl
                  refine one_ (i := 3) (N := some 117) #[true, true, true, true, false, false, false, false, false, false, false, false, false, false, false, false, false, false, false, false, false, false, false, false, false, false, false, false, false, false, false] rfl rfl (one_of HT_.out (by kernel_rfl)) (by decide) (fun K hK => ?_)
                  refine goes_ Try.func39 (by kernel_rfl) rfl #[.slice Ao18 t281.length co18, .int .i64 (wrap64 (1 + (Int.tmod (rd t284 0) 6))), .int .i64 30, .int .i64 1, .int .i64 (Int.tmod (rd t284 2) 40)] (by rfl) rfl rfl za ?_
                  with_reducible refine (impl_MayTake.calls k3 _ _ t281 (wrap64 (1 + (Int.tmod (rd t284 0) 6))) 30 1 (Int.tmod (rd t284 2) 40) false _ ?side1 ?side2 A55.out).mono ?_
                  (case side1 => repeat (first | exact (Kd.R_reads' HO_3.out).2.2 | (with_reducible refine Kd.C_alloc ?_ _) | (with_reducible refine Kd.C_drewN ?_ _) | (with_reducible refine Kd.C_drew ?_)))
                  (case side2 => exact (Kd.R_reads' HO_3.out).2.1)
                  rintro e w67 ⟨rfl, hb⟩
                  refine ⟨_, rfl, ?_⟩
                  have n0_ := aM (Kd.R_below (by (with_reducible repeat (first | apply Kd.R_alloc | apply Kd.R_drewN | apply Kd.R_drew)); exact HO_3.out) hb)
                  have n1_ := aM (Kd.R_below (by (with_reducible repeat (first | apply Kd.R_alloc | apply Kd.R_drewN | apply Kd.R_drew)); exact HO_11.out) hb)
                  have n2_ := aM (bb BK291.out hb)
                  have n3_ := aM (below_step (zb) hb)
                  clear HO_3
                  clear HO_11
                  clear BK291
                  clear HB
                  have HO_3 := n0_
                  have HO_11 := n1_
                  have BK291 := n2_
                  have HB := n3_
                  clear n0_ n1_ n2_ n3_
                  (try clear hb)
                  (try clear hb2)
                  (try clear hk)
                  (try clear hi)
                  obtain ⟨Ao68, co68, eo68⟩ := Kd.R_slice HO_11.out
                  (first | subst eo68 | (injection eo68 with f1_ f2_ f3_; have f4_ := f1_.symm; have f5_ := f3_.symm; clear f1_ f2_ f3_; subst f4_; subst f5_))
                  refine hK.out _ _ ⟨(blk_cell BK291.out 0).trans rfl, (blk_cell BK291.out 1).trans rfl, (blk_cell BK291.out 2).trans rfl, (blk_cell BK291.out 3).trans rfl, (blk_cell BK291.out 4).trans rfl, (blk_cell BK291.out 5).trans rfl, (blk_cell BK291.out 6).trans rfl⟩ (fun hHeld => ?_)
                  clear hK K
                  refine norm_ (a' := ?_) ?_ ?_
                  rotate_left
                  ·show Act.put _ (some 117) _ = _
                   simp only [Act.put, List.setIfInBounds_toArray, List.set_cons_zero, List.set_cons_succ, i64_w, i32_w]
                   rfl
                  refine pure_ (i := 4) (N := some 118) (v := ?_) (a' := ?_) #[true, true, true, true, true, false, false, false, false, false, false, false, false, false, false, false, false, false, false, false, false, false, false, false, false, false, false, false, false, false, false] rfl rfl (any_of HT_.out (by kernel_rfl)) (fun _ _ _ h => h) (Or.inl ⟨by rfl, ?_⟩) ?_ ?_
                  rotate_left
                  ·intro w'
                   go_simp
                   with_reducible rfl
                  rotate_left
                  ·simp only [Act.put, List.setIfInBounds_toArray, List.set_cons_zero, List.set_cons_succ, i64_w, i32_w]
                   rfl
                  refine pure_ (i := 5) (N := some 119) (v := ?_) (a' := ?_) #[true, true, true, true, true, true, false, false, false, false, false, false, false, false, false, false, false, false, false, false, false, false, false, false, false, false, false, false, false, false, false] rfl rfl (any_of HT_.out (by kernel_rfl)) (fun _ _ _ h => h) (Or.inl ⟨by rfl, ?_⟩) ?_ ?_
                  rotate_left
                  ·intro w'
                   go_simp
                   with_reducible rfl
                  rotate_left
                  ·simp only [Act.put, List.setIfInBounds_toArray, List.set_cons_zero, List.set_cons_succ, i64_w, i32_w]
                   rfl
                  refine pure_ (i := 6) (N := some 120) (v := ?_) (a' := ?_) #[true, true, true, true, true, true, true, false, false, false, false, false, false, false, false, false, false, false, false, false, false, false, false, false, false, false, false, false, false, false, false] rfl rfl (any_of HT_.out (by kernel_rfl)) (fun _ _ _ h => h) (Or.inl ⟨by rfl, ?_⟩) ?_ ?_
                  rotate_left
                  ·intro w'
                   go_simp
                   with_reducible rfl
                  rotate_left
                  ·simp only [Act.put, List.setIfInBounds_toArray, List.set_cons_zero, List.set_cons_succ, i64_w, i32_w]
                   rfl
                  refine pure_ (i := 7) (N := some 121) (v := ?_) (a' := ?_) #[true, true, true, true, true, true, true, true, false, false, false, false, false, false, false, false, false, false, false, false, false, false, false, false, false, false, false, false, false, false, false] rfl rfl (any_of HT_.out (by kernel_rfl)) (fun _ _ _ h => h) (Or.inl ⟨by rfl, ?_⟩) ?_ ?_
                  rotate_left
                  ·intro w'
                   go_simp
                   with_reducible rfl
                  rotate_left
                  ·simp only [Act.put, List.setIfInBounds_toArray, List.set_cons_zero, List.set_cons_succ, i64_w, i32_w]
                   rfl
                  refine pure_ (i := 8) (N := some 122) (v := ?_) (a' := ?_) #[true, true, true, true, true, true, true, true, true, false, false, false, false, false, false, false, false, false, false, false, false, false, false, false, false, false, false, false, false, false, false] rfl rfl (any_of HT_.out (by kernel_rfl)) (fun _ _ _ h => h) (Or.inl ⟨by rfl, ?_⟩) ?_ ?_
                  rotate_left
                  ·intro w'
                   go_simp
                   with_reducible rfl
                  rotate_left
                  ·simp only [Act.put, List.setIfInBounds_toArray, List.set_cons_zero, List.set_cons_succ, i64_w, i32_w]
                   rfl
                  refine pure_ (i := 10) (N := some 124) (v := ?_) (a' := ?_) #[true, true, true, true, true, true, true, true, true, false, true, false, false, false, false, false, false, false, false, false, false, false, false, false, false, false, false, false, false, false, false] rfl rfl (any_of HT_.out (by kernel_rfl)) (fun _ _ _ h => h) (Or.inl ⟨by rfl, ?_⟩) ?_ ?_
                  rotate_left
                  ·intro w'
                   go_simp
                   with_reducible rfl
                  rotate_left
                  ·simp only [Act.put, List.setIfInBounds_toArray, List.set_cons_zero, List.set_cons_succ, i64_w, i32_w]
                   rfl
                  refine pure_ (i := 11) (N := some 125) (v := ?_) (a' := ?_) #[true, true, true, true, true, true, true, true, true, false, true, true, false, false, false, false, false, false, false, false, false, false, false, false, false, false, false, false, false, false, false] rfl rfl (any_of HT_.out (by kernel_rfl)) (fun _ _ _ h => h) (Or.inl ⟨by rfl, ?_⟩) ?_ ?_
                  rotate_left
                  ·intro w'
                   go_simp
                   with_reducible rfl
                  rotate_left
                  ·simp only [Act.put, List.setIfInBounds_toArray, List.set_cons_zero, List.set_cons_succ, i64_w, i32_w]
                   rfl
                  refine one_ (i := 9) (N := some 123) #[true, true, true, true, true, true, true, true, true, true, true, true, false, false, false, false, false, false, false, false, false, false, false, false, false, false, false, false, false, false, false] rfl rfl (one_of HT_.out (by kernel_rfl)) (by decide) (fun K hK => ?_)
                  refine goes_ Try.func39 (by kernel_rfl) rfl #[.slice Ao68 t296.length co68, .int .i64 (wrap64 (1 + (Int.tmod (rd t284 0) 6))), .int .i64 30, .int .i64 1, .int .i64 (Int.tmod (rd t284 2) 40)] (by rfl) rfl rfl za ?_
                  with_reducible refine (impl_MayTake.calls k3 _ _ t296 (wrap64 (1 + (Int.tmod (rd t284 0) 6))) 30 1 (Int.tmod (rd t284 2) 40) t305 _ ?side1 ?side2 A57.out).mono ?_
                  (case side1 => repeat (first | exact (Kd.R_reads' HO_11.out).2.2 | (with_reducible refine Kd.C_alloc ?_ _) | (with_reducible refine Kd.C_drewN ?_ _) | (with_reducible refine Kd.C_drew ?_)))
                  (case side2 => exact (Kd.R_reads' HO_11.out).2.1)
                  rintro e w69 ⟨rfl, hb⟩
                  refine ⟨_, rfl, ?_⟩
                  have n0_ := aM (Kd.R_below (by (with_reducible repeat (first | apply Kd.R_alloc | apply Kd.R_drewN | apply Kd.R_drew)); exact HO_3.out) hb)
                  have n1_ := aM (Kd.R_below (by (with_reducible repeat (first | apply Kd.R_alloc | apply Kd.R_drewN | apply Kd.R_drew)); exact HO_11.out) hb)
                  have n2_ := aM (bb BK291.out hb)
                  have n3_ := aM (below_step (zb) hb)
                  clear HO_3
                  clear HO_11
                  clear BK291
                  clear HB
                  have HO_3 := n0_
                  have HO_11 := n1_
                  have BK291 := n2_
                  have HB := n3_
                  clear n0_ n1_ n2_ n3_
                  (try clear hb)
                  (try clear hb2)
                  (try clear hk)
                  (try clear hi)
                  refine hK.out _ _ ⟨(blk_cell BK291.out 0).trans rfl, (blk_cell BK291.out 1).trans rfl, (blk_cell BK291.out 2).trans rfl, (blk_cell BK291.out 3).trans rfl, (blk_cell BK291.out 4).trans rfl, (blk_cell BK291.out 5).trans rfl, (blk_cell BK291.out 6).trans rfl⟩ (fun hHeld => ?_)
                  clear hK K
                  refine norm_ (a' := ?_) ?_ ?_
                  rotate_left
                  ·show Act.put _ (some 123) _ = _
                   simp only [Act.put, List.setIfInBounds_toArray, List.set_cons_zero, List.set_cons_succ, i64_w, i32_w]
                   rfl
                  refine pure_ (i := 12) (N := some 126) (v := ?_) (a' := ?_) #[true, true, true, true, true, true, true, true, true, true, true, true, true, false, false, false, false, false, false, false, false, false, false, false, false, false, false, false, false, false, false] rfl rfl (any_of HT_.out (by kernel_rfl)) (fun _ _ _ h => h) (Or.inl ⟨by rfl, ?_⟩) ?_ ?_
                  rotate_left
                  ·intro w'
                   go_simp
                   with_reducible rfl
                  rotate_left
                  ·simp only [Act.put, List.setIfInBounds_toArray, List.set_cons_zero, List.set_cons_succ, i64_w, i32_w]
                   rfl
                  refine pure_ (i := 13) (N := some 127) (v := ?_) (a' := ?_) #[true, true, true, true, true, true, true, true, true, true, true, true, true, true, false, false, false, false, false, false, false, false, false, false, false, false, false, false, false, false, false] rfl rfl (any_of HT_.out (by kernel_rfl)) (fun _ _ _ h => h) (Or.inl ⟨by rfl, ?_⟩) ?_ ?_
                  rotate_left
                  ·intro w'
                   go_simp
                   with_reducible rfl
                  rotate_left
                  ·simp only [Act.put, List.setIfInBounds_toArray, List.set_cons_zero, List.set_cons_succ, i64_w, i32_w]
                   rfl
                  refine pure_ (i := 14) (N := some 128) (v := ?_) (a' := ?_) #[true, true, true, true, true, true, true, true, true, true, true, true, true, true, true, false, false, false, false, false, false, false, false, false, false, false, false, false, false, false, false] rfl rfl (any_of HT_.out (by kernel_rfl)) (fun _ _ _ h => h) (Or.inl ⟨by rfl, ?_⟩) ?_ ?_
                  rotate_left
                  ·intro w'
                   go_simp
                   with_reducible rfl
                  rotate_left
                  ·simp only [Act.put, List.setIfInBounds_toArray, List.set_cons_zero, List.set_cons_succ, i64_w, i32_w]
                   rfl
                  refine pure_ (i := 15) (N := some 129) (v := ?_) (a' := ?_) #[true, true, true, true, true, true, true, true, true, true, true, true, true, true, true, true, false, false, false, false, false, false, false, false, false, false, false, false, false, false, false] rfl rfl (any_of HT_.out (by kernel_rfl)) (fun _ _ _ h => h) (Or.inl ⟨by rfl, ?_⟩) ?_ ?_
                  rotate_left
                  ·intro w'
                   go_simp
                   with_reducible rfl
                  rotate_left
                  ·simp only [Act.put, List.setIfInBounds_toArray, List.set_cons_zero, List.set_cons_succ, i64_w, i32_w]
                   rfl
                  refine pure_ (i := 16) (N := some 130) (v := ?_) (a' := ?_) #[true, true, true, true, true, true, true, true, true, true, true, true, true, true, true, true, true, false, false, false, false, false, false, false, false, false, false, false, false, false, false] rfl rfl (any_of HT_.out (by kernel_rfl)) (fun _ _ _ h => h) (Or.inl ⟨by rfl, ?_⟩) ?_ ?_
                  rotate_left
                  ·intro w'
                   go_simp
                   with_reducible rfl
                  rotate_left
                  ·simp only [Act.put, List.setIfInBounds_toArray, List.set_cons_zero, List.set_cons_succ, i64_w, i32_w]
                   rfl
                  refine pure_ (i := 17) (N := some 131) (v := ?_) (a' := ?_) #[true, true, true, true, true, true, true, true, true, true, true, true, true, true, true, true, true, true, false, false, false, false, false, false, false, false, false, false, false, false, false] rfl rfl (any_of HT_.out (by kernel_rfl)) (fun _ _ _ h => h) (Or.inl ⟨by rfl, ?_⟩) ?_ ?_
                  rotate_left
                  ·intro w'
                   go_simp
                   with_reducible rfl
                  rotate_left
                  ·simp only [Act.put, List.setIfInBounds_toArray, List.set_cons_zero, List.set_cons_succ, i64_w, i32_w]
                   rfl
                  refine pure_ (i := 18) (N := some 132) (v := ?_) (a' := ?_) #[true, true, true, true, true, true, true, true, true, true, true, true, true, true, true, true, true, true, true, false, false, false, false, false, false, false, false, false, false, false, false] rfl rfl (any_of HT_.out (by kernel_rfl)) (fun _ _ _ h => h) (Or.inl ⟨by rfl, ?_⟩) ?_ ?_
                  rotate_left
                  ·intro w'
                   go_simp
                   with_reducible rfl
                  rotate_left
                  ·simp only [Act.put, List.setIfInBounds_toArray, List.set_cons_zero, List.set_cons_succ, i64_w, i32_w]
                   rfl
                  refine pure_ (i := 19) (N := some 133) (v := ?_) (a' := ?_) #[true, true, true, true, true, true, true, true, true, true, true, true, true, true, true, true, true, true, true, true, false, false, false, false, false, false, false, false, false, false, false] rfl rfl (any_of HT_.out (by kernel_rfl)) (fun _ _ _ h => h) (Or.inl ⟨by rfl, ?_⟩) ?_ ?_
                  rotate_left
                  ·intro w'
                   go_simp
                   with_reducible rfl
                  rotate_left
                  ·simp only [Act.put, List.setIfInBounds_toArray, List.set_cons_zero, List.set_cons_succ, i64_w, i32_w]
                   rfl
                  refine pure_ (i := 20) (N := some 134) (v := ?_) (a' := ?_) #[true, true, true, true, true, true, true, true, true, true, true, true, true, true, true, true, true, true, true, true, true, false, false, false, false, false, false, false, false, false, false] rfl rfl (any_of HT_.out (by kernel_rfl)) (fun _ _ _ h => h) (Or.inl ⟨by rfl, ?_⟩) ?_ ?_
                  rotate_left
                  ·intro w'
                   go_simp
                   with_reducible rfl
                  rotate_left
                  ·simp only [Act.put, List.setIfInBounds_toArray, List.set_cons_zero, List.set_cons_succ, i64_w, i32_w]
                   rfl
                  refine pure_ (i := 22) (N := some 136) (v := ?_) (a' := ?_) #[true, true, true, true, true, true, true, true, true, true, true, true, true, true, true, true, true, true, true, true, true, false, true, false, false, false, false, false, false, false, false] rfl rfl (any_of HT_.out (by kernel_rfl)) (fun _ _ _ h => h) (Or.inl ⟨by rfl, ?_⟩) ?_ ?_
                  rotate_left
                  ·intro w'
                   go_simp
                   with_reducible rfl
                  rotate_left
                  ·simp only [Act.put, List.setIfInBounds_toArray, List.set_cons_zero, List.set_cons_succ, i64_w, i32_w]
                   rfl
                  refine pure_ (i := 24) (N := some 138) (v := ?_) (a' := ?_) #[true, true, true, true, true, true, true, true, true, true, true, true, true, true, true, true, true, true, true, true, true, false, true, false, true, false, false, false, false, false, false] rfl rfl (any_of HT_.out (by kernel_rfl)) (fun _ _ _ h => h) (Or.inl ⟨by rfl, ?_⟩) ?_ ?_
                  rotate_left
                  ·intro w'
                   go_simp
                   with_reducible rfl
                  rotate_left
                  ·simp only [Act.put, List.setIfInBounds_toArray, List.set_cons_zero, List.set_cons_succ, i64_w, i32_w]
                   rfl
                  refine pure_ (i := 25) (N := some 139) (v := ?_) (a' := ?_) #[true, true, true, true, true, true, true, true, true, true, true, true, true, true, true, true, true, true, true, true, true, false, true, false, true, true, false, false, false, false, false] rfl rfl (any_of HT_.out (by kernel_rfl)) (fun _ _ _ h => h) (Or.inl ⟨by rfl, ?_⟩) ?_ ?_
                  rotate_left
                  ·intro w'
                   go_simp
                   with_reducible rfl
                  rotate_left
                  ·simp only [Act.put, List.setIfInBounds_toArray, List.set_cons_zero, List.set_cons_succ, i64_w, i32_w]
                   rfl
                  refine take_ (i := 23) (N := some 137) (v := ?_) (a' := ?_) #[true, true, true, true, true, true, true, true, true, true, true, true, true, true, true, true, true, true, true, true, true, false, true, true, true, true, false, false, false, false, false] rfl rfl (take_ofW HT_.out HW_.out (by kernel_rfl)) (fun _ _ _ h => h) (Or.inl ⟨by rfl, ?_⟩) hHeld ?_ ?_
                  rotate_left
                  ·rintro w' ⟨s0, s1, s2, s3, s4, s5, s6⟩
                   go_simp
                   with_reducible rfl
                  rotate_left
                  ·simp only [Act.put, List.setIfInBounds_toArray, List.set_cons_zero, List.set_cons_succ, i64_w, i32_w]
                   rfl
                  refine pure_ (i := 26) (N := some 140) (v := ?_) (a' := ?_) #[true, true, true, true, true, true, true, true, true, true, true, true, true, true, true, true, true, true, true, true, true, false, true, true, true, true, true, false, false, false, false] rfl rfl (any_of HT_.out (by kernel_rfl)) (fun _ _ _ h => h) (Or.inl ⟨by rfl, ?_⟩) ?_ ?_
                  rotate_left
                  ·intro w'
                   go_simp
                   with_reducible rfl
                  rotate_left
                  ·simp only [Act.put, List.setIfInBounds_toArray, List.set_cons_zero, List.set_cons_succ, i64_w, i32_w]
                   rfl
                  refine one_ (i := 21) (N := some 135) #[true, true, true, true, true, true, true, true, true, true, true, true, true, true, true, true, true, true, true, true, true, true, true, true, true, true, true, false, false, false, false] rfl rfl (one_of HT_.out (by kernel_rfl)) (by decide) (fun K hK => ?_)
                  refine goes_ Try.func46 (by kernel_rfl) rfl #[.slice Ao68 t296.length co68, .int .i64 (wrap64 (1 + (Int.tmod (rd t284 0) 6))), .int .i64 30, .int .i64 1, .int .i64 (Int.tmod (rd t284 2) 40)] (by rfl) rfl rfl za ?_
                  with_reducible refine (impl_SpareOf.calls k3 _ _ t296 (wrap64 (1 + (Int.tmod (rd t284 0) 6))) 30 1 (Int.tmod (rd t284 2) 40) t306 _ ?side1 ?side2 A64.out).mono ?_
                  (case side1 => repeat (first | exact (Kd.R_reads' HO_11.out).2.2 | (with_reducible refine Kd.C_alloc ?_ _) | (with_reducible refine Kd.C_drewN ?_ _) | (with_reducible refine Kd.C_drew ?_)))
                  (case side2 => exact (Kd.R_reads' HO_11.out).2.1)
                  rintro e w70 ⟨rfl, hb⟩
                  refine ⟨_, rfl, ?_⟩
                  have n0_ := aM (Kd.R_below (by (with_reducible repeat (first | apply Kd.R_alloc | apply Kd.R_drewN | apply Kd.R_drew)); exact HO_3.out) hb)
                  have n1_ := aM (Kd.R_below (by (with_reducible repeat (first | apply Kd.R_alloc | apply Kd.R_drewN | apply Kd.R_drew)); exact HO_11.out) hb)
                  have n2_ := aM (bb BK291.out hb)
                  have n3_ := aM (below_step (zb) hb)
                  clear HO_3
                  clear HO_11
                  clear BK291
                  clear HB
                  have HO_3 := n0_
                  have HO_11 := n1_
                  have BK291 := n2_
                  have HB := n3_
                  clear n0_ n1_ n2_ n3_
                  (try clear hb)
                  (try clear hb2)
                  (try clear hk)
                  (try clear hi)
                  refine hK.out _ _ ⟨(blk_cell BK291.out 0).trans rfl, (blk_cell BK291.out 1).trans rfl, (blk_cell BK291.out 2).trans rfl, (blk_cell BK291.out 3).trans rfl, (blk_cell BK291.out 4).trans rfl, (blk_cell BK291.out 5).trans rfl, (blk_cell BK291.out 6).trans rfl⟩ (fun hHeld => ?_)
                  clear hK K
                  refine norm_ (a' := ?_) ?_ ?_
                  rotate_left
                  ·show Act.put _ (some 135) _ = _
                   simp only [Act.put, List.setIfInBounds_toArray, List.set_cons_zero, List.set_cons_succ, i64_w, i32_w]
                   rfl
                  refine pure_ (i := 27) (N := some 141) (v := ?_) (a' := ?_) #[true, true, true, true, true, true, true, true, true, true, true, true, true, true, true, true, true, true, true, true, true, true, true, true, true, true, true, true, false, false, false] rfl rfl (any_of HT_.out (by kernel_rfl)) (fun _ _ _ h => h) (Or.inl ⟨by rfl, ?_⟩) ?_ ?_
                  rotate_left
                  ·intro w'
                   go_simp
                   with_reducible rfl
                  rotate_left
                  ·simp only [Act.put, List.setIfInBounds_toArray, List.set_cons_zero, List.set_cons_succ, i64_w, i32_w]
                   rfl
                  refine pure_ (i := 28) (N := some 142) (v := ?_) (a' := ?_) #[true, true, true, true, true, true, true, true, true, true, true, true, true, true, true, true, true, true, true, true, true, true, true, true, true, true, true, true, true, false, false] rfl rfl (any_of HT_.out (by kernel_rfl)) (fun _ _ _ h => h) (Or.inl ⟨by rfl, ?_⟩) ?_ ?_
                  rotate_left
                  ·intro w'
                   go_simp
                   with_reducible rfl
                  rotate_left
                  ·simp only [Act.put, List.setIfInBounds_toArray, List.set_cons_zero, List.set_cons_succ, i64_w, i32_w]
                   rfl
                  refine pure_ (i := 29) (N := some 143) (v := ?_) (a' := ?_) #[true, true, true, true, true, true, true, true, true, true, true, true, true, true, true, true, true, true, true, true, true, true, true, true, true, true, true, true, true, true, false] rfl rfl (any_of HT_.out (by kernel_rfl)) (fun _ _ _ h => h) (Or.inl ⟨by rfl, ?_⟩) ?_ ?_
                  rotate_left
                  ·intro w'
                   go_simp
                   with_reducible rfl
                  rotate_left
                  ·simp only [Act.put, List.setIfInBounds_toArray, List.set_cons_zero, List.set_cons_succ, i64_w, i32_w]
                   rfl
                  refine pure_ (i := 30) (N := some 2) (v := ?_) (a' := ?_) #[true, true, true, true, true, true, true, true, true, true, true, true, true, true, true, true, true, true, true, true, true, true, true, true, true, true, true, true, true, true, true] rfl rfl (any_of HT_.out (by kernel_rfl)) (fun _ _ _ h => h) (Or.inl ⟨by rfl, ?_⟩) ?_ ?_
                  rotate_left
                  ·intro w'
                   go_simp
                   with_reducible rfl
                  rotate_left
                  ·simp only [Act.put, List.setIfInBounds_toArray, List.set_cons_zero, List.set_cons_succ, i64_w, i32_w]
                   rfl
                  refine done_ (done_of HT_.out (by kernel_rfl)) ?_
                  try go_wp2
                  go_ret
                  exact ⟨by first | rfl | (simp [errW_none, errW_some] <;> rfl) | (simp only [← hji65]; first | rfl | (simp [errW_none, errW_some] <;> rfl)) | (simp [*, errW_none, errW_some] <;> rfl), zb⟩
                ·rw [if_neg c58] at H
                 have c58b0 : (t305 == (decide (t301 ≥ 1))) = false := by simpa using c58
                 (try (have c58b1 : decide (t305 = (decide (t301 ≥ 1))) = false := by simpa using c58))
                 (try (have c58b2 : (t305 == (decide (t301 ≥ 1))) = false := by simpa using c58))
                 (try (have c58b3 : ¬ (t305 = (decide (t301 ≥ 1))) := by simpa using c58))
                 clear c58
                 exact absurd H (by simp)
     ·rw [if_neg c9] at H
      exact absurd H (by simp)
    ·rw [if_neg c8] at H
     exact absurd H (by simp)
   ·rw [if_neg c7] at H
    exact absurd H (by simp)
  ·rw [if_neg c6] at H
   exact absurd H (by simp)

/-- THE ONE PURE STATEMENT of laws_FnGranting: yours. -/
def laws_FnGranting.Pure : Prop := ∀ (l0 : List Int), l0.length ≤ maxLen → l0.length * 1 ≤ 140737488351232 → (∀ x ∈ l0, (Lit.int .u8 x).wf = true) → ∃ k, laws_FnGranting.f k l0 = some true
theorem laws_FnGranting.walk (P : laws_FnGranting.Pure) (a0 : Option Addr) (len0 cap0 : Nat) (z0 : List Int) (w : World) (w0 : (a0 = none ∧ len0 = 0 ∧ cap0 = 0 ∧ z0 = []) ∨ ∃ x, a0 = some x ∧ len0 ≤ cap0 ∧ cap0 ≤ maxLen ∧ z0.length = cap0 ∧ (∀ i, i < z0.length → w.cell? (x.add i) = some (.int .u8 (z0.getD i 0))) ∧ ∀ n ∈ z0, (Lit.int .u8 n).wf = true) (y0 : len0 * 1 ≤ 140737488351232) :
  Calls Try.prog 15 #[.slice a0 len0 cap0] w fun e w' => e = .returned (.bool true) ∧ Below w.heap.size w w' := by
 obtain ⟨l0, rfl, hr0, hm0, hw0, hc0⟩ := ReadsInt.ofRowC w0
 obtain ⟨k, h⟩ := P l0 hm0 y0 hw0
 refine (laws_FnGranting.calls k _ _ l0 true w (Kd.C_of_reads (d := (0 : Int)) (h1 := fun _ => rfl) hr0) hc0 h).mono ?_
 rintro e w' ⟨rfl, hd⟩
 exact ⟨rfl, hd⟩

end Go.Proofs.Ytcpjfkagbnoagaa.QFnGranting
