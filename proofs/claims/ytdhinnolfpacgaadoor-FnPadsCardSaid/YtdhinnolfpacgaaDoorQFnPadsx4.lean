-- Printed functions and their walks: by print.py, turned by wip/tools/myprint.py.
import Derived.Test.YtdhinnolfpacgaaDoorQFnPadsx0
import Derived.Test.YtdhinnolfpacgaaDoorQFnPadsx1
import Derived.Test.YtdhinnolfpacgaaDoorQFnPadsx2
import Derived.Test.YtdhinnolfpacgaaDoorQFnPadsx3
namespace Go.Proofs.YtdhinnolfpacgaaDoor.QFnPads
open Go.RowKit Go.Proofs.YtdhinnolfpacgaaDoorW.PrintWords Go.Proofs.YtdhinnolfpacgaaDoorW.PrintLast Go.Proofs.YtdhinnolfpacgaaDoorW.PrintMore
attribute [local go_sem] max2_int min2_int max_two min_two max_three min_three max_four min_four   -- for this text's walks alone
set_option linter.unusedVariables false
set_option linter.unusedSimpArgs false

theorem far5 {w : World} {g : Nat} {a : Addr} {x : Option Value} {v0 v1 v2 v3 v4 : Value} (hne : a.block ≠ g) (h : w.cell? a = x) : (((((w.setCell ⟨g, 0, none⟩ v0).setCell ⟨g, 1, none⟩ v1).setCell ⟨g, 2, none⟩ v2).setCell ⟨g, 3, none⟩ v3).setCell ⟨g, 4, none⟩ v4).cell? a = x :=
  (cell_far (p := ⟨g, 4, none⟩) hne v4).trans ((cell_far (p := ⟨g, 3, none⟩) hne v3).trans ((cell_far (p := ⟨g, 2, none⟩) hne v2).trans ((cell_far (p := ⟨g, 1, none⟩) hne v1).trans ((cell_far (p := ⟨g, 0, none⟩) hne v0).trans h))))
/-! ### laws_FnPads: function 6 -/
mutual
def laws_FnPads.j0 : Nat → List Int → Bool → Int → Int → Int → Int → Int → Int → Int → Option (Bool)
 | 0, _, _, _, _, _, _, _, _, _ => none
 | k + 1, x4, x6, x231000, x231001, x231002, x231003, x231004, x236000, x236001 => (impl_CanOpen.f x236000 x236001 x231000 x231001 x231002 x231003 x231004).bind fun t236 => (if (t236 != x6) = true then (laws_FnPads.j1 k x4 x6 true x231000 x231001 x231002 x231003 x231004 x236000 x236001) else ((impl_LockOk.f x231000 x231001 x231002 x231003 x231004).bind fun t237 => (laws_FnPads.j1 k x4 x6 (!t237) x231000 x231001 x231002 x231003 x231004 x236000 x236001)))
def laws_FnPads.j1 : Nat → List Int → Bool → Bool → Int → Int → Int → Int → Int → Int → Int → Option (Bool)
 | 0, _, _, _, _, _, _, _, _, _, _ => none
 | k + 1, x4, x6, x48, x231000, x231001, x231002, x231003, x231004, x236000, x236001 => if x48 = true then (none) else ((impl_Press.f k x236000 x236001).bind fun bt238 => (if (bt238.2.2.2 != (decide (x236001 ≤ 1000000))) = true then (none) else (if x6 = true then (if 1 < (x4.length : Int) then ((impl_Try.f k x231000 x231001 x231002 x231003 x231004 bt238.2.2.1 (wrap64 (x231004 + (Int.tmod (rd x4 1) 50)))).bind fun bt244 => (if bt244.2.2.2.2.2 = 0 then ((spec_CodeOf.f k x236000 x236001).bind fun t251 => (if bt238.2.2.1.toList = t251.toList then (if bt238.2.1 = (wrap64 (x236001 + 1)) then (if bt244.2.1 ≤ bt238.2.1 then (if bt238.2.1 > 1000000 then (some true) else ((impl_CanOpen.f bt238.1 bt238.2.1 bt244.1 bt244.2.1 bt244.2.2.1 bt244.2.2.2.1 bt244.2.2.2.2.1).bind fun t252 => (some t252))) else (none)) else (none)) else (none))) else (none))) else (none)) else (some true))))
end
def laws_FnPads.f (k : Nat) (l0 : List Int) : Option (Bool) := (laws_big.f l0).bind fun t224 => (if t224 = true then (some true) else ((spec_DrawLock.f k l0).bind fun bt225 => ((spec_DrawPlaces.f k l0).bind fun t231 => (if 0 < (t231.length : Int) then (if (wrap64 ((wrap64 (bt225.2.1 + (Int.tmod (rd t231 0) 7))) - bt225.2.1)) < 5 then (laws_FnPads.j0 k t231 (decide ((wrap64 (bt225.2.1 + (Int.tmod (rd t231 0) 7))) ≤ 1000000)) bt225.1 bt225.2.1 bt225.2.2.1 bt225.2.2.2.1 bt225.2.2.2.2 bt225.1 (wrap64 (bt225.2.1 + (Int.tmod (rd t231 0) 7)))) else (laws_FnPads.j0 k t231 false bt225.1 bt225.2.1 bt225.2.2.1 bt225.2.2.2.1 bt225.2.2.2.2 bt225.1 (wrap64 (bt225.2.1 + (Int.tmod (rd t231 0) 7))))) else (none)))))
theorem laws_FnPads.mono_l : ∀ k, (∀ y0 y1 y2 y3 y4 y5 y6 y7 y8, LeO (laws_FnPads.j0 k y0 y1 y2 y3 y4 y5 y6 y7 y8) (laws_FnPads.j0 (k + 1) y0 y1 y2 y3 y4 y5 y6 y7 y8)) ∧ (∀ y0 y1 y2 y3 y4 y5 y6 y7 y8 y9, LeO (laws_FnPads.j1 k y0 y1 y2 y3 y4 y5 y6 y7 y8 y9) (laws_FnPads.j1 (k + 1) y0 y1 y2 y3 y4 y5 y6 y7 y8 y9))
 | 0 => ⟨fun _ _ _ _ _ _ _ _ _ r h => by simp [laws_FnPads.j0] at h, fun _ _ _ _ _ _ _ _ _ _ r h => by simp [laws_FnPads.j1] at h⟩
 | k + 1 => by
  obtain ⟨ih0, ih1⟩ := laws_FnPads.mono_l k
  refine ⟨?_, ?_⟩
  ·intro y0 y1 y2 y3 y4 y5 y6 y7 y8
   unfold laws_FnPads.j0
   repeat' first
   | (with_reducible exact ih0 _ _ _ _ _ _ _ _ _)
   | (with_reducible exact ih1 _ _ _ _ _ _ _ _ _ _)
   | (with_reducible exact impl_Press.mono _ _ _)
   | (with_reducible exact impl_Try.mono _ _ _ _ _ _ _ _)
   | (with_reducible exact spec_CodeOf.mono _ _ _)
   | (with_reducible exact spec_DrawLock.mono _ _)
   | (with_reducible exact spec_DrawPlaces.mono _ _)
   | (with_reducible exact LeO.refl _)
   | (with_reducible exact LeO.none _)
   | (with_reducible refine LeO.ite ?_ ?_)
   | (with_reducible refine LeO.bind ?_ (fun _ => ?_))
   | exact ih0 _ _ _ _ _ _ _ _ _
   | exact ih1 _ _ _ _ _ _ _ _ _ _
   | exact impl_Press.mono _ _ _
   | exact impl_Try.mono _ _ _ _ _ _ _ _
   | exact spec_CodeOf.mono _ _ _
   | exact spec_DrawLock.mono _ _
   | exact spec_DrawPlaces.mono _ _
   | exact LeO.none _
   | refine LeO.ite ?_ ?_
   | refine LeO.bind ?_ (fun _ => ?_)
  ·intro y0 y1 y2 y3 y4 y5 y6 y7 y8 y9
   unfold laws_FnPads.j1
   repeat' first
   | (with_reducible exact ih0 _ _ _ _ _ _ _ _ _)
   | (with_reducible exact ih1 _ _ _ _ _ _ _ _ _ _)
   | (with_reducible exact impl_Press.mono _ _ _)
   | (with_reducible exact impl_Try.mono _ _ _ _ _ _ _ _)
   | (with_reducible exact spec_CodeOf.mono _ _ _)
   | (with_reducible exact spec_DrawLock.mono _ _)
   | (with_reducible exact spec_DrawPlaces.mono _ _)
   | (with_reducible exact LeO.refl _)
   | (with_reducible exact LeO.none _)
   | (with_reducible refine LeO.ite ?_ ?_)
   | (with_reducible refine LeO.bind ?_ (fun _ => ?_))
   | exact ih0 _ _ _ _ _ _ _ _ _
   | exact ih1 _ _ _ _ _ _ _ _ _ _
   | exact impl_Press.mono _ _ _
   | exact impl_Try.mono _ _ _ _ _ _ _ _
   | exact spec_CodeOf.mono _ _ _
   | exact spec_DrawLock.mono _ _
   | exact spec_DrawPlaces.mono _ _
   | exact LeO.none _
   | refine LeO.ite ?_ ?_
   | refine LeO.bind ?_ (fun _ => ?_)
theorem laws_FnPads.mono : ∀ a0 k, LeO (laws_FnPads.f k a0) (laws_FnPads.f (k + 1) a0) := by
 intro a0 k
 obtain ⟨ih0, ih1⟩ := laws_FnPads.mono_l k
 unfold laws_FnPads.f
 repeat' first
   | (with_reducible exact ih0 _ _ _ _ _ _ _ _ _)
   | (with_reducible exact ih1 _ _ _ _ _ _ _ _ _ _)
   | (with_reducible exact impl_Press.mono _ _ _)
   | (with_reducible exact impl_Try.mono _ _ _ _ _ _ _ _)
   | (with_reducible exact spec_CodeOf.mono _ _ _)
   | (with_reducible exact spec_DrawLock.mono _ _)
   | (with_reducible exact spec_DrawPlaces.mono _ _)
   | (with_reducible exact LeO.refl _)
   | (with_reducible exact LeO.none _)
   | (with_reducible refine LeO.ite ?_ ?_)
   | (with_reducible refine LeO.bind ?_ (fun _ => ?_))
   | exact ih0 _ _ _ _ _ _ _ _ _
   | exact ih1 _ _ _ _ _ _ _ _ _ _
   | exact impl_Press.mono _ _ _
   | exact impl_Try.mono _ _ _ _ _ _ _ _
   | exact spec_CodeOf.mono _ _ _
   | exact spec_DrawLock.mono _ _
   | exact spec_DrawPlaces.mono _ _
   | exact LeO.none _
   | refine LeO.ite ?_ ?_
   | refine LeO.bind ?_ (fun _ => ?_)
def laws_FnPads.T5 : Bool × List (List Nat × List Nat) := (true, [([], []), ([0], [0]), ([], []), ([2], [2]), ([], []), ([4], [4]), ([5], [5]), ([6], [6]), ([3, 7], [3, 7]), ([1, 8], [1, 8]), ([], []), ([10, 9, 0, 1, 2, 3, 4, 5, 6, 7, 8, 9, 10], [9, 10])])
def laws_FnPads.B5 : List Nat := [0, 1, 0, 4, 0, 16, 48, 112, 252, 511, 0, 2047]
theorem laws_FnPads.tab5 : rtab .any (opsOf Tryd.f6 5) = laws_FnPads.T5 := by kernel_rfl
theorem laws_FnPads.bits5 : waitsOk laws_FnPads.T5.2 laws_FnPads.B5 = true := by kernel_rfl
def laws_FnPads.T14 : Bool × List (List Nat × List Nat) := (true, [([], []), ([], []), ([], []), ([2], [2]), ([], []), ([4], [4]), ([5], [5]), ([6], [6]), ([3, 7], [3, 7]), ([0, 1, 8], [0, 1, 8]), ([9], [9]), ([10], [10]), ([10], [10]), ([], []), ([13, 11, 9, 0, 1, 2, 3, 4, 5, 6, 7, 8, 9, 10, 11, 13], [11, 13]), ([12, 14, 0, 1, 2, 3, 4, 5, 6, 7, 8, 9, 10, 11, 12, 13, 14], [12])])
def laws_FnPads.B14 : List Nat := [0, 0, 0, 4, 0, 16, 48, 112, 252, 511, 1023, 2047, 2047, 0, 12287, 32767]
theorem laws_FnPads.tab14 : rtab .any (opsOf Tryd.f6 14) = laws_FnPads.T14 := by kernel_rfl
theorem laws_FnPads.bits14 : waitsOk laws_FnPads.T14.2 laws_FnPads.B14 = true := by kernel_rfl
set_option maxHeartbeats 8000000 in
set_option maxRecDepth 100000 in
theorem laws_FnPads.calls (k : Nat) (A0 : Option Addr) (c0 : Nat) (l0 : List Int) (r : Bool) (w : World) (hr0 : Kd.C (Kd.int .u8) w A0 l0.length l0) (hc0 : l0.length ≤ c0) (h : laws_FnPads.f k l0 = some r) (HTAB : Sh.TabH w := by exact Sh.tabH HTAB (by repeat (first | (with_reducible first | exact HB.out | exact HBW.out | apply eA | apply eN | apply eD | refine eS ?_ (Aside0.out ‹_›)) | exact HB.out))) :
  Calls Tryd.prog 6 #[.slice A0 l0.length c0] w fun e w' => e = .returned (.bool r) ∧ Below w.heap.size w w' := by
 have hu25 := Tryd.underlying25
 have hu40 := Tryd.underlying40
 have HR0 := aM hr0
 have HC0 := aM hc0
 clear hr0 hc0
 have HB := aM (Below.refl w.heap.size w)
 have H : ((laws_big.f l0).bind fun t224 => (if t224 = true then (some true) else ((spec_DrawLock.f k l0).bind fun bt225 => ((spec_DrawPlaces.f k l0).bind fun t231 => (if 0 < (t231.length : Int) then (if (wrap64 ((wrap64 (bt225.2.1 + (Int.tmod (rd t231 0) 7))) - bt225.2.1)) < 5 then (laws_FnPads.j0 k t231 (decide ((wrap64 (bt225.2.1 + (Int.tmod (rd t231 0) 7))) ≤ 1000000)) bt225.1 bt225.2.1 bt225.2.2.1 bt225.2.2.2.1 bt225.2.2.2.2 bt225.1 (wrap64 (bt225.2.1 + (Int.tmod (rd t231 0) 7)))) else (laws_FnPads.j0 k t231 false bt225.1 bt225.2.1 bt225.2.2.1 bt225.2.2.2.1 bt225.2.2.2.2 bt225.1 (wrap64 (bt225.2.1 + (Int.tmod (rd t231 0) 7))))) else (none)))))) = some r := h
 clear h
 replace H := Option.bind_eq_some_iff.mp H
 obtain ⟨t224, A20, H⟩ := H
 replace H : (if t224 = true then (some true) else ((spec_DrawLock.f k l0).bind fun bt225 => ((spec_DrawPlaces.f k l0).bind fun t231 => (if 0 < (t231.length : Int) then (if (wrap64 ((wrap64 (bt225.2.1 + (Int.tmod (rd t231 0) 7))) - bt225.2.1)) < 5 then (laws_FnPads.j0 k t231 (decide ((wrap64 (bt225.2.1 + (Int.tmod (rd t231 0) 7))) ≤ 1000000)) bt225.1 bt225.2.1 bt225.2.2.1 bt225.2.2.2.1 bt225.2.2.2.2 bt225.1 (wrap64 (bt225.2.1 + (Int.tmod (rd t231 0) 7)))) else (laws_FnPads.j0 k t231 false bt225.1 bt225.2.1 bt225.2.2.1 bt225.2.2.2.1 bt225.2.2.2.2 bt225.1 (wrap64 (bt225.2.1 + (Int.tmod (rd t231 0) 7))))) else (none))))) = some r := H
 have A2 := aM A20
 clear A20
 by_cases c3 : t224 = true
 ·subst c3
  have H1 : (some true) = some r := by rw [if_pos rfl] at H; exact H
  clear H
  have H := H1
  clear H1
  obtain rfl := Option.some.inj H
  go_enter Tryd.func6, Tryd.ntmps6
  go_wp2_with (first | ((with_reducible refine gate_callee (f := 17) rfl ?_); refine goesL_ (some 13) rfl rfl Tryd.func17 (by kernel_rfl) rfl #[.slice A0 l0.length c0] rfl za ?_; (with_reducible refine (laws_big.calls _ _ l0 true _ ?side1 ?side2 A2.out).mono ?_); (case side1 => repeat (first | exact HR0.out | (with_reducible refine Kd.C_alloc ?_ _) | (with_reducible refine Kd.C_drewN ?_ _) | (with_reducible refine Kd.C_drew ?_))); (case side2 => exact HC0.out); rintro e w' ⟨rfl, ⟨nd, rfl⟩⟩; refine ⟨_, rfl, ?_⟩))
  go_ret
  exact ⟨zr, zb⟩
 ·replace c3 := Bool.eq_false_iff.mpr c3
  subst c3
  have H1 : ((spec_DrawLock.f k l0).bind fun bt225 => ((spec_DrawPlaces.f k l0).bind fun t231 => (if 0 < (t231.length : Int) then (if (wrap64 ((wrap64 (bt225.2.1 + (Int.tmod (rd t231 0) 7))) - bt225.2.1)) < 5 then (laws_FnPads.j0 k t231 (decide ((wrap64 (bt225.2.1 + (Int.tmod (rd t231 0) 7))) ≤ 1000000)) bt225.1 bt225.2.1 bt225.2.2.1 bt225.2.2.2.1 bt225.2.2.2.2 bt225.1 (wrap64 (bt225.2.1 + (Int.tmod (rd t231 0) 7)))) else (laws_FnPads.j0 k t231 false bt225.1 bt225.2.1 bt225.2.2.1 bt225.2.2.2.1 bt225.2.2.2.2 bt225.1 (wrap64 (bt225.2.1 + (Int.tmod (rd t231 0) 7))))) else (none)))) = some r := by rw [if_neg (show ¬ (false = true) by decide)] at H; exact H
  clear H
  have H := H1
  clear H1
  replace H := Option.bind_eq_some_iff.mp H
  obtain ⟨⟨t225, t226, t227, t228, t229⟩, A40, H⟩ := H
  replace H : ((spec_DrawPlaces.f k l0).bind fun t231 => (if 0 < (t231.length : Int) then (if (wrap64 ((wrap64 (t226 + (Int.tmod (rd t231 0) 7))) - t226)) < 5 then (laws_FnPads.j0 k t231 (decide ((wrap64 (t226 + (Int.tmod (rd t231 0) 7))) ≤ 1000000)) t225 t226 t227 t228 t229 t225 (wrap64 (t226 + (Int.tmod (rd t231 0) 7)))) else (laws_FnPads.j0 k t231 false t225 t226 t227 t228 t229 t225 (wrap64 (t226 + (Int.tmod (rd t231 0) 7))))) else (none))) = some r := H
  have A4 := aM A40
  clear A40
  replace H := Option.bind_eq_some_iff.mp H
  obtain ⟨t231, A50, H⟩ := H
  replace H : (if 0 < (t231.length : Int) then (if (wrap64 ((wrap64 (t226 + (Int.tmod (rd t231 0) 7))) - t226)) < 5 then (laws_FnPads.j0 k t231 (decide ((wrap64 (t226 + (Int.tmod (rd t231 0) 7))) ≤ 1000000)) t225 t226 t227 t228 t229 t225 (wrap64 (t226 + (Int.tmod (rd t231 0) 7)))) else (laws_FnPads.j0 k t231 false t225 t226 t227 t228 t229 t225 (wrap64 (t226 + (Int.tmod (rd t231 0) 7))))) else (none)) = some r := H
  have A5 := aM A50
  clear A50
  by_cases c6 : 0 < (t231.length : Int)
  ·rw [if_pos c6] at H
   have c6b0 : decide (0 < (t231.length : Int)) = true := decide_eq_true c6
   have c6b1 : decide (0 < t231.length) = true := decide_eq_true (by omega)
   clear c6
   have HC7 := aM H
   clear H
   go_enter Tryd.func6, Tryd.ntmps6
   try go_wp2_with (first | ((with_reducible refine gate_callee (f := 17) rfl ?_); refine goesL_ (some 13) rfl rfl Tryd.func17 (by kernel_rfl) rfl #[.slice A0 l0.length c0] rfl za ?_; (with_reducible refine (laws_big.calls _ _ l0 false _ ?side1 ?side2 A2.out).mono ?_); (case side1 => repeat (first | exact HR0.out | (with_reducible refine Kd.C_alloc ?_ _) | (with_reducible refine Kd.C_drewN ?_ _) | (with_reducible refine Kd.C_drew ?_))); (case side2 => exact HC0.out); rintro e w' ⟨rfl, ⟨nd, rfl⟩⟩; refine ⟨_, rfl, ?_⟩) | ((with_reducible refine gate_callee (f := 18) rfl ?_); refine goesL_ (some 15) rfl rfl Tryd.func18 (by kernel_rfl) rfl #[.slice A0 l0.length c0] rfl za ?_; (with_reducible refine (spec_DrawLock.calls k _ _ l0 t225 t226 t227 t228 t229 _ ?side1 ?side2 A4.out).mono ?_); (case side1 => repeat (first | exact HR0.out | (with_reducible refine Kd.C_alloc ?_ _) | (with_reducible refine Kd.C_drewN ?_ _) | (with_reducible refine Kd.C_drew ?_))); (case side2 => exact HC0.out); rintro e w8 ⟨rfl, hb⟩; refine ⟨_, rfl, ?_⟩; have n0_ := aM (below_step (zb) hb); clear HB; have HB := n0_; clear n0_; (try clear hb); (try clear hb2); (try clear hk); (try clear hi)) | ((with_reducible refine gate_dst (N := 3) rfl ?_); refine box_event ?hg (N := 3) ?hd (cs := #[.int .i64 0, .int .i64 0, .int .i64 0, .int .i64 0, .int .i64 0]) (t := 25) ?hr ?_; (case hd => rfl); (case hg => rfl); (case hr => exact zg); intro gb230 hg w9 hbox hb; have n0_ := aM (below_step (zb) hb); have n1_ := aM (hbox); have n2_ := aM ((by rw [hg]; exact (below_size (zb)) : w.heap.size ≤ gb230)); have n3_ := aM ((by rw [hg]; exact (below_size (zb)) : w.heap.size ≤ gb230)); clear HB; have HB := n0_; have BK230 := n1_; have GW230 := n2_; have GE230 := n3_; clear n0_ n1_ n2_ n3_; clear hb hbox hg; obtain ⟨hcz10_0, hcz10_1, hcz10_2, hcz10_3, hcz10_4, hfz10_0, hfz10_1, hfz10_2, hfz10_3, hfz10_4⟩ := cells5 BK230.out) | ((with_reducible refine gate_callee (f := 19) rfl ?_); refine goesL_ (some 17) rfl rfl Tryd.func19 (by kernel_rfl) rfl #[.slice A0 l0.length c0] rfl za ?_; (with_reducible refine (spec_DrawPlaces.calls k _ _ l0 t231 _ ?side1 ?side2 A5.out).mono ?_); (case side1 => exact Kd.C_below HR0.out (zb)); (case side2 => exact HC0.out); rintro e w11 ⟨v232, rfl, ho0, hb⟩; refine ⟨_, rfl, ?_⟩; have n0_ := aM (Kd.R_lower ho0 (below_size (zb))); have n1_ := aM (blk_below (g := gb230) (o := .cells #[.int .i64 t225, .int .i64 t226, .int .i64 t227, .int .i64 t228, .int .i64 t229] 25 (0, 0)) (by refine pq ?_; refine blk_put (cs := #[.int .i64 t225, .int .i64 t226, .int .i64 t227, .int .i64 t228, .int .i64 0]) ?_ 4 _ rfl; refine pq ?_; refine blk_put (cs := #[.int .i64 t225, .int .i64 t226, .int .i64 t227, .int .i64 0, .int .i64 0]) ?_ 3 _ rfl; refine pq ?_; refine blk_put (cs := #[.int .i64 t225, .int .i64 t226, .int .i64 0, .int .i64 0, .int .i64 0]) ?_ 2 _ rfl; refine pq ?_; refine blk_put (cs := #[.int .i64 t225, .int .i64 0, .int .i64 0, .int .i64 0, .int .i64 0]) ?_ 1 _ rfl; refine pq ?_; refine blk_put (cs := #[.int .i64 0, .int .i64 0, .int .i64 0, .int .i64 0, .int .i64 0]) ?_ 0 _ rfl; refine pq ?_; exact BK230.out) hb); have n2_ := aM (below_step (zb) hb); clear BK230; clear HB; have HO233 := n0_; have BK230 := n1_; have HB := n2_; clear n0_ n1_ n2_; (try clear hb); (try clear hb2); (try clear hk); (try clear hi); (try clear ho0)))
   have n0_ := aM (Kd.R_drew HO233.out)
   have n1_ := aM (blk_drew BK230.out)
   have n2_ := aM (below_drew1 HB.out)
   clear HO233
   clear BK230
   clear HB
   have HO233 := n0_
   have BK230 := n1_
   have HB := n2_
   clear n0_ n1_ n2_
   obtain ⟨Ao13, co13, eo13⟩ := Kd.R_slice HO233.out
   (first | subst eo13 | (injection eo13 with f1_ f2_ f3_; have f4_ := f1_.symm; have f5_ := f3_.symm; clear f1_ f2_ f3_; subst f4_; subst f5_))
   have p234 : 0 ≤ (0 : Int) := (by omega)
   have q234 : 0 < (t231.length : Int) := of_decide_eq_true (by first | (with_reducible assumption) | assumption)
   obtain ⟨ad234, e234, hx234_0⟩ := Kd.at_int (Kd.R_reads' HO233.out).2.2 0 p234 q234
   cases e234
   have qi234 : (0 < t231.length) = True := eq_true (by omega)
   (try rw [show ((0 : Int)).toNat = 0 from rfl] at hx234_0)
   (try rw [Addr.add_zero'] at hx234_0)
   replace p234 := eq_true p234
   replace q234 := eq_true q234
   refine start_ (n := 12) (S := fun w' => w'.cell? ⟨gb230, 0, none⟩ = some (.int .i64 t225) ∧ w'.cell? ⟨gb230, 1, none⟩ = some (.int .i64 t226) ∧ w'.cell? ⟨gb230, 2, none⟩ = some (.int .i64 t227) ∧ w'.cell? ⟨gb230, 3, none⟩ = some (.int .i64 t228) ∧ w'.cell? ⟨gb230, 4, none⟩ = some (.int .i64 t229) ∧ w'.cell? ad234 = some (.int .i64 (rd t231 0))) (ds := []) #[false, false, false, false, false, false, false, false, false, false, false, false] (by kernel_rfl) rfl rfl ⟨(blk_cell BK230.out 0).trans rfl, (blk_cell BK230.out 1).trans rfl, (blk_cell BK230.out 2).trans rfl, (blk_cell BK230.out 3).trans rfl, (blk_cell BK230.out 4).trans rfl, hx234_0⟩ (fun hHeld => ?_); refine with_tabW laws_FnPads.tab5 laws_FnPads.bits5 (fun HT_ HW_ => ?_)
   generalize w11.drew = w12 at HO233 BK230 HB hx234_0 hHeld ⊢
   refine pure_ (i := 0) (N := some 18) (v := ?_) (a' := ?_) #[true, false, false, false, false, false, false, false, false, false, false, false] rfl rfl (any_of HT_.out (by kernel_rfl)) (fun _ _ _ h => h) (Or.inl ⟨by rfl, ?_⟩) ?_ ?_
   rotate_left
   ·intro w'
    go_simp
    with_reducible rfl
   rotate_left
   ·simp only [Act.put, List.setIfInBounds_toArray, List.set_cons_zero, List.set_cons_succ, i64_w, i32_w]
    rfl
   refine pure_ (i := 2) (N := some 20) (v := ?_) (a' := ?_) #[true, false, true, false, false, false, false, false, false, false, false, false] rfl rfl (any_of HT_.out (by kernel_rfl)) (fun _ _ _ h => h) (Or.inl ⟨by rfl, ?_⟩) ?_ ?_
   rotate_left
   ·intro w'
    go_simp
    with_reducible rfl
   rotate_left
   ·simp only [Act.put, List.setIfInBounds_toArray, List.set_cons_zero, List.set_cons_succ, i64_w, i32_w]
    rfl
   refine pure_ (i := 4) (N := some 22) (v := ?_) (a' := ?_) #[true, false, true, false, true, false, false, false, false, false, false, false] rfl rfl (any_of HT_.out (by kernel_rfl)) (fun _ _ _ h => h) (Or.inl ⟨by rfl, ?_⟩) ?_ ?_
   rotate_left
   ·intro w'
    go_simp
    with_reducible rfl
   rotate_left
   ·simp only [Act.put, List.setIfInBounds_toArray, List.set_cons_zero, List.set_cons_succ, i64_w, i32_w]
    rfl
   refine pure_ (i := 5) (N := some 23) (v := ?_) (a' := ?_) #[true, false, true, false, true, true, false, false, false, false, false, false] rfl rfl (any_of HT_.out (by kernel_rfl)) (fun _ _ _ h => h) (Or.inl ⟨by rfl, ?_⟩) ?_ ?_
   rotate_left
   ·intro w'
    go_simp
    with_reducible rfl
   rotate_left
   ·simp only [Act.put, List.setIfInBounds_toArray, List.set_cons_zero, List.set_cons_succ, i64_w, i32_w]
    rfl
   refine take_ (i := 1) (N := some 19) (v := ?_) (a' := ?_) #[true, true, true, false, true, true, false, false, false, false, false, false] rfl rfl (take_ofW HT_.out HW_.out (by kernel_rfl)) (fun _ _ _ h => h) (Or.inl ⟨by rfl, ?_⟩) hHeld ?_ ?_
   rotate_left
   ·rintro w' ⟨s0, s1, s2, s3, s4, s5⟩
    go_simp
    with_reducible rfl
   rotate_left
   ·simp only [Act.put, List.setIfInBounds_toArray, List.set_cons_zero, List.set_cons_succ, i64_w, i32_w]
    rfl
   refine take_ (i := 3) (N := some 21) (v := ?_) (a' := ?_) #[true, true, true, true, true, true, false, false, false, false, false, false] rfl rfl (take_ofW HT_.out HW_.out (by kernel_rfl)) (fun _ _ _ h => h) (Or.inl ⟨by rfl, ?_⟩) hHeld ?_ ?_
   rotate_left
   ·rintro w' ⟨s0, s1, s2, s3, s4, s5⟩
    go_simp
    with_reducible rfl
   rotate_left
   ·simp only [Act.put, List.setIfInBounds_toArray, List.set_cons_zero, List.set_cons_succ, i64_w, i32_w]
    rfl
   refine take_ (i := 6) (N := some 24) (v := ?_) (a' := ?_) #[true, true, true, true, true, true, true, false, false, false, false, false] rfl rfl (take_ofW HT_.out HW_.out (by kernel_rfl)) (fun _ _ _ h => h) (Or.inl ⟨by rfl, ?_⟩) hHeld ?_ ?_
   rotate_left
   ·rintro w' ⟨s0, s1, s2, s3, s4, s5⟩
    go_simp
    with_reducible rfl
   rotate_left
   ·simp only [Act.put, List.setIfInBounds_toArray, List.set_cons_zero, List.set_cons_succ, i64_w, i32_w]
    rfl
   refine pure_ (i := 7) (N := some 25) (v := ?_) (a' := ?_) #[true, true, true, true, true, true, true, true, false, false, false, false] rfl rfl (any_of HT_.out (by kernel_rfl)) (fun _ _ _ h => h) (Or.inl ⟨by rfl, ?_⟩) ?_ ?_
   rotate_left
   ·intro w'
    go_simp
    with_reducible rfl
   rotate_left
   ·simp only [Act.put, List.setIfInBounds_toArray, List.set_cons_zero, List.set_cons_succ, i64_w, i32_w]
    rfl
   refine pure_ (i := 8) (N := some 26) (v := ?_) (a' := ?_) #[true, true, true, true, true, true, true, true, true, false, false, false] rfl rfl (any_of HT_.out (by kernel_rfl)) (fun _ _ _ h => h) (Or.inl ⟨by rfl, ?_⟩) ?_ ?_
   rotate_left
   ·intro w'
    go_simp
    with_reducible rfl
   rotate_left
   ·simp only [Act.put, List.setIfInBounds_toArray, List.set_cons_zero, List.set_cons_succ, i64_w, i32_w]
    rfl
   refine pure_ (i := 9) (N := some 27) (v := ?_) (a' := ?_) #[true, true, true, true, true, true, true, true, true, true, false, false] rfl rfl (any_of HT_.out (by kernel_rfl)) (fun _ _ _ h => h) (Or.inl ⟨by rfl, ?_⟩) ?_ ?_
   rotate_left
   ·intro w'
    go_simp
    with_reducible rfl
   rotate_left
   ·simp only [Act.put, List.setIfInBounds_toArray, List.set_cons_zero, List.set_cons_succ, i64_w, i32_w]
    rfl
   refine one_ (i := 10) (N := some 5) #[true, true, true, true, true, true, true, true, true, true, true, false] rfl rfl (one_of HT_.out (by kernel_rfl)) (by decide) (fun K hK => ?_)
   refine box_step ?hg (N := 5) ?hd (cs := #[.int .i64 0, .int .i64 0]) (t := 40) ?hr ?_; (case hd => rfl); (case hg => rfl); (case hr => exact zg)
   intro gb235 hg w14 hbox hb
   have HS5_ := (hb.cell (World.block_lt_of_cell? _ _ (hHeld.2.2.2.2.2))).trans (hHeld.2.2.2.2.2)
   have n0_ := aM (Kd.R_below (by (with_reducible repeat (first | apply Kd.R_alloc | apply Kd.R_drewN | apply Kd.R_drew)); exact HO233.out) hb)
   have n1_ := aM (bb BK230.out hb)
   have n2_ := aM (below_step (zb) hb)
   have n3_ := aM (hbox)
   have n4_ := aM ((by rw [hg]; exact (below_size (zb)) : w.heap.size ≤ gb235))
   have n5_ := aM ((by rw [hg]; exact (below_size (zb)) : w.heap.size ≤ gb235))
   have n6_ := aM ((by rw [hg]; exact Nat.ne_of_lt (nl BK230.out) : gb230 ≠ gb235))
   have n7_ := aM ((by rw [hg]; exact Nat.ne_of_gt (nl BK230.out) : gb235 ≠ gb230))
   clear HO233
   clear BK230
   clear HB
   have HO233 := n0_
   have BK230 := n1_
   have HB := n2_
   have BK235 := n3_
   have GW235 := n4_
   have GE235 := n5_
   have NB230_235 := n6_
   have NB235_230 := n7_
   clear n0_ n1_ n2_ n3_ n4_ n5_ n6_ n7_
   clear hb hbox hg
   refine hK.out _ _ ⟨(blk_cell BK230.out 0).trans rfl, (blk_cell BK230.out 1).trans rfl, (blk_cell BK230.out 2).trans rfl, (blk_cell BK230.out 3).trans rfl, (blk_cell BK230.out 4).trans rfl, HS5_⟩ (fun hHeld => ?_)
   clear hK K
   refine norm_ (a' := ?_) ?_ ?_
   rotate_left
   ·show Act.put _ (some 5) _ = _
    simp only [Act.put, List.setIfInBounds_toArray, List.set_cons_zero, List.set_cons_succ, i64_w, i32_w]
    rfl
   refine one_ (i := 11) (N := none) #[true, true, true, true, true, true, true, true, true, true, true, true] rfl rfl (one_of HT_.out (by kernel_rfl)) (by decide) (fun K hK => ?_)
   have hs15 : w14.cell? ⟨gb235, 0, none⟩ = some (.int .i64 0) := (blk_cell BK235.out 0).trans rfl
   have hfs15 := blk_frozen BK235.out 0
   have hns15_0 := NB230_235.out
   have hms15_0 := NB235_230.out
   have hs16 : w14.cell? ⟨gb235, 1, none⟩ = some (.int .i64 0) := (blk_cell BK235.out 1).trans rfl
   have hfs16 := blk_frozen BK235.out 1
   have hns16_0 := NB230_235.out
   have hms16_0 := NB235_230.out
   refine skip_ (w1 := ?_) (by rfl) rfl ?_ ?_
   rotate_left
   ·go_simp
    rfl
   refine hK.out _ _ ⟨((cell_far (p := ⟨gb235, _, none⟩) NB230_235.out _).trans (((cell_far (p := ⟨gb235, _, none⟩) NB230_235.out _).trans (hHeld.1)))), ((cell_far (p := ⟨gb235, _, none⟩) NB230_235.out _).trans (((cell_far (p := ⟨gb235, _, none⟩) NB230_235.out _).trans (hHeld.2.1)))), ((cell_far (p := ⟨gb235, _, none⟩) NB230_235.out _).trans (((cell_far (p := ⟨gb235, _, none⟩) NB230_235.out _).trans (hHeld.2.2.1)))), ((cell_far (p := ⟨gb235, _, none⟩) NB230_235.out _).trans (((cell_far (p := ⟨gb235, _, none⟩) NB230_235.out _).trans (hHeld.2.2.2.1)))), ((cell_far (p := ⟨gb235, _, none⟩) NB230_235.out _).trans (((cell_far (p := ⟨gb235, _, none⟩) NB230_235.out _).trans (hHeld.2.2.2.2.1)))), ((cell_far (p := ⟨gb235, _, none⟩) (by first | exact Kd.own_blk (Kd.R_ne HO233.out BK235.out (by decide)) | (rw [add_block]; exact Kd.own_blk (Kd.R_ne HO233.out BK235.out (by decide))) | (show (Addr.add _ _).block ≠ _; rw [add_block]; exact Kd.own_blk (Kd.R_ne HO233.out BK235.out (by decide))) | (dsimp only; exact Kd.own_blk (Kd.R_ne HO233.out BK235.out (by decide)))) _).trans (((cell_far (p := ⟨gb235, _, none⟩) (by first | exact Kd.own_blk (Kd.R_ne HO233.out BK235.out (by decide)) | (rw [add_block]; exact Kd.own_blk (Kd.R_ne HO233.out BK235.out (by decide))) | (show (Addr.add _ _).block ≠ _; rw [add_block]; exact Kd.own_blk (Kd.R_ne HO233.out BK235.out (by decide))) | (dsimp only; exact Kd.own_blk (Kd.R_ne HO233.out BK235.out (by decide)))) _).trans (hHeld.2.2.2.2.2))))⟩ (fun hHeld => ?_)
   clear hK K
   refine done_ (done_of HT_.out (by kernel_rfl)) ?_
   go_upto_region 6 with (fail)
   go_cut [6] (fun v6 wc => ∃ (kq : Nat) (x6_6 : Bool), v6 = .bool x6_6 ∧ Aside0 (laws_FnPads.j0 kq t231 x6_6 t225 t226 t227 t228 t229 t225 (wrap64 (t226 + (Int.tmod (rd t231 0) 7))) = some r) ∧ Aside0 (kq ≤ k) ∧ Aside0 (Kd.R (Kd.int .i64) 3 wc w.heap.size (fun _ => True) (.slice (some ad234) t231.length co13) t231) ∧ Aside0 (wc.heap[gb230]? = some (.cells #[.int .i64 t225, .int .i64 t226, .int .i64 t227, .int .i64 t228, .int .i64 t229] 25 (0, 0))) ∧ Aside0 (wc.heap[gb235]? = some (.cells #[.int .i64 t225, .int .i64 (wrap64 (t226 + (Int.tmod (rd t231 0) 7)))] 40 (0, 0))) ∧ Aside0 (Below w.heap.size w wc))
   case first =>
    have H := HC7.out
    clear HC7
    by_cases c17 : (wrap64 ((wrap64 (t226 + (Int.tmod (rd t231 0) 7))) - t226)) < 5
    ·rw [if_pos c17] at H
     have c17b0 : decide ((wrap64 ((wrap64 (t226 + (Int.tmod (rd t231 0) 7))) - t226)) < 5) = true := decide_eq_true c17
     clear c17
     (first | rw [c17b0] | (simp only [i64_w, i32_w]; rw [c17b0]) | skip)
     have H' := aM H
     clear H
     have hnb18 := NB235_230.out
     have hnc18 := NB230_235.out
     obtain ⟨hcz19_0, hcz19_1, hfz19_0, hfz19_1⟩ := cells2 BK235.out
     obtain ⟨hcz20_0, hcz20_1, hcz20_2, hcz20_3, hcz20_4, hfz20_0, hfz20_1, hfz20_2, hfz20_3, hfz20_4⟩ := cells5 BK230.out
     go_wp2
     go_meet
     case rel => exact ⟨_, (decide ((wrap64 (t226 + (Int.tmod (rd t231 0) 7))) ≤ 1000000)), zs, H', ⟨by first | omega | exact Nat.le_refl _⟩, ⟨by (with_reducible repeat (first | apply Kd.R_alloc | apply Kd.R_drewN | apply Kd.R_drew)); exact Kd.R_mono (Kd.R_far (p := ⟨gb235, 1, none⟩) (Kd.R_far (p := ⟨gb235, 0, none⟩) (Kd.R_types HO233.out BK235.out (by decide)) (fun _ hk => hk.2) (.int .i64 t225)) (fun _ hk => hk.2) (.int .i64 (wrap64 (t226 + (Int.tmod (rd t231 0) 7))))) (fun _ hk => trivial)⟩, ⟨by refine pq ?_; refine blk_far ?_ NB230_235.out _; refine pq ?_; refine blk_far ?_ NB230_235.out _; refine pq ?_; exact BK230.out⟩, ⟨by refine pq ?_; refine blk_put (cs := #[.int .i64 t225, .int .i64 0]) ?_ 1 _ rfl; refine pq ?_; refine blk_put (cs := #[.int .i64 0, .int .i64 0]) ?_ 0 _ rfl; refine pq ?_; exact BK235.out⟩, ⟨zb⟩⟩
    ·rw [if_neg c17] at H
     have c17b0 : decide ((wrap64 ((wrap64 (t226 + (Int.tmod (rd t231 0) 7))) - t226)) < 5) = false := decide_eq_false c17
     clear c17
     (first | rw [c17b0] | (simp only [i64_w, i32_w]; rw [c17b0]) | skip)
     have H' := aM H
     clear H
     have hnb21 := NB235_230.out
     have hnc21 := NB230_235.out
     obtain ⟨hcz22_0, hcz22_1, hfz22_0, hfz22_1⟩ := cells2 BK235.out
     obtain ⟨hcz23_0, hcz23_1, hcz23_2, hcz23_3, hcz23_4, hfz23_0, hfz23_1, hfz23_2, hfz23_3, hfz23_4⟩ := cells5 BK230.out
     go_wp2
     go_meet
     case rel => exact ⟨_, (false), zs, H', ⟨by first | omega | exact Nat.le_refl _⟩, ⟨by (with_reducible repeat (first | apply Kd.R_alloc | apply Kd.R_drewN | apply Kd.R_drew)); exact Kd.R_mono (Kd.R_far (p := ⟨gb235, 1, none⟩) (Kd.R_far (p := ⟨gb235, 0, none⟩) (Kd.R_types HO233.out BK235.out (by decide)) (fun _ hk => hk.2) (.int .i64 t225)) (fun _ hk => hk.2) (.int .i64 (wrap64 (t226 + (Int.tmod (rd t231 0) 7))))) (fun _ hk => trivial)⟩, ⟨by refine pq ?_; refine blk_far ?_ NB230_235.out _; refine pq ?_; refine blk_far ?_ NB230_235.out _; refine pq ?_; exact BK230.out⟩, ⟨by refine pq ?_; refine blk_put (cs := #[.int .i64 t225, .int .i64 0]) ?_ 1 _ rfl; refine pq ?_; refine blk_put (cs := #[.int .i64 0, .int .i64 0]) ?_ 0 _ rfl; refine pq ?_; exact BK235.out⟩, ⟨zb⟩⟩
   case rest =>
    clear HC7
    try clear c1
    try clear c2
    try clear p2
    try clear q2
    try clear hx2
    try clear qi2
    try clear c3
    try clear c6
    try clear c6b0
    try clear c6b1
    try clear p6
    try clear c17
    try clear c17b0
    try clear c18
    try clear c19
    try clear c21
    try clear p23
    try clear q23
    try clear hx23
    try clear qi23
    try clear hcz10_0 hcz10_1 hcz10_2 hcz10_3 hcz10_4 hfz10_0 hfz10_1 hfz10_2 hfz10_3 hfz10_4
    try clear hcz19_0 hcz19_1 hfz19_0 hfz19_1
    try clear hcz20_0 hcz20_1 hcz20_2 hcz20_3 hcz20_4 hfz20_0 hfz20_1 hfz20_2 hfz20_3 hfz20_4
    try clear hcz22_0 hcz22_1 hfz22_0 hfz22_1
    try clear hcz23_0 hcz23_1 hcz23_2 hcz23_3 hcz23_4 hfz23_0 hfz23_1 hfz23_2 hfz23_3 hfz23_4
    try clear hx234_0
    try clear p234
    try clear q234
    obtain ⟨kq, x6_6, rfl, HA, HJ6, HO_4, BK230, BK235, HB⟩ := hcut
    cases kq with
    | zero => exact absurd HA.out (by simp [laws_FnPads.j0])
    | succ kj6 =>
     have H := HA.out
     clear HA
     simp only [laws_FnPads.j0] at H
     have HC24 := aM H
     clear H
     go_upto_region 7 with (fail)
     go_cut [48] (fun v48 wc => ∃ (kq : Nat) (x48_23 : Bool), v48 = .bool x48_23 ∧ Aside0 (laws_FnPads.j1 kq t231 x6_6 x48_23 t225 t226 t227 t228 t229 t225 (wrap64 (t226 + (Int.tmod (rd t231 0) 7))) = some r) ∧ Aside0 (kq ≤ kj6) ∧ Aside0 (Kd.R (Kd.int .i64) 3 wc w.heap.size (fun _ => True) (.slice (some ad234) t231.length co13) t231) ∧ Aside0 (wc.heap[gb230]? = some (.cells #[.int .i64 t225, .int .i64 t226, .int .i64 t227, .int .i64 t228, .int .i64 t229] 25 (0, 0))) ∧ Aside0 (wc.heap[gb235]? = some (.cells #[.int .i64 t225, .int .i64 (wrap64 (t226 + (Int.tmod (rd t231 0) 7)))] 40 (0, 0))) ∧ Aside0 (Below w.heap.size w wc))
     case first =>
      have H := HC24.out
      clear HC24
      replace H := Option.bind_eq_some_iff.mp H
      obtain ⟨t236, A250, H⟩ := H
      replace H : (if (t236 != x6_6) = true then (laws_FnPads.j1 kj6 t231 x6_6 true t225 t226 t227 t228 t229 t225 (wrap64 (t226 + (Int.tmod (rd t231 0) 7)))) else ((impl_LockOk.f t225 t226 t227 t228 t229).bind fun t237 => (laws_FnPads.j1 kj6 t231 x6_6 (!t237) t225 t226 t227 t228 t229 t225 (wrap64 (t226 + (Int.tmod (rd t231 0) 7)))))) = some r := H
      have A25 := aM A250
      clear A250
      by_cases c26 : (t236 != x6_6) = true
      ·rw [if_pos c26] at H
       have c26b0 : (t236 != x6_6) = true := c26
       (try (have c26b1 : decide (t236 = x6_6) = false := by simpa using c26))
       (try (have c26b2 : (t236 == x6_6) = false := by simpa using c26))
       (try (have c26b3 : ¬ (t236 = x6_6) := by simpa using c26))
       clear c26
       (first | rw [c26b0] | (simp only [i64_w, i32_w]; rw [c26b0]) | skip)
       have H' := aM H
       clear H
       have hnb27 := NB235_230.out
       have hnc27 := NB230_235.out
       obtain ⟨hcz28_0, hcz28_1, hfz28_0, hfz28_1⟩ := cells2 BK235.out
       obtain ⟨hcz29_0, hcz29_1, hcz29_2, hcz29_3, hcz29_4, hfz29_0, hfz29_1, hfz29_2, hfz29_3, hfz29_4⟩ := cells5 BK230.out
       go_wp2_with (first | ((with_reducible refine gate_callee (f := 20) rfl ?_); refine goesL_ (some 41) rfl rfl Tryd.func20 (by kernel_rfl) rfl #[.agg #[.int .i64 t225, .int .i64 (wrap64 (t226 + (Int.tmod (rd t231 0) 7)))], .agg #[.int .i64 t225, .int .i64 t226, .int .i64 t227, .int .i64 t228, .int .i64 t229]] rfl za ?_; (with_reducible refine (impl_CanOpen.calls t225 (wrap64 (t226 + (Int.tmod (rd t231 0) 7))) t225 t226 t227 t228 t229 t236 _ A25.out).mono ?_); rintro e w30 ⟨rfl, hb⟩; refine ⟨_, rfl, ?_⟩; have n0_ := aM (Kd.R_below (by (with_reducible repeat (first | apply Kd.R_alloc | apply Kd.R_drewN | apply Kd.R_drew)); exact HO_4.out) hb); have n1_ := aM (bb BK230.out hb); have n2_ := aM (bb BK235.out hb); have n3_ := aM (below_step (zb) hb); clear HO_4; clear BK230; clear BK235; clear HB; have HO_4 := n0_; have BK230 := n1_; have BK235 := n2_; have HB := n3_; clear n0_ n1_ n2_ n3_; (try clear hb); (try clear hb2); (try clear hk); (try clear hi)))
       go_meet
       case rel => exact ⟨_, (true), zs, H', ⟨by have := HJ6.out; first | omega | exact Nat.le_refl _⟩, ⟨by (with_reducible repeat (first | apply Kd.R_alloc | apply Kd.R_drewN | apply Kd.R_drew)); exact HO_4.out⟩, ⟨by exact pk BK230.out⟩, ⟨by exact pk BK235.out⟩, ⟨zb⟩⟩
      ·rw [if_neg c26] at H
       have c26b0 : (t236 != x6_6) = false := by simpa using c26
       (try (have c26b1 : decide (t236 = x6_6) = true := by simpa using c26))
       (try (have c26b2 : (t236 == x6_6) = true := by simpa using c26))
       clear c26
       (first | rw [c26b0] | (simp only [i64_w, i32_w]; rw [c26b0]) | skip)
       replace H := Option.bind_eq_some_iff.mp H
       obtain ⟨t237, A310, H⟩ := H
       replace H : (laws_FnPads.j1 kj6 t231 x6_6 (!t237) t225 t226 t227 t228 t229 t225 (wrap64 (t226 + (Int.tmod (rd t231 0) 7)))) = some r := H
       have A31 := aM A310
       clear A310
       have H' := aM H
       clear H
       have hnb32 := NB235_230.out
       have hnc32 := NB230_235.out
       obtain ⟨hcz33_0, hcz33_1, hfz33_0, hfz33_1⟩ := cells2 BK235.out
       obtain ⟨hcz34_0, hcz34_1, hcz34_2, hcz34_3, hcz34_4, hfz34_0, hfz34_1, hfz34_2, hfz34_3, hfz34_4⟩ := cells5 BK230.out
       go_wp2_with (first | ((with_reducible refine gate_callee (f := 20) rfl ?_); refine goesL_ (some 41) rfl rfl Tryd.func20 (by kernel_rfl) rfl #[.agg #[.int .i64 t225, .int .i64 (wrap64 (t226 + (Int.tmod (rd t231 0) 7)))], .agg #[.int .i64 t225, .int .i64 t226, .int .i64 t227, .int .i64 t228, .int .i64 t229]] rfl za ?_; (with_reducible refine (impl_CanOpen.calls t225 (wrap64 (t226 + (Int.tmod (rd t231 0) 7))) t225 t226 t227 t228 t229 t236 _ A25.out).mono ?_); rintro e w35 ⟨rfl, hb⟩; refine ⟨_, rfl, ?_⟩; have n0_ := aM (Kd.R_below (by (with_reducible repeat (first | apply Kd.R_alloc | apply Kd.R_drewN | apply Kd.R_drew)); exact HO_4.out) hb); have n1_ := aM (bb BK230.out hb); have n2_ := aM (bb BK235.out hb); have n3_ := aM (below_step (zb) hb); clear HO_4; clear BK230; clear BK235; clear HB; have HO_4 := n0_; have BK230 := n1_; have BK235 := n2_; have HB := n3_; clear n0_ n1_ n2_ n3_; (try clear hb); (try clear hb2); (try clear hk); (try clear hi); obtain ⟨hcz36_0, hcz36_1, hcz36_2, hcz36_3, hcz36_4, hfz36_0, hfz36_1, hfz36_2, hfz36_3, hfz36_4⟩ := cells5 BK230.out) | (go_at_call 21; (with_reducible refine (impl_LockOk.calls t225 t226 t227 t228 t229 t237 _ A31.out).mono ?_); rintro e w37 ⟨rfl, hb⟩; have n0_ := aM (Kd.R_below (by (with_reducible repeat (first | apply Kd.R_alloc | apply Kd.R_drewN | apply Kd.R_drew)); exact HO_4.out) hb); have n1_ := aM (bb BK230.out hb); have n2_ := aM (bb BK235.out hb); have n3_ := aM (below_step (zb) hb); clear HO_4; clear BK230; clear BK235; clear HB; have HO_4 := n0_; have BK230 := n1_; have BK235 := n2_; have HB := n3_; clear n0_ n1_ n2_ n3_; (try clear hb); (try clear hb2); (try clear hk); (try clear hi)))
       go_meet
       case rel => exact ⟨_, (!t237), zs, H', ⟨by have := HJ6.out; first | omega | exact Nat.le_refl _⟩, ⟨by (with_reducible repeat (first | apply Kd.R_alloc | apply Kd.R_drewN | apply Kd.R_drew)); exact HO_4.out⟩, ⟨by exact pk BK230.out⟩, ⟨by exact pk BK235.out⟩, ⟨zb⟩⟩
     case rest =>
      clear HC24
      try clear c1
      try clear c2
      try clear p2
      try clear q2
      try clear hx2
      try clear qi2
      try clear c3
      try clear c6
      try clear c6b0
      try clear c6b1
      try clear p6
      try clear c17
      try clear c17b0
      try clear c18
      try clear c19
      try clear c20
      try clear c21
      try clear p23
      try clear q23
      try clear hx23
      try clear qi23
      try clear c26
      try clear c26b0
      try clear c26b1
      try clear c26b2
      try clear c27
      try clear c32
      try clear hcz10_0 hcz10_1 hcz10_2 hcz10_3 hcz10_4 hfz10_0 hfz10_1 hfz10_2 hfz10_3 hfz10_4
      try clear hcz19_0 hcz19_1 hfz19_0 hfz19_1
      try clear hcz20_0 hcz20_1 hcz20_2 hcz20_3 hcz20_4 hfz20_0 hfz20_1 hfz20_2 hfz20_3 hfz20_4
      try clear hcz22_0 hcz22_1 hfz22_0 hfz22_1
      try clear hcz23_0 hcz23_1 hcz23_2 hcz23_3 hcz23_4 hfz23_0 hfz23_1 hfz23_2 hfz23_3 hfz23_4
      try clear hcz28_0 hcz28_1 hfz28_0 hfz28_1
      try clear hcz29_0 hcz29_1 hcz29_2 hcz29_3 hcz29_4 hfz29_0 hfz29_1 hfz29_2 hfz29_3 hfz29_4
      try clear hcz33_0 hcz33_1 hfz33_0 hfz33_1
      try clear hcz34_0 hcz34_1 hcz34_2 hcz34_3 hcz34_4 hfz34_0 hfz34_1 hfz34_2 hfz34_3 hfz34_4
      try clear hcz36_0 hcz36_1 hcz36_2 hcz36_3 hcz36_4 hfz36_0 hfz36_1 hfz36_2 hfz36_3 hfz36_4
      try clear hx234_0
      try clear p2
      try clear p23
      try clear p234
      try clear p6
      try clear q2
      try clear q23
      try clear q234
      obtain ⟨kq, x48_23, rfl, HA, HJ23, HO_4, BK230, BK235, HB⟩ := hcut
      cases kq with
      | zero => exact absurd HA.out (by simp [laws_FnPads.j1])
      | succ kj23 =>
       have H := HA.out
       clear HA
       simp only [laws_FnPads.j1] at H
       by_cases c38 : x48_23 = true
       ·subst c38
        have H1 : (none) = some r := by rw [if_pos rfl] at H; exact H
        clear H
        have H := H1
        clear H1
        exact absurd H (by simp)
       ·replace c38 := Bool.eq_false_iff.mpr c38
        subst c38
        have H1 : ((impl_Press.f kj23 t225 (wrap64 (t226 + (Int.tmod (rd t231 0) 7)))).bind fun bt238 => (if (bt238.2.2.2 != (decide ((wrap64 (t226 + (Int.tmod (rd t231 0) 7))) ≤ 1000000))) = true then (none) else (if x6_6 = true then (if 1 < (t231.length : Int) then ((impl_Try.f kj23 t225 t226 t227 t228 t229 bt238.2.2.1 (wrap64 (t229 + (Int.tmod (rd t231 1) 50)))).bind fun bt244 => (if bt244.2.2.2.2.2 = 0 then ((spec_CodeOf.f kj23 t225 (wrap64 (t226 + (Int.tmod (rd t231 0) 7)))).bind fun t251 => (if bt238.2.2.1.toList = t251.toList then (if bt238.2.1 = (wrap64 ((wrap64 (t226 + (Int.tmod (rd t231 0) 7))) + 1)) then (if bt244.2.1 ≤ bt238.2.1 then (if bt238.2.1 > 1000000 then (some true) else ((impl_CanOpen.f bt238.1 bt238.2.1 bt244.1 bt244.2.1 bt244.2.2.1 bt244.2.2.2.1 bt244.2.2.2.2.1).bind fun t252 => (some t252))) else (none)) else (none)) else (none))) else (none))) else (none)) else (some true)))) = some r := by rw [if_neg (show ¬ (false = true) by decide)] at H; exact H
        clear H
        have H := H1
        clear H1
        replace H := Option.bind_eq_some_iff.mp H
        obtain ⟨⟨t238, t239, t240, t241⟩, A390, H⟩ := H
        replace H : (if (t241 != (decide ((wrap64 (t226 + (Int.tmod (rd t231 0) 7))) ≤ 1000000))) = true then (none) else (if x6_6 = true then (if 1 < (t231.length : Int) then ((impl_Try.f kj23 t225 t226 t227 t228 t229 t240 (wrap64 (t229 + (Int.tmod (rd t231 1) 50)))).bind fun bt244 => (if bt244.2.2.2.2.2 = 0 then ((spec_CodeOf.f kj23 t225 (wrap64 (t226 + (Int.tmod (rd t231 0) 7)))).bind fun t251 => (if t240.toList = t251.toList then (if t239 = (wrap64 ((wrap64 (t226 + (Int.tmod (rd t231 0) 7))) + 1)) then (if bt244.2.1 ≤ t239 then (if t239 > 1000000 then (some true) else ((impl_CanOpen.f t238 t239 bt244.1 bt244.2.1 bt244.2.2.1 bt244.2.2.2.1 bt244.2.2.2.2.1).bind fun t252 => (some t252))) else (none)) else (none)) else (none))) else (none))) else (none)) else (some true))) = some r := H
        have A39 := aM A390
        clear A390
        by_cases c40 : (t241 != (decide ((wrap64 (t226 + (Int.tmod (rd t231 0) 7))) ≤ 1000000))) = true
        ·rw [if_pos c40] at H
         exact absurd H (by simp)
        ·rw [if_neg c40] at H
         have c40b0 : (t241 != (decide ((wrap64 (t226 + (Int.tmod (rd t231 0) 7))) ≤ 1000000))) = false := by simpa using c40
         (try (have c40b1 : decide (t241 = (decide ((wrap64 (t226 + (Int.tmod (rd t231 0) 7))) ≤ 1000000))) = true := by simpa using c40))
         (try (have c40b2 : (t241 == (decide ((wrap64 (t226 + (Int.tmod (rd t231 0) 7))) ≤ 1000000))) = true := by simpa using c40))
         clear c40
         by_cases c41 : x6_6 = true
         ·subst c41
          have H1 : (if 1 < (t231.length : Int) then ((impl_Try.f kj23 t225 t226 t227 t228 t229 t240 (wrap64 (t229 + (Int.tmod (rd t231 1) 50)))).bind fun bt244 => (if bt244.2.2.2.2.2 = 0 then ((spec_CodeOf.f kj23 t225 (wrap64 (t226 + (Int.tmod (rd t231 0) 7)))).bind fun t251 => (if t240.toList = t251.toList then (if t239 = (wrap64 ((wrap64 (t226 + (Int.tmod (rd t231 0) 7))) + 1)) then (if bt244.2.1 ≤ t239 then (if t239 > 1000000 then (some true) else ((impl_CanOpen.f t238 t239 bt244.1 bt244.2.1 bt244.2.2.1 bt244.2.2.2.1 bt244.2.2.2.2.1).bind fun t252 => (some t252))) else (none)) else (none)) else (none))) else (none))) else (none)) = some r := by rw [if_pos rfl] at H; exact H
          clear H
          have H := H1
          clear H1
          by_cases c42 : 1 < (t231.length : Int)
          ·rw [if_pos c42] at H
           have c42b0 : decide (1 < (t231.length : Int)) = true := decide_eq_true c42
           have c42b1 : decide (1 < t231.length) = true := decide_eq_true (by omega)
           clear c42
           replace H := Option.bind_eq_some_iff.mp H
           obtain ⟨⟨t244, t245, t246, t247, t248, t249⟩, A430, H⟩ := H
           replace H : (if t249 = 0 then ((spec_CodeOf.f kj23 t225 (wrap64 (t226 + (Int.tmod (rd t231 0) 7)))).bind fun t251 => (if t240.toList = t251.toList then (if t239 = (wrap64 ((wrap64 (t226 + (Int.tmod (rd t231 0) 7))) + 1)) then (if t245 ≤ t239 then (if t239 > 1000000 then (some true) else ((impl_CanOpen.f t238 t239 t244 t245 t246 t247 t248).bind fun t252 => (some t252))) else (none)) else (none)) else (none))) else (none)) = some r := H
           have A43 := aM A430
           clear A430
           by_cases c44 : t249 = 0
           ·rw [if_pos c44] at H
            have c44b0 : (t249 == 0) = true := beq_iff_eq.mpr c44
            have c44b1 : (t249 != 0) = false := bne_eq_false_iff_eq.mpr c44
            clear c44
            replace H := Option.bind_eq_some_iff.mp H
            obtain ⟨t251, A450, H⟩ := H
            replace H : (if t240.toList = t251.toList then (if t239 = (wrap64 ((wrap64 (t226 + (Int.tmod (rd t231 0) 7))) + 1)) then (if t245 ≤ t239 then (if t239 > 1000000 then (some true) else ((impl_CanOpen.f t238 t239 t244 t245 t246 t247 t248).bind fun t252 => (some t252))) else (none)) else (none)) else (none)) = some r := H
            have A45 := aM A450
            clear A450
            by_cases c46 : t240.toList = t251.toList
            ·rw [if_pos c46] at H
             have c46b0 : (t240.toList == t251.toList) = true := beq_iff_eq.mpr c46
             have c46b1 : (t240.toList != t251.toList) = false := bne_eq_false_iff_eq.mpr c46
             clear c46
             by_cases c47 : t239 = (wrap64 ((wrap64 (t226 + (Int.tmod (rd t231 0) 7))) + 1))
             ·rw [if_pos c47] at H
              have c47b0 : (t239 == (wrap64 ((wrap64 (t226 + (Int.tmod (rd t231 0) 7))) + 1))) = true := beq_iff_eq.mpr c47
              have c47b1 : (t239 != (wrap64 ((wrap64 (t226 + (Int.tmod (rd t231 0) 7))) + 1))) = false := bne_eq_false_iff_eq.mpr c47
              clear c47
              by_cases c48 : t245 ≤ t239
              ·rw [if_pos c48] at H
               have c48b0 : decide (t245 ≤ t239) = true := decide_eq_true c48
               clear c48
               by_cases c49 : t239 > 1000000
               ·rw [if_pos c49] at H
                have c49b0 : decide (1000000 < t239) = true := decide_eq_true c49
                clear c49
                obtain rfl := Option.some.inj H
                have hnb50 := NB235_230.out
                have hnc50 := NB230_235.out
                obtain ⟨hcz51_0, hcz51_1, hfz51_0, hfz51_1⟩ := cells2 BK235.out
                try go_wp2_with (first | ((with_reducible refine gate_callee (f := 22) rfl ?_); refine goesL_ (some 51) rfl rfl Tryd.func22 (by kernel_rfl) rfl #[.agg #[.int .i64 t225, .int .i64 (wrap64 (t226 + (Int.tmod (rd t231 0) 7)))]] rfl za ?_; (with_reducible refine (impl_Press.calls kj23 t225 (wrap64 (t226 + (Int.tmod (rd t231 0) 7))) t238 t239 t240 t241 _ A39.out).mono ?_); rintro e w52 ⟨rfl, hb⟩; refine ⟨_, rfl, ?_⟩; have n0_ := aM (Kd.R_below (by (with_reducible repeat (first | apply Kd.R_alloc | apply Kd.R_drewN | apply Kd.R_drew)); exact HO_4.out) hb); have n1_ := aM (bb BK230.out hb); have n2_ := aM (bb BK235.out hb); have n3_ := aM (below_step (zb) hb); clear HO_4; clear BK230; clear BK235; clear HB; have HO_4 := n0_; have BK230 := n1_; have BK235 := n2_; have HB := n3_; clear n0_ n1_ n2_ n3_; (try clear hb); (try clear hb2); (try clear hk); (try clear hi)) | ((with_reducible refine gate_dst (N := 7) rfl ?_); refine box_event ?hg (N := 7) ?hd (cs := #[.int .i64 0, .int .i64 0]) (t := 40) ?hr ?_; (case hd => rfl); (case hg => rfl); (case hr => exact zg); intro gb242 hg w53 hbox hb; have n0_ := aM (Kd.R_below (by (with_reducible repeat (first | apply Kd.R_alloc | apply Kd.R_drewN | apply Kd.R_drew)); exact HO_4.out) hb); have n1_ := aM (bb BK230.out hb); have n2_ := aM (bb BK235.out hb); have n3_ := aM (below_step (zb) hb); have n4_ := aM (hbox); have n5_ := aM ((by rw [hg]; exact (below_size (zb)) : w.heap.size ≤ gb242)); have n6_ := aM ((by rw [hg]; exact (below_size (zb)) : w.heap.size ≤ gb242)); have n7_ := aM ((by rw [hg]; exact Nat.ne_of_lt (nl BK230.out) : gb230 ≠ gb242)); have n8_ := aM ((by rw [hg]; exact Nat.ne_of_gt (nl BK230.out) : gb242 ≠ gb230)); have n9_ := aM ((by rw [hg]; exact Nat.ne_of_lt (nl BK235.out) : gb235 ≠ gb242)); have n10_ := aM ((by rw [hg]; exact Nat.ne_of_gt (nl BK235.out) : gb242 ≠ gb235)); clear HO_4; clear BK230; clear BK235; clear HB; have HO_4 := n0_; have BK230 := n1_; have BK235 := n2_; have HB := n3_; have BK242 := n4_; have GW242 := n5_; have GE242 := n6_; have NB230_242 := n7_; have NB242_230 := n8_; have NB235_242 := n9_; have NB242_235 := n10_; clear n0_ n1_ n2_ n3_ n4_ n5_ n6_ n7_ n8_ n9_ n10_; clear hb hbox hg; have hnb54 := NB242_230.out; have hnc54 := NB230_242.out; have hnb55 := NB242_235.out; have hnc55 := NB235_242.out; obtain ⟨hcz56_0, hcz56_1, hfz56_0, hfz56_1⟩ := cells2 BK242.out; obtain ⟨hcz57_0, hcz57_1, hfz57_0, hfz57_1⟩ := cells2 BK235.out))
                have n0_ : Aside0 (Kd.R (Kd.int .i64) 3 ((w53.setCell ⟨gb242, 0, none⟩ (.int .i64 t238)).setCell ⟨gb242, 1, none⟩ (.int .i64 t239)) w.heap.size (fun _ => True) (.slice (some ad234) t231.length co13) t231) := ⟨by (with_reducible repeat (first | apply Kd.R_alloc | apply Kd.R_drewN | apply Kd.R_drew)); exact Kd.R_mono (Kd.R_far (p := ⟨gb242, 1, none⟩) (Kd.R_far (p := ⟨gb242, 0, none⟩) (Kd.R_types HO_4.out BK242.out (by decide)) (fun _ hk => hk.2) (.int .i64 t238)) (fun _ hk => hk.2) (.int .i64 t239)) (fun _ hk => trivial)⟩
                have n1_ : Aside0 (((w53.setCell ⟨gb242, 0, none⟩ (.int .i64 t238)).setCell ⟨gb242, 1, none⟩ (.int .i64 t239)).heap[gb230]? = some (.cells #[.int .i64 t225, .int .i64 t226, .int .i64 t227, .int .i64 t228, .int .i64 t229] 25 (0, 0))) := ⟨by refine pq ?_; refine blk_far ?_ NB230_242.out _; refine pq ?_; refine blk_far ?_ NB230_242.out _; refine pq ?_; exact BK230.out⟩
                have n2_ : Aside0 (((w53.setCell ⟨gb242, 0, none⟩ (.int .i64 t238)).setCell ⟨gb242, 1, none⟩ (.int .i64 t239)).heap[gb235]? = some (.cells #[.int .i64 t225, .int .i64 (wrap64 (t226 + (Int.tmod (rd t231 0) 7)))] 40 (0, 0))) := ⟨by refine pq ?_; refine blk_far ?_ NB235_242.out _; refine pq ?_; refine blk_far ?_ NB235_242.out _; refine pq ?_; exact BK235.out⟩
                have n3_ : Aside0 (((w53.setCell ⟨gb242, 0, none⟩ (.int .i64 t238)).setCell ⟨gb242, 1, none⟩ (.int .i64 t239)).heap[gb242]? = some (.cells #[.int .i64 t238, .int .i64 t239] 40 (0, 0))) := ⟨by refine pq ?_; refine blk_put (cs := #[.int .i64 t238, .int .i64 0]) ?_ 1 _ rfl; refine pq ?_; refine blk_put (cs := #[.int .i64 0, .int .i64 0]) ?_ 0 _ rfl; refine pq ?_; exact BK242.out⟩
                have n4_ : Aside0 (Below w.heap.size w ((w53.setCell ⟨gb242, 0, none⟩ (.int .i64 t238)).setCell ⟨gb242, 1, none⟩ (.int .i64 t239))) := ⟨zb⟩
                (try clear HO_4)
                (try clear BK230)
                (try clear BK235)
                (try clear BK242)
                (try clear HB)
                generalize ((w53.setCell ⟨gb242, 0, none⟩ (.int .i64 t238)).setCell ⟨gb242, 1, none⟩ (.int .i64 t239)) = w58 at n0_ n1_ n2_ n3_ n4_ ⊢
                have HO_4 := n0_
                have BK230 := n1_
                have BK235 := n2_
                have BK242 := n3_
                have HB := n4_
                clear n0_ n1_ n2_ n3_ n4_
                have n0_ := aM (Kd.R_drew HO_4.out)
                have n1_ := aM (blk_drew BK230.out)
                have n2_ := aM (blk_drew BK235.out)
                have n3_ := aM (blk_drew BK242.out)
                have n4_ := aM (below_drew1 HB.out)
                clear HO_4
                clear BK230
                clear BK235
                clear BK242
                clear HB
                have HO_4 := n0_
                have BK230 := n1_
                have BK235 := n2_
                have BK242 := n3_
                have HB := n4_
                clear n0_ n1_ n2_ n3_ n4_
                have p243 : 0 ≤ (1 : Int) := (by omega)
                have q243 : 1 < (t231.length : Int) := of_decide_eq_true (by first | (with_reducible assumption) | assumption)
                obtain ⟨ad243, e243, hx243_0⟩ := Kd.at_int (Kd.R_reads' HO_4.out).2.2 1 p243 q243
                obtain rfl : ad234 = ad243 := (by injection e243)
                (try simp only [show (1 : Int).toNat = 1 from rfl, Nat.reduceMul, Nat.reduceEqDiff, Go.Addr.add, ↓reduceIte] at hx243_0)
                have qi243 : (1 < t231.length) = True := eq_true (by omega)
                (try rw [show ((1 : Int)).toNat = 1 from rfl] at hx243_0)
                replace p243 := eq_true p243
                replace q243 := eq_true q243
                refine start_ (n := 16) (S := fun w' => w'.cell? ⟨gb230, 0, none⟩ = some (.int .i64 t225) ∧ w'.cell? ⟨gb230, 1, none⟩ = some (.int .i64 t226) ∧ w'.cell? ⟨gb230, 2, none⟩ = some (.int .i64 t227) ∧ w'.cell? ⟨gb230, 3, none⟩ = some (.int .i64 t228) ∧ w'.cell? ⟨gb230, 4, none⟩ = some (.int .i64 t229) ∧ w'.cell? ⟨ad234.block, ad234.off + 1, none⟩ = some (.int .i64 (rd t231 1))) (ds := []) #[false, false, false, false, false, false, false, false, false, false, false, false, false, false, false, false] (by kernel_rfl) rfl rfl ⟨(blk_cell BK230.out 0).trans rfl, (blk_cell BK230.out 1).trans rfl, (blk_cell BK230.out 2).trans rfl, (blk_cell BK230.out 3).trans rfl, (blk_cell BK230.out 4).trans rfl, hx243_0⟩ (fun hHeld => ?_); refine with_tabW laws_FnPads.tab14 laws_FnPads.bits14 (fun HT_ HW_ => ?_)
                generalize w58.drew = w59 at HO_4 BK230 BK235 BK242 HB hx243_0 hHeld ⊢
                refine pure_ (i := 1) (N := some 64) (v := ?_) (a' := ?_) #[false, true, false, false, false, false, false, false, false, false, false, false, false, false, false, false] rfl rfl (any_of HT_.out (by kernel_rfl)) (fun _ _ _ h => h) (Or.inl ⟨by rfl, ?_⟩) ?_ ?_
                rotate_left
                ·intro w'
                 go_simp
                 with_reducible rfl
                rotate_left
                ·simp only [Act.put, List.setIfInBounds_toArray, List.set_cons_zero, List.set_cons_succ, i64_w, i32_w]
                 rfl
                refine pure_ (i := 2) (N := some 65) (v := ?_) (a' := ?_) #[false, true, true, false, false, false, false, false, false, false, false, false, false, false, false, false] rfl rfl (any_of HT_.out (by kernel_rfl)) (fun _ _ _ h => h) (Or.inl ⟨by rfl, ?_⟩) ?_ ?_
                rotate_left
                ·intro w'
                 go_simp
                 with_reducible rfl
                rotate_left
                ·simp only [Act.put, List.setIfInBounds_toArray, List.set_cons_zero, List.set_cons_succ, i64_w, i32_w]
                 rfl
                refine pure_ (i := 4) (N := some 67) (v := ?_) (a' := ?_) #[false, true, true, false, true, false, false, false, false, false, false, false, false, false, false, false] rfl rfl (any_of HT_.out (by kernel_rfl)) (fun _ _ _ h => h) (Or.inl ⟨by rfl, ?_⟩) ?_ ?_
                rotate_left
                ·intro w'
                 go_simp
                 with_reducible rfl
                rotate_left
                ·simp only [Act.put, List.setIfInBounds_toArray, List.set_cons_zero, List.set_cons_succ, i64_w, i32_w]
                 rfl
                refine pure_ (i := 5) (N := some 68) (v := ?_) (a' := ?_) #[false, true, true, false, true, true, false, false, false, false, false, false, false, false, false, false] rfl rfl (any_of HT_.out (by kernel_rfl)) (fun _ _ _ h => h) (Or.inl ⟨by rfl, ?_⟩) ?_ ?_
                rotate_left
                ·intro w'
                 go_simp
                 with_reducible rfl
                rotate_left
                ·simp only [Act.put, List.setIfInBounds_toArray, List.set_cons_zero, List.set_cons_succ, i64_w, i32_w]
                 rfl
                refine take_ (i := 0) (N := some 63) (v := ?_) (a' := ?_) #[true, true, true, false, true, true, false, false, false, false, false, false, false, false, false, false] rfl rfl (take_ofW HT_.out HW_.out (by kernel_rfl)) (fun _ _ _ h => h) (Or.inl ⟨by rfl, ?_⟩) hHeld ?_ ?_
                rotate_left
                ·rintro w' ⟨s0, s1, s2, s3, s4, s5⟩
                 go_simp
                 with_reducible rfl
                rotate_left
                ·simp only [Act.put, List.setIfInBounds_toArray, List.set_cons_zero, List.set_cons_succ, i64_w, i32_w]
                 rfl
                refine take_ (i := 3) (N := some 66) (v := ?_) (a' := ?_) #[true, true, true, true, true, true, false, false, false, false, false, false, false, false, false, false] rfl rfl (take_ofW HT_.out HW_.out (by kernel_rfl)) (fun _ _ _ h => h) (Or.inl ⟨by rfl, ?_⟩) hHeld ?_ ?_
                rotate_left
                ·rintro w' ⟨s0, s1, s2, s3, s4, s5⟩
                 go_simp
                 with_reducible rfl
                rotate_left
                ·simp only [Act.put, List.setIfInBounds_toArray, List.set_cons_zero, List.set_cons_succ, i64_w, i32_w]
                 rfl
                refine take_ (i := 6) (N := some 69) (v := ?_) (a' := ?_) #[true, true, true, true, true, true, true, false, false, false, false, false, false, false, false, false] rfl rfl (take_ofW HT_.out HW_.out (by kernel_rfl)) (fun _ _ _ h => h) (Or.inl ⟨by rfl, ?_⟩) hHeld ?_ ?_
                rotate_left
                ·rintro w' ⟨s0, s1, s2, s3, s4, s5⟩
                 go_simp
                 with_reducible rfl
                rotate_left
                ·simp only [Act.put, List.setIfInBounds_toArray, List.set_cons_zero, List.set_cons_succ, i64_w, i32_w]
                 rfl
                refine pure_ (i := 7) (N := some 70) (v := ?_) (a' := ?_) #[true, true, true, true, true, true, true, true, false, false, false, false, false, false, false, false] rfl rfl (any_of HT_.out (by kernel_rfl)) (fun _ _ _ h => h) (Or.inl ⟨by rfl, ?_⟩) ?_ ?_
                rotate_left
                ·intro w'
                 go_simp
                 with_reducible rfl
                rotate_left
                ·simp only [Act.put, List.setIfInBounds_toArray, List.set_cons_zero, List.set_cons_succ, i64_w, i32_w]
                 rfl
                refine pure_ (i := 8) (N := some 71) (v := ?_) (a' := ?_) #[true, true, true, true, true, true, true, true, true, false, false, false, false, false, false, false] rfl rfl (any_of HT_.out (by kernel_rfl)) (fun _ _ _ h => h) (Or.inl ⟨by rfl, ?_⟩) ?_ ?_
                rotate_left
                ·intro w'
                 go_simp
                 with_reducible rfl
                rotate_left
                ·simp only [Act.put, List.setIfInBounds_toArray, List.set_cons_zero, List.set_cons_succ, i64_w, i32_w]
                 rfl
                refine join_ (σ := Nat) 2 #[true, true, true, true, true, true, true, true, true, true, true, true, true, true, false, false] (fun s_ => [(72, .tuple #[.agg #[.int .i64 t244, .int .i64 t245, .int .i64 t246, .int .i64 t247, .int .i64 t248], .int .i64 t249]), (10, .pointer (some ⟨s_, 0, none⟩)), (62, .tuple #[.agg #[.int .i64 t244, .int .i64 t245, .int .i64 t246, .int .i64 t247, .int .i64 t248], .int .i64 t249]), (73, .agg #[.int .i64 t244, .int .i64 t245, .int .i64 t246, .int .i64 t247, .int .i64 t248]), (74, .int .i64 t249)]) (fun s_ w' => (w'.cell? ⟨gb230, 0, none⟩ = some (.int .i64 t225) ∧ w'.cell? ⟨gb230, 1, none⟩ = some (.int .i64 t226) ∧ w'.cell? ⟨gb230, 2, none⟩ = some (.int .i64 t227) ∧ w'.cell? ⟨gb230, 3, none⟩ = some (.int .i64 t228) ∧ w'.cell? ⟨gb230, 4, none⟩ = some (.int .i64 t229) ∧ w'.cell? ⟨ad234.block, ad234.off + 1, none⟩ = some (.int .i64 (rd t231 1))) ∧ (Kd.R (Kd.int .i64) 3 w' w.heap.size (fun _ => True) (.slice (some ad234) t231.length co13) t231) ∧ (w'.heap[gb230]? = some (.cells #[.int .i64 t225, .int .i64 t226, .int .i64 t227, .int .i64 t228, .int .i64 t229] 25 (0, 0))) ∧ (w'.heap[gb235]? = some (.cells #[.int .i64 t225, .int .i64 (wrap64 (t226 + (Int.tmod (rd t231 0) 7)))] 40 (0, 0))) ∧ (w'.heap[gb242]? = some (.cells #[.int .i64 t238, .int .i64 t239] 40 (0, 0))) ∧ (w'.heap[s_]? = some (.cells #[.int .i64 0, .int .i64 0, .int .i64 0, .int .i64 0, .int .i64 0] 25 (0, 0))) ∧ (w.heap.size ≤ s_) ∧ (w.heap.size ≤ s_) ∧ (gb230 ≠ s_) ∧ (s_ ≠ gb230) ∧ (gb235 ≠ s_) ∧ (s_ ≠ gb235) ∧ (gb242 ≠ s_) ∧ (s_ ≠ gb242) ∧ (Below w.heap.size w w')) ?_ ?_
                rotate_left
                ·intro hCont
                 refine two_ (i := 9) (j := 13) (Ni := some 72) (Nj := some 10) #[true, true, true, true, true, true, true, true, true, true, false, false, false, false, false, false] #[true, true, true, true, true, true, true, true, true, false, false, false, false, true, false, false] rfl rfl rfl rfl (two_of HT_.out (by kernel_rfl)) (by decide) (by decide) (fun K hK => ?_) (fun K hK => ?_)
                 ·skip
                  refine goes_ Tryd.func13 (by kernel_rfl) rfl #[.agg #[.int .i64 t225, .int .i64 t226, .int .i64 t227, .int .i64 t228, .int .i64 t229], .string t240, .int .i64 (wrap64 (t229 + (Int.tmod (rd t231 1) 50)))] (by rfl) rfl rfl za ?_
                  with_reducible refine (impl_Try.calls kj23 t225 t226 t227 t228 t229 t240 (wrap64 (t229 + (Int.tmod (rd t231 1) 50))) t244 t245 t246 t247 t248 t249 _ A43.out).mono ?_
                  rintro e w60 ⟨rfl, hb⟩
                  have HS5_ := (hb.cell (World.block_lt_of_cell? _ _ (hHeld.2.2.2.2.2))).trans (hHeld.2.2.2.2.2)
                  refine ⟨_, rfl, ?_⟩
                  have n0_ := aM (Kd.R_below (by (with_reducible repeat (first | apply Kd.R_alloc | apply Kd.R_drewN | apply Kd.R_drew)); exact HO_4.out) hb)
                  have n1_ := aM (bb BK230.out hb)
                  have n2_ := aM (bb BK235.out hb)
                  have n3_ := aM (bb BK242.out hb)
                  have n4_ := aM (below_step (zb) hb)
                  clear HO_4
                  clear BK230
                  clear BK235
                  clear BK242
                  clear HB
                  have HO_4 := n0_
                  have BK230 := n1_
                  have BK235 := n2_
                  have BK242 := n3_
                  have HB := n4_
                  clear n0_ n1_ n2_ n3_ n4_
                  (try clear hb)
                  (try clear hb2)
                  (try clear hk)
                  (try clear hi)
                  refine hK.out _ _ ⟨(blk_cell BK230.out 0).trans rfl, (blk_cell BK230.out 1).trans rfl, (blk_cell BK230.out 2).trans rfl, (blk_cell BK230.out 3).trans rfl, (blk_cell BK230.out 4).trans rfl, HS5_⟩ (fun hHeld => ?_)
                  clear hK K
                  refine norm_ (a' := ?_) ?_ ?_
                  rotate_left
                  ·show Act.put _ (some 72) _ = _
                   simp only [Act.put, List.setIfInBounds_toArray, List.set_cons_zero, List.set_cons_succ, i64_w, i32_w]
                   rfl
                  refine pure_ (i := 10) (N := some 62) (v := ?_) (a' := ?_) #[true, true, true, true, true, true, true, true, true, true, true, false, false, false, false, false] rfl rfl (any_of HT_.out (by kernel_rfl)) (fun _ _ _ h => h) (Or.inl ⟨by rfl, ?_⟩) ?_ ?_
                  rotate_left
                  ·intro w'
                   go_simp
                   with_reducible rfl
                  rotate_left
                  ·simp only [Act.put, List.setIfInBounds_toArray, List.set_cons_zero, List.set_cons_succ, i64_w, i32_w]
                   rfl
                  refine pure_ (i := 11) (N := some 73) (v := ?_) (a' := ?_) #[true, true, true, true, true, true, true, true, true, true, true, true, false, false, false, false] rfl rfl (any_of HT_.out (by kernel_rfl)) (fun _ _ _ h => h) (Or.inl ⟨by rfl, ?_⟩) ?_ ?_
                  rotate_left
                  ·intro w'
                   go_simp
                   with_reducible rfl
                  rotate_left
                  ·simp only [Act.put, List.setIfInBounds_toArray, List.set_cons_zero, List.set_cons_succ, i64_w, i32_w]
                   rfl
                  refine pure_ (i := 12) (N := some 74) (v := ?_) (a' := ?_) #[true, true, true, true, true, true, true, true, true, true, true, true, true, false, false, false] rfl rfl (any_of HT_.out (by kernel_rfl)) (fun _ _ _ h => h) (Or.inl ⟨by rfl, ?_⟩) ?_ ?_
                  rotate_left
                  ·intro w'
                   go_simp
                   with_reducible rfl
                  rotate_left
                  ·simp only [Act.put, List.setIfInBounds_toArray, List.set_cons_zero, List.set_cons_succ, i64_w, i32_w]
                   rfl
                  refine one_ (i := 13) (N := some 10) #[true, true, true, true, true, true, true, true, true, true, true, true, true, true, false, false] rfl rfl (one_of HT_.out (by kernel_rfl)) (by decide) (fun K hK => ?_)
                  refine box_step ?hg (N := 10) ?hd (cs := #[.int .i64 0, .int .i64 0, .int .i64 0, .int .i64 0, .int .i64 0]) (t := 25) ?hr ?_; (case hd => rfl); (case hg => rfl); (case hr => exact zg)
                  intro gb250 hg w61 hbox hb
                  have HS5_ := (hb.cell (World.block_lt_of_cell? _ _ (hHeld.2.2.2.2.2))).trans (hHeld.2.2.2.2.2)
                  have n0_ := aM (Kd.R_below (by (with_reducible repeat (first | apply Kd.R_alloc | apply Kd.R_drewN | apply Kd.R_drew)); exact HO_4.out) hb)
                  have n1_ := aM (bb BK230.out hb)
                  have n2_ := aM (bb BK235.out hb)
                  have n3_ := aM (bb BK242.out hb)
                  have n4_ := aM (below_step (zb) hb)
                  have n5_ := aM (hbox)
                  have n6_ := aM ((by rw [hg]; exact (below_size (zb)) : w.heap.size ≤ gb250))
                  have n7_ := aM ((by rw [hg]; exact (below_size (zb)) : w.heap.size ≤ gb250))
                  have n8_ := aM ((by rw [hg]; exact Nat.ne_of_lt (nl BK230.out) : gb230 ≠ gb250))
                  have n9_ := aM ((by rw [hg]; exact Nat.ne_of_gt (nl BK230.out) : gb250 ≠ gb230))
                  have n10_ := aM ((by rw [hg]; exact Nat.ne_of_lt (nl BK235.out) : gb235 ≠ gb250))
                  have n11_ := aM ((by rw [hg]; exact Nat.ne_of_gt (nl BK235.out) : gb250 ≠ gb235))
                  have n12_ := aM ((by rw [hg]; exact Nat.ne_of_lt (nl BK242.out) : gb242 ≠ gb250))
                  have n13_ := aM ((by rw [hg]; exact Nat.ne_of_gt (nl BK242.out) : gb250 ≠ gb242))
                  clear HO_4
                  clear BK230
                  clear BK235
                  clear BK242
                  clear HB
                  have HO_4 := n0_
                  have BK230 := n1_
                  have BK235 := n2_
                  have BK242 := n3_
                  have HB := n4_
                  have BK250 := n5_
                  have GW250 := n6_
                  have GE250 := n7_
                  have NB230_250 := n8_
                  have NB250_230 := n9_
                  have NB235_250 := n10_
                  have NB250_235 := n11_
                  have NB242_250 := n12_
                  have NB250_242 := n13_
                  clear n0_ n1_ n2_ n3_ n4_ n5_ n6_ n7_ n8_ n9_ n10_ n11_ n12_ n13_
                  clear hb hbox hg
                  refine hK.out _ _ ⟨(blk_cell BK230.out 0).trans rfl, (blk_cell BK230.out 1).trans rfl, (blk_cell BK230.out 2).trans rfl, (blk_cell BK230.out 3).trans rfl, (blk_cell BK230.out 4).trans rfl, HS5_⟩ (fun hHeld => ?_)
                  clear hK K
                  refine norm_ (a' := ?_) ?_ ?_
                  rotate_left
                  ·show Act.put _ (some 10) _ = _
                   simp only [Act.put, List.setIfInBounds_toArray, List.set_cons_zero, List.set_cons_succ, i64_w, i32_w]
                   rfl
                  exact norm_ (by simp only [putAll, Act.put, List.setIfInBounds_toArray, List.set_cons_zero, List.set_cons_succ]) (hCont (gb250) _ ⟨hHeld, (by (with_reducible repeat (first | apply Kd.R_alloc | apply Kd.R_drewN | apply Kd.R_drew)); exact HO_4.out), (by exact pk BK230.out), (by exact pk BK235.out), (by exact pk BK242.out), (by exact pk BK250.out), GW250.out, GE250.out, NB230_250.out, NB250_230.out, NB235_250.out, NB250_235.out, NB242_250.out, NB250_242.out, (zb)⟩)
                 ·skip
                  refine box_step ?hg (N := 10) ?hd (cs := #[.int .i64 0, .int .i64 0, .int .i64 0, .int .i64 0, .int .i64 0]) (t := 25) ?hr ?_; (case hd => rfl); (case hg => rfl); (case hr => exact zg)
                  intro gb250 hg w60 hbox hb
                  have HS5_ := (hb.cell (World.block_lt_of_cell? _ _ (hHeld.2.2.2.2.2))).trans (hHeld.2.2.2.2.2)
                  have n0_ := aM (Kd.R_below (by (with_reducible repeat (first | apply Kd.R_alloc | apply Kd.R_drewN | apply Kd.R_drew)); exact HO_4.out) hb)
                  have n1_ := aM (bb BK230.out hb)
                  have n2_ := aM (bb BK235.out hb)
                  have n3_ := aM (bb BK242.out hb)
                  have n4_ := aM (below_step (zb) hb)
                  have n5_ := aM (hbox)
                  have n6_ := aM ((by rw [hg]; exact (below_size (zb)) : w.heap.size ≤ gb250))
                  have n7_ := aM ((by rw [hg]; exact (below_size (zb)) : w.heap.size ≤ gb250))
                  have n8_ := aM ((by rw [hg]; exact Nat.ne_of_lt (nl BK230.out) : gb230 ≠ gb250))
                  have n9_ := aM ((by rw [hg]; exact Nat.ne_of_gt (nl BK230.out) : gb250 ≠ gb230))
                  have n10_ := aM ((by rw [hg]; exact Nat.ne_of_lt (nl BK235.out) : gb235 ≠ gb250))
                  have n11_ := aM ((by rw [hg]; exact Nat.ne_of_gt (nl BK235.out) : gb250 ≠ gb235))
                  have n12_ := aM ((by rw [hg]; exact Nat.ne_of_lt (nl BK242.out) : gb242 ≠ gb250))
                  have n13_ := aM ((by rw [hg]; exact Nat.ne_of_gt (nl BK242.out) : gb250 ≠ gb242))
                  clear HO_4
                  clear BK230
                  clear BK235
                  clear BK242
                  clear HB
                  have HO_4 := n0_
                  have BK230 := n1_
                  have BK235 := n2_
                  have BK242 := n3_
                  have HB := n4_
                  have BK250 := n5_
                  have GW250 := n6_
                  have GE250 := n7_
                  have NB230_250 := n8_
                  have NB250_230 := n9_
                  have NB235_250 := n10_
                  have NB250_235 := n11_
                  have NB242_250 := n12_
                  have NB250_242 := n13_
                  clear n0_ n1_ n2_ n3_ n4_ n5_ n6_ n7_ n8_ n9_ n10_ n11_ n12_ n13_
                  clear hb hbox hg
                  refine hK.out _ _ ⟨(blk_cell BK230.out 0).trans rfl, (blk_cell BK230.out 1).trans rfl, (blk_cell BK230.out 2).trans rfl, (blk_cell BK230.out 3).trans rfl, (blk_cell BK230.out 4).trans rfl, HS5_⟩ (fun hHeld => ?_)
                  clear hK K
                  refine norm_ (a' := ?_) ?_ ?_
                  rotate_left
                  ·show Act.put _ (some 10) _ = _
                   simp only [Act.put, List.setIfInBounds_toArray, List.set_cons_zero, List.set_cons_succ, i64_w, i32_w]
                   rfl
                  refine one_ (i := 9) (N := some 72) #[true, true, true, true, true, true, true, true, true, true, false, false, false, true, false, false] rfl rfl (one_of HT_.out (by kernel_rfl)) (by decide) (fun K hK => ?_)
                  refine goes_ Tryd.func13 (by kernel_rfl) rfl #[.agg #[.int .i64 t225, .int .i64 t226, .int .i64 t227, .int .i64 t228, .int .i64 t229], .string t240, .int .i64 (wrap64 (t229 + (Int.tmod (rd t231 1) 50)))] (by rfl) rfl rfl za ?_
                  with_reducible refine (impl_Try.calls kj23 t225 t226 t227 t228 t229 t240 (wrap64 (t229 + (Int.tmod (rd t231 1) 50))) t244 t245 t246 t247 t248 t249 _ A43.out).mono ?_
                  rintro e w61 ⟨rfl, hb⟩
                  have HS5_ := (hb.cell (World.block_lt_of_cell? _ _ (hHeld.2.2.2.2.2))).trans (hHeld.2.2.2.2.2)
                  refine ⟨_, rfl, ?_⟩
                  have n0_ := aM (Kd.R_below (by (with_reducible repeat (first | apply Kd.R_alloc | apply Kd.R_drewN | apply Kd.R_drew)); exact HO_4.out) hb)
                  have n1_ := aM (bb BK230.out hb)
                  have n2_ := aM (bb BK235.out hb)
                  have n3_ := aM (bb BK242.out hb)
                  have n4_ := aM (bb BK250.out hb)
                  have n5_ := aM (below_step (zb) hb)
                  clear HO_4
                  clear BK230
                  clear BK235
                  clear BK242
                  clear BK250
                  clear HB
                  have HO_4 := n0_
                  have BK230 := n1_
                  have BK235 := n2_
                  have BK242 := n3_
                  have BK250 := n4_
                  have HB := n5_
                  clear n0_ n1_ n2_ n3_ n4_ n5_
                  (try clear hb)
                  (try clear hb2)
                  (try clear hk)
                  (try clear hi)
                  refine hK.out _ _ ⟨(blk_cell BK230.out 0).trans rfl, (blk_cell BK230.out 1).trans rfl, (blk_cell BK230.out 2).trans rfl, (blk_cell BK230.out 3).trans rfl, (blk_cell BK230.out 4).trans rfl, HS5_⟩ (fun hHeld => ?_)
                  clear hK K
                  refine norm_ (a' := ?_) ?_ ?_
                  rotate_left
                  ·show Act.put _ (some 72) _ = _
                   simp only [Act.put, List.setIfInBounds_toArray, List.set_cons_zero, List.set_cons_succ, i64_w, i32_w]
                   rfl
                  refine pure_ (i := 10) (N := some 62) (v := ?_) (a' := ?_) #[true, true, true, true, true, true, true, true, true, true, true, false, false, true, false, false] rfl rfl (any_of HT_.out (by kernel_rfl)) (fun _ _ _ h => h) (Or.inl ⟨by rfl, ?_⟩) ?_ ?_
                  rotate_left
                  ·intro w'
                   go_simp
                   with_reducible rfl
                  rotate_left
                  ·simp only [Act.put, List.setIfInBounds_toArray, List.set_cons_zero, List.set_cons_succ, i64_w, i32_w]
                   rfl
                  refine pure_ (i := 11) (N := some 73) (v := ?_) (a' := ?_) #[true, true, true, true, true, true, true, true, true, true, true, true, false, true, false, false] rfl rfl (any_of HT_.out (by kernel_rfl)) (fun _ _ _ h => h) (Or.inl ⟨by rfl, ?_⟩) ?_ ?_
                  rotate_left
                  ·intro w'
                   go_simp
                   with_reducible rfl
                  rotate_left
                  ·simp only [Act.put, List.setIfInBounds_toArray, List.set_cons_zero, List.set_cons_succ, i64_w, i32_w]
                   rfl
                  refine pure_ (i := 12) (N := some 74) (v := ?_) (a' := ?_) #[true, true, true, true, true, true, true, true, true, true, true, true, true, true, false, false] rfl rfl (any_of HT_.out (by kernel_rfl)) (fun _ _ _ h => h) (Or.inl ⟨by rfl, ?_⟩) ?_ ?_
                  rotate_left
                  ·intro w'
                   go_simp
                   with_reducible rfl
                  rotate_left
                  ·simp only [Act.put, List.setIfInBounds_toArray, List.set_cons_zero, List.set_cons_succ, i64_w, i32_w]
                   rfl
                  exact norm_ (by simp only [putAll, Act.put, List.setIfInBounds_toArray, List.set_cons_zero, List.set_cons_succ]) (hCont (gb250) _ ⟨hHeld, (by (with_reducible repeat (first | apply Kd.R_alloc | apply Kd.R_drewN | apply Kd.R_drew)); exact HO_4.out), (by exact pk BK230.out), (by exact pk BK235.out), (by exact pk BK242.out), (by exact pk BK250.out), GW250.out, GE250.out, NB230_250.out, NB250_230.out, NB235_250.out, NB250_235.out, NB242_250.out, NB250_242.out, (zb)⟩)
                rintro gb250 w62 ⟨hS_, h0_, h1_, h2_, h3_, h4_, h5_, h6_, h7_, h8_, h9_, h10_, h11_, h12_, h13_⟩
                have n0_ : Aside0 (Kd.R (Kd.int .i64) 3 w62 w.heap.size (fun _ => True) (.slice (some ad234) t231.length co13) t231) := ⟨h0_⟩
                have n1_ : Aside0 (w62.heap[gb230]? = some (.cells #[.int .i64 t225, .int .i64 t226, .int .i64 t227, .int .i64 t228, .int .i64 t229] 25 (0, 0))) := ⟨h1_⟩
                have n2_ : Aside0 (w62.heap[gb235]? = some (.cells #[.int .i64 t225, .int .i64 (wrap64 (t226 + (Int.tmod (rd t231 0) 7)))] 40 (0, 0))) := ⟨h2_⟩
                have n3_ : Aside0 (w62.heap[gb242]? = some (.cells #[.int .i64 t238, .int .i64 t239] 40 (0, 0))) := ⟨h3_⟩
                have n4_ : Aside0 (w62.heap[gb250]? = some (.cells #[.int .i64 0, .int .i64 0, .int .i64 0, .int .i64 0, .int .i64 0] 25 (0, 0))) := ⟨h4_⟩
                have n5_ : Aside0 (w.heap.size ≤ gb250) := ⟨h5_⟩
                have n6_ : Aside0 (w.heap.size ≤ gb250) := ⟨h6_⟩
                have n7_ : Aside0 (gb230 ≠ gb250) := ⟨h7_⟩
                have n8_ : Aside0 (gb250 ≠ gb230) := ⟨h8_⟩
                have n9_ : Aside0 (gb235 ≠ gb250) := ⟨h9_⟩
                have n10_ : Aside0 (gb250 ≠ gb235) := ⟨h10_⟩
                have n11_ : Aside0 (gb242 ≠ gb250) := ⟨h11_⟩
                have n12_ : Aside0 (gb250 ≠ gb242) := ⟨h12_⟩
                have n13_ : Aside0 (Below w.heap.size w w62) := ⟨h13_⟩
                clear HO_4
                clear BK230
                clear BK235
                clear BK242
                clear HB
                clear h0_ h1_ h2_ h3_ h4_ h5_ h6_ h7_ h8_ h9_ h10_ h11_ h12_ h13_
                have HO_4 := n0_
                have BK230 := n1_
                have BK235 := n2_
                have BK242 := n3_
                have BK250 := n4_
                have GW250 := n5_
                have GE250 := n6_
                have NB230_250 := n7_
                have NB250_230 := n8_
                have NB235_250 := n9_
                have NB250_235 := n10_
                have NB242_250 := n11_
                have NB250_242 := n12_
                have HB := n13_
                clear n0_ n1_ n2_ n3_ n4_ n5_ n6_ n7_ n8_ n9_ n10_ n11_ n12_ n13_
                have hHeld : w62.cell? ⟨gb230, 0, none⟩ = some (.int .i64 t225) ∧ w62.cell? ⟨gb230, 1, none⟩ = some (.int .i64 t226) ∧ w62.cell? ⟨gb230, 2, none⟩ = some (.int .i64 t227) ∧ w62.cell? ⟨gb230, 3, none⟩ = some (.int .i64 t228) ∧ w62.cell? ⟨gb230, 4, none⟩ = some (.int .i64 t229) ∧ w62.cell? ⟨ad234.block, ad234.off + 1, none⟩ = some (.int .i64 (rd t231 1)) := hS_
                refine norm_ (a' := ?_) ?_ ?_
                rotate_left
                ·simp only [putAll, Act.put, List.setIfInBounds_toArray, List.set_cons_zero, List.set_cons_succ]
                 rfl
                refine one_ (i := 14) (N := none) #[true, true, true, true, true, true, true, true, true, true, true, true, true, true, true, false] rfl rfl (one_of HT_.out (by kernel_rfl)) (by decide) (fun K hK => ?_)
                have hs63 : w62.cell? ⟨gb250, 0, none⟩ = some (.int .i64 0) := (blk_cell BK250.out 0).trans rfl
                have hfs63 := blk_frozen BK250.out 0
                have hns63_0 := NB230_250.out
                have hns63_1 := NB235_250.out
                have hns63_2 := NB242_250.out
                have hms63_0 := NB250_230.out
                have hms63_1 := NB250_235.out
                have hms63_2 := NB250_242.out
                have hs64 : w62.cell? ⟨gb250, 1, none⟩ = some (.int .i64 0) := (blk_cell BK250.out 1).trans rfl
                have hfs64 := blk_frozen BK250.out 1
                have hns64_0 := NB230_250.out
                have hns64_1 := NB235_250.out
                have hns64_2 := NB242_250.out
                have hms64_0 := NB250_230.out
                have hms64_1 := NB250_235.out
                have hms64_2 := NB250_242.out
                have hs65 : w62.cell? ⟨gb250, 2, none⟩ = some (.int .i64 0) := (blk_cell BK250.out 2).trans rfl
                have hfs65 := blk_frozen BK250.out 2
                have hns65_0 := NB230_250.out
                have hns65_1 := NB235_250.out
                have hns65_2 := NB242_250.out
                have hms65_0 := NB250_230.out
                have hms65_1 := NB250_235.out
                have hms65_2 := NB250_242.out
                have hs66 : w62.cell? ⟨gb250, 3, none⟩ = some (.int .i64 0) := (blk_cell BK250.out 3).trans rfl
                have hfs66 := blk_frozen BK250.out 3
                have hns66_0 := NB230_250.out
                have hns66_1 := NB235_250.out
                have hns66_2 := NB242_250.out
                have hms66_0 := NB250_230.out
                have hms66_1 := NB250_235.out
                have hms66_2 := NB250_242.out
                have hs67 : w62.cell? ⟨gb250, 4, none⟩ = some (.int .i64 0) := (blk_cell BK250.out 4).trans rfl
                have hfs67 := blk_frozen BK250.out 4
                have hns67_0 := NB230_250.out
                have hns67_1 := NB235_250.out
                have hns67_2 := NB242_250.out
                have hms67_0 := NB250_230.out
                have hms67_1 := NB250_235.out
                have hms67_2 := NB250_242.out
                refine skip_ (w1 := ?_) (by rfl) rfl ?_ ?_
                rotate_left
                ·go_simp
                 rfl
                have hne5_ := Kd.own_blk (Kd.R_ne HO_4.out BK250.out (by decide))
                refine hK.out _ _ ⟨far5 NB230_250.out hHeld.1, far5 NB230_250.out hHeld.2.1, far5 NB230_250.out hHeld.2.2.1, far5 NB230_250.out hHeld.2.2.2.1, far5 NB230_250.out hHeld.2.2.2.2.1, far5 hne5_ hHeld.2.2.2.2.2⟩ (fun hHeld => ?_)
                clear hK K
                refine pure_ (i := 15) (N := some 11) (v := ?_) (a' := ?_) #[true, true, true, true, true, true, true, true, true, true, true, true, true, true, true, true] rfl rfl (any_of HT_.out (by kernel_rfl)) (fun _ _ _ h => h) (Or.inl ⟨by rfl, ?_⟩) ?_ ?_
                rotate_left
                ·intro w'
                 go_simp
                 with_reducible rfl
                rotate_left
                ·simp only [Act.put, List.setIfInBounds_toArray, List.set_cons_zero, List.set_cons_succ, i64_w, i32_w]
                 rfl
                refine done_ (done_of HT_.out (by kernel_rfl)) ?_
                have hnb68 := NB235_250.out
                have hnc68 := NB250_235.out
                obtain ⟨hcz69_0, hcz69_1, hfz69_0, hfz69_1⟩ := cells2 BK235.out
                try go_wp2_with (first | (go_at_call 23; (with_reducible refine (spec_CodeOf.calls kj23 t225 (wrap64 (t226 + (Int.tmod (rd t231 0) 7))) t251 _ A45.out).mono ?_); rintro e w70 ⟨rfl, hb⟩; have n0_ := aM (Kd.R_below (by (with_reducible repeat (first | apply Kd.R_alloc | apply Kd.R_drewN | apply Kd.R_drew)); exact (Kd.R_mono (Kd.R_far (p := ⟨gb250, 4, none⟩) (Kd.R_far (p := ⟨gb250, 3, none⟩) (Kd.R_far (p := ⟨gb250, 2, none⟩) (Kd.R_far (p := ⟨gb250, 1, none⟩) (Kd.R_far (p := ⟨gb250, 0, none⟩) (Kd.R_types HO_4.out BK250.out (by decide)) (fun _ hk => hk.2) (.int .i64 t244)) (fun _ hk => hk.2) (.int .i64 t245)) (fun _ hk => hk.2) (.int .i64 t246)) (fun _ hk => hk.2) (.int .i64 t247)) (fun _ hk => hk.2) (.int .i64 t248)) (fun _ h_ => h_.1))) hb); have n1_ := aM (blk_below (g := gb230) (o := .cells #[.int .i64 t225, .int .i64 t226, .int .i64 t227, .int .i64 t228, .int .i64 t229] 25 (0, 0)) (by refine pq ?_; refine blk_far ?_ NB230_250.out _; refine pq ?_; refine blk_far ?_ NB230_250.out _; refine pq ?_; refine blk_far ?_ NB230_250.out _; refine pq ?_; refine blk_far ?_ NB230_250.out _; refine pq ?_; refine blk_far ?_ NB230_250.out _; refine pq ?_; exact BK230.out) hb); have n2_ := aM (blk_below (g := gb235) (o := .cells #[.int .i64 t225, .int .i64 (wrap64 (t226 + (Int.tmod (rd t231 0) 7)))] 40 (0, 0)) (by refine pq ?_; refine blk_far ?_ NB235_250.out _; refine pq ?_; refine blk_far ?_ NB235_250.out _; refine pq ?_; refine blk_far ?_ NB235_250.out _; refine pq ?_; refine blk_far ?_ NB235_250.out _; refine pq ?_; refine blk_far ?_ NB235_250.out _; refine pq ?_; exact BK235.out) hb); have n3_ := aM (blk_below (g := gb242) (o := .cells #[.int .i64 t238, .int .i64 t239] 40 (0, 0)) (by refine pq ?_; refine blk_far ?_ NB242_250.out _; refine pq ?_; refine blk_far ?_ NB242_250.out _; refine pq ?_; refine blk_far ?_ NB242_250.out _; refine pq ?_; refine blk_far ?_ NB242_250.out _; refine pq ?_; refine blk_far ?_ NB242_250.out _; refine pq ?_; exact BK242.out) hb); have n4_ := aM (blk_below (g := gb250) (o := .cells #[.int .i64 t244, .int .i64 t245, .int .i64 t246, .int .i64 t247, .int .i64 t248] 25 (0, 0)) (by refine pq ?_; refine blk_put (cs := #[.int .i64 t244, .int .i64 t245, .int .i64 t246, .int .i64 t247, .int .i64 0]) ?_ 4 _ rfl; refine pq ?_; refine blk_put (cs := #[.int .i64 t244, .int .i64 t245, .int .i64 t246, .int .i64 0, .int .i64 0]) ?_ 3 _ rfl; refine pq ?_; refine blk_put (cs := #[.int .i64 t244, .int .i64 t245, .int .i64 0, .int .i64 0, .int .i64 0]) ?_ 2 _ rfl; refine pq ?_; refine blk_put (cs := #[.int .i64 t244, .int .i64 0, .int .i64 0, .int .i64 0, .int .i64 0]) ?_ 1 _ rfl; refine pq ?_; refine blk_put (cs := #[.int .i64 0, .int .i64 0, .int .i64 0, .int .i64 0, .int .i64 0]) ?_ 0 _ rfl; refine pq ?_; exact BK250.out) hb); have n5_ := aM (below_step (zb) hb); clear HO_4; clear BK230; clear BK235; clear BK242; clear BK250; clear HB; have HO_4 := n0_; have BK230 := n1_; have BK235 := n2_; have BK242 := n3_; have BK250 := n4_; have HB := n5_; clear n0_ n1_ n2_ n3_ n4_ n5_; (try clear hb); (try clear hb2); (try clear hk); (try clear hi); have hnb71 := NB242_250.out; have hnc71 := NB250_242.out; obtain ⟨hcz72_0, hcz72_1, hfz72_0, hfz72_1⟩ := cells2 BK242.out; obtain ⟨hcz73_0, hcz73_1, hfz73_0, hfz73_1⟩ := cells2 BK235.out; have hnb74 := NB250_230.out; have hnc74 := NB230_250.out; obtain ⟨hcz75_0, hcz75_1, hcz75_2, hcz75_3, hcz75_4, hfz75_0, hfz75_1, hfz75_2, hfz75_3, hfz75_4⟩ := cells5 BK250.out))
                go_ret
                exact ⟨zr, zb⟩
               ·rw [if_neg c49] at H
                have c49b0 : decide (1000000 < t239) = false := decide_eq_false c49
                clear c49
                replace H := Option.bind_eq_some_iff.mp H
                obtain ⟨t252, A760, H⟩ := H
                replace H : (some t252) = some r := H
                have A76 := aM A760
                clear A760
                obtain rfl := Option.some.inj H
                have hnb77 := NB235_230.out
                have hnc77 := NB230_235.out
                obtain ⟨hcz78_0, hcz78_1, hfz78_0, hfz78_1⟩ := cells2 BK235.out
                try go_wp2_with (first | ((with_reducible refine gate_callee (f := 22) rfl ?_); refine goesL_ (some 51) rfl rfl Tryd.func22 (by kernel_rfl) rfl #[.agg #[.int .i64 t225, .int .i64 (wrap64 (t226 + (Int.tmod (rd t231 0) 7)))]] rfl za ?_; (with_reducible refine (impl_Press.calls kj23 t225 (wrap64 (t226 + (Int.tmod (rd t231 0) 7))) t238 t239 t240 t241 _ A39.out).mono ?_); rintro e w79 ⟨rfl, hb⟩; refine ⟨_, rfl, ?_⟩; have n0_ := aM (Kd.R_below (by (with_reducible repeat (first | apply Kd.R_alloc | apply Kd.R_drewN | apply Kd.R_drew)); exact HO_4.out) hb); have n1_ := aM (bb BK230.out hb); have n2_ := aM (bb BK235.out hb); have n3_ := aM (below_step (zb) hb); clear HO_4; clear BK230; clear BK235; clear HB; have HO_4 := n0_; have BK230 := n1_; have BK235 := n2_; have HB := n3_; clear n0_ n1_ n2_ n3_; (try clear hb); (try clear hb2); (try clear hk); (try clear hi)) | ((with_reducible refine gate_dst (N := 7) rfl ?_); refine box_event ?hg (N := 7) ?hd (cs := #[.int .i64 0, .int .i64 0]) (t := 40) ?hr ?_; (case hd => rfl); (case hg => rfl); (case hr => exact zg); intro gb242 hg w80 hbox hb; have n0_ := aM (Kd.R_below (by (with_reducible repeat (first | apply Kd.R_alloc | apply Kd.R_drewN | apply Kd.R_drew)); exact HO_4.out) hb); have n1_ := aM (bb BK230.out hb); have n2_ := aM (bb BK235.out hb); have n3_ := aM (below_step (zb) hb); have n4_ := aM (hbox); have n5_ := aM ((by rw [hg]; exact (below_size (zb)) : w.heap.size ≤ gb242)); have n6_ := aM ((by rw [hg]; exact (below_size (zb)) : w.heap.size ≤ gb242)); have n7_ := aM ((by rw [hg]; exact Nat.ne_of_lt (nl BK230.out) : gb230 ≠ gb242)); have n8_ := aM ((by rw [hg]; exact Nat.ne_of_gt (nl BK230.out) : gb242 ≠ gb230)); have n9_ := aM ((by rw [hg]; exact Nat.ne_of_lt (nl BK235.out) : gb235 ≠ gb242)); have n10_ := aM ((by rw [hg]; exact Nat.ne_of_gt (nl BK235.out) : gb242 ≠ gb235)); clear HO_4; clear BK230; clear BK235; clear HB; have HO_4 := n0_; have BK230 := n1_; have BK235 := n2_; have HB := n3_; have BK242 := n4_; have GW242 := n5_; have GE242 := n6_; have NB230_242 := n7_; have NB242_230 := n8_; have NB235_242 := n9_; have NB242_235 := n10_; clear n0_ n1_ n2_ n3_ n4_ n5_ n6_ n7_ n8_ n9_ n10_; clear hb hbox hg; have hnb81 := NB242_230.out; have hnc81 := NB230_242.out; have hnb82 := NB242_235.out; have hnc82 := NB235_242.out; obtain ⟨hcz83_0, hcz83_1, hfz83_0, hfz83_1⟩ := cells2 BK242.out; obtain ⟨hcz84_0, hcz84_1, hfz84_0, hfz84_1⟩ := cells2 BK235.out))
                have n0_ : Aside0 (Kd.R (Kd.int .i64) 3 ((w80.setCell ⟨gb242, 0, none⟩ (.int .i64 t238)).setCell ⟨gb242, 1, none⟩ (.int .i64 t239)) w.heap.size (fun _ => True) (.slice (some ad234) t231.length co13) t231) := ⟨by (with_reducible repeat (first | apply Kd.R_alloc | apply Kd.R_drewN | apply Kd.R_drew)); exact Kd.R_mono (Kd.R_far (p := ⟨gb242, 1, none⟩) (Kd.R_far (p := ⟨gb242, 0, none⟩) (Kd.R_types HO_4.out BK242.out (by decide)) (fun _ hk => hk.2) (.int .i64 t238)) (fun _ hk => hk.2) (.int .i64 t239)) (fun _ hk => trivial)⟩
                have n1_ : Aside0 (((w80.setCell ⟨gb242, 0, none⟩ (.int .i64 t238)).setCell ⟨gb242, 1, none⟩ (.int .i64 t239)).heap[gb230]? = some (.cells #[.int .i64 t225, .int .i64 t226, .int .i64 t227, .int .i64 t228, .int .i64 t229] 25 (0, 0))) := ⟨by refine pq ?_; refine blk_far ?_ NB230_242.out _; refine pq ?_; refine blk_far ?_ NB230_242.out _; refine pq ?_; exact BK230.out⟩
                have n2_ : Aside0 (((w80.setCell ⟨gb242, 0, none⟩ (.int .i64 t238)).setCell ⟨gb242, 1, none⟩ (.int .i64 t239)).heap[gb235]? = some (.cells #[.int .i64 t225, .int .i64 (wrap64 (t226 + (Int.tmod (rd t231 0) 7)))] 40 (0, 0))) := ⟨by refine pq ?_; refine blk_far ?_ NB235_242.out _; refine pq ?_; refine blk_far ?_ NB235_242.out _; refine pq ?_; exact BK235.out⟩
                have n3_ : Aside0 (((w80.setCell ⟨gb242, 0, none⟩ (.int .i64 t238)).setCell ⟨gb242, 1, none⟩ (.int .i64 t239)).heap[gb242]? = some (.cells #[.int .i64 t238, .int .i64 t239] 40 (0, 0))) := ⟨by refine pq ?_; refine blk_put (cs := #[.int .i64 t238, .int .i64 0]) ?_ 1 _ rfl; refine pq ?_; refine blk_put (cs := #[.int .i64 0, .int .i64 0]) ?_ 0 _ rfl; refine pq ?_; exact BK242.out⟩
                have n4_ : Aside0 (Below w.heap.size w ((w80.setCell ⟨gb242, 0, none⟩ (.int .i64 t238)).setCell ⟨gb242, 1, none⟩ (.int .i64 t239))) := ⟨zb⟩
                (try clear HO_4)
                (try clear BK230)
                (try clear BK235)
                (try clear BK242)
                (try clear HB)
                generalize ((w80.setCell ⟨gb242, 0, none⟩ (.int .i64 t238)).setCell ⟨gb242, 1, none⟩ (.int .i64 t239)) = w85 at n0_ n1_ n2_ n3_ n4_ ⊢
                have HO_4 := n0_
                have BK230 := n1_
                have BK235 := n2_
                have BK242 := n3_
                have HB := n4_
                clear n0_ n1_ n2_ n3_ n4_
                have n0_ := aM (Kd.R_drew HO_4.out)
                have n1_ := aM (blk_drew BK230.out)
                have n2_ := aM (blk_drew BK235.out)
                have n3_ := aM (blk_drew BK242.out)
                have n4_ := aM (below_drew1 HB.out)
                clear HO_4
                clear BK230
                clear BK235
                clear BK242
                clear HB
                have HO_4 := n0_
                have BK230 := n1_
                have BK235 := n2_
                have BK242 := n3_
                have HB := n4_
                clear n0_ n1_ n2_ n3_ n4_
                have p243 : 0 ≤ (1 : Int) := (by omega)
                have q243 : 1 < (t231.length : Int) := of_decide_eq_true (by first | (with_reducible assumption) | assumption)
                obtain ⟨ad243, e243, hx243_0⟩ := Kd.at_int (Kd.R_reads' HO_4.out).2.2 1 p243 q243
                obtain rfl : ad234 = ad243 := (by injection e243)
                (try simp only [show (1 : Int).toNat = 1 from rfl, Nat.reduceMul, Nat.reduceEqDiff, Go.Addr.add, ↓reduceIte] at hx243_0)
                have qi243 : (1 < t231.length) = True := eq_true (by omega)
                (try rw [show ((1 : Int)).toNat = 1 from rfl] at hx243_0)
                replace p243 := eq_true p243
                replace q243 := eq_true q243
                refine start_ (n := 16) (S := fun w' => w'.cell? ⟨gb230, 0, none⟩ = some (.int .i64 t225) ∧ w'.cell? ⟨gb230, 1, none⟩ = some (.int .i64 t226) ∧ w'.cell? ⟨gb230, 2, none⟩ = some (.int .i64 t227) ∧ w'.cell? ⟨gb230, 3, none⟩ = some (.int .i64 t228) ∧ w'.cell? ⟨gb230, 4, none⟩ = some (.int .i64 t229) ∧ w'.cell? ⟨ad234.block, ad234.off + 1, none⟩ = some (.int .i64 (rd t231 1))) (ds := []) #[false, false, false, false, false, false, false, false, false, false, false, false, false, false, false, false] (by kernel_rfl) rfl rfl ⟨(blk_cell BK230.out 0).trans rfl, (blk_cell BK230.out 1).trans rfl, (blk_cell BK230.out 2).trans rfl, (blk_cell BK230.out 3).trans rfl, (blk_cell BK230.out 4).trans rfl, hx243_0⟩ (fun hHeld => ?_); refine with_tabW laws_FnPads.tab14 laws_FnPads.bits14 (fun HT_ HW_ => ?_)
                generalize w85.drew = w86 at HO_4 BK230 BK235 BK242 HB hx243_0 hHeld ⊢
                refine pure_ (i := 1) (N := some 64) (v := ?_) (a' := ?_) #[false, true, false, false, false, false, false, false, false, false, false, false, false, false, false, false] rfl rfl (any_of HT_.out (by kernel_rfl)) (fun _ _ _ h => h) (Or.inl ⟨by rfl, ?_⟩) ?_ ?_
                rotate_left
                ·intro w'
                 go_simp
                 with_reducible rfl
                rotate_left
                ·simp only [Act.put, List.setIfInBounds_toArray, List.set_cons_zero, List.set_cons_succ, i64_w, i32_w]
                 rfl
                refine pure_ (i := 2) (N := some 65) (v := ?_) (a' := ?_) #[false, true, true, false, false, false, false, false, false, false, false, false, false, false, false, false] rfl rfl (any_of HT_.out (by kernel_rfl)) (fun _ _ _ h => h) (Or.inl ⟨by rfl, ?_⟩) ?_ ?_
                rotate_left
                ·intro w'
                 go_simp
                 with_reducible rfl
                rotate_left
                ·simp only [Act.put, List.setIfInBounds_toArray, List.set_cons_zero, List.set_cons_succ, i64_w, i32_w]
                 rfl
                refine pure_ (i := 4) (N := some 67) (v := ?_) (a' := ?_) #[false, true, true, false, true, false, false, false, false, false, false, false, false, false, false, false] rfl rfl (any_of HT_.out (by kernel_rfl)) (fun _ _ _ h => h) (Or.inl ⟨by rfl, ?_⟩) ?_ ?_
                rotate_left
                ·intro w'
                 go_simp
                 with_reducible rfl
                rotate_left
                ·simp only [Act.put, List.setIfInBounds_toArray, List.set_cons_zero, List.set_cons_succ, i64_w, i32_w]
                 rfl
                refine pure_ (i := 5) (N := some 68) (v := ?_) (a' := ?_) #[false, true, true, false, true, true, false, false, false, false, false, false, false, false, false, false] rfl rfl (any_of HT_.out (by kernel_rfl)) (fun _ _ _ h => h) (Or.inl ⟨by rfl, ?_⟩) ?_ ?_
                rotate_left
                ·intro w'
                 go_simp
                 with_reducible rfl
                rotate_left
                ·simp only [Act.put, List.setIfInBounds_toArray, List.set_cons_zero, List.set_cons_succ, i64_w, i32_w]
                 rfl
                refine take_ (i := 0) (N := some 63) (v := ?_) (a' := ?_) #[true, true, true, false, true, true, false, false, false, false, false, false, false, false, false, false] rfl rfl (take_ofW HT_.out HW_.out (by kernel_rfl)) (fun _ _ _ h => h) (Or.inl ⟨by rfl, ?_⟩) hHeld ?_ ?_
                rotate_left
                ·rintro w' ⟨s0, s1, s2, s3, s4, s5⟩
                 go_simp
                 with_reducible rfl
                rotate_left
                ·simp only [Act.put, List.setIfInBounds_toArray, List.set_cons_zero, List.set_cons_succ, i64_w, i32_w]
                 rfl
                refine take_ (i := 3) (N := some 66) (v := ?_) (a' := ?_) #[true, true, true, true, true, true, false, false, false, false, false, false, false, false, false, false] rfl rfl (take_ofW HT_.out HW_.out (by kernel_rfl)) (fun _ _ _ h => h) (Or.inl ⟨by rfl, ?_⟩) hHeld ?_ ?_
                rotate_left
                ·rintro w' ⟨s0, s1, s2, s3, s4, s5⟩
                 go_simp
                 with_reducible rfl
                rotate_left
                ·simp only [Act.put, List.setIfInBounds_toArray, List.set_cons_zero, List.set_cons_succ, i64_w, i32_w]
                 rfl
                refine take_ (i := 6) (N := some 69) (v := ?_) (a' := ?_) #[true, true, true, true, true, true, true, false, false, false, false, false, false, false, false, false] rfl rfl (take_ofW HT_.out HW_.out (by kernel_rfl)) (fun _ _ _ h => h) (Or.inl ⟨by rfl, ?_⟩) hHeld ?_ ?_
                rotate_left
                ·rintro w' ⟨s0, s1, s2, s3, s4, s5⟩
                 go_simp
                 with_reducible rfl
                rotate_left
                ·simp only [Act.put, List.setIfInBounds_toArray, List.set_cons_zero, List.set_cons_succ, i64_w, i32_w]
                 rfl
                refine pure_ (i := 7) (N := some 70) (v := ?_) (a' := ?_) #[true, true, true, true, true, true, true, true, false, false, false, false, false, false, false, false] rfl rfl (any_of HT_.out (by kernel_rfl)) (fun _ _ _ h => h) (Or.inl ⟨by rfl, ?_⟩) ?_ ?_
                rotate_left
                ·intro w'
                 go_simp
                 with_reducible rfl
                rotate_left
                ·simp only [Act.put, List.setIfInBounds_toArray, List.set_cons_zero, List.set_cons_succ, i64_w, i32_w]
                 rfl
                refine pure_ (i := 8) (N := some 71) (v := ?_) (a' := ?_) #[true, true, true, true, true, true, true, true, true, false, false, false, false, false, false, false] rfl rfl (any_of HT_.out (by kernel_rfl)) (fun _ _ _ h => h) (Or.inl ⟨by rfl, ?_⟩) ?_ ?_
                rotate_left
                ·intro w'
                 go_simp
                 with_reducible rfl
                rotate_left
                ·simp only [Act.put, List.setIfInBounds_toArray, List.set_cons_zero, List.set_cons_succ, i64_w, i32_w]
                 rfl
                refine join_ (σ := Nat) 2 #[true, true, true, true, true, true, true, true, true, true, true, true, true, true, false, false] (fun s_ => [(72, .tuple #[.agg #[.int .i64 t244, .int .i64 t245, .int .i64 t246, .int .i64 t247, .int .i64 t248], .int .i64 t249]), (10, .pointer (some ⟨s_, 0, none⟩)), (62, .tuple #[.agg #[.int .i64 t244, .int .i64 t245, .int .i64 t246, .int .i64 t247, .int .i64 t248], .int .i64 t249]), (73, .agg #[.int .i64 t244, .int .i64 t245, .int .i64 t246, .int .i64 t247, .int .i64 t248]), (74, .int .i64 t249)]) (fun s_ w' => (w'.cell? ⟨gb230, 0, none⟩ = some (.int .i64 t225) ∧ w'.cell? ⟨gb230, 1, none⟩ = some (.int .i64 t226) ∧ w'.cell? ⟨gb230, 2, none⟩ = some (.int .i64 t227) ∧ w'.cell? ⟨gb230, 3, none⟩ = some (.int .i64 t228) ∧ w'.cell? ⟨gb230, 4, none⟩ = some (.int .i64 t229) ∧ w'.cell? ⟨ad234.block, ad234.off + 1, none⟩ = some (.int .i64 (rd t231 1))) ∧ (Kd.R (Kd.int .i64) 3 w' w.heap.size (fun _ => True) (.slice (some ad234) t231.length co13) t231) ∧ (w'.heap[gb230]? = some (.cells #[.int .i64 t225, .int .i64 t226, .int .i64 t227, .int .i64 t228, .int .i64 t229] 25 (0, 0))) ∧ (w'.heap[gb235]? = some (.cells #[.int .i64 t225, .int .i64 (wrap64 (t226 + (Int.tmod (rd t231 0) 7)))] 40 (0, 0))) ∧ (w'.heap[gb242]? = some (.cells #[.int .i64 t238, .int .i64 t239] 40 (0, 0))) ∧ (w'.heap[s_]? = some (.cells #[.int .i64 0, .int .i64 0, .int .i64 0, .int .i64 0, .int .i64 0] 25 (0, 0))) ∧ (w.heap.size ≤ s_) ∧ (w.heap.size ≤ s_) ∧ (gb230 ≠ s_) ∧ (s_ ≠ gb230) ∧ (gb235 ≠ s_) ∧ (s_ ≠ gb235) ∧ (gb242 ≠ s_) ∧ (s_ ≠ gb242) ∧ (Below w.heap.size w w')) ?_ ?_
                rotate_left
                ·intro hCont
                 refine two_ (i := 9) (j := 13) (Ni := some 72) (Nj := some 10) #[true, true, true, true, true, true, true, true, true, true, false, false, false, false, false, false] #[true, true, true, true, true, true, true, true, true, false, false, false, false, true, false, false] rfl rfl rfl rfl (two_of HT_.out (by kernel_rfl)) (by decide) (by decide) (fun K hK => ?_) (fun K hK => ?_)
                 ·skip
                  refine goes_ Tryd.func13 (by kernel_rfl) rfl #[.agg #[.int .i64 t225, .int .i64 t226, .int .i64 t227, .int .i64 t228, .int .i64 t229], .string t240, .int .i64 (wrap64 (t229 + (Int.tmod (rd t231 1) 50)))] (by rfl) rfl rfl za ?_
                  with_reducible refine (impl_Try.calls kj23 t225 t226 t227 t228 t229 t240 (wrap64 (t229 + (Int.tmod (rd t231 1) 50))) t244 t245 t246 t247 t248 t249 _ A43.out).mono ?_
                  rintro e w87 ⟨rfl, hb⟩
                  have HS5_ := (hb.cell (World.block_lt_of_cell? _ _ (hHeld.2.2.2.2.2))).trans (hHeld.2.2.2.2.2)
                  refine ⟨_, rfl, ?_⟩
                  have n0_ := aM (Kd.R_below (by (with_reducible repeat (first | apply Kd.R_alloc | apply Kd.R_drewN | apply Kd.R_drew)); exact HO_4.out) hb)
                  have n1_ := aM (bb BK230.out hb)
                  have n2_ := aM (bb BK235.out hb)
                  have n3_ := aM (bb BK242.out hb)
                  have n4_ := aM (below_step (zb) hb)
                  clear HO_4
                  clear BK230
                  clear BK235
                  clear BK242
                  clear HB
                  have HO_4 := n0_
                  have BK230 := n1_
                  have BK235 := n2_
                  have BK242 := n3_
                  have HB := n4_
                  clear n0_ n1_ n2_ n3_ n4_
                  (try clear hb)
                  (try clear hb2)
                  (try clear hk)
                  (try clear hi)
                  refine hK.out _ _ ⟨(blk_cell BK230.out 0).trans rfl, (blk_cell BK230.out 1).trans rfl, (blk_cell BK230.out 2).trans rfl, (blk_cell BK230.out 3).trans rfl, (blk_cell BK230.out 4).trans rfl, HS5_⟩ (fun hHeld => ?_)
                  clear hK K
                  refine norm_ (a' := ?_) ?_ ?_
                  rotate_left
                  ·show Act.put _ (some 72) _ = _
                   simp only [Act.put, List.setIfInBounds_toArray, List.set_cons_zero, List.set_cons_succ, i64_w, i32_w]
                   rfl
                  refine pure_ (i := 10) (N := some 62) (v := ?_) (a' := ?_) #[true, true, true, true, true, true, true, true, true, true, true, false, false, false, false, false] rfl rfl (any_of HT_.out (by kernel_rfl)) (fun _ _ _ h => h) (Or.inl ⟨by rfl, ?_⟩) ?_ ?_
                  rotate_left
                  ·intro w'
                   go_simp
                   with_reducible rfl
                  rotate_left
                  ·simp only [Act.put, List.setIfInBounds_toArray, List.set_cons_zero, List.set_cons_succ, i64_w, i32_w]
                   rfl
                  refine pure_ (i := 11) (N := some 73) (v := ?_) (a' := ?_) #[true, true, true, true, true, true, true, true, true, true, true, true, false, false, false, false] rfl rfl (any_of HT_.out (by kernel_rfl)) (fun _ _ _ h => h) (Or.inl ⟨by rfl, ?_⟩) ?_ ?_
                  rotate_left
                  ·intro w'
                   go_simp
                   with_reducible rfl
                  rotate_left
                  ·simp only [Act.put, List.setIfInBounds_toArray, List.set_cons_zero, List.set_cons_succ, i64_w, i32_w]
                   rfl
                  refine pure_ (i := 12) (N := some 74) (v := ?_) (a' := ?_) #[true, true, true, true, true, true, true, true, true, true, true, true, true, false, false, false] rfl rfl (any_of HT_.out (by kernel_rfl)) (fun _ _ _ h => h) (Or.inl ⟨by rfl, ?_⟩) ?_ ?_
                  rotate_left
                  ·intro w'
                   go_simp
                   with_reducible rfl
                  rotate_left
                  ·simp only [Act.put, List.setIfInBounds_toArray, List.set_cons_zero, List.set_cons_succ, i64_w, i32_w]
                   rfl
                  refine one_ (i := 13) (N := some 10) #[true, true, true, true, true, true, true, true, true, true, true, true, true, true, false, false] rfl rfl (one_of HT_.out (by kernel_rfl)) (by decide) (fun K hK => ?_)
                  refine box_step ?hg (N := 10) ?hd (cs := #[.int .i64 0, .int .i64 0, .int .i64 0, .int .i64 0, .int .i64 0]) (t := 25) ?hr ?_; (case hd => rfl); (case hg => rfl); (case hr => exact zg)
                  intro gb250 hg w88 hbox hb
                  have HS5_ := (hb.cell (World.block_lt_of_cell? _ _ (hHeld.2.2.2.2.2))).trans (hHeld.2.2.2.2.2)
                  have n0_ := aM (Kd.R_below (by (with_reducible repeat (first | apply Kd.R_alloc | apply Kd.R_drewN | apply Kd.R_drew)); exact HO_4.out) hb)
                  have n1_ := aM (bb BK230.out hb)
                  have n2_ := aM (bb BK235.out hb)
                  have n3_ := aM (bb BK242.out hb)
                  have n4_ := aM (below_step (zb) hb)
                  have n5_ := aM (hbox)
                  have n6_ := aM ((by rw [hg]; exact (below_size (zb)) : w.heap.size ≤ gb250))
                  have n7_ := aM ((by rw [hg]; exact (below_size (zb)) : w.heap.size ≤ gb250))
                  have n8_ := aM ((by rw [hg]; exact Nat.ne_of_lt (nl BK230.out) : gb230 ≠ gb250))
                  have n9_ := aM ((by rw [hg]; exact Nat.ne_of_gt (nl BK230.out) : gb250 ≠ gb230))
                  have n10_ := aM ((by rw [hg]; exact Nat.ne_of_lt (nl BK235.out) : gb235 ≠ gb250))
                  have n11_ := aM ((by rw [hg]; exact Nat.ne_of_gt (nl BK235.out) : gb250 ≠ gb235))
                  have n12_ := aM ((by rw [hg]; exact Nat.ne_of_lt (nl BK242.out) : gb242 ≠ gb250))
                  have n13_ := aM ((by rw [hg]; exact Nat.ne_of_gt (nl BK242.out) : gb250 ≠ gb242))
                  clear HO_4
                  clear BK230
                  clear BK235
                  clear BK242
                  clear HB
                  have HO_4 := n0_
                  have BK230 := n1_
                  have BK235 := n2_
                  have BK242 := n3_
                  have HB := n4_
                  have BK250 := n5_
                  have GW250 := n6_
                  have GE250 := n7_
                  have NB230_250 := n8_
                  have NB250_230 := n9_
                  have NB235_250 := n10_
                  have NB250_235 := n11_
                  have NB242_250 := n12_
                  have NB250_242 := n13_
                  clear n0_ n1_ n2_ n3_ n4_ n5_ n6_ n7_ n8_ n9_ n10_ n11_ n12_ n13_
                  clear hb hbox hg
                  refine hK.out _ _ ⟨(blk_cell BK230.out 0).trans rfl, (blk_cell BK230.out 1).trans rfl, (blk_cell BK230.out 2).trans rfl, (blk_cell BK230.out 3).trans rfl, (blk_cell BK230.out 4).trans rfl, HS5_⟩ (fun hHeld => ?_)
                  clear hK K
                  refine norm_ (a' := ?_) ?_ ?_
                  rotate_left
                  ·show Act.put _ (some 10) _ = _
                   simp only [Act.put, List.setIfInBounds_toArray, List.set_cons_zero, List.set_cons_succ, i64_w, i32_w]
                   rfl
                  exact norm_ (by simp only [putAll, Act.put, List.setIfInBounds_toArray, List.set_cons_zero, List.set_cons_succ]) (hCont (gb250) _ ⟨hHeld, (by (with_reducible repeat (first | apply Kd.R_alloc | apply Kd.R_drewN | apply Kd.R_drew)); exact HO_4.out), (by exact pk BK230.out), (by exact pk BK235.out), (by exact pk BK242.out), (by exact pk BK250.out), GW250.out, GE250.out, NB230_250.out, NB250_230.out, NB235_250.out, NB250_235.out, NB242_250.out, NB250_242.out, (zb)⟩)
                 ·skip
                  refine box_step ?hg (N := 10) ?hd (cs := #[.int .i64 0, .int .i64 0, .int .i64 0, .int .i64 0, .int .i64 0]) (t := 25) ?hr ?_; (case hd => rfl); (case hg => rfl); (case hr => exact zg)
                  intro gb250 hg w87 hbox hb
                  have HS5_ := (hb.cell (World.block_lt_of_cell? _ _ (hHeld.2.2.2.2.2))).trans (hHeld.2.2.2.2.2)
                  have n0_ := aM (Kd.R_below (by (with_reducible repeat (first | apply Kd.R_alloc | apply Kd.R_drewN | apply Kd.R_drew)); exact HO_4.out) hb)
                  have n1_ := aM (bb BK230.out hb)
                  have n2_ := aM (bb BK235.out hb)
                  have n3_ := aM (bb BK242.out hb)
                  have n4_ := aM (below_step (zb) hb)
                  have n5_ := aM (hbox)
                  have n6_ := aM ((by rw [hg]; exact (below_size (zb)) : w.heap.size ≤ gb250))
                  have n7_ := aM ((by rw [hg]; exact (below_size (zb)) : w.heap.size ≤ gb250))
                  have n8_ := aM ((by rw [hg]; exact Nat.ne_of_lt (nl BK230.out) : gb230 ≠ gb250))
                  have n9_ := aM ((by rw [hg]; exact Nat.ne_of_gt (nl BK230.out) : gb250 ≠ gb230))
                  have n10_ := aM ((by rw [hg]; exact Nat.ne_of_lt (nl BK235.out) : gb235 ≠ gb250))
                  have n11_ := aM ((by rw [hg]; exact Nat.ne_of_gt (nl BK235.out) : gb250 ≠ gb235))
                  have n12_ := aM ((by rw [hg]; exact Nat.ne_of_lt (nl BK242.out) : gb242 ≠ gb250))
                  have n13_ := aM ((by rw [hg]; exact Nat.ne_of_gt (nl BK242.out) : gb250 ≠ gb242))
                  clear HO_4
                  clear BK230
                  clear BK235
                  clear BK242
                  clear HB
                  have HO_4 := n0_
                  have BK230 := n1_
                  have BK235 := n2_
                  have BK242 := n3_
                  have HB := n4_
                  have BK250 := n5_
                  have GW250 := n6_
                  have GE250 := n7_
                  have NB230_250 := n8_
                  have NB250_230 := n9_
                  have NB235_250 := n10_
                  have NB250_235 := n11_
                  have NB242_250 := n12_
                  have NB250_242 := n13_
                  clear n0_ n1_ n2_ n3_ n4_ n5_ n6_ n7_ n8_ n9_ n10_ n11_ n12_ n13_
                  clear hb hbox hg
                  refine hK.out _ _ ⟨(blk_cell BK230.out 0).trans rfl, (blk_cell BK230.out 1).trans rfl, (blk_cell BK230.out 2).trans rfl, (blk_cell BK230.out 3).trans rfl, (blk_cell BK230.out 4).trans rfl, HS5_⟩ (fun hHeld => ?_)
                  clear hK K
                  refine norm_ (a' := ?_) ?_ ?_
                  rotate_left
                  ·show Act.put _ (some 10) _ = _
                   simp only [Act.put, List.setIfInBounds_toArray, List.set_cons_zero, List.set_cons_succ, i64_w, i32_w]
                   rfl
                  refine one_ (i := 9) (N := some 72) #[true, true, true, true, true, true, true, true, true, true, false, false, false, true, false, false] rfl rfl (one_of HT_.out (by kernel_rfl)) (by decide) (fun K hK => ?_)
                  refine goes_ Tryd.func13 (by kernel_rfl) rfl #[.agg #[.int .i64 t225, .int .i64 t226, .int .i64 t227, .int .i64 t228, .int .i64 t229], .string t240, .int .i64 (wrap64 (t229 + (Int.tmod (rd t231 1) 50)))] (by rfl) rfl rfl za ?_
                  with_reducible refine (impl_Try.calls kj23 t225 t226 t227 t228 t229 t240 (wrap64 (t229 + (Int.tmod (rd t231 1) 50))) t244 t245 t246 t247 t248 t249 _ A43.out).mono ?_
                  rintro e w88 ⟨rfl, hb⟩
                  have HS5_ := (hb.cell (World.block_lt_of_cell? _ _ (hHeld.2.2.2.2.2))).trans (hHeld.2.2.2.2.2)
                  refine ⟨_, rfl, ?_⟩
                  have n0_ := aM (Kd.R_below (by (with_reducible repeat (first | apply Kd.R_alloc | apply Kd.R_drewN | apply Kd.R_drew)); exact HO_4.out) hb)
                  have n1_ := aM (bb BK230.out hb)
                  have n2_ := aM (bb BK235.out hb)
                  have n3_ := aM (bb BK242.out hb)
                  have n4_ := aM (bb BK250.out hb)
                  have n5_ := aM (below_step (zb) hb)
                  clear HO_4
                  clear BK230
                  clear BK235
                  clear BK242
                  clear BK250
                  clear HB
                  have HO_4 := n0_
                  have BK230 := n1_
                  have BK235 := n2_
                  have BK242 := n3_
                  have BK250 := n4_
                  have HB := n5_
                  clear n0_ n1_ n2_ n3_ n4_ n5_
                  (try clear hb)
                  (try clear hb2)
                  (try clear hk)
                  (try clear hi)
                  refine hK.out _ _ ⟨(blk_cell BK230.out 0).trans rfl, (blk_cell BK230.out 1).trans rfl, (blk_cell BK230.out 2).trans rfl, (blk_cell BK230.out 3).trans rfl, (blk_cell BK230.out 4).trans rfl, HS5_⟩ (fun hHeld => ?_)
                  clear hK K
                  refine norm_ (a' := ?_) ?_ ?_
                  rotate_left
                  ·show Act.put _ (some 72) _ = _
                   simp only [Act.put, List.setIfInBounds_toArray, List.set_cons_zero, List.set_cons_succ, i64_w, i32_w]
                   rfl
                  refine pure_ (i := 10) (N := some 62) (v := ?_) (a' := ?_) #[true, true, true, true, true, true, true, true, true, true, true, false, false, true, false, false] rfl rfl (any_of HT_.out (by kernel_rfl)) (fun _ _ _ h => h) (Or.inl ⟨by rfl, ?_⟩) ?_ ?_
                  rotate_left
                  ·intro w'
                   go_simp
                   with_reducible rfl
                  rotate_left
                  ·simp only [Act.put, List.setIfInBounds_toArray, List.set_cons_zero, List.set_cons_succ, i64_w, i32_w]
                   rfl
                  refine pure_ (i := 11) (N := some 73) (v := ?_) (a' := ?_) #[true, true, true, true, true, true, true, true, true, true, true, true, false, true, false, false] rfl rfl (any_of HT_.out (by kernel_rfl)) (fun _ _ _ h => h) (Or.inl ⟨by rfl, ?_⟩) ?_ ?_
                  rotate_left
                  ·intro w'
                   go_simp
                   with_reducible rfl
                  rotate_left
                  ·simp only [Act.put, List.setIfInBounds_toArray, List.set_cons_zero, List.set_cons_succ, i64_w, i32_w]
                   rfl
                  refine pure_ (i := 12) (N := some 74) (v := ?_) (a' := ?_) #[true, true, true, true, true, true, true, true, true, true, true, true, true, true, false, false] rfl rfl (any_of HT_.out (by kernel_rfl)) (fun _ _ _ h => h) (Or.inl ⟨by rfl, ?_⟩) ?_ ?_
                  rotate_left
                  ·intro w'
                   go_simp
                   with_reducible rfl
                  rotate_left
                  ·simp only [Act.put, List.setIfInBounds_toArray, List.set_cons_zero, List.set_cons_succ, i64_w, i32_w]
                   rfl
                  exact norm_ (by simp only [putAll, Act.put, List.setIfInBounds_toArray, List.set_cons_zero, List.set_cons_succ]) (hCont (gb250) _ ⟨hHeld, (by (with_reducible repeat (first | apply Kd.R_alloc | apply Kd.R_drewN | apply Kd.R_drew)); exact HO_4.out), (by exact pk BK230.out), (by exact pk BK235.out), (by exact pk BK242.out), (by exact pk BK250.out), GW250.out, GE250.out, NB230_250.out, NB250_230.out, NB235_250.out, NB250_235.out, NB242_250.out, NB250_242.out, (zb)⟩)
                rintro gb250 w89 ⟨hS_, h0_, h1_, h2_, h3_, h4_, h5_, h6_, h7_, h8_, h9_, h10_, h11_, h12_, h13_⟩
                have n0_ : Aside0 (Kd.R (Kd.int .i64) 3 w89 w.heap.size (fun _ => True) (.slice (some ad234) t231.length co13) t231) := ⟨h0_⟩
                have n1_ : Aside0 (w89.heap[gb230]? = some (.cells #[.int .i64 t225, .int .i64 t226, .int .i64 t227, .int .i64 t228, .int .i64 t229] 25 (0, 0))) := ⟨h1_⟩
                have n2_ : Aside0 (w89.heap[gb235]? = some (.cells #[.int .i64 t225, .int .i64 (wrap64 (t226 + (Int.tmod (rd t231 0) 7)))] 40 (0, 0))) := ⟨h2_⟩
                have n3_ : Aside0 (w89.heap[gb242]? = some (.cells #[.int .i64 t238, .int .i64 t239] 40 (0, 0))) := ⟨h3_⟩
                have n4_ : Aside0 (w89.heap[gb250]? = some (.cells #[.int .i64 0, .int .i64 0, .int .i64 0, .int .i64 0, .int .i64 0] 25 (0, 0))) := ⟨h4_⟩
                have n5_ : Aside0 (w.heap.size ≤ gb250) := ⟨h5_⟩
                have n6_ : Aside0 (w.heap.size ≤ gb250) := ⟨h6_⟩
                have n7_ : Aside0 (gb230 ≠ gb250) := ⟨h7_⟩
                have n8_ : Aside0 (gb250 ≠ gb230) := ⟨h8_⟩
                have n9_ : Aside0 (gb235 ≠ gb250) := ⟨h9_⟩
                have n10_ : Aside0 (gb250 ≠ gb235) := ⟨h10_⟩
                have n11_ : Aside0 (gb242 ≠ gb250) := ⟨h11_⟩
                have n12_ : Aside0 (gb250 ≠ gb242) := ⟨h12_⟩
                have n13_ : Aside0 (Below w.heap.size w w89) := ⟨h13_⟩
                clear HO_4
                clear BK230
                clear BK235
                clear BK242
                clear HB
                clear h0_ h1_ h2_ h3_ h4_ h5_ h6_ h7_ h8_ h9_ h10_ h11_ h12_ h13_
                have HO_4 := n0_
                have BK230 := n1_
                have BK235 := n2_
                have BK242 := n3_
                have BK250 := n4_
                have GW250 := n5_
                have GE250 := n6_
                have NB230_250 := n7_
                have NB250_230 := n8_
                have NB235_250 := n9_
                have NB250_235 := n10_
                have NB242_250 := n11_
                have NB250_242 := n12_
                have HB := n13_
                clear n0_ n1_ n2_ n3_ n4_ n5_ n6_ n7_ n8_ n9_ n10_ n11_ n12_ n13_
                have hHeld : w89.cell? ⟨gb230, 0, none⟩ = some (.int .i64 t225) ∧ w89.cell? ⟨gb230, 1, none⟩ = some (.int .i64 t226) ∧ w89.cell? ⟨gb230, 2, none⟩ = some (.int .i64 t227) ∧ w89.cell? ⟨gb230, 3, none⟩ = some (.int .i64 t228) ∧ w89.cell? ⟨gb230, 4, none⟩ = some (.int .i64 t229) ∧ w89.cell? ⟨ad234.block, ad234.off + 1, none⟩ = some (.int .i64 (rd t231 1)) := hS_
                refine norm_ (a' := ?_) ?_ ?_
                rotate_left
                ·simp only [putAll, Act.put, List.setIfInBounds_toArray, List.set_cons_zero, List.set_cons_succ]
                 rfl
                refine one_ (i := 14) (N := none) #[true, true, true, true, true, true, true, true, true, true, true, true, true, true, true, false] rfl rfl (one_of HT_.out (by kernel_rfl)) (by decide) (fun K hK => ?_)
                have hs90 : w89.cell? ⟨gb250, 0, none⟩ = some (.int .i64 0) := (blk_cell BK250.out 0).trans rfl
                have hfs90 := blk_frozen BK250.out 0
                have hns90_0 := NB230_250.out
                have hns90_1 := NB235_250.out
                have hns90_2 := NB242_250.out
                have hms90_0 := NB250_230.out
                have hms90_1 := NB250_235.out
                have hms90_2 := NB250_242.out
                have hs91 : w89.cell? ⟨gb250, 1, none⟩ = some (.int .i64 0) := (blk_cell BK250.out 1).trans rfl
                have hfs91 := blk_frozen BK250.out 1
                have hns91_0 := NB230_250.out
                have hns91_1 := NB235_250.out
                have hns91_2 := NB242_250.out
                have hms91_0 := NB250_230.out
                have hms91_1 := NB250_235.out
                have hms91_2 := NB250_242.out
                have hs92 : w89.cell? ⟨gb250, 2, none⟩ = some (.int .i64 0) := (blk_cell BK250.out 2).trans rfl
                have hfs92 := blk_frozen BK250.out 2
                have hns92_0 := NB230_250.out
                have hns92_1 := NB235_250.out
                have hns92_2 := NB242_250.out
                have hms92_0 := NB250_230.out
                have hms92_1 := NB250_235.out
                have hms92_2 := NB250_242.out
                have hs93 : w89.cell? ⟨gb250, 3, none⟩ = some (.int .i64 0) := (blk_cell BK250.out 3).trans rfl
                have hfs93 := blk_frozen BK250.out 3
                have hns93_0 := NB230_250.out
                have hns93_1 := NB235_250.out
                have hns93_2 := NB242_250.out
                have hms93_0 := NB250_230.out
                have hms93_1 := NB250_235.out
                have hms93_2 := NB250_242.out
                have hs94 : w89.cell? ⟨gb250, 4, none⟩ = some (.int .i64 0) := (blk_cell BK250.out 4).trans rfl
                have hfs94 := blk_frozen BK250.out 4
                have hns94_0 := NB230_250.out
                have hns94_1 := NB235_250.out
                have hns94_2 := NB242_250.out
                have hms94_0 := NB250_230.out
                have hms94_1 := NB250_235.out
                have hms94_2 := NB250_242.out
                refine skip_ (w1 := ?_) (by rfl) rfl ?_ ?_
                rotate_left
                ·go_simp
                 rfl
                have hne5_ := Kd.own_blk (Kd.R_ne HO_4.out BK250.out (by decide))
                refine hK.out _ _ ⟨far5 NB230_250.out hHeld.1, far5 NB230_250.out hHeld.2.1, far5 NB230_250.out hHeld.2.2.1, far5 NB230_250.out hHeld.2.2.2.1, far5 NB230_250.out hHeld.2.2.2.2.1, far5 hne5_ hHeld.2.2.2.2.2⟩ (fun hHeld => ?_)
                clear hK K
                refine pure_ (i := 15) (N := some 11) (v := ?_) (a' := ?_) #[true, true, true, true, true, true, true, true, true, true, true, true, true, true, true, true] rfl rfl (any_of HT_.out (by kernel_rfl)) (fun _ _ _ h => h) (Or.inl ⟨by rfl, ?_⟩) ?_ ?_
                rotate_left
                ·intro w'
                 go_simp
                 with_reducible rfl
                rotate_left
                ·simp only [Act.put, List.setIfInBounds_toArray, List.set_cons_zero, List.set_cons_succ, i64_w, i32_w]
                 rfl
                refine done_ (done_of HT_.out (by kernel_rfl)) ?_
                have hnb95 := NB235_250.out
                have hnc95 := NB250_235.out
                obtain ⟨hcz96_0, hcz96_1, hfz96_0, hfz96_1⟩ := cells2 BK235.out
                try go_wp2_with (first | (go_at_call 23; (with_reducible refine (spec_CodeOf.calls kj23 t225 (wrap64 (t226 + (Int.tmod (rd t231 0) 7))) t251 _ A45.out).mono ?_); rintro e w97 ⟨rfl, hb⟩; have n0_ := aM (Kd.R_below (by (with_reducible repeat (first | apply Kd.R_alloc | apply Kd.R_drewN | apply Kd.R_drew)); exact (Kd.R_mono (Kd.R_far (p := ⟨gb250, 4, none⟩) (Kd.R_far (p := ⟨gb250, 3, none⟩) (Kd.R_far (p := ⟨gb250, 2, none⟩) (Kd.R_far (p := ⟨gb250, 1, none⟩) (Kd.R_far (p := ⟨gb250, 0, none⟩) (Kd.R_types HO_4.out BK250.out (by decide)) (fun _ hk => hk.2) (.int .i64 t244)) (fun _ hk => hk.2) (.int .i64 t245)) (fun _ hk => hk.2) (.int .i64 t246)) (fun _ hk => hk.2) (.int .i64 t247)) (fun _ hk => hk.2) (.int .i64 t248)) (fun _ h_ => h_.1))) hb); have n1_ := aM (blk_below (g := gb230) (o := .cells #[.int .i64 t225, .int .i64 t226, .int .i64 t227, .int .i64 t228, .int .i64 t229] 25 (0, 0)) (by refine pq ?_; refine blk_far ?_ NB230_250.out _; refine pq ?_; refine blk_far ?_ NB230_250.out _; refine pq ?_; refine blk_far ?_ NB230_250.out _; refine pq ?_; refine blk_far ?_ NB230_250.out _; refine pq ?_; refine blk_far ?_ NB230_250.out _; refine pq ?_; exact BK230.out) hb); have n2_ := aM (blk_below (g := gb235) (o := .cells #[.int .i64 t225, .int .i64 (wrap64 (t226 + (Int.tmod (rd t231 0) 7)))] 40 (0, 0)) (by refine pq ?_; refine blk_far ?_ NB235_250.out _; refine pq ?_; refine blk_far ?_ NB235_250.out _; refine pq ?_; refine blk_far ?_ NB235_250.out _; refine pq ?_; refine blk_far ?_ NB235_250.out _; refine pq ?_; refine blk_far ?_ NB235_250.out _; refine pq ?_; exact BK235.out) hb); have n3_ := aM (blk_below (g := gb242) (o := .cells #[.int .i64 t238, .int .i64 t239] 40 (0, 0)) (by refine pq ?_; refine blk_far ?_ NB242_250.out _; refine pq ?_; refine blk_far ?_ NB242_250.out _; refine pq ?_; refine blk_far ?_ NB242_250.out _; refine pq ?_; refine blk_far ?_ NB242_250.out _; refine pq ?_; refine blk_far ?_ NB242_250.out _; refine pq ?_; exact BK242.out) hb); have n4_ := aM (blk_below (g := gb250) (o := .cells #[.int .i64 t244, .int .i64 t245, .int .i64 t246, .int .i64 t247, .int .i64 t248] 25 (0, 0)) (by refine pq ?_; refine blk_put (cs := #[.int .i64 t244, .int .i64 t245, .int .i64 t246, .int .i64 t247, .int .i64 0]) ?_ 4 _ rfl; refine pq ?_; refine blk_put (cs := #[.int .i64 t244, .int .i64 t245, .int .i64 t246, .int .i64 0, .int .i64 0]) ?_ 3 _ rfl; refine pq ?_; refine blk_put (cs := #[.int .i64 t244, .int .i64 t245, .int .i64 0, .int .i64 0, .int .i64 0]) ?_ 2 _ rfl; refine pq ?_; refine blk_put (cs := #[.int .i64 t244, .int .i64 0, .int .i64 0, .int .i64 0, .int .i64 0]) ?_ 1 _ rfl; refine pq ?_; refine blk_put (cs := #[.int .i64 0, .int .i64 0, .int .i64 0, .int .i64 0, .int .i64 0]) ?_ 0 _ rfl; refine pq ?_; exact BK250.out) hb); have n5_ := aM (below_step (zb) hb); clear HO_4; clear BK230; clear BK235; clear BK242; clear BK250; clear HB; have HO_4 := n0_; have BK230 := n1_; have BK235 := n2_; have BK242 := n3_; have BK250 := n4_; have HB := n5_; clear n0_ n1_ n2_ n3_ n4_ n5_; (try clear hb); (try clear hb2); (try clear hk); (try clear hi); have hnb98 := NB242_250.out; have hnc98 := NB250_242.out; obtain ⟨hcz99_0, hcz99_1, hfz99_0, hfz99_1⟩ := cells2 BK242.out; obtain ⟨hcz100_0, hcz100_1, hfz100_0, hfz100_1⟩ := cells2 BK235.out; have hnb101 := NB250_230.out; have hnc101 := NB230_250.out; obtain ⟨hcz102_0, hcz102_1, hcz102_2, hcz102_3, hcz102_4, hfz102_0, hfz102_1, hfz102_2, hfz102_3, hfz102_4⟩ := cells5 BK250.out) | (go_at_call 20; (with_reducible refine (impl_CanOpen.calls t238 t239 t244 t245 t246 t247 t248 t252 _ A76.out).mono ?_); rintro e w103 ⟨rfl, hb⟩; have n0_ := aM (Kd.R_below (by (with_reducible repeat (first | apply Kd.R_alloc | apply Kd.R_drewN | apply Kd.R_drew)); exact HO_4.out) hb); have n1_ := aM (bb BK230.out hb); have n2_ := aM (bb BK235.out hb); have n3_ := aM (bb BK242.out hb); have n4_ := aM (bb BK250.out hb); have n5_ := aM (below_step (zb) hb); clear HO_4; clear BK230; clear BK235; clear BK242; clear BK250; clear HB; have HO_4 := n0_; have BK230 := n1_; have BK235 := n2_; have BK242 := n3_; have BK250 := n4_; have HB := n5_; clear n0_ n1_ n2_ n3_ n4_ n5_; (try clear hb); (try clear hb2); (try clear hk); (try clear hi)))
                go_ret
                exact ⟨zr, zb⟩
              ·rw [if_neg c48] at H
               exact absurd H (by simp)
             ·rw [if_neg c47] at H
              exact absurd H (by simp)
            ·rw [if_neg c46] at H
             exact absurd H (by simp)
           ·rw [if_neg c44] at H
            exact absurd H (by simp)
          ·rw [if_neg c42] at H
           exact absurd H (by simp)
         ·replace c41 := Bool.eq_false_iff.mpr c41
          subst c41
          have H1 : (some true) = some r := by rw [if_neg (show ¬ (false = true) by decide)] at H; exact H
          clear H
          have H := H1
          clear H1
          obtain rfl := Option.some.inj H
          have hnb104 := NB235_230.out
          have hnc104 := NB230_235.out
          obtain ⟨hcz105_0, hcz105_1, hfz105_0, hfz105_1⟩ := cells2 BK235.out
          go_wp2_with (first | ((with_reducible refine gate_callee (f := 22) rfl ?_); refine goesL_ (some 51) rfl rfl Tryd.func22 (by kernel_rfl) rfl #[.agg #[.int .i64 t225, .int .i64 (wrap64 (t226 + (Int.tmod (rd t231 0) 7)))]] rfl za ?_; (with_reducible refine (impl_Press.calls kj23 t225 (wrap64 (t226 + (Int.tmod (rd t231 0) 7))) t238 t239 t240 t241 _ A39.out).mono ?_); rintro e w106 ⟨rfl, hb⟩; refine ⟨_, rfl, ?_⟩; have n0_ := aM (Kd.R_below (by (with_reducible repeat (first | apply Kd.R_alloc | apply Kd.R_drewN | apply Kd.R_drew)); exact HO_4.out) hb); have n1_ := aM (bb BK230.out hb); have n2_ := aM (bb BK235.out hb); have n3_ := aM (below_step (zb) hb); clear HO_4; clear BK230; clear BK235; clear HB; have HO_4 := n0_; have BK230 := n1_; have BK235 := n2_; have HB := n3_; clear n0_ n1_ n2_ n3_; (try clear hb); (try clear hb2); (try clear hk); (try clear hi)) | ((with_reducible refine gate_dst (N := 7) rfl ?_); refine box_event ?hg (N := 7) ?hd (cs := #[.int .i64 0, .int .i64 0]) (t := 40) ?hr ?_; (case hd => rfl); (case hg => rfl); (case hr => exact zg); intro gb242 hg w107 hbox hb; have n0_ := aM (Kd.R_below (by (with_reducible repeat (first | apply Kd.R_alloc | apply Kd.R_drewN | apply Kd.R_drew)); exact HO_4.out) hb); have n1_ := aM (bb BK230.out hb); have n2_ := aM (bb BK235.out hb); have n3_ := aM (below_step (zb) hb); have n4_ := aM (hbox); have n5_ := aM ((by rw [hg]; exact (below_size (zb)) : w.heap.size ≤ gb242)); have n6_ := aM ((by rw [hg]; exact (below_size (zb)) : w.heap.size ≤ gb242)); have n7_ := aM ((by rw [hg]; exact Nat.ne_of_lt (nl BK230.out) : gb230 ≠ gb242)); have n8_ := aM ((by rw [hg]; exact Nat.ne_of_gt (nl BK230.out) : gb242 ≠ gb230)); have n9_ := aM ((by rw [hg]; exact Nat.ne_of_lt (nl BK235.out) : gb235 ≠ gb242)); have n10_ := aM ((by rw [hg]; exact Nat.ne_of_gt (nl BK235.out) : gb242 ≠ gb235)); clear HO_4; clear BK230; clear BK235; clear HB; have HO_4 := n0_; have BK230 := n1_; have BK235 := n2_; have HB := n3_; have BK242 := n4_; have GW242 := n5_; have GE242 := n6_; have NB230_242 := n7_; have NB242_230 := n8_; have NB235_242 := n9_; have NB242_235 := n10_; clear n0_ n1_ n2_ n3_ n4_ n5_ n6_ n7_ n8_ n9_ n10_; clear hb hbox hg; have hnb108 := NB242_230.out; have hnc108 := NB230_242.out; have hnb109 := NB242_235.out; have hnc109 := NB235_242.out; obtain ⟨hcz110_0, hcz110_1, hfz110_0, hfz110_1⟩ := cells2 BK242.out; obtain ⟨hcz111_0, hcz111_1, hfz111_0, hfz111_1⟩ := cells2 BK235.out))
          go_ret
          exact ⟨zr, zb⟩
  ·rw [if_neg c6] at H
   exact absurd H (by simp)

/-- THE ONE PURE STATEMENT of laws_FnPads: yours. -/
def laws_FnPads.Pure : Prop := ∀ (l0 : List Int), l0.length ≤ maxLen → l0.length * 1 ≤ 140737488351232 → (∀ x ∈ l0, (Lit.int .u8 x).wf = true) → ∃ k, laws_FnPads.f k l0 = some true
theorem laws_FnPads.walk (P : laws_FnPads.Pure) (a0 : Option Addr) (len0 cap0 : Nat) (z0 : List Int) (w : World) (w0 : (a0 = none ∧ len0 = 0 ∧ cap0 = 0 ∧ z0 = []) ∨ ∃ x, a0 = some x ∧ len0 ≤ cap0 ∧ cap0 ≤ maxLen ∧ z0.length = cap0 ∧ (∀ i, i < z0.length → w.cell? (x.add i) = some (.int .u8 (z0.getD i 0))) ∧ ∀ n ∈ z0, (Lit.int .u8 n).wf = true) (y0 : len0 * 1 ≤ 140737488351232) (HTAB : Sh.TabH w := by exact Sh.tabH HTAB (by repeat (first | (with_reducible first | exact HB.out | exact HBW.out | apply eA | apply eN | apply eD | refine eS ?_ (Aside0.out ‹_›)) | exact HB.out))) :
  Calls Tryd.prog 6 #[.slice a0 len0 cap0] w fun e w' => e = .returned (.bool true) ∧ Below w.heap.size w w' := by
 obtain ⟨l0, rfl, hr0, hm0, hw0, hc0⟩ := ReadsInt.ofRowC w0
 obtain ⟨k, h⟩ := P l0 hm0 y0 hw0
 have HB := aM (Below.refl w.heap.size w)
 refine (laws_FnPads.calls k _ _ l0 true w (Kd.C_of_reads (d := (0 : Int)) (h1 := fun _ => rfl) hr0) hc0 h).mono ?_
 rintro e w' ⟨rfl, hd⟩
 exact ⟨rfl, hd⟩

end Go.Proofs.YtdhinnolfpacgaaDoor.QFnPads
