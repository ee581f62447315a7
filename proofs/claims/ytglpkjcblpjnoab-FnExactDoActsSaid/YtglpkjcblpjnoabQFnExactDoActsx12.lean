-- Printed functions and their walks: by print.py, turned by wip/tools/myprint.py.
import Derived.Test.YtglpkjcblpjnoabQFnExactDoActsx0
import Derived.Test.YtglpkjcblpjnoabQFnExactDoActsx2
import Derived.Test.YtglpkjcblpjnoabQFnExactDoActsx6
import Derived.Test.YtglpkjcblpjnoabQFnExactDoActsx7
import Derived.Test.YtglpkjcblpjnoabQFnExactDoActsx11
namespace Go.Proofs.Ytglpkjcblpjnoab.QFnExactDoActs
open Go.RowKit Go.Proofs.YtglpkjcblpjnoabW.PrintWords Go.Proofs.YtglpkjcblpjnoabW.PrintLast Go.Proofs.YtglpkjcblpjnoabW.PrintMore
attribute [local go_sem] max2_int min2_int max_two min_two max_three min_three max_four min_four   -- for this text's walks alone
set_option linter.unusedVariables false
set_option linter.unusedSimpArgs false

/-! ### laws_FnExactDoActs: function 11 -/
mutual
def laws_FnExactDoActs.j0 : Nat → List Int → List Int → List Int → List Int → Bool → Int → Int → Bool → Bool → Bool → Int → Int → Bool → Bool → Bool → Int → Int → Bool → Bool → Bool → Option (Bool)
 | 0, _, _, _, _, _, _, _, _, _, _, _, _, _, _, _, _, _, _, _, _ => none
 | k + 1, x1, x6, x7, x9, x44, x354000, x354001, x354002, x354003, x354004, x371000, x371001, x371002, x371003, x371004, x388000, x388001, x388002, x388003, x388004 => if x44 = true then (none) else ((laws_toIntS.f k x1).bind fun t390 => ((laws_eqIntS.f k x7 t390).bind fun t393 => (if t393 = true then ((laws_markIntS.f k x7 1).bind fun bt394 => (if bt394.1 < 0 then (laws_FnExactDoActs.j1 k x1 x6 x9 true x354000 x354001 x354002 x354003 x354004 x371000 x371001 x371002 x371003 x371004) else ((laws_eqDoor.f x388000 x388001 x388002 x388003 x388004 x371000 x371001 x371002 x371003 x371004).bind fun t396 => (if t396 = true then ((laws_eqIntS.f k x9 x6).bind fun t397 => (laws_FnExactDoActs.j1 k x1 x6 x9 (!t397) x354000 x354001 x354002 x354003 x354004 x371000 x371001 x371002 x371003 x371004)) else (laws_FnExactDoActs.j1 k x1 x6 x9 true x354000 x354001 x354002 x354003 x354004 x371000 x371001 x371002 x371003 x371004))))) else (none))))
def laws_FnExactDoActs.j1 : Nat → List Int → List Int → List Int → Bool → Int → Int → Bool → Bool → Bool → Int → Int → Bool → Bool → Bool → Option (Bool)
 | 0, _, _, _, _, _, _, _, _, _, _, _, _, _, _ => none
 | k + 1, x1, x6, x9, x66, x354000, x354001, x354002, x354003, x354004, x371000, x371001, x371002, x371003, x371004 => if x66 = true then (none) else ((laws_markIntS.f k x9 1).bind fun bt398 => ((laws_heldIntS.f k bt398.2 1).bind fun t400 => (if t400 < 0 then (none) else (if t400 = bt398.1 then ((laws_toDoor.f x354000 x354001 x354002 x354003 x354004).bind fun bt401 => ((laws_toIntS.f k x1).bind fun t406 => ((impl_DoActs.f k bt401.1 bt401.2.1 bt401.2.2.1 bt401.2.2.2.1 bt401.2.2.2.2 t406).bind fun bt409 => ((laws_eqDoor.f bt409.1 bt409.2.1 bt409.2.2.1 bt409.2.2.2.1 bt409.2.2.2.2.1 x371000 x371001 x371002 x371003 x371004).bind fun t418 => (if t418 = true then ((laws_eqIntS.f k bt409.2.2.2.2.2 x6).bind fun t419 => (laws_FnExactDoActs.j2 k bt398.2 bt398.1 (!t419))) else (laws_FnExactDoActs.j2 k bt398.2 bt398.1 true)))))) else (none)))))
def laws_FnExactDoActs.j2 : Nat → List Int → Int → Bool → Option (Bool)
 | 0, _, _, _ => none
 | k + 1, x9, x11, x95 => if x95 = true then (none) else ((laws_heldIntS.f k x9 1).bind fun t420 => (if t420 < 0 then (none) else (if t420 = x11 then (some true) else (none))))
end
def laws_FnExactDoActs.f (k : Nat) (a0_0 : Int) (a0_1 : Int) (a0_2 : Bool) (a0_3 : Bool) (a0_4 : Bool) (l1 : List Int) : Option (Bool) := if (l1.length : Int) > 1048576 then (some true) else ((laws_toDoor.f a0_0 a0_1 a0_2 a0_3 a0_4).bind fun bt354 => ((laws_toIntS.f k l1).bind fun t359 => ((spec_DoActs.f k bt354.1 bt354.2.1 bt354.2.2.1 bt354.2.2.2.1 bt354.2.2.2.2 t359).bind fun bt362 => ((laws_toIntS.f k l1).bind fun t371 => ((laws_toDoor.f a0_0 a0_1 a0_2 a0_3 a0_4).bind fun bt374 => ((impl_DoActs.f k bt374.1 bt374.2.1 bt374.2.2.1 bt374.2.2.2.1 bt374.2.2.2.2 t371).bind fun bt379 => ((laws_eqDoor.f bt379.1 bt379.2.1 bt379.2.2.1 bt379.2.2.2.1 bt379.2.2.2.2.1 bt362.1 bt362.2.1 bt362.2.2.1 bt362.2.2.2.1 bt362.2.2.2.2.1).bind fun t388 => (if t388 = true then ((laws_eqIntS.f k bt379.2.2.2.2.2 bt362.2.2.2.2.2).bind fun t389 => (laws_FnExactDoActs.j0 k l1 bt362.2.2.2.2.2 t371 bt379.2.2.2.2.2 (!t389) a0_0 a0_1 a0_2 a0_3 a0_4 bt362.1 bt362.2.1 bt362.2.2.1 bt362.2.2.2.1 bt362.2.2.2.2.1 bt379.1 bt379.2.1 bt379.2.2.1 bt379.2.2.2.1 bt379.2.2.2.2.1)) else (laws_FnExactDoActs.j0 k l1 bt362.2.2.2.2.2 t371 bt379.2.2.2.2.2 true a0_0 a0_1 a0_2 a0_3 a0_4 bt362.1 bt362.2.1 bt362.2.2.1 bt362.2.2.2.1 bt362.2.2.2.2.1 bt379.1 bt379.2.1 bt379.2.2.1 bt379.2.2.2.1 bt379.2.2.2.2.1)))))))))
theorem laws_FnExactDoActs.mono_l : ∀ k, (∀ y0 y1 y2 y3 y4 y5 y6 y7 y8 y9 y10 y11 y12 y13 y14 y15 y16 y17 y18 y19, LeO (laws_FnExactDoActs.j0 k y0 y1 y2 y3 y4 y5 y6 y7 y8 y9 y10 y11 y12 y13 y14 y15 y16 y17 y18 y19) (laws_FnExactDoActs.j0 (k + 1) y0 y1 y2 y3 y4 y5 y6 y7 y8 y9 y10 y11 y12 y13 y14 y15 y16 y17 y18 y19)) ∧ (∀ y0 y1 y2 y3 y4 y5 y6 y7 y8 y9 y10 y11 y12 y13, LeO (laws_FnExactDoActs.j1 k y0 y1 y2 y3 y4 y5 y6 y7 y8 y9 y10 y11 y12 y13) (laws_FnExactDoActs.j1 (k + 1) y0 y1 y2 y3 y4 y5 y6 y7 y8 y9 y10 y11 y12 y13)) ∧ (∀ y0 y1 y2, LeO (laws_FnExactDoActs.j2 k y0 y1 y2) (laws_FnExactDoActs.j2 (k + 1) y0 y1 y2))
 | 0 => ⟨fun _ _ _ _ _ _ _ _ _ _ _ _ _ _ _ _ _ _ _ _ r h => by simp [laws_FnExactDoActs.j0] at h, fun _ _ _ _ _ _ _ _ _ _ _ _ _ _ r h => by simp [laws_FnExactDoActs.j1] at h, fun _ _ _ r h => by simp [laws_FnExactDoActs.j2] at h⟩
 | k + 1 => by
  obtain ⟨ih0, ih1, ih2⟩ := laws_FnExactDoActs.mono_l k
  refine ⟨?_, ?_, ?_⟩
  ·intro y0 y1 y2 y3 y4 y5 y6 y7 y8 y9 y10 y11 y12 y13 y14 y15 y16 y17 y18 y19
   unfold laws_FnExactDoActs.j0
   repeat' first
   | (with_reducible exact ih0 _ _ _ _ _ _ _ _ _ _ _ _ _ _ _ _ _ _ _ _)
   | (with_reducible exact ih1 _ _ _ _ _ _ _ _ _ _ _ _ _ _)
   | (with_reducible exact ih2 _ _ _)
   | (with_reducible exact impl_DoActs.mono _ _ _ _ _ _ _)
   | (with_reducible exact laws_eqIntS.mono _ _ _)
   | (with_reducible exact laws_heldIntS.mono _ _ _)
   | (with_reducible exact laws_markIntS.mono _ _ _)
   | (with_reducible exact laws_toIntS.mono _ _)
   | (with_reducible exact spec_DoActs.mono _ _ _ _ _ _ _)
   | (with_reducible exact LeO.refl _)
   | (with_reducible exact LeO.none _)
   | (with_reducible refine LeO.ite ?_ ?_)
   | (with_reducible refine LeO.bind ?_ (fun _ => ?_))
   | exact ih0 _ _ _ _ _ _ _ _ _ _ _ _ _ _ _ _ _ _ _ _
   | exact ih1 _ _ _ _ _ _ _ _ _ _ _ _ _ _
   | exact ih2 _ _ _
   | exact impl_DoActs.mono _ _ _ _ _ _ _
   | exact laws_eqIntS.mono _ _ _
   | exact laws_heldIntS.mono _ _ _
   | exact laws_markIntS.mono _ _ _
   | exact laws_toIntS.mono _ _
   | exact spec_DoActs.mono _ _ _ _ _ _ _
   | exact LeO.none _
   | refine LeO.ite ?_ ?_
   | refine LeO.bind ?_ (fun _ => ?_)
  ·intro y0 y1 y2 y3 y4 y5 y6 y7 y8 y9 y10 y11 y12 y13
   unfold laws_FnExactDoActs.j1
   repeat' first
   | (with_reducible exact ih0 _ _ _ _ _ _ _ _ _ _ _ _ _ _ _ _ _ _ _ _)
   | (with_reducible exact ih1 _ _ _ _ _ _ _ _ _ _ _ _ _ _)
   | (with_reducible exact ih2 _ _ _)
   | (with_reducible exact impl_DoActs.mono _ _ _ _ _ _ _)
   | (with_reducible exact laws_eqIntS.mono _ _ _)
   | (with_reducible exact laws_heldIntS.mono _ _ _)
   | (with_reducible exact laws_markIntS.mono _ _ _)
   | (with_reducible exact laws_toIntS.mono _ _)
   | (with_reducible exact spec_DoActs.mono _ _ _ _ _ _ _)
   | (with_reducible exact LeO.refl _)
   | (with_reducible exact LeO.none _)
   | (with_reducible refine LeO.ite ?_ ?_)
   | (with_reducible refine LeO.bind ?_ (fun _ => ?_))
   | exact ih0 _ _ _ _ _ _ _ _ _ _ _ _ _ _ _ _ _ _ _ _
   | exact ih1 _ _ _ _ _ _ _ _ _ _ _ _ _ _
   | exact ih2 _ _ _
   | exact impl_DoActs.mono _ _ _ _ _ _ _
   | exact laws_eqIntS.mono _ _ _
   | exact laws_heldIntS.mono _ _ _
   | exact laws_markIntS.mono _ _ _
   | exact laws_toIntS.mono _ _
   | exact spec_DoActs.mono _ _ _ _ _ _ _
   | exact LeO.none _
   | refine LeO.ite ?_ ?_
   | refine LeO.bind ?_ (fun _ => ?_)
  ·intro y0 y1 y2
   unfold laws_FnExactDoActs.j2
   repeat' first
   | (with_reducible exact ih0 _ _ _ _ _ _ _ _ _ _ _ _ _ _ _ _ _ _ _ _)
   | (with_reducible exact ih1 _ _ _ _ _ _ _ _ _ _ _ _ _ _)
   | (with_reducible exact ih2 _ _ _)
   | (with_reducible exact impl_DoActs.mono _ _ _ _ _ _ _)
   | (with_reducible exact laws_eqIntS.mono _ _ _)
   | (with_reducible exact laws_heldIntS.mono _ _ _)
   | (with_reducible exact laws_markIntS.mono _ _ _)
   | (with_reducible exact laws_toIntS.mono _ _)
   | (with_reducible exact spec_DoActs.mono _ _ _ _ _ _ _)
   | (with_reducible exact LeO.refl _)
   | (with_reducible exact LeO.none _)
   | (with_reducible refine LeO.ite ?_ ?_)
   | (with_reducible refine LeO.bind ?_ (fun _ => ?_))
   | exact ih0 _ _ _ _ _ _ _ _ _ _ _ _ _ _ _ _ _ _ _ _
   | exact ih1 _ _ _ _ _ _ _ _ _ _ _ _ _ _
   | exact ih2 _ _ _
   | exact impl_DoActs.mono _ _ _ _ _ _ _
   | exact laws_eqIntS.mono _ _ _
   | exact laws_heldIntS.mono _ _ _
   | exact laws_markIntS.mono _ _ _
   | exact laws_toIntS.mono _ _
   | exact spec_DoActs.mono _ _ _ _ _ _ _
   | exact LeO.none _
   | refine LeO.ite ?_ ?_
   | refine LeO.bind ?_ (fun _ => ?_)
theorem laws_FnExactDoActs.mono : ∀ a0 a1 a2 a3 a4 a5 k, LeO (laws_FnExactDoActs.f k a0 a1 a2 a3 a4 a5) (laws_FnExactDoActs.f (k + 1) a0 a1 a2 a3 a4 a5) := by
 intro a0 a1 a2 a3 a4 a5 k
 obtain ⟨ih0, ih1, ih2⟩ := laws_FnExactDoActs.mono_l k
 unfold laws_FnExactDoActs.f
 repeat' first
   | (with_reducible exact ih0 _ _ _ _ _ _ _ _ _ _ _ _ _ _ _ _ _ _ _ _)
   | (with_reducible exact ih1 _ _ _ _ _ _ _ _ _ _ _ _ _ _)
   | (with_reducible exact ih2 _ _ _)
   | (with_reducible exact impl_DoActs.mono _ _ _ _ _ _ _)
   | (with_reducible exact laws_eqIntS.mono _ _ _)
   | (with_reducible exact laws_heldIntS.mono _ _ _)
   | (with_reducible exact laws_markIntS.mono _ _ _)
   | (with_reducible exact laws_toIntS.mono _ _)
   | (with_reducible exact spec_DoActs.mono _ _ _ _ _ _ _)
   | (with_reducible exact LeO.refl _)
   | (with_reducible exact LeO.none _)
   | (with_reducible refine LeO.ite ?_ ?_)
   | (with_reducible refine LeO.bind ?_ (fun _ => ?_))
   | exact ih0 _ _ _ _ _ _ _ _ _ _ _ _ _ _ _ _ _ _ _ _
   | exact ih1 _ _ _ _ _ _ _ _ _ _ _ _ _ _
   | exact ih2 _ _ _
   | exact impl_DoActs.mono _ _ _ _ _ _ _
   | exact laws_eqIntS.mono _ _ _
   | exact laws_heldIntS.mono _ _ _
   | exact laws_markIntS.mono _ _ _
   | exact laws_toIntS.mono _ _
   | exact spec_DoActs.mono _ _ _ _ _ _ _
   | exact LeO.none _
   | refine LeO.ite ?_ ?_
   | refine LeO.bind ?_ (fun _ => ?_)
set_option maxHeartbeats 8000000 in
set_option maxRecDepth 100000 in
theorem laws_FnExactDoActs.calls (k : Nat) (a0_0 : Int) (a0_1 : Int) (a0_2 : Bool) (a0_3 : Bool) (a0_4 : Bool) (A1 : Option Addr) (c1 : Nat) (l1 : List Int) (r : Bool) (w : World) (hr1 : Kd.C (Kd.int .i64) w A1 l1.length l1) (hc1 : l1.length ≤ c1) (h : laws_FnExactDoActs.f k a0_0 a0_1 a0_2 a0_3 a0_4 l1 = some r) :
  Calls Try.prog 11 #[.agg #[.int .i64 a0_0, .int .i64 a0_1, .bool a0_2, .bool a0_3, .bool a0_4], .slice A1 l1.length c1] w fun e w' => e = .returned (.bool r) ∧ Below w.heap.size w w' := by
 have hu23 := Try.underlying23
 have hu24 := Try.underlying24
 have HR1 := aM hr1
 have HC1 := aM hc1
 clear hr1 hc1
 have HB := aM (Below.refl w.heap.size w)
 have H : (if (l1.length : Int) > 1048576 then (some true) else ((laws_toDoor.f a0_0 a0_1 a0_2 a0_3 a0_4).bind fun bt354 => ((laws_toIntS.f k l1).bind fun t359 => ((spec_DoActs.f k bt354.1 bt354.2.1 bt354.2.2.1 bt354.2.2.2.1 bt354.2.2.2.2 t359).bind fun bt362 => ((laws_toIntS.f k l1).bind fun t371 => ((laws_toDoor.f a0_0 a0_1 a0_2 a0_3 a0_4).bind fun bt374 => ((impl_DoActs.f k bt374.1 bt374.2.1 bt374.2.2.1 bt374.2.2.2.1 bt374.2.2.2.2 t371).bind fun bt379 => ((laws_eqDoor.f bt379.1 bt379.2.1 bt379.2.2.1 bt379.2.2.2.1 bt379.2.2.2.2.1 bt362.1 bt362.2.1 bt362.2.2.1 bt362.2.2.2.1 bt362.2.2.2.2.1).bind fun t388 => (if t388 = true then ((laws_eqIntS.f k bt379.2.2.2.2.2 bt362.2.2.2.2.2).bind fun t389 => (laws_FnExactDoActs.j0 k l1 bt362.2.2.2.2.2 t371 bt379.2.2.2.2.2 (!t389) a0_0 a0_1 a0_2 a0_3 a0_4 bt362.1 bt362.2.1 bt362.2.2.1 bt362.2.2.2.1 bt362.2.2.2.2.1 bt379.1 bt379.2.1 bt379.2.2.1 bt379.2.2.2.1 bt379.2.2.2.2.1)) else (laws_FnExactDoActs.j0 k l1 bt362.2.2.2.2.2 t371 bt379.2.2.2.2.2 true a0_0 a0_1 a0_2 a0_3 a0_4 bt362.1 bt362.2.1 bt362.2.2.1 bt362.2.2.2.1 bt362.2.2.2.2.1 bt379.1 bt379.2.1 bt379.2.2.1 bt379.2.2.2.1 bt379.2.2.2.2.1)))))))))) = some r := h
 clear h
 by_cases c3 : (l1.length : Int) > 1048576
 ·rw [if_pos c3] at H
  have c3b0 : decide (1048576 < (l1.length : Int)) = true := decide_eq_true c3
  have c3b1 : decide (1048576 < l1.length) = true := decide_eq_true (by omega)
  clear c3
  obtain rfl := Option.some.inj H
  go_enter Try.func11, Try.ntmps11
  go_wp2_with (first | ((with_reducible refine gate_dst (N := 2) rfl ?_); refine box_event ?hg (N := 2) ?hd (cs := #[.int .i64 a0_0, .int .i64 a0_1, .bool a0_2, .bool a0_3, .bool a0_4]) (t := 23) ?hr ?_; (case hd => rfl); (case hg => rfl); (case hr => first | (go_simp; done) | (go_simp; rfl)); intro gb353 hg w4 hbox hb; have n0_ := aM (below_step (by repeat (first | (with_reducible first | exact HB.out | apply eA | apply eN | apply eD) | exact HB.out)) hb); have n1_ := aM (hbox); have n2_ := aM ((by rw [hg]; exact (below_size (by repeat (first | (with_reducible first | exact HB.out | apply eA | apply eN | apply eD) | exact HB.out))) : w.heap.size ≤ gb353)); have n3_ := aM ((by rw [hg]; exact (below_size (by repeat (first | (with_reducible first | exact HB.out | apply eA | apply eN | apply eD) | exact HB.out))) : w.heap.size ≤ gb353)); clear HB; have HB := n0_; have BK353 := n1_; have GW353 := n2_; have GE353 := n3_; clear n0_ n1_ n2_ n3_; clear hb hbox hg))
  go_ret
  exact ⟨by first | rfl | (simp [errW_none, errW_some] <;> rfl) | (simp [*, errW_none, errW_some] <;> rfl), by repeat (first | (with_reducible first | exact HB.out | apply eA | apply eN | apply eD | refine eS ?_ GE353.out) | exact HB.out)⟩
 ·rw [if_neg c3] at H
  have c3b0 : decide (1048576 < (l1.length : Int)) = false := decide_eq_false c3
  have c3b1 : decide (1048576 < l1.length) = false := decide_eq_false (by omega)
  clear c3
  replace H := Option.bind_eq_some_iff.mp H
  obtain ⟨⟨t354, t355, t356, t357, t358⟩, A50, H⟩ := H
  replace H : ((laws_toIntS.f k l1).bind fun t359 => ((spec_DoActs.f k t354 t355 t356 t357 t358 t359).bind fun bt362 => ((laws_toIntS.f k l1).bind fun t371 => ((laws_toDoor.f a0_0 a0_1 a0_2 a0_3 a0_4).bind fun bt374 => ((impl_DoActs.f k bt374.1 bt374.2.1 bt374.2.2.1 bt374.2.2.2.1 bt374.2.2.2.2 t371).bind fun bt379 => ((laws_eqDoor.f bt379.1 bt379.2.1 bt379.2.2.1 bt379.2.2.2.1 bt379.2.2.2.2.1 bt362.1 bt362.2.1 bt362.2.2.1 bt362.2.2.2.1 bt362.2.2.2.2.1).bind fun t388 => (if t388 = true then ((laws_eqIntS.f k bt379.2.2.2.2.2 bt362.2.2.2.2.2).bind fun t389 => (laws_FnExactDoActs.j0 k l1 bt362.2.2.2.2.2 t371 bt379.2.2.2.2.2 (!t389) a0_0 a0_1 a0_2 a0_3 a0_4 bt362.1 bt362.2.1 bt362.2.2.1 bt362.2.2.2.1 bt362.2.2.2.2.1 bt379.1 bt379.2.1 bt379.2.2.1 bt379.2.2.2.1 bt379.2.2.2.2.1)) else (laws_FnExactDoActs.j0 k l1 bt362.2.2.2.2.2 t371 bt379.2.2.2.2.2 true a0_0 a0_1 a0_2 a0_3 a0_4 bt362.1 bt362.2.1 bt362.2.2.1 bt362.2.2.2.1 bt362.2.2.2.2.1 bt379.1 bt379.2.1 bt379.2.2.1 bt379.2.2.2.1 bt379.2.2.2.2.1)))))))) = some r := H
  have A5 := aM A50
  clear A50
  replace H := Option.bind_eq_some_iff.mp H
  obtain ⟨t359, A60, H⟩ := H
  replace H : ((spec_DoActs.f k t354 t355 t356 t357 t358 t359).bind fun bt362 => ((laws_toIntS.f k l1).bind fun t371 => ((laws_toDoor.f a0_0 a0_1 a0_2 a0_3 a0_4).bind fun bt374 => ((impl_DoActs.f k bt374.1 bt374.2.1 bt374.2.2.1 bt374.2.2.2.1 bt374.2.2.2.2 t371).bind fun bt379 => ((laws_eqDoor.f bt379.1 bt379.2.1 bt379.2.2.1 bt379.2.2.2.1 bt379.2.2.2.2.1 bt362.1 bt362.2.1 bt362.2.2.1 bt362.2.2.2.1 bt362.2.2.2.2.1).bind fun t388 => (if t388 = true then ((laws_eqIntS.f k bt379.2.2.2.2.2 bt362.2.2.2.2.2).bind fun t389 => (laws_FnExactDoActs.j0 k l1 bt362.2.2.2.2.2 t371 bt379.2.2.2.2.2 (!t389) a0_0 a0_1 a0_2 a0_3 a0_4 bt362.1 bt362.2.1 bt362.2.2.1 bt362.2.2.2.1 bt362.2.2.2.2.1 bt379.1 bt379.2.1 bt379.2.2.1 bt379.2.2.2.1 bt379.2.2.2.2.1)) else (laws_FnExactDoActs.j0 k l1 bt362.2.2.2.2.2 t371 bt379.2.2.2.2.2 true a0_0 a0_1 a0_2 a0_3 a0_4 bt362.1 bt362.2.1 bt362.2.2.1 bt362.2.2.2.1 bt362.2.2.2.2.1 bt379.1 bt379.2.1 bt379.2.2.1 bt379.2.2.2.1 bt379.2.2.2.2.1))))))) = some r := H
  have A6 := aM A60
  clear A60
  replace H := Option.bind_eq_some_iff.mp H
  obtain ⟨⟨t362, t363, t364, t365, t366, t367⟩, A70, H⟩ := H
  replace H : ((laws_toIntS.f k l1).bind fun t371 => ((laws_toDoor.f a0_0 a0_1 a0_2 a0_3 a0_4).bind fun bt374 => ((impl_DoActs.f k bt374.1 bt374.2.1 bt374.2.2.1 bt374.2.2.2.1 bt374.2.2.2.2 t371).bind fun bt379 => ((laws_eqDoor.f bt379.1 bt379.2.1 bt379.2.2.1 bt379.2.2.2.1 bt379.2.2.2.2.1 t362 t363 t364 t365 t366).bind fun t388 => (if t388 = true then ((laws_eqIntS.f k bt379.2.2.2.2.2 t367).bind fun t389 => (laws_FnExactDoActs.j0 k l1 t367 t371 bt379.2.2.2.2.2 (!t389) a0_0 a0_1 a0_2 a0_3 a0_4 t362 t363 t364 t365 t366 bt379.1 bt379.2.1 bt379.2.2.1 bt379.2.2.2.1 bt379.2.2.2.2.1)) else (laws_FnExactDoActs.j0 k l1 t367 t371 bt379.2.2.2.2.2 true a0_0 a0_1 a0_2 a0_3 a0_4 t362 t363 t364 t365 t366 bt379.1 bt379.2.1 bt379.2.2.1 bt379.2.2.2.1 bt379.2.2.2.2.1)))))) = some r := H
  have A7 := aM A70
  clear A70
  replace H := Option.bind_eq_some_iff.mp H
  obtain ⟨t371, A80, H⟩ := H
  replace H : ((laws_toDoor.f a0_0 a0_1 a0_2 a0_3 a0_4).bind fun bt374 => ((impl_DoActs.f k bt374.1 bt374.2.1 bt374.2.2.1 bt374.2.2.2.1 bt374.2.2.2.2 t371).bind fun bt379 => ((laws_eqDoor.f bt379.1 bt379.2.1 bt379.2.2.1 bt379.2.2.2.1 bt379.2.2.2.2.1 t362 t363 t364 t365 t366).bind fun t388 => (if t388 = true then ((laws_eqIntS.f k bt379.2.2.2.2.2 t367).bind fun t389 => (laws_FnExactDoActs.j0 k l1 t367 t371 bt379.2.2.2.2.2 (!t389) a0_0 a0_1 a0_2 a0_3 a0_4 t362 t363 t364 t365 t366 bt379.1 bt379.2.1 bt379.2.2.1 bt379.2.2.2.1 bt379.2.2.2.2.1)) else (laws_FnExactDoActs.j0 k l1 t367 t371 bt379.2.2.2.2.2 true a0_0 a0_1 a0_2 a0_3 a0_4 t362 t363 t364 t365 t366 bt379.1 bt379.2.1 bt379.2.2.1 bt379.2.2.2.1 bt379.2.2.2.2.1))))) = some r := H
  have A8 := aM A80
  clear A80
  replace H := Option.bind_eq_some_iff.mp H
  obtain ⟨⟨t374, t375, t376, t377, t378⟩, A90, H⟩ := H
  replace H : ((impl_DoActs.f k t374 t375 t376 t377 t378 t371).bind fun bt379 => ((laws_eqDoor.f bt379.1 bt379.2.1 bt379.2.2.1 bt379.2.2.2.1 bt379.2.2.2.2.1 t362 t363 t364 t365 t366).bind fun t388 => (if t388 = true then ((laws_eqIntS.f k bt379.2.2.2.2.2 t367).bind fun t389 => (laws_FnExactDoActs.j0 k l1 t367 t371 bt379.2.2.2.2.2 (!t389) a0_0 a0_1 a0_2 a0_3 a0_4 t362 t363 t364 t365 t366 bt379.1 bt379.2.1 bt379.2.2.1 bt379.2.2.2.1 bt379.2.2.2.2.1)) else (laws_FnExactDoActs.j0 k l1 t367 t371 bt379.2.2.2.2.2 true a0_0 a0_1 a0_2 a0_3 a0_4 t362 t363 t364 t365 t366 bt379.1 bt379.2.1 bt379.2.2.1 bt379.2.2.2.1 bt379.2.2.2.2.1)))) = some r := H
  have A9 := aM A90
  clear A90
  replace H := Option.bind_eq_some_iff.mp H
  obtain ⟨⟨t379, t380, t381, t382, t383, t384⟩, A100, H⟩ := H
  replace H : ((laws_eqDoor.f t379 t380 t381 t382 t383 t362 t363 t364 t365 t366).bind fun t388 => (if t388 = true then ((laws_eqIntS.f k t384 t367).bind fun t389 => (laws_FnExactDoActs.j0 k l1 t367 t371 t384 (!t389) a0_0 a0_1 a0_2 a0_3 a0_4 t362 t363 t364 t365 t366 t379 t380 t381 t382 t383)) else (laws_FnExactDoActs.j0 k l1 t367 t371 t384 true a0_0 a0_1 a0_2 a0_3 a0_4 t362 t363 t364 t365 t366 t379 t380 t381 t382 t383))) = some r := H
  have A10 := aM A100
  clear A100
  have HC11 := aM H
  clear H
  go_enter Try.func11, Try.ntmps11
  go_upto_region 6 with (first | ((with_reducible refine gate_dst (N := 2) rfl ?_); refine box_event ?hg (N := 2) ?hd (cs := #[.int .i64 a0_0, .int .i64 a0_1, .bool a0_2, .bool a0_3, .bool a0_4]) (t := 23) ?hr ?_; (case hd => rfl); (case hg => rfl); (case hr => first | (go_simp; done) | (go_simp; rfl)); intro gb353 hg w12 hbox hb; have n0_ := aM (below_step (by repeat (first | (with_reducible first | exact HB.out | apply eA | apply eN | apply eD) | exact HB.out)) hb); have n1_ := aM (hbox); have n2_ := aM ((by rw [hg]; exact (below_size (by repeat (first | (with_reducible first | exact HB.out | apply eA | apply eN | apply eD) | exact HB.out))) : w.heap.size ≤ gb353)); have n3_ := aM ((by rw [hg]; exact (below_size (by repeat (first | (with_reducible first | exact HB.out | apply eA | apply eN | apply eD) | exact HB.out))) : w.heap.size ≤ gb353)); clear HB; have HB := n0_; have BK353 := n1_; have GW353 := n2_; have GE353 := n3_; clear n0_ n1_ n2_ n3_; clear hb hbox hg; obtain ⟨hcz13_0, hcz13_1, hcz13_2, hcz13_3, hcz13_4, hfz13_0, hfz13_1, hfz13_2, hfz13_3, hfz13_4⟩ := cells5 BK353.out) | ((with_reducible refine gate_callee (f := 14) rfl ?_); refine goesL_ (some 20) rfl rfl Try.func14 (by kernel_rfl) rfl #[.agg #[.int .i64 a0_0, .int .i64 a0_1, .bool a0_2, .bool a0_3, .bool a0_4]] rfl (by (try simp only [List.map_toArray, List.map_cons, List.map_nil]); first | done | rfl | (simp only [List.length_drop, List.length_take]; rfl)) ?_; (with_reducible refine (laws_toDoor.calls a0_0 a0_1 a0_2 a0_3 a0_4 t354 t355 t356 t357 t358 _ A5.out).mono ?_); rintro e w14 ⟨rfl, hb⟩; refine ⟨_, rfl, ?_⟩; have n0_ := aM (blk_below (g := gb353) (o := .cells #[.int .i64 a0_0, .int .i64 a0_1, .bool a0_2, .bool a0_3, .bool a0_4] 23 (0, 0)) (by exact pk BK353.out) hb); have n1_ := aM (below_step (by repeat (first | (with_reducible first | exact HB.out | apply eA | apply eN | apply eD | refine eS ?_ GE353.out) | exact HB.out)) hb); clear BK353; clear HB; have BK353 := n0_; have HB := n1_; clear n0_ n1_; (try clear hb); (try clear hb2); (try clear hk); (try clear hi)) | ((with_reducible refine gate_callee (f := 44) rfl ?_); refine goesL_ (some 22) rfl rfl Try.func44 (by kernel_rfl) rfl #[.slice A1 l1.length c1] rfl (by (try simp only [List.map_toArray, List.map_cons, List.map_nil]); first | done | rfl | (simp only [List.length_drop, List.length_take]; rfl)) ?_; (with_reducible refine (laws_toIntS.calls k _ _ l1 t359 _ ?side1 ?side2 A6.out).mono ?_); (case side1 => repeat (first | exact (Kd.C_below HR1.out HB.out) | (with_reducible refine Kd.C_alloc ?_ _) | (with_reducible refine Kd.C_drewN ?_ _) | (with_reducible refine Kd.C_drew ?_))); (case side2 => exact HC1.out); rintro e w15 ⟨v360, rfl, ho0, hb⟩; refine ⟨_, rfl, ?_⟩; have n0_ := aM (Kd.R_lower ho0 (below_size (by repeat (first | (with_reducible first | exact HB.out | apply eA | apply eN | apply eD | refine eS ?_ GE353.out) | exact HB.out)))); have n1_ := aM (blk_below (g := gb353) (o := .cells #[.int .i64 a0_0, .int .i64 a0_1, .bool a0_2, .bool a0_3, .bool a0_4] 23 (0, 0)) (by exact pk BK353.out) hb); have n2_ := aM (below_step (by repeat (first | (with_reducible first | exact HB.out | apply eA | apply eN | apply eD | refine eS ?_ GE353.out) | exact HB.out)) hb); clear BK353; clear HB; have HO361 := n0_; have BK353 := n1_; have HB := n2_; clear n0_ n1_ n2_; (try clear hb); (try clear hb2); (try clear hk); (try clear hi); (try clear ho0); obtain ⟨Ao16, co16, eo16⟩ := Kd.R_slice HO361.out; subst eo16) | ((with_reducible refine gate_callee (f := 43) rfl ?_); refine goesL_ (some 23) rfl rfl Try.func43 (by kernel_rfl) rfl #[.agg #[.int .i64 t354, .int .i64 t355, .bool t356, .bool t357, .bool t358], .slice Ao16 t359.length co16] rfl (by (try simp only [List.map_toArray, List.map_cons, List.map_nil]); first | done | rfl | (simp only [List.length_drop, List.length_take]; rfl)) ?_; (with_reducible refine (spec_DoActs.calls k t354 t355 t356 t357 t358 _ _ t359 t362 t363 t364 t365 t366 t367 _ ?side1 ?side2 A7.out).mono ?_); (case side1 => repeat (first | exact (Kd.R_reads' HO361.out).2.2 | (with_reducible refine Kd.C_alloc ?_ _) | (with_reducible refine Kd.C_drewN ?_ _) | (with_reducible refine Kd.C_drew ?_))); (case side2 => exact (Kd.R_reads' HO361.out).2.1); rintro e w17 ⟨v368, rfl, ho0, hb⟩; refine ⟨_, rfl, ?_⟩; have n0_ := aM (Kd.R_elder' (by (with_reducible repeat (first | apply Kd.R_alloc | apply Kd.R_drewN | apply Kd.R_drew)); exact HO361.out) (Kd.R_base ho0) hb); have n1_ := aM (Kd.R_lower (Kd.R_new' ho0 (Kd.R_lt (by (with_reducible repeat (first | apply Kd.R_alloc | apply Kd.R_drewN | apply Kd.R_drew)); exact HO361.out))) (below_size (by repeat (first | (with_reducible first | exact HB.out | apply eA | apply eN | apply eD | refine eS ?_ GE353.out) | exact HB.out)))); have n2_ := aM (blk_below (g := gb353) (o := .cells #[.int .i64 a0_0, .int .i64 a0_1, .bool a0_2, .bool a0_3, .bool a0_4] 23 (0, 0)) (by exact pk BK353.out) hb); have n3_ := aM (below_step (by repeat (first | (with_reducible first | exact HB.out | apply eA | apply eN | apply eD | refine eS ?_ GE353.out) | exact HB.out)) hb); clear HO361; clear BK353; clear HB; have HO361 := n0_; have HO369 := n1_; have BK353 := n2_; have HB := n3_; clear n0_ n1_ n2_ n3_; (try clear hb); (try clear hb2); (try clear hk); (try clear hi); (try clear ho0)) | ((with_reducible refine gate_dst (N := 5) rfl ?_); refine box_event ?hg (N := 5) ?hd (cs := #[.int .i64 0, .int .i64 0, .bool false, .bool false, .bool false]) (t := 24) ?hr ?_; (case hd => rfl); (case hg => rfl); (case hr => first | (go_simp; done) | (go_simp; rfl)); intro gb370 hg w18 hbox hb; have n0_ := aM (Kd.R_below (by (with_reducible repeat (first | apply Kd.R_alloc | apply Kd.R_drewN | apply Kd.R_drew)); exact HO361.out) hb); have n1_ := aM (Kd.R_below (by (with_reducible repeat (first | apply Kd.R_alloc | apply Kd.R_drewN | apply Kd.R_drew)); exact HO369.out) hb); have n2_ := aM (blk_below (g := gb353) (o := .cells #[.int .i64 a0_0, .int .i64 a0_1, .bool a0_2, .bool a0_3, .bool a0_4] 23 (0, 0)) (by exact pk BK353.out) hb); have n3_ := aM (below_step (by repeat (first | (with_reducible first | exact HB.out | apply eA | apply eN | apply eD | refine eS ?_ GE353.out) | exact HB.out)) hb); have n4_ := aM (hbox); have n5_ := aM ((by rw [hg]; exact (below_size (by repeat (first | (with_reducible first | exact HB.out | apply eA | apply eN | apply eD | refine eS ?_ GE353.out) | exact HB.out))) : w.heap.size ≤ gb370)); have n6_ := aM ((by rw [hg]; exact (below_size (by repeat (first | (with_reducible first | exact HB.out | apply eA | apply eN | apply eD | refine eS ?_ GE353.out) | exact HB.out))) : w.heap.size ≤ gb370)); have n7_ := aM ((by rw [hg]; exact Nat.ne_of_lt (blk_lt (g := gb353) (o := .cells #[.int .i64 a0_0, .int .i64 a0_1, .bool a0_2, .bool a0_3, .bool a0_4] 23 (0, 0)) (by exact pk BK353.out)) : gb353 ≠ gb370)); have n8_ := aM ((by rw [hg]; exact Nat.ne_of_gt (blk_lt (g := gb353) (o := .cells #[.int .i64 a0_0, .int .i64 a0_1, .bool a0_2, .bool a0_3, .bool a0_4] 23 (0, 0)) (by exact pk BK353.out)) : gb370 ≠ gb353)); clear HO361; clear HO369; clear BK353; clear HB; have HO361 := n0_; have HO369 := n1_; have BK353 := n2_; have HB := n3_; have BK370 := n4_; have GW370 := n5_; have GE370 := n6_; have NB353_370 := n7_; have NB370_353 := n8_; clear n0_ n1_ n2_ n3_ n4_ n5_ n6_ n7_ n8_; clear hb hbox hg; have hnb19 := NB370_353.out; have hnc19 := NB353_370.out; obtain ⟨hcz20_0, hcz20_1, hcz20_2, hcz20_3, hcz20_4, hfz20_0, hfz20_1, hfz20_2, hfz20_3, hfz20_4⟩ := cells5 BK370.out) | ((with_reducible refine gate_callee (f := 44) rfl ?_); refine goesL_ (some 27) rfl rfl Try.func44 (by kernel_rfl) rfl #[.slice A1 l1.length c1] rfl (by (try simp only [List.map_toArray, List.map_cons, List.map_nil]); first | done | rfl | (simp only [List.length_drop, List.length_take]; rfl)) ?_; (with_reducible refine (laws_toIntS.calls k _ _ l1 t371 _ ?side1 ?side2 A8.out).mono ?_); (case side1 => exact Kd.C_below HR1.out (by repeat (first | (with_reducible first | exact HB.out | apply eA | apply eN | apply eD | refine eS ?_ GE353.out | refine eS ?_ GE370.out) | exact HB.out))); (case side2 => exact HC1.out); rintro e w21 ⟨v372, rfl, ho0, hb⟩; refine ⟨_, rfl, ?_⟩; have n0_ := aM (Kd.R_elder' (by (with_reducible repeat (first | apply Kd.R_alloc | apply Kd.R_drewN | apply Kd.R_drew)); exact (Kd.R_mono (Kd.R_far (p := ⟨gb370, 4, none⟩) (Kd.R_far (p := ⟨gb370, 3, none⟩) (Kd.R_far (p := ⟨gb370, 2, none⟩) (Kd.R_far (p := ⟨gb370, 1, none⟩) (Kd.R_far (p := ⟨gb370, 0, none⟩) (Kd.R_types HO361.out BK370.out (by decide)) (fun _ hk => hk.2) (.int .i64 t362)) (fun _ hk => hk.2) (.int .i64 t363)) (fun _ hk => hk.2) (.bool t364)) (fun _ hk => hk.2) (.bool t365)) (fun _ hk => hk.2) (.bool t366)) (fun _ h_ => h_.1))) (Kd.R_base ho0) hb); have n1_ := aM (Kd.R_elder' (by (with_reducible repeat (first | apply Kd.R_alloc | apply Kd.R_drewN | apply Kd.R_drew)); exact (Kd.R_mono (Kd.R_far (p := ⟨gb370, 4, none⟩) (Kd.R_far (p := ⟨gb370, 3, none⟩) (Kd.R_far (p := ⟨gb370, 2, none⟩) (Kd.R_far (p := ⟨gb370, 1, none⟩) (Kd.R_far (p := ⟨gb370, 0, none⟩) (Kd.R_types HO369.out BK370.out (by decide)) (fun _ hk => hk.2) (.int .i64 t362)) (fun _ hk => hk.2) (.int .i64 t363)) (fun _ hk => hk.2) (.bool t364)) (fun _ hk => hk.2) (.bool t365)) (fun _ hk => hk.2) (.bool t366)) (fun _ h_ => h_.1))) (Kd.R_base ho0) hb); have n2_ := aM (Kd.R_lower (Kd.R_new' (Kd.R_new' ho0 (Kd.R_lt (by (with_reducible repeat (first | apply Kd.R_alloc | apply Kd.R_drewN | apply Kd.R_drew)); exact (Kd.R_mono (Kd.R_far (p := ⟨gb370, 4, none⟩) (Kd.R_far (p := ⟨gb370, 3, none⟩) (Kd.R_far (p := ⟨gb370, 2, none⟩) (Kd.R_far (p := ⟨gb370, 1, none⟩) (Kd.R_far (p := ⟨gb370, 0, none⟩) (Kd.R_types HO361.out BK370.out (by decide)) (fun _ hk => hk.2) (.int .i64 t362)) (fun _ hk => hk.2) (.int .i64 t363)) (fun _ hk => hk.2) (.bool t364)) (fun _ hk => hk.2) (.bool t365)) (fun _ hk => hk.2) (.bool t366)) (fun _ h_ => h_.1))))) (Kd.R_lt (by (with_reducible repeat (first | apply Kd.R_alloc | apply Kd.R_drewN | apply Kd.R_drew)); exact (Kd.R_mono (Kd.R_far (p := ⟨gb370, 4, none⟩) (Kd.R_far (p := ⟨gb370, 3, none⟩) (Kd.R_far (p := ⟨gb370, 2, none⟩) (Kd.R_far (p := ⟨gb370, 1, none⟩) (Kd.R_far (p := ⟨gb370, 0, none⟩) (Kd.R_types HO369.out BK370.out (by decide)) (fun _ hk => hk.2) (.int .i64 t362)) (fun _ hk => hk.2) (.int .i64 t363)) (fun _ hk => hk.2) (.bool t364)) (fun _ hk => hk.2) (.bool t365)) (fun _ hk => hk.2) (.bool t366)) (fun _ h_ => h_.1))))) (below_size (by repeat (first | (with_reducible first | exact HB.out | apply eA | apply eN | apply eD | refine eS ?_ GE353.out | refine eS ?_ GE370.out) | exact HB.out)))); have n3_ := aM (blk_below (g := gb353) (o := .cells #[.int .i64 a0_0, .int .i64 a0_1, .bool a0_2, .bool a0_3, .bool a0_4] 23 (0, 0)) (by (with_reducible repeat (first | refine bN ?_ _ | refine bD ?_ | refine bA ?_ _)); refine blk_far ?_ NB353_370.out _; (with_reducible repeat (first | refine bN ?_ _ | refine bD ?_ | refine bA ?_ _)); refine blk_far ?_ NB353_370.out _; (with_reducible repeat (first | refine bN ?_ _ | refine bD ?_ | refine bA ?_ _)); refine blk_far ?_ NB353_370.out _; (with_reducible repeat (first | refine bN ?_ _ | refine bD ?_ | refine bA ?_ _)); refine blk_far ?_ NB353_370.out _; (with_reducible repeat (first | refine bN ?_ _ | refine bD ?_ | refine bA ?_ _)); refine blk_far ?_ NB353_370.out _; (with_reducible repeat (first | refine bN ?_ _ | refine bD ?_ | refine bA ?_ _)); exact BK353.out) hb); have n4_ := aM (blk_below (g := gb370) (o := .cells #[.int .i64 t362, .int .i64 t363, .bool t364, .bool t365, .bool t366] 24 (0, 0)) (by (with_reducible repeat (first | refine bN ?_ _ | refine bD ?_ | refine bA ?_ _)); refine blk_put (cs := #[.int .i64 t362, .int .i64 t363, .bool t364, .bool t365, .bool false]) ?_ 4 _ rfl; (with_reducible repeat (first | refine bN ?_ _ | refine bD ?_ | refine bA ?_ _)); refine blk_put (cs := #[.int .i64 t362, .int .i64 t363, .bool t364, .bool false, .bool false]) ?_ 3 _ rfl; (with_reducible repeat (first | refine bN ?_ _ | refine bD ?_ | refine bA ?_ _)); refine blk_put (cs := #[.int .i64 t362, .int .i64 t363, .bool false, .bool false, .bool false]) ?_ 2 _ rfl; (with_reducible repeat (first | refine bN ?_ _ | refine bD ?_ | refine bA ?_ _)); refine blk_put (cs := #[.int .i64 t362, .int .i64 0, .bool false, .bool false, .bool false]) ?_ 1 _ rfl; (with_reducible repeat (first | refine bN ?_ _ | refine bD ?_ | refine bA ?_ _)); refine blk_put (cs := #[.int .i64 0, .int .i64 0, .bool false, .bool false, .bool false]) ?_ 0 _ rfl; (with_reducible repeat (first | refine bN ?_ _ | refine bD ?_ | refine bA ?_ _)); exact BK370.out) hb); have n5_ := aM (below_step (by repeat (first | (with_reducible first | exact HB.out | apply eA | apply eN | apply eD | refine eS ?_ GE353.out | refine eS ?_ GE370.out) | exact HB.out)) hb); clear HO361; clear HO369; clear BK353; clear BK370; clear HB; have HO361 := n0_; have HO369 := n1_; have HO373 := n2_; have BK353 := n3_; have BK370 := n4_; have HB := n5_; clear n0_ n1_ n2_ n3_ n4_ n5_; (try clear hb); (try clear hb2); (try clear hk); (try clear hi); (try clear ho0); obtain ⟨hcz22_0, hcz22_1, hcz22_2, hcz22_3, hcz22_4, hfz22_0, hfz22_1, hfz22_2, hfz22_3, hfz22_4⟩ := cells5 BK353.out) | ((with_reducible refine gate_callee (f := 14) rfl ?_); refine goesL_ (some 30) rfl rfl Try.func14 (by kernel_rfl) rfl #[.agg #[.int .i64 a0_0, .int .i64 a0_1, .bool a0_2, .bool a0_3, .bool a0_4]] rfl (by (try simp only [List.map_toArray, List.map_cons, List.map_nil]); first | done | rfl | (simp only [List.length_drop, List.length_take]; rfl)) ?_; (with_reducible refine (laws_toDoor.calls a0_0 a0_1 a0_2 a0_3 a0_4 t374 t375 t376 t377 t378 _ A9.out).mono ?_); rintro e w23 ⟨rfl, hb⟩; refine ⟨_, rfl, ?_⟩; have n0_ := aM (Kd.R_below (by (with_reducible repeat (first | apply Kd.R_alloc | apply Kd.R_drewN | apply Kd.R_drew)); exact HO361.out) hb); have n1_ := aM (Kd.R_below (by (with_reducible repeat (first | apply Kd.R_alloc | apply Kd.R_drewN | apply Kd.R_drew)); exact HO369.out) hb); have n2_ := aM (Kd.R_below (by (with_reducible repeat (first | apply Kd.R_alloc | apply Kd.R_drewN | apply Kd.R_drew)); exact HO373.out) hb); have n3_ := aM (blk_below (g := gb353) (o := .cells #[.int .i64 a0_0, .int .i64 a0_1, .bool a0_2, .bool a0_3, .bool a0_4] 23 (0, 0)) (by exact pk BK353.out) hb); have n4_ := aM (blk_below (g := gb370) (o := .cells #[.int .i64 t362, .int .i64 t363, .bool t364, .bool t365, .bool t366] 24 (0, 0)) (by exact pk BK370.out) hb); have n5_ := aM (below_step (by repeat (first | (with_reducible first | exact HB.out | apply eA | apply eN | apply eD | refine eS ?_ GE353.out | refine eS ?_ GE370.out) | exact HB.out)) hb); clear HO361; clear HO369; clear HO373; clear BK353; clear BK370; clear HB; have HO361 := n0_; have HO369 := n1_; have HO373 := n2_; have BK353 := n3_; have BK370 := n4_; have HB := n5_; clear n0_ n1_ n2_ n3_ n4_ n5_; (try clear hb); (try clear hb2); (try clear hk); (try clear hi); obtain ⟨Ao24, co24, eo24⟩ := Kd.R_slice HO373.out; subst eo24) | ((with_reducible refine gate_callee (f := 45) rfl ?_); refine goesL_ (some 32) rfl rfl Try.func45 (by kernel_rfl) rfl #[.agg #[.int .i64 t374, .int .i64 t375, .bool t376, .bool t377, .bool t378], .slice Ao24 t371.length co24] rfl (by (try simp only [List.map_toArray, List.map_cons, List.map_nil]); first | done | rfl | (simp only [List.length_drop, List.length_take]; rfl)) ?_; (with_reducible refine (impl_DoActs.calls k t374 t375 t376 t377 t378 _ _ t371 t379 t380 t381 t382 t383 t384 _ ?side1 ?side2 A10.out).mono ?_); (case side1 => repeat (first | exact (Kd.R_reads' HO373.out).2.2 | (with_reducible refine Kd.C_alloc ?_ _) | (with_reducible refine Kd.C_drewN ?_ _) | (with_reducible refine Kd.C_drew ?_))); (case side2 => exact (Kd.R_reads' HO373.out).2.1); rintro e w25 ⟨v385, rfl, ho0, hb⟩; refine ⟨_, rfl, ?_⟩; have n0_ := aM (Kd.R_elder' (by (with_reducible repeat (first | apply Kd.R_alloc | apply Kd.R_drewN | apply Kd.R_drew)); exact HO361.out) (Kd.R_base ho0) hb); have n1_ := aM (Kd.R_elder' (by (with_reducible repeat (first | apply Kd.R_alloc | apply Kd.R_drewN | apply Kd.R_drew)); exact HO369.out) (Kd.R_base ho0) hb); have n2_ := aM (Kd.R_elder' (by (with_reducible repeat (first | apply Kd.R_alloc | apply Kd.R_drewN | apply Kd.R_drew)); exact HO373.out) (Kd.R_base ho0) hb); have n3_ := aM (Kd.R_lower (Kd.R_new' (Kd.R_new' (Kd.R_new' ho0 (Kd.R_lt (by (with_reducible repeat (first | apply Kd.R_alloc | apply Kd.R_drewN | apply Kd.R_drew)); exact HO361.out))) (Kd.R_lt (by (with_reducible repeat (first | apply Kd.R_alloc | apply Kd.R_drewN | apply Kd.R_drew)); exact HO369.out))) (Kd.R_lt (by (with_reducible repeat (first | apply Kd.R_alloc | apply Kd.R_drewN | apply Kd.R_drew)); exact HO373.out))) (below_size (by repeat (first | (with_reducible first | exact HB.out | apply eA | apply eN | apply eD | refine eS ?_ GE353.out | refine eS ?_ GE370.out) | exact HB.out)))); have n4_ := aM (blk_below (g := gb353) (o := .cells #[.int .i64 a0_0, .int .i64 a0_1, .bool a0_2, .bool a0_3, .bool a0_4] 23 (0, 0)) (by exact pk BK353.out) hb); have n5_ := aM (blk_below (g := gb370) (o := .cells #[.int .i64 t362, .int .i64 t363, .bool t364, .bool t365, .bool t366] 24 (0, 0)) (by exact pk BK370.out) hb); have n6_ := aM (below_step (by repeat (first | (with_reducible first | exact HB.out | apply eA | apply eN | apply eD | refine eS ?_ GE353.out | refine eS ?_ GE370.out) | exact HB.out)) hb); clear HO361; clear HO369; clear HO373; clear BK353; clear BK370; clear HB; have HO361 := n0_; have HO369 := n1_; have HO373 := n2_; have HO386 := n3_; have BK353 := n4_; have BK370 := n5_; have HB := n6_; clear n0_ n1_ n2_ n3_ n4_ n5_ n6_; (try clear hb); (try clear hb2); (try clear hk); (try clear hi); (try clear ho0)) | ((with_reducible refine gate_dst (N := 8) rfl ?_); refine box_event ?hg (N := 8) ?hd (cs := #[.int .i64 0, .int .i64 0, .bool false, .bool false, .bool false]) (t := 24) ?hr ?_; (case hd => rfl); (case hg => rfl); (case hr => first | (go_simp; done) | (go_simp; rfl)); intro gb387 hg w26 hbox hb; have n0_ := aM (Kd.R_below (by (with_reducible repeat (first | apply Kd.R_alloc | apply Kd.R_drewN | apply Kd.R_drew)); exact HO361.out) hb); have n1_ := aM (Kd.R_below (by (with_reducible repeat (first | apply Kd.R_alloc | apply Kd.R_drewN | apply Kd.R_drew)); exact HO369.out) hb); have n2_ := aM (Kd.R_below (by (with_reducible repeat (first | apply Kd.R_alloc | apply Kd.R_drewN | apply Kd.R_drew)); exact HO373.out) hb); have n3_ := aM (Kd.R_below (by (with_reducible repeat (first | apply Kd.R_alloc | apply Kd.R_drewN | apply Kd.R_drew)); exact HO386.out) hb); have n4_ := aM (blk_below (g := gb353) (o := .cells #[.int .i64 a0_0, .int .i64 a0_1, .bool a0_2, .bool a0_3, .bool a0_4] 23 (0, 0)) (by exact pk BK353.out) hb); have n5_ := aM (blk_below (g := gb370) (o := .cells #[.int .i64 t362, .int .i64 t363, .bool t364, .bool t365, .bool t366] 24 (0, 0)) (by exact pk BK370.out) hb); have n6_ := aM (below_step (by repeat (first | (with_reducible first | exact HB.out | apply eA | apply eN | apply eD | refine eS ?_ GE353.out | refine eS ?_ GE370.out) | exact HB.out)) hb); have n7_ := aM (hbox); have n8_ := aM ((by rw [hg]; exact (below_size (by repeat (first | (with_reducible first | exact HB.out | apply eA | apply eN | apply eD | refine eS ?_ GE353.out | refine eS ?_ GE370.out) | exact HB.out))) : w.heap.size ≤ gb387)); have n9_ := aM ((by rw [hg]; exact (below_size (by repeat (first | (with_reducible first | exact HB.out | apply eA | apply eN | apply eD | refine eS ?_ GE353.out | refine eS ?_ GE370.out) | exact HB.out))) : w.heap.size ≤ gb387)); have n10_ := aM ((by rw [hg]; exact Nat.ne_of_lt (blk_lt (g := gb353) (o := .cells #[.int .i64 a0_0, .int .i64 a0_1, .bool a0_2, .bool a0_3, .bool a0_4] 23 (0, 0)) (by exact pk BK353.out)) : gb353 ≠ gb387)); have n11_ := aM ((by rw [hg]; exact Nat.ne_of_gt (blk_lt (g := gb353) (o := .cells #[.int .i64 a0_0, .int .i64 a0_1, .bool a0_2, .bool a0_3, .bool a0_4] 23 (0, 0)) (by exact pk BK353.out)) : gb387 ≠ gb353)); have n12_ := aM ((by rw [hg]; exact Nat.ne_of_lt (blk_lt (g := gb370) (o := .cells #[.int .i64 t362, .int .i64 t363, .bool t364, .bool t365, .bool t366] 24 (0, 0)) (by exact pk BK370.out)) : gb370 ≠ gb387)); have n13_ := aM ((by rw [hg]; exact Nat.ne_of_gt (blk_lt (g := gb370) (o := .cells #[.int .i64 t362, .int .i64 t363, .bool t364, .bool t365, .bool t366] 24 (0, 0)) (by exact pk BK370.out)) : gb387 ≠ gb370)); clear HO361; clear HO369; clear HO373; clear HO386; clear BK353; clear BK370; clear HB; have HO361 := n0_; have HO369 := n1_; have HO373 := n2_; have HO386 := n3_; have BK353 := n4_; have BK370 := n5_; have HB := n6_; have BK387 := n7_; have GW387 := n8_; have GE387 := n9_; have NB353_387 := n10_; have NB387_353 := n11_; have NB370_387 := n12_; have NB387_370 := n13_; clear n0_ n1_ n2_ n3_ n4_ n5_ n6_ n7_ n8_ n9_ n10_ n11_ n12_ n13_; clear hb hbox hg; have hnb27 := NB387_353.out; have hnc27 := NB353_387.out; have hnb28 := NB387_370.out; have hnc28 := NB370_387.out; obtain ⟨hcz29_0, hcz29_1, hcz29_2, hcz29_3, hcz29_4, hfz29_0, hfz29_1, hfz29_2, hfz29_3, hfz29_4⟩ := cells5 BK387.out))
  (try simp only [Act.put, List.setIfInBounds_toArray, List.set_cons_zero, List.set_cons_succ])
  go_cut [44] (fun v44 wc => ∃ (kq : Nat) (x44_10 : Bool), v44 = .bool x44_10 ∧ Aside0 (laws_FnExactDoActs.j0 kq l1 t367 t371 t384 x44_10 a0_0 a0_1 a0_2 a0_3 a0_4 t362 t363 t364 t365 t366 t379 t380 t381 t382 t383 = some r) ∧ Aside0 (kq ≤ k) ∧ Aside0 (Kd.R (Kd.int .i64) 3 wc w.heap.size (fun k_ => some k_ ≠ ((.slice Ao24 t371.length co24) : Value).ownBlock ∧ some k_ ≠ (v385 : Value).ownBlock) v368 t367) ∧ Aside0 (Kd.R (Kd.int .i64) 3 wc w.heap.size (fun k_ => some k_ ≠ (v368 : Value).ownBlock ∧ some k_ ≠ (v385 : Value).ownBlock) (.slice Ao24 t371.length co24) t371) ∧ Aside0 (Kd.R (Kd.int .i64) 3 wc w.heap.size (fun k_ => some k_ ≠ (v368 : Value).ownBlock ∧ some k_ ≠ ((.slice Ao24 t371.length co24) : Value).ownBlock) v385 t384) ∧ Aside0 (wc.heap[gb353]? = some (.cells #[.int .i64 a0_0, .int .i64 a0_1, .bool a0_2, .bool a0_3, .bool a0_4] 23 (0, 0))) ∧ Aside0 (wc.heap[gb370]? = some (.cells #[.int .i64 t362, .int .i64 t363, .bool t364, .bool t365, .bool t366] 24 (0, 0))) ∧ Aside0 (wc.heap[gb387]? = some (.cells #[.int .i64 t379, .int .i64 t380, .bool t381, .bool t382, .bool t383] 24 (0, 0))) ∧ Aside0 (Below w.heap.size w wc))
  case first =>
   have H := HC11.out
   clear HC11
   replace H := Option.bind_eq_some_iff.mp H
   obtain ⟨t388, A300, H⟩ := H
   replace H : (if t388 = true then ((laws_eqIntS.f k t384 t367).bind fun t389 => (laws_FnExactDoActs.j0 k l1 t367 t371 t384 (!t389) a0_0 a0_1 a0_2 a0_3 a0_4 t362 t363 t364 t365 t366 t379 t380 t381 t382 t383)) else (laws_FnExactDoActs.j0 k l1 t367 t371 t384 true a0_0 a0_1 a0_2 a0_3 a0_4 t362 t363 t364 t365 t366 t379 t380 t381 t382 t383)) = some r := H
   have A30 := aM A300
   clear A300
   by_cases c31 : t388 = true
   ·subst c31
    have H1 : ((laws_eqIntS.f k t384 t367).bind fun t389 => (laws_FnExactDoActs.j0 k l1 t367 t371 t384 (!t389) a0_0 a0_1 a0_2 a0_3 a0_4 t362 t363 t364 t365 t366 t379 t380 t381 t382 t383)) = some r := by rw [if_pos rfl] at H; exact H
    clear H
    have H := H1
    clear H1
    replace H := Option.bind_eq_some_iff.mp H
    obtain ⟨t389, A320, H⟩ := H
    replace H : (laws_FnExactDoActs.j0 k l1 t367 t371 t384 (!t389) a0_0 a0_1 a0_2 a0_3 a0_4 t362 t363 t364 t365 t366 t379 t380 t381 t382 t383) = some r := H
    have A32 := aM A320
    clear A320
    have H' := aM H
    clear H
    have hnb33 := NB387_353.out
    have hnc33 := NB353_387.out
    have hnb34 := NB387_370.out
    have hnc34 := NB370_387.out
    obtain ⟨hcz35_0, hcz35_1, hcz35_2, hcz35_3, hcz35_4, hfz35_0, hfz35_1, hfz35_2, hfz35_3, hfz35_4⟩ := cells5 BK387.out
    have hnb36 := NB370_353.out
    have hnc36 := NB353_370.out
    obtain ⟨hcz37_0, hcz37_1, hcz37_2, hcz37_3, hcz37_4, hfz37_0, hfz37_1, hfz37_2, hfz37_3, hfz37_4⟩ := cells5 BK370.out
    go_wp2_with (first | ((with_reducible refine gate_callee (f := 16) rfl ?_); refine goesL_ (some 37) rfl rfl Try.func16 (by kernel_rfl) rfl #[.agg #[.int .i64 t379, .int .i64 t380, .bool t381, .bool t382, .bool t383], .agg #[.int .i64 t362, .int .i64 t363, .bool t364, .bool t365, .bool t366]] rfl (by (try simp only [List.map_toArray, List.map_cons, List.map_nil]); first | done | rfl | (simp only [List.length_drop, List.length_take]; rfl)) ?_; (with_reducible refine (laws_eqDoor.calls t379 t380 t381 t382 t383 t362 t363 t364 t365 t366 true _ A30.out).mono ?_); rintro e w38 ⟨rfl, hb⟩; refine ⟨_, rfl, ?_⟩; have n0_ := aM (Kd.R_below (by (with_reducible repeat (first | apply Kd.R_alloc | apply Kd.R_drewN | apply Kd.R_drew)); exact (Kd.R_mono (Kd.R_far (p := ⟨gb387, 4, none⟩) (Kd.R_far (p := ⟨gb387, 3, none⟩) (Kd.R_far (p := ⟨gb387, 2, none⟩) (Kd.R_far (p := ⟨gb387, 1, none⟩) (Kd.R_far (p := ⟨gb387, 0, none⟩) (Kd.R_types HO361.out BK387.out (by decide)) (fun _ hk => hk.2) (.int .i64 t379)) (fun _ hk => hk.2) (.int .i64 t380)) (fun _ hk => hk.2) (.bool t381)) (fun _ hk => hk.2) (.bool t382)) (fun _ hk => hk.2) (.bool t383)) (fun _ h_ => h_.1))) hb); have n1_ := aM (Kd.R_below (by (with_reducible repeat (first | apply Kd.R_alloc | apply Kd.R_drewN | apply Kd.R_drew)); exact (Kd.R_mono (Kd.R_far (p := ⟨gb387, 4, none⟩) (Kd.R_far (p := ⟨gb387, 3, none⟩) (Kd.R_far (p := ⟨gb387, 2, none⟩) (Kd.R_far (p := ⟨gb387, 1, none⟩) (Kd.R_far (p := ⟨gb387, 0, none⟩) (Kd.R_types HO369.out BK387.out (by decide)) (fun _ hk => hk.2) (.int .i64 t379)) (fun _ hk => hk.2) (.int .i64 t380)) (fun _ hk => hk.2) (.bool t381)) (fun _ hk => hk.2) (.bool t382)) (fun _ hk => hk.2) (.bool t383)) (fun _ h_ => h_.1))) hb); have n2_ := aM (Kd.R_below (by (with_reducible repeat (first | apply Kd.R_alloc | apply Kd.R_drewN | apply Kd.R_drew)); exact (Kd.R_mono (Kd.R_far (p := ⟨gb387, 4, none⟩) (Kd.R_far (p := ⟨gb387, 3, none⟩) (Kd.R_far (p := ⟨gb387, 2, none⟩) (Kd.R_far (p := ⟨gb387, 1, none⟩) (Kd.R_far (p := ⟨gb387, 0, none⟩) (Kd.R_types HO373.out BK387.out (by decide)) (fun _ hk => hk.2) (.int .i64 t379)) (fun _ hk => hk.2) (.int .i64 t380)) (fun _ hk => hk.2) (.bool t381)) (fun _ hk => hk.2) (.bool t382)) (fun _ hk => hk.2) (.bool t383)) (fun _ h_ => h_.1))) hb); have n3_ := aM (Kd.R_below (by (with_reducible repeat (first | apply Kd.R_alloc | apply Kd.R_drewN | apply Kd.R_drew)); exact (Kd.R_mono (Kd.R_far (p := ⟨gb387, 4, none⟩) (Kd.R_far (p := ⟨gb387, 3, none⟩) (Kd.R_far (p := ⟨gb387, 2, none⟩) (Kd.R_far (p := ⟨gb387, 1, none⟩) (Kd.R_far (p := ⟨gb387, 0, none⟩) (Kd.R_types HO386.out BK387.out (by decide)) (fun _ hk => hk.2) (.int .i64 t379)) (fun _ hk => hk.2) (.int .i64 t380)) (fun _ hk => hk.2) (.bool t381)) (fun _ hk => hk.2) (.bool t382)) (fun _ hk => hk.2) (.bool t383)) (fun _ h_ => h_.1))) hb); have n4_ := aM (blk_below (g := gb353) (o := .cells #[.int .i64 a0_0, .int .i64 a0_1, .bool a0_2, .bool a0_3, .bool a0_4] 23 (0, 0)) (by (with_reducible repeat (first | refine bN ?_ _ | refine bD ?_ | refine bA ?_ _)); refine blk_far ?_ NB353_387.out _; (with_reducible repeat (first | refine bN ?_ _ | refine bD ?_ | refine bA ?_ _)); refine blk_far ?_ NB353_387.out _; (with_reducible repeat (first | refine bN ?_ _ | refine bD ?_ | refine bA ?_ _)); refine blk_far ?_ NB353_387.out _; (with_reducible repeat (first | refine bN ?_ _ | refine bD ?_ | refine bA ?_ _)); refine blk_far ?_ NB353_387.out _; (with_reducible repeat (first | refine bN ?_ _ | refine bD ?_ | refine bA ?_ _)); refine blk_far ?_ NB353_387.out _; (with_reducible repeat (first | refine bN ?_ _ | refine bD ?_ | refine bA ?_ _)); exact BK353.out) hb); have n5_ := aM (blk_below (g := gb370) (o := .cells #[.int .i64 t362, .int .i64 t363, .bool t364, .bool t365, .bool t366] 24 (0, 0)) (by (with_reducible repeat (first | refine bN ?_ _ | refine bD ?_ | refine bA ?_ _)); refine blk_far ?_ NB370_387.out _; (with_reducible repeat (first | refine bN ?_ _ | refine bD ?_ | refine bA ?_ _)); refine blk_far ?_ NB370_387.out _; (with_reducible repeat (first | refine bN ?_ _ | refine bD ?_ | refine bA ?_ _)); refine blk_far ?_ NB370_387.out _; (with_reducible repeat (first | refine bN ?_ _ | refine bD ?_ | refine bA ?_ _)); refine blk_far ?_ NB370_387.out _; (with_reducible repeat (first | refine bN ?_ _ | refine bD ?_ | refine bA ?_ _)); refine blk_far ?_ NB370_387.out _; (with_reducible repeat (first | refine bN ?_ _ | refine bD ?_ | refine bA ?_ _)); exact BK370.out) hb); have n6_ := aM (blk_below (g := gb387) (o := .cells #[.int .i64 t379, .int .i64 t380, .bool t381, .bool t382, .bool t383] 24 (0, 0)) (by (with_reducible repeat (first | refine bN ?_ _ | refine bD ?_ | refine bA ?_ _)); refine blk_put (cs := #[.int .i64 t379, .int .i64 t380, .bool t381, .bool t382, .bool false]) ?_ 4 _ rfl; (with_reducible repeat (first | refine bN ?_ _ | refine bD ?_ | refine bA ?_ _)); refine blk_put (cs := #[.int .i64 t379, .int .i64 t380, .bool t381, .bool false, .bool false]) ?_ 3 _ rfl; (with_reducible repeat (first | refine bN ?_ _ | refine bD ?_ | refine bA ?_ _)); refine blk_put (cs := #[.int .i64 t379, .int .i64 t380, .bool false, .bool false, .bool false]) ?_ 2 _ rfl; (with_reducible repeat (first | refine bN ?_ _ | refine bD ?_ | refine bA ?_ _)); refine blk_put (cs := #[.int .i64 t379, .int .i64 0, .bool false, .bool false, .bool false]) ?_ 1 _ rfl; (with_reducible repeat (first | refine bN ?_ _ | refine bD ?_ | refine bA ?_ _)); refine blk_put (cs := #[.int .i64 0, .int .i64 0, .bool false, .bool false, .bool false]) ?_ 0 _ rfl; (with_reducible repeat (first | refine bN ?_ _ | refine bD ?_ | refine bA ?_ _)); exact BK387.out) hb); have n7_ := aM (below_step (by repeat (first | (with_reducible first | exact HB.out | apply eA | apply eN | apply eD | refine eS ?_ GE353.out | refine eS ?_ GE370.out | refine eS ?_ GE387.out) | exact HB.out)) hb); clear HO361; clear HO369; clear HO373; clear HO386; clear BK353; clear BK370; clear BK387; clear HB; have HO361 := n0_; have HO369 := n1_; have HO373 := n2_; have HO386 := n3_; have BK353 := n4_; have BK370 := n5_; have BK387 := n6_; have HB := n7_; clear n0_ n1_ n2_ n3_ n4_ n5_ n6_ n7_; (try clear hb); (try clear hb2); (try clear hk); (try clear hi); obtain ⟨Ao39, co39, eo39⟩ := Kd.R_slice HO386.out; subst eo39; obtain ⟨Ao40, co40, eo40⟩ := Kd.R_slice HO369.out; subst eo40) | (go_at_call 46; (with_reducible refine (laws_eqIntS.calls k _ _ t384 _ _ t367 t389 _ ?side1 ?side2 ?side3 ?side4 A32.out).mono ?_); (case side1 => repeat (first | exact (Kd.R_reads' HO386.out).2.2 | (with_reducible refine Kd.C_alloc ?_ _) | (with_reducible refine Kd.C_drewN ?_ _) | (with_reducible refine Kd.C_drew ?_))); (case side2 => exact (Kd.R_reads' HO386.out).2.1); (case side3 => repeat (first | exact (Kd.R_reads' HO369.out).2.2 | (with_reducible refine Kd.C_alloc ?_ _) | (with_reducible refine Kd.C_drewN ?_ _) | (with_reducible refine Kd.C_drew ?_))); (case side4 => exact (Kd.R_reads' HO369.out).2.1); rintro e w' ⟨rfl, ⟨nd, rfl⟩⟩))
    go_meet
    case rel => exact ⟨_, (!t389), (by first | rfl | (simp; done) | (simp [*]; done)), H', ⟨by first | omega | exact Nat.le_refl _⟩, ⟨by (with_reducible repeat (first | apply Kd.R_alloc | apply Kd.R_drewN | apply Kd.R_drew)); exact Kd.R_mono HO369.out (fun _ hk => ⟨hk.1.2, hk.2⟩)⟩, ⟨by (with_reducible repeat (first | apply Kd.R_alloc | apply Kd.R_drewN | apply Kd.R_drew)); exact Kd.R_mono HO373.out (fun _ hk => ⟨hk.1.2, hk.2⟩)⟩, ⟨by (with_reducible repeat (first | apply Kd.R_alloc | apply Kd.R_drewN | apply Kd.R_drew)); exact Kd.R_mono HO386.out (fun _ hk => ⟨hk.1.2, hk.2⟩)⟩, ⟨by exact pk BK353.out⟩, ⟨by exact pk BK370.out⟩, ⟨by exact pk BK387.out⟩, ⟨by repeat (first | (with_reducible first | exact HB.out | apply eA | apply eN | apply eD | refine eS ?_ GE353.out | refine eS ?_ GE370.out | refine eS ?_ GE387.out) | exact HB.out)⟩⟩
   ·replace c31 := Bool.eq_false_iff.mpr c31
    subst c31
    have H1 : (laws_FnExactDoActs.j0 k l1 t367 t371 t384 true a0_0 a0_1 a0_2 a0_3 a0_4 t362 t363 t364 t365 t366 t379 t380 t381 t382 t383) = some r := by rw [if_neg (show ¬ (false = true) by decide)] at H; exact H
    clear H
    have H := H1
    clear H1
    have H' := aM H
    clear H
    have hnb41 := NB387_353.out
    have hnc41 := NB353_387.out
    have hnb42 := NB387_370.out
    have hnc42 := NB370_387.out
    obtain ⟨hcz43_0, hcz43_1, hcz43_2, hcz43_3, hcz43_4, hfz43_0, hfz43_1, hfz43_2, hfz43_3, hfz43_4⟩ := cells5 BK387.out
    have hnb44 := NB370_353.out
    have hnc44 := NB353_370.out
    obtain ⟨hcz45_0, hcz45_1, hcz45_2, hcz45_3, hcz45_4, hfz45_0, hfz45_1, hfz45_2, hfz45_3, hfz45_4⟩ := cells5 BK370.out
    go_wp2_with (first | ((with_reducible refine gate_callee (f := 16) rfl ?_); refine goesL_ (some 37) rfl rfl Try.func16 (by kernel_rfl) rfl #[.agg #[.int .i64 t379, .int .i64 t380, .bool t381, .bool t382, .bool t383], .agg #[.int .i64 t362, .int .i64 t363, .bool t364, .bool t365, .bool t366]] rfl (by (try simp only [List.map_toArray, List.map_cons, List.map_nil]); first | done | rfl | (simp only [List.length_drop, List.length_take]; rfl)) ?_; (with_reducible refine (laws_eqDoor.calls t379 t380 t381 t382 t383 t362 t363 t364 t365 t366 false _ A30.out).mono ?_); rintro e w46 ⟨rfl, hb⟩; refine ⟨_, rfl, ?_⟩; have n0_ := aM (Kd.R_below (by (with_reducible repeat (first | apply Kd.R_alloc | apply Kd.R_drewN | apply Kd.R_drew)); exact (Kd.R_mono (Kd.R_far (p := ⟨gb387, 4, none⟩) (Kd.R_far (p := ⟨gb387, 3, none⟩) (Kd.R_far (p := ⟨gb387, 2, none⟩) (Kd.R_far (p := ⟨gb387, 1, none⟩) (Kd.R_far (p := ⟨gb387, 0, none⟩) (Kd.R_types HO361.out BK387.out (by decide)) (fun _ hk => hk.2) (.int .i64 t379)) (fun _ hk => hk.2) (.int .i64 t380)) (fun _ hk => hk.2) (.bool t381)) (fun _ hk => hk.2) (.bool t382)) (fun _ hk => hk.2) (.bool t383)) (fun _ h_ => h_.1))) hb); have n1_ := aM (Kd.R_below (by (with_reducible repeat (first | apply Kd.R_alloc | apply Kd.R_drewN | apply Kd.R_drew)); exact (Kd.R_mono (Kd.R_far (p := ⟨gb387, 4, none⟩) (Kd.R_far (p := ⟨gb387, 3, none⟩) (Kd.R_far (p := ⟨gb387, 2, none⟩) (Kd.R_far (p := ⟨gb387, 1, none⟩) (Kd.R_far (p := ⟨gb387, 0, none⟩) (Kd.R_types HO369.out BK387.out (by decide)) (fun _ hk => hk.2) (.int .i64 t379)) (fun _ hk => hk.2) (.int .i64 t380)) (fun _ hk => hk.2) (.bool t381)) (fun _ hk => hk.2) (.bool t382)) (fun _ hk => hk.2) (.bool t383)) (fun _ h_ => h_.1))) hb); have n2_ := aM (Kd.R_below (by (with_reducible repeat (first | apply Kd.R_alloc | apply Kd.R_drewN | apply Kd.R_drew)); exact (Kd.R_mono (Kd.R_far (p := ⟨gb387, 4, none⟩) (Kd.R_far (p := ⟨gb387, 3, none⟩) (Kd.R_far (p := ⟨gb387, 2, none⟩) (Kd.R_far (p := ⟨gb387, 1, none⟩) (Kd.R_far (p := ⟨gb387, 0, none⟩) (Kd.R_types HO373.out BK387.out (by decide)) (fun _ hk => hk.2) (.int .i64 t379)) (fun _ hk => hk.2) (.int .i64 t380)) (fun _ hk => hk.2) (.bool t381)) (fun _ hk => hk.2) (.bool t382)) (fun _ hk => hk.2) (.bool t383)) (fun _ h_ => h_.1))) hb); have n3_ := aM (Kd.R_below (by (with_reducible repeat (first | apply Kd.R_alloc | apply Kd.R_drewN | apply Kd.R_drew)); exact (Kd.R_mono (Kd.R_far (p := ⟨gb387, 4, none⟩) (Kd.R_far (p := ⟨gb387, 3, none⟩) (Kd.R_far (p := ⟨gb387, 2, none⟩) (Kd.R_far (p := ⟨gb387, 1, none⟩) (Kd.R_far (p := ⟨gb387, 0, none⟩) (Kd.R_types HO386.out BK387.out (by decide)) (fun _ hk => hk.2) (.int .i64 t379)) (fun _ hk => hk.2) (.int .i64 t380)) (fun _ hk => hk.2) (.bool t381)) (fun _ hk => hk.2) (.bool t382)) (fun _ hk => hk.2) (.bool t383)) (fun _ h_ => h_.1))) hb); have n4_ := aM (blk_below (g := gb353) (o := .cells #[.int .i64 a0_0, .int .i64 a0_1, .bool a0_2, .bool a0_3, .bool a0_4] 23 (0, 0)) (by (with_reducible repeat (first | refine bN ?_ _ | refine bD ?_ | refine bA ?_ _)); refine blk_far ?_ NB353_387.out _; (with_reducible repeat (first | refine bN ?_ _ | refine bD ?_ | refine bA ?_ _)); refine blk_far ?_ NB353_387.out _; (with_reducible repeat (first | refine bN ?_ _ | refine bD ?_ | refine bA ?_ _)); refine blk_far ?_ NB353_387.out _; (with_reducible repeat (first | refine bN ?_ _ | refine bD ?_ | refine bA ?_ _)); refine blk_far ?_ NB353_387.out _; (with_reducible repeat (first | refine bN ?_ _ | refine bD ?_ | refine bA ?_ _)); refine blk_far ?_ NB353_387.out _; (with_reducible repeat (first | refine bN ?_ _ | refine bD ?_ | refine bA ?_ _)); exact BK353.out) hb); have n5_ := aM (blk_below (g := gb370) (o := .cells #[.int .i64 t362, .int .i64 t363, .bool t364, .bool t365, .bool t366] 24 (0, 0)) (by (with_reducible repeat (first | refine bN ?_ _ | refine bD ?_ | refine bA ?_ _)); refine blk_far ?_ NB370_387.out _; (with_reducible repeat (first | refine bN ?_ _ | refine bD ?_ | refine bA ?_ _)); refine blk_far ?_ NB370_387.out _; (with_reducible repeat (first | refine bN ?_ _ | refine bD ?_ | refine bA ?_ _)); refine blk_far ?_ NB370_387.out _; (with_reducible repeat (first | refine bN ?_ _ | refine bD ?_ | refine bA ?_ _)); refine blk_far ?_ NB370_387.out _; (with_reducible repeat (first | refine bN ?_ _ | refine bD ?_ | refine bA ?_ _)); refine blk_far ?_ NB370_387.out _; (with_reducible repeat (first | refine bN ?_ _ | refine bD ?_ | refine bA ?_ _)); exact BK370.out) hb); have n6_ := aM (blk_below (g := gb387) (o := .cells #[.int .i64 t379, .int .i64 t380, .bool t381, .bool t382, .bool t383] 24 (0, 0)) (by (with_reducible repeat (first | refine bN ?_ _ | refine bD ?_ | refine bA ?_ _)); refine blk_put (cs := #[.int .i64 t379, .int .i64 t380, .bool t381, .bool t382, .bool false]) ?_ 4 _ rfl; (with_reducible repeat (first | refine bN ?_ _ | refine bD ?_ | refine bA ?_ _)); refine blk_put (cs := #[.int .i64 t379, .int .i64 t380, .bool t381, .bool false, .bool false]) ?_ 3 _ rfl; (with_reducible repeat (first | refine bN ?_ _ | refine bD ?_ | refine bA ?_ _)); refine blk_put (cs := #[.int .i64 t379, .int .i64 t380, .bool false, .bool false, .bool false]) ?_ 2 _ rfl; (with_reducible repeat (first | refine bN ?_ _ | refine bD ?_ | refine bA ?_ _)); refine blk_put (cs := #[.int .i64 t379, .int .i64 0, .bool false, .bool false, .bool false]) ?_ 1 _ rfl; (with_reducible repeat (first | refine bN ?_ _ | refine bD ?_ | refine bA ?_ _)); refine blk_put (cs := #[.int .i64 0, .int .i64 0, .bool false, .bool false, .bool false]) ?_ 0 _ rfl; (with_reducible repeat (first | refine bN ?_ _ | refine bD ?_ | refine bA ?_ _)); exact BK387.out) hb); have n7_ := aM (below_step (by repeat (first | (with_reducible first | exact HB.out | apply eA | apply eN | apply eD | refine eS ?_ GE353.out | refine eS ?_ GE370.out | refine eS ?_ GE387.out) | exact HB.out)) hb); clear HO361; clear HO369; clear HO373; clear HO386; clear BK353; clear BK370; clear BK387; clear HB; have HO361 := n0_; have HO369 := n1_; have HO373 := n2_; have HO386 := n3_; have BK353 := n4_; have BK370 := n5_; have BK387 := n6_; have HB := n7_; clear n0_ n1_ n2_ n3_ n4_ n5_ n6_ n7_; (try clear hb); (try clear hb2); (try clear hk); (try clear hi)))
    go_meet
    case rel => exact ⟨_, (true), (by first | rfl | (simp; done) | (simp [*]; done)), H', ⟨by first | omega | exact Nat.le_refl _⟩, ⟨by (with_reducible repeat (first | apply Kd.R_alloc | apply Kd.R_drewN | apply Kd.R_drew)); exact Kd.R_mono HO369.out (fun _ hk => ⟨hk.1.2, hk.2⟩)⟩, ⟨by (with_reducible repeat (first | apply Kd.R_alloc | apply Kd.R_drewN | apply Kd.R_drew)); exact Kd.R_mono HO373.out (fun _ hk => ⟨hk.1.2, hk.2⟩)⟩, ⟨by (with_reducible repeat (first | apply Kd.R_alloc | apply Kd.R_drewN | apply Kd.R_drew)); exact Kd.R_mono HO386.out (fun _ hk => ⟨hk.1.2, hk.2⟩)⟩, ⟨by exact pk BK353.out⟩, ⟨by exact pk BK370.out⟩, ⟨by exact pk BK387.out⟩, ⟨by repeat (first | (with_reducible first | exact HB.out | apply eA | apply eN | apply eD | refine eS ?_ GE353.out | refine eS ?_ GE370.out | refine eS ?_ GE387.out) | exact HB.out)⟩⟩
  case rest =>
   clear HC11
   try clear c1
   try clear c2
   try clear p2
   try clear c3
   try clear c3b0
   try clear c3b1
   try clear c4
   try clear c11
   try clear c14
   try clear c16
   try clear c19
   try clear c27
   try clear c28
   try clear c31
   try clear c33
   try clear c34
   try clear c36
   try clear c41
   try clear c42
   try clear c43
   try clear c44
   try clear c45
   try clear hcz13_0 hcz13_1 hcz13_2 hcz13_3 hcz13_4 hfz13_0 hfz13_1 hfz13_2 hfz13_3 hfz13_4
   try clear hcz20_0 hcz20_1 hcz20_2 hcz20_3 hcz20_4 hfz20_0 hfz20_1 hfz20_2 hfz20_3 hfz20_4
   try clear hcz22_0 hcz22_1 hcz22_2 hcz22_3 hcz22_4 hfz22_0 hfz22_1 hfz22_2 hfz22_3 hfz22_4
   try clear hcz29_0 hcz29_1 hcz29_2 hcz29_3 hcz29_4 hfz29_0 hfz29_1 hfz29_2 hfz29_3 hfz29_4
   try clear hcz35_0 hcz35_1 hcz35_2 hcz35_3 hcz35_4 hfz35_0 hfz35_1 hfz35_2 hfz35_3 hfz35_4
   try clear hcz37_0 hcz37_1 hcz37_2 hcz37_3 hcz37_4 hfz37_0 hfz37_1 hfz37_2 hfz37_3 hfz37_4
   try clear hcz43_0 hcz43_1 hcz43_2 hcz43_3 hcz43_4 hfz43_0 hfz43_1 hfz43_2 hfz43_3 hfz43_4
   try clear hcz45_0 hcz45_1 hcz45_2 hcz45_3 hcz45_4 hfz45_0 hfz45_1 hfz45_2 hfz45_3 hfz45_4
   obtain ⟨kq, x44_10, rfl, HA, HJ10, HO_6, HO_7, HO_9, BK353, BK370, BK387, HB⟩ := hcut
   cases kq with
   | zero => exact absurd HA.out (by simp [laws_FnExactDoActs.j0])
   | succ kj10 =>
    have H := HA.out
    clear HA
    simp only [laws_FnExactDoActs.j0] at H
    by_cases c47 : x44_10 = true
    ·subst c47
     have H1 : (none) = some r := by rw [if_pos rfl] at H; exact H
     clear H
     have H := H1
     clear H1
     exact absurd H (by simp)
    ·replace c47 := Bool.eq_false_iff.mpr c47
     subst c47
     have H1 : ((laws_toIntS.f kj10 l1).bind fun t390 => ((laws_eqIntS.f kj10 t371 t390).bind fun t393 => (if t393 = true then ((laws_markIntS.f kj10 t371 1).bind fun bt394 => (if bt394.1 < 0 then (laws_FnExactDoActs.j1 kj10 l1 t367 t384 true a0_0 a0_1 a0_2 a0_3 a0_4 t362 t363 t364 t365 t366) else ((laws_eqDoor.f t379 t380 t381 t382 t383 t362 t363 t364 t365 t366).bind fun t396 => (if t396 = true then ((laws_eqIntS.f kj10 t384 t367).bind fun t397 => (laws_FnExactDoActs.j1 kj10 l1 t367 t384 (!t397) a0_0 a0_1 a0_2 a0_3 a0_4 t362 t363 t364 t365 t366)) else (laws_FnExactDoActs.j1 kj10 l1 t367 t384 true a0_0 a0_1 a0_2 a0_3 a0_4 t362 t363 t364 t365 t366))))) else (none)))) = some r := by rw [if_neg (show ¬ (false = true) by decide)] at H; exact H
     clear H
     have H := H1
     clear H1
     replace H := Option.bind_eq_some_iff.mp H
     obtain ⟨t390, A480, H⟩ := H
     replace H : ((laws_eqIntS.f kj10 t371 t390).bind fun t393 => (if t393 = true then ((laws_markIntS.f kj10 t371 1).bind fun bt394 => (if bt394.1 < 0 then (laws_FnExactDoActs.j1 kj10 l1 t367 t384 true a0_0 a0_1 a0_2 a0_3 a0_4 t362 t363 t364 t365 t366) else ((laws_eqDoor.f t379 t380 t381 t382 t383 t362 t363 t364 t365 t366).bind fun t396 => (if t396 = true then ((laws_eqIntS.f kj10 t384 t367).bind fun t397 => (laws_FnExactDoActs.j1 kj10 l1 t367 t384 (!t397) a0_0 a0_1 a0_2 a0_3 a0_4 t362 t363 t364 t365 t366)) else (laws_FnExactDoActs.j1 kj10 l1 t367 t384 true a0_0 a0_1 a0_2 a0_3 a0_4 t362 t363 t364 t365 t366))))) else (none))) = some r := H
     have A48 := aM A480
     clear A480
     replace H := Option.bind_eq_some_iff.mp H
     obtain ⟨t393, A490, H⟩ := H
     replace H : (if t393 = true then ((laws_markIntS.f kj10 t371 1).bind fun bt394 => (if bt394.1 < 0 then (laws_FnExactDoActs.j1 kj10 l1 t367 t384 true a0_0 a0_1 a0_2 a0_3 a0_4 t362 t363 t364 t365 t366) else ((laws_eqDoor.f t379 t380 t381 t382 t383 t362 t363 t364 t365 t366).bind fun t396 => (if t396 = true then ((laws_eqIntS.f kj10 t384 t367).bind fun t397 => (laws_FnExactDoActs.j1 kj10 l1 t367 t384 (!t397) a0_0 a0_1 a0_2 a0_3 a0_4 t362 t363 t364 t365 t366)) else (laws_FnExactDoActs.j1 kj10 l1 t367 t384 true a0_0 a0_1 a0_2 a0_3 a0_4 t362 t363 t364 t365 t366))))) else (none)) = some r := H
     have A49 := aM A490
     clear A490
     by_cases c50 : t393 = true
     ·subst c50
      have H1 : ((laws_markIntS.f kj10 t371 1).bind fun bt394 => (if bt394.1 < 0 then (laws_FnExactDoActs.j1 kj10 l1 t367 t384 true a0_0 a0_1 a0_2 a0_3 a0_4 t362 t363 t364 t365 t366) else ((laws_eqDoor.f t379 t380 t381 t382 t383 t362 t363 t364 t365 t366).bind fun t396 => (if t396 = true then ((laws_eqIntS.f kj10 t384 t367).bind fun t397 => (laws_FnExactDoActs.j1 kj10 l1 t367 t384 (!t397) a0_0 a0_1 a0_2 a0_3 a0_4 t362 t363 t364 t365 t366)) else (laws_FnExactDoActs.j1 kj10 l1 t367 t384 true a0_0 a0_1 a0_2 a0_3 a0_4 t362 t363 t364 t365 t366))))) = some r := by rw [if_pos rfl] at H; exact H
      clear H
      have H := H1
      clear H1
      replace H := Option.bind_eq_some_iff.mp H
      obtain ⟨⟨t394, t395⟩, A510, H⟩ := H
      replace H : (if t394 < 0 then (laws_FnExactDoActs.j1 kj10 l1 t367 t384 true a0_0 a0_1 a0_2 a0_3 a0_4 t362 t363 t364 t365 t366) else ((laws_eqDoor.f t379 t380 t381 t382 t383 t362 t363 t364 t365 t366).bind fun t396 => (if t396 = true then ((laws_eqIntS.f kj10 t384 t367).bind fun t397 => (laws_FnExactDoActs.j1 kj10 l1 t367 t384 (!t397) a0_0 a0_1 a0_2 a0_3 a0_4 t362 t363 t364 t365 t366)) else (laws_FnExactDoActs.j1 kj10 l1 t367 t384 true a0_0 a0_1 a0_2 a0_3 a0_4 t362 t363 t364 t365 t366)))) = some r := H
      have A51 := aM A510
      clear A510
      have HC52 := aM H
      clear H
      go_upto_region 12 with (first | ((with_reducible refine gate_callee (f := 44) rfl ?_); refine goesL_ (some 47) rfl rfl Try.func44 (by kernel_rfl) rfl #[.slice A1 l1.length c1] rfl (by (try simp only [List.map_toArray, List.map_cons, List.map_nil]); first | done | rfl | (simp only [List.length_drop, List.length_take]; rfl)) ?_; (with_reducible refine (laws_toIntS.calls kj10 _ _ l1 t390 _ ?side1 ?side2 A48.out).mono ?_); (case side1 => repeat (first | exact (Kd.C_below HR1.out HB.out) | (with_reducible refine Kd.C_alloc ?_ _) | (with_reducible refine Kd.C_drewN ?_ _) | (with_reducible refine Kd.C_drew ?_))); (case side2 => exact HC1.out); rintro e w53 ⟨v391, rfl, ho0, hb⟩; refine ⟨_, rfl, ?_⟩; have n0_ := aM (Kd.R_elder' (by (with_reducible repeat (first | apply Kd.R_alloc | apply Kd.R_drewN | apply Kd.R_drew)); exact HO_6.out) (Kd.R_base ho0) hb); have n1_ := aM (Kd.R_elder' (by (with_reducible repeat (first | apply Kd.R_alloc | apply Kd.R_drewN | apply Kd.R_drew)); exact HO_7.out) (Kd.R_base ho0) hb); have n2_ := aM (Kd.R_elder' (by (with_reducible repeat (first | apply Kd.R_alloc | apply Kd.R_drewN | apply Kd.R_drew)); exact HO_9.out) (Kd.R_base ho0) hb); have n3_ := aM (Kd.R_lower (Kd.R_new' (Kd.R_new' (Kd.R_new' ho0 (Kd.R_lt (by (with_reducible repeat (first | apply Kd.R_alloc | apply Kd.R_drewN | apply Kd.R_drew)); exact HO_6.out))) (Kd.R_lt (by (with_reducible repeat (first | apply Kd.R_alloc | apply Kd.R_drewN | apply Kd.R_drew)); exact HO_7.out))) (Kd.R_lt (by (with_reducible repeat (first | apply Kd.R_alloc | apply Kd.R_drewN | apply Kd.R_drew)); exact HO_9.out))) (below_size (by repeat (first | (with_reducible first | exact HB.out | apply eA | apply eN | apply eD | refine eS ?_ GE353.out | refine eS ?_ GE370.out | refine eS ?_ GE387.out) | exact HB.out)))); have n4_ := aM (blk_below (g := gb353) (o := .cells #[.int .i64 a0_0, .int .i64 a0_1, .bool a0_2, .bool a0_3, .bool a0_4] 23 (0, 0)) (by exact pk BK353.out) hb); have n5_ := aM (blk_below (g := gb370) (o := .cells #[.int .i64 t362, .int .i64 t363, .bool t364, .bool t365, .bool t366] 24 (0, 0)) (by exact pk BK370.out) hb); have n6_ := aM (blk_below (g := gb387) (o := .cells #[.int .i64 t379, .int .i64 t380, .bool t381, .bool t382, .bool t383] 24 (0, 0)) (by exact pk BK387.out) hb); have n7_ := aM (below_step (by repeat (first | (with_reducible first | exact HB.out | apply eA | apply eN | apply eD | refine eS ?_ GE353.out | refine eS ?_ GE370.out | refine eS ?_ GE387.out) | exact HB.out)) hb); clear HO_6; clear HO_7; clear HO_9; clear BK353; clear BK370; clear BK387; clear HB; have HO_6 := n0_; have HO_7 := n1_; have HO_9 := n2_; have HO392 := n3_; have BK353 := n4_; have BK370 := n5_; have BK387 := n6_; have HB := n7_; clear n0_ n1_ n2_ n3_ n4_ n5_ n6_ n7_; (try clear hb); (try clear hb2); (try clear hk); (try clear hi); (try clear ho0); obtain ⟨Ao54, co54, eo54⟩ := Kd.R_slice HO392.out; subst eo54) | ((with_reducible refine gate_callee (f := 46) rfl ?_); refine goesL_ (some 48) rfl rfl Try.func46 (by kernel_rfl) rfl #[.slice Ao24 t371.length co24, .slice Ao54 t390.length co54] rfl (by (try simp only [List.map_toArray, List.map_cons, List.map_nil]); first | done | rfl | (simp only [List.length_drop, List.length_take]; rfl)) ?_; (with_reducible refine (laws_eqIntS.calls kj10 _ _ t371 _ _ t390 true _ ?side1 ?side2 ?side3 ?side4 A49.out).mono ?_); (case side1 => repeat (first | exact (Kd.R_reads' HO_7.out).2.2 | (with_reducible refine Kd.C_alloc ?_ _) | (with_reducible refine Kd.C_drewN ?_ _) | (with_reducible refine Kd.C_drew ?_))); (case side2 => exact (Kd.R_reads' HO_7.out).2.1); (case side3 => repeat (first | exact (Kd.R_reads' HO392.out).2.2 | (with_reducible refine Kd.C_alloc ?_ _) | (with_reducible refine Kd.C_drewN ?_ _) | (with_reducible refine Kd.C_drew ?_))); (case side4 => exact (Kd.R_reads' HO392.out).2.1); rintro e w' ⟨rfl, ⟨nd, rfl⟩⟩; refine ⟨_, rfl, ?_⟩) | ((with_reducible refine gate_callee (f := 47) rfl ?_); refine goesL_ (some 52) rfl rfl Try.func47 (by kernel_rfl) rfl #[.slice Ao24 t371.length co24, .int .i64 1] rfl (by (try simp only [List.map_toArray, List.map_cons, List.map_nil]); first | done | rfl | (simp only [List.length_drop, List.length_take]; rfl)) ?_; (with_reducible refine (laws_markIntS.calls kj10 (fun k_ => some k_ = (.slice Ao24 t371.length co24 : Value).ownBlock) (.slice Ao24 t371.length co24) t371 1 t394 t395 w _ ?side1 ?side2 A51.out).mono ?_); (case side1 => repeat (first | (with_reducible first | exact HB.out | apply eA | apply eN | apply eD | refine eS ?_ GE353.out | refine eS ?_ GE370.out | refine eS ?_ GE387.out) | exact HB.out)); (case side2 => exact Kd.R_tight rfl HO_7.out); rintro e w55 ⟨rfl, hy0, hb, hkp⟩; refine ⟨_, rfl, ?_⟩; have n0_ := aM (Kd.R_mono (ok' := fun k_ => some k_ ≠ (.slice Ao24 t371.length co24 : Value).ownBlock ∧ some k_ ≠ (v385 : Value).ownBlock ∧ some k_ ≠ (.slice Ao54 t390.length co54 : Value).ownBlock) (Kd.R_keptB (HO_6.out) hkp (fun k_ hk_ hs_ => (hk_.1.1) hs_)) (fun k_ hk_ => ⟨hk_.1.1.1, hk_.1.1.2, hk_.1.2⟩)); have n1_ := aM (Kd.R_reok rfl hy0 (fun k_ e_ => HO_7.out.1 k_ e_)); have n2_ := aM (Kd.R_mono (ok' := fun k_ => some k_ ≠ (v368 : Value).ownBlock ∧ some k_ ≠ (.slice Ao24 t371.length co24 : Value).ownBlock ∧ some k_ ≠ (.slice Ao54 t390.length co54 : Value).ownBlock) (Kd.R_keptB (HO_9.out) hkp (fun k_ hk_ hs_ => (hk_.1.2) hs_)) (fun k_ hk_ => ⟨hk_.1.1.1, hk_.1.1.2, hk_.1.2⟩)); have n3_ := aM (blk_kept (by exact pk BK353.out) hkp (fun hs_ => (fun e_ => (Kd.R_ne HO_7.out BK353.out (by decide)) e_) hs_)); have n4_ := aM (blk_kept (by exact pk BK370.out) hkp (fun hs_ => (fun e_ => (Kd.R_ne HO_7.out BK370.out (by decide)) e_) hs_)); have n5_ := aM (blk_kept (by exact pk BK387.out) hkp (fun hs_ => (fun e_ => (Kd.R_ne HO_7.out BK387.out (by decide)) e_) hs_)); have n6_ := aM (Kd.R_mono (ok' := fun k_ => some k_ ≠ (v368 : Value).ownBlock ∧ some k_ ≠ (.slice Ao24 t371.length co24 : Value).ownBlock ∧ some k_ ≠ (v385 : Value).ownBlock) (Kd.R_keptB (HO392.out) hkp (fun k_ hk_ hs_ => (hk_.1.2) hs_)) (fun k_ hk_ => ⟨hk_.1.1.1.2, hk_.1.1.2, hk_.1.2⟩)); have n7_ := aM (hb); clear HO_6; clear HO_7; clear HO_9; clear BK353; clear BK370; clear BK387; clear HO392; clear HB; have HO_6 := n0_; have HO_7 := n1_; have HO_9 := n2_; have BK353 := n3_; have BK370 := n4_; have BK387 := n5_; have HO392 := n6_; have HB := n7_; clear n0_ n1_ n2_ n3_ n4_ n5_ n6_ n7_; (try clear hb); (try clear hkp); (try clear hy0)))
      (try simp only [Act.put, List.setIfInBounds_toArray, List.set_cons_zero, List.set_cons_succ])
      go_cut [66] (fun v66 wc => ∃ (kq : Nat) (x66_51 : Bool), v66 = .bool x66_51 ∧ Aside0 (laws_FnExactDoActs.j1 kq l1 t367 t384 x66_51 a0_0 a0_1 a0_2 a0_3 a0_4 t362 t363 t364 t365 t366 = some r) ∧ Aside0 (kq ≤ kj10) ∧ Aside0 (Kd.R (Kd.int .i64) 3 wc w.heap.size (fun k_ => some k_ ≠ (v385 : Value).ownBlock) v368 t367) ∧ Aside0 (Kd.R (Kd.int .i64) 3 wc w.heap.size (fun k_ => some k_ ≠ (v368 : Value).ownBlock) v385 t384) ∧ Aside0 (wc.heap[gb353]? = some (.cells #[.int .i64 a0_0, .int .i64 a0_1, .bool a0_2, .bool a0_3, .bool a0_4] 23 (0, 0))) ∧ Aside0 (wc.heap[gb370]? = some (.cells #[.int .i64 t362, .int .i64 t363, .bool t364, .bool t365, .bool t366] 24 (0, 0))) ∧ Aside0 (wc.heap[gb387]? = some (.cells #[.int .i64 t379, .int .i64 t380, .bool t381, .bool t382, .bool t383] 24 (0, 0))) ∧ Aside0 (Below w.heap.size w wc))
      case first =>
       have H := HC52.out
       clear HC52
       by_cases c56 : t394 < 0
       ·rw [if_pos c56] at H
        have c56b0 : decide (t394 < 0) = true := decide_eq_true c56
        clear c56
        (first | rw [c56b0] | (simp only [i64_w, i32_w]; rw [c56b0]) | skip)
        have H' := aM H
        clear H
        go_wp2
        go_meet
        case rel => exact ⟨_, (true), (by first | rfl | (simp; done) | (simp [*]; done)), H', ⟨by have := HJ10.out; first | omega | exact Nat.le_refl _⟩, ⟨by (with_reducible repeat (first | apply Kd.R_alloc | apply Kd.R_drewN | apply Kd.R_drew)); exact Kd.R_mono HO_6.out (fun _ hk => hk.2.1)⟩, ⟨by (with_reducible repeat (first | apply Kd.R_alloc | apply Kd.R_drewN | apply Kd.R_drew)); exact Kd.R_mono HO_9.out (fun _ hk => hk.1)⟩, ⟨by exact pk BK353.out⟩, ⟨by exact pk BK370.out⟩, ⟨by exact pk BK387.out⟩, ⟨by repeat (first | (with_reducible first | exact HB.out | apply eA | apply eN | apply eD | refine eS ?_ GE353.out | refine eS ?_ GE370.out | refine eS ?_ GE387.out) | exact HB.out)⟩⟩
       ·rw [if_neg c56] at H
        have c56b0 : decide (t394 < 0) = false := decide_eq_false c56
        clear c56
        (first | rw [c56b0] | (simp only [i64_w, i32_w]; rw [c56b0]) | skip)
        replace H := Option.bind_eq_some_iff.mp H
        obtain ⟨t396, A570, H⟩ := H
        replace H : (if t396 = true then ((laws_eqIntS.f kj10 t384 t367).bind fun t397 => (laws_FnExactDoActs.j1 kj10 l1 t367 t384 (!t397) a0_0 a0_1 a0_2 a0_3 a0_4 t362 t363 t364 t365 t366)) else (laws_FnExactDoActs.j1 kj10 l1 t367 t384 true a0_0 a0_1 a0_2 a0_3 a0_4 t362 t363 t364 t365 t366)) = some r := H
        have A57 := aM A570
        clear A570
        by_cases c58 : t396 = true
        ·subst c58
         have H1 : ((laws_eqIntS.f kj10 t384 t367).bind fun t397 => (laws_FnExactDoActs.j1 kj10 l1 t367 t384 (!t397) a0_0 a0_1 a0_2 a0_3 a0_4 t362 t363 t364 t365 t366)) = some r := by rw [if_pos rfl] at H; exact H
         clear H
         have H := H1
         clear H1
         replace H := Option.bind_eq_some_iff.mp H
         obtain ⟨t397, A590, H⟩ := H
         replace H : (laws_FnExactDoActs.j1 kj10 l1 t367 t384 (!t397) a0_0 a0_1 a0_2 a0_3 a0_4 t362 t363 t364 t365 t366) = some r := H
         have A59 := aM A590
         clear A590
         have H' := aM H
         clear H
         have hnb60 := NB387_353.out
         have hnc60 := NB353_387.out
         have hnb61 := NB387_370.out
         have hnc61 := NB370_387.out
         obtain ⟨hcz62_0, hcz62_1, hcz62_2, hcz62_3, hcz62_4, hfz62_0, hfz62_1, hfz62_2, hfz62_3, hfz62_4⟩ := cells5 BK387.out
         have hnb63 := NB370_353.out
         have hnc63 := NB353_370.out
         obtain ⟨hcz64_0, hcz64_1, hcz64_2, hcz64_3, hcz64_4, hfz64_0, hfz64_1, hfz64_2, hfz64_3, hfz64_4⟩ := cells5 BK370.out
         go_wp2_with (first | (go_at_call 16; (with_reducible refine (laws_eqDoor.calls t379 t380 t381 t382 t383 t362 t363 t364 t365 t366 true _ A57.out).mono ?_); rintro e w65 ⟨rfl, hb⟩; have n0_ := aM (Kd.R_below (by (with_reducible repeat (first | apply Kd.R_alloc | apply Kd.R_drewN | apply Kd.R_drew)); exact HO_6.out) hb); have n1_ := aM (Kd.R_below (by (with_reducible repeat (first | apply Kd.R_alloc | apply Kd.R_drewN | apply Kd.R_drew)); exact HO_7.out) hb); have n2_ := aM (Kd.R_below (by (with_reducible repeat (first | apply Kd.R_alloc | apply Kd.R_drewN | apply Kd.R_drew)); exact HO_9.out) hb); have n3_ := aM (Kd.R_below (by (with_reducible repeat (first | apply Kd.R_alloc | apply Kd.R_drewN | apply Kd.R_drew)); exact HO392.out) hb); have n4_ := aM (blk_below (g := gb353) (o := .cells #[.int .i64 a0_0, .int .i64 a0_1, .bool a0_2, .bool a0_3, .bool a0_4] 23 (0, 0)) (by exact pk BK353.out) hb); have n5_ := aM (blk_below (g := gb370) (o := .cells #[.int .i64 t362, .int .i64 t363, .bool t364, .bool t365, .bool t366] 24 (0, 0)) (by exact pk BK370.out) hb); have n6_ := aM (blk_below (g := gb387) (o := .cells #[.int .i64 t379, .int .i64 t380, .bool t381, .bool t382, .bool t383] 24 (0, 0)) (by exact pk BK387.out) hb); have n7_ := aM (below_step (by repeat (first | (with_reducible first | exact HB.out | apply eA | apply eN | apply eD | refine eS ?_ GE353.out | refine eS ?_ GE370.out | refine eS ?_ GE387.out) | exact HB.out)) hb); clear HO_6; clear HO_7; clear HO_9; clear HO392; clear BK353; clear BK370; clear BK387; clear HB; have HO_6 := n0_; have HO_7 := n1_; have HO_9 := n2_; have HO392 := n3_; have BK353 := n4_; have BK370 := n5_; have BK387 := n6_; have HB := n7_; clear n0_ n1_ n2_ n3_ n4_ n5_ n6_ n7_; (try clear hb); (try clear hb2); (try clear hk); (try clear hi); obtain ⟨Ao66, co66, eo66⟩ := Kd.R_slice HO_9.out; subst eo66; obtain ⟨Ao67, co67, eo67⟩ := Kd.R_slice HO_6.out; subst eo67) | (go_at_call 46; (with_reducible refine (laws_eqIntS.calls kj10 _ _ t384 _ _ t367 t397 _ ?side1 ?side2 ?side3 ?side4 A59.out).mono ?_); (case side1 => repeat (first | exact (Kd.R_reads' HO_9.out).2.2 | (with_reducible refine Kd.C_alloc ?_ _) | (with_reducible refine Kd.C_drewN ?_ _) | (with_reducible refine Kd.C_drew ?_))); (case side2 => exact (Kd.R_reads' HO_9.out).2.1); (case side3 => repeat (first | exact (Kd.R_reads' HO_6.out).2.2 | (with_reducible refine Kd.C_alloc ?_ _) | (with_reducible refine Kd.C_drewN ?_ _) | (with_reducible refine Kd.C_drew ?_))); (case side4 => exact (Kd.R_reads' HO_6.out).2.1); rintro e w' ⟨rfl, ⟨nd, rfl⟩⟩))
         go_meet
         case rel => exact ⟨_, (!t397), (by first | rfl | (simp; done) | (simp [*]; done)), H', ⟨by have := HJ10.out; first | omega | exact Nat.le_refl _⟩, ⟨by (with_reducible repeat (first | apply Kd.R_alloc | apply Kd.R_drewN | apply Kd.R_drew)); exact Kd.R_mono HO_6.out (fun _ hk => hk.2.1)⟩, ⟨by (with_reducible repeat (first | apply Kd.R_alloc | apply Kd.R_drewN | apply Kd.R_drew)); exact Kd.R_mono HO_9.out (fun _ hk => hk.1)⟩, ⟨by exact pk BK353.out⟩, ⟨by exact pk BK370.out⟩, ⟨by exact pk BK387.out⟩, ⟨by repeat (first | (with_reducible first | exact HB.out | apply eA | apply eN | apply eD | refine eS ?_ GE353.out | refine eS ?_ GE370.out | refine eS ?_ GE387.out) | exact HB.out)⟩⟩
        ·replace c58 := Bool.eq_false_iff.mpr c58
         subst c58
         have H1 : (laws_FnExactDoActs.j1 kj10 l1 t367 t384 true a0_0 a0_1 a0_2 a0_3 a0_4 t362 t363 t364 t365 t366) = some r := by rw [if_neg (show ¬ (false = true) by decide)] at H; exact H
         clear H
         have H := H1
         clear H1
         have H' := aM H
         clear H
         have hnb68 := NB387_353.out
         have hnc68 := NB353_387.out
         have hnb69 := NB387_370.out
         have hnc69 := NB370_387.out
         obtain ⟨hcz70_0, hcz70_1, hcz70_2, hcz70_3, hcz70_4, hfz70_0, hfz70_1, hfz70_2, hfz70_3, hfz70_4⟩ := cells5 BK387.out
         have hnb71 := NB370_353.out
         have hnc71 := NB353_370.out
         obtain ⟨hcz72_0, hcz72_1, hcz72_2, hcz72_3, hcz72_4, hfz72_0, hfz72_1, hfz72_2, hfz72_3, hfz72_4⟩ := cells5 BK370.out
         go_wp2_with (first | (go_at_call 16; (with_reducible refine (laws_eqDoor.calls t379 t380 t381 t382 t383 t362 t363 t364 t365 t366 false _ A57.out).mono ?_); rintro e w73 ⟨rfl, hb⟩; have n0_ := aM (Kd.R_below (by (with_reducible repeat (first | apply Kd.R_alloc | apply Kd.R_drewN | apply Kd.R_drew)); exact HO_6.out) hb); have n1_ := aM (Kd.R_below (by (with_reducible repeat (first | apply Kd.R_alloc | apply Kd.R_drewN | apply Kd.R_drew)); exact HO_7.out) hb); have n2_ := aM (Kd.R_below (by (with_reducible repeat (first | apply Kd.R_alloc | apply Kd.R_drewN | apply Kd.R_drew)); exact HO_9.out) hb); have n3_ := aM (Kd.R_below (by (with_reducible repeat (first | apply Kd.R_alloc | apply Kd.R_drewN | apply Kd.R_drew)); exact HO392.out) hb); have n4_ := aM (blk_below (g := gb353) (o := .cells #[.int .i64 a0_0, .int .i64 a0_1, .bool a0_2, .bool a0_3, .bool a0_4] 23 (0, 0)) (by exact pk BK353.out) hb); have n5_ := aM (blk_below (g := gb370) (o := .cells #[.int .i64 t362, .int .i64 t363, .bool t364, .bool t365, .bool t366] 24 (0, 0)) (by exact pk BK370.out) hb); have n6_ := aM (blk_below (g := gb387) (o := .cells #[.int .i64 t379, .int .i64 t380, .bool t381, .bool t382, .bool t383] 24 (0, 0)) (by exact pk BK387.out) hb); have n7_ := aM (below_step (by repeat (first | (with_reducible first | exact HB.out | apply eA | apply eN | apply eD | refine eS ?_ GE353.out | refine eS ?_ GE370.out | refine eS ?_ GE387.out) | exact HB.out)) hb); clear HO_6; clear HO_7; clear HO_9; clear HO392; clear BK353; clear BK370; clear BK387; clear HB; have HO_6 := n0_; have HO_7 := n1_; have HO_9 := n2_; have HO392 := n3_; have BK353 := n4_; have BK370 := n5_; have BK387 := n6_; have HB := n7_; clear n0_ n1_ n2_ n3_ n4_ n5_ n6_ n7_; (try clear hb); (try clear hb2); (try clear hk); (try clear hi)))
         go_meet
         case rel => exact ⟨_, (true), (by first | rfl | (simp; done) | (simp [*]; done)), H', ⟨by have := HJ10.out; first | omega | exact Nat.le_refl _⟩, ⟨by (with_reducible repeat (first | apply Kd.R_alloc | apply Kd.R_drewN | apply Kd.R_drew)); exact Kd.R_mono HO_6.out (fun _ hk => hk.2.1)⟩, ⟨by (with_reducible repeat (first | apply Kd.R_alloc | apply Kd.R_drewN | apply Kd.R_drew)); exact Kd.R_mono HO_9.out (fun _ hk => hk.1)⟩, ⟨by exact pk BK353.out⟩, ⟨by exact pk BK370.out⟩, ⟨by exact pk BK387.out⟩, ⟨by repeat (first | (with_reducible first | exact HB.out | apply eA | apply eN | apply eD | refine eS ?_ GE353.out | refine eS ?_ GE370.out | refine eS ?_ GE387.out) | exact HB.out)⟩⟩
      case rest =>
       clear HC52
       try clear c1
       try clear c2
       try clear p2
       try clear c3
       try clear c3b0
       try clear c3b1
       try clear c4
       try clear c5
       try clear c6
       try clear c7
       try clear c11
       try clear c14
       try clear c16
       try clear c19
       try clear c27
       try clear c28
       try clear c31
       try clear c33
       try clear c34
       try clear c36
       try clear c41
       try clear c42
       try clear c43
       try clear c44
       try clear c45
       try clear c46
       try clear c47
       try clear c50
       try clear c56
       try clear c56b0
       try clear c58
       try clear c60
       try clear c61
       try clear c63
       try clear c68
       try clear c69
       try clear c71
       try clear hcz13_0 hcz13_1 hcz13_2 hcz13_3 hcz13_4 hfz13_0 hfz13_1 hfz13_2 hfz13_3 hfz13_4
       try clear hcz20_0 hcz20_1 hcz20_2 hcz20_3 hcz20_4 hfz20_0 hfz20_1 hfz20_2 hfz20_3 hfz20_4
       try clear hcz22_0 hcz22_1 hcz22_2 hcz22_3 hcz22_4 hfz22_0 hfz22_1 hfz22_2 hfz22_3 hfz22_4
       try clear hcz29_0 hcz29_1 hcz29_2 hcz29_3 hcz29_4 hfz29_0 hfz29_1 hfz29_2 hfz29_3 hfz29_4
       try clear hcz35_0 hcz35_1 hcz35_2 hcz35_3 hcz35_4 hfz35_0 hfz35_1 hfz35_2 hfz35_3 hfz35_4
       try clear hcz37_0 hcz37_1 hcz37_2 hcz37_3 hcz37_4 hfz37_0 hfz37_1 hfz37_2 hfz37_3 hfz37_4
       try clear hcz43_0 hcz43_1 hcz43_2 hcz43_3 hcz43_4 hfz43_0 hfz43_1 hfz43_2 hfz43_3 hfz43_4
       try clear hcz45_0 hcz45_1 hcz45_2 hcz45_3 hcz45_4 hfz45_0 hfz45_1 hfz45_2 hfz45_3 hfz45_4
       try clear hcz62_0 hcz62_1 hcz62_2 hcz62_3 hcz62_4 hfz62_0 hfz62_1 hfz62_2 hfz62_3 hfz62_4
       try clear hcz64_0 hcz64_1 hcz64_2 hcz64_3 hcz64_4 hfz64_0 hfz64_1 hfz64_2 hfz64_3 hfz64_4
       try clear hcz70_0 hcz70_1 hcz70_2 hcz70_3 hcz70_4 hfz70_0 hfz70_1 hfz70_2 hfz70_3 hfz70_4
       try clear hcz72_0 hcz72_1 hcz72_2 hcz72_3 hcz72_4 hfz72_0 hfz72_1 hfz72_2 hfz72_3 hfz72_4
       try clear p2
       obtain ⟨kq, x66_51, rfl, HA, HJ51, HO_6, HO_9, BK353, BK370, BK387, HB⟩ := hcut
       cases kq with
       | zero => exact absurd HA.out (by simp [laws_FnExactDoActs.j1])
       | succ kj51 =>
        have H := HA.out
        clear HA
        simp only [laws_FnExactDoActs.j1] at H
        by_cases c74 : x66_51 = true
        ·subst c74
         have H1 : (none) = some r := by rw [if_pos rfl] at H; exact H
         clear H
         have H := H1
         clear H1
         exact absurd H (by simp)
        ·replace c74 := Bool.eq_false_iff.mpr c74
         subst c74
         have H1 : ((laws_markIntS.f kj51 t384 1).bind fun bt398 => ((laws_heldIntS.f kj51 bt398.2 1).bind fun t400 => (if t400 < 0 then (none) else (if t400 = bt398.1 then ((laws_toDoor.f a0_0 a0_1 a0_2 a0_3 a0_4).bind fun bt401 => ((laws_toIntS.f kj51 l1).bind fun t406 => ((impl_DoActs.f kj51 bt401.1 bt401.2.1 bt401.2.2.1 bt401.2.2.2.1 bt401.2.2.2.2 t406).bind fun bt409 => ((laws_eqDoor.f bt409.1 bt409.2.1 bt409.2.2.1 bt409.2.2.2.1 bt409.2.2.2.2.1 t362 t363 t364 t365 t366).bind fun t418 => (if t418 = true then ((laws_eqIntS.f kj51 bt409.2.2.2.2.2 t367).bind fun t419 => (laws_FnExactDoActs.j2 kj51 bt398.2 bt398.1 (!t419))) else (laws_FnExactDoActs.j2 kj51 bt398.2 bt398.1 true)))))) else (none))))) = some r := by rw [if_neg (show ¬ (false = true) by decide)] at H; exact H
         clear H
         have H := H1
         clear H1
         replace H := Option.bind_eq_some_iff.mp H
         obtain ⟨⟨t398, t399⟩, A750, H⟩ := H
         replace H : ((laws_heldIntS.f kj51 t399 1).bind fun t400 => (if t400 < 0 then (none) else (if t400 = t398 then ((laws_toDoor.f a0_0 a0_1 a0_2 a0_3 a0_4).bind fun bt401 => ((laws_toIntS.f kj51 l1).bind fun t406 => ((impl_DoActs.f kj51 bt401.1 bt401.2.1 bt401.2.2.1 bt401.2.2.2.1 bt401.2.2.2.2 t406).bind fun bt409 => ((laws_eqDoor.f bt409.1 bt409.2.1 bt409.2.2.1 bt409.2.2.2.1 bt409.2.2.2.2.1 t362 t363 t364 t365 t366).bind fun t418 => (if t418 = true then ((laws_eqIntS.f kj51 bt409.2.2.2.2.2 t367).bind fun t419 => (laws_FnExactDoActs.j2 kj51 t399 t398 (!t419))) else (laws_FnExactDoActs.j2 kj51 t399 t398 true)))))) else (none)))) = some r := H
         have A75 := aM A750
         clear A750
         replace H := Option.bind_eq_some_iff.mp H
         obtain ⟨t400, A760, H⟩ := H
         replace H : (if t400 < 0 then (none) else (if t400 = t398 then ((laws_toDoor.f a0_0 a0_1 a0_2 a0_3 a0_4).bind fun bt401 => ((laws_toIntS.f kj51 l1).bind fun t406 => ((impl_DoActs.f kj51 bt401.1 bt401.2.1 bt401.2.2.1 bt401.2.2.2.1 bt401.2.2.2.2 t406).bind fun bt409 => ((laws_eqDoor.f bt409.1 bt409.2.1 bt409.2.2.1 bt409.2.2.2.1 bt409.2.2.2.2.1 t362 t363 t364 t365 t366).bind fun t418 => (if t418 = true then ((laws_eqIntS.f kj51 bt409.2.2.2.2.2 t367).bind fun t419 => (laws_FnExactDoActs.j2 kj51 t399 t398 (!t419))) else (laws_FnExactDoActs.j2 kj51 t399 t398 true)))))) else (none))) = some r := H
         have A76 := aM A760
         clear A760
         by_cases c77 : t400 < 0
         ·rw [if_pos c77] at H
          exact absurd H (by simp)
         ·rw [if_neg c77] at H
          have c77b0 : decide (t400 < 0) = false := decide_eq_false c77
          clear c77
          by_cases c78 : t400 = t398
          ·rw [if_pos c78] at H
           have c78b0 : (t400 == t398) = true := beq_iff_eq.mpr c78
           have c78b1 : (t400 != t398) = false := bne_eq_false_iff_eq.mpr c78
           clear c78
           replace H := Option.bind_eq_some_iff.mp H
           obtain ⟨⟨t401, t402, t403, t404, t405⟩, A790, H⟩ := H
           replace H : ((laws_toIntS.f kj51 l1).bind fun t406 => ((impl_DoActs.f kj51 t401 t402 t403 t404 t405 t406).bind fun bt409 => ((laws_eqDoor.f bt409.1 bt409.2.1 bt409.2.2.1 bt409.2.2.2.1 bt409.2.2.2.2.1 t362 t363 t364 t365 t366).bind fun t418 => (if t418 = true then ((laws_eqIntS.f kj51 bt409.2.2.2.2.2 t367).bind fun t419 => (laws_FnExactDoActs.j2 kj51 t399 t398 (!t419))) else (laws_FnExactDoActs.j2 kj51 t399 t398 true))))) = some r := H
           have A79 := aM A790
           clear A790
           replace H := Option.bind_eq_some_iff.mp H
           obtain ⟨t406, A800, H⟩ := H
           replace H : ((impl_DoActs.f kj51 t401 t402 t403 t404 t405 t406).bind fun bt409 => ((laws_eqDoor.f bt409.1 bt409.2.1 bt409.2.2.1 bt409.2.2.2.1 bt409.2.2.2.2.1 t362 t363 t364 t365 t366).bind fun t418 => (if t418 = true then ((laws_eqIntS.f kj51 bt409.2.2.2.2.2 t367).bind fun t419 => (laws_FnExactDoActs.j2 kj51 t399 t398 (!t419))) else (laws_FnExactDoActs.j2 kj51 t399 t398 true)))) = some r := H
           have A80 := aM A800
           clear A800
           replace H := Option.bind_eq_some_iff.mp H
           obtain ⟨⟨t409, t410, t411, t412, t413, t414⟩, A810, H⟩ := H
           replace H : ((laws_eqDoor.f t409 t410 t411 t412 t413 t362 t363 t364 t365 t366).bind fun t418 => (if t418 = true then ((laws_eqIntS.f kj51 t414 t367).bind fun t419 => (laws_FnExactDoActs.j2 kj51 t399 t398 (!t419))) else (laws_FnExactDoActs.j2 kj51 t399 t398 true))) = some r := H
           have A81 := aM A810
           clear A810
           have HC82 := aM H
           clear H
           obtain ⟨Ao83, co83, eo83⟩ := Kd.R_slice HO_9.out
           subst eo83
           go_upto_region 23 with (first | ((with_reducible refine gate_callee (f := 47) rfl ?_); refine goesL_ (some 69) rfl rfl Try.func47 (by kernel_rfl) rfl #[.slice Ao83 t384.length co83, .int .i64 1] rfl (by (try simp only [List.map_toArray, List.map_cons, List.map_nil]); first | done | rfl | (simp only [List.length_drop, List.length_take]; rfl)) ?_; (with_reducible refine (laws_markIntS.calls kj51 (fun k_ => some k_ = (.slice Ao83 t384.length co83 : Value).ownBlock) (.slice Ao83 t384.length co83) t384 1 t398 t399 w _ ?side1 ?side2 A75.out).mono ?_); (case side1 => repeat (first | (with_reducible first | exact HB.out | apply eA | apply eN | apply eD | refine eS ?_ GE353.out | refine eS ?_ GE370.out | refine eS ?_ GE387.out) | exact HB.out)); (case side2 => exact Kd.R_tight rfl HO_9.out); rintro e w84 ⟨rfl, hy0, hb, hkp⟩; refine ⟨_, rfl, ?_⟩; have n0_ := aM (Kd.R_mono (ok' := fun k_ => some k_ ≠ (.slice Ao83 t384.length co83 : Value).ownBlock) (Kd.R_keptB (HO_6.out) hkp (fun k_ hk_ hs_ => (hk_) hs_)) (fun k_ hk_ => hk_.1)); have n1_ := aM (Kd.R_reok rfl hy0 (fun k_ e_ => HO_9.out.1 k_ e_)); have n2_ := aM (blk_kept (by exact pk BK353.out) hkp (fun hs_ => (fun e_ => (Kd.R_ne HO_9.out BK353.out (by decide)) e_) hs_)); have n3_ := aM (blk_kept (by exact pk BK370.out) hkp (fun hs_ => (fun e_ => (Kd.R_ne HO_9.out BK370.out (by decide)) e_) hs_)); have n4_ := aM (blk_kept (by exact pk BK387.out) hkp (fun hs_ => (fun e_ => (Kd.R_ne HO_9.out BK387.out (by decide)) e_) hs_)); have n5_ := aM (hb); clear HO_6; clear HO_9; clear BK353; clear BK370; clear BK387; clear HB; have HO_6 := n0_; have HO_9 := n1_; have BK353 := n2_; have BK370 := n3_; have BK387 := n4_; have HB := n5_; clear n0_ n1_ n2_ n3_ n4_ n5_; (try clear hb); (try clear hkp); (try clear hy0)) | ((with_reducible refine gate_callee (f := 48) rfl ?_); refine goesL_ (some 72) rfl rfl Try.func48 (by kernel_rfl) rfl #[.slice Ao83 t399.length co83, .int .i64 1] rfl (by (try simp only [List.map_toArray, List.map_cons, List.map_nil]); first | done | (rw [show t399.length = t384.length from (Kd.R_reads' HO_9.out).1.symm] <;> rfl) | rfl | (simp only [List.length_drop, List.length_take]; rfl)) ?_; (with_reducible refine (laws_heldIntS.calls kj51 _ _ t399 1 t400 _ ?side1 ?side2 A76.out).mono ?_); (case side1 => repeat (first | exact (Kd.R_reads' HO_9.out).2.2 | (with_reducible refine Kd.C_alloc ?_ _) | (with_reducible refine Kd.C_drewN ?_ _) | (with_reducible refine Kd.C_drew ?_))); (case side2 => rw [show t399.length = t384.length from (Kd.R_reads' HO_9.out).1.symm]; exact (Kd.R_reads' HO_9.out).2.1); rintro e w' ⟨rfl, ⟨nd, rfl⟩⟩; refine ⟨_, rfl, ?_⟩; (try (rw [drewN_self w84]; generalize hq_ : World.drewN w84 _ = w84; have n0_ : Aside0 (Kd.R (Kd.int .i64) 3 w84 w.heap.size (fun k_ => some k_ ≠ (.slice Ao83 t384.length co83 : Value).ownBlock) v368 t367) := ⟨by rw [← hq_]; exact (by (with_reducible repeat (first | apply Kd.R_alloc | apply Kd.R_drewN | apply Kd.R_drew)); exact HO_6.out)⟩; have n1_ : Aside0 (Kd.R (Kd.int .i64) 3 w84 w.heap.size (fun k_ => some k_ ≠ (v368 : Value).ownBlock) (.slice Ao83 t384.length co83) t399) := ⟨by rw [← hq_]; exact (by (with_reducible repeat (first | apply Kd.R_alloc | apply Kd.R_drewN | apply Kd.R_drew)); exact HO_9.out)⟩; have n2_ : Aside0 (w84.heap[gb353]? = some (.cells #[.int .i64 a0_0, .int .i64 a0_1, .bool a0_2, .bool a0_3, .bool a0_4] 23 (0, 0))) := ⟨by rw [← hq_]; exact (by exact pk BK353.out)⟩; have n3_ : Aside0 (w84.heap[gb370]? = some (.cells #[.int .i64 t362, .int .i64 t363, .bool t364, .bool t365, .bool t366] 24 (0, 0))) := ⟨by rw [← hq_]; exact (by exact pk BK370.out)⟩; have n4_ : Aside0 (w84.heap[gb387]? = some (.cells #[.int .i64 t379, .int .i64 t380, .bool t381, .bool t382, .bool t383] 24 (0, 0))) := ⟨by rw [← hq_]; exact (by exact pk BK387.out)⟩; have n5_ : Aside0 (Below w.heap.size w w84) := ⟨by rw [← hq_]; exact (by repeat (first | (with_reducible first | exact HB.out | apply eA | apply eN | apply eD | refine eS ?_ GE353.out | refine eS ?_ GE370.out | refine eS ?_ GE387.out) | exact HB.out))⟩; clear HO_6 HO_9 BK353 BK370 BK387 HB hq_; have HO_6 := n0_; have HO_9 := n1_; have BK353 := n2_; have BK370 := n3_; have BK387 := n4_; have HB := n5_; clear n0_ n1_ n2_ n3_ n4_ n5_)); have hnb85 := NB353_370.out; have hnc85 := NB370_353.out; have hnb86 := NB353_387.out; have hnc86 := NB387_353.out; obtain ⟨hcz87_0, hcz87_1, hcz87_2, hcz87_3, hcz87_4, hfz87_0, hfz87_1, hfz87_2, hfz87_3, hfz87_4⟩ := cells5 BK353.out) | ((with_reducible refine gate_callee (f := 14) rfl ?_); refine goesL_ (some 80) rfl rfl Try.func14 (by kernel_rfl) rfl #[.agg #[.int .i64 a0_0, .int .i64 a0_1, .bool a0_2, .bool a0_3, .bool a0_4]] rfl (by (try simp only [List.map_toArray, List.map_cons, List.map_nil]); first | done | rfl | (simp only [List.length_drop, List.length_take]; rfl)) ?_; (with_reducible refine (laws_toDoor.calls a0_0 a0_1 a0_2 a0_3 a0_4 t401 t402 t403 t404 t405 _ A79.out).mono ?_); rintro e w88 ⟨rfl, hb⟩; refine ⟨_, rfl, ?_⟩; have n0_ := aM (Kd.R_below (by (with_reducible repeat (first | apply Kd.R_alloc | apply Kd.R_drewN | apply Kd.R_drew)); exact HO_6.out) hb); have n1_ := aM (Kd.R_below (by (with_reducible repeat (first | apply Kd.R_alloc | apply Kd.R_drewN | apply Kd.R_drew)); exact HO_9.out) hb); have n2_ := aM (blk_below (g := gb353) (o := .cells #[.int .i64 a0_0, .int .i64 a0_1, .bool a0_2, .bool a0_3, .bool a0_4] 23 (0, 0)) (by exact pk BK353.out) hb); have n3_ := aM (blk_below (g := gb370) (o := .cells #[.int .i64 t362, .int .i64 t363, .bool t364, .bool t365, .bool t366] 24 (0, 0)) (by exact pk BK370.out) hb); have n4_ := aM (blk_below (g := gb387) (o := .cells #[.int .i64 t379, .int .i64 t380, .bool t381, .bool t382, .bool t383] 24 (0, 0)) (by exact pk BK387.out) hb); have n5_ := aM (below_step (by repeat (first | (with_reducible first | exact HB.out | apply eA | apply eN | apply eD | refine eS ?_ GE353.out | refine eS ?_ GE370.out | refine eS ?_ GE387.out) | exact HB.out)) hb); clear HO_6; clear HO_9; clear BK353; clear BK370; clear BK387; clear HB; have HO_6 := n0_; have HO_9 := n1_; have BK353 := n2_; have BK370 := n3_; have BK387 := n4_; have HB := n5_; clear n0_ n1_ n2_ n3_ n4_ n5_; (try clear hb); (try clear hb2); (try clear hk); (try clear hi)) | ((with_reducible refine gate_callee (f := 44) rfl ?_); refine goesL_ (some 82) rfl rfl Try.func44 (by kernel_rfl) rfl #[.slice A1 l1.length c1] rfl (by (try simp only [List.map_toArray, List.map_cons, List.map_nil]); first | done | rfl | (simp only [List.length_drop, List.length_take]; rfl)) ?_; (with_reducible refine (laws_toIntS.calls kj51 _ _ l1 t406 _ ?side1 ?side2 A80.out).mono ?_); (case side1 => repeat (first | exact (Kd.C_below HR1.out HB.out) | (with_reducible refine Kd.C_alloc ?_ _) | (with_reducible refine Kd.C_drewN ?_ _) | (with_reducible refine Kd.C_drew ?_))); (case side2 => exact HC1.out); rintro e w89 ⟨v407, rfl, ho0, hb⟩; refine ⟨_, rfl, ?_⟩; have n0_ := aM (Kd.R_elder' (by (with_reducible repeat (first | apply Kd.R_alloc | apply Kd.R_drewN | apply Kd.R_drew)); exact HO_6.out) (Kd.R_base ho0) hb); have n1_ := aM (Kd.R_elder' (by (with_reducible repeat (first | apply Kd.R_alloc | apply Kd.R_drewN | apply Kd.R_drew)); exact HO_9.out) (Kd.R_base ho0) hb); have n2_ := aM (Kd.R_lower (Kd.R_new' (Kd.R_new' ho0 (Kd.R_lt (by (with_reducible repeat (first | apply Kd.R_alloc | apply Kd.R_drewN | apply Kd.R_drew)); exact HO_6.out))) (Kd.R_lt (by (with_reducible repeat (first | apply Kd.R_alloc | apply Kd.R_drewN | apply Kd.R_drew)); exact HO_9.out))) (below_size (by repeat (first | (with_reducible first | exact HB.out | apply eA | apply eN | apply eD | refine eS ?_ GE353.out | refine eS ?_ GE370.out | refine eS ?_ GE387.out) | exact HB.out)))); have n3_ := aM (blk_below (g := gb353) (o := .cells #[.int .i64 a0_0, .int .i64 a0_1, .bool a0_2, .bool a0_3, .bool a0_4] 23 (0, 0)) (by exact pk BK353.out) hb); have n4_ := aM (blk_below (g := gb370) (o := .cells #[.int .i64 t362, .int .i64 t363, .bool t364, .bool t365, .bool t366] 24 (0, 0)) (by exact pk BK370.out) hb); have n5_ := aM (blk_below (g := gb387) (o := .cells #[.int .i64 t379, .int .i64 t380, .bool t381, .bool t382, .bool t383] 24 (0, 0)) (by exact pk BK387.out) hb); have n6_ := aM (below_step (by repeat (first | (with_reducible first | exact HB.out | apply eA | apply eN | apply eD | refine eS ?_ GE353.out | refine eS ?_ GE370.out | refine eS ?_ GE387.out) | exact HB.out)) hb); clear HO_6; clear HO_9; clear BK353; clear BK370; clear BK387; clear HB; have HO_6 := n0_; have HO_9 := n1_; have HO408 := n2_; have BK353 := n3_; have BK370 := n4_; have BK387 := n5_; have HB := n6_; clear n0_ n1_ n2_ n3_ n4_ n5_ n6_; (try clear hb); (try clear hb2); (try clear hk); (try clear hi); (try clear ho0); obtain ⟨Ao90, co90, eo90⟩ := Kd.R_slice HO408.out; subst eo90) | ((with_reducible refine gate_callee (f := 45) rfl ?_); refine goesL_ (some 83) rfl rfl Try.func45 (by kernel_rfl) rfl #[.agg #[.int .i64 t401, .int .i64 t402, .bool t403, .bool t404, .bool t405], .slice Ao90 t406.length co90] rfl (by (try simp only [List.map_toArray, List.map_cons, List.map_nil]); first | done | rfl | (simp only [List.length_drop, List.length_take]; rfl)) ?_; (with_reducible refine (impl_DoActs.calls kj51 t401 t402 t403 t404 t405 _ _ t406 t409 t410 t411 t412 t413 t414 _ ?side1 ?side2 A81.out).mono ?_); (case side1 => repeat (first | exact (Kd.R_reads' HO408.out).2.2 | (with_reducible refine Kd.C_alloc ?_ _) | (with_reducible refine Kd.C_drewN ?_ _) | (with_reducible refine Kd.C_drew ?_))); (case side2 => exact (Kd.R_reads' HO408.out).2.1); rintro e w91 ⟨v415, rfl, ho0, hb⟩; refine ⟨_, rfl, ?_⟩; have n0_ := aM (Kd.R_elder' (by (with_reducible repeat (first | apply Kd.R_alloc | apply Kd.R_drewN | apply Kd.R_drew)); exact HO_6.out) (Kd.R_base ho0) hb); have n1_ := aM (Kd.R_elder' (by (with_reducible repeat (first | apply Kd.R_alloc | apply Kd.R_drewN | apply Kd.R_drew)); exact HO_9.out) (Kd.R_base ho0) hb); have n2_ := aM (Kd.R_elder' (by (with_reducible repeat (first | apply Kd.R_alloc | apply Kd.R_drewN | apply Kd.R_drew)); exact HO408.out) (Kd.R_base ho0) hb); have n3_ := aM (Kd.R_lower (Kd.R_new' (Kd.R_new' (Kd.R_new' ho0 (Kd.R_lt (by (with_reducible repeat (first | apply Kd.R_alloc | apply Kd.R_drewN | apply Kd.R_drew)); exact HO_6.out))) (Kd.R_lt (by (with_reducible repeat (first | apply Kd.R_alloc | apply Kd.R_drewN | apply Kd.R_drew)); exact HO_9.out))) (Kd.R_lt (by (with_reducible repeat (first | apply Kd.R_alloc | apply Kd.R_drewN | apply Kd.R_drew)); exact HO408.out))) (below_size (by repeat (first | (with_reducible first | exact HB.out | apply eA | apply eN | apply eD | refine eS ?_ GE353.out | refine eS ?_ GE370.out | refine eS ?_ GE387.out) | exact HB.out)))); have n4_ := aM (blk_below (g := gb353) (o := .cells #[.int .i64 a0_0, .int .i64 a0_1, .bool a0_2, .bool a0_3, .bool a0_4] 23 (0, 0)) (by exact pk BK353.out) hb); have n5_ := aM (blk_below (g := gb370) (o := .cells #[.int .i64 t362, .int .i64 t363, .bool t364, .bool t365, .bool t366] 24 (0, 0)) (by exact pk BK370.out) hb); have n6_ := aM (blk_below (g := gb387) (o := .cells #[.int .i64 t379, .int .i64 t380, .bool t381, .bool t382, .bool t383] 24 (0, 0)) (by exact pk BK387.out) hb); have n7_ := aM (below_step (by repeat (first | (with_reducible first | exact HB.out | apply eA | apply eN | apply eD | refine eS ?_ GE353.out | refine eS ?_ GE370.out | refine eS ?_ GE387.out) | exact HB.out)) hb); clear HO_6; clear HO_9; clear HO408; clear BK353; clear BK370; clear BK387; clear HB; have HO_6 := n0_; have HO_9 := n1_; have HO408 := n2_; have HO416 := n3_; have BK353 := n4_; have BK370 := n5_; have BK387 := n6_; have HB := n7_; clear n0_ n1_ n2_ n3_ n4_ n5_ n6_ n7_; (try clear hb); (try clear hb2); (try clear hk); (try clear hi); (try clear ho0)) | ((with_reducible refine gate_dst (N := 13) rfl ?_); refine box_event ?hg (N := 13) ?hd (cs := #[.int .i64 0, .int .i64 0, .bool false, .bool false, .bool false]) (t := 24) ?hr ?_; (case hd => rfl); (case hg => rfl); (case hr => first | (go_simp; done) | (go_simp; rfl)); intro gb417 hg w92 hbox hb; have n0_ := aM (Kd.R_below (by (with_reducible repeat (first | apply Kd.R_alloc | apply Kd.R_drewN | apply Kd.R_drew)); exact HO_6.out) hb); have n1_ := aM (Kd.R_below (by (with_reducible repeat (first | apply Kd.R_alloc | apply Kd.R_drewN | apply Kd.R_drew)); exact HO_9.out) hb); have n2_ := aM (Kd.R_below (by (with_reducible repeat (first | apply Kd.R_alloc | apply Kd.R_drewN | apply Kd.R_drew)); exact HO408.out) hb); have n3_ := aM (Kd.R_below (by (with_reducible repeat (first | apply Kd.R_alloc | apply Kd.R_drewN | apply Kd.R_drew)); exact HO416.out) hb); have n4_ := aM (blk_below (g := gb353) (o := .cells #[.int .i64 a0_0, .int .i64 a0_1, .bool a0_2, .bool a0_3, .bool a0_4] 23 (0, 0)) (by exact pk BK353.out) hb); have n5_ := aM (blk_below (g := gb370) (o := .cells #[.int .i64 t362, .int .i64 t363, .bool t364, .bool t365, .bool t366] 24 (0, 0)) (by exact pk BK370.out) hb); have n6_ := aM (blk_below (g := gb387) (o := .cells #[.int .i64 t379, .int .i64 t380, .bool t381, .bool t382, .bool t383] 24 (0, 0)) (by exact pk BK387.out) hb); have n7_ := aM (below_step (by repeat (first | (with_reducible first | exact HB.out | apply eA | apply eN | apply eD | refine eS ?_ GE353.out | refine eS ?_ GE370.out | refine eS ?_ GE387.out) | exact HB.out)) hb); have n8_ := aM (hbox); have n9_ := aM ((by rw [hg]; exact (below_size (by repeat (first | (with_reducible first | exact HB.out | apply eA | apply eN | apply eD | refine eS ?_ GE353.out | refine eS ?_ GE370.out | refine eS ?_ GE387.out) | exact HB.out))) : w.heap.size ≤ gb417)); have n10_ := aM ((by rw [hg]; exact (below_size (by repeat (first | (with_reducible first | exact HB.out | apply eA | apply eN | apply eD | refine eS ?_ GE353.out | refine eS ?_ GE370.out | refine eS ?_ GE387.out) | exact HB.out))) : w.heap.size ≤ gb417)); have n11_ := aM ((by rw [hg]; exact Nat.ne_of_lt (blk_lt (g := gb353) (o := .cells #[.int .i64 a0_0, .int .i64 a0_1, .bool a0_2, .bool a0_3, .bool a0_4] 23 (0, 0)) (by exact pk BK353.out)) : gb353 ≠ gb417)); have n12_ := aM ((by rw [hg]; exact Nat.ne_of_gt (blk_lt (g := gb353) (o := .cells #[.int .i64 a0_0, .int .i64 a0_1, .bool a0_2, .bool a0_3, .bool a0_4] 23 (0, 0)) (by exact pk BK353.out)) : gb417 ≠ gb353)); have n13_ := aM ((by rw [hg]; exact Nat.ne_of_lt (blk_lt (g := gb370) (o := .cells #[.int .i64 t362, .int .i64 t363, .bool t364, .bool t365, .bool t366] 24 (0, 0)) (by exact pk BK370.out)) : gb370 ≠ gb417)); have n14_ := aM ((by rw [hg]; exact Nat.ne_of_gt (blk_lt (g := gb370) (o := .cells #[.int .i64 t362, .int .i64 t363, .bool t364, .bool t365, .bool t366] 24 (0, 0)) (by exact pk BK370.out)) : gb417 ≠ gb370)); have n15_ := aM ((by rw [hg]; exact Nat.ne_of_lt (blk_lt (g := gb387) (o := .cells #[.int .i64 t379, .int .i64 t380, .bool t381, .bool t382, .bool t383] 24 (0, 0)) (by exact pk BK387.out)) : gb387 ≠ gb417)); have n16_ := aM ((by rw [hg]; exact Nat.ne_of_gt (blk_lt (g := gb387) (o := .cells #[.int .i64 t379, .int .i64 t380, .bool t381, .bool t382, .bool t383] 24 (0, 0)) (by exact pk BK387.out)) : gb417 ≠ gb387)); clear HO_6; clear HO_9; clear HO408; clear HO416; clear BK353; clear BK370; clear BK387; clear HB; have HO_6 := n0_; have HO_9 := n1_; have HO408 := n2_; have HO416 := n3_; have BK353 := n4_; have BK370 := n5_; have BK387 := n6_; have HB := n7_; have BK417 := n8_; have GW417 := n9_; have GE417 := n10_; have NB353_417 := n11_; have NB417_353 := n12_; have NB370_417 := n13_; have NB417_370 := n14_; have NB387_417 := n15_; have NB417_387 := n16_; clear n0_ n1_ n2_ n3_ n4_ n5_ n6_ n7_ n8_ n9_ n10_ n11_ n12_ n13_ n14_ n15_ n16_; clear hb hbox hg; have hnb93 := NB417_353.out; have hnc93 := NB353_417.out; have hnb94 := NB417_370.out; have hnc94 := NB370_417.out; have hnb95 := NB417_387.out; have hnc95 := NB387_417.out; obtain ⟨hcz96_0, hcz96_1, hcz96_2, hcz96_3, hcz96_4, hfz96_0, hfz96_1, hfz96_2, hfz96_3, hfz96_4⟩ := cells5 BK417.out))
           (try simp only [Act.put, List.setIfInBounds_toArray, List.set_cons_zero, List.set_cons_succ])
           go_cut [95] (fun v95 wc => ∃ (kq : Nat) (x95_81 : Bool), v95 = .bool x95_81 ∧ Aside0 (laws_FnExactDoActs.j2 kq t399 t398 x95_81 = some r) ∧ Aside0 (kq ≤ kj51) ∧ Aside0 (Kd.R (Kd.int .i64) 3 wc w.heap.size (fun _ => True) (.slice Ao83 t384.length co83) t399) ∧ Aside0 (wc.heap[gb353]? = some (.cells #[.int .i64 a0_0, .int .i64 a0_1, .bool a0_2, .bool a0_3, .bool a0_4] 23 (0, 0))) ∧ Aside0 (wc.heap[gb370]? = some (.cells #[.int .i64 t362, .int .i64 t363, .bool t364, .bool t365, .bool t366] 24 (0, 0))) ∧ Aside0 (wc.heap[gb387]? = some (.cells #[.int .i64 t379, .int .i64 t380, .bool t381, .bool t382, .bool t383] 24 (0, 0))) ∧ Aside0 (wc.heap[gb417]? = some (.cells #[.int .i64 t409, .int .i64 t410, .bool t411, .bool t412, .bool t413] 24 (0, 0))) ∧ Aside0 (Below w.heap.size w wc))
           case first =>
            have H := HC82.out
            clear HC82
            replace H := Option.bind_eq_some_iff.mp H
            obtain ⟨t418, A970, H⟩ := H
            replace H : (if t418 = true then ((laws_eqIntS.f kj51 t414 t367).bind fun t419 => (laws_FnExactDoActs.j2 kj51 t399 t398 (!t419))) else (laws_FnExactDoActs.j2 kj51 t399 t398 true)) = some r := H
            have A97 := aM A970
            clear A970
            by_cases c98 : t418 = true
            ·subst c98
             have H1 : ((laws_eqIntS.f kj51 t414 t367).bind fun t419 => (laws_FnExactDoActs.j2 kj51 t399 t398 (!t419))) = some r := by rw [if_pos rfl] at H; exact H
             clear H
             have H := H1
             clear H1
             replace H := Option.bind_eq_some_iff.mp H
             obtain ⟨t419, A990, H⟩ := H
             replace H : (laws_FnExactDoActs.j2 kj51 t399 t398 (!t419)) = some r := H
             have A99 := aM A990
             clear A990
             have H' := aM H
             clear H
             have hnb100 := NB417_353.out
             have hnc100 := NB353_417.out
             have hnb101 := NB417_370.out
             have hnc101 := NB370_417.out
             have hnb102 := NB417_387.out
             have hnc102 := NB387_417.out
             obtain ⟨hcz103_0, hcz103_1, hcz103_2, hcz103_3, hcz103_4, hfz103_0, hfz103_1, hfz103_2, hfz103_3, hfz103_4⟩ := cells5 BK417.out
             have hnb104 := NB370_353.out
             have hnc104 := NB353_370.out
             have hnb105 := NB370_387.out
             have hnc105 := NB387_370.out
             obtain ⟨hcz106_0, hcz106_1, hcz106_2, hcz106_3, hcz106_4, hfz106_0, hfz106_1, hfz106_2, hfz106_3, hfz106_4⟩ := cells5 BK370.out
             go_wp2_with (first | ((with_reducible refine gate_callee (f := 16) rfl ?_); refine goesL_ (some 88) rfl rfl Try.func16 (by kernel_rfl) rfl #[.agg #[.int .i64 t409, .int .i64 t410, .bool t411, .bool t412, .bool t413], .agg #[.int .i64 t362, .int .i64 t363, .bool t364, .bool t365, .bool t366]] rfl (by (try simp only [List.map_toArray, List.map_cons, List.map_nil]); first | done | rfl | (simp only [List.length_drop, List.length_take]; rfl)) ?_; (with_reducible refine (laws_eqDoor.calls t409 t410 t411 t412 t413 t362 t363 t364 t365 t366 true _ A97.out).mono ?_); rintro e w107 ⟨rfl, hb⟩; refine ⟨_, rfl, ?_⟩; have n0_ := aM (Kd.R_below (by (with_reducible repeat (first | apply Kd.R_alloc | apply Kd.R_drewN | apply Kd.R_drew)); exact (Kd.R_mono (Kd.R_far (p := ⟨gb417, 4, none⟩) (Kd.R_far (p := ⟨gb417, 3, none⟩) (Kd.R_far (p := ⟨gb417, 2, none⟩) (Kd.R_far (p := ⟨gb417, 1, none⟩) (Kd.R_far (p := ⟨gb417, 0, none⟩) (Kd.R_types HO_6.out BK417.out (by decide)) (fun _ hk => hk.2) (.int .i64 t409)) (fun _ hk => hk.2) (.int .i64 t410)) (fun _ hk => hk.2) (.bool t411)) (fun _ hk => hk.2) (.bool t412)) (fun _ hk => hk.2) (.bool t413)) (fun _ h_ => h_.1))) hb); have n1_ := aM (Kd.R_below (by (with_reducible repeat (first | apply Kd.R_alloc | apply Kd.R_drewN | apply Kd.R_drew)); exact (Kd.R_mono (Kd.R_far (p := ⟨gb417, 4, none⟩) (Kd.R_far (p := ⟨gb417, 3, none⟩) (Kd.R_far (p := ⟨gb417, 2, none⟩) (Kd.R_far (p := ⟨gb417, 1, none⟩) (Kd.R_far (p := ⟨gb417, 0, none⟩) (Kd.R_types HO_9.out BK417.out (by decide)) (fun _ hk => hk.2) (.int .i64 t409)) (fun _ hk => hk.2) (.int .i64 t410)) (fun _ hk => hk.2) (.bool t411)) (fun _ hk => hk.2) (.bool t412)) (fun _ hk => hk.2) (.bool t413)) (fun _ h_ => h_.1))) hb); have n2_ := aM (Kd.R_below (by (with_reducible repeat (first | apply Kd.R_alloc | apply Kd.R_drewN | apply Kd.R_drew)); exact (Kd.R_mono (Kd.R_far (p := ⟨gb417, 4, none⟩) (Kd.R_far (p := ⟨gb417, 3, none⟩) (Kd.R_far (p := ⟨gb417, 2, none⟩) (Kd.R_far (p := ⟨gb417, 1, none⟩) (Kd.R_far (p := ⟨gb417, 0, none⟩) (Kd.R_types HO408.out BK417.out (by decide)) (fun _ hk => hk.2) (.int .i64 t409)) (fun _ hk => hk.2) (.int .i64 t410)) (fun _ hk => hk.2) (.bool t411)) (fun _ hk => hk.2) (.bool t412)) (fun _ hk => hk.2) (.bool t413)) (fun _ h_ => h_.1))) hb); have n3_ := aM (Kd.R_below (by (with_reducible repeat (first | apply Kd.R_alloc | apply Kd.R_drewN | apply Kd.R_drew)); exact (Kd.R_mono (Kd.R_far (p := ⟨gb417, 4, none⟩) (Kd.R_far (p := ⟨gb417, 3, none⟩) (Kd.R_far (p := ⟨gb417, 2, none⟩) (Kd.R_far (p := ⟨gb417, 1, none⟩) (Kd.R_far (p := ⟨gb417, 0, none⟩) (Kd.R_types HO416.out BK417.out (by decide)) (fun _ hk => hk.2) (.int .i64 t409)) (fun _ hk => hk.2) (.int .i64 t410)) (fun _ hk => hk.2) (.bool t411)) (fun _ hk => hk.2) (.bool t412)) (fun _ hk => hk.2) (.bool t413)) (fun _ h_ => h_.1))) hb); have n4_ := aM (blk_below (g := gb353) (o := .cells #[.int .i64 a0_0, .int .i64 a0_1, .bool a0_2, .bool a0_3, .bool a0_4] 23 (0, 0)) (by (with_reducible repeat (first | refine bN ?_ _ | refine bD ?_ | refine bA ?_ _)); refine blk_far ?_ NB353_417.out _; (with_reducible repeat (first | refine bN ?_ _ | refine bD ?_ | refine bA ?_ _)); refine blk_far ?_ NB353_417.out _; (with_reducible repeat (first | refine bN ?_ _ | refine bD ?_ | refine bA ?_ _)); refine blk_far ?_ NB353_417.out _; (with_reducible repeat (first | refine bN ?_ _ | refine bD ?_ | refine bA ?_ _)); refine blk_far ?_ NB353_417.out _; (with_reducible repeat (first | refine bN ?_ _ | refine bD ?_ | refine bA ?_ _)); refine blk_far ?_ NB353_417.out _; (with_reducible repeat (first | refine bN ?_ _ | refine bD ?_ | refine bA ?_ _)); exact BK353.out) hb); have n5_ := aM (blk_below (g := gb370) (o := .cells #[.int .i64 t362, .int .i64 t363, .bool t364, .bool t365, .bool t366] 24 (0, 0)) (by (with_reducible repeat (first | refine bN ?_ _ | refine bD ?_ | refine bA ?_ _)); refine blk_far ?_ NB370_417.out _; (with_reducible repeat (first | refine bN ?_ _ | refine bD ?_ | refine bA ?_ _)); refine blk_far ?_ NB370_417.out _; (with_reducible repeat (first | refine bN ?_ _ | refine bD ?_ | refine bA ?_ _)); refine blk_far ?_ NB370_417.out _; (with_reducible repeat (first | refine bN ?_ _ | refine bD ?_ | refine bA ?_ _)); refine blk_far ?_ NB370_417.out _; (with_reducible repeat (first | refine bN ?_ _ | refine bD ?_ | refine bA ?_ _)); refine blk_far ?_ NB370_417.out _; (with_reducible repeat (first | refine bN ?_ _ | refine bD ?_ | refine bA ?_ _)); exact BK370.out) hb); have n6_ := aM (blk_below (g := gb387) (o := .cells #[.int .i64 t379, .int .i64 t380, .bool t381, .bool t382, .bool t383] 24 (0, 0)) (by (with_reducible repeat (first | refine bN ?_ _ | refine bD ?_ | refine bA ?_ _)); refine blk_far ?_ NB387_417.out _; (with_reducible repeat (first | refine bN ?_ _ | refine bD ?_ | refine bA ?_ _)); refine blk_far ?_ NB387_417.out _; (with_reducible repeat (first | refine bN ?_ _ | refine bD ?_ | refine bA ?_ _)); refine blk_far ?_ NB387_417.out _; (with_reducible repeat (first | refine bN ?_ _ | refine bD ?_ | refine bA ?_ _)); refine blk_far ?_ NB387_417.out _; (with_reducible repeat (first | refine bN ?_ _ | refine bD ?_ | refine bA ?_ _)); refine blk_far ?_ NB387_417.out _; (with_reducible repeat (first | refine bN ?_ _ | refine bD ?_ | refine bA ?_ _)); exact BK387.out) hb); have n7_ := aM (blk_below (g := gb417) (o := .cells #[.int .i64 t409, .int .i64 t410, .bool t411, .bool t412, .bool t413] 24 (0, 0)) (by (with_reducible repeat (first | refine bN ?_ _ | refine bD ?_ | refine bA ?_ _)); refine blk_put (cs := #[.int .i64 t409, .int .i64 t410, .bool t411, .bool t412, .bool false]) ?_ 4 _ rfl; (with_reducible repeat (first | refine bN ?_ _ | refine bD ?_ | refine bA ?_ _)); refine blk_put (cs := #[.int .i64 t409, .int .i64 t410, .bool t411, .bool false, .bool false]) ?_ 3 _ rfl; (with_reducible repeat (first | refine bN ?_ _ | refine bD ?_ | refine bA ?_ _)); refine blk_put (cs := #[.int .i64 t409, .int .i64 t410, .bool false, .bool false, .bool false]) ?_ 2 _ rfl; (with_reducible repeat (first | refine bN ?_ _ | refine bD ?_ | refine bA ?_ _)); refine blk_put (cs := #[.int .i64 t409, .int .i64 0, .bool false, .bool false, .bool false]) ?_ 1 _ rfl; (with_reducible repeat (first | refine bN ?_ _ | refine bD ?_ | refine bA ?_ _)); refine blk_put (cs := #[.int .i64 0, .int .i64 0, .bool false, .bool false, .bool false]) ?_ 0 _ rfl; (with_reducible repeat (first | refine bN ?_ _ | refine bD ?_ | refine bA ?_ _)); exact BK417.out) hb); have n8_ := aM (below_step (by repeat (first | (with_reducible first | exact HB.out | apply eA | apply eN | apply eD | refine eS ?_ GE353.out | refine eS ?_ GE370.out | refine eS ?_ GE387.out | refine eS ?_ GE417.out) | exact HB.out)) hb); clear HO_6; clear HO_9; clear HO408; clear HO416; clear BK353; clear BK370; clear BK387; clear BK417; clear HB; have HO_6 := n0_; have HO_9 := n1_; have HO408 := n2_; have HO416 := n3_; have BK353 := n4_; have BK370 := n5_; have BK387 := n6_; have BK417 := n7_; have HB := n8_; clear n0_ n1_ n2_ n3_ n4_ n5_ n6_ n7_ n8_; (try clear hb); (try clear hb2); (try clear hk); (try clear hi); obtain ⟨Ao108, co108, eo108⟩ := Kd.R_slice HO416.out; subst eo108; obtain ⟨Ao109, co109, eo109⟩ := Kd.R_slice HO_6.out; subst eo109) | (go_at_call 46; (with_reducible refine (laws_eqIntS.calls kj51 _ _ t414 _ _ t367 t419 _ ?side1 ?side2 ?side3 ?side4 A99.out).mono ?_); (case side1 => repeat (first | exact (Kd.R_reads' HO416.out).2.2 | (with_reducible refine Kd.C_alloc ?_ _) | (with_reducible refine Kd.C_drewN ?_ _) | (with_reducible refine Kd.C_drew ?_))); (case side2 => exact (Kd.R_reads' HO416.out).2.1); (case side3 => repeat (first | exact (Kd.R_reads' HO_6.out).2.2 | (with_reducible refine Kd.C_alloc ?_ _) | (with_reducible refine Kd.C_drewN ?_ _) | (with_reducible refine Kd.C_drew ?_))); (case side4 => exact (Kd.R_reads' HO_6.out).2.1); rintro e w' ⟨rfl, ⟨nd, rfl⟩⟩))
             go_meet
             case rel => exact ⟨_, (!t419), (by first | rfl | (simp; done) | (simp [*]; done)), H', ⟨by have := HJ10.out; have := HJ51.out; first | omega | exact Nat.le_refl _⟩, ⟨by (with_reducible repeat (first | apply Kd.R_alloc | apply Kd.R_drewN | apply Kd.R_drew)); exact Kd.R_mono HO_9.out (fun _ hk => trivial)⟩, ⟨by exact pk BK353.out⟩, ⟨by exact pk BK370.out⟩, ⟨by exact pk BK387.out⟩, ⟨by exact pk BK417.out⟩, ⟨by repeat (first | (with_reducible first | exact HB.out | apply eA | apply eN | apply eD | refine eS ?_ GE353.out | refine eS ?_ GE370.out | refine eS ?_ GE387.out | refine eS ?_ GE417.out) | exact HB.out)⟩⟩
            ·replace c98 := Bool.eq_false_iff.mpr c98
             subst c98
             have H1 : (laws_FnExactDoActs.j2 kj51 t399 t398 true) = some r := by rw [if_neg (show ¬ (false = true) by decide)] at H; exact H
             clear H
             have H := H1
             clear H1
             have H' := aM H
             clear H
             have hnb110 := NB417_353.out
             have hnc110 := NB353_417.out
             have hnb111 := NB417_370.out
             have hnc111 := NB370_417.out
             have hnb112 := NB417_387.out
             have hnc112 := NB387_417.out
             obtain ⟨hcz113_0, hcz113_1, hcz113_2, hcz113_3, hcz113_4, hfz113_0, hfz113_1, hfz113_2, hfz113_3, hfz113_4⟩ := cells5 BK417.out
             have hnb114 := NB370_353.out
             have hnc114 := NB353_370.out
             have hnb115 := NB370_387.out
             have hnc115 := NB387_370.out
             obtain ⟨hcz116_0, hcz116_1, hcz116_2, hcz116_3, hcz116_4, hfz116_0, hfz116_1, hfz116_2, hfz116_3, hfz116_4⟩ := cells5 BK370.out
             go_wp2_with (first | ((with_reducible refine gate_callee (f := 16) rfl ?_); refine goesL_ (some 88) rfl rfl Try.func16 (by kernel_rfl) rfl #[.agg #[.int .i64 t409, .int .i64 t410, .bool t411, .bool t412, .bool t413], .agg #[.int .i64 t362, .int .i64 t363, .bool t364, .bool t365, .bool t366]] rfl (by (try simp only [List.map_toArray, List.map_cons, List.map_nil]); first | done | rfl | (simp only [List.length_drop, List.length_take]; rfl)) ?_; (with_reducible refine (laws_eqDoor.calls t409 t410 t411 t412 t413 t362 t363 t364 t365 t366 false _ A97.out).mono ?_); rintro e w117 ⟨rfl, hb⟩; refine ⟨_, rfl, ?_⟩; have n0_ := aM (Kd.R_below (by (with_reducible repeat (first | apply Kd.R_alloc | apply Kd.R_drewN | apply Kd.R_drew)); exact (Kd.R_mono (Kd.R_far (p := ⟨gb417, 4, none⟩) (Kd.R_far (p := ⟨gb417, 3, none⟩) (Kd.R_far (p := ⟨gb417, 2, none⟩) (Kd.R_far (p := ⟨gb417, 1, none⟩) (Kd.R_far (p := ⟨gb417, 0, none⟩) (Kd.R_types HO_6.out BK417.out (by decide)) (fun _ hk => hk.2) (.int .i64 t409)) (fun _ hk => hk.2) (.int .i64 t410)) (fun _ hk => hk.2) (.bool t411)) (fun _ hk => hk.2) (.bool t412)) (fun _ hk => hk.2) (.bool t413)) (fun _ h_ => h_.1))) hb); have n1_ := aM (Kd.R_below (by (with_reducible repeat (first | apply Kd.R_alloc | apply Kd.R_drewN | apply Kd.R_drew)); exact (Kd.R_mono (Kd.R_far (p := ⟨gb417, 4, none⟩) (Kd.R_far (p := ⟨gb417, 3, none⟩) (Kd.R_far (p := ⟨gb417, 2, none⟩) (Kd.R_far (p := ⟨gb417, 1, none⟩) (Kd.R_far (p := ⟨gb417, 0, none⟩) (Kd.R_types HO_9.out BK417.out (by decide)) (fun _ hk => hk.2) (.int .i64 t409)) (fun _ hk => hk.2) (.int .i64 t410)) (fun _ hk => hk.2) (.bool t411)) (fun _ hk => hk.2) (.bool t412)) (fun _ hk => hk.2) (.bool t413)) (fun _ h_ => h_.1))) hb); have n2_ := aM (Kd.R_below (by (with_reducible repeat (first | apply Kd.R_alloc | apply Kd.R_drewN | apply Kd.R_drew)); exact (Kd.R_mono (Kd.R_far (p := ⟨gb417, 4, none⟩) (Kd.R_far (p := ⟨gb417, 3, none⟩) (Kd.R_far (p := ⟨gb417, 2, none⟩) (Kd.R_far (p := ⟨gb417, 1, none⟩) (Kd.R_far (p := ⟨gb417, 0, none⟩) (Kd.R_types HO408.out BK417.out (by decide)) (fun _ hk => hk.2) (.int .i64 t409)) (fun _ hk => hk.2) (.int .i64 t410)) (fun _ hk => hk.2) (.bool t411)) (fun _ hk => hk.2) (.bool t412)) (fun _ hk => hk.2) (.bool t413)) (fun _ h_ => h_.1))) hb); have n3_ := aM (Kd.R_below (by (with_reducible repeat (first | apply Kd.R_alloc | apply Kd.R_drewN | apply Kd.R_drew)); exact (Kd.R_mono (Kd.R_far (p := ⟨gb417, 4, none⟩) (Kd.R_far (p := ⟨gb417, 3, none⟩) (Kd.R_far (p := ⟨gb417, 2, none⟩) (Kd.R_far (p := ⟨gb417, 1, none⟩) (Kd.R_far (p := ⟨gb417, 0, none⟩) (Kd.R_types HO416.out BK417.out (by decide)) (fun _ hk => hk.2) (.int .i64 t409)) (fun _ hk => hk.2) (.int .i64 t410)) (fun _ hk => hk.2) (.bool t411)) (fun _ hk => hk.2) (.bool t412)) (fun _ hk => hk.2) (.bool t413)) (fun _ h_ => h_.1))) hb); have n4_ := aM (blk_below (g := gb353) (o := .cells #[.int .i64 a0_0, .int .i64 a0_1, .bool a0_2, .bool a0_3, .bool a0_4] 23 (0, 0)) (by (with_reducible repeat (first | refine bN ?_ _ | refine bD ?_ | refine bA ?_ _)); refine blk_far ?_ NB353_417.out _; (with_reducible repeat (first | refine bN ?_ _ | refine bD ?_ | refine bA ?_ _)); refine blk_far ?_ NB353_417.out _; (with_reducible repeat (first | refine bN ?_ _ | refine bD ?_ | refine bA ?_ _)); refine blk_far ?_ NB353_417.out _; (with_reducible repeat (first | refine bN ?_ _ | refine bD ?_ | refine bA ?_ _)); refine blk_far ?_ NB353_417.out _; (with_reducible repeat (first | refine bN ?_ _ | refine bD ?_ | refine bA ?_ _)); refine blk_far ?_ NB353_417.out _; (with_reducible repeat (first | refine bN ?_ _ | refine bD ?_ | refine bA ?_ _)); exact BK353.out) hb); have n5_ := aM (blk_below (g := gb370) (o := .cells #[.int .i64 t362, .int .i64 t363, .bool t364, .bool t365, .bool t366] 24 (0, 0)) (by (with_reducible repeat (first | refine bN ?_ _ | refine bD ?_ | refine bA ?_ _)); refine blk_far ?_ NB370_417.out _; (with_reducible repeat (first | refine bN ?_ _ | refine bD ?_ | refine bA ?_ _)); refine blk_far ?_ NB370_417.out _; (with_reducible repeat (first | refine bN ?_ _ | refine bD ?_ | refine bA ?_ _)); refine blk_far ?_ NB370_417.out _; (with_reducible repeat (first | refine bN ?_ _ | refine bD ?_ | refine bA ?_ _)); refine blk_far ?_ NB370_417.out _; (with_reducible repeat (first | refine bN ?_ _ | refine bD ?_ | refine bA ?_ _)); refine blk_far ?_ NB370_417.out _; (with_reducible repeat (first | refine bN ?_ _ | refine bD ?_ | refine bA ?_ _)); exact BK370.out) hb); have n6_ := aM (blk_below (g := gb387) (o := .cells #[.int .i64 t379, .int .i64 t380, .bool t381, .bool t382, .bool t383] 24 (0, 0)) (by (with_reducible repeat (first | refine bN ?_ _ | refine bD ?_ | refine bA ?_ _)); refine blk_far ?_ NB387_417.out _; (with_reducible repeat (first | refine bN ?_ _ | refine bD ?_ | refine bA ?_ _)); refine blk_far ?_ NB387_417.out _; (with_reducible repeat (first | refine bN ?_ _ | refine bD ?_ | refine bA ?_ _)); refine blk_far ?_ NB387_417.out _; (with_reducible repeat (first | refine bN ?_ _ | refine bD ?_ | refine bA ?_ _)); refine blk_far ?_ NB387_417.out _; (with_reducible repeat (first | refine bN ?_ _ | refine bD ?_ | refine bA ?_ _)); refine blk_far ?_ NB387_417.out _; (with_reducible repeat (first | refine bN ?_ _ | refine bD ?_ | refine bA ?_ _)); exact BK387.out) hb); have n7_ := aM (blk_below (g := gb417) (o := .cells #[.int .i64 t409, .int .i64 t410, .bool t411, .bool t412, .bool t413] 24 (0, 0)) (by (with_reducible repeat (first | refine bN ?_ _ | refine bD ?_ | refine bA ?_ _)); refine blk_put (cs := #[.int .i64 t409, .int .i64 t410, .bool t411, .bool t412, .bool false]) ?_ 4 _ rfl; (with_reducible repeat (first | refine bN ?_ _ | refine bD ?_ | refine bA ?_ _)); refine blk_put (cs := #[.int .i64 t409, .int .i64 t410, .bool t411, .bool false, .bool false]) ?_ 3 _ rfl; (with_reducible repeat (first | refine bN ?_ _ | refine bD ?_ | refine bA ?_ _)); refine blk_put (cs := #[.int .i64 t409, .int .i64 t410, .bool false, .bool false, .bool false]) ?_ 2 _ rfl; (with_reducible repeat (first | refine bN ?_ _ | refine bD ?_ | refine bA ?_ _)); refine blk_put (cs := #[.int .i64 t409, .int .i64 0, .bool false, .bool false, .bool false]) ?_ 1 _ rfl; (with_reducible repeat (first | refine bN ?_ _ | refine bD ?_ | refine bA ?_ _)); refine blk_put (cs := #[.int .i64 0, .int .i64 0, .bool false, .bool false, .bool false]) ?_ 0 _ rfl; (with_reducible repeat (first | refine bN ?_ _ | refine bD ?_ | refine bA ?_ _)); exact BK417.out) hb); have n8_ := aM (below_step (by repeat (first | (with_reducible first | exact HB.out | apply eA | apply eN | apply eD | refine eS ?_ GE353.out | refine eS ?_ GE370.out | refine eS ?_ GE387.out | refine eS ?_ GE417.out) | exact HB.out)) hb); clear HO_6; clear HO_9; clear HO408; clear HO416; clear BK353; clear BK370; clear BK387; clear BK417; clear HB; have HO_6 := n0_; have HO_9 := n1_; have HO408 := n2_; have HO416 := n3_; have BK353 := n4_; have BK370 := n5_; have BK387 := n6_; have BK417 := n7_; have HB := n8_; clear n0_ n1_ n2_ n3_ n4_ n5_ n6_ n7_ n8_; (try clear hb); (try clear hb2); (try clear hk); (try clear hi)))
             go_meet
             case rel => exact ⟨_, (true), (by first | rfl | (simp; done) | (simp [*]; done)), H', ⟨by have := HJ10.out; have := HJ51.out; first | omega | exact Nat.le_refl _⟩, ⟨by (with_reducible repeat (first | apply Kd.R_alloc | apply Kd.R_drewN | apply Kd.R_drew)); exact Kd.R_mono HO_9.out (fun _ hk => trivial)⟩, ⟨by exact pk BK353.out⟩, ⟨by exact pk BK370.out⟩, ⟨by exact pk BK387.out⟩, ⟨by exact pk BK417.out⟩, ⟨by repeat (first | (with_reducible first | exact HB.out | apply eA | apply eN | apply eD | refine eS ?_ GE353.out | refine eS ?_ GE370.out | refine eS ?_ GE387.out | refine eS ?_ GE417.out) | exact HB.out)⟩⟩
           case rest =>
            clear HC82
            try clear c1
            try clear c2
            try clear p2
            try clear c3
            try clear c3b0
            try clear c3b1
            try clear c4
            try clear c5
            try clear c6
            try clear c7
            try clear c8
            try clear c9
            try clear c10
            try clear c11
            try clear c14
            try clear c16
            try clear c19
            try clear c27
            try clear c28
            try clear c31
            try clear c33
            try clear c34
            try clear c36
            try clear c41
            try clear c42
            try clear c43
            try clear c44
            try clear c45
            try clear c46
            try clear c47
            try clear c48
            try clear c50
            try clear c56
            try clear c56b0
            try clear c58
            try clear c60
            try clear c61
            try clear c63
            try clear c68
            try clear c69
            try clear c71
            try clear c74
            try clear c77
            try clear c77b0
            try clear c78
            try clear c78b0
            try clear c78b1
            try clear c85
            try clear c86
            try clear c93
            try clear c94
            try clear c95
            try clear c98
            try clear c100
            try clear c101
            try clear c102
            try clear c104
            try clear c105
            try clear c110
            try clear c111
            try clear c112
            try clear c114
            try clear c115
            try clear hcz103_0 hcz103_1 hcz103_2 hcz103_3 hcz103_4 hfz103_0 hfz103_1 hfz103_2 hfz103_3 hfz103_4
            try clear hcz106_0 hcz106_1 hcz106_2 hcz106_3 hcz106_4 hfz106_0 hfz106_1 hfz106_2 hfz106_3 hfz106_4
            try clear hcz113_0 hcz113_1 hcz113_2 hcz113_3 hcz113_4 hfz113_0 hfz113_1 hfz113_2 hfz113_3 hfz113_4
            try clear hcz116_0 hcz116_1 hcz116_2 hcz116_3 hcz116_4 hfz116_0 hfz116_1 hfz116_2 hfz116_3 hfz116_4
            try clear hcz13_0 hcz13_1 hcz13_2 hcz13_3 hcz13_4 hfz13_0 hfz13_1 hfz13_2 hfz13_3 hfz13_4
            try clear hcz20_0 hcz20_1 hcz20_2 hcz20_3 hcz20_4 hfz20_0 hfz20_1 hfz20_2 hfz20_3 hfz20_4
            try clear hcz22_0 hcz22_1 hcz22_2 hcz22_3 hcz22_4 hfz22_0 hfz22_1 hfz22_2 hfz22_3 hfz22_4
            try clear hcz29_0 hcz29_1 hcz29_2 hcz29_3 hcz29_4 hfz29_0 hfz29_1 hfz29_2 hfz29_3 hfz29_4
            try clear hcz35_0 hcz35_1 hcz35_2 hcz35_3 hcz35_4 hfz35_0 hfz35_1 hfz35_2 hfz35_3 hfz35_4
            try clear hcz37_0 hcz37_1 hcz37_2 hcz37_3 hcz37_4 hfz37_0 hfz37_1 hfz37_2 hfz37_3 hfz37_4
            try clear hcz43_0 hcz43_1 hcz43_2 hcz43_3 hcz43_4 hfz43_0 hfz43_1 hfz43_2 hfz43_3 hfz43_4
            try clear hcz45_0 hcz45_1 hcz45_2 hcz45_3 hcz45_4 hfz45_0 hfz45_1 hfz45_2 hfz45_3 hfz45_4
            try clear hcz62_0 hcz62_1 hcz62_2 hcz62_3 hcz62_4 hfz62_0 hfz62_1 hfz62_2 hfz62_3 hfz62_4
            try clear hcz64_0 hcz64_1 hcz64_2 hcz64_3 hcz64_4 hfz64_0 hfz64_1 hfz64_2 hfz64_3 hfz64_4
            try clear hcz70_0 hcz70_1 hcz70_2 hcz70_3 hcz70_4 hfz70_0 hfz70_1 hfz70_2 hfz70_3 hfz70_4
            try clear hcz72_0 hcz72_1 hcz72_2 hcz72_3 hcz72_4 hfz72_0 hfz72_1 hfz72_2 hfz72_3 hfz72_4
            try clear hcz87_0 hcz87_1 hcz87_2 hcz87_3 hcz87_4 hfz87_0 hfz87_1 hfz87_2 hfz87_3 hfz87_4
            try clear hcz96_0 hcz96_1 hcz96_2 hcz96_3 hcz96_4 hfz96_0 hfz96_1 hfz96_2 hfz96_3 hfz96_4
            try clear p2
            obtain ⟨kq, x95_81, rfl, HA, HJ81, HO_9, BK353, BK370, BK387, BK417, HB⟩ := hcut
            have hl9_81 := (Kd.R_reads' HO_9.out).1
            rw [hl9_81] at HO_9
            (try simp only [hl9_81])
            (try simp only [hl9_81] at BK353)
            (try simp only [hl9_81] at BK370)
            (try simp only [hl9_81] at BK387)
            (try simp only [hl9_81] at BK417)
            cases kq with
            | zero => exact absurd HA.out (by simp [laws_FnExactDoActs.j2])
            | succ kj81 =>
             have H := HA.out
             clear HA
             simp only [laws_FnExactDoActs.j2] at H
             by_cases c118 : x95_81 = true
             ·subst c118
              have H1 : (none) = some r := by rw [if_pos rfl] at H; exact H
              clear H
              have H := H1
              clear H1
              exact absurd H (by simp)
             ·replace c118 := Bool.eq_false_iff.mpr c118
              subst c118
              have H1 : ((laws_heldIntS.f kj81 t399 1).bind fun t420 => (if t420 < 0 then (none) else (if t420 = t398 then (some true) else (none)))) = some r := by rw [if_neg (show ¬ (false = true) by decide)] at H; exact H
              clear H
              have H := H1
              clear H1
              replace H := Option.bind_eq_some_iff.mp H
              obtain ⟨t420, A1190, H⟩ := H
              replace H : (if t420 < 0 then (none) else (if t420 = t398 then (some true) else (none))) = some r := H
              have A119 := aM A1190
              clear A1190
              by_cases c120 : t420 < 0
              ·rw [if_pos c120] at H
               exact absurd H (by simp)
              ·rw [if_neg c120] at H
               have c120b0 : decide (t420 < 0) = false := decide_eq_false c120
               clear c120
               by_cases c121 : t420 = t398
               ·rw [if_pos c121] at H
                have c121b0 : (t420 == t398) = true := beq_iff_eq.mpr c121
                have c121b1 : (t420 != t398) = false := bne_eq_false_iff_eq.mpr c121
                clear c121
                obtain rfl := Option.some.inj H
                go_wp2_with (first | ((with_reducible refine gate_callee (f := 48) rfl ?_); refine goesL_ (some 98) rfl rfl Try.func48 (by kernel_rfl) rfl #[.slice Ao83 t399.length co83, .int .i64 1] rfl (by (try simp only [List.map_toArray, List.map_cons, List.map_nil]); first | done | rfl | (simp only [List.length_drop, List.length_take]; rfl)) ?_; (with_reducible refine (laws_heldIntS.calls kj81 _ _ t399 1 t420 _ ?side1 ?side2 A119.out).mono ?_); (case side1 => repeat (first | exact (Kd.R_reads' HO_9.out).2.2 | (with_reducible refine Kd.C_alloc ?_ _) | (with_reducible refine Kd.C_drewN ?_ _) | (with_reducible refine Kd.C_drew ?_))); (case side2 => exact (Kd.R_reads' HO_9.out).2.1); rintro e w' ⟨rfl, ⟨nd, rfl⟩⟩; refine ⟨_, rfl, ?_⟩))
                go_ret
                exact ⟨by first | rfl | (simp [errW_none, errW_some] <;> rfl) | (simp [*, errW_none, errW_some] <;> rfl), by repeat (first | (with_reducible first | exact HB.out | apply eA | apply eN | apply eD | refine eS ?_ GE353.out | refine eS ?_ GE370.out | refine eS ?_ GE387.out | refine eS ?_ GE417.out) | exact HB.out)⟩
               ·rw [if_neg c121] at H
                exact absurd H (by simp)
          ·rw [if_neg c78] at H
           exact absurd H (by simp)
     ·replace c50 := Bool.eq_false_iff.mpr c50
      subst c50
      have H1 : (none) = some r := by rw [if_neg (show ¬ (false = true) by decide)] at H; exact H
      clear H
      have H := H1
      clear H1
      exact absurd H (by simp)

end Go.Proofs.Ytglpkjcblpjnoab.QFnExactDoActs
