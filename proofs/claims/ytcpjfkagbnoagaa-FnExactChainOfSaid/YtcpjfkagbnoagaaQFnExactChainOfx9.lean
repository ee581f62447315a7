-- Printed functions and their walks: by print.py, turned by wip/tools/myprint.py.
import Derived.Test.YtcpjfkagbnoagaaQFnExactChainOfx0
import Derived.Test.YtcpjfkagbnoagaaQFnExactChainOfx1
import Derived.Test.YtcpjfkagbnoagaaQFnExactChainOfx4
import Derived.Test.YtcpjfkagbnoagaaQFnExactChainOfx7
import Derived.Test.YtcpjfkagbnoagaaQFnExactChainOfx8
namespace Go.Proofs.Ytcpjfkagbnoagaa.QFnExactChainOf
open Go.RowKit Go.Proofs.YtcpjfkagbnoagaaW.PrintWords Go.Proofs.YtcpjfkagbnoagaaW.PrintLast Go.Proofs.YtcpjfkagbnoagaaW.PrintMore
attribute [local go_sem] max2_int min2_int max_two min_two max_three min_three max_four min_four   -- for this text's walks alone
set_option linter.unusedVariables false
set_option linter.unusedSimpArgs false

/-! ### laws_FnExactChainOf: function 9 -/
mutual
def laws_FnExactChainOf.j0 : Nat → List (S23) → Int → Int → Int → Int → List Int → Bool → List (S25) → List Int → Bool → Bool → Option (Bool)
 | 0, _, _, _, _, _, _, _, _, _, _, _ => none
 | k + 1, x0, x1, x2, x3, x4, x12, x13, x14, x15, x16, x56 => if x56 = true then (none) else ((laws_toGrantS.f k x0).bind fun t211 => ((laws_eqGrantS.f k x14 t211).bind fun t214 => (if t214 = true then ((laws_markGrantS.f k x14 1).bind fun bt215 => (if bt215.1 < 0 then (laws_FnExactChainOf.j1 k x0 x1 x2 x3 x4 x12 x13 x15 true) else ((laws_eqIntS.f k x15 x12).bind fun t217 => (if t217 = true then (laws_FnExactChainOf.j1 k x0 x1 x2 x3 x4 x12 x13 x15 (x16 != x13)) else (laws_FnExactChainOf.j1 k x0 x1 x2 x3 x4 x12 x13 x15 true))))) else (none))))
def laws_FnExactChainOf.j1 : Nat → List (S23) → Int → Int → Int → Int → List Int → Bool → List Int → Bool → Option (Bool)
 | 0, _, _, _, _, _, _, _, _, _ => none
 | k + 1, x0, x1, x2, x3, x4, x12, x13, x15, x77 => if x77 = true then (none) else ((laws_markIntS.f k x15 1).bind fun bt218 => ((laws_heldIntS.f k bt218.2 1).bind fun t220 => (if t220 < 0 then (none) else (if t220 = bt218.1 then ((laws_toGrantS.f k x0).bind fun t221 => ((impl_ChainOf.f k t221 x1 x2 x3 x4).bind fun bt224 => ((laws_eqIntS.f k bt224.1 x12).bind fun t228 => (if t228 = true then (laws_FnExactChainOf.j2 k bt218.2 bt218.1 (bt224.2 != x13)) else (laws_FnExactChainOf.j2 k bt218.2 bt218.1 true))))) else (none)))))
def laws_FnExactChainOf.j2 : Nat → List Int → Int → Bool → Option (Bool)
 | 0, _, _, _ => none
 | k + 1, x15, x18, x107 => if x107 = true then (none) else ((laws_heldIntS.f k x15 1).bind fun t229 => (if t229 < 0 then (none) else (if t229 = x18 then (some true) else (none))))
end
def laws_FnExactChainOf.f (k : Nat) (l0 : List (S23)) (a1 : Int) (a2 : Int) (a3 : Int) (a4 : Int) : Option (Bool) := (laws_szGrantS.f l0 1048576).bind fun t195 => (if t195 < 0 then (some true) else ((laws_toGrantS.f k l0).bind fun t196 => ((spec_ChainOf.f k t196 a1 a2 a3 a4).bind fun bt199 => ((laws_toGrantS.f k l0).bind fun t203 => ((impl_ChainOf.f k t203 a1 a2 a3 a4).bind fun bt206 => ((laws_eqIntS.f k bt206.1 bt199.1).bind fun t210 => (if t210 = true then (laws_FnExactChainOf.j0 k l0 a1 a2 a3 a4 bt199.1 bt199.2 t203 bt206.1 bt206.2 (bt206.2 != bt199.2)) else (laws_FnExactChainOf.j0 k l0 a1 a2 a3 a4 bt199.1 bt199.2 t203 bt206.1 bt206.2 true))))))))
theorem laws_FnExactChainOf.mono_l : ∀ k, (∀ y0 y1 y2 y3 y4 y5 y6 y7 y8 y9 y10, LeO (laws_FnExactChainOf.j0 k y0 y1 y2 y3 y4 y5 y6 y7 y8 y9 y10) (laws_FnExactChainOf.j0 (k + 1) y0 y1 y2 y3 y4 y5 y6 y7 y8 y9 y10)) ∧ (∀ y0 y1 y2 y3 y4 y5 y6 y7 y8, LeO (laws_FnExactChainOf.j1 k y0 y1 y2 y3 y4 y5 y6 y7 y8) (laws_FnExactChainOf.j1 (k + 1) y0 y1 y2 y3 y4 y5 y6 y7 y8)) ∧ (∀ y0 y1 y2, LeO (laws_FnExactChainOf.j2 k y0 y1 y2) (laws_FnExactChainOf.j2 (k + 1) y0 y1 y2))
 | 0 => ⟨fun _ _ _ _ _ _ _ _ _ _ _ r h => by simp [laws_FnExactChainOf.j0] at h, fun _ _ _ _ _ _ _ _ _ r h => by simp [laws_FnExactChainOf.j1] at h, fun _ _ _ r h => by simp [laws_FnExactChainOf.j2] at h⟩
 | k + 1 => by
  obtain ⟨ih0, ih1, ih2⟩ := laws_FnExactChainOf.mono_l k
  refine ⟨?_, ?_, ?_⟩
  ·intro y0 y1 y2 y3 y4 y5 y6 y7 y8 y9 y10
   unfold laws_FnExactChainOf.j0
   repeat' first
   | (with_reducible exact ih0 _ _ _ _ _ _ _ _ _ _ _)
   | (with_reducible exact ih1 _ _ _ _ _ _ _ _ _)
   | (with_reducible exact ih2 _ _ _)
   | (with_reducible exact impl_ChainOf.mono _ _ _ _ _ _)
   | (with_reducible exact laws_eqGrantS.mono _ _ _)
   | (with_reducible exact laws_eqIntS.mono _ _ _)
   | (with_reducible exact laws_heldIntS.mono _ _ _)
   | (with_reducible exact laws_markGrantS.mono _ _ _)
   | (with_reducible exact laws_markIntS.mono _ _ _)
   | (with_reducible exact laws_toGrantS.mono _ _)
   | (with_reducible exact spec_ChainOf.mono _ _ _ _ _ _)
   | (with_reducible exact LeO.refl _)
   | (with_reducible exact LeO.none _)
   | (with_reducible refine LeO.ite ?_ ?_)
   | (with_reducible refine LeO.bind ?_ (fun _ => ?_))
   | exact ih0 _ _ _ _ _ _ _ _ _ _ _
   | exact ih1 _ _ _ _ _ _ _ _ _
   | exact ih2 _ _ _
   | exact impl_ChainOf.mono _ _ _ _ _ _
   | exact laws_eqGrantS.mono _ _ _
   | exact laws_eqIntS.mono _ _ _
   | exact laws_heldIntS.mono _ _ _
   | exact laws_markGrantS.mono _ _ _
   | exact laws_markIntS.mono _ _ _
   | exact laws_toGrantS.mono _ _
   | exact spec_ChainOf.mono _ _ _ _ _ _
   | exact LeO.none _
   | refine LeO.ite ?_ ?_
   | refine LeO.bind ?_ (fun _ => ?_)
  ·intro y0 y1 y2 y3 y4 y5 y6 y7 y8
   unfold laws_FnExactChainOf.j1
   repeat' first
   | (with_reducible exact ih0 _ _ _ _ _ _ _ _ _ _ _)
   | (with_reducible exact ih1 _ _ _ _ _ _ _ _ _)
   | (with_reducible exact ih2 _ _ _)
   | (with_reducible exact impl_ChainOf.mono _ _ _ _ _ _)
   | (with_reducible exact laws_eqGrantS.mono _ _ _)
   | (with_reducible exact laws_eqIntS.mono _ _ _)
   | (with_reducible exact laws_heldIntS.mono _ _ _)
   | (with_reducible exact laws_markGrantS.mono _ _ _)
   | (with_reducible exact laws_markIntS.mono _ _ _)
   | (with_reducible exact laws_toGrantS.mono _ _)
   | (with_reducible exact spec_ChainOf.mono _ _ _ _ _ _)
   | (with_reducible exact LeO.refl _)
   | (with_reducible exact LeO.none _)
   | (with_reducible refine LeO.ite ?_ ?_)
   | (with_reducible refine LeO.bind ?_ (fun _ => ?_))
   | exact ih0 _ _ _ _ _ _ _ _ _ _ _
   | exact ih1 _ _ _ _ _ _ _ _ _
   | exact ih2 _ _ _
   | exact impl_ChainOf.mono _ _ _ _ _ _
   | exact laws_eqGrantS.mono _ _ _
   | exact laws_eqIntS.mono _ _ _
   | exact laws_heldIntS.mono _ _ _
   | exact laws_markGrantS.mono _ _ _
   | exact laws_markIntS.mono _ _ _
   | exact laws_toGrantS.mono _ _
   | exact spec_ChainOf.mono _ _ _ _ _ _
   | exact LeO.none _
   | refine LeO.ite ?_ ?_
   | refine LeO.bind ?_ (fun _ => ?_)
  ·intro y0 y1 y2
   unfold laws_FnExactChainOf.j2
   repeat' first
   | (with_reducible exact ih0 _ _ _ _ _ _ _ _ _ _ _)
   | (with_reducible exact ih1 _ _ _ _ _ _ _ _ _)
   | (with_reducible exact ih2 _ _ _)
   | (with_reducible exact impl_ChainOf.mono _ _ _ _ _ _)
   | (with_reducible exact laws_eqGrantS.mono _ _ _)
   | (with_reducible exact laws_eqIntS.mono _ _ _)
   | (with_reducible exact laws_heldIntS.mono _ _ _)
   | (with_reducible exact laws_markGrantS.mono _ _ _)
   | (with_reducible exact laws_markIntS.mono _ _ _)
   | (with_reducible exact laws_toGrantS.mono _ _)
   | (with_reducible exact spec_ChainOf.mono _ _ _ _ _ _)
   | (with_reducible exact LeO.refl _)
   | (with_reducible exact LeO.none _)
   | (with_reducible refine LeO.ite ?_ ?_)
   | (with_reducible refine LeO.bind ?_ (fun _ => ?_))
   | exact ih0 _ _ _ _ _ _ _ _ _ _ _
   | exact ih1 _ _ _ _ _ _ _ _ _
   | exact ih2 _ _ _
   | exact impl_ChainOf.mono _ _ _ _ _ _
   | exact laws_eqGrantS.mono _ _ _
   | exact laws_eqIntS.mono _ _ _
   | exact laws_heldIntS.mono _ _ _
   | exact laws_markGrantS.mono _ _ _
   | exact laws_markIntS.mono _ _ _
   | exact laws_toGrantS.mono _ _
   | exact spec_ChainOf.mono _ _ _ _ _ _
   | exact LeO.none _
   | refine LeO.ite ?_ ?_
   | refine LeO.bind ?_ (fun _ => ?_)
theorem laws_FnExactChainOf.mono : ∀ a0 a1 a2 a3 a4 k, LeO (laws_FnExactChainOf.f k a0 a1 a2 a3 a4) (laws_FnExactChainOf.f (k + 1) a0 a1 a2 a3 a4) := by
 intro a0 a1 a2 a3 a4 k
 obtain ⟨ih0, ih1, ih2⟩ := laws_FnExactChainOf.mono_l k
 unfold laws_FnExactChainOf.f
 repeat' first
   | (with_reducible exact ih0 _ _ _ _ _ _ _ _ _ _ _)
   | (with_reducible exact ih1 _ _ _ _ _ _ _ _ _)
   | (with_reducible exact ih2 _ _ _)
   | (with_reducible exact impl_ChainOf.mono _ _ _ _ _ _)
   | (with_reducible exact laws_eqGrantS.mono _ _ _)
   | (with_reducible exact laws_eqIntS.mono _ _ _)
   | (with_reducible exact laws_heldIntS.mono _ _ _)
   | (with_reducible exact laws_markGrantS.mono _ _ _)
   | (with_reducible exact laws_markIntS.mono _ _ _)
   | (with_reducible exact laws_toGrantS.mono _ _)
   | (with_reducible exact spec_ChainOf.mono _ _ _ _ _ _)
   | (with_reducible exact LeO.refl _)
   | (with_reducible exact LeO.none _)
   | (with_reducible refine LeO.ite ?_ ?_)
   | (with_reducible refine LeO.bind ?_ (fun _ => ?_))
   | exact ih0 _ _ _ _ _ _ _ _ _ _ _
   | exact ih1 _ _ _ _ _ _ _ _ _
   | exact ih2 _ _ _
   | exact impl_ChainOf.mono _ _ _ _ _ _
   | exact laws_eqGrantS.mono _ _ _
   | exact laws_eqIntS.mono _ _ _
   | exact laws_heldIntS.mono _ _ _
   | exact laws_markGrantS.mono _ _ _
   | exact laws_markIntS.mono _ _ _
   | exact laws_toGrantS.mono _ _
   | exact spec_ChainOf.mono _ _ _ _ _ _
   | exact LeO.none _
   | refine LeO.ite ?_ ?_
   | refine LeO.bind ?_ (fun _ => ?_)
set_option maxHeartbeats 8000000 in
set_option maxRecDepth 100000 in
theorem laws_FnExactChainOf.calls (k : Nat) (A0 : Option Addr) (c0 : Nat) (l0 : List (S23)) (a1 : Int) (a2 : Int) (a3 : Int) (a4 : Int) (r : Bool) (w : World) (hr0 : Kd.C k23 w A0 l0.length l0) (hc0 : l0.length ≤ c0) (h : laws_FnExactChainOf.f k l0 a1 a2 a3 a4 = some r) :
  Calls Try.prog 9 #[.slice A0 l0.length c0, .int .i64 a1, .int .i64 a2, .int .i64 a3, .int .i64 a4] w fun e w' => e = .returned (.bool r) ∧ Below w.heap.size w w' := by
 have HR0 := aM hr0
 have HC0 := aM hc0
 clear hr0 hc0
 have HB := aM (Below.refl w.heap.size w)
 have H : ((laws_szGrantS.f l0 1048576).bind fun t195 => (if t195 < 0 then (some true) else ((laws_toGrantS.f k l0).bind fun t196 => ((spec_ChainOf.f k t196 a1 a2 a3 a4).bind fun bt199 => ((laws_toGrantS.f k l0).bind fun t203 => ((impl_ChainOf.f k t203 a1 a2 a3 a4).bind fun bt206 => ((laws_eqIntS.f k bt206.1 bt199.1).bind fun t210 => (if t210 = true then (laws_FnExactChainOf.j0 k l0 a1 a2 a3 a4 bt199.1 bt199.2 t203 bt206.1 bt206.2 (bt206.2 != bt199.2)) else (laws_FnExactChainOf.j0 k l0 a1 a2 a3 a4 bt199.1 bt199.2 t203 bt206.1 bt206.2 true))))))))) = some r := h
 clear h
 replace H := Option.bind_eq_some_iff.mp H
 obtain ⟨t195, A60, H⟩ := H
 replace H : (if t195 < 0 then (some true) else ((laws_toGrantS.f k l0).bind fun t196 => ((spec_ChainOf.f k t196 a1 a2 a3 a4).bind fun bt199 => ((laws_toGrantS.f k l0).bind fun t203 => ((impl_ChainOf.f k t203 a1 a2 a3 a4).bind fun bt206 => ((laws_eqIntS.f k bt206.1 bt199.1).bind fun t210 => (if t210 = true then (laws_FnExactChainOf.j0 k l0 a1 a2 a3 a4 bt199.1 bt199.2 t203 bt206.1 bt206.2 (bt206.2 != bt199.2)) else (laws_FnExactChainOf.j0 k l0 a1 a2 a3 a4 bt199.1 bt199.2 t203 bt206.1 bt206.2 true)))))))) = some r := H
 have A6 := aM A60
 clear A60
 by_cases c7 : t195 < 0
 ·rw [if_pos c7] at H
  have c7b0 : decide (t195 < 0) = true := decide_eq_true c7
  clear c7
  obtain rfl := Option.some.inj H
  go_enter Try.func9, Try.ntmps9
  go_wp2_with (first | ((with_reducible refine gate_callee (f := 23) rfl ?_); refine goesL_ (some 24) rfl rfl Try.func23 (by kernel_rfl) rfl #[.slice A0 l0.length c0, .int .i64 1048576] rfl za ?_; (with_reducible refine (laws_szGrantS.calls _ _ l0 1048576 t195 _ ?side1 ?side2 A6.out).mono ?_); (case side1 => repeat (first | exact HR0.out | (with_reducible refine Kd.C_alloc ?_ _) | (with_reducible refine Kd.C_drewN ?_ _) | (with_reducible refine Kd.C_drew ?_))); (case side2 => exact HC0.out); rintro e w' ⟨rfl, ⟨nd, rfl⟩⟩; refine ⟨_, rfl, ?_⟩))
  go_ret
  exact ⟨zr, zb⟩
 ·rw [if_neg c7] at H
  have c7b0 : decide (t195 < 0) = false := decide_eq_false c7
  clear c7
  replace H := Option.bind_eq_some_iff.mp H
  obtain ⟨t196, A80, H⟩ := H
  replace H : ((spec_ChainOf.f k t196 a1 a2 a3 a4).bind fun bt199 => ((laws_toGrantS.f k l0).bind fun t203 => ((impl_ChainOf.f k t203 a1 a2 a3 a4).bind fun bt206 => ((laws_eqIntS.f k bt206.1 bt199.1).bind fun t210 => (if t210 = true then (laws_FnExactChainOf.j0 k l0 a1 a2 a3 a4 bt199.1 bt199.2 t203 bt206.1 bt206.2 (bt206.2 != bt199.2)) else (laws_FnExactChainOf.j0 k l0 a1 a2 a3 a4 bt199.1 bt199.2 t203 bt206.1 bt206.2 true)))))) = some r := H
  have A8 := aM A80
  clear A80
  replace H := Option.bind_eq_some_iff.mp H
  obtain ⟨⟨t199, t200⟩, A90, H⟩ := H
  replace H : ((laws_toGrantS.f k l0).bind fun t203 => ((impl_ChainOf.f k t203 a1 a2 a3 a4).bind fun bt206 => ((laws_eqIntS.f k bt206.1 t199).bind fun t210 => (if t210 = true then (laws_FnExactChainOf.j0 k l0 a1 a2 a3 a4 t199 t200 t203 bt206.1 bt206.2 (bt206.2 != t200)) else (laws_FnExactChainOf.j0 k l0 a1 a2 a3 a4 t199 t200 t203 bt206.1 bt206.2 true))))) = some r := H
  have A9 := aM A90
  clear A90
  replace H := Option.bind_eq_some_iff.mp H
  obtain ⟨t203, A100, H⟩ := H
  replace H : ((impl_ChainOf.f k t203 a1 a2 a3 a4).bind fun bt206 => ((laws_eqIntS.f k bt206.1 t199).bind fun t210 => (if t210 = true then (laws_FnExactChainOf.j0 k l0 a1 a2 a3 a4 t199 t200 t203 bt206.1 bt206.2 (bt206.2 != t200)) else (laws_FnExactChainOf.j0 k l0 a1 a2 a3 a4 t199 t200 t203 bt206.1 bt206.2 true)))) = some r := H
  have A10 := aM A100
  clear A100
  replace H := Option.bind_eq_some_iff.mp H
  obtain ⟨⟨t206, t207⟩, A110, H⟩ := H
  replace H : ((laws_eqIntS.f k t206 t199).bind fun t210 => (if t210 = true then (laws_FnExactChainOf.j0 k l0 a1 a2 a3 a4 t199 t200 t203 t206 t207 (t207 != t200)) else (laws_FnExactChainOf.j0 k l0 a1 a2 a3 a4 t199 t200 t203 t206 t207 true))) = some r := H
  have A11 := aM A110
  clear A110
  have HC12 := aM H
  clear H
  go_enter Try.func9, Try.ntmps9
  go_upto_region 8 with (first | ((with_reducible refine gate_callee (f := 23) rfl ?_); refine goesL_ (some 24) rfl rfl Try.func23 (by kernel_rfl) rfl #[.slice A0 l0.length c0, .int .i64 1048576] rfl za ?_; (with_reducible refine (laws_szGrantS.calls _ _ l0 1048576 t195 _ ?side1 ?side2 A6.out).mono ?_); (case side1 => repeat (first | exact HR0.out | (with_reducible refine Kd.C_alloc ?_ _) | (with_reducible refine Kd.C_drewN ?_ _) | (with_reducible refine Kd.C_drew ?_))); (case side2 => exact HC0.out); rintro e w' ⟨rfl, ⟨nd, rfl⟩⟩; refine ⟨_, rfl, ?_⟩) | ((with_reducible refine gate_callee (f := 25) rfl ?_); refine goesL_ (some 29) rfl rfl Try.func25 (by kernel_rfl) rfl #[.slice A0 l0.length c0] rfl za ?_; (with_reducible refine (laws_toGrantS.calls k _ _ l0 t196 _ ?side1 ?side2 A8.out).mono ?_); (case side1 => repeat (first | exact HR0.out | (with_reducible refine Kd.C_alloc ?_ _) | (with_reducible refine Kd.C_drewN ?_ _) | (with_reducible refine Kd.C_drew ?_))); (case side2 => exact HC0.out); rintro e w13 ⟨v197, rfl, ho0, hb⟩; refine ⟨_, rfl, ?_⟩; have n0_ := aM (Kd.R_lower ho0 (below_size (zb))); have n1_ := aM (below_step (zb) hb); clear HB; have HO198 := n0_; have HB := n1_; clear n0_ n1_; (try clear hb); (try clear hb2); (try clear hk); (try clear hi); (try clear ho0); obtain ⟨Ao14, co14, eo14⟩ := Kd.R_slice HO198.out; subst eo14) | ((with_reducible refine gate_callee (f := 37) rfl ?_); refine goesL_ (some 34) rfl rfl Try.func37 (by kernel_rfl) rfl #[.slice Ao14 t196.length co14, .int .i64 a1, .int .i64 a2, .int .i64 a3, .int .i64 a4] rfl za ?_; (with_reducible refine (spec_ChainOf.calls k _ _ t196 a1 a2 a3 a4 t199 t200 _ ?side1 ?side2 A9.out).mono ?_); (case side1 => repeat (first | exact (Kd.R_reads' HO198.out).2.2 | (with_reducible refine Kd.C_alloc ?_ _) | (with_reducible refine Kd.C_drewN ?_ _) | (with_reducible refine Kd.C_drew ?_))); (case side2 => exact (Kd.R_reads' HO198.out).2.1); rintro e w15 ⟨v201, rfl, ho0, hb⟩; refine ⟨_, rfl, ?_⟩; have n0_ := aM (Kd.R_below (by (with_reducible repeat (first | apply Kd.R_alloc | apply Kd.R_drewN | apply Kd.R_drew)); exact HO198.out) hb); have n1_ := aM (Kd.R_lower ho0 (below_size (zb))); have n2_ := aM (below_step (zb) hb); clear HO198; clear HB; have HO198 := n0_; have HO202 := n1_; have HB := n2_; clear n0_ n1_ n2_; (try clear hb); (try clear hb2); (try clear hk); (try clear hi); (try clear ho0)) | ((with_reducible refine gate_callee (f := 25) rfl ?_); refine goesL_ (some 38) rfl rfl Try.func25 (by kernel_rfl) rfl #[.slice A0 l0.length c0] rfl za ?_; (with_reducible refine (laws_toGrantS.calls k _ _ l0 t203 _ ?side1 ?side2 A10.out).mono ?_); (case side1 => repeat (first | exact (Kd.C_below HR0.out HB.out) | (with_reducible refine Kd.C_alloc ?_ _) | (with_reducible refine Kd.C_drewN ?_ _) | (with_reducible refine Kd.C_drew ?_))); (case side2 => exact HC0.out); rintro e w16 ⟨v204, rfl, ho0, hb⟩; refine ⟨_, rfl, ?_⟩; have n0_ := aM (Kd.R_elder' (by (with_reducible repeat (first | apply Kd.R_alloc | apply Kd.R_drewN | apply Kd.R_drew)); exact HO198.out) (Kd.R_base ho0) hb); have n1_ := aM (Kd.R_below (by (with_reducible repeat (first | apply Kd.R_alloc | apply Kd.R_drewN | apply Kd.R_drew)); exact HO202.out) hb); have n2_ := aM (Kd.R_lower (Kd.R_new' ho0 (Kd.R_lt (by (with_reducible repeat (first | apply Kd.R_alloc | apply Kd.R_drewN | apply Kd.R_drew)); exact HO198.out))) (below_size (zb))); have n3_ := aM (below_step (zb) hb); clear HO198; clear HO202; clear HB; have HO198 := n0_; have HO202 := n1_; have HO205 := n2_; have HB := n3_; clear n0_ n1_ n2_ n3_; (try clear hb); (try clear hb2); (try clear hk); (try clear hi); (try clear ho0); obtain ⟨Ao17, co17, eo17⟩ := Kd.R_slice HO205.out; subst eo17) | ((with_reducible refine gate_callee (f := 36) rfl ?_); refine goesL_ (some 45) rfl rfl Try.func36 (by kernel_rfl) rfl #[.slice Ao17 t203.length co17, .int .i64 a1, .int .i64 a2, .int .i64 a3, .int .i64 a4] rfl za ?_; (with_reducible refine (impl_ChainOf.calls k _ _ t203 a1 a2 a3 a4 t206 t207 _ ?side1 ?side2 A11.out).mono ?_); (case side1 => repeat (first | exact (Kd.R_reads' HO205.out).2.2 | (with_reducible refine Kd.C_alloc ?_ _) | (with_reducible refine Kd.C_drewN ?_ _) | (with_reducible refine Kd.C_drew ?_))); (case side2 => exact (Kd.R_reads' HO205.out).2.1); rintro e w18 ⟨v208, rfl, ho0, hb⟩; refine ⟨_, rfl, ?_⟩; have n0_ := aM (Kd.R_below (by (with_reducible repeat (first | apply Kd.R_alloc | apply Kd.R_drewN | apply Kd.R_drew)); exact HO198.out) hb); have n1_ := aM (Kd.R_elder' (by (with_reducible repeat (first | apply Kd.R_alloc | apply Kd.R_drewN | apply Kd.R_drew)); exact HO202.out) (Kd.R_base ho0) hb); have n2_ := aM (Kd.R_below (by (with_reducible repeat (first | apply Kd.R_alloc | apply Kd.R_drewN | apply Kd.R_drew)); exact HO205.out) hb); have n3_ := aM (Kd.R_lower (Kd.R_new' ho0 (Kd.R_lt (by (with_reducible repeat (first | apply Kd.R_alloc | apply Kd.R_drewN | apply Kd.R_drew)); exact HO202.out))) (below_size (zb))); have n4_ := aM (below_step (zb) hb); clear HO198; clear HO202; clear HO205; clear HB; have HO198 := n0_; have HO202 := n1_; have HO205 := n2_; have HO209 := n3_; have HB := n4_; clear n0_ n1_ n2_ n3_ n4_; (try clear hb); (try clear hb2); (try clear hk); (try clear hi); (try clear ho0)))
  (try simp only [Act.put, List.setIfInBounds_toArray, List.set_cons_zero, List.set_cons_succ])
  go_cut [56] (fun v56 wc => ∃ (kq : Nat) (x56_11 : Bool), v56 = .bool x56_11 ∧ Aside0 (laws_FnExactChainOf.j0 kq l0 a1 a2 a3 a4 t199 t200 t203 t206 t207 x56_11 = some r) ∧ Aside0 (kq ≤ k) ∧ Aside0 (Kd.R (Kd.int .i64) 3 wc w.heap.size (fun k_ => some k_ ≠ (v208 : Value).ownBlock) v201 t199) ∧ Aside0 (Kd.R k25 25 wc w.heap.size (fun _ => True) (.slice Ao17 t203.length co17) t203) ∧ Aside0 (Kd.R (Kd.int .i64) 3 wc w.heap.size (fun k_ => some k_ ≠ (v201 : Value).ownBlock) v208 t206) ∧ Aside0 (Below w.heap.size w wc))
  case first =>
   have H := HC12.out
   clear HC12
   replace H := Option.bind_eq_some_iff.mp H
   obtain ⟨t210, A190, H⟩ := H
   replace H : (if t210 = true then (laws_FnExactChainOf.j0 k l0 a1 a2 a3 a4 t199 t200 t203 t206 t207 (t207 != t200)) else (laws_FnExactChainOf.j0 k l0 a1 a2 a3 a4 t199 t200 t203 t206 t207 true)) = some r := H
   have A19 := aM A190
   clear A190
   by_cases c20 : t210 = true
   ·subst c20
    have H1 : (laws_FnExactChainOf.j0 k l0 a1 a2 a3 a4 t199 t200 t203 t206 t207 (t207 != t200)) = some r := by rw [if_pos rfl] at H; exact H
    clear H
    have H := H1
    clear H1
    have H' := aM H
    clear H
    obtain ⟨Ao21, co21, eo21⟩ := Kd.R_slice HO209.out
    subst eo21
    obtain ⟨Ao22, co22, eo22⟩ := Kd.R_slice HO202.out
    subst eo22
    go_wp2_with (first | ((with_reducible refine gate_callee (f := 41) rfl ?_); refine goesL_ (some 50) rfl rfl Try.func41 (by kernel_rfl) rfl #[.slice Ao21 t206.length co21, .slice Ao22 t199.length co22] rfl za ?_; (with_reducible refine (laws_eqIntS.calls k _ _ t206 _ _ t199 true _ ?side1 ?side2 ?side3 ?side4 A19.out).mono ?_); (case side1 => repeat (first | exact (Kd.R_reads' HO209.out).2.2 | (with_reducible refine Kd.C_alloc ?_ _) | (with_reducible refine Kd.C_drewN ?_ _) | (with_reducible refine Kd.C_drew ?_))); (case side2 => exact (Kd.R_reads' HO209.out).2.1); (case side3 => repeat (first | exact (Kd.R_reads' HO202.out).2.2 | (with_reducible refine Kd.C_alloc ?_ _) | (with_reducible refine Kd.C_drewN ?_ _) | (with_reducible refine Kd.C_drew ?_))); (case side4 => exact (Kd.R_reads' HO202.out).2.1); rintro e w' ⟨rfl, ⟨nd, rfl⟩⟩; refine ⟨_, rfl, ?_⟩))
    go_meet
    case rel => exact ⟨_, ((t207 != t200)), zs, H', ⟨by first | omega | exact Nat.le_refl _⟩, ⟨by (with_reducible repeat (first | apply Kd.R_alloc | apply Kd.R_drewN | apply Kd.R_drew)); exact Kd.R_mono HO202.out (fun _ hk => hk.2)⟩, ⟨by (with_reducible repeat (first | apply Kd.R_alloc | apply Kd.R_drewN | apply Kd.R_drew)); exact Kd.R_mono HO205.out (fun _ hk => trivial)⟩, ⟨by (with_reducible repeat (first | apply Kd.R_alloc | apply Kd.R_drewN | apply Kd.R_drew)); exact Kd.R_mono HO209.out (fun _ hk => hk.2)⟩, ⟨zb⟩⟩
   ·replace c20 := Bool.eq_false_iff.mpr c20
    subst c20
    have H1 : (laws_FnExactChainOf.j0 k l0 a1 a2 a3 a4 t199 t200 t203 t206 t207 true) = some r := by rw [if_neg (show ¬ (false = true) by decide)] at H; exact H
    clear H
    have H := H1
    clear H1
    have H' := aM H
    clear H
    obtain ⟨Ao23, co23, eo23⟩ := Kd.R_slice HO209.out
    subst eo23
    obtain ⟨Ao24, co24, eo24⟩ := Kd.R_slice HO202.out
    subst eo24
    go_wp2_with (first | ((with_reducible refine gate_callee (f := 41) rfl ?_); refine goesL_ (some 50) rfl rfl Try.func41 (by kernel_rfl) rfl #[.slice Ao23 t206.length co23, .slice Ao24 t199.length co24] rfl za ?_; (with_reducible refine (laws_eqIntS.calls k _ _ t206 _ _ t199 false _ ?side1 ?side2 ?side3 ?side4 A19.out).mono ?_); (case side1 => repeat (first | exact (Kd.R_reads' HO209.out).2.2 | (with_reducible refine Kd.C_alloc ?_ _) | (with_reducible refine Kd.C_drewN ?_ _) | (with_reducible refine Kd.C_drew ?_))); (case side2 => exact (Kd.R_reads' HO209.out).2.1); (case side3 => repeat (first | exact (Kd.R_reads' HO202.out).2.2 | (with_reducible refine Kd.C_alloc ?_ _) | (with_reducible refine Kd.C_drewN ?_ _) | (with_reducible refine Kd.C_drew ?_))); (case side4 => exact (Kd.R_reads' HO202.out).2.1); rintro e w' ⟨rfl, ⟨nd, rfl⟩⟩; refine ⟨_, rfl, ?_⟩))
    go_meet
    case rel => exact ⟨_, (true), zs, H', ⟨by first | omega | exact Nat.le_refl _⟩, ⟨by (with_reducible repeat (first | apply Kd.R_alloc | apply Kd.R_drewN | apply Kd.R_drew)); exact Kd.R_mono HO202.out (fun _ hk => hk.2)⟩, ⟨by (with_reducible repeat (first | apply Kd.R_alloc | apply Kd.R_drewN | apply Kd.R_drew)); exact Kd.R_mono HO205.out (fun _ hk => trivial)⟩, ⟨by (with_reducible repeat (first | apply Kd.R_alloc | apply Kd.R_drewN | apply Kd.R_drew)); exact Kd.R_mono HO209.out (fun _ hk => hk.2)⟩, ⟨zb⟩⟩
  case rest =>
   clear HC12
   try clear c2
   try clear p2
   try clear c3
   try clear c4
   try clear c7
   try clear c7b0
   try clear c9
   try clear c20
   try clear c23
   obtain ⟨kq, x56_11, rfl, HA, HJ11, HO_12, HO_14, HO_15, HB⟩ := hcut
   cases kq with
   | zero => exact absurd HA.out (by simp [laws_FnExactChainOf.j0])
   | succ kj11 =>
    have H := HA.out
    clear HA
    simp only [laws_FnExactChainOf.j0] at H
    by_cases c25 : x56_11 = true
    ·subst c25
     have H1 : (none) = some r := by rw [if_pos rfl] at H; exact H
     clear H
     have H := H1
     clear H1
     exact absurd H (by simp)
    ·replace c25 := Bool.eq_false_iff.mpr c25
     subst c25
     have H1 : ((laws_toGrantS.f kj11 l0).bind fun t211 => ((laws_eqGrantS.f kj11 t203 t211).bind fun t214 => (if t214 = true then ((laws_markGrantS.f kj11 t203 1).bind fun bt215 => (if bt215.1 < 0 then (laws_FnExactChainOf.j1 kj11 l0 a1 a2 a3 a4 t199 t200 t206 true) else ((laws_eqIntS.f kj11 t206 t199).bind fun t217 => (if t217 = true then (laws_FnExactChainOf.j1 kj11 l0 a1 a2 a3 a4 t199 t200 t206 (t207 != t200)) else (laws_FnExactChainOf.j1 kj11 l0 a1 a2 a3 a4 t199 t200 t206 true))))) else (none)))) = some r := by rw [if_neg (show ¬ (false = true) by decide)] at H; exact H
     clear H
     have H := H1
     clear H1
     replace H := Option.bind_eq_some_iff.mp H
     obtain ⟨t211, A260, H⟩ := H
     replace H : ((laws_eqGrantS.f kj11 t203 t211).bind fun t214 => (if t214 = true then ((laws_markGrantS.f kj11 t203 1).bind fun bt215 => (if bt215.1 < 0 then (laws_FnExactChainOf.j1 kj11 l0 a1 a2 a3 a4 t199 t200 t206 true) else ((laws_eqIntS.f kj11 t206 t199).bind fun t217 => (if t217 = true then (laws_FnExactChainOf.j1 kj11 l0 a1 a2 a3 a4 t199 t200 t206 (t207 != t200)) else (laws_FnExactChainOf.j1 kj11 l0 a1 a2 a3 a4 t199 t200 t206 true))))) else (none))) = some r := H
     have A26 := aM A260
     clear A260
     replace H := Option.bind_eq_some_iff.mp H
     obtain ⟨t214, A270, H⟩ := H
     replace H : (if t214 = true then ((laws_markGrantS.f kj11 t203 1).bind fun bt215 => (if bt215.1 < 0 then (laws_FnExactChainOf.j1 kj11 l0 a1 a2 a3 a4 t199 t200 t206 true) else ((laws_eqIntS.f kj11 t206 t199).bind fun t217 => (if t217 = true then (laws_FnExactChainOf.j1 kj11 l0 a1 a2 a3 a4 t199 t200 t206 (t207 != t200)) else (laws_FnExactChainOf.j1 kj11 l0 a1 a2 a3 a4 t199 t200 t206 true))))) else (none)) = some r := H
     have A27 := aM A270
     clear A270
     by_cases c28 : t214 = true
     ·subst c28
      have H1 : ((laws_markGrantS.f kj11 t203 1).bind fun bt215 => (if bt215.1 < 0 then (laws_FnExactChainOf.j1 kj11 l0 a1 a2 a3 a4 t199 t200 t206 true) else ((laws_eqIntS.f kj11 t206 t199).bind fun t217 => (if t217 = true then (laws_FnExactChainOf.j1 kj11 l0 a1 a2 a3 a4 t199 t200 t206 (t207 != t200)) else (laws_FnExactChainOf.j1 kj11 l0 a1 a2 a3 a4 t199 t200 t206 true))))) = some r := by rw [if_pos rfl] at H; exact H
      clear H
      have H := H1
      clear H1
      replace H := Option.bind_eq_some_iff.mp H
      obtain ⟨⟨t215, t216⟩, A290, H⟩ := H
      replace H : (if t215 < 0 then (laws_FnExactChainOf.j1 kj11 l0 a1 a2 a3 a4 t199 t200 t206 true) else ((laws_eqIntS.f kj11 t206 t199).bind fun t217 => (if t217 = true then (laws_FnExactChainOf.j1 kj11 l0 a1 a2 a3 a4 t199 t200 t206 (t207 != t200)) else (laws_FnExactChainOf.j1 kj11 l0 a1 a2 a3 a4 t199 t200 t206 true)))) = some r := H
      have A29 := aM A290
      clear A290
      have HC30 := aM H
      clear H
      go_upto_region 14 with (first | ((with_reducible refine gate_callee (f := 25) rfl ?_); refine goesL_ (some 59) rfl rfl Try.func25 (by kernel_rfl) rfl #[.slice A0 l0.length c0] rfl za ?_; (with_reducible refine (laws_toGrantS.calls kj11 _ _ l0 t211 _ ?side1 ?side2 A26.out).mono ?_); (case side1 => repeat (first | exact (Kd.C_below HR0.out HB.out) | (with_reducible refine Kd.C_alloc ?_ _) | (with_reducible refine Kd.C_drewN ?_ _) | (with_reducible refine Kd.C_drew ?_))); (case side2 => exact HC0.out); rintro e w31 ⟨v212, rfl, ho0, hb⟩; refine ⟨_, rfl, ?_⟩; have n0_ := aM (Kd.R_below (by (with_reducible repeat (first | apply Kd.R_alloc | apply Kd.R_drewN | apply Kd.R_drew)); exact HO_12.out) hb); have n1_ := aM (Kd.R_elder' (by (with_reducible repeat (first | apply Kd.R_alloc | apply Kd.R_drewN | apply Kd.R_drew)); exact HO_14.out) (Kd.R_base ho0) hb); have n2_ := aM (Kd.R_below (by (with_reducible repeat (first | apply Kd.R_alloc | apply Kd.R_drewN | apply Kd.R_drew)); exact HO_15.out) hb); have n3_ := aM (Kd.R_lower (Kd.R_new' ho0 (Kd.R_lt (by (with_reducible repeat (first | apply Kd.R_alloc | apply Kd.R_drewN | apply Kd.R_drew)); exact HO_14.out))) (below_size (zb))); have n4_ := aM (below_step (zb) hb); clear HO_12; clear HO_14; clear HO_15; clear HB; have HO_12 := n0_; have HO_14 := n1_; have HO_15 := n2_; have HO213 := n3_; have HB := n4_; clear n0_ n1_ n2_ n3_ n4_; (try clear hb); (try clear hb2); (try clear hk); (try clear hi); (try clear ho0); obtain ⟨Ao32, co32, eo32⟩ := Kd.R_slice HO213.out; subst eo32) | ((with_reducible refine gate_callee (f := 27) rfl ?_); refine goesL_ (some 60) rfl rfl Try.func27 (by kernel_rfl) rfl #[.slice Ao17 t203.length co17, .slice Ao32 t211.length co32] rfl za ?_; (with_reducible refine (laws_eqGrantS.calls kj11 _ _ t203 _ _ t211 true _ ?side1 ?side2 ?side3 ?side4 A27.out).mono ?_); (case side1 => repeat (first | exact (Kd.R_reads' HO_14.out).2.2 | (with_reducible refine Kd.C_alloc ?_ _) | (with_reducible refine Kd.C_drewN ?_ _) | (with_reducible refine Kd.C_drew ?_))); (case side2 => exact (Kd.R_reads' HO_14.out).2.1); (case side3 => repeat (first | exact (Kd.R_reads' HO213.out).2.2 | (with_reducible refine Kd.C_alloc ?_ _) | (with_reducible refine Kd.C_drewN ?_ _) | (with_reducible refine Kd.C_drew ?_))); (case side4 => exact (Kd.R_reads' HO213.out).2.1); rintro e w33 ⟨rfl, hb⟩; refine ⟨_, rfl, ?_⟩; have n0_ := aM (Kd.R_below (by (with_reducible repeat (first | apply Kd.R_alloc | apply Kd.R_drewN | apply Kd.R_drew)); exact HO_12.out) hb); have n1_ := aM (Kd.R_below (by (with_reducible repeat (first | apply Kd.R_alloc | apply Kd.R_drewN | apply Kd.R_drew)); exact HO_14.out) hb); have n2_ := aM (Kd.R_below (by (with_reducible repeat (first | apply Kd.R_alloc | apply Kd.R_drewN | apply Kd.R_drew)); exact HO_15.out) hb); have n3_ := aM (Kd.R_below (by (with_reducible repeat (first | apply Kd.R_alloc | apply Kd.R_drewN | apply Kd.R_drew)); exact HO213.out) hb); have n4_ := aM (below_step (zb) hb); clear HO_12; clear HO_14; clear HO_15; clear HO213; clear HB; have HO_12 := n0_; have HO_14 := n1_; have HO_15 := n2_; have HO213 := n3_; have HB := n4_; clear n0_ n1_ n2_ n3_ n4_; (try clear hb); (try clear hb2); (try clear hk); (try clear hi)) | ((with_reducible refine gate_callee (f := 30) rfl ?_); refine goesL_ (some 64) rfl rfl Try.func30 (by kernel_rfl) rfl #[.slice Ao17 t203.length co17, .int .i64 1] rfl za ?_; (with_reducible refine (laws_markGrantS.calls kj11 (fun k_ => some k_ = (.slice Ao17 t203.length co17 : Value).ownBlock) (.slice Ao17 t203.length co17) t203 1 t215 t216 w _ ?side1 ?side2 A29.out).mono ?_); (case side1 => repeat (first | (with_reducible first | exact HB.out | apply eA | apply eN | apply eD) | exact HB.out)); (case side2 => exact Kd.R_tight rfl HO_14.out); rintro e w34 ⟨rfl, hy0, hb, hkp⟩; refine ⟨_, rfl, ?_⟩; have n0_ := aM (Kd.R_mono (ok' := fun k_ => some k_ ≠ (v208 : Value).ownBlock) (Kd.R_keptB ((Kd.R_apart' HO_12.out (Kd.R_typed HO_14.out) (by decide))) hkp (fun k_ hk_ hs_ => (hk_.2) hs_)) (fun k_ hk_ => hk_.1.1)); have n1_ := aM (Kd.R_reok rfl hy0 (fun k_ e_ => HO_14.out.1 k_ e_)); have n2_ := aM (Kd.R_mono (ok' := fun k_ => some k_ ≠ (v201 : Value).ownBlock) (Kd.R_keptB ((Kd.R_apart' HO_15.out (Kd.R_typed HO_14.out) (by decide))) hkp (fun k_ hk_ hs_ => (hk_.2) hs_)) (fun k_ hk_ => hk_.1.1)); have n3_ := aM (Kd.R_mono (ok' := fun k_ => some k_ ≠ (.slice Ao17 t203.length co17 : Value).ownBlock) (Kd.R_keptB (HO213.out) hkp (fun k_ hk_ hs_ => (hk_.2) hs_)) (fun k_ hk_ => hk_.1.2)); have n4_ := aM (hb); clear HO_12; clear HO_14; clear HO_15; clear HO213; clear HB; have HO_12 := n0_; have HO_14 := n1_; have HO_15 := n2_; have HO213 := n3_; have HB := n4_; clear n0_ n1_ n2_ n3_ n4_; (try clear hb); (try clear hkp); (try clear hy0)))
      (try simp only [Act.put, List.setIfInBounds_toArray, List.set_cons_zero, List.set_cons_succ])
      go_cut [77] (fun v77 wc => ∃ (kq : Nat) (x77_29 : Bool), v77 = .bool x77_29 ∧ Aside0 (laws_FnExactChainOf.j1 kq l0 a1 a2 a3 a4 t199 t200 t206 x77_29 = some r) ∧ Aside0 (kq ≤ kj11) ∧ Aside0 (Kd.R (Kd.int .i64) 3 wc w.heap.size (fun k_ => some k_ ≠ (v208 : Value).ownBlock) v201 t199) ∧ Aside0 (Kd.R (Kd.int .i64) 3 wc w.heap.size (fun k_ => some k_ ≠ (v201 : Value).ownBlock) v208 t206) ∧ Aside0 (Below w.heap.size w wc))
      case first =>
       have H := HC30.out
       clear HC30
       by_cases c35 : t215 < 0
       ·rw [if_pos c35] at H
        have c35b0 : decide (t215 < 0) = true := decide_eq_true c35
        clear c35
        (first | rw [c35b0] | (simp only [i64_w, i32_w]; rw [c35b0]) | skip)
        have H' := aM H
        clear H
        go_wp2
        go_meet
        case rel => exact ⟨_, (true), zs, H', ⟨by have := HJ11.out; first | omega | exact Nat.le_refl _⟩, ⟨by (with_reducible repeat (first | apply Kd.R_alloc | apply Kd.R_drewN | apply Kd.R_drew)); exact HO_12.out⟩, ⟨by (with_reducible repeat (first | apply Kd.R_alloc | apply Kd.R_drewN | apply Kd.R_drew)); exact HO_15.out⟩, ⟨zb⟩⟩
       ·rw [if_neg c35] at H
        have c35b0 : decide (t215 < 0) = false := decide_eq_false c35
        clear c35
        (first | rw [c35b0] | (simp only [i64_w, i32_w]; rw [c35b0]) | skip)
        replace H := Option.bind_eq_some_iff.mp H
        obtain ⟨t217, A360, H⟩ := H
        replace H : (if t217 = true then (laws_FnExactChainOf.j1 kj11 l0 a1 a2 a3 a4 t199 t200 t206 (t207 != t200)) else (laws_FnExactChainOf.j1 kj11 l0 a1 a2 a3 a4 t199 t200 t206 true)) = some r := H
        have A36 := aM A360
        clear A360
        by_cases c37 : t217 = true
        ·subst c37
         have H1 : (laws_FnExactChainOf.j1 kj11 l0 a1 a2 a3 a4 t199 t200 t206 (t207 != t200)) = some r := by rw [if_pos rfl] at H; exact H
         clear H
         have H := H1
         clear H1
         have H' := aM H
         clear H
         obtain ⟨Ao38, co38, eo38⟩ := Kd.R_slice HO_15.out
         subst eo38
         obtain ⟨Ao39, co39, eo39⟩ := Kd.R_slice HO_12.out
         subst eo39
         go_wp2_with (first | (go_at_call 41; (with_reducible refine (laws_eqIntS.calls kj11 _ _ t206 _ _ t199 true _ ?side1 ?side2 ?side3 ?side4 A36.out).mono ?_); (case side1 => repeat (first | exact (Kd.R_reads' HO_15.out).2.2 | (with_reducible refine Kd.C_alloc ?_ _) | (with_reducible refine Kd.C_drewN ?_ _) | (with_reducible refine Kd.C_drew ?_))); (case side2 => exact (Kd.R_reads' HO_15.out).2.1); (case side3 => repeat (first | exact (Kd.R_reads' HO_12.out).2.2 | (with_reducible refine Kd.C_alloc ?_ _) | (with_reducible refine Kd.C_drewN ?_ _) | (with_reducible refine Kd.C_drew ?_))); (case side4 => exact (Kd.R_reads' HO_12.out).2.1); rintro e w' ⟨rfl, ⟨nd, rfl⟩⟩))
         go_meet
         case rel => exact ⟨_, ((t207 != t200)), zs, H', ⟨by have := HJ11.out; first | omega | exact Nat.le_refl _⟩, ⟨by (with_reducible repeat (first | apply Kd.R_alloc | apply Kd.R_drewN | apply Kd.R_drew)); exact HO_12.out⟩, ⟨by (with_reducible repeat (first | apply Kd.R_alloc | apply Kd.R_drewN | apply Kd.R_drew)); exact HO_15.out⟩, ⟨zb⟩⟩
        ·replace c37 := Bool.eq_false_iff.mpr c37
         subst c37
         have H1 : (laws_FnExactChainOf.j1 kj11 l0 a1 a2 a3 a4 t199 t200 t206 true) = some r := by rw [if_neg (show ¬ (false = true) by decide)] at H; exact H
         clear H
         have H := H1
         clear H1
         have H' := aM H
         clear H
         obtain ⟨Ao40, co40, eo40⟩ := Kd.R_slice HO_15.out
         subst eo40
         obtain ⟨Ao41, co41, eo41⟩ := Kd.R_slice HO_12.out
         subst eo41
         go_wp2_with (first | (go_at_call 41; (with_reducible refine (laws_eqIntS.calls kj11 _ _ t206 _ _ t199 false _ ?side1 ?side2 ?side3 ?side4 A36.out).mono ?_); (case side1 => repeat (first | exact (Kd.R_reads' HO_15.out).2.2 | (with_reducible refine Kd.C_alloc ?_ _) | (with_reducible refine Kd.C_drewN ?_ _) | (with_reducible refine Kd.C_drew ?_))); (case side2 => exact (Kd.R_reads' HO_15.out).2.1); (case side3 => repeat (first | exact (Kd.R_reads' HO_12.out).2.2 | (with_reducible refine Kd.C_alloc ?_ _) | (with_reducible refine Kd.C_drewN ?_ _) | (with_reducible refine Kd.C_drew ?_))); (case side4 => exact (Kd.R_reads' HO_12.out).2.1); rintro e w' ⟨rfl, ⟨nd, rfl⟩⟩))
         go_meet
         case rel => exact ⟨_, (true), zs, H', ⟨by have := HJ11.out; first | omega | exact Nat.le_refl _⟩, ⟨by (with_reducible repeat (first | apply Kd.R_alloc | apply Kd.R_drewN | apply Kd.R_drew)); exact HO_12.out⟩, ⟨by (with_reducible repeat (first | apply Kd.R_alloc | apply Kd.R_drewN | apply Kd.R_drew)); exact HO_15.out⟩, ⟨zb⟩⟩
      case rest =>
       clear HC30
       try clear c2
       try clear p2
       try clear c3
       try clear c4
       try clear c7
       try clear c7b0
       try clear c9
       try clear c20
       try clear c23
       try clear c25
       try clear c27
       try clear c28
       try clear c30
       try clear c35
       try clear c35b0
       try clear c36
       try clear c37
       try clear c41
       try clear p2
       obtain ⟨kq, x77_29, rfl, HA, HJ29, HO_12, HO_15, HB⟩ := hcut
       cases kq with
       | zero => exact absurd HA.out (by simp [laws_FnExactChainOf.j1])
       | succ kj29 =>
        have H := HA.out
        clear HA
        simp only [laws_FnExactChainOf.j1] at H
        by_cases c42 : x77_29 = true
        ·subst c42
         have H1 : (none) = some r := by rw [if_pos rfl] at H; exact H
         clear H
         have H := H1
         clear H1
         exact absurd H (by simp)
        ·replace c42 := Bool.eq_false_iff.mpr c42
         subst c42
         have H1 : ((laws_markIntS.f kj29 t206 1).bind fun bt218 => ((laws_heldIntS.f kj29 bt218.2 1).bind fun t220 => (if t220 < 0 then (none) else (if t220 = bt218.1 then ((laws_toGrantS.f kj29 l0).bind fun t221 => ((impl_ChainOf.f kj29 t221 a1 a2 a3 a4).bind fun bt224 => ((laws_eqIntS.f kj29 bt224.1 t199).bind fun t228 => (if t228 = true then (laws_FnExactChainOf.j2 kj29 bt218.2 bt218.1 (bt224.2 != t200)) else (laws_FnExactChainOf.j2 kj29 bt218.2 bt218.1 true))))) else (none))))) = some r := by rw [if_neg (show ¬ (false = true) by decide)] at H; exact H
         clear H
         have H := H1
         clear H1
         replace H := Option.bind_eq_some_iff.mp H
         obtain ⟨⟨t218, t219⟩, A430, H⟩ := H
         replace H : ((laws_heldIntS.f kj29 t219 1).bind fun t220 => (if t220 < 0 then (none) else (if t220 = t218 then ((laws_toGrantS.f kj29 l0).bind fun t221 => ((impl_ChainOf.f kj29 t221 a1 a2 a3 a4).bind fun bt224 => ((laws_eqIntS.f kj29 bt224.1 t199).bind fun t228 => (if t228 = true then (laws_FnExactChainOf.j2 kj29 t219 t218 (bt224.2 != t200)) else (laws_FnExactChainOf.j2 kj29 t219 t218 true))))) else (none)))) = some r := H
         have A43 := aM A430
         clear A430
         replace H := Option.bind_eq_some_iff.mp H
         obtain ⟨t220, A440, H⟩ := H
         replace H : (if t220 < 0 then (none) else (if t220 = t218 then ((laws_toGrantS.f kj29 l0).bind fun t221 => ((impl_ChainOf.f kj29 t221 a1 a2 a3 a4).bind fun bt224 => ((laws_eqIntS.f kj29 bt224.1 t199).bind fun t228 => (if t228 = true then (laws_FnExactChainOf.j2 kj29 t219 t218 (bt224.2 != t200)) else (laws_FnExactChainOf.j2 kj29 t219 t218 true))))) else (none))) = some r := H
         have A44 := aM A440
         clear A440
         by_cases c45 : t220 < 0
         ·rw [if_pos c45] at H
          exact absurd H (by simp)
         ·rw [if_neg c45] at H
          have c45b0 : decide (t220 < 0) = false := decide_eq_false c45
          clear c45
          by_cases c46 : t220 = t218
          ·rw [if_pos c46] at H
           have c46b0 : (t220 == t218) = true := beq_iff_eq.mpr c46
           have c46b1 : (t220 != t218) = false := bne_eq_false_iff_eq.mpr c46
           clear c46
           replace H := Option.bind_eq_some_iff.mp H
           obtain ⟨t221, A470, H⟩ := H
           replace H : ((impl_ChainOf.f kj29 t221 a1 a2 a3 a4).bind fun bt224 => ((laws_eqIntS.f kj29 bt224.1 t199).bind fun t228 => (if t228 = true then (laws_FnExactChainOf.j2 kj29 t219 t218 (bt224.2 != t200)) else (laws_FnExactChainOf.j2 kj29 t219 t218 true)))) = some r := H
           have A47 := aM A470
           clear A470
           replace H := Option.bind_eq_some_iff.mp H
           obtain ⟨⟨t224, t225⟩, A480, H⟩ := H
           replace H : ((laws_eqIntS.f kj29 t224 t199).bind fun t228 => (if t228 = true then (laws_FnExactChainOf.j2 kj29 t219 t218 (t225 != t200)) else (laws_FnExactChainOf.j2 kj29 t219 t218 true))) = some r := H
           have A48 := aM A480
           clear A480
           have HC49 := aM H
           clear H
           obtain ⟨Ao50, co50, eo50⟩ := Kd.R_slice HO_15.out
           subst eo50
           go_upto_region 25 with (first | ((with_reducible refine gate_callee (f := 42) rfl ?_); refine goesL_ (some 80) rfl rfl Try.func42 (by kernel_rfl) rfl #[.slice Ao50 t206.length co50, .int .i64 1] rfl za ?_; (with_reducible refine (laws_markIntS.calls kj29 (fun k_ => some k_ = (.slice Ao50 t206.length co50 : Value).ownBlock) (.slice Ao50 t206.length co50) t206 1 t218 t219 w _ ?side1 ?side2 A43.out).mono ?_); (case side1 => repeat (first | (with_reducible first | exact HB.out | apply eA | apply eN | apply eD) | exact HB.out)); (case side2 => exact Kd.R_tight rfl HO_15.out); rintro e w51 ⟨rfl, hy0, hb, hkp⟩; refine ⟨_, rfl, ?_⟩; have n0_ := aM (Kd.R_mono (ok' := fun k_ => some k_ ≠ (.slice Ao50 t206.length co50 : Value).ownBlock) (Kd.R_keptB (HO_12.out) hkp (fun k_ hk_ hs_ => (hk_) hs_)) (fun k_ hk_ => hk_.1)); have n1_ := aM (Kd.R_reok rfl hy0 (fun k_ e_ => HO_15.out.1 k_ e_)); have n2_ := aM (hb); clear HO_12; clear HO_15; clear HB; have HO_12 := n0_; have HO_15 := n1_; have HB := n2_; clear n0_ n1_ n2_; (try clear hb); (try clear hkp); (try clear hy0)) | ((with_reducible refine gate_callee (f := 43) rfl ?_); refine goesL_ (some 83) rfl rfl Try.func43 (by kernel_rfl) rfl #[.slice Ao50 t219.length co50, .int .i64 1] rfl (by (try simp only [List.map_toArray, List.map_cons, List.map_nil]); first | done | (rw [show t219.length = t206.length from (Kd.R_reads' HO_15.out).1.symm] <;> rfl) | rfl | (simp only [List.length_drop, List.length_take]; rfl)) ?_; (with_reducible refine (laws_heldIntS.calls kj29 _ _ t219 1 t220 _ ?side1 ?side2 A44.out).mono ?_); (case side1 => repeat (first | exact (Kd.R_reads' HO_15.out).2.2 | (with_reducible refine Kd.C_alloc ?_ _) | (with_reducible refine Kd.C_drewN ?_ _) | (with_reducible refine Kd.C_drew ?_))); (case side2 => rw [show t219.length = t206.length from (Kd.R_reads' HO_15.out).1.symm]; exact (Kd.R_reads' HO_15.out).2.1); rintro e w' ⟨rfl, ⟨nd, rfl⟩⟩; refine ⟨_, rfl, ?_⟩) | ((with_reducible refine gate_callee (f := 25) rfl ?_); refine goesL_ (some 91) rfl rfl Try.func25 (by kernel_rfl) rfl #[.slice A0 l0.length c0] rfl za ?_; (with_reducible refine (laws_toGrantS.calls kj29 _ _ l0 t221 _ ?side1 ?side2 A47.out).mono ?_); (case side1 => repeat (first | exact (Kd.C_below HR0.out (zb)) | (with_reducible refine Kd.C_alloc ?_ _) | (with_reducible refine Kd.C_drewN ?_ _) | (with_reducible refine Kd.C_drew ?_))); (case side2 => exact HC0.out); rintro e w52 ⟨v222, rfl, ho0, hb⟩; refine ⟨_, rfl, ?_⟩; have n0_ := aM (Kd.R_below (by (with_reducible repeat (first | apply Kd.R_alloc | apply Kd.R_drewN | apply Kd.R_drew)); exact HO_12.out) hb); have n1_ := aM (Kd.R_below (by (with_reducible repeat (first | apply Kd.R_alloc | apply Kd.R_drewN | apply Kd.R_drew)); exact HO_15.out) hb); have n2_ := aM (Kd.R_lower ho0 (below_size (zb))); have n3_ := aM (below_step (zb) hb); clear HO_12; clear HO_15; clear HB; have HO_12 := n0_; have HO_15 := n1_; have HO223 := n2_; have HB := n3_; clear n0_ n1_ n2_ n3_; (try clear hb); (try clear hb2); (try clear hk); (try clear hi); (try clear ho0); obtain ⟨Ao53, co53, eo53⟩ := Kd.R_slice HO223.out; subst eo53) | ((with_reducible refine gate_callee (f := 36) rfl ?_); refine goesL_ (some 96) rfl rfl Try.func36 (by kernel_rfl) rfl #[.slice Ao53 t221.length co53, .int .i64 a1, .int .i64 a2, .int .i64 a3, .int .i64 a4] rfl za ?_; (with_reducible refine (impl_ChainOf.calls kj29 _ _ t221 a1 a2 a3 a4 t224 t225 _ ?side1 ?side2 A48.out).mono ?_); (case side1 => repeat (first | exact (Kd.R_reads' HO223.out).2.2 | (with_reducible refine Kd.C_alloc ?_ _) | (with_reducible refine Kd.C_drewN ?_ _) | (with_reducible refine Kd.C_drew ?_))); (case side2 => exact (Kd.R_reads' HO223.out).2.1); rintro e w54 ⟨v226, rfl, ho0, hb⟩; refine ⟨_, rfl, ?_⟩; have n0_ := aM (Kd.R_elder' (by (with_reducible repeat (first | apply Kd.R_alloc | apply Kd.R_drewN | apply Kd.R_drew)); exact HO_12.out) (Kd.R_base ho0) hb); have n1_ := aM (Kd.R_elder' (by (with_reducible repeat (first | apply Kd.R_alloc | apply Kd.R_drewN | apply Kd.R_drew)); exact HO_15.out) (Kd.R_base ho0) hb); have n2_ := aM (Kd.R_below (by (with_reducible repeat (first | apply Kd.R_alloc | apply Kd.R_drewN | apply Kd.R_drew)); exact HO223.out) hb); have n3_ := aM (Kd.R_lower (Kd.R_new' (Kd.R_new' ho0 (Kd.R_lt (by (with_reducible repeat (first | apply Kd.R_alloc | apply Kd.R_drewN | apply Kd.R_drew)); exact HO_12.out))) (Kd.R_lt (by (with_reducible repeat (first | apply Kd.R_alloc | apply Kd.R_drewN | apply Kd.R_drew)); exact HO_15.out))) (below_size (zb))); have n4_ := aM (below_step (zb) hb); clear HO_12; clear HO_15; clear HO223; clear HB; have HO_12 := n0_; have HO_15 := n1_; have HO223 := n2_; have HO227 := n3_; have HB := n4_; clear n0_ n1_ n2_ n3_ n4_; (try clear hb); (try clear hb2); (try clear hk); (try clear hi); (try clear ho0)))
           (try simp only [Act.put, List.setIfInBounds_toArray, List.set_cons_zero, List.set_cons_succ])
           go_cut [107] (fun v107 wc => ∃ (kq : Nat) (x107_48 : Bool), v107 = .bool x107_48 ∧ Aside0 (laws_FnExactChainOf.j2 kq t219 t218 x107_48 = some r) ∧ Aside0 (kq ≤ kj29) ∧ Aside0 (Kd.R (Kd.int .i64) 3 wc w.heap.size (fun _ => True) (.slice Ao50 t206.length co50) t219) ∧ Aside0 (Below w.heap.size w wc))
           case first =>
            have H := HC49.out
            clear HC49
            replace H := Option.bind_eq_some_iff.mp H
            obtain ⟨t228, A550, H⟩ := H
            replace H : (if t228 = true then (laws_FnExactChainOf.j2 kj29 t219 t218 (t225 != t200)) else (laws_FnExactChainOf.j2 kj29 t219 t218 true)) = some r := H
            have A55 := aM A550
            clear A550
            by_cases c56 : t228 = true
            ·subst c56
             have H1 : (laws_FnExactChainOf.j2 kj29 t219 t218 (t225 != t200)) = some r := by rw [if_pos rfl] at H; exact H
             clear H
             have H := H1
             clear H1
             have H' := aM H
             clear H
             obtain ⟨Ao57, co57, eo57⟩ := Kd.R_slice HO227.out
             subst eo57
             obtain ⟨Ao58, co58, eo58⟩ := Kd.R_slice HO_12.out
             subst eo58
             go_wp2_with (first | ((with_reducible refine gate_callee (f := 41) rfl ?_); refine goesL_ (some 101) rfl rfl Try.func41 (by kernel_rfl) rfl #[.slice Ao57 t224.length co57, .slice Ao58 t199.length co58] rfl za ?_; (with_reducible refine (laws_eqIntS.calls kj29 _ _ t224 _ _ t199 true _ ?side1 ?side2 ?side3 ?side4 A55.out).mono ?_); (case side1 => repeat (first | exact (Kd.R_reads' HO227.out).2.2 | (with_reducible refine Kd.C_alloc ?_ _) | (with_reducible refine Kd.C_drewN ?_ _) | (with_reducible refine Kd.C_drew ?_))); (case side2 => exact (Kd.R_reads' HO227.out).2.1); (case side3 => repeat (first | exact (Kd.R_reads' HO_12.out).2.2 | (with_reducible refine Kd.C_alloc ?_ _) | (with_reducible refine Kd.C_drewN ?_ _) | (with_reducible refine Kd.C_drew ?_))); (case side4 => exact (Kd.R_reads' HO_12.out).2.1); rintro e w' ⟨rfl, ⟨nd, rfl⟩⟩; refine ⟨_, rfl, ?_⟩))
             go_meet
             case rel => exact ⟨_, ((t225 != t200)), zs, H', ⟨by have := HJ11.out; have := HJ29.out; first | omega | exact Nat.le_refl _⟩, ⟨by (with_reducible repeat (first | apply Kd.R_alloc | apply Kd.R_drewN | apply Kd.R_drew)); exact Kd.R_mono HO_15.out (fun _ hk => trivial)⟩, ⟨zb⟩⟩
            ·replace c56 := Bool.eq_false_iff.mpr c56
             subst c56
             have H1 : (laws_FnExactChainOf.j2 kj29 t219 t218 true) = some r := by rw [if_neg (show ¬ (false = true) by decide)] at H; exact H
             clear H
             have H := H1
             clear H1
             have H' := aM H
             clear H
             obtain ⟨Ao59, co59, eo59⟩ := Kd.R_slice HO227.out
             subst eo59
             obtain ⟨Ao60, co60, eo60⟩ := Kd.R_slice HO_12.out
             subst eo60
             go_wp2_with (first | ((with_reducible refine gate_callee (f := 41) rfl ?_); refine goesL_ (some 101) rfl rfl Try.func41 (by kernel_rfl) rfl #[.slice Ao59 t224.length co59, .slice Ao60 t199.length co60] rfl za ?_; (with_reducible refine (laws_eqIntS.calls kj29 _ _ t224 _ _ t199 false _ ?side1 ?side2 ?side3 ?side4 A55.out).mono ?_); (case side1 => repeat (first | exact (Kd.R_reads' HO227.out).2.2 | (with_reducible refine Kd.C_alloc ?_ _) | (with_reducible refine Kd.C_drewN ?_ _) | (with_reducible refine Kd.C_drew ?_))); (case side2 => exact (Kd.R_reads' HO227.out).2.1); (case side3 => repeat (first | exact (Kd.R_reads' HO_12.out).2.2 | (with_reducible refine Kd.C_alloc ?_ _) | (with_reducible refine Kd.C_drewN ?_ _) | (with_reducible refine Kd.C_drew ?_))); (case side4 => exact (Kd.R_reads' HO_12.out).2.1); rintro e w' ⟨rfl, ⟨nd, rfl⟩⟩; refine ⟨_, rfl, ?_⟩))
             go_meet
             case rel => exact ⟨_, (true), zs, H', ⟨by have := HJ11.out; have := HJ29.out; first | omega | exact Nat.le_refl _⟩, ⟨by (with_reducible repeat (first | apply Kd.R_alloc | apply Kd.R_drewN | apply Kd.R_drew)); exact Kd.R_mono HO_15.out (fun _ hk => trivial)⟩, ⟨zb⟩⟩
           case rest =>
            clear HC49
            try clear c2
            try clear p2
            try clear c3
            try clear c4
            try clear c5
            try clear c7
            try clear c7b0
            try clear c9
            try clear c20
            try clear c23
            try clear c25
            try clear c27
            try clear c28
            try clear c30
            try clear c35
            try clear c35b0
            try clear c36
            try clear c37
            try clear c41
            try clear c42
            try clear c43
            try clear c45
            try clear c45b0
            try clear c46
            try clear c46b0
            try clear c46b1
            try clear c56
            try clear p2
            obtain ⟨kq, x107_48, rfl, HA, HJ48, HO_15, HB⟩ := hcut
            have hl15_48 := (Kd.R_reads' HO_15.out).1
            rw [hl15_48] at HO_15
            (try simp only [hl15_48])
            cases kq with
            | zero => exact absurd HA.out (by simp [laws_FnExactChainOf.j2])
            | succ kj48 =>
             have H := HA.out
             clear HA
             simp only [laws_FnExactChainOf.j2] at H
             by_cases c61 : x107_48 = true
             ·subst c61
              have H1 : (none) = some r := by rw [if_pos rfl] at H; exact H
              clear H
              have H := H1
              clear H1
              exact absurd H (by simp)
             ·replace c61 := Bool.eq_false_iff.mpr c61
              subst c61
              have H1 : ((laws_heldIntS.f kj48 t219 1).bind fun t229 => (if t229 < 0 then (none) else (if t229 = t218 then (some true) else (none)))) = some r := by rw [if_neg (show ¬ (false = true) by decide)] at H; exact H
              clear H
              have H := H1
              clear H1
              replace H := Option.bind_eq_some_iff.mp H
              obtain ⟨t229, A620, H⟩ := H
              replace H : (if t229 < 0 then (none) else (if t229 = t218 then (some true) else (none))) = some r := H
              have A62 := aM A620
              clear A620
              by_cases c63 : t229 < 0
              ·rw [if_pos c63] at H
               exact absurd H (by simp)
              ·rw [if_neg c63] at H
               have c63b0 : decide (t229 < 0) = false := decide_eq_false c63
               clear c63
               by_cases c64 : t229 = t218
               ·rw [if_pos c64] at H
                have c64b0 : (t229 == t218) = true := beq_iff_eq.mpr c64
                have c64b1 : (t229 != t218) = false := bne_eq_false_iff_eq.mpr c64
                clear c64
                obtain rfl := Option.some.inj H
                go_wp2_with (first | ((with_reducible refine gate_callee (f := 43) rfl ?_); refine goesL_ (some 110) rfl rfl Try.func43 (by kernel_rfl) rfl #[.slice Ao50 t219.length co50, .int .i64 1] rfl za ?_; (with_reducible refine (laws_heldIntS.calls kj48 _ _ t219 1 t229 _ ?side1 ?side2 A62.out).mono ?_); (case side1 => repeat (first | exact (Kd.R_reads' HO_15.out).2.2 | (with_reducible refine Kd.C_alloc ?_ _) | (with_reducible refine Kd.C_drewN ?_ _) | (with_reducible refine Kd.C_drew ?_))); (case side2 => exact (Kd.R_reads' HO_15.out).2.1); rintro e w' ⟨rfl, ⟨nd, rfl⟩⟩; refine ⟨_, rfl, ?_⟩))
                go_ret
                exact ⟨zr, zb⟩
               ·rw [if_neg c64] at H
                exact absurd H (by simp)
          ·rw [if_neg c46] at H
           exact absurd H (by simp)
     ·replace c28 := Bool.eq_false_iff.mpr c28
      subst c28
      have H1 : (none) = some r := by rw [if_neg (show ¬ (false = true) by decide)] at H; exact H
      clear H
      have H := H1
      clear H1
      exact absurd H (by simp)

end Go.Proofs.Ytcpjfkagbnoagaa.QFnExactChainOf
