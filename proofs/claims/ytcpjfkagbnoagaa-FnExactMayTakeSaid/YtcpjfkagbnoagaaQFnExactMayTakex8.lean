-- Printed functions and their walks: by print.py, turned by wip/tools/myprint.py.
import Derived.Test.YtcpjfkagbnoagaaQFnExactMayTakex0
import Derived.Test.YtcpjfkagbnoagaaQFnExactMayTakex1
import Derived.Test.YtcpjfkagbnoagaaQFnExactMayTakex4
import Derived.Test.YtcpjfkagbnoagaaQFnExactMayTakex7
namespace Go.Proofs.Ytcpjfkagbnoagaa.QFnExactMayTake
open Go.RowKit Go.Proofs.YtcpjfkagbnoagaaW.PrintWords Go.Proofs.YtcpjfkagbnoagaaW.PrintLast Go.Proofs.YtcpjfkagbnoagaaW.PrintMore
attribute [local go_sem] max2_int min2_int max_two min_two max_three min_three max_four min_four   -- for this text's walks alone
set_option linter.unusedVariables false
set_option linter.unusedSimpArgs false

/-! ### spec_MayTake: function 44 -/
def spec_MayTake.f (k : Nat) (l0 : List (S25)) (a1 : Int) (a2 : Int) (a3 : Int) (a4 : Int) : Option (Bool) := (spec_ChainOf.f k l0 a1 a2 a3 a4).bind fun bt188 => (some bt188.2)
theorem spec_MayTake.mono : ∀ a0 a1 a2 a3 a4 k, LeO (spec_MayTake.f k a0 a1 a2 a3 a4) (spec_MayTake.f (k + 1) a0 a1 a2 a3 a4) := by
 intro a0 a1 a2 a3 a4 k
 unfold spec_MayTake.f
 repeat' first
   | (with_reducible exact spec_ChainOf.mono _ _ _ _ _ _)
   | (with_reducible exact LeO.refl _)
   | (with_reducible exact LeO.none _)
   | (with_reducible refine LeO.ite ?_ ?_)
   | (with_reducible refine LeO.bind ?_ (fun _ => ?_))
   | exact spec_ChainOf.mono _ _ _ _ _ _
   | exact LeO.none _
   | refine LeO.ite ?_ ?_
   | refine LeO.bind ?_ (fun _ => ?_)
set_option maxHeartbeats 8000000 in
set_option maxRecDepth 100000 in
theorem spec_MayTake.calls (k : Nat) (A0 : Option Addr) (c0 : Nat) (l0 : List (S25)) (a1 : Int) (a2 : Int) (a3 : Int) (a4 : Int) (r : Bool) (w : World) (hr0 : Kd.C k25 w A0 l0.length l0) (hc0 : l0.length ≤ c0) (h : spec_MayTake.f k l0 a1 a2 a3 a4 = some r) :
  Calls Try.prog 44 #[.slice A0 l0.length c0, .int .i64 a1, .int .i64 a2, .int .i64 a3, .int .i64 a4] w fun e w' => e = .returned (.bool r) ∧ Below w.heap.size w w' := by
 have HR0 := aM hr0
 have HC0 := aM hc0
 clear hr0 hc0
 have HB := aM (Below.refl w.heap.size w)
 have H : ((spec_ChainOf.f k l0 a1 a2 a3 a4).bind fun bt188 => (some bt188.2)) = some r := h
 clear h
 replace H := Option.bind_eq_some_iff.mp H
 obtain ⟨⟨t188, t189⟩, A60, H⟩ := H
 replace H : (some t189) = some r := H
 have A6 := aM A60
 clear A60
 obtain rfl := Option.some.inj H
 go_enter Try.func44, Try.ntmps44
 go_wp2_with (first | ((with_reducible refine gate_callee (f := 37) rfl ?_); refine goesL_ (some 19) rfl rfl Try.func37 (by kernel_rfl) rfl #[.slice A0 l0.length c0, .int .i64 a1, .int .i64 a2, .int .i64 a3, .int .i64 a4] rfl za ?_; (with_reducible refine (spec_ChainOf.calls k _ _ l0 a1 a2 a3 a4 t188 t189 _ ?side1 ?side2 A6.out).mono ?_); (case side1 => repeat (first | exact HR0.out | (with_reducible refine Kd.C_alloc ?_ _) | (with_reducible refine Kd.C_drewN ?_ _) | (with_reducible refine Kd.C_drew ?_))); (case side2 => exact HC0.out); rintro e w7 ⟨v190, rfl, ho0, hb⟩; refine ⟨_, rfl, ?_⟩; have n0_ := aM (Kd.R_lower ho0 (below_size (zb))); have n1_ := aM (below_step (zb) hb); clear HB; have HO191 := n0_; have HB := n1_; clear n0_ n1_; (try clear hb); (try clear hb2); (try clear hk); (try clear hi); (try clear ho0)))
 go_ret
 exact ⟨zr, zb⟩

/-! ### laws_FnExactMayTake: function 10 -/
def laws_FnExactMayTake.f (k : Nat) (l0 : List (S23)) (a1 : Int) (a2 : Int) (a3 : Int) (a4 : Int) : Option (Bool) := (laws_szGrantS.f l0 1048576).bind fun t192 => (if t192 < 0 then (some true) else ((laws_toGrantS.f k l0).bind fun t193 => ((spec_MayTake.f k t193 a1 a2 a3 a4).bind fun t196 => ((laws_toGrantS.f k l0).bind fun t197 => ((impl_MayTake.f k t197 a1 a2 a3 a4).bind fun t200 => (if (t200 != t196) = true then (none) else ((laws_toGrantS.f k l0).bind fun t201 => ((laws_eqGrantS.f k t197 t201).bind fun t204 => (if t204 = true then (some true) else (none))))))))))
theorem laws_FnExactMayTake.mono : ∀ a0 a1 a2 a3 a4 k, LeO (laws_FnExactMayTake.f k a0 a1 a2 a3 a4) (laws_FnExactMayTake.f (k + 1) a0 a1 a2 a3 a4) := by
 intro a0 a1 a2 a3 a4 k
 unfold laws_FnExactMayTake.f
 repeat' first
   | (with_reducible exact impl_MayTake.mono _ _ _ _ _ _)
   | (with_reducible exact laws_eqGrantS.mono _ _ _)
   | (with_reducible exact laws_toGrantS.mono _ _)
   | (with_reducible exact spec_MayTake.mono _ _ _ _ _ _)
   | (with_reducible exact LeO.refl _)
   | (with_reducible exact LeO.none _)
   | (with_reducible refine LeO.ite ?_ ?_)
   | (with_reducible refine LeO.bind ?_ (fun _ => ?_))
   | exact impl_MayTake.mono _ _ _ _ _ _
   | exact laws_eqGrantS.mono _ _ _
   | exact laws_toGrantS.mono _ _
   | exact spec_MayTake.mono _ _ _ _ _ _
   | exact LeO.none _
   | refine LeO.ite ?_ ?_
   | refine LeO.bind ?_ (fun _ => ?_)
set_option maxHeartbeats 8000000 in
set_option maxRecDepth 100000 in
theorem laws_FnExactMayTake.calls (k : Nat) (A0 : Option Addr) (c0 : Nat) (l0 : List (S23)) (a1 : Int) (a2 : Int) (a3 : Int) (a4 : Int) (r : Bool) (w : World) (hr0 : Kd.C k23 w A0 l0.length l0) (hc0 : l0.length ≤ c0) (h : laws_FnExactMayTake.f k l0 a1 a2 a3 a4 = some r) :
  Calls Try.prog 10 #[.slice A0 l0.length c0, .int .i64 a1, .int .i64 a2, .int .i64 a3, .int .i64 a4] w fun e w' => e = .returned (.bool r) ∧ Below w.heap.size w w' := by
 have HR0 := aM hr0
 have HC0 := aM hc0
 clear hr0 hc0
 have HB := aM (Below.refl w.heap.size w)
 have H : ((laws_szGrantS.f l0 1048576).bind fun t192 => (if t192 < 0 then (some true) else ((laws_toGrantS.f k l0).bind fun t193 => ((spec_MayTake.f k t193 a1 a2 a3 a4).bind fun t196 => ((laws_toGrantS.f k l0).bind fun t197 => ((impl_MayTake.f k t197 a1 a2 a3 a4).bind fun t200 => (if (t200 != t196) = true then (none) else ((laws_toGrantS.f k l0).bind fun t201 => ((laws_eqGrantS.f k t197 t201).bind fun t204 => (if t204 = true then (some true) else (none))))))))))) = some r := h
 clear h
 replace H := Option.bind_eq_some_iff.mp H
 obtain ⟨t192, A60, H⟩ := H
 replace H : (if t192 < 0 then (some true) else ((laws_toGrantS.f k l0).bind fun t193 => ((spec_MayTake.f k t193 a1 a2 a3 a4).bind fun t196 => ((laws_toGrantS.f k l0).bind fun t197 => ((impl_MayTake.f k t197 a1 a2 a3 a4).bind fun t200 => (if (t200 != t196) = true then (none) else ((laws_toGrantS.f k l0).bind fun t201 => ((laws_eqGrantS.f k t197 t201).bind fun t204 => (if t204 = true then (some true) else (none)))))))))) = some r := H
 have A6 := aM A60
 clear A60
 by_cases c7 : t192 < 0
 ·rw [if_pos c7] at H
  have c7b0 : decide (t192 < 0) = true := decide_eq_true c7
  clear c7
  obtain rfl := Option.some.inj H
  go_enter Try.func10, Try.ntmps10
  go_wp2_with (first | ((with_reducible refine gate_callee (f := 23) rfl ?_); refine goesL_ (some 17) rfl rfl Try.func23 (by kernel_rfl) rfl #[.slice A0 l0.length c0, .int .i64 1048576] rfl za ?_; (with_reducible refine (laws_szGrantS.calls _ _ l0 1048576 t192 _ ?side1 ?side2 A6.out).mono ?_); (case side1 => repeat (first | exact HR0.out | (with_reducible refine Kd.C_alloc ?_ _) | (with_reducible refine Kd.C_drewN ?_ _) | (with_reducible refine Kd.C_drew ?_))); (case side2 => exact HC0.out); rintro e w' ⟨rfl, ⟨nd, rfl⟩⟩; refine ⟨_, rfl, ?_⟩))
  go_ret
  exact ⟨zr, zb⟩
 ·rw [if_neg c7] at H
  have c7b0 : decide (t192 < 0) = false := decide_eq_false c7
  clear c7
  replace H := Option.bind_eq_some_iff.mp H
  obtain ⟨t193, A80, H⟩ := H
  replace H : ((spec_MayTake.f k t193 a1 a2 a3 a4).bind fun t196 => ((laws_toGrantS.f k l0).bind fun t197 => ((impl_MayTake.f k t197 a1 a2 a3 a4).bind fun t200 => (if (t200 != t196) = true then (none) else ((laws_toGrantS.f k l0).bind fun t201 => ((laws_eqGrantS.f k t197 t201).bind fun t204 => (if t204 = true then (some true) else (none)))))))) = some r := H
  have A8 := aM A80
  clear A80
  replace H := Option.bind_eq_some_iff.mp H
  obtain ⟨t196, A90, H⟩ := H
  replace H : ((laws_toGrantS.f k l0).bind fun t197 => ((impl_MayTake.f k t197 a1 a2 a3 a4).bind fun t200 => (if (t200 != t196) = true then (none) else ((laws_toGrantS.f k l0).bind fun t201 => ((laws_eqGrantS.f k t197 t201).bind fun t204 => (if t204 = true then (some true) else (none))))))) = some r := H
  have A9 := aM A90
  clear A90
  replace H := Option.bind_eq_some_iff.mp H
  obtain ⟨t197, A100, H⟩ := H
  replace H : ((impl_MayTake.f k t197 a1 a2 a3 a4).bind fun t200 => (if (t200 != t196) = true then (none) else ((laws_toGrantS.f k l0).bind fun t201 => ((laws_eqGrantS.f k t197 t201).bind fun t204 => (if t204 = true then (some true) else (none)))))) = some r := H
  have A10 := aM A100
  clear A100
  replace H := Option.bind_eq_some_iff.mp H
  obtain ⟨t200, A110, H⟩ := H
  replace H : (if (t200 != t196) = true then (none) else ((laws_toGrantS.f k l0).bind fun t201 => ((laws_eqGrantS.f k t197 t201).bind fun t204 => (if t204 = true then (some true) else (none))))) = some r := H
  have A11 := aM A110
  clear A110
  by_cases c12 : (t200 != t196) = true
  ·rw [if_pos c12] at H
   exact absurd H (by simp)
  ·rw [if_neg c12] at H
   have c12b0 : (t200 != t196) = false := by simpa using c12
   (try (have c12b1 : decide (t200 = t196) = true := by simpa using c12))
   (try (have c12b2 : (t200 == t196) = true := by simpa using c12))
   clear c12
   replace H := Option.bind_eq_some_iff.mp H
   obtain ⟨t201, A130, H⟩ := H
   replace H : ((laws_eqGrantS.f k t197 t201).bind fun t204 => (if t204 = true then (some true) else (none))) = some r := H
   have A13 := aM A130
   clear A130
   replace H := Option.bind_eq_some_iff.mp H
   obtain ⟨t204, A140, H⟩ := H
   replace H : (if t204 = true then (some true) else (none)) = some r := H
   have A14 := aM A140
   clear A140
   by_cases c15 : t204 = true
   ·subst c15
    have H1 : (some true) = some r := by rw [if_pos rfl] at H; exact H
    clear H
    have H := H1
    clear H1
    obtain rfl := Option.some.inj H
    go_enter Try.func10, Try.ntmps10
    go_wp2_with (first | ((with_reducible refine gate_callee (f := 23) rfl ?_); refine goesL_ (some 17) rfl rfl Try.func23 (by kernel_rfl) rfl #[.slice A0 l0.length c0, .int .i64 1048576] rfl za ?_; (with_reducible refine (laws_szGrantS.calls _ _ l0 1048576 t192 _ ?side1 ?side2 A6.out).mono ?_); (case side1 => repeat (first | exact HR0.out | (with_reducible refine Kd.C_alloc ?_ _) | (with_reducible refine Kd.C_drewN ?_ _) | (with_reducible refine Kd.C_drew ?_))); (case side2 => exact HC0.out); rintro e w' ⟨rfl, ⟨nd, rfl⟩⟩; refine ⟨_, rfl, ?_⟩) | ((with_reducible refine gate_callee (f := 25) rfl ?_); refine goesL_ (some 21) rfl rfl Try.func25 (by kernel_rfl) rfl #[.slice A0 l0.length c0] rfl za ?_; (with_reducible refine (laws_toGrantS.calls k _ _ l0 t193 _ ?side1 ?side2 A8.out).mono ?_); (case side1 => repeat (first | exact HR0.out | (with_reducible refine Kd.C_alloc ?_ _) | (with_reducible refine Kd.C_drewN ?_ _) | (with_reducible refine Kd.C_drew ?_))); (case side2 => exact HC0.out); rintro e w16 ⟨v194, rfl, ho0, hb⟩; refine ⟨_, rfl, ?_⟩; have n0_ := aM (Kd.R_lower ho0 (below_size (zb))); have n1_ := aM (below_step (zb) hb); clear HB; have HO195 := n0_; have HB := n1_; clear n0_ n1_; (try clear hb); (try clear hb2); (try clear hk); (try clear hi); (try clear ho0); obtain ⟨Ao17, co17, eo17⟩ := Kd.R_slice HO195.out; subst eo17) | ((with_reducible refine gate_callee (f := 44) rfl ?_); refine goesL_ (some 26) rfl rfl Try.func44 (by kernel_rfl) rfl #[.slice Ao17 t193.length co17, .int .i64 a1, .int .i64 a2, .int .i64 a3, .int .i64 a4] rfl za ?_; (with_reducible refine (spec_MayTake.calls k _ _ t193 a1 a2 a3 a4 t196 _ ?side1 ?side2 A9.out).mono ?_); (case side1 => repeat (first | exact (Kd.R_reads' HO195.out).2.2 | (with_reducible refine Kd.C_alloc ?_ _) | (with_reducible refine Kd.C_drewN ?_ _) | (with_reducible refine Kd.C_drew ?_))); (case side2 => exact (Kd.R_reads' HO195.out).2.1); rintro e w18 ⟨rfl, hb⟩; refine ⟨_, rfl, ?_⟩; have n0_ := aM (Kd.R_below (by (with_reducible repeat (first | apply Kd.R_alloc | apply Kd.R_drewN | apply Kd.R_drew)); exact HO195.out) hb); have n1_ := aM (below_step (zb) hb); clear HO195; clear HB; have HO195 := n0_; have HB := n1_; clear n0_ n1_; (try clear hb); (try clear hb2); (try clear hk); (try clear hi)) | ((with_reducible refine gate_callee (f := 25) rfl ?_); refine goesL_ (some 28) rfl rfl Try.func25 (by kernel_rfl) rfl #[.slice A0 l0.length c0] rfl za ?_; (with_reducible refine (laws_toGrantS.calls k _ _ l0 t197 _ ?side1 ?side2 A10.out).mono ?_); (case side1 => repeat (first | exact (Kd.C_below HR0.out HB.out) | (with_reducible refine Kd.C_alloc ?_ _) | (with_reducible refine Kd.C_drewN ?_ _) | (with_reducible refine Kd.C_drew ?_))); (case side2 => exact HC0.out); rintro e w19 ⟨v198, rfl, ho0, hb⟩; refine ⟨_, rfl, ?_⟩; have n0_ := aM (Kd.R_elder' (by (with_reducible repeat (first | apply Kd.R_alloc | apply Kd.R_drewN | apply Kd.R_drew)); exact HO195.out) (Kd.R_base ho0) hb); have n1_ := aM (Kd.R_lower (Kd.R_new' ho0 (Kd.R_lt (by (with_reducible repeat (first | apply Kd.R_alloc | apply Kd.R_drewN | apply Kd.R_drew)); exact HO195.out))) (below_size (zb))); have n2_ := aM (below_step (zb) hb); clear HO195; clear HB; have HO195 := n0_; have HO199 := n1_; have HB := n2_; clear n0_ n1_ n2_; (try clear hb); (try clear hb2); (try clear hk); (try clear hi); (try clear ho0); obtain ⟨Ao20, co20, eo20⟩ := Kd.R_slice HO199.out; subst eo20) | ((with_reducible refine gate_callee (f := 39) rfl ?_); refine goesL_ (some 34) rfl rfl Try.func39 (by kernel_rfl) rfl #[.slice Ao20 t197.length co20, .int .i64 a1, .int .i64 a2, .int .i64 a3, .int .i64 a4] rfl za ?_; (with_reducible refine (impl_MayTake.calls k _ _ t197 a1 a2 a3 a4 t200 _ ?side1 ?side2 A11.out).mono ?_); (case side1 => repeat (first | exact (Kd.R_reads' HO199.out).2.2 | (with_reducible refine Kd.C_alloc ?_ _) | (with_reducible refine Kd.C_drewN ?_ _) | (with_reducible refine Kd.C_drew ?_))); (case side2 => exact (Kd.R_reads' HO199.out).2.1); rintro e w21 ⟨rfl, hb⟩; refine ⟨_, rfl, ?_⟩; have n0_ := aM (Kd.R_below (by (with_reducible repeat (first | apply Kd.R_alloc | apply Kd.R_drewN | apply Kd.R_drew)); exact HO195.out) hb); have n1_ := aM (Kd.R_below (by (with_reducible repeat (first | apply Kd.R_alloc | apply Kd.R_drewN | apply Kd.R_drew)); exact HO199.out) hb); have n2_ := aM (below_step (zb) hb); clear HO195; clear HO199; clear HB; have HO195 := n0_; have HO199 := n1_; have HB := n2_; clear n0_ n1_ n2_; (try clear hb); (try clear hb2); (try clear hk); (try clear hi)) | ((with_reducible refine gate_callee (f := 25) rfl ?_); refine goesL_ (some 40) rfl rfl Try.func25 (by kernel_rfl) rfl #[.slice A0 l0.length c0] rfl za ?_; (with_reducible refine (laws_toGrantS.calls k _ _ l0 t201 _ ?side1 ?side2 A13.out).mono ?_); (case side1 => repeat (first | exact (Kd.C_below HR0.out HB.out) | (with_reducible refine Kd.C_alloc ?_ _) | (with_reducible refine Kd.C_drewN ?_ _) | (with_reducible refine Kd.C_drew ?_))); (case side2 => exact HC0.out); rintro e w22 ⟨v202, rfl, ho0, hb⟩; refine ⟨_, rfl, ?_⟩; have n0_ := aM (Kd.R_elder' (by (with_reducible repeat (first | apply Kd.R_alloc | apply Kd.R_drewN | apply Kd.R_drew)); exact HO195.out) (Kd.R_base ho0) hb); have n1_ := aM (Kd.R_elder' (by (with_reducible repeat (first | apply Kd.R_alloc | apply Kd.R_drewN | apply Kd.R_drew)); exact HO199.out) (Kd.R_base ho0) hb); have n2_ := aM (Kd.R_lower (Kd.R_new' (Kd.R_new' ho0 (Kd.R_lt (by (with_reducible repeat (first | apply Kd.R_alloc | apply Kd.R_drewN | apply Kd.R_drew)); exact HO195.out))) (Kd.R_lt (by (with_reducible repeat (first | apply Kd.R_alloc | apply Kd.R_drewN | apply Kd.R_drew)); exact HO199.out))) (below_size (zb))); have n3_ := aM (below_step (zb) hb); clear HO195; clear HO199; clear HB; have HO195 := n0_; have HO199 := n1_; have HO203 := n2_; have HB := n3_; clear n0_ n1_ n2_ n3_; (try clear hb); (try clear hb2); (try clear hk); (try clear hi); (try clear ho0); obtain ⟨Ao23, co23, eo23⟩ := Kd.R_slice HO203.out; subst eo23) | ((with_reducible refine gate_callee (f := 27) rfl ?_); refine goesL_ (some 41) rfl rfl Try.func27 (by kernel_rfl) rfl #[.slice Ao20 t197.length co20, .slice Ao23 t201.length co23] rfl za ?_; (with_reducible refine (laws_eqGrantS.calls k _ _ t197 _ _ t201 true _ ?side1 ?side2 ?side3 ?side4 A14.out).mono ?_); (case side1 => repeat (first | exact (Kd.R_reads' HO199.out).2.2 | (with_reducible refine Kd.C_alloc ?_ _) | (with_reducible refine Kd.C_drewN ?_ _) | (with_reducible refine Kd.C_drew ?_))); (case side2 => exact (Kd.R_reads' HO199.out).2.1); (case side3 => repeat (first | exact (Kd.R_reads' HO203.out).2.2 | (with_reducible refine Kd.C_alloc ?_ _) | (with_reducible refine Kd.C_drewN ?_ _) | (with_reducible refine Kd.C_drew ?_))); (case side4 => exact (Kd.R_reads' HO203.out).2.1); rintro e w24 ⟨rfl, hb⟩; refine ⟨_, rfl, ?_⟩; have n0_ := aM (Kd.R_below (by (with_reducible repeat (first | apply Kd.R_alloc | apply Kd.R_drewN | apply Kd.R_drew)); exact HO195.out) hb); have n1_ := aM (Kd.R_below (by (with_reducible repeat (first | apply Kd.R_alloc | apply Kd.R_drewN | apply Kd.R_drew)); exact HO199.out) hb); have n2_ := aM (Kd.R_below (by (with_reducible repeat (first | apply Kd.R_alloc | apply Kd.R_drewN | apply Kd.R_drew)); exact HO203.out) hb); have n3_ := aM (below_step (zb) hb); clear HO195; clear HO199; clear HO203; clear HB; have HO195 := n0_; have HO199 := n1_; have HO203 := n2_; have HB := n3_; clear n0_ n1_ n2_ n3_; (try clear hb); (try clear hb2); (try clear hk); (try clear hi)))
    go_ret
    exact ⟨zr, zb⟩
   ·replace c15 := Bool.eq_false_iff.mpr c15
    subst c15
    have H1 : (none) = some r := by rw [if_neg (show ¬ (false = true) by decide)] at H; exact H
    clear H
    have H := H1
    clear H1
    exact absurd H (by simp)

end Go.Proofs.Ytcpjfkagbnoagaa.QFnExactMayTake
