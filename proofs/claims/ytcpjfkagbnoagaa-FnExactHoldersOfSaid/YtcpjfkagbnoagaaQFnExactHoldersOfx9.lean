-- Printed functions and their walks: by print.py, turned by wip/tools/myprint.py.
import Derived.Test.YtcpjfkagbnoagaaQFnExactHoldersOfx0
import Derived.Test.YtcpjfkagbnoagaaQFnExactHoldersOfx1
import Derived.Test.YtcpjfkagbnoagaaQFnExactHoldersOfx2
import Derived.Test.YtcpjfkagbnoagaaQFnExactHoldersOfx7
import Derived.Test.YtcpjfkagbnoagaaQFnExactHoldersOfx8
namespace Go.Proofs.Ytcpjfkagbnoagaa.QFnExactHoldersOf
open Go.RowKit Go.Proofs.YtcpjfkagbnoagaaW.PrintWords Go.Proofs.YtcpjfkagbnoagaaW.PrintLast Go.Proofs.YtcpjfkagbnoagaaW.PrintMore
attribute [local go_sem] max2_int min2_int max_two min_two max_three min_three max_four min_four   -- for this text's walks alone
set_option linter.unusedVariables false
set_option linter.unusedSimpArgs false

/-! ### impl_ChainOf: function 36 -/
def impl_ChainOf.f (k : Nat) (l0 : List (S25)) (a1 : Int) (a2 : Int) (a3 : Int) (a4 : Int) : Option (List Int × Bool) := (impl_askOk.f k l0 a1 a2 a3 a4).bind fun t201 => (if t201 = true then ((impl_chain.f l0 a1 a2 a3 a4 0).bind fun bt202 => (some (bt202.1, bt202.2))) else (some (([] : List Int), false)))
theorem impl_ChainOf.mono : ∀ a0 a1 a2 a3 a4 k, LeO (impl_ChainOf.f k a0 a1 a2 a3 a4) (impl_ChainOf.f (k + 1) a0 a1 a2 a3 a4) := by
 intro a0 a1 a2 a3 a4 k
 unfold impl_ChainOf.f
 repeat' first
   | (with_reducible exact impl_askOk.mono _ _ _ _ _ _)
   | (with_reducible exact LeO.refl _)
   | (with_reducible exact LeO.none _)
   | (with_reducible refine LeO.ite ?_ ?_)
   | (with_reducible refine LeO.bind ?_ (fun _ => ?_))
   | exact impl_askOk.mono _ _ _ _ _ _
   | exact LeO.none _
   | refine LeO.ite ?_ ?_
   | refine LeO.bind ?_ (fun _ => ?_)
set_option maxHeartbeats 8000000 in
set_option maxRecDepth 100000 in
theorem impl_ChainOf.calls (k : Nat) (A0 : Option Addr) (c0 : Nat) (l0 : List (S25)) (a1 : Int) (a2 : Int) (a3 : Int) (a4 : Int) (r1 : List Int) (r2 : Bool) (w : World) (hr0 : Kd.C k25 w A0 l0.length l0) (hc0 : l0.length ≤ c0) (h : impl_ChainOf.f k l0 a1 a2 a3 a4 = some (r1, r2)) :
  Calls Try.prog 36 #[.slice A0 l0.length c0, .int .i64 a1, .int .i64 a2, .int .i64 a3, .int .i64 a4] w fun e w' => ∃ v0_ : Value, e = .returned (.tuple #[v0_, .bool r2]) ∧ Kd.R (Kd.int .i64) 3 w' w.heap.size (fun _ => True) v0_ r1 ∧ Below w.heap.size w w' := by
 have HR0 := aM hr0
 have HC0 := aM hc0
 clear hr0 hc0
 have HB := aM (Below.refl w.heap.size w)
 have H : ((impl_askOk.f k l0 a1 a2 a3 a4).bind fun t201 => (if t201 = true then ((impl_chain.f l0 a1 a2 a3 a4 0).bind fun bt202 => (some (bt202.1, bt202.2))) else (some (([] : List Int), false)))) = some (r1, r2) := h
 clear h
 replace H := Option.bind_eq_some_iff.mp H
 obtain ⟨t201, A60, H⟩ := H
 replace H : (if t201 = true then ((impl_chain.f l0 a1 a2 a3 a4 0).bind fun bt202 => (some (bt202.1, bt202.2))) else (some (([] : List Int), false))) = some (r1, r2) := H
 have A6 := aM A60
 clear A60
 by_cases c7 : t201 = true
 ·subst c7
  have H1 : ((impl_chain.f l0 a1 a2 a3 a4 0).bind fun bt202 => (some (bt202.1, bt202.2))) = some (r1, r2) := by rw [if_pos rfl] at H; exact H
  clear H
  have H := H1
  clear H1
  replace H := Option.bind_eq_some_iff.mp H
  obtain ⟨⟨t202, t203⟩, A80, H⟩ := H
  replace H : (some (t202, t203)) = some (r1, r2) := H
  have A8 := aM A80
  clear A80
  simp only [Option.some.injEq, Prod.mk.injEq] at H
  obtain ⟨rfl, rfl⟩ := H
  go_enter Try.func36, Try.ntmps36
  go_wp2_with (first | ((with_reducible refine gate_callee (f := 70) rfl ?_); refine goesL_ (some 17) rfl rfl Try.func70 (by kernel_rfl) rfl #[.slice A0 l0.length c0, .int .i64 a1, .int .i64 a2, .int .i64 a3, .int .i64 a4] rfl za ?_; (with_reducible refine (impl_askOk.calls k _ _ l0 a1 a2 a3 a4 true _ ?side1 ?side2 A6.out).mono ?_); (case side1 => repeat (first | exact HR0.out | (with_reducible refine Kd.C_alloc ?_ _) | (with_reducible refine Kd.C_drewN ?_ _) | (with_reducible refine Kd.C_drew ?_))); (case side2 => exact HC0.out); rintro e w9 ⟨rfl, hb⟩; refine ⟨_, rfl, ?_⟩; have n0_ := aM (below_step (zb) hb); clear HB; have HB := n0_; clear n0_; (try clear hb); (try clear hb2); (try clear hk); (try clear hi)) | ((with_reducible refine gate_callee (f := 71) rfl ?_); refine goesL_ (some 24) rfl rfl Try.func71 (by kernel_rfl) rfl #[.slice A0 l0.length c0, .int .i64 a1, .int .i64 a2, .int .i64 a3, .int .i64 a4, .int .i64 0] rfl za ?_; (with_reducible refine (impl_chain.calls _ _ l0 a1 a2 a3 a4 0 t202 t203 _ ?side1 ?side2 A8.out).mono ?_); (case side1 => repeat (first | exact (Kd.C_below HR0.out HB.out) | (with_reducible refine Kd.C_alloc ?_ _) | (with_reducible refine Kd.C_drewN ?_ _) | (with_reducible refine Kd.C_drew ?_))); (case side2 => exact HC0.out); rintro e w10 ⟨v204, rfl, ho0, hb⟩; refine ⟨_, rfl, ?_⟩; have n0_ := aM (Kd.R_lower ho0 (below_size (zb))); have n1_ := aM (below_step (zb) hb); clear HB; have HO205 := n0_; have HB := n1_; clear n0_ n1_; (try clear hb); (try clear hb2); (try clear hk); (try clear hi); (try clear ho0)))
  go_ret2
  exact ⟨_, zr, by (with_reducible repeat (first | apply Kd.R_alloc | apply Kd.R_drewN | apply Kd.R_drew)); exact HO205.out, zb⟩
 ·replace c7 := Bool.eq_false_iff.mpr c7
  subst c7
  have H1 : (some (([] : List Int), false)) = some (r1, r2) := by rw [if_neg (show ¬ (false = true) by decide)] at H; exact H
  clear H
  have H := H1
  clear H1
  simp only [Option.some.injEq, Prod.mk.injEq] at H
  obtain ⟨rfl, rfl⟩ := H
  go_enter Try.func36, Try.ntmps36
  go_wp2_with (first | ((with_reducible refine gate_callee (f := 70) rfl ?_); refine goesL_ (some 17) rfl rfl Try.func70 (by kernel_rfl) rfl #[.slice A0 l0.length c0, .int .i64 a1, .int .i64 a2, .int .i64 a3, .int .i64 a4] rfl za ?_; (with_reducible refine (impl_askOk.calls k _ _ l0 a1 a2 a3 a4 false _ ?side1 ?side2 A6.out).mono ?_); (case side1 => repeat (first | exact HR0.out | (with_reducible refine Kd.C_alloc ?_ _) | (with_reducible refine Kd.C_drewN ?_ _) | (with_reducible refine Kd.C_drew ?_))); (case side2 => exact HC0.out); rintro e w11 ⟨rfl, hb⟩; refine ⟨_, rfl, ?_⟩; have n0_ := aM (below_step (zb) hb); clear HB; have HB := n0_; clear n0_; (try clear hb); (try clear hb2); (try clear hk); (try clear hi)))
  go_ret2
  exact ⟨_, zr, by first | exact Kd.R_nil _ _ _ _ _ | exact Kd.N_nil _ _ _ _ _ | exact Kd.V_nil _ _ _ _ _ | exact Kd.Q_nil _ _ _ _ _ | exact Kd.S_nil _ _ _ _ _, zb⟩

/-! ### impl_MayTake: function 39 -/
def impl_MayTake.f (k : Nat) (l0 : List (S25)) (a1 : Int) (a2 : Int) (a3 : Int) (a4 : Int) : Option (Bool) := (impl_ChainOf.f k l0 a1 a2 a3 a4).bind fun bt206 => (some bt206.2)
theorem impl_MayTake.mono : ∀ a0 a1 a2 a3 a4 k, LeO (impl_MayTake.f k a0 a1 a2 a3 a4) (impl_MayTake.f (k + 1) a0 a1 a2 a3 a4) := by
 intro a0 a1 a2 a3 a4 k
 unfold impl_MayTake.f
 repeat' first
   | (with_reducible exact impl_ChainOf.mono _ _ _ _ _ _)
   | (with_reducible exact LeO.refl _)
   | (with_reducible exact LeO.none _)
   | (with_reducible refine LeO.ite ?_ ?_)
   | (with_reducible refine LeO.bind ?_ (fun _ => ?_))
   | exact impl_ChainOf.mono _ _ _ _ _ _
   | exact LeO.none _
   | refine LeO.ite ?_ ?_
   | refine LeO.bind ?_ (fun _ => ?_)
set_option maxHeartbeats 8000000 in
set_option maxRecDepth 100000 in
theorem impl_MayTake.calls (k : Nat) (A0 : Option Addr) (c0 : Nat) (l0 : List (S25)) (a1 : Int) (a2 : Int) (a3 : Int) (a4 : Int) (r : Bool) (w : World) (hr0 : Kd.C k25 w A0 l0.length l0) (hc0 : l0.length ≤ c0) (h : impl_MayTake.f k l0 a1 a2 a3 a4 = some r) :
  Calls Try.prog 39 #[.slice A0 l0.length c0, .int .i64 a1, .int .i64 a2, .int .i64 a3, .int .i64 a4] w fun e w' => e = .returned (.bool r) ∧ Below w.heap.size w w' := by
 have HR0 := aM hr0
 have HC0 := aM hc0
 clear hr0 hc0
 have HB := aM (Below.refl w.heap.size w)
 have H : ((impl_ChainOf.f k l0 a1 a2 a3 a4).bind fun bt206 => (some bt206.2)) = some r := h
 clear h
 replace H := Option.bind_eq_some_iff.mp H
 obtain ⟨⟨t206, t207⟩, A60, H⟩ := H
 replace H : (some t207) = some r := H
 have A6 := aM A60
 clear A60
 obtain rfl := Option.some.inj H
 go_enter Try.func39, Try.ntmps39
 go_wp2_with (first | ((with_reducible refine gate_callee (f := 36) rfl ?_); refine goesL_ (some 19) rfl rfl Try.func36 (by kernel_rfl) rfl #[.slice A0 l0.length c0, .int .i64 a1, .int .i64 a2, .int .i64 a3, .int .i64 a4] rfl za ?_; (with_reducible refine (impl_ChainOf.calls k _ _ l0 a1 a2 a3 a4 t206 t207 _ ?side1 ?side2 A6.out).mono ?_); (case side1 => repeat (first | exact HR0.out | (with_reducible refine Kd.C_alloc ?_ _) | (with_reducible refine Kd.C_drewN ?_ _) | (with_reducible refine Kd.C_drew ?_))); (case side2 => exact HC0.out); rintro e w7 ⟨v208, rfl, ho0, hb⟩; refine ⟨_, rfl, ?_⟩; have n0_ := aM (Kd.R_lower ho0 (below_size (zb))); have n1_ := aM (below_step (zb) hb); clear HB; have HO209 := n0_; have HB := n1_; clear n0_ n1_; (try clear hb); (try clear hb2); (try clear hk); (try clear hi); (try clear ho0)))
 go_ret
 exact ⟨zr, zb⟩

/-! ### impl_HoldersOf: function 50 -/
def impl_HoldersOf.l0 : Nat → List (S25) → Int → Int → Int → List Int → Int → Option (List Int)
 | 0, _, _, _, _, _, _ => none
 | k + 1, x0, x1, x2, x3, x9, x10 => if x10 ≤ 40 then ((impl_MayTake.f k x0 x1 x10 x2 x3).bind fun t210 => (if t210 = true then (if x9.length < 17592186044416 then (impl_HoldersOf.l0 k x0 x1 x2 x3 (x9 ++ [x10]) (wrap64 (x10 + 1))) else (none)) else (impl_HoldersOf.l0 k x0 x1 x2 x3 x9 (wrap64 (x10 + 1))))) else (some x9)
def impl_HoldersOf.f (k : Nat) (l0 : List (S25)) (a1 : Int) (a2 : Int) (a3 : Int) : Option (List Int) := impl_HoldersOf.l0 k l0 a1 a2 a3 ([] : List Int) 1
theorem impl_HoldersOf.mono_l : ∀ k, (∀ y0 y1 y2 y3 y4 y5, LeO (impl_HoldersOf.l0 k y0 y1 y2 y3 y4 y5) (impl_HoldersOf.l0 (k + 1) y0 y1 y2 y3 y4 y5))
 | 0 => fun _ _ _ _ _ _ r h => by simp [impl_HoldersOf.l0] at h
 | k + 1 => by
  have ih0 := impl_HoldersOf.mono_l k
  ·intro y0 y1 y2 y3 y4 y5
   unfold impl_HoldersOf.l0
   repeat' first
   | (with_reducible exact ih0 _ _ _ _ _ _)
   | (with_reducible exact impl_MayTake.mono _ _ _ _ _ _)
   | (with_reducible exact LeO.refl _)
   | (with_reducible exact LeO.none _)
   | (with_reducible refine LeO.ite ?_ ?_)
   | (with_reducible refine LeO.bind ?_ (fun _ => ?_))
   | exact ih0 _ _ _ _ _ _
   | exact impl_MayTake.mono _ _ _ _ _ _
   | exact LeO.none _
   | refine LeO.ite ?_ ?_
   | refine LeO.bind ?_ (fun _ => ?_)
theorem impl_HoldersOf.mono : ∀ a0 a1 a2 a3 k, LeO (impl_HoldersOf.f k a0 a1 a2 a3) (impl_HoldersOf.f (k + 1) a0 a1 a2 a3) := by
 intro a0 a1 a2 a3 k
 have ih0 := impl_HoldersOf.mono_l k
 unfold impl_HoldersOf.f
 repeat' first
   | (with_reducible exact ih0 _ _ _ _ _ _)
   | (with_reducible exact impl_MayTake.mono _ _ _ _ _ _)
   | (with_reducible exact LeO.refl _)
   | (with_reducible exact LeO.none _)
   | (with_reducible refine LeO.ite ?_ ?_)
   | (with_reducible refine LeO.bind ?_ (fun _ => ?_))
   | exact ih0 _ _ _ _ _ _
   | exact impl_MayTake.mono _ _ _ _ _ _
   | exact LeO.none _
   | refine LeO.ite ?_ ?_
   | refine LeO.bind ?_ (fun _ => ?_)
set_option maxHeartbeats 8000000 in
set_option maxRecDepth 100000 in
theorem impl_HoldersOf.calls (k : Nat) (A0 : Option Addr) (c0 : Nat) (l0 : List (S25)) (a1 : Int) (a2 : Int) (a3 : Int) (r : List Int) (w : World) (hr0 : Kd.C k25 w A0 l0.length l0) (hc0 : l0.length ≤ c0) (h : impl_HoldersOf.f k l0 a1 a2 a3 = some r) :
  Calls Try.prog 50 #[.slice A0 l0.length c0, .int .i64 a1, .int .i64 a2, .int .i64 a3] w fun e w' => ∃ v0_ : Value, e = .returned (v0_) ∧ Kd.R (Kd.int .i64) 3 w' w.heap.size (fun _ => True) v0_ r ∧ Below w.heap.size w w' := by
 have HR0 := aM hr0
 have HC0 := aM hc0
 clear hr0 hc0
 have HB := aM (Below.refl w.heap.size w)
 have H : (impl_HoldersOf.l0 k l0 a1 a2 a3 ([] : List Int) 1) = some r := h
 clear h
 have H' := aM H
 clear H
 go_enter Try.func50, Try.ntmps50
 go_wp2
 go_loopg [9, 10] k (fun kq v9 v10 w' => ∃ (x9_1 : List Int) (x10_1 : Int), v10 = .int .i64 x10_1 ∧ Aside0 (impl_HoldersOf.l0 kq l0 a1 a2 a3 x9_1 x10_1 = some r) ∧ Aside0 (kq ≤ k) ∧ Aside0 (Kd.R (Kd.int .i64) 3 w' w.heap.size (fun _ => True) v9 x9_1) ∧ Aside0 (Below w.heap.size w w'))
 case atStart => exact ⟨(([] : List Int)), (1), zs, H', ⟨Nat.le_refl _⟩, ⟨by first | exact Kd.R_nil _ _ _ _ _ | exact Kd.N_nil _ _ _ _ _ | exact Kd.V_nil _ _ _ _ _ | exact Kd.Q_nil _ _ _ _ _ | exact Kd.S_nil _ _ _ _ _⟩, ⟨zb⟩⟩
 case round =>
  clear H'
  try clear p2
  obtain ⟨x9_1, x10_1, rfl, HA, HK1, HO_9, HB⟩ := hrel
  cases gk with
  | zero => exact absurd HA.out (by simp [impl_HoldersOf.l0])
  | succ k1 =>
   have H := HA.out
   clear HA
   simp only [impl_HoldersOf.l0] at H
   by_cases c5 : x10_1 ≤ 40
   ·rw [if_pos c5] at H
    have c5b0 : decide (x10_1 ≤ 40) = true := decide_eq_true c5
    clear c5
    replace H := Option.bind_eq_some_iff.mp H
    obtain ⟨t210, A60, H⟩ := H
    replace H : (if t210 = true then (if x9_1.length < 17592186044416 then (impl_HoldersOf.l0 k1 l0 a1 a2 a3 (x9_1 ++ [x10_1]) (wrap64 (x10_1 + 1))) else (none)) else (impl_HoldersOf.l0 k1 l0 a1 a2 a3 x9_1 (wrap64 (x10_1 + 1)))) = some r := H
    have A6 := aM A60
    clear A60
    by_cases c7 : t210 = true
    ·subst c7
     have H1 : (if x9_1.length < 17592186044416 then (impl_HoldersOf.l0 k1 l0 a1 a2 a3 (x9_1 ++ [x10_1]) (wrap64 (x10_1 + 1))) else (none)) = some r := by rw [if_pos rfl] at H; exact H
     clear H
     have H := H1
     clear H1
     by_cases c8 : x9_1.length < 17592186044416
     ·rw [if_pos c8] at H
      have LMc8 := aM c8
      clear c8
      obtain ⟨y211, hy211⟩ : ∃ y_ : List Int, y_ = (x9_1 ++ [x10_1]) := ⟨_, rfl⟩
      replace H : (impl_HoldersOf.l0 k1 l0 a1 a2 a3 y211 (wrap64 (x10_1 + 1))) = some r := by first | (rw [hy211]; with_reducible exact H) | (have H2_ := (Option.bind_some _ _).symm.trans H; rw [hy211]; with_reducible exact H2_) | (have H2_ := (Option.bind_some _ _).symm.trans H; with_reducible exact H2_) | with_reducible exact H | (rw [hy211]; exact H) | exact H
      have Ny211 := aM hy211
      clear hy211
      have H' := aM H
      clear H
      go_wp2_with (first | ((with_reducible refine gate_callee (f := 39) rfl ?_); refine goesL_ (some 20) rfl rfl Try.func39 (by kernel_rfl) rfl #[.slice A0 l0.length c0, .int .i64 a1, .int .i64 x10_1, .int .i64 a2, .int .i64 a3] rfl za ?_; (with_reducible refine (impl_MayTake.calls k1 _ _ l0 a1 x10_1 a2 a3 true _ ?side1 ?side2 A6.out).mono ?_); (case side1 => repeat (first | exact (Kd.C_below HR0.out HB.out) | (with_reducible refine Kd.C_alloc ?_ _) | (with_reducible refine Kd.C_drewN ?_ _) | (with_reducible refine Kd.C_drew ?_))); (case side2 => exact HC0.out); rintro e w9 ⟨rfl, hb⟩; refine ⟨_, rfl, ?_⟩; have n0_ := aM (Kd.R_below (by (with_reducible repeat (first | apply Kd.R_alloc | apply Kd.R_drewN | apply Kd.R_drew)); exact HO_9.out) hb); have n1_ := aM (below_step (zb) hb); clear HO_9; clear HB; have HO_9 := n0_; have HB := n1_; clear n0_ n1_; (try clear hb); (try clear hb2); (try clear hk); (try clear hi)) | ((with_reducible refine gate_builtin (b := .append) (xs := #[.tmp 21, .tmp 23]) rfl ?_); at_builtin; refine Kd.R_append (Kd.int .i64) (w0 := w) w.heap.size rfl (.tmp 21) (.tmp 23) 47 3 (.int .i64 0) 8 rfl Try.underlying47 info3 rfl (by decide) (by omega) u9 x9_1 x10_1 [.int .i64 x10_1] (fun _ => True) (fun _ => False) rfl rfl ?aP (fun _ hk => hk.elim) ?aF ?aO ?aB ?aS ?aL ?_; (case aP => exact rfl); (case aB => exact (zb)); (case aF => exact (fun _ _ => trivial)); (case aO => exact (by (with_reducible repeat (first | apply Kd.R_alloc | apply Kd.R_drewN | apply Kd.R_drew)); exact HO_9.out)); (case aS => exact (below_size (zb))); (case aL => have := LMc8.out; omega); intro v212 w10 ho hb hg hat; rw [← Ny211.out] at ho; have n0_ := aM (hb); have n1_ := aM (ho); clear HB; clear HO_9; have HB := n0_; have HO213 := n1_; clear n0_ n1_; clear ho hb hg hat))
      go_roundg k1
      case measure => have := HK1.out; omega
      case rel => exact ⟨(y211), (wrap64 (x10_1 + 1)), zs, H', ⟨by have := HK1.out; omega⟩, ⟨by (with_reducible repeat (first | apply Kd.R_alloc | apply Kd.R_drewN | apply Kd.R_drew)); exact HO213.out⟩, ⟨zb⟩⟩
     ·rw [if_neg c8] at H
      exact absurd H (by simp)
    ·replace c7 := Bool.eq_false_iff.mpr c7
     subst c7
     have H1 : (impl_HoldersOf.l0 k1 l0 a1 a2 a3 x9_1 (wrap64 (x10_1 + 1))) = some r := by rw [if_neg (show ¬ (false = true) by decide)] at H; exact H
     clear H
     have H := H1
     clear H1
     have H' := aM H
     clear H
     go_wp2_with (first | ((with_reducible refine gate_callee (f := 39) rfl ?_); refine goesL_ (some 20) rfl rfl Try.func39 (by kernel_rfl) rfl #[.slice A0 l0.length c0, .int .i64 a1, .int .i64 x10_1, .int .i64 a2, .int .i64 a3] rfl za ?_; (with_reducible refine (impl_MayTake.calls k1 _ _ l0 a1 x10_1 a2 a3 false _ ?side1 ?side2 A6.out).mono ?_); (case side1 => repeat (first | exact (Kd.C_below HR0.out HB.out) | (with_reducible refine Kd.C_alloc ?_ _) | (with_reducible refine Kd.C_drewN ?_ _) | (with_reducible refine Kd.C_drew ?_))); (case side2 => exact HC0.out); rintro e w11 ⟨rfl, hb⟩; refine ⟨_, rfl, ?_⟩; have n0_ := aM (Kd.R_below (by (with_reducible repeat (first | apply Kd.R_alloc | apply Kd.R_drewN | apply Kd.R_drew)); exact HO_9.out) hb); have n1_ := aM (below_step (zb) hb); clear HO_9; clear HB; have HO_9 := n0_; have HB := n1_; clear n0_ n1_; (try clear hb); (try clear hb2); (try clear hk); (try clear hi)))
     go_roundg k1
     case measure => have := HK1.out; omega
     case rel => exact ⟨(x9_1), (wrap64 (x10_1 + 1)), zs, H', ⟨by have := HK1.out; omega⟩, ⟨by (with_reducible repeat (first | apply Kd.R_alloc | apply Kd.R_drewN | apply Kd.R_drew)); exact HO_9.out⟩, ⟨zb⟩⟩
   ·rw [if_neg c5] at H
    have c5b0 : decide (x10_1 ≤ 40) = false := decide_eq_false c5
    clear c5
    obtain rfl := Option.some.inj H
    go_wp2
    go_ret
    exact ⟨_, zr, by (with_reducible repeat (first | apply Kd.R_alloc | apply Kd.R_drewN | apply Kd.R_drew)); exact HO_9.out, zb⟩

/-! ### laws_FnExactHoldersOf: function 13 -/
def laws_FnExactHoldersOf.j0 : Nat → List (S23) → Int → Int → Int → List Int → List Int → Bool → Option (Bool)
 | 0, _, _, _, _, _, _, _ => none
 | k + 1, x0, x1, x2, x3, x10, x12, x54 => if x54 = true then (none) else ((laws_markIntS.f k x12 1).bind fun bt235 => ((laws_heldIntS.f k bt235.2 1).bind fun t237 => (if t237 < 0 then (none) else (if t237 = bt235.1 then ((laws_toGrantS.f k x0).bind fun t238 => ((impl_HoldersOf.f k t238 x1 x2 x3).bind fun t241 => ((laws_eqIntS.f k t241 x10).bind fun t244 => (if t244 = true then ((laws_heldIntS.f k bt235.2 1).bind fun t245 => (if t245 < 0 then (none) else (if t245 = bt235.1 then (some true) else (none)))) else (none))))) else (none)))))
def laws_FnExactHoldersOf.f (k : Nat) (l0 : List (S23)) (a1 : Int) (a2 : Int) (a3 : Int) : Option (Bool) := (laws_szGrantS.f l0 1048576).bind fun t214 => (if t214 < 0 then (some true) else ((laws_toGrantS.f k l0).bind fun t215 => ((spec_HoldersOf.f k t215 a1 a2 a3).bind fun t218 => ((laws_toGrantS.f k l0).bind fun t221 => ((impl_HoldersOf.f k t221 a1 a2 a3).bind fun t224 => ((laws_eqIntS.f k t224 t218).bind fun t227 => (if t227 = true then ((laws_toGrantS.f k l0).bind fun t228 => ((laws_eqGrantS.f k t221 t228).bind fun t231 => (if t231 = true then ((laws_markGrantS.f k t221 1).bind fun bt232 => (if bt232.1 < 0 then (laws_FnExactHoldersOf.j0 k l0 a1 a2 a3 t218 t224 true) else ((laws_eqIntS.f k t224 t218).bind fun t234 => (laws_FnExactHoldersOf.j0 k l0 a1 a2 a3 t218 t224 (!t234))))) else (none)))) else (none))))))))
theorem laws_FnExactHoldersOf.mono_l : ∀ k, (∀ y0 y1 y2 y3 y4 y5 y6, LeO (laws_FnExactHoldersOf.j0 k y0 y1 y2 y3 y4 y5 y6) (laws_FnExactHoldersOf.j0 (k + 1) y0 y1 y2 y3 y4 y5 y6))
 | 0 => fun _ _ _ _ _ _ _ r h => by simp [laws_FnExactHoldersOf.j0] at h
 | k + 1 => by
  have ih0 := laws_FnExactHoldersOf.mono_l k
  ·intro y0 y1 y2 y3 y4 y5 y6
   unfold laws_FnExactHoldersOf.j0
   repeat' first
   | (with_reducible exact ih0 _ _ _ _ _ _ _)
   | (with_reducible exact impl_HoldersOf.mono _ _ _ _ _)
   | (with_reducible exact laws_eqGrantS.mono _ _ _)
   | (with_reducible exact laws_eqIntS.mono _ _ _)
   | (with_reducible exact laws_heldIntS.mono _ _ _)
   | (with_reducible exact laws_markGrantS.mono _ _ _)
   | (with_reducible exact laws_markIntS.mono _ _ _)
   | (with_reducible exact laws_toGrantS.mono _ _)
   | (with_reducible exact spec_HoldersOf.mono _ _ _ _ _)
   | (with_reducible exact LeO.refl _)
   | (with_reducible exact LeO.none _)
   | (with_reducible refine LeO.ite ?_ ?_)
   | (with_reducible refine LeO.bind ?_ (fun _ => ?_))
   | exact ih0 _ _ _ _ _ _ _
   | exact impl_HoldersOf.mono _ _ _ _ _
   | exact laws_eqGrantS.mono _ _ _
   | exact laws_eqIntS.mono _ _ _
   | exact laws_heldIntS.mono _ _ _
   | exact laws_markGrantS.mono _ _ _
   | exact laws_markIntS.mono _ _ _
   | exact laws_toGrantS.mono _ _
   | exact spec_HoldersOf.mono _ _ _ _ _
   | exact LeO.none _
   | refine LeO.ite ?_ ?_
   | refine LeO.bind ?_ (fun _ => ?_)
theorem laws_FnExactHoldersOf.mono : ∀ a0 a1 a2 a3 k, LeO (laws_FnExactHoldersOf.f k a0 a1 a2 a3) (laws_FnExactHoldersOf.f (k + 1) a0 a1 a2 a3) := by
 intro a0 a1 a2 a3 k
 have ih0 := laws_FnExactHoldersOf.mono_l k
 unfold laws_FnExactHoldersOf.f
 repeat' first
   | (with_reducible exact ih0 _ _ _ _ _ _ _)
   | (with_reducible exact impl_HoldersOf.mono _ _ _ _ _)
   | (with_reducible exact laws_eqGrantS.mono _ _ _)
   | (with_reducible exact laws_eqIntS.mono _ _ _)
   | (with_reducible exact laws_heldIntS.mono _ _ _)
   | (with_reducible exact laws_markGrantS.mono _ _ _)
   | (with_reducible exact laws_markIntS.mono _ _ _)
   | (with_reducible exact laws_toGrantS.mono _ _)
   | (with_reducible exact spec_HoldersOf.mono _ _ _ _ _)
   | (with_reducible exact LeO.refl _)
   | (with_reducible exact LeO.none _)
   | (with_reducible refine LeO.ite ?_ ?_)
   | (with_reducible refine LeO.bind ?_ (fun _ => ?_))
   | exact ih0 _ _ _ _ _ _ _
   | exact impl_HoldersOf.mono _ _ _ _ _
   | exact laws_eqGrantS.mono _ _ _
   | exact laws_eqIntS.mono _ _ _
   | exact laws_heldIntS.mono _ _ _
   | exact laws_markGrantS.mono _ _ _
   | exact laws_markIntS.mono _ _ _
   | exact laws_toGrantS.mono _ _
   | exact spec_HoldersOf.mono _ _ _ _ _
   | exact LeO.none _
   | refine LeO.ite ?_ ?_
   | refine LeO.bind ?_ (fun _ => ?_)
set_option maxHeartbeats 8000000 in
set_option maxRecDepth 100000 in
theorem laws_FnExactHoldersOf.calls (k : Nat) (A0 : Option Addr) (c0 : Nat) (l0 : List (S23)) (a1 : Int) (a2 : Int) (a3 : Int) (r : Bool) (w : World) (hr0 : Kd.C k23 w A0 l0.length l0) (hc0 : l0.length ≤ c0) (h : laws_FnExactHoldersOf.f k l0 a1 a2 a3 = some r) :
  Calls Try.prog 13 #[.slice A0 l0.length c0, .int .i64 a1, .int .i64 a2, .int .i64 a3] w fun e w' => e = .returned (.bool r) ∧ Below w.heap.size w w' := by
 have HR0 := aM hr0
 have HC0 := aM hc0
 clear hr0 hc0
 have HB := aM (Below.refl w.heap.size w)
 have H : ((laws_szGrantS.f l0 1048576).bind fun t214 => (if t214 < 0 then (some true) else ((laws_toGrantS.f k l0).bind fun t215 => ((spec_HoldersOf.f k t215 a1 a2 a3).bind fun t218 => ((laws_toGrantS.f k l0).bind fun t221 => ((impl_HoldersOf.f k t221 a1 a2 a3).bind fun t224 => ((laws_eqIntS.f k t224 t218).bind fun t227 => (if t227 = true then ((laws_toGrantS.f k l0).bind fun t228 => ((laws_eqGrantS.f k t221 t228).bind fun t231 => (if t231 = true then ((laws_markGrantS.f k t221 1).bind fun bt232 => (if bt232.1 < 0 then (laws_FnExactHoldersOf.j0 k l0 a1 a2 a3 t218 t224 true) else ((laws_eqIntS.f k t224 t218).bind fun t234 => (laws_FnExactHoldersOf.j0 k l0 a1 a2 a3 t218 t224 (!t234))))) else (none)))) else (none))))))))) = some r := h
 clear h
 replace H := Option.bind_eq_some_iff.mp H
 obtain ⟨t214, A50, H⟩ := H
 replace H : (if t214 < 0 then (some true) else ((laws_toGrantS.f k l0).bind fun t215 => ((spec_HoldersOf.f k t215 a1 a2 a3).bind fun t218 => ((laws_toGrantS.f k l0).bind fun t221 => ((impl_HoldersOf.f k t221 a1 a2 a3).bind fun t224 => ((laws_eqIntS.f k t224 t218).bind fun t227 => (if t227 = true then ((laws_toGrantS.f k l0).bind fun t228 => ((laws_eqGrantS.f k t221 t228).bind fun t231 => (if t231 = true then ((laws_markGrantS.f k t221 1).bind fun bt232 => (if bt232.1 < 0 then (laws_FnExactHoldersOf.j0 k l0 a1 a2 a3 t218 t224 true) else ((laws_eqIntS.f k t224 t218).bind fun t234 => (laws_FnExactHoldersOf.j0 k l0 a1 a2 a3 t218 t224 (!t234))))) else (none)))) else (none)))))))) = some r := H
 have A5 := aM A50
 clear A50
 by_cases c6 : t214 < 0
 ·rw [if_pos c6] at H
  have c6b0 : decide (t214 < 0) = true := decide_eq_true c6
  clear c6
  obtain rfl := Option.some.inj H
  go_enter Try.func13, Try.ntmps13
  go_wp2_with (first | ((with_reducible refine gate_callee (f := 23) rfl ?_); refine goesL_ (some 19) rfl rfl Try.func23 (by kernel_rfl) rfl #[.slice A0 l0.length c0, .int .i64 1048576] rfl za ?_; (with_reducible refine (laws_szGrantS.calls _ _ l0 1048576 t214 _ ?side1 ?side2 A5.out).mono ?_); (case side1 => repeat (first | exact HR0.out | (with_reducible refine Kd.C_alloc ?_ _) | (with_reducible refine Kd.C_drewN ?_ _) | (with_reducible refine Kd.C_drew ?_))); (case side2 => exact HC0.out); rintro e w' ⟨rfl, ⟨nd, rfl⟩⟩; refine ⟨_, rfl, ?_⟩))
  go_ret
  exact ⟨zr, zb⟩
 ·rw [if_neg c6] at H
  have c6b0 : decide (t214 < 0) = false := decide_eq_false c6
  clear c6
  replace H := Option.bind_eq_some_iff.mp H
  obtain ⟨t215, A70, H⟩ := H
  replace H : ((spec_HoldersOf.f k t215 a1 a2 a3).bind fun t218 => ((laws_toGrantS.f k l0).bind fun t221 => ((impl_HoldersOf.f k t221 a1 a2 a3).bind fun t224 => ((laws_eqIntS.f k t224 t218).bind fun t227 => (if t227 = true then ((laws_toGrantS.f k l0).bind fun t228 => ((laws_eqGrantS.f k t221 t228).bind fun t231 => (if t231 = true then ((laws_markGrantS.f k t221 1).bind fun bt232 => (if bt232.1 < 0 then (laws_FnExactHoldersOf.j0 k l0 a1 a2 a3 t218 t224 true) else ((laws_eqIntS.f k t224 t218).bind fun t234 => (laws_FnExactHoldersOf.j0 k l0 a1 a2 a3 t218 t224 (!t234))))) else (none)))) else (none)))))) = some r := H
  have A7 := aM A70
  clear A70
  replace H := Option.bind_eq_some_iff.mp H
  obtain ⟨t218, A80, H⟩ := H
  replace H : ((laws_toGrantS.f k l0).bind fun t221 => ((impl_HoldersOf.f k t221 a1 a2 a3).bind fun t224 => ((laws_eqIntS.f k t224 t218).bind fun t227 => (if t227 = true then ((laws_toGrantS.f k l0).bind fun t228 => ((laws_eqGrantS.f k t221 t228).bind fun t231 => (if t231 = true then ((laws_markGrantS.f k t221 1).bind fun bt232 => (if bt232.1 < 0 then (laws_FnExactHoldersOf.j0 k l0 a1 a2 a3 t218 t224 true) else ((laws_eqIntS.f k t224 t218).bind fun t234 => (laws_FnExactHoldersOf.j0 k l0 a1 a2 a3 t218 t224 (!t234))))) else (none)))) else (none))))) = some r := H
  have A8 := aM A80
  clear A80
  replace H := Option.bind_eq_some_iff.mp H
  obtain ⟨t221, A90, H⟩ := H
  replace H : ((impl_HoldersOf.f k t221 a1 a2 a3).bind fun t224 => ((laws_eqIntS.f k t224 t218).bind fun t227 => (if t227 = true then ((laws_toGrantS.f k l0).bind fun t228 => ((laws_eqGrantS.f k t221 t228).bind fun t231 => (if t231 = true then ((laws_markGrantS.f k t221 1).bind fun bt232 => (if bt232.1 < 0 then (laws_FnExactHoldersOf.j0 k l0 a1 a2 a3 t218 t224 true) else ((laws_eqIntS.f k t224 t218).bind fun t234 => (laws_FnExactHoldersOf.j0 k l0 a1 a2 a3 t218 t224 (!t234))))) else (none)))) else (none)))) = some r := H
  have A9 := aM A90
  clear A90
  replace H := Option.bind_eq_some_iff.mp H
  obtain ⟨t224, A100, H⟩ := H
  replace H : ((laws_eqIntS.f k t224 t218).bind fun t227 => (if t227 = true then ((laws_toGrantS.f k l0).bind fun t228 => ((laws_eqGrantS.f k t221 t228).bind fun t231 => (if t231 = true then ((laws_markGrantS.f k t221 1).bind fun bt232 => (if bt232.1 < 0 then (laws_FnExactHoldersOf.j0 k l0 a1 a2 a3 t218 t224 true) else ((laws_eqIntS.f k t224 t218).bind fun t234 => (laws_FnExactHoldersOf.j0 k l0 a1 a2 a3 t218 t224 (!t234))))) else (none)))) else (none))) = some r := H
  have A10 := aM A100
  clear A100
  replace H := Option.bind_eq_some_iff.mp H
  obtain ⟨t227, A110, H⟩ := H
  replace H : (if t227 = true then ((laws_toGrantS.f k l0).bind fun t228 => ((laws_eqGrantS.f k t221 t228).bind fun t231 => (if t231 = true then ((laws_markGrantS.f k t221 1).bind fun bt232 => (if bt232.1 < 0 then (laws_FnExactHoldersOf.j0 k l0 a1 a2 a3 t218 t224 true) else ((laws_eqIntS.f k t224 t218).bind fun t234 => (laws_FnExactHoldersOf.j0 k l0 a1 a2 a3 t218 t224 (!t234))))) else (none)))) else (none)) = some r := H
  have A11 := aM A110
  clear A110
  by_cases c12 : t227 = true
  ·subst c12
   have H1 : ((laws_toGrantS.f k l0).bind fun t228 => ((laws_eqGrantS.f k t221 t228).bind fun t231 => (if t231 = true then ((laws_markGrantS.f k t221 1).bind fun bt232 => (if bt232.1 < 0 then (laws_FnExactHoldersOf.j0 k l0 a1 a2 a3 t218 t224 true) else ((laws_eqIntS.f k t224 t218).bind fun t234 => (laws_FnExactHoldersOf.j0 k l0 a1 a2 a3 t218 t224 (!t234))))) else (none)))) = some r := by rw [if_pos rfl] at H; exact H
   clear H
   have H := H1
   clear H1
   replace H := Option.bind_eq_some_iff.mp H
   obtain ⟨t228, A130, H⟩ := H
   replace H : ((laws_eqGrantS.f k t221 t228).bind fun t231 => (if t231 = true then ((laws_markGrantS.f k t221 1).bind fun bt232 => (if bt232.1 < 0 then (laws_FnExactHoldersOf.j0 k l0 a1 a2 a3 t218 t224 true) else ((laws_eqIntS.f k t224 t218).bind fun t234 => (laws_FnExactHoldersOf.j0 k l0 a1 a2 a3 t218 t224 (!t234))))) else (none))) = some r := H
   have A13 := aM A130
   clear A130
   replace H := Option.bind_eq_some_iff.mp H
   obtain ⟨t231, A140, H⟩ := H
   replace H : (if t231 = true then ((laws_markGrantS.f k t221 1).bind fun bt232 => (if bt232.1 < 0 then (laws_FnExactHoldersOf.j0 k l0 a1 a2 a3 t218 t224 true) else ((laws_eqIntS.f k t224 t218).bind fun t234 => (laws_FnExactHoldersOf.j0 k l0 a1 a2 a3 t218 t224 (!t234))))) else (none)) = some r := H
   have A14 := aM A140
   clear A140
   by_cases c15 : t231 = true
   ·subst c15
    have H1 : ((laws_markGrantS.f k t221 1).bind fun bt232 => (if bt232.1 < 0 then (laws_FnExactHoldersOf.j0 k l0 a1 a2 a3 t218 t224 true) else ((laws_eqIntS.f k t224 t218).bind fun t234 => (laws_FnExactHoldersOf.j0 k l0 a1 a2 a3 t218 t224 (!t234))))) = some r := by rw [if_pos rfl] at H; exact H
    clear H
    have H := H1
    clear H1
    replace H := Option.bind_eq_some_iff.mp H
    obtain ⟨⟨t232, t233⟩, A160, H⟩ := H
    replace H : (if t232 < 0 then (laws_FnExactHoldersOf.j0 k l0 a1 a2 a3 t218 t224 true) else ((laws_eqIntS.f k t224 t218).bind fun t234 => (laws_FnExactHoldersOf.j0 k l0 a1 a2 a3 t218 t224 (!t234)))) = some r := H
    have A16 := aM A160
    clear A160
    have HC17 := aM H
    clear H
    go_enter Try.func13, Try.ntmps13
    go_upto_region 14 with (first | ((with_reducible refine gate_callee (f := 23) rfl ?_); refine goesL_ (some 19) rfl rfl Try.func23 (by kernel_rfl) rfl #[.slice A0 l0.length c0, .int .i64 1048576] rfl za ?_; (with_reducible refine (laws_szGrantS.calls _ _ l0 1048576 t214 _ ?side1 ?side2 A5.out).mono ?_); (case side1 => repeat (first | exact HR0.out | (with_reducible refine Kd.C_alloc ?_ _) | (with_reducible refine Kd.C_drewN ?_ _) | (with_reducible refine Kd.C_drew ?_))); (case side2 => exact HC0.out); rintro e w' ⟨rfl, ⟨nd, rfl⟩⟩; refine ⟨_, rfl, ?_⟩) | ((with_reducible refine gate_callee (f := 25) rfl ?_); refine goesL_ (some 23) rfl rfl Try.func25 (by kernel_rfl) rfl #[.slice A0 l0.length c0] rfl za ?_; (with_reducible refine (laws_toGrantS.calls k _ _ l0 t215 _ ?side1 ?side2 A7.out).mono ?_); (case side1 => repeat (first | exact HR0.out | (with_reducible refine Kd.C_alloc ?_ _) | (with_reducible refine Kd.C_drewN ?_ _) | (with_reducible refine Kd.C_drew ?_))); (case side2 => exact HC0.out); rintro e w18 ⟨v216, rfl, ho0, hb⟩; refine ⟨_, rfl, ?_⟩; have n0_ := aM (Kd.R_lower ho0 (below_size (zb))); have n1_ := aM (below_step (zb) hb); clear HB; have HO217 := n0_; have HB := n1_; clear n0_ n1_; (try clear hb); (try clear hb2); (try clear hk); (try clear hi); (try clear ho0); obtain ⟨Ao19, co19, eo19⟩ := Kd.R_slice HO217.out; subst eo19) | ((with_reducible refine gate_callee (f := 49) rfl ?_); refine goesL_ (some 27) rfl rfl Try.func49 (by kernel_rfl) rfl #[.slice Ao19 t215.length co19, .int .i64 a1, .int .i64 a2, .int .i64 a3] rfl za ?_; (with_reducible refine (spec_HoldersOf.calls k _ _ t215 a1 a2 a3 t218 _ ?side1 ?side2 A8.out).mono ?_); (case side1 => repeat (first | exact (Kd.R_reads' HO217.out).2.2 | (with_reducible refine Kd.C_alloc ?_ _) | (with_reducible refine Kd.C_drewN ?_ _) | (with_reducible refine Kd.C_drew ?_))); (case side2 => exact (Kd.R_reads' HO217.out).2.1); rintro e w20 ⟨v219, rfl, ho0, hb⟩; refine ⟨_, rfl, ?_⟩; have n0_ := aM (Kd.R_below (by (with_reducible repeat (first | apply Kd.R_alloc | apply Kd.R_drewN | apply Kd.R_drew)); exact HO217.out) hb); have n1_ := aM (Kd.R_lower ho0 (below_size (zb))); have n2_ := aM (below_step (zb) hb); clear HO217; clear HB; have HO217 := n0_; have HO220 := n1_; have HB := n2_; clear n0_ n1_ n2_; (try clear hb); (try clear hb2); (try clear hk); (try clear hi); (try clear ho0)) | ((with_reducible refine gate_callee (f := 25) rfl ?_); refine goesL_ (some 29) rfl rfl Try.func25 (by kernel_rfl) rfl #[.slice A0 l0.length c0] rfl za ?_; (with_reducible refine (laws_toGrantS.calls k _ _ l0 t221 _ ?side1 ?side2 A9.out).mono ?_); (case side1 => repeat (first | exact (Kd.C_below HR0.out HB.out) | (with_reducible refine Kd.C_alloc ?_ _) | (with_reducible refine Kd.C_drewN ?_ _) | (with_reducible refine Kd.C_drew ?_))); (case side2 => exact HC0.out); rintro e w21 ⟨v222, rfl, ho0, hb⟩; refine ⟨_, rfl, ?_⟩; have n0_ := aM (Kd.R_elder' (by (with_reducible repeat (first | apply Kd.R_alloc | apply Kd.R_drewN | apply Kd.R_drew)); exact HO217.out) (Kd.R_base ho0) hb); have n1_ := aM (Kd.R_below (by (with_reducible repeat (first | apply Kd.R_alloc | apply Kd.R_drewN | apply Kd.R_drew)); exact HO220.out) hb); have n2_ := aM (Kd.R_lower (Kd.R_new' ho0 (Kd.R_lt (by (with_reducible repeat (first | apply Kd.R_alloc | apply Kd.R_drewN | apply Kd.R_drew)); exact HO217.out))) (below_size (zb))); have n3_ := aM (below_step (zb) hb); clear HO217; clear HO220; clear HB; have HO217 := n0_; have HO220 := n1_; have HO223 := n2_; have HB := n3_; clear n0_ n1_ n2_ n3_; (try clear hb); (try clear hb2); (try clear hk); (try clear hi); (try clear ho0); obtain ⟨Ao22, co22, eo22⟩ := Kd.R_slice HO223.out; subst eo22) | ((with_reducible refine gate_callee (f := 50) rfl ?_); refine goesL_ (some 34) rfl rfl Try.func50 (by kernel_rfl) rfl #[.slice Ao22 t221.length co22, .int .i64 a1, .int .i64 a2, .int .i64 a3] rfl za ?_; (with_reducible refine (impl_HoldersOf.calls k _ _ t221 a1 a2 a3 t224 _ ?side1 ?side2 A10.out).mono ?_); (case side1 => repeat (first | exact (Kd.R_reads' HO223.out).2.2 | (with_reducible refine Kd.C_alloc ?_ _) | (with_reducible refine Kd.C_drewN ?_ _) | (with_reducible refine Kd.C_drew ?_))); (case side2 => exact (Kd.R_reads' HO223.out).2.1); rintro e w23 ⟨v225, rfl, ho0, hb⟩; refine ⟨_, rfl, ?_⟩; have n0_ := aM (Kd.R_below (by (with_reducible repeat (first | apply Kd.R_alloc | apply Kd.R_drewN | apply Kd.R_drew)); exact HO217.out) hb); have n1_ := aM (Kd.R_elder' (by (with_reducible repeat (first | apply Kd.R_alloc | apply Kd.R_drewN | apply Kd.R_drew)); exact HO220.out) (Kd.R_base ho0) hb); have n2_ := aM (Kd.R_below (by (with_reducible repeat (first | apply Kd.R_alloc | apply Kd.R_drewN | apply Kd.R_drew)); exact HO223.out) hb); have n3_ := aM (Kd.R_lower (Kd.R_new' ho0 (Kd.R_lt (by (with_reducible repeat (first | apply Kd.R_alloc | apply Kd.R_drewN | apply Kd.R_drew)); exact HO220.out))) (below_size (zb))); have n4_ := aM (below_step (zb) hb); clear HO217; clear HO220; clear HO223; clear HB; have HO217 := n0_; have HO220 := n1_; have HO223 := n2_; have HO226 := n3_; have HB := n4_; clear n0_ n1_ n2_ n3_ n4_; (try clear hb); (try clear hb2); (try clear hk); (try clear hi); (try clear ho0); obtain ⟨Ao24, co24, eo24⟩ := Kd.R_slice HO226.out; subst eo24; obtain ⟨Ao25, co25, eo25⟩ := Kd.R_slice HO220.out; subst eo25) | ((with_reducible refine gate_callee (f := 41) rfl ?_); refine goesL_ (some 37) rfl rfl Try.func41 (by kernel_rfl) rfl #[.slice Ao24 t224.length co24, .slice Ao25 t218.length co25] rfl za ?_; (with_reducible refine (laws_eqIntS.calls k _ _ t224 _ _ t218 true _ ?side1 ?side2 ?side3 ?side4 A11.out).mono ?_); (case side1 => repeat (first | exact (Kd.R_reads' HO226.out).2.2 | (with_reducible refine Kd.C_alloc ?_ _) | (with_reducible refine Kd.C_drewN ?_ _) | (with_reducible refine Kd.C_drew ?_))); (case side2 => exact (Kd.R_reads' HO226.out).2.1); (case side3 => repeat (first | exact (Kd.R_reads' HO220.out).2.2 | (with_reducible refine Kd.C_alloc ?_ _) | (with_reducible refine Kd.C_drewN ?_ _) | (with_reducible refine Kd.C_drew ?_))); (case side4 => exact (Kd.R_reads' HO220.out).2.1); rintro e w' ⟨rfl, ⟨nd, rfl⟩⟩; refine ⟨_, rfl, ?_⟩) | ((with_reducible refine gate_callee (f := 25) rfl ?_); refine goesL_ (some 41) rfl rfl Try.func25 (by kernel_rfl) rfl #[.slice A0 l0.length c0] rfl za ?_; (with_reducible refine (laws_toGrantS.calls k _ _ l0 t228 _ ?side1 ?side2 A13.out).mono ?_); (case side1 => repeat (first | exact (Kd.C_below HR0.out (zb)) | (with_reducible refine Kd.C_alloc ?_ _) | (with_reducible refine Kd.C_drewN ?_ _) | (with_reducible refine Kd.C_drew ?_))); (case side2 => exact HC0.out); rintro e w26 ⟨v229, rfl, ho0, hb⟩; refine ⟨_, rfl, ?_⟩; have n0_ := aM (Kd.R_elder' (by (with_reducible repeat (first | apply Kd.R_alloc | apply Kd.R_drewN | apply Kd.R_drew)); exact HO217.out) (Kd.R_base ho0) hb); have n1_ := aM (Kd.R_below (by (with_reducible repeat (first | apply Kd.R_alloc | apply Kd.R_drewN | apply Kd.R_drew)); exact HO220.out) hb); have n2_ := aM (Kd.R_elder' (by (with_reducible repeat (first | apply Kd.R_alloc | apply Kd.R_drewN | apply Kd.R_drew)); exact HO223.out) (Kd.R_base ho0) hb); have n3_ := aM (Kd.R_below (by (with_reducible repeat (first | apply Kd.R_alloc | apply Kd.R_drewN | apply Kd.R_drew)); exact HO226.out) hb); have n4_ := aM (Kd.R_lower (Kd.R_new' (Kd.R_new' ho0 (Kd.R_lt (by (with_reducible repeat (first | apply Kd.R_alloc | apply Kd.R_drewN | apply Kd.R_drew)); exact HO217.out))) (Kd.R_lt (by (with_reducible repeat (first | apply Kd.R_alloc | apply Kd.R_drewN | apply Kd.R_drew)); exact HO223.out))) (below_size (zb))); have n5_ := aM (below_step (zb) hb); clear HO217; clear HO220; clear HO223; clear HO226; clear HB; have HO217 := n0_; have HO220 := n1_; have HO223 := n2_; have HO226 := n3_; have HO230 := n4_; have HB := n5_; clear n0_ n1_ n2_ n3_ n4_ n5_; (try clear hb); (try clear hb2); (try clear hk); (try clear hi); (try clear ho0); obtain ⟨Ao27, co27, eo27⟩ := Kd.R_slice HO230.out; subst eo27) | ((with_reducible refine gate_callee (f := 27) rfl ?_); refine goesL_ (some 42) rfl rfl Try.func27 (by kernel_rfl) rfl #[.slice Ao22 t221.length co22, .slice Ao27 t228.length co27] rfl za ?_; (with_reducible refine (laws_eqGrantS.calls k _ _ t221 _ _ t228 true _ ?side1 ?side2 ?side3 ?side4 A14.out).mono ?_); (case side1 => repeat (first | exact (Kd.R_reads' HO223.out).2.2 | (with_reducible refine Kd.C_alloc ?_ _) | (with_reducible refine Kd.C_drewN ?_ _) | (with_reducible refine Kd.C_drew ?_))); (case side2 => exact (Kd.R_reads' HO223.out).2.1); (case side3 => repeat (first | exact (Kd.R_reads' HO230.out).2.2 | (with_reducible refine Kd.C_alloc ?_ _) | (with_reducible refine Kd.C_drewN ?_ _) | (with_reducible refine Kd.C_drew ?_))); (case side4 => exact (Kd.R_reads' HO230.out).2.1); rintro e w28 ⟨rfl, hb⟩; refine ⟨_, rfl, ?_⟩; have n0_ := aM (Kd.R_below (by (with_reducible repeat (first | apply Kd.R_alloc | apply Kd.R_drewN | apply Kd.R_drew)); exact HO217.out) hb); have n1_ := aM (Kd.R_below (by (with_reducible repeat (first | apply Kd.R_alloc | apply Kd.R_drewN | apply Kd.R_drew)); exact HO220.out) hb); have n2_ := aM (Kd.R_below (by (with_reducible repeat (first | apply Kd.R_alloc | apply Kd.R_drewN | apply Kd.R_drew)); exact HO223.out) hb); have n3_ := aM (Kd.R_below (by (with_reducible repeat (first | apply Kd.R_alloc | apply Kd.R_drewN | apply Kd.R_drew)); exact HO226.out) hb); have n4_ := aM (Kd.R_below (by (with_reducible repeat (first | apply Kd.R_alloc | apply Kd.R_drewN | apply Kd.R_drew)); exact HO230.out) hb); have n5_ := aM (below_step (zb) hb); clear HO217; clear HO220; clear HO223; clear HO226; clear HO230; clear HB; have HO217 := n0_; have HO220 := n1_; have HO223 := n2_; have HO226 := n3_; have HO230 := n4_; have HB := n5_; clear n0_ n1_ n2_ n3_ n4_ n5_; (try clear hb); (try clear hb2); (try clear hk); (try clear hi)) | ((with_reducible refine gate_callee (f := 30) rfl ?_); refine goesL_ (some 46) rfl rfl Try.func30 (by kernel_rfl) rfl #[.slice Ao22 t221.length co22, .int .i64 1] rfl za ?_; (with_reducible refine (laws_markGrantS.calls k (fun k_ => some k_ = (.slice Ao22 t221.length co22 : Value).ownBlock) (.slice Ao22 t221.length co22) t221 1 t232 t233 w _ ?side1 ?side2 A16.out).mono ?_); (case side1 => repeat (first | (with_reducible first | exact HB.out | apply eA | apply eN | apply eD) | exact HB.out)); (case side2 => exact Kd.R_tight rfl HO223.out); rintro e w29 ⟨rfl, hy0, hb, hkp⟩; refine ⟨_, rfl, ?_⟩; have n0_ := aM (Kd.R_mono (ok' := fun k_ => some k_ ≠ (.slice Ao22 t221.length co22 : Value).ownBlock ∧ some k_ ≠ (.slice Ao27 t228.length co27 : Value).ownBlock) (Kd.R_keptB (HO217.out) hkp (fun k_ hk_ hs_ => (hk_.1.2) hs_)) (fun k_ hk_ => ⟨hk_.1.1.2, hk_.1.2⟩)); have n1_ := aM (Kd.R_mono (ok' := fun k_ => some k_ ≠ (.slice Ao24 t224.length co24 : Value).ownBlock) (Kd.R_keptB ((Kd.R_apart' HO220.out (Kd.R_typed HO223.out) (by decide))) hkp (fun k_ hk_ hs_ => (hk_.2) hs_)) (fun k_ hk_ => hk_.1.1.2)); have n2_ := aM (Kd.R_reok rfl hy0 (fun k_ e_ => HO223.out.1 k_ e_)); have n3_ := aM (Kd.R_mono (ok' := fun k_ => some k_ ≠ (.slice Ao25 t218.length co25 : Value).ownBlock) (Kd.R_keptB ((Kd.R_apart' HO226.out (Kd.R_typed HO223.out) (by decide))) hkp (fun k_ hk_ hs_ => (hk_.2) hs_)) (fun k_ hk_ => hk_.1.1.2)); have n4_ := aM (Kd.R_mono (ok' := fun k_ => some k_ ≠ (.slice Ao19 t215.length co19 : Value).ownBlock ∧ some k_ ≠ (.slice Ao22 t221.length co22 : Value).ownBlock) (Kd.R_keptB (HO230.out) hkp (fun k_ hk_ hs_ => (hk_.2) hs_)) (fun k_ hk_ => ⟨hk_.1.1.2, hk_.1.2⟩)); have n5_ := aM (hb); clear HO217; clear HO220; clear HO223; clear HO226; clear HO230; clear HB; have HO217 := n0_; have HO220 := n1_; have HO223 := n2_; have HO226 := n3_; have HO230 := n4_; have HB := n5_; clear n0_ n1_ n2_ n3_ n4_ n5_; (try clear hb); (try clear hkp); (try clear hy0)))
    (try simp only [Act.put, List.setIfInBounds_toArray, List.set_cons_zero, List.set_cons_succ])
    go_cut [54] (fun v54 wc => ∃ (kq : Nat) (x54_16 : Bool), v54 = .bool x54_16 ∧ Aside0 (laws_FnExactHoldersOf.j0 kq l0 a1 a2 a3 t218 t224 x54_16 = some r) ∧ Aside0 (kq ≤ k) ∧ Aside0 (Kd.R (Kd.int .i64) 3 wc w.heap.size (fun k_ => some k_ ≠ ((.slice Ao24 t224.length co24) : Value).ownBlock) (.slice Ao25 t218.length co25) t218) ∧ Aside0 (Kd.R (Kd.int .i64) 3 wc w.heap.size (fun k_ => some k_ ≠ ((.slice Ao25 t218.length co25) : Value).ownBlock) (.slice Ao24 t224.length co24) t224) ∧ Aside0 (Below w.heap.size w wc))
    case first =>
     have H := HC17.out
     clear HC17
     by_cases c30 : t232 < 0
     ·rw [if_pos c30] at H
      have c30b0 : decide (t232 < 0) = true := decide_eq_true c30
      clear c30
      (first | rw [c30b0] | (simp only [i64_w, i32_w]; rw [c30b0]) | skip)
      have H' := aM H
      clear H
      go_wp2
      go_meet
      case rel => exact ⟨_, (true), zs, H', ⟨by first | omega | exact Nat.le_refl _⟩, ⟨by (with_reducible repeat (first | apply Kd.R_alloc | apply Kd.R_drewN | apply Kd.R_drew)); exact HO220.out⟩, ⟨by (with_reducible repeat (first | apply Kd.R_alloc | apply Kd.R_drewN | apply Kd.R_drew)); exact HO226.out⟩, ⟨zb⟩⟩
     ·rw [if_neg c30] at H
      have c30b0 : decide (t232 < 0) = false := decide_eq_false c30
      clear c30
      (first | rw [c30b0] | (simp only [i64_w, i32_w]; rw [c30b0]) | skip)
      replace H := Option.bind_eq_some_iff.mp H
      obtain ⟨t234, A310, H⟩ := H
      replace H : (laws_FnExactHoldersOf.j0 k l0 a1 a2 a3 t218 t224 (!t234)) = some r := H
      have A31 := aM A310
      clear A310
      have H' := aM H
      clear H
      go_wp2_with (first | (go_at_call 41; (with_reducible refine (laws_eqIntS.calls k _ _ t224 _ _ t218 t234 _ ?side1 ?side2 ?side3 ?side4 A31.out).mono ?_); (case side1 => repeat (first | exact (Kd.R_reads' HO226.out).2.2 | (with_reducible refine Kd.C_alloc ?_ _) | (with_reducible refine Kd.C_drewN ?_ _) | (with_reducible refine Kd.C_drew ?_))); (case side2 => exact (Kd.R_reads' HO226.out).2.1); (case side3 => repeat (first | exact (Kd.R_reads' HO220.out).2.2 | (with_reducible refine Kd.C_alloc ?_ _) | (with_reducible refine Kd.C_drewN ?_ _) | (with_reducible refine Kd.C_drew ?_))); (case side4 => exact (Kd.R_reads' HO220.out).2.1); rintro e w' ⟨rfl, ⟨nd, rfl⟩⟩))
      go_meet
      case rel => exact ⟨_, (!t234), zs, H', ⟨by first | omega | exact Nat.le_refl _⟩, ⟨by (with_reducible repeat (first | apply Kd.R_alloc | apply Kd.R_drewN | apply Kd.R_drew)); exact HO220.out⟩, ⟨by (with_reducible repeat (first | apply Kd.R_alloc | apply Kd.R_drewN | apply Kd.R_drew)); exact HO226.out⟩, ⟨zb⟩⟩
    case rest =>
     clear HC17
     try clear c1
     try clear c2
     try clear p2
     try clear c3
     try clear c4
     try clear c5
     try clear c6
     try clear c6b0
     try clear c12
     try clear c13
     try clear c15
     try clear c23
     try clear c25
     try clear c27
     try clear c30
     try clear c30b0
     obtain ⟨kq, x54_16, rfl, HA, HJ16, HO_10, HO_12, HB⟩ := hcut
     cases kq with
     | zero => exact absurd HA.out (by simp [laws_FnExactHoldersOf.j0])
     | succ kj16 =>
      have H := HA.out
      clear HA
      simp only [laws_FnExactHoldersOf.j0] at H
      by_cases c32 : x54_16 = true
      ·subst c32
       have H1 : (none) = some r := by rw [if_pos rfl] at H; exact H
       clear H
       have H := H1
       clear H1
       exact absurd H (by simp)
      ·replace c32 := Bool.eq_false_iff.mpr c32
       subst c32
       have H1 : ((laws_markIntS.f kj16 t224 1).bind fun bt235 => ((laws_heldIntS.f kj16 bt235.2 1).bind fun t237 => (if t237 < 0 then (none) else (if t237 = bt235.1 then ((laws_toGrantS.f kj16 l0).bind fun t238 => ((impl_HoldersOf.f kj16 t238 a1 a2 a3).bind fun t241 => ((laws_eqIntS.f kj16 t241 t218).bind fun t244 => (if t244 = true then ((laws_heldIntS.f kj16 bt235.2 1).bind fun t245 => (if t245 < 0 then (none) else (if t245 = bt235.1 then (some true) else (none)))) else (none))))) else (none))))) = some r := by rw [if_neg (show ¬ (false = true) by decide)] at H; exact H
       clear H
       have H := H1
       clear H1
       replace H := Option.bind_eq_some_iff.mp H
       obtain ⟨⟨t235, t236⟩, A330, H⟩ := H
       replace H : ((laws_heldIntS.f kj16 t236 1).bind fun t237 => (if t237 < 0 then (none) else (if t237 = t235 then ((laws_toGrantS.f kj16 l0).bind fun t238 => ((impl_HoldersOf.f kj16 t238 a1 a2 a3).bind fun t241 => ((laws_eqIntS.f kj16 t241 t218).bind fun t244 => (if t244 = true then ((laws_heldIntS.f kj16 t236 1).bind fun t245 => (if t245 < 0 then (none) else (if t245 = t235 then (some true) else (none)))) else (none))))) else (none)))) = some r := H
       have A33 := aM A330
       clear A330
       replace H := Option.bind_eq_some_iff.mp H
       obtain ⟨t237, A340, H⟩ := H
       replace H : (if t237 < 0 then (none) else (if t237 = t235 then ((laws_toGrantS.f kj16 l0).bind fun t238 => ((impl_HoldersOf.f kj16 t238 a1 a2 a3).bind fun t241 => ((laws_eqIntS.f kj16 t241 t218).bind fun t244 => (if t244 = true then ((laws_heldIntS.f kj16 t236 1).bind fun t245 => (if t245 < 0 then (none) else (if t245 = t235 then (some true) else (none)))) else (none))))) else (none))) = some r := H
       have A34 := aM A340
       clear A340
       by_cases c35 : t237 < 0
       ·rw [if_pos c35] at H
        exact absurd H (by simp)
       ·rw [if_neg c35] at H
        have c35b0 : decide (t237 < 0) = false := decide_eq_false c35
        clear c35
        by_cases c36 : t237 = t235
        ·rw [if_pos c36] at H
         have c36b0 : (t237 == t235) = true := beq_iff_eq.mpr c36
         have c36b1 : (t237 != t235) = false := bne_eq_false_iff_eq.mpr c36
         clear c36
         replace H := Option.bind_eq_some_iff.mp H
         obtain ⟨t238, A370, H⟩ := H
         replace H : ((impl_HoldersOf.f kj16 t238 a1 a2 a3).bind fun t241 => ((laws_eqIntS.f kj16 t241 t218).bind fun t244 => (if t244 = true then ((laws_heldIntS.f kj16 t236 1).bind fun t245 => (if t245 < 0 then (none) else (if t245 = t235 then (some true) else (none)))) else (none)))) = some r := H
         have A37 := aM A370
         clear A370
         replace H := Option.bind_eq_some_iff.mp H
         obtain ⟨t241, A380, H⟩ := H
         replace H : ((laws_eqIntS.f kj16 t241 t218).bind fun t244 => (if t244 = true then ((laws_heldIntS.f kj16 t236 1).bind fun t245 => (if t245 < 0 then (none) else (if t245 = t235 then (some true) else (none)))) else (none))) = some r := H
         have A38 := aM A380
         clear A380
         replace H := Option.bind_eq_some_iff.mp H
         obtain ⟨t244, A390, H⟩ := H
         replace H : (if t244 = true then ((laws_heldIntS.f kj16 t236 1).bind fun t245 => (if t245 < 0 then (none) else (if t245 = t235 then (some true) else (none)))) else (none)) = some r := H
         have A39 := aM A390
         clear A390
         by_cases c40 : t244 = true
         ·subst c40
          have H1 : ((laws_heldIntS.f kj16 t236 1).bind fun t245 => (if t245 < 0 then (none) else (if t245 = t235 then (some true) else (none)))) = some r := by rw [if_pos rfl] at H; exact H
          clear H
          have H := H1
          clear H1
          replace H := Option.bind_eq_some_iff.mp H
          obtain ⟨t245, A410, H⟩ := H
          replace H : (if t245 < 0 then (none) else (if t245 = t235 then (some true) else (none))) = some r := H
          have A41 := aM A410
          clear A410
          by_cases c42 : t245 < 0
          ·rw [if_pos c42] at H
           exact absurd H (by simp)
          ·rw [if_neg c42] at H
           have c42b0 : decide (t245 < 0) = false := decide_eq_false c42
           clear c42
           by_cases c43 : t245 = t235
           ·rw [if_pos c43] at H
            have c43b0 : (t245 == t235) = true := beq_iff_eq.mpr c43
            have c43b1 : (t245 != t235) = false := bne_eq_false_iff_eq.mpr c43
            clear c43
            obtain rfl := Option.some.inj H
            go_wp2_with (first | ((with_reducible refine gate_callee (f := 42) rfl ?_); refine goesL_ (some 57) rfl rfl Try.func42 (by kernel_rfl) rfl #[.slice Ao24 t224.length co24, .int .i64 1] rfl za ?_; (with_reducible refine (laws_markIntS.calls kj16 (fun k_ => some k_ = (.slice Ao24 t224.length co24 : Value).ownBlock) (.slice Ao24 t224.length co24) t224 1 t235 t236 w _ ?side1 ?side2 A33.out).mono ?_); (case side1 => repeat (first | (with_reducible first | exact HB.out | apply eA | apply eN | apply eD) | exact HB.out)); (case side2 => exact Kd.R_tight rfl HO_12.out); rintro e w44 ⟨rfl, hy0, hb, hkp⟩; refine ⟨_, rfl, ?_⟩; have n0_ := aM (Kd.R_mono (ok' := fun k_ => some k_ ≠ (.slice Ao24 t224.length co24 : Value).ownBlock) (Kd.R_keptB (HO_10.out) hkp (fun k_ hk_ hs_ => (hk_) hs_)) (fun k_ hk_ => hk_.1)); have n1_ := aM (Kd.R_reok rfl hy0 (fun k_ e_ => HO_12.out.1 k_ e_)); have n2_ := aM (hb); clear HO_10; clear HO_12; clear HB; have HO_10 := n0_; have HO_12 := n1_; have HB := n2_; clear n0_ n1_ n2_; (try clear hb); (try clear hkp); (try clear hy0)) | ((with_reducible refine gate_callee (f := 43) rfl ?_); refine goesL_ (some 60) rfl rfl Try.func43 (by kernel_rfl) rfl #[.slice Ao24 t236.length co24, .int .i64 1] rfl (by (try simp only [List.map_toArray, List.map_cons, List.map_nil]); first | done | (rw [show t236.length = t224.length from (Kd.R_reads' HO_12.out).1.symm] <;> rfl) | rfl | (simp only [List.length_drop, List.length_take]; rfl)) ?_; (with_reducible refine (laws_heldIntS.calls kj16 _ _ t236 1 t237 _ ?side1 ?side2 A34.out).mono ?_); (case side1 => repeat (first | exact (Kd.R_reads' HO_12.out).2.2 | (with_reducible refine Kd.C_alloc ?_ _) | (with_reducible refine Kd.C_drewN ?_ _) | (with_reducible refine Kd.C_drew ?_))); (case side2 => rw [show t236.length = t224.length from (Kd.R_reads' HO_12.out).1.symm]; exact (Kd.R_reads' HO_12.out).2.1); rintro e w' ⟨rfl, ⟨nd, rfl⟩⟩; refine ⟨_, rfl, ?_⟩) | ((with_reducible refine gate_callee (f := 25) rfl ?_); refine goesL_ (some 67) rfl rfl Try.func25 (by kernel_rfl) rfl #[.slice A0 l0.length c0] rfl za ?_; (with_reducible refine (laws_toGrantS.calls kj16 _ _ l0 t238 _ ?side1 ?side2 A37.out).mono ?_); (case side1 => repeat (first | exact (Kd.C_below HR0.out (zb)) | (with_reducible refine Kd.C_alloc ?_ _) | (with_reducible refine Kd.C_drewN ?_ _) | (with_reducible refine Kd.C_drew ?_))); (case side2 => exact HC0.out); rintro e w45 ⟨v239, rfl, ho0, hb⟩; refine ⟨_, rfl, ?_⟩; have n0_ := aM (Kd.R_below (by (with_reducible repeat (first | apply Kd.R_alloc | apply Kd.R_drewN | apply Kd.R_drew)); exact HO_10.out) hb); have n1_ := aM (Kd.R_below (by (with_reducible repeat (first | apply Kd.R_alloc | apply Kd.R_drewN | apply Kd.R_drew)); exact HO_12.out) hb); have n2_ := aM (Kd.R_lower ho0 (below_size (zb))); have n3_ := aM (below_step (zb) hb); clear HO_10; clear HO_12; clear HB; have HO_10 := n0_; have HO_12 := n1_; have HO240 := n2_; have HB := n3_; clear n0_ n1_ n2_ n3_; (try clear hb); (try clear hb2); (try clear hk); (try clear hi); (try clear ho0); obtain ⟨Ao46, co46, eo46⟩ := Kd.R_slice HO240.out; subst eo46) | ((with_reducible refine gate_callee (f := 50) rfl ?_); refine goesL_ (some 71) rfl rfl Try.func50 (by kernel_rfl) rfl #[.slice Ao46 t238.length co46, .int .i64 a1, .int .i64 a2, .int .i64 a3] rfl za ?_; (with_reducible refine (impl_HoldersOf.calls kj16 _ _ t238 a1 a2 a3 t241 _ ?side1 ?side2 A38.out).mono ?_); (case side1 => repeat (first | exact (Kd.R_reads' HO240.out).2.2 | (with_reducible refine Kd.C_alloc ?_ _) | (with_reducible refine Kd.C_drewN ?_ _) | (with_reducible refine Kd.C_drew ?_))); (case side2 => exact (Kd.R_reads' HO240.out).2.1); rintro e w47 ⟨v242, rfl, ho0, hb⟩; refine ⟨_, rfl, ?_⟩; have n0_ := aM (Kd.R_elder' (by (with_reducible repeat (first | apply Kd.R_alloc | apply Kd.R_drewN | apply Kd.R_drew)); exact HO_10.out) (Kd.R_base ho0) hb); have n1_ := aM (Kd.R_elder' (by (with_reducible repeat (first | apply Kd.R_alloc | apply Kd.R_drewN | apply Kd.R_drew)); exact HO_12.out) (Kd.R_base ho0) hb); have n2_ := aM (Kd.R_below (by (with_reducible repeat (first | apply Kd.R_alloc | apply Kd.R_drewN | apply Kd.R_drew)); exact HO240.out) hb); have n3_ := aM (Kd.R_lower (Kd.R_new' (Kd.R_new' ho0 (Kd.R_lt (by (with_reducible repeat (first | apply Kd.R_alloc | apply Kd.R_drewN | apply Kd.R_drew)); exact HO_10.out))) (Kd.R_lt (by (with_reducible repeat (first | apply Kd.R_alloc | apply Kd.R_drewN | apply Kd.R_drew)); exact HO_12.out))) (below_size (zb))); have n4_ := aM (below_step (zb) hb); clear HO_10; clear HO_12; clear HO240; clear HB; have HO_10 := n0_; have HO_12 := n1_; have HO240 := n2_; have HO243 := n3_; have HB := n4_; clear n0_ n1_ n2_ n3_ n4_; (try clear hb); (try clear hb2); (try clear hk); (try clear hi); (try clear ho0); obtain ⟨Ao48, co48, eo48⟩ := Kd.R_slice HO243.out; subst eo48) | ((with_reducible refine gate_callee (f := 41) rfl ?_); refine goesL_ (some 74) rfl rfl Try.func41 (by kernel_rfl) rfl #[.slice Ao48 t241.length co48, .slice Ao25 t218.length co25] rfl za ?_; (with_reducible refine (laws_eqIntS.calls kj16 _ _ t241 _ _ t218 true _ ?side1 ?side2 ?side3 ?side4 A39.out).mono ?_); (case side1 => repeat (first | exact (Kd.R_reads' HO243.out).2.2 | (with_reducible refine Kd.C_alloc ?_ _) | (with_reducible refine Kd.C_drewN ?_ _) | (with_reducible refine Kd.C_drew ?_))); (case side2 => exact (Kd.R_reads' HO243.out).2.1); (case side3 => repeat (first | exact (Kd.R_reads' HO_10.out).2.2 | (with_reducible refine Kd.C_alloc ?_ _) | (with_reducible refine Kd.C_drewN ?_ _) | (with_reducible refine Kd.C_drew ?_))); (case side4 => exact (Kd.R_reads' HO_10.out).2.1); rintro e w' ⟨rfl, ⟨nd, rfl⟩⟩; refine ⟨_, rfl, ?_⟩) | ((with_reducible refine gate_callee (f := 43) rfl ?_); refine goesL_ (some 78) rfl rfl Try.func43 (by kernel_rfl) rfl #[.slice Ao24 t236.length co24, .int .i64 1] rfl (by (try simp only [List.map_toArray, List.map_cons, List.map_nil]); first | done | (rw [show t236.length = t224.length from (Kd.R_reads' HO_12.out).1.symm] <;> rfl) | rfl | (simp only [List.length_drop, List.length_take]; rfl)) ?_; (with_reducible refine (laws_heldIntS.calls kj16 _ _ t236 1 t245 _ ?side1 ?side2 A41.out).mono ?_); (case side1 => repeat (first | exact (Kd.R_reads' HO_12.out).2.2 | (with_reducible refine Kd.C_alloc ?_ _) | (with_reducible refine Kd.C_drewN ?_ _) | (with_reducible refine Kd.C_drew ?_))); (case side2 => rw [show t236.length = t224.length from (Kd.R_reads' HO_12.out).1.symm]; exact (Kd.R_reads' HO_12.out).2.1); rintro e w' ⟨rfl, ⟨nd, rfl⟩⟩; refine ⟨_, rfl, ?_⟩))
            go_ret
            exact ⟨zr, zb⟩
           ·rw [if_neg c43] at H
            exact absurd H (by simp)
         ·replace c40 := Bool.eq_false_iff.mpr c40
          subst c40
          have H1 : (none) = some r := by rw [if_neg (show ¬ (false = true) by decide)] at H; exact H
          clear H
          have H := H1
          clear H1
          exact absurd H (by simp)
        ·rw [if_neg c36] at H
         exact absurd H (by simp)
   ·replace c15 := Bool.eq_false_iff.mpr c15
    subst c15
    have H1 : (none) = some r := by rw [if_neg (show ¬ (false = true) by decide)] at H; exact H
    clear H
    have H := H1
    clear H1
    exact absurd H (by simp)
  ·replace c12 := Bool.eq_false_iff.mpr c12
   subst c12
   have H1 : (none) = some r := by rw [if_neg (show ¬ (false = true) by decide)] at H; exact H
   clear H
   have H := H1
   clear H1
   exact absurd H (by simp)

end Go.Proofs.Ytcpjfkagbnoagaa.QFnExactHoldersOf
