-- Printed functions and their walks: by print.py, turned by wip/tools/myprint.py.
import Derived.Test.YtcpjfkagbnoagaaQFnExactNeededForx0
import Derived.Test.YtcpjfkagbnoagaaQFnExactNeededForx1
import Derived.Test.YtcpjfkagbnoagaaQFnExactNeededForx2
import Derived.Test.YtcpjfkagbnoagaaQFnExactNeededForx7
import Derived.Test.YtcpjfkagbnoagaaQFnExactNeededForx8
namespace Go.Proofs.Ytcpjfkagbnoagaa.QFnExactNeededFor
open Go.RowKit Go.Proofs.YtcpjfkagbnoagaaW.PrintWords Go.Proofs.YtcpjfkagbnoagaaW.PrintLast Go.Proofs.YtcpjfkagbnoagaaW.PrintMore
attribute [local go_sem] max2_int min2_int max_two min_two max_three min_three max_four min_four   -- for this text's walks alone
set_option linter.unusedVariables false
set_option linter.unusedSimpArgs false

/-! ### impl_ChainOf: function 36 -/
def impl_ChainOf.f (k : Nat) (l0 : List (S25)) (a1 : Int) (a2 : Int) (a3 : Int) (a4 : Int) : Option (List Int × Bool) := (impl_askOk.f k l0 a1 a2 a3 a4).bind fun t216 => (if t216 = true then ((impl_chain.f l0 a1 a2 a3 a4 0).bind fun bt217 => (some (bt217.1, bt217.2))) else (some (([] : List Int), false)))
theorem impl_ChainOf.mono : ∀ a0 a1 a2 a3 a4 k, LeO (impl_ChainOf.f k a0 a1 a2 a3 a4) (impl_ChainOf.f (k + 1) a0 a1 a2 a3 a4) := by
 intro a0 a1 a2 a3 a4 k
 unfold impl_ChainOf.f
 repeat' first
   | (with_reducible exact impl_askOk.mono _ _ _ _ _ _)
   | (with_reducible exact LeO.refl _)
   | (with_reducible exact LeO.none _)
   | (with_reducible refine LeO.ite ?_ ?_)
   | (with_reducible refine LeO.bind ?_ (fun _ => ?_))
   | exact impl_askOk.mono _ _ _ _ _ _
   | exact LeO.none _
   | refine LeO.ite ?_ ?_
   | refine LeO.bind ?_ (fun _ => ?_)
set_option maxHeartbeats 8000000 in
set_option maxRecDepth 100000 in
theorem impl_ChainOf.calls (k : Nat) (A0 : Option Addr) (c0 : Nat) (l0 : List (S25)) (a1 : Int) (a2 : Int) (a3 : Int) (a4 : Int) (r1 : List Int) (r2 : Bool) (w : World) (hr0 : Kd.C k25 w A0 l0.length l0) (hc0 : l0.length ≤ c0) (h : impl_ChainOf.f k l0 a1 a2 a3 a4 = some (r1, r2)) :
  Calls Try.prog 36 #[.slice A0 l0.length c0, .int .i64 a1, .int .i64 a2, .int .i64 a3, .int .i64 a4] w fun e w' => ∃ v0_ : Value, e = .returned (.tuple #[v0_, .bool r2]) ∧ Kd.R (Kd.int .i64) 3 w' w.heap.size (fun _ => True) v0_ r1 ∧ Below w.heap.size w w' := by
 have HR0 := aM hr0
 have HC0 := aM hc0
 clear hr0 hc0
 have HB := aM (Below.refl w.heap.size w)
 have H : ((impl_askOk.f k l0 a1 a2 a3 a4).bind fun t216 => (if t216 = true then ((impl_chain.f l0 a1 a2 a3 a4 0).bind fun bt217 => (some (bt217.1, bt217.2))) else (some (([] : List Int), false)))) = some (r1, r2) := h
 clear h
 replace H := Option.bind_eq_some_iff.mp H
 obtain ⟨t216, A60, H⟩ := H
 replace H : (if t216 = true then ((impl_chain.f l0 a1 a2 a3 a4 0).bind fun bt217 => (some (bt217.1, bt217.2))) else (some (([] : List Int), false))) = some (r1, r2) := H
 have A6 := aM A60
 clear A60
 by_cases c7 : t216 = true
 ·subst c7
  have H1 : ((impl_chain.f l0 a1 a2 a3 a4 0).bind fun bt217 => (some (bt217.1, bt217.2))) = some (r1, r2) := by rw [if_pos rfl] at H; exact H
  clear H
  have H := H1
  clear H1
  replace H := Option.bind_eq_some_iff.mp H
  obtain ⟨⟨t217, t218⟩, A80, H⟩ := H
  replace H : (some (t217, t218)) = some (r1, r2) := H
  have A8 := aM A80
  clear A80
  simp only [Option.some.injEq, Prod.mk.injEq] at H
  obtain ⟨rfl, rfl⟩ := H
  go_enter Try.func36, Try.ntmps36
  go_wp2_with (first | ((with_reducible refine gate_callee (f := 70) rfl ?_); refine goesL_ (some 17) rfl rfl Try.func70 (by kernel_rfl) rfl #[.slice A0 l0.length c0, .int .i64 a1, .int .i64 a2, .int .i64 a3, .int .i64 a4] rfl za ?_; (with_reducible refine (impl_askOk.calls k _ _ l0 a1 a2 a3 a4 true _ ?side1 ?side2 A6.out).mono ?_); (case side1 => repeat (first | exact HR0.out | (with_reducible refine Kd.C_alloc ?_ _) | (with_reducible refine Kd.C_drewN ?_ _) | (with_reducible refine Kd.C_drew ?_))); (case side2 => exact HC0.out); rintro e w9 ⟨rfl, hb⟩; refine ⟨_, rfl, ?_⟩; have n0_ := aM (below_step (zb) hb); clear HB; have HB := n0_; clear n0_; (try clear hb); (try clear hb2); (try clear hk); (try clear hi)) | ((with_reducible refine gate_callee (f := 71) rfl ?_); refine goesL_ (some 24) rfl rfl Try.func71 (by kernel_rfl) rfl #[.slice A0 l0.length c0, .int .i64 a1, .int .i64 a2, .int .i64 a3, .int .i64 a4, .int .i64 0] rfl za ?_; (with_reducible refine (impl_chain.calls _ _ l0 a1 a2 a3 a4 0 t217 t218 _ ?side1 ?side2 A8.out).mono ?_); (case side1 => repeat (first | exact (Kd.C_below HR0.out HB.out) | (with_reducible refine Kd.C_alloc ?_ _) | (with_reducible refine Kd.C_drewN ?_ _) | (with_reducible refine Kd.C_drew ?_))); (case side2 => exact HC0.out); rintro e w10 ⟨v219, rfl, ho0, hb⟩; refine ⟨_, rfl, ?_⟩; have n0_ := aM (Kd.R_lower ho0 (below_size (zb))); have n1_ := aM (below_step (zb) hb); clear HB; have HO220 := n0_; have HB := n1_; clear n0_ n1_; (try clear hb); (try clear hb2); (try clear hk); (try clear hi); (try clear ho0)))
  go_ret2
  exact ⟨_, zr, by (with_reducible repeat (first | apply Kd.R_alloc | apply Kd.R_drewN | apply Kd.R_drew)); exact HO220.out, zb⟩
 ·replace c7 := Bool.eq_false_iff.mpr c7
  subst c7
  have H1 : (some (([] : List Int), false)) = some (r1, r2) := by rw [if_neg (show ¬ (false = true) by decide)] at H; exact H
  clear H
  have H := H1
  clear H1
  simp only [Option.some.injEq, Prod.mk.injEq] at H
  obtain ⟨rfl, rfl⟩ := H
  go_enter Try.func36, Try.ntmps36
  go_wp2_with (first | ((with_reducible refine gate_callee (f := 70) rfl ?_); refine goesL_ (some 17) rfl rfl Try.func70 (by kernel_rfl) rfl #[.slice A0 l0.length c0, .int .i64 a1, .int .i64 a2, .int .i64 a3, .int .i64 a4] rfl za ?_; (with_reducible refine (impl_askOk.calls k _ _ l0 a1 a2 a3 a4 false _ ?side1 ?side2 A6.out).mono ?_); (case side1 => repeat (first | exact HR0.out | (with_reducible refine Kd.C_alloc ?_ _) | (with_reducible refine Kd.C_drewN ?_ _) | (with_reducible refine Kd.C_drew ?_))); (case side2 => exact HC0.out); rintro e w11 ⟨rfl, hb⟩; refine ⟨_, rfl, ?_⟩; have n0_ := aM (below_step (zb) hb); clear HB; have HB := n0_; clear n0_; (try clear hb); (try clear hb2); (try clear hk); (try clear hi)))
  go_ret2
  exact ⟨_, zr, by first | exact Kd.R_nil _ _ _ _ _ | exact Kd.N_nil _ _ _ _ _ | exact Kd.V_nil _ _ _ _ _ | exact Kd.Q_nil _ _ _ _ _ | exact Kd.S_nil _ _ _ _ _, zb⟩

/-! ### impl_MayTake: function 39 -/
def impl_MayTake.f (k : Nat) (l0 : List (S25)) (a1 : Int) (a2 : Int) (a3 : Int) (a4 : Int) : Option (Bool) := (impl_ChainOf.f k l0 a1 a2 a3 a4).bind fun bt221 => (some bt221.2)
theorem impl_MayTake.mono : ∀ a0 a1 a2 a3 a4 k, LeO (impl_MayTake.f k a0 a1 a2 a3 a4) (impl_MayTake.f (k + 1) a0 a1 a2 a3 a4) := by
 intro a0 a1 a2 a3 a4 k
 unfold impl_MayTake.f
 repeat' first
   | (with_reducible exact impl_ChainOf.mono _ _ _ _ _ _)
   | (with_reducible exact LeO.refl _)
   | (with_reducible exact LeO.none _)
   | (with_reducible refine LeO.ite ?_ ?_)
   | (with_reducible refine LeO.bind ?_ (fun _ => ?_))
   | exact impl_ChainOf.mono _ _ _ _ _ _
   | exact LeO.none _
   | refine LeO.ite ?_ ?_
   | refine LeO.bind ?_ (fun _ => ?_)
set_option maxHeartbeats 8000000 in
set_option maxRecDepth 100000 in
theorem impl_MayTake.calls (k : Nat) (A0 : Option Addr) (c0 : Nat) (l0 : List (S25)) (a1 : Int) (a2 : Int) (a3 : Int) (a4 : Int) (r : Bool) (w : World) (hr0 : Kd.C k25 w A0 l0.length l0) (hc0 : l0.length ≤ c0) (h : impl_MayTake.f k l0 a1 a2 a3 a4 = some r) :
  Calls Try.prog 39 #[.slice A0 l0.length c0, .int .i64 a1, .int .i64 a2, .int .i64 a3, .int .i64 a4] w fun e w' => e = .returned (.bool r) ∧ Below w.heap.size w w' := by
 have HR0 := aM hr0
 have HC0 := aM hc0
 clear hr0 hc0
 have HB := aM (Below.refl w.heap.size w)
 have H : ((impl_ChainOf.f k l0 a1 a2 a3 a4).bind fun bt221 => (some bt221.2)) = some r := h
 clear h
 replace H := Option.bind_eq_some_iff.mp H
 obtain ⟨⟨t221, t222⟩, A60, H⟩ := H
 replace H : (some t222) = some r := H
 have A6 := aM A60
 clear A60
 obtain rfl := Option.some.inj H
 go_enter Try.func39, Try.ntmps39
 go_wp2_with (first | ((with_reducible refine gate_callee (f := 36) rfl ?_); refine goesL_ (some 19) rfl rfl Try.func36 (by kernel_rfl) rfl #[.slice A0 l0.length c0, .int .i64 a1, .int .i64 a2, .int .i64 a3, .int .i64 a4] rfl za ?_; (with_reducible refine (impl_ChainOf.calls k _ _ l0 a1 a2 a3 a4 t221 t222 _ ?side1 ?side2 A6.out).mono ?_); (case side1 => repeat (first | exact HR0.out | (with_reducible refine Kd.C_alloc ?_ _) | (with_reducible refine Kd.C_drewN ?_ _) | (with_reducible refine Kd.C_drew ?_))); (case side2 => exact HC0.out); rintro e w7 ⟨v223, rfl, ho0, hb⟩; refine ⟨_, rfl, ?_⟩; have n0_ := aM (Kd.R_lower ho0 (below_size (zb))); have n1_ := aM (below_step (zb) hb); clear HB; have HO224 := n0_; have HB := n1_; clear n0_ n1_; (try clear hb); (try clear hb2); (try clear hk); (try clear hi); (try clear ho0)))
 go_ret
 exact ⟨zr, zb⟩

/-! ### impl_Grant_68: function 68, walked by hand -/
def impl_Grant_68.f (l0 : List (S25)) : Option (List (S25)) := if l0.length < 2513169434916 then some l0 else none
theorem impl_Grant_68.eqIn {P : Program} (w : World) (d : Nat) (t e : TypeId) (a : Option Addr) (n c : Nat) (h : P.underlying t = some (.slice e)) : (Op.equalIn (d + 1) t (.slice a n c) (.slice none 0 0)).run P w = .ok a.isNone w := by
  cases a <;> simp [Op.equalIn, run_underlying h]
theorem impl_Grant_68.eql {P : Program} (w : World) (t e : TypeId) (a : Option Addr) (n c : Nat) (h : P.underlying t = some (.slice e)) : (binOp .eql t (.slice a n c) (.slice none 0 0)).run P w = .ok (.bool a.isNone) w := by
  simp only [binOp]
  simp [Op.equal, Op.maxDepth, impl_Grant_68.eqIn w 9999 t e a n c h]
set_option maxHeartbeats 8000000 in
set_option maxRecDepth 100000 in
theorem impl_Grant_68.calls (A0 : Option Addr) (c0 : Nat) (l0 : List (S25)) (r : List (S25)) (w : World) (hr0 : Kd.C k25 w A0 l0.length l0) (hc0 : l0.length ≤ c0) (h : impl_Grant_68.f l0 = some r) :
  Calls Try.prog 68 #[.slice A0 l0.length c0] w fun e w' => ∃ v0_ : Value, e = .returned (v0_) ∧ Kd.R k25 25 w' w.heap.size (fun _ => True) v0_ r ∧ Below w.heap.size w w' := by
 have hu25 := Try.underlying25
 unfold impl_Grant_68.f at h
 by_cases c3 : l0.length < 2513169434916
 ·rw [if_pos c3] at h
  obtain rfl := Option.some.inj h
  clear h
  have LMc3 := aM c3
  clear c3
  have HR0 := aM hr0
  have HC0 := aM hc0
  clear hr0 hc0
  have HB := aM (Below.refl w.heap.size w)
  cases A0 with
  | none =>
    have HL : Aside0 (l0 = []) := aM (by
      cases l0 with
      | nil => rfl
      | cons a t => obtain ⟨ad, e, _⟩ := HR0.out.2.2 (by simp); cases e)
    have hnil : ∀ W : World, (binOp .eql 33 (.slice none l0.length c0) (.slice none 0 0)).run Try.prog W = .ok (.bool true) W := fun W => impl_Grant_68.eql W 33 25 _ _ _ Try.underlying33
    go_enter Try.func68, Try.ntmps68
    go_wp2
    go_ret
    exact ⟨_, rfl, by rw [HL.out]; exact Kd.R_nil _ _ _ _ _, Below.refl _ _⟩
  | some ad =>
    have hnil : ∀ W : World, (binOp .eql 33 (.slice (some ad) l0.length c0) (.slice none 0 0)).run Try.prog W = .ok (.bool false) W := fun W => impl_Grant_68.eql W 33 25 _ _ _ Try.underlying33
    obtain ⟨y133, hy133⟩ : ∃ y_ : List (S25), y_ = (([] : List (S25))) := ⟨_, rfl⟩
    have Ny133 := aM hy133
    clear hy133
    obtain ⟨y136, hy136⟩ : ∃ y_ : List (S25), y_ = (y133 ++ l0) := ⟨_, rfl⟩
    have Ny136 := aM hy136
    clear hy136
    have LMc4 : Aside0 (y133.length + l0.length < 2513169434916) := aM (by rw [Ny133.out]; have := LMc3.out; simpa using this)
    go_enter Try.func68, Try.ntmps68
    go_wp2_with (first | ((with_reducible refine gate_dst (N := 5) rfl ?_); refine Kd.R_lit k25 _ 25 ?hg (N := 5) ?hd (xs := ([] : List (S25))) (inner := []) (ok := fun _ => True) (okp := fun _ => True) ?hr ?hp (fun _ hk => hk) trivial (Below.refl _ _) (Nat.le_refl _) (by simp) ?_; (case hd => rfl); (case hg => rfl); (case hr => first | (go_simp; done) | (go_simp; rfl)); (case hp => exact (Reps.none _ _)); intro v134 w8 ho9 hb hg_ hnew_; clear hg_ hnew_; (first | rw [← Ny133.out] at ho9 | (simp only [Int.reduceToNat] at ho9; rw [← Ny133.out] at ho9)); have HO135 := aM ho9; replace HB := aM (below_step HB.out hb); clear hb ho9) | ((with_reducible refine gate_builtin (b := .append) (xs := #[.tmp 5, .tmp 6]) rfl ?_); at_builtin; refine Kd.R_append_rows k25 (w0 := w) w.heap.size rfl (.tmp 5) (.tmp 6) 33 25 (.agg #[(.int .i64 0), (.int .i64 0), (.int .i64 0), (.int .i64 0), (.int .i64 0), (.int .i64 0), (.bool false)]) 56 rfl Try.underlying33 info25 rfl (by decide) (by omega) v134 y133 l0 _ _ _ (fun _ => True) (fun _ => False) rfl rfl ?aO ?aR (fun _ _ h => h) (fun _ h => h.elim) (fun _ _ => trivial) ?aB ?aS ?aL ?_; (case aR => exact Kd.C_below HR0.out HB.out); (case aB => exact HB.out); (case aO => exact HO135.out); (case aS => exact below_size HB.out); (case aL => have := LMc4.out; omega); intro v137 w10 ho hb hg hat; rw [← Ny136.out] at ho; have HO138 := aM ho; replace HB := aM hb; clear ho hb hg hat))
    go_ret
    exact ⟨_, rfl, by have := HO138.out; rw [Ny136.out, Ny133.out] at this; exact this, HB.out⟩
 ·rw [if_neg c3] at h
  exact absurd h (by simp)

/-! ### impl_NeededFor: function 52 -/
def impl_NeededFor.l0 : Nat → List (S25) → Int → Int → Int → Int → List Int → Int → Int → Option (List Int)
 | 0, _, _, _, _, _, _, _, _ => none
 | k + 1, x0, x1, x2, x3, x4, x11, x22, x23 => if x23 < x22 then ((impl_Grant_68.f x0).bind fun t226 => (if 0 ≤ x23 then (if x23 < (t226.length : Int) then ((impl_MayTake.f k (t226.set (x23 : Int).toNat (⟨(rd_T25 t226 x23).f0, (rd_T25 t226 x23).f1, (rd_T25 t226 x23).f2, (rd_T25 t226 x23).f3, (rd_T25 t226 x23).f4, (rd_T25 t226 x23).f5, true⟩ : S25)) x1 x2 x3 x4).bind fun t230 => (if t230 = true then (impl_NeededFor.l0 k x0 x1 x2 x3 x4 x11 x22 (wrap64 (x23 + 1))) else (if x11.length < 17592186044416 then (impl_NeededFor.l0 k x0 x1 x2 x3 x4 (x11 ++ [x23]) x22 (wrap64 (x23 + 1))) else (none)))) else (none)) else (none))) else (some x11)
def impl_NeededFor.f (k : Nat) (l0 : List (S25)) (a1 : Int) (a2 : Int) (a3 : Int) (a4 : Int) : Option (List Int) := (impl_MayTake.f k l0 a1 a2 a3 a4).bind fun t225 => (if t225 = true then (impl_NeededFor.l0 k l0 a1 a2 a3 a4 ([] : List Int) (l0.length : Int) 0) else (some ([] : List Int)))
theorem impl_NeededFor.mono_l : ∀ k, (∀ y0 y1 y2 y3 y4 y5 y6 y7, LeO (impl_NeededFor.l0 k y0 y1 y2 y3 y4 y5 y6 y7) (impl_NeededFor.l0 (k + 1) y0 y1 y2 y3 y4 y5 y6 y7))
 | 0 => fun _ _ _ _ _ _ _ _ r h => by simp [impl_NeededFor.l0] at h
 | k + 1 => by
  have ih0 := impl_NeededFor.mono_l k
  ·intro y0 y1 y2 y3 y4 y5 y6 y7
   unfold impl_NeededFor.l0
   repeat' first
   | (with_reducible exact ih0 _ _ _ _ _ _ _ _)
   | (with_reducible exact impl_MayTake.mono _ _ _ _ _ _)
   | (with_reducible exact LeO.refl _)
   | (with_reducible exact LeO.none _)
   | (with_reducible refine LeO.ite ?_ ?_)
   | (with_reducible refine LeO.bind ?_ (fun _ => ?_))
   | exact ih0 _ _ _ _ _ _ _ _
   | exact impl_MayTake.mono _ _ _ _ _ _
   | exact LeO.none _
   | refine LeO.ite ?_ ?_
   | refine LeO.bind ?_ (fun _ => ?_)
theorem impl_NeededFor.mono : ∀ a0 a1 a2 a3 a4 k, LeO (impl_NeededFor.f k a0 a1 a2 a3 a4) (impl_NeededFor.f (k + 1) a0 a1 a2 a3 a4) := by
 intro a0 a1 a2 a3 a4 k
 have ih0 := impl_NeededFor.mono_l k
 unfold impl_NeededFor.f
 repeat' first
   | (with_reducible exact ih0 _ _ _ _ _ _ _ _)
   | (with_reducible exact impl_MayTake.mono _ _ _ _ _ _)
   | (with_reducible exact LeO.refl _)
   | (with_reducible exact LeO.none _)
   | (with_reducible refine LeO.ite ?_ ?_)
   | (with_reducible refine LeO.bind ?_ (fun _ => ?_))
   | exact ih0 _ _ _ _ _ _ _ _
   | exact impl_MayTake.mono _ _ _ _ _ _
   | exact LeO.none _
   | refine LeO.ite ?_ ?_
   | refine LeO.bind ?_ (fun _ => ?_)
set_option maxHeartbeats 8000000 in
set_option maxRecDepth 100000 in
theorem impl_NeededFor.calls (k : Nat) (A0 : Option Addr) (c0 : Nat) (l0 : List (S25)) (a1 : Int) (a2 : Int) (a3 : Int) (a4 : Int) (r : List Int) (w : World) (hr0 : Kd.C k25 w A0 l0.length l0) (hc0 : l0.length ≤ c0) (h : impl_NeededFor.f k l0 a1 a2 a3 a4 = some r) :
  Calls Try.prog 52 #[.slice A0 l0.length c0, .int .i64 a1, .int .i64 a2, .int .i64 a3, .int .i64 a4] w fun e w' => ∃ v0_ : Value, e = .returned (v0_) ∧ Kd.R (Kd.int .i64) 3 w' w.heap.size (fun _ => True) v0_ r ∧ Below w.heap.size w w' := by
 have HR0 := aM hr0
 have HC0 := aM hc0
 clear hr0 hc0
 have HB := aM (Below.refl w.heap.size w)
 have H : ((impl_MayTake.f k l0 a1 a2 a3 a4).bind fun t225 => (if t225 = true then (impl_NeededFor.l0 k l0 a1 a2 a3 a4 ([] : List Int) (l0.length : Int) 0) else (some ([] : List Int)))) = some r := h
 clear h
 replace H := Option.bind_eq_some_iff.mp H
 obtain ⟨t225, A60, H⟩ := H
 replace H : (if t225 = true then (impl_NeededFor.l0 k l0 a1 a2 a3 a4 ([] : List Int) (l0.length : Int) 0) else (some ([] : List Int))) = some r := H
 have A6 := aM A60
 clear A60
 by_cases c7 : t225 = true
 ·subst c7
  have H1 : (impl_NeededFor.l0 k l0 a1 a2 a3 a4 ([] : List Int) (l0.length : Int) 0) = some r := by rw [if_pos rfl] at H; exact H
  clear H
  have H := H1
  clear H1
  have H' := aM H
  clear H
  go_enter Try.func52, Try.ntmps52
  go_wp2_with (first | ((with_reducible refine gate_callee (f := 39) rfl ?_); refine goesL_ (some 19) rfl rfl Try.func39 (by kernel_rfl) rfl #[.slice A0 l0.length c0, .int .i64 a1, .int .i64 a2, .int .i64 a3, .int .i64 a4] rfl za ?_; (with_reducible refine (impl_MayTake.calls k _ _ l0 a1 a2 a3 a4 true _ ?side1 ?side2 A6.out).mono ?_); (case side1 => repeat (first | exact HR0.out | (with_reducible refine Kd.C_alloc ?_ _) | (with_reducible refine Kd.C_drewN ?_ _) | (with_reducible refine Kd.C_drew ?_))); (case side2 => exact HC0.out); rintro e w8 ⟨rfl, hb⟩; refine ⟨_, rfl, ?_⟩; have n0_ := aM (below_step (zb) hb); clear HB; have HB := n0_; clear n0_; (try clear hb); (try clear hb2); (try clear hk); (try clear hi)))
  go_loopg [11, 23] k (fun kq v11 v23 w' => ∃ (x11_1 : List Int) (x23_1 : Int), v23 = .int .i64 x23_1 ∧ Aside0 (impl_NeededFor.l0 kq l0 a1 a2 a3 a4 x11_1 (l0.length : Int) x23_1 = some r) ∧ Aside0 (kq ≤ k) ∧ Aside0 (Kd.R (Kd.int .i64) 3 w' w.heap.size (fun _ => True) v11 x11_1) ∧ Aside0 (Below w.heap.size w w'))
  case atStart => exact ⟨(([] : List Int)), (0), zs, H', ⟨Nat.le_refl _⟩, ⟨by first | exact Kd.R_nil _ _ _ _ _ | exact Kd.N_nil _ _ _ _ _ | exact Kd.V_nil _ _ _ _ _ | exact Kd.Q_nil _ _ _ _ _ | exact Kd.S_nil _ _ _ _ _⟩, ⟨zb⟩⟩
  case round =>
   clear H'
   try clear p2
   try clear c3
   try clear c5
   try clear c7
   obtain ⟨x11_1, x23_1, rfl, HA, HK1, HO_11, HB⟩ := hrel
   cases gk with
   | zero => exact absurd HA.out (by simp [impl_NeededFor.l0])
   | succ k1 =>
    have H := HA.out
    clear HA
    simp only [impl_NeededFor.l0] at H
    by_cases c9 : x23_1 < (l0.length : Int)
    ·rw [if_pos c9] at H
     have c9b0 : decide (x23_1 < (l0.length : Int)) = true := decide_eq_true c9
     clear c9
     replace H := Option.bind_eq_some_iff.mp H
     obtain ⟨t226, A100, H⟩ := H
     replace H : (if 0 ≤ x23_1 then (if x23_1 < (t226.length : Int) then ((impl_MayTake.f k1 (t226.set (x23_1 : Int).toNat (⟨(rd_T25 t226 x23_1).f0, (rd_T25 t226 x23_1).f1, (rd_T25 t226 x23_1).f2, (rd_T25 t226 x23_1).f3, (rd_T25 t226 x23_1).f4, (rd_T25 t226 x23_1).f5, true⟩ : S25)) a1 a2 a3 a4).bind fun t230 => (if t230 = true then (impl_NeededFor.l0 k1 l0 a1 a2 a3 a4 x11_1 (l0.length : Int) (wrap64 (x23_1 + 1))) else (if x11_1.length < 17592186044416 then (impl_NeededFor.l0 k1 l0 a1 a2 a3 a4 (x11_1 ++ [x23_1]) (l0.length : Int) (wrap64 (x23_1 + 1))) else (none)))) else (none)) else (none)) = some r := H
     have A10 := aM A100
     clear A100
     by_cases c11 : 0 ≤ x23_1
     ·rw [if_pos c11] at H
      have c11b0 : decide (0 ≤ x23_1) = true := decide_eq_true c11
      clear c11
      by_cases c12 : x23_1 < (t226.length : Int)
      ·rw [if_pos c12] at H
       have c12b0 : decide (x23_1 < (t226.length : Int)) = true := decide_eq_true c12
       clear c12
       obtain ⟨y229, hy229⟩ : ∃ y_ : List (S25), y_ = (t226.set (x23_1 : Int).toNat (⟨(rd_T25 t226 x23_1).f0, (rd_T25 t226 x23_1).f1, (rd_T25 t226 x23_1).f2, (rd_T25 t226 x23_1).f3, (rd_T25 t226 x23_1).f4, (rd_T25 t226 x23_1).f5, true⟩ : S25)) := ⟨_, rfl⟩
       replace H : ((impl_MayTake.f k1 y229 a1 a2 a3 a4).bind fun t230 => (if t230 = true then (impl_NeededFor.l0 k1 l0 a1 a2 a3 a4 x11_1 (l0.length : Int) (wrap64 (x23_1 + 1))) else (if x11_1.length < 17592186044416 then (impl_NeededFor.l0 k1 l0 a1 a2 a3 a4 (x11_1 ++ [x23_1]) (l0.length : Int) (wrap64 (x23_1 + 1))) else (none)))) = some r := by first | (rw [hy229]; with_reducible exact H) | (have H2_ := (Option.bind_some _ _).symm.trans H; rw [hy229]; with_reducible exact H2_) | (have H2_ := (Option.bind_some _ _).symm.trans H; with_reducible exact H2_) | with_reducible exact H | (rw [hy229]; exact H) | exact H
       have Ny229 := aM hy229
       clear hy229
       replace H := Option.bind_eq_some_iff.mp H
       obtain ⟨t230, A140, H⟩ := H
       replace H : (if t230 = true then (impl_NeededFor.l0 k1 l0 a1 a2 a3 a4 x11_1 (l0.length : Int) (wrap64 (x23_1 + 1))) else (if x11_1.length < 17592186044416 then (impl_NeededFor.l0 k1 l0 a1 a2 a3 a4 (x11_1 ++ [x23_1]) (l0.length : Int) (wrap64 (x23_1 + 1))) else (none))) = some r := H
       have A14 := aM A140
       clear A140
       by_cases c15 : t230 = true
       ·subst c15
        have H1 : (impl_NeededFor.l0 k1 l0 a1 a2 a3 a4 x11_1 (l0.length : Int) (wrap64 (x23_1 + 1))) = some r := by rw [if_pos rfl] at H; exact H
        clear H
        have H := H1
        clear H1
        have H' := aM H
        clear H
        go_wp2_with (first | ((with_reducible refine gate_callee (f := 68) rfl ?_); refine goesL_ (some 27) rfl rfl Try.func68 (by kernel_rfl) rfl #[.slice A0 l0.length c0] rfl za ?_; (with_reducible refine (impl_Grant_68.calls _ _ l0 t226 _ ?side1 ?side2 A10.out).mono ?_); (case side1 => repeat (first | exact (Kd.C_below HR0.out HB.out) | (with_reducible refine Kd.C_alloc ?_ _) | (with_reducible refine Kd.C_drewN ?_ _) | (with_reducible refine Kd.C_drew ?_))); (case side2 => exact HC0.out); rintro e w16 ⟨v227, rfl, ho0, hb⟩; refine ⟨_, rfl, ?_⟩; have n0_ := aM (Kd.R_below (by (with_reducible repeat (first | apply Kd.R_alloc | apply Kd.R_drewN | apply Kd.R_drew)); exact HO_11.out) hb); have n1_ := aM (Kd.R_lower ho0 (below_size (zb))); have n2_ := aM (below_step (zb) hb); clear HO_11; clear HB; have HO_11 := n0_; have HO228 := n1_; have HB := n2_; clear n0_ n1_ n2_; (try clear hb); (try clear hb2); (try clear hk); (try clear hi); (try clear ho0); have p13 : 0 ≤ (x23_1 : Int) := of_decide_eq_true (by first | (with_reducible assumption) | assumption); have q13 : (x23_1 : Int) < ((t226.length : Int) : Int) := of_decide_eq_true (by first | (with_reducible assumption) | assumption); obtain ⟨go13, co13, eo13, gb13, gl13, cl13, HG13⟩ := Kd.R_form HO228.out (by omega); (first | cases eo13 | (injection eo13 with ea_ en_ ec_; (first | subst ea_ | (injection ea_ with ea_; subst ea_)); subst ec_; clear en_)); have GB13 := aM gb13; have GG13 := aM HG13; clear gb13 gl13 HG13; obtain ⟨ce13, hcl13, hM13, hcc13, hfr13⟩ := Kd.R_elem HO228.out z25 (x23_1 : Int) p13 q13; obtain rfl := k25_openM hM13; have hx13_0 : w16.cell? ⟨go13, (x23_1 : Int).toNat * 7, none⟩ = some (.int .i64 ((rd_T25 t226 x23_1).f0)) := hcc13 0 _ rfl; have hx13_1 : w16.cell? ⟨go13, (x23_1 : Int).toNat * 7 + 1, none⟩ = some (.int .i64 ((rd_T25 t226 x23_1).f1)) := hcc13 1 _ rfl; have hx13_2 : w16.cell? ⟨go13, (x23_1 : Int).toNat * 7 + 2, none⟩ = some (.int .i64 ((rd_T25 t226 x23_1).f2)) := hcc13 2 _ rfl; have hx13_3 : w16.cell? ⟨go13, (x23_1 : Int).toNat * 7 + 3, none⟩ = some (.int .i64 ((rd_T25 t226 x23_1).f3)) := hcc13 3 _ rfl; have hx13_4 : w16.cell? ⟨go13, (x23_1 : Int).toNat * 7 + 4, none⟩ = some (.int .i64 ((rd_T25 t226 x23_1).f4)) := hcc13 4 _ rfl; have hx13_5 : w16.cell? ⟨go13, (x23_1 : Int).toNat * 7 + 5, none⟩ = some (.int .i64 ((rd_T25 t226 x23_1).f5)) := hcc13 5 _ rfl; have hx13_6 : w16.cell? ⟨go13, (x23_1 : Int).toNat * 7 + 6, none⟩ = some (.bool ((rd_T25 t226 x23_1).f6)) := hcc13 6 _ rfl; have hf13_0 : w16.frozen? ⟨go13, (x23_1 : Int).toNat * 7, none⟩ = false := hfr13 0; have hf13_1 : w16.frozen? ⟨go13, (x23_1 : Int).toNat * 7 + 1, none⟩ = false := hfr13 1; have hf13_2 : w16.frozen? ⟨go13, (x23_1 : Int).toNat * 7 + 2, none⟩ = false := hfr13 2; have hf13_3 : w16.frozen? ⟨go13, (x23_1 : Int).toNat * 7 + 3, none⟩ = false := hfr13 3; have hf13_4 : w16.frozen? ⟨go13, (x23_1 : Int).toNat * 7 + 4, none⟩ = false := hfr13 4; have hf13_5 : w16.frozen? ⟨go13, (x23_1 : Int).toNat * 7 + 5, none⟩ = false := hfr13 5; have hf13_6 : w16.frozen? ⟨go13, (x23_1 : Int).toNat * 7 + 6, none⟩ = false := hfr13 6; clear hcl13 hcc13 hfr13 hM13; replace p13 := eq_true p13; replace q13 := eq_true q13; have HX17 := aM (show Kd.R k25 25 w16 w.heap.size (fun _ => True) (.slice (some ⟨go13, 0, none⟩) t226.length co13) t226 from (by (with_reducible repeat (first | apply Kd.R_alloc | apply Kd.R_drewN | apply Kd.R_drew)); exact HO228.out)); obtain ⟨ce17, hcl17, hM17, hcc17, hfr17⟩ := Kd.R_elem HX17.out z25 (x23_1 : Int) (of_decide_eq_true (by first | (with_reducible assumption) | assumption)) (by have h_ : (x23_1 : Int) < ((t226.length : Int) : Int) := of_decide_eq_true (by first | (with_reducible assumption) | assumption); first | exact h_ | (have e_ := (Kd.R_reads' HO228.out).1; omega) | simpa using h_); obtain rfl := k25_openM hM17; have HP17 := Kd.R_seg HX17.out (x23_1 : Int) (of_decide_eq_true (by first | (with_reducible assumption) | assumption)) (by have h_ : (x23_1 : Int) < ((t226.length : Int) : Int) := of_decide_eq_true (by first | (with_reducible assumption) | assumption); first | exact h_ | (have e_ := (Kd.R_reads' HO228.out).1; omega) | simpa using h_) (seg := [.bool true]) (j := 6) hcl17 hcc17 (show 7 ≤ 7 from by decide) (x' := (⟨(rd_T25 t226 x23_1).f0, (rd_T25 t226 x23_1).f1, (rd_T25 t226 x23_1).f2, (rd_T25 t226 x23_1).f3, (rd_T25 t226 x23_1).f4, (rd_T25 t226 x23_1).f5, true⟩ : S25)) (k25_mkM _ _ _ (⟨(rd_T25 t226 x23_1).f0, (rd_T25 t226 x23_1).f1, (rd_T25 t226 x23_1).f2, (rd_T25 t226 x23_1).f3, (rd_T25 t226 x23_1).f4, (rd_T25 t226 x23_1).f5, true⟩ : S25) ) (fun _ hk => hk); have hx17_6 := hcc17 6 _ rfl; (try simp only [show (k25).sz = 7 from rfl, Nat.mul_one, Nat.add_zero] at hx17_6); have hf17_6 := hfr17 6; (try simp only [show (k25).sz = 7 from rfl, Nat.mul_one, Nat.add_zero] at hf17_6); clear hcl17 hcc17 hfr17 hM17) | ((with_reducible refine gate_store (t := 4) (p := 31) rfl ?_); refine store_event (t := 4) (p := 31) (v := ?vo_w18) (w1 := (w16.setCell ⟨go13, (x23_1 : Int).toNat * 7 + 6, none⟩ (.bool true))) ?hg ?ho ?hn ?hr ?_; (case ho => rfl); (case hg => rfl); (case hn => rfl); (case hr => exact zg); intro w18 hw; have hg : w16.grownBy w18 (some go13) := (by rw [hw]; exact HP17.2); have hp_ : Kd.R k25 25 w18 w.heap.size (fun _ => True) (.slice (some ⟨go13, 0, none⟩) t226.length co13) y229 := (by rw [hw, Ny229.out]; exact HP17.1); clear HP17; have n0_ := aM (Kd.R_over' (v := (.slice (some ⟨go13, 0, none⟩) t226.length co13)) (by (with_reducible repeat (first | apply Kd.R_alloc | apply Kd.R_drewN | apply Kd.R_drew)); exact HO_11.out) (Kd.R_typed HO228.out) (by decide) hg); have n1_ := aM (hp_); have n2_ := aM ((by rw [hw]; exact below_set (HB.out) GB13.out : Below w.heap.size w w18)); clear HO_11; clear HO228; clear HB; have HO_11 := n0_; have HO228 := n1_; have HB := n2_; clear n0_ n1_ n2_; clear hg hw hp_) | ((with_reducible refine gate_callee (f := 39) rfl ?_); refine goesL_ (some 37) rfl rfl Try.func39 (by kernel_rfl) rfl #[.slice (some ⟨go13, 0, none⟩) y229.length co13, .int .i64 a1, .int .i64 a2, .int .i64 a3, .int .i64 a4] rfl (by (try simp only [List.map_toArray, List.map_cons, List.map_nil]); first | done | (rw [show y229.length = t226.length from (Kd.R_reads' HO228.out).1.symm] <;> rfl) | rfl | (simp only [List.length_drop, List.length_take]; rfl)) ?_; (with_reducible refine (impl_MayTake.calls k1 _ _ y229 a1 a2 a3 a4 true _ ?side1 ?side2 A14.out).mono ?_); (case side1 => repeat (first | exact (Kd.R_reads' HO228.out).2.2 | (with_reducible refine Kd.C_alloc ?_ _) | (with_reducible refine Kd.C_drewN ?_ _) | (with_reducible refine Kd.C_drew ?_))); (case side2 => rw [show y229.length = t226.length from (Kd.R_reads' HO228.out).1.symm]; exact (Kd.R_reads' HO228.out).2.1); rintro e w19 ⟨rfl, hb⟩; refine ⟨_, rfl, ?_⟩; have n0_ := aM (Kd.R_below (by (with_reducible repeat (first | apply Kd.R_alloc | apply Kd.R_drewN | apply Kd.R_drew)); exact HO_11.out) hb); have n1_ := aM (Kd.R_below (by (with_reducible repeat (first | apply Kd.R_alloc | apply Kd.R_drewN | apply Kd.R_drew)); exact HO228.out) hb); have n2_ := aM (below_step (zb) hb); clear HO_11; clear HO228; clear HB; have HO_11 := n0_; have HO228 := n1_; have HB := n2_; clear n0_ n1_ n2_; (try clear hb); (try clear hb2); (try clear hk); (try clear hi)))
        go_roundg k1
        case measure => have := HK1.out; omega
        case rel => exact ⟨(x11_1), (wrap64 (x23_1 + 1)), zs, H', ⟨by have := HK1.out; omega⟩, ⟨by (with_reducible repeat (first | apply Kd.R_alloc | apply Kd.R_drewN | apply Kd.R_drew)); exact HO_11.out⟩, ⟨zb⟩⟩
       ·replace c15 := Bool.eq_false_iff.mpr c15
        subst c15
        have H1 : (if x11_1.length < 17592186044416 then (impl_NeededFor.l0 k1 l0 a1 a2 a3 a4 (x11_1 ++ [x23_1]) (l0.length : Int) (wrap64 (x23_1 + 1))) else (none)) = some r := by rw [if_neg (show ¬ (false = true) by decide)] at H; exact H
        clear H
        have H := H1
        clear H1
        by_cases c20 : x11_1.length < 17592186044416
        ·rw [if_pos c20] at H
         have LMc20 := aM c20
         clear c20
         obtain ⟨y231, hy231⟩ : ∃ y_ : List Int, y_ = (x11_1 ++ [x23_1]) := ⟨_, rfl⟩
         replace H : (impl_NeededFor.l0 k1 l0 a1 a2 a3 a4 y231 (l0.length : Int) (wrap64 (x23_1 + 1))) = some r := by first | (rw [hy231]; with_reducible exact H) | (have H2_ := (Option.bind_some _ _).symm.trans H; rw [hy231]; with_reducible exact H2_) | (have H2_ := (Option.bind_some _ _).symm.trans H; with_reducible exact H2_) | with_reducible exact H | (rw [hy231]; exact H) | exact H
         have Ny231 := aM hy231
         clear hy231
         have H' := aM H
         clear H
         go_wp2_with (first | ((with_reducible refine gate_callee (f := 68) rfl ?_); refine goesL_ (some 27) rfl rfl Try.func68 (by kernel_rfl) rfl #[.slice A0 l0.length c0] rfl za ?_; (with_reducible refine (impl_Grant_68.calls _ _ l0 t226 _ ?side1 ?side2 A10.out).mono ?_); (case side1 => repeat (first | exact (Kd.C_below HR0.out HB.out) | (with_reducible refine Kd.C_alloc ?_ _) | (with_reducible refine Kd.C_drewN ?_ _) | (with_reducible refine Kd.C_drew ?_))); (case side2 => exact HC0.out); rintro e w21 ⟨v227, rfl, ho0, hb⟩; refine ⟨_, rfl, ?_⟩; have n0_ := aM (Kd.R_below (by (with_reducible repeat (first | apply Kd.R_alloc | apply Kd.R_drewN | apply Kd.R_drew)); exact HO_11.out) hb); have n1_ := aM (Kd.R_lower ho0 (below_size (zb))); have n2_ := aM (below_step (zb) hb); clear HO_11; clear HB; have HO_11 := n0_; have HO228 := n1_; have HB := n2_; clear n0_ n1_ n2_; (try clear hb); (try clear hb2); (try clear hk); (try clear hi); (try clear ho0); have p13 : 0 ≤ (x23_1 : Int) := of_decide_eq_true (by first | (with_reducible assumption) | assumption); have q13 : (x23_1 : Int) < ((t226.length : Int) : Int) := of_decide_eq_true (by first | (with_reducible assumption) | assumption); obtain ⟨go13, co13, eo13, gb13, gl13, cl13, HG13⟩ := Kd.R_form HO228.out (by omega); (first | cases eo13 | (injection eo13 with ea_ en_ ec_; (first | subst ea_ | (injection ea_ with ea_; subst ea_)); subst ec_; clear en_)); have GB13 := aM gb13; have GG13 := aM HG13; clear gb13 gl13 HG13; obtain ⟨ce13, hcl13, hM13, hcc13, hfr13⟩ := Kd.R_elem HO228.out z25 (x23_1 : Int) p13 q13; obtain rfl := k25_openM hM13; have hx13_0 : w21.cell? ⟨go13, (x23_1 : Int).toNat * 7, none⟩ = some (.int .i64 ((rd_T25 t226 x23_1).f0)) := hcc13 0 _ rfl; have hx13_1 : w21.cell? ⟨go13, (x23_1 : Int).toNat * 7 + 1, none⟩ = some (.int .i64 ((rd_T25 t226 x23_1).f1)) := hcc13 1 _ rfl; have hx13_2 : w21.cell? ⟨go13, (x23_1 : Int).toNat * 7 + 2, none⟩ = some (.int .i64 ((rd_T25 t226 x23_1).f2)) := hcc13 2 _ rfl; have hx13_3 : w21.cell? ⟨go13, (x23_1 : Int).toNat * 7 + 3, none⟩ = some (.int .i64 ((rd_T25 t226 x23_1).f3)) := hcc13 3 _ rfl; have hx13_4 : w21.cell? ⟨go13, (x23_1 : Int).toNat * 7 + 4, none⟩ = some (.int .i64 ((rd_T25 t226 x23_1).f4)) := hcc13 4 _ rfl; have hx13_5 : w21.cell? ⟨go13, (x23_1 : Int).toNat * 7 + 5, none⟩ = some (.int .i64 ((rd_T25 t226 x23_1).f5)) := hcc13 5 _ rfl; have hx13_6 : w21.cell? ⟨go13, (x23_1 : Int).toNat * 7 + 6, none⟩ = some (.bool ((rd_T25 t226 x23_1).f6)) := hcc13 6 _ rfl; have hf13_0 : w21.frozen? ⟨go13, (x23_1 : Int).toNat * 7, none⟩ = false := hfr13 0; have hf13_1 : w21.frozen? ⟨go13, (x23_1 : Int).toNat * 7 + 1, none⟩ = false := hfr13 1; have hf13_2 : w21.frozen? ⟨go13, (x23_1 : Int).toNat * 7 + 2, none⟩ = false := hfr13 2; have hf13_3 : w21.frozen? ⟨go13, (x23_1 : Int).toNat * 7 + 3, none⟩ = false := hfr13 3; have hf13_4 : w21.frozen? ⟨go13, (x23_1 : Int).toNat * 7 + 4, none⟩ = false := hfr13 4; have hf13_5 : w21.frozen? ⟨go13, (x23_1 : Int).toNat * 7 + 5, none⟩ = false := hfr13 5; have hf13_6 : w21.frozen? ⟨go13, (x23_1 : Int).toNat * 7 + 6, none⟩ = false := hfr13 6; clear hcl13 hcc13 hfr13 hM13; replace p13 := eq_true p13; replace q13 := eq_true q13; have HX22 := aM (show Kd.R k25 25 w21 w.heap.size (fun _ => True) (.slice (some ⟨go13, 0, none⟩) t226.length co13) t226 from (by (with_reducible repeat (first | apply Kd.R_alloc | apply Kd.R_drewN | apply Kd.R_drew)); exact HO228.out)); obtain ⟨ce22, hcl22, hM22, hcc22, hfr22⟩ := Kd.R_elem HX22.out z25 (x23_1 : Int) (of_decide_eq_true (by first | (with_reducible assumption) | assumption)) (by have h_ : (x23_1 : Int) < ((t226.length : Int) : Int) := of_decide_eq_true (by first | (with_reducible assumption) | assumption); first | exact h_ | (have e_ := (Kd.R_reads' HO228.out).1; omega) | simpa using h_); obtain rfl := k25_openM hM22; have HP22 := Kd.R_seg HX22.out (x23_1 : Int) (of_decide_eq_true (by first | (with_reducible assumption) | assumption)) (by have h_ : (x23_1 : Int) < ((t226.length : Int) : Int) := of_decide_eq_true (by first | (with_reducible assumption) | assumption); first | exact h_ | (have e_ := (Kd.R_reads' HO228.out).1; omega) | simpa using h_) (seg := [.bool true]) (j := 6) hcl22 hcc22 (show 7 ≤ 7 from by decide) (x' := (⟨(rd_T25 t226 x23_1).f0, (rd_T25 t226 x23_1).f1, (rd_T25 t226 x23_1).f2, (rd_T25 t226 x23_1).f3, (rd_T25 t226 x23_1).f4, (rd_T25 t226 x23_1).f5, true⟩ : S25)) (k25_mkM _ _ _ (⟨(rd_T25 t226 x23_1).f0, (rd_T25 t226 x23_1).f1, (rd_T25 t226 x23_1).f2, (rd_T25 t226 x23_1).f3, (rd_T25 t226 x23_1).f4, (rd_T25 t226 x23_1).f5, true⟩ : S25) ) (fun _ hk => hk); have hx22_6 := hcc22 6 _ rfl; (try simp only [show (k25).sz = 7 from rfl, Nat.mul_one, Nat.add_zero] at hx22_6); have hf22_6 := hfr22 6; (try simp only [show (k25).sz = 7 from rfl, Nat.mul_one, Nat.add_zero] at hf22_6); clear hcl22 hcc22 hfr22 hM22) | ((with_reducible refine gate_store (t := 4) (p := 31) rfl ?_); refine store_event (t := 4) (p := 31) (v := ?vo_w23) (w1 := (w21.setCell ⟨go13, (x23_1 : Int).toNat * 7 + 6, none⟩ (.bool true))) ?hg ?ho ?hn ?hr ?_; (case ho => rfl); (case hg => rfl); (case hn => rfl); (case hr => exact zg); intro w23 hw; have hg : w21.grownBy w23 (some go13) := (by rw [hw]; exact HP22.2); have hp_ : Kd.R k25 25 w23 w.heap.size (fun _ => True) (.slice (some ⟨go13, 0, none⟩) t226.length co13) y229 := (by rw [hw, Ny229.out]; exact HP22.1); clear HP22; have n0_ := aM (Kd.R_over' (v := (.slice (some ⟨go13, 0, none⟩) t226.length co13)) (by (with_reducible repeat (first | apply Kd.R_alloc | apply Kd.R_drewN | apply Kd.R_drew)); exact HO_11.out) (Kd.R_typed HO228.out) (by decide) hg); have n1_ := aM (hp_); have n2_ := aM ((by rw [hw]; exact below_set (HB.out) GB13.out : Below w.heap.size w w23)); clear HO_11; clear HO228; clear HB; have HO_11 := n0_; have HO228 := n1_; have HB := n2_; clear n0_ n1_ n2_; clear hg hw hp_) | ((with_reducible refine gate_callee (f := 39) rfl ?_); refine goesL_ (some 37) rfl rfl Try.func39 (by kernel_rfl) rfl #[.slice (some ⟨go13, 0, none⟩) y229.length co13, .int .i64 a1, .int .i64 a2, .int .i64 a3, .int .i64 a4] rfl (by (try simp only [List.map_toArray, List.map_cons, List.map_nil]); first | done | (rw [show y229.length = t226.length from (Kd.R_reads' HO228.out).1.symm] <;> rfl) | rfl | (simp only [List.length_drop, List.length_take]; rfl)) ?_; (with_reducible refine (impl_MayTake.calls k1 _ _ y229 a1 a2 a3 a4 false _ ?side1 ?side2 A14.out).mono ?_); (case side1 => repeat (first | exact (Kd.R_reads' HO228.out).2.2 | (with_reducible refine Kd.C_alloc ?_ _) | (with_reducible refine Kd.C_drewN ?_ _) | (with_reducible refine Kd.C_drew ?_))); (case side2 => rw [show y229.length = t226.length from (Kd.R_reads' HO228.out).1.symm]; exact (Kd.R_reads' HO228.out).2.1); rintro e w24 ⟨rfl, hb⟩; refine ⟨_, rfl, ?_⟩; have n0_ := aM (Kd.R_below (by (with_reducible repeat (first | apply Kd.R_alloc | apply Kd.R_drewN | apply Kd.R_drew)); exact HO_11.out) hb); have n1_ := aM (Kd.R_below (by (with_reducible repeat (first | apply Kd.R_alloc | apply Kd.R_drewN | apply Kd.R_drew)); exact HO228.out) hb); have n2_ := aM (below_step (zb) hb); clear HO_11; clear HO228; clear HB; have HO_11 := n0_; have HO228 := n1_; have HB := n2_; clear n0_ n1_ n2_; (try clear hb); (try clear hb2); (try clear hk); (try clear hi)) | ((with_reducible refine gate_builtin (b := .append) (xs := #[.tmp 39, .tmp 41]) rfl ?_); at_builtin; refine Kd.R_append (Kd.int .i64) (w0 := w) w.heap.size rfl (.tmp 39) (.tmp 41) 47 3 (.int .i64 0) 8 rfl Try.underlying47 info3 rfl (by decide) (by omega) u11 x11_1 x23_1 [.int .i64 x23_1] (fun _ => True) (fun _ => False) rfl rfl ?aP (fun _ hk => hk.elim) ?aF ?aO ?aB ?aS ?aL ?_; (case aP => exact rfl); (case aB => exact (zb)); (case aF => exact (fun _ _ => trivial)); (case aO => exact (by (with_reducible repeat (first | apply Kd.R_alloc | apply Kd.R_drewN | apply Kd.R_drew)); exact HO_11.out)); (case aS => exact (below_size (zb))); (case aL => have := LMc20.out; omega); intro v232 w25 ho hb hg hat; rw [← Ny231.out] at ho; have n0_ := aM (Kd.R_over' (by (with_reducible repeat (first | apply Kd.R_alloc | apply Kd.R_drewN | apply Kd.R_drew)); exact HO228.out) (Kd.R_typed (by (with_reducible repeat (first | apply Kd.R_alloc | apply Kd.R_drewN | apply Kd.R_drew)); exact HO_11.out)) (by decide) hg); have n1_ := aM (hb); have n2_ := aM (ho); clear HO228; clear HB; clear HO_11; have HO228 := n0_; have HB := n1_; have HO233 := n2_; clear n0_ n1_ n2_; clear ho hb hg hat))
         go_roundg k1
         case measure => have := HK1.out; omega
         case rel => exact ⟨(y231), (wrap64 (x23_1 + 1)), zs, H', ⟨by have := HK1.out; omega⟩, ⟨by (with_reducible repeat (first | apply Kd.R_alloc | apply Kd.R_drewN | apply Kd.R_drew)); exact HO233.out⟩, ⟨zb⟩⟩
        ·rw [if_neg c20] at H
         exact absurd H (by simp)
      ·rw [if_neg c12] at H
       exact absurd H (by simp)
     ·rw [if_neg c11] at H
      exact absurd H (by simp)
    ·rw [if_neg c9] at H
     have c9b0 : decide (x23_1 < (l0.length : Int)) = false := decide_eq_false c9
     clear c9
     obtain rfl := Option.some.inj H
     go_wp2
     go_ret
     exact ⟨_, zr, by (with_reducible repeat (first | apply Kd.R_alloc | apply Kd.R_drewN | apply Kd.R_drew)); exact HO_11.out, zb⟩
 ·replace c7 := Bool.eq_false_iff.mpr c7
  subst c7
  have H1 : (some ([] : List Int)) = some r := by rw [if_neg (show ¬ (false = true) by decide)] at H; exact H
  clear H
  have H := H1
  clear H1
  obtain rfl := Option.some.inj H
  go_enter Try.func52, Try.ntmps52
  go_wp2_with (first | ((with_reducible refine gate_callee (f := 39) rfl ?_); refine goesL_ (some 19) rfl rfl Try.func39 (by kernel_rfl) rfl #[.slice A0 l0.length c0, .int .i64 a1, .int .i64 a2, .int .i64 a3, .int .i64 a4] rfl za ?_; (with_reducible refine (impl_MayTake.calls k _ _ l0 a1 a2 a3 a4 false _ ?side1 ?side2 A6.out).mono ?_); (case side1 => repeat (first | exact HR0.out | (with_reducible refine Kd.C_alloc ?_ _) | (with_reducible refine Kd.C_drewN ?_ _) | (with_reducible refine Kd.C_drew ?_))); (case side2 => exact HC0.out); rintro e w26 ⟨rfl, hb⟩; refine ⟨_, rfl, ?_⟩; have n0_ := aM (below_step (zb) hb); clear HB; have HB := n0_; clear n0_; (try clear hb); (try clear hb2); (try clear hk); (try clear hi)))
  go_ret
  exact ⟨_, zr, by first | exact Kd.R_nil _ _ _ _ _ | exact Kd.N_nil _ _ _ _ _ | exact Kd.V_nil _ _ _ _ _ | exact Kd.Q_nil _ _ _ _ _ | exact Kd.S_nil _ _ _ _ _, zb⟩

/-! ### laws_FnExactNeededFor: function 14 -/
def laws_FnExactNeededFor.j0 : Nat → List (S23) → Int → Int → Int → Int → List Int → List Int → Bool → Option (Bool)
 | 0, _, _, _, _, _, _, _, _ => none
 | k + 1, x0, x1, x2, x3, x4, x12, x14, x58 => if x58 = true then (none) else ((laws_markIntS.f k x14 1).bind fun bt255 => ((laws_heldIntS.f k bt255.2 1).bind fun t257 => (if t257 < 0 then (none) else (if t257 = bt255.1 then ((laws_toGrantS.f k x0).bind fun t258 => ((impl_NeededFor.f k t258 x1 x2 x3 x4).bind fun t261 => ((laws_eqIntS.f k t261 x12).bind fun t264 => (if t264 = true then ((laws_heldIntS.f k bt255.2 1).bind fun t265 => (if t265 < 0 then (none) else (if t265 = bt255.1 then (some true) else (none)))) else (none))))) else (none)))))
def laws_FnExactNeededFor.f (k : Nat) (l0 : List (S23)) (a1 : Int) (a2 : Int) (a3 : Int) (a4 : Int) : Option (Bool) := (laws_szGrantS.f l0 1048576).bind fun t234 => (if t234 < 0 then (some true) else ((laws_toGrantS.f k l0).bind fun t235 => ((spec_NeededFor.f k t235 a1 a2 a3 a4).bind fun t238 => ((laws_toGrantS.f k l0).bind fun t241 => ((impl_NeededFor.f k t241 a1 a2 a3 a4).bind fun t244 => ((laws_eqIntS.f k t244 t238).bind fun t247 => (if t247 = true then ((laws_toGrantS.f k l0).bind fun t248 => ((laws_eqGrantS.f k t241 t248).bind fun t251 => (if t251 = true then ((laws_markGrantS.f k t241 1).bind fun bt252 => (if bt252.1 < 0 then (laws_FnExactNeededFor.j0 k l0 a1 a2 a3 a4 t238 t244 true) else ((laws_eqIntS.f k t244 t238).bind fun t254 => (laws_FnExactNeededFor.j0 k l0 a1 a2 a3 a4 t238 t244 (!t254))))) else (none)))) else (none))))))))
theorem laws_FnExactNeededFor.mono_l : ∀ k, (∀ y0 y1 y2 y3 y4 y5 y6 y7, LeO (laws_FnExactNeededFor.j0 k y0 y1 y2 y3 y4 y5 y6 y7) (laws_FnExactNeededFor.j0 (k + 1) y0 y1 y2 y3 y4 y5 y6 y7))
 | 0 => fun _ _ _ _ _ _ _ _ r h => by simp [laws_FnExactNeededFor.j0] at h
 | k + 1 => by
  have ih0 := laws_FnExactNeededFor.mono_l k
  ·intro y0 y1 y2 y3 y4 y5 y6 y7
   unfold laws_FnExactNeededFor.j0
   repeat' first
   | (with_reducible exact ih0 _ _ _ _ _ _ _ _)
   | (with_reducible exact impl_NeededFor.mono _ _ _ _ _ _)
   | (with_reducible exact laws_eqGrantS.mono _ _ _)
   | (with_reducible exact laws_eqIntS.mono _ _ _)
   | (with_reducible exact laws_heldIntS.mono _ _ _)
   | (with_reducible exact laws_markGrantS.mono _ _ _)
   | (with_reducible exact laws_markIntS.mono _ _ _)
   | (with_reducible exact laws_toGrantS.mono _ _)
   | (with_reducible exact spec_NeededFor.mono _ _ _ _ _ _)
   | (with_reducible exact LeO.refl _)
   | (with_reducible exact LeO.none _)
   | (with_reducible refine LeO.ite ?_ ?_)
   | (with_reducible refine LeO.bind ?_ (fun _ => ?_))
   | exact ih0 _ _ _ _ _ _ _ _
   | exact impl_NeededFor.mono _ _ _ _ _ _
   | exact laws_eqGrantS.mono _ _ _
   | exact laws_eqIntS.mono _ _ _
   | exact laws_heldIntS.mono _ _ _
   | exact laws_markGrantS.mono _ _ _
   | exact laws_markIntS.mono _ _ _
   | exact laws_toGrantS.mono _ _
   | exact spec_NeededFor.mono _ _ _ _ _ _
   | exact LeO.none _
   | refine LeO.ite ?_ ?_
   | refine LeO.bind ?_ (fun _ => ?_)
theorem laws_FnExactNeededFor.mono : ∀ a0 a1 a2 a3 a4 k, LeO (laws_FnExactNeededFor.f k a0 a1 a2 a3 a4) (laws_FnExactNeededFor.f (k + 1) a0 a1 a2 a3 a4) := by
 intro a0 a1 a2 a3 a4 k
 have ih0 := laws_FnExactNeededFor.mono_l k
 unfold laws_FnExactNeededFor.f
 repeat' first
   | (with_reducible exact ih0 _ _ _ _ _ _ _ _)
   | (with_reducible exact impl_NeededFor.mono _ _ _ _ _ _)
   | (with_reducible exact laws_eqGrantS.mono _ _ _)
   | (with_reducible exact laws_eqIntS.mono _ _ _)
   | (with_reducible exact laws_heldIntS.mono _ _ _)
   | (with_reducible exact laws_markGrantS.mono _ _ _)
   | (with_reducible exact laws_markIntS.mono _ _ _)
   | (with_reducible exact laws_toGrantS.mono _ _)
   | (with_reducible exact spec_NeededFor.mono _ _ _ _ _ _)
   | (with_reducible exact LeO.refl _)
   | (with_reducible exact LeO.none _)
   | (with_reducible refine LeO.ite ?_ ?_)
   | (with_reducible refine LeO.bind ?_ (fun _ => ?_))
   | exact ih0 _ _ _ _ _ _ _ _
   | exact impl_NeededFor.mono _ _ _ _ _ _
   | exact laws_eqGrantS.mono _ _ _
   | exact laws_eqIntS.mono _ _ _
   | exact laws_heldIntS.mono _ _ _
   | exact laws_markGrantS.mono _ _ _
   | exact laws_markIntS.mono _ _ _
   | exact laws_toGrantS.mono _ _
   | exact spec_NeededFor.mono _ _ _ _ _ _
   | exact LeO.none _
   | refine LeO.ite ?_ ?_
   | refine LeO.bind ?_ (fun _ => ?_)
set_option maxHeartbeats 8000000 in
set_option maxRecDepth 100000 in
theorem laws_FnExactNeededFor.calls (k : Nat) (A0 : Option Addr) (c0 : Nat) (l0 : List (S23)) (a1 : Int) (a2 : Int) (a3 : Int) (a4 : Int) (r : Bool) (w : World) (hr0 : Kd.C k23 w A0 l0.length l0) (hc0 : l0.length ≤ c0) (h : laws_FnExactNeededFor.f k l0 a1 a2 a3 a4 = some r) :
  Calls Try.prog 14 #[.slice A0 l0.length c0, .int .i64 a1, .int .i64 a2, .int .i64 a3, .int .i64 a4] w fun e w' => e = .returned (.bool r) ∧ Below w.heap.size w w' := by
 have HR0 := aM hr0
 have HC0 := aM hc0
 clear hr0 hc0
 have HB := aM (Below.refl w.heap.size w)
 have H : ((laws_szGrantS.f l0 1048576).bind fun t234 => (if t234 < 0 then (some true) else ((laws_toGrantS.f k l0).bind fun t235 => ((spec_NeededFor.f k t235 a1 a2 a3 a4).bind fun t238 => ((laws_toGrantS.f k l0).bind fun t241 => ((impl_NeededFor.f k t241 a1 a2 a3 a4).bind fun t244 => ((laws_eqIntS.f k t244 t238).bind fun t247 => (if t247 = true then ((laws_toGrantS.f k l0).bind fun t248 => ((laws_eqGrantS.f k t241 t248).bind fun t251 => (if t251 = true then ((laws_markGrantS.f k t241 1).bind fun bt252 => (if bt252.1 < 0 then (laws_FnExactNeededFor.j0 k l0 a1 a2 a3 a4 t238 t244 true) else ((laws_eqIntS.f k t244 t238).bind fun t254 => (laws_FnExactNeededFor.j0 k l0 a1 a2 a3 a4 t238 t244 (!t254))))) else (none)))) else (none))))))))) = some r := h
 clear h
 replace H := Option.bind_eq_some_iff.mp H
 obtain ⟨t234, A60, H⟩ := H
 replace H : (if t234 < 0 then (some true) else ((laws_toGrantS.f k l0).bind fun t235 => ((spec_NeededFor.f k t235 a1 a2 a3 a4).bind fun t238 => ((laws_toGrantS.f k l0).bind fun t241 => ((impl_NeededFor.f k t241 a1 a2 a3 a4).bind fun t244 => ((laws_eqIntS.f k t244 t238).bind fun t247 => (if t247 = true then ((laws_toGrantS.f k l0).bind fun t248 => ((laws_eqGrantS.f k t241 t248).bind fun t251 => (if t251 = true then ((laws_markGrantS.f k t241 1).bind fun bt252 => (if bt252.1 < 0 then (laws_FnExactNeededFor.j0 k l0 a1 a2 a3 a4 t238 t244 true) else ((laws_eqIntS.f k t244 t238).bind fun t254 => (laws_FnExactNeededFor.j0 k l0 a1 a2 a3 a4 t238 t244 (!t254))))) else (none)))) else (none)))))))) = some r := H
 have A6 := aM A60
 clear A60
 by_cases c7 : t234 < 0
 ·rw [if_pos c7] at H
  have c7b0 : decide (t234 < 0) = true := decide_eq_true c7
  clear c7
  obtain rfl := Option.some.inj H
  go_enter Try.func14, Try.ntmps14
  go_wp2_with (first | ((with_reducible refine gate_callee (f := 23) rfl ?_); refine goesL_ (some 21) rfl rfl Try.func23 (by kernel_rfl) rfl #[.slice A0 l0.length c0, .int .i64 1048576] rfl za ?_; (with_reducible refine (laws_szGrantS.calls _ _ l0 1048576 t234 _ ?side1 ?side2 A6.out).mono ?_); (case side1 => repeat (first | exact HR0.out | (with_reducible refine Kd.C_alloc ?_ _) | (with_reducible refine Kd.C_drewN ?_ _) | (with_reducible refine Kd.C_drew ?_))); (case side2 => exact HC0.out); rintro e w' ⟨rfl, ⟨nd, rfl⟩⟩; refine ⟨_, rfl, ?_⟩))
  go_ret
  exact ⟨zr, zb⟩
 ·rw [if_neg c7] at H
  have c7b0 : decide (t234 < 0) = false := decide_eq_false c7
  clear c7
  replace H := Option.bind_eq_some_iff.mp H
  obtain ⟨t235, A80, H⟩ := H
  replace H : ((spec_NeededFor.f k t235 a1 a2 a3 a4).bind fun t238 => ((laws_toGrantS.f k l0).bind fun t241 => ((impl_NeededFor.f k t241 a1 a2 a3 a4).bind fun t244 => ((laws_eqIntS.f k t244 t238).bind fun t247 => (if t247 = true then ((laws_toGrantS.f k l0).bind fun t248 => ((laws_eqGrantS.f k t241 t248).bind fun t251 => (if t251 = true then ((laws_markGrantS.f k t241 1).bind fun bt252 => (if bt252.1 < 0 then (laws_FnExactNeededFor.j0 k l0 a1 a2 a3 a4 t238 t244 true) else ((laws_eqIntS.f k t244 t238).bind fun t254 => (laws_FnExactNeededFor.j0 k l0 a1 a2 a3 a4 t238 t244 (!t254))))) else (none)))) else (none)))))) = some r := H
  have A8 := aM A80
  clear A80
  replace H := Option.bind_eq_some_iff.mp H
  obtain ⟨t238, A90, H⟩ := H
  replace H : ((laws_toGrantS.f k l0).bind fun t241 => ((impl_NeededFor.f k t241 a1 a2 a3 a4).bind fun t244 => ((laws_eqIntS.f k t244 t238).bind fun t247 => (if t247 = true then ((laws_toGrantS.f k l0).bind fun t248 => ((laws_eqGrantS.f k t241 t248).bind fun t251 => (if t251 = true then ((laws_markGrantS.f k t241 1).bind fun bt252 => (if bt252.1 < 0 then (laws_FnExactNeededFor.j0 k l0 a1 a2 a3 a4 t238 t244 true) else ((laws_eqIntS.f k t244 t238).bind fun t254 => (laws_FnExactNeededFor.j0 k l0 a1 a2 a3 a4 t238 t244 (!t254))))) else (none)))) else (none))))) = some r := H
  have A9 := aM A90
  clear A90
  replace H := Option.bind_eq_some_iff.mp H
  obtain ⟨t241, A100, H⟩ := H
  replace H : ((impl_NeededFor.f k t241 a1 a2 a3 a4).bind fun t244 => ((laws_eqIntS.f k t244 t238).bind fun t247 => (if t247 = true then ((laws_toGrantS.f k l0).bind fun t248 => ((laws_eqGrantS.f k t241 t248).bind fun t251 => (if t251 = true then ((laws_markGrantS.f k t241 1).bind fun bt252 => (if bt252.1 < 0 then (laws_FnExactNeededFor.j0 k l0 a1 a2 a3 a4 t238 t244 true) else ((laws_eqIntS.f k t244 t238).bind fun t254 => (laws_FnExactNeededFor.j0 k l0 a1 a2 a3 a4 t238 t244 (!t254))))) else (none)))) else (none)))) = some r := H
  have A10 := aM A100
  clear A100
  replace H := Option.bind_eq_some_iff.mp H
  obtain ⟨t244, A110, H⟩ := H
  replace H : ((laws_eqIntS.f k t244 t238).bind fun t247 => (if t247 = true then ((laws_toGrantS.f k l0).bind fun t248 => ((laws_eqGrantS.f k t241 t248).bind fun t251 => (if t251 = true then ((laws_markGrantS.f k t241 1).bind fun bt252 => (if bt252.1 < 0 then (laws_FnExactNeededFor.j0 k l0 a1 a2 a3 a4 t238 t244 true) else ((laws_eqIntS.f k t244 t238).bind fun t254 => (laws_FnExactNeededFor.j0 k l0 a1 a2 a3 a4 t238 t244 (!t254))))) else (none)))) else (none))) = some r := H
  have A11 := aM A110
  clear A110
  replace H := Option.bind_eq_some_iff.mp H
  obtain ⟨t247, A120, H⟩ := H
  replace H : (if t247 = true then ((laws_toGrantS.f k l0).bind fun t248 => ((laws_eqGrantS.f k t241 t248).bind fun t251 => (if t251 = true then ((laws_markGrantS.f k t241 1).bind fun bt252 => (if bt252.1 < 0 then (laws_FnExactNeededFor.j0 k l0 a1 a2 a3 a4 t238 t244 true) else ((laws_eqIntS.f k t244 t238).bind fun t254 => (laws_FnExactNeededFor.j0 k l0 a1 a2 a3 a4 t238 t244 (!t254))))) else (none)))) else (none)) = some r := H
  have A12 := aM A120
  clear A120
  by_cases c13 : t247 = true
  ·subst c13
   have H1 : ((laws_toGrantS.f k l0).bind fun t248 => ((laws_eqGrantS.f k t241 t248).bind fun t251 => (if t251 = true then ((laws_markGrantS.f k t241 1).bind fun bt252 => (if bt252.1 < 0 then (laws_FnExactNeededFor.j0 k l0 a1 a2 a3 a4 t238 t244 true) else ((laws_eqIntS.f k t244 t238).bind fun t254 => (laws_FnExactNeededFor.j0 k l0 a1 a2 a3 a4 t238 t244 (!t254))))) else (none)))) = some r := by rw [if_pos rfl] at H; exact H
   clear H
   have H := H1
   clear H1
   replace H := Option.bind_eq_some_iff.mp H
   obtain ⟨t248, A140, H⟩ := H
   replace H : ((laws_eqGrantS.f k t241 t248).bind fun t251 => (if t251 = true then ((laws_markGrantS.f k t241 1).bind fun bt252 => (if bt252.1 < 0 then (laws_FnExactNeededFor.j0 k l0 a1 a2 a3 a4 t238 t244 true) else ((laws_eqIntS.f k t244 t238).bind fun t254 => (laws_FnExactNeededFor.j0 k l0 a1 a2 a3 a4 t238 t244 (!t254))))) else (none))) = some r := H
   have A14 := aM A140
   clear A140
   replace H := Option.bind_eq_some_iff.mp H
   obtain ⟨t251, A150, H⟩ := H
   replace H : (if t251 = true then ((laws_markGrantS.f k t241 1).bind fun bt252 => (if bt252.1 < 0 then (laws_FnExactNeededFor.j0 k l0 a1 a2 a3 a4 t238 t244 true) else ((laws_eqIntS.f k t244 t238).bind fun t254 => (laws_FnExactNeededFor.j0 k l0 a1 a2 a3 a4 t238 t244 (!t254))))) else (none)) = some r := H
   have A15 := aM A150
   clear A150
   by_cases c16 : t251 = true
   ·subst c16
    have H1 : ((laws_markGrantS.f k t241 1).bind fun bt252 => (if bt252.1 < 0 then (laws_FnExactNeededFor.j0 k l0 a1 a2 a3 a4 t238 t244 true) else ((laws_eqIntS.f k t244 t238).bind fun t254 => (laws_FnExactNeededFor.j0 k l0 a1 a2 a3 a4 t238 t244 (!t254))))) = some r := by rw [if_pos rfl] at H; exact H
    clear H
    have H := H1
    clear H1
    replace H := Option.bind_eq_some_iff.mp H
    obtain ⟨⟨t252, t253⟩, A170, H⟩ := H
    replace H : (if t252 < 0 then (laws_FnExactNeededFor.j0 k l0 a1 a2 a3 a4 t238 t244 true) else ((laws_eqIntS.f k t244 t238).bind fun t254 => (laws_FnExactNeededFor.j0 k l0 a1 a2 a3 a4 t238 t244 (!t254)))) = some r := H
    have A17 := aM A170
    clear A170
    have HC18 := aM H
    clear H
    go_enter Try.func14, Try.ntmps14
    go_upto_region 14 with (first | ((with_reducible refine gate_callee (f := 23) rfl ?_); refine goesL_ (some 21) rfl rfl Try.func23 (by kernel_rfl) rfl #[.slice A0 l0.length c0, .int .i64 1048576] rfl za ?_; (with_reducible refine (laws_szGrantS.calls _ _ l0 1048576 t234 _ ?side1 ?side2 A6.out).mono ?_); (case side1 => repeat (first | exact HR0.out | (with_reducible refine Kd.C_alloc ?_ _) | (with_reducible refine Kd.C_drewN ?_ _) | (with_reducible refine Kd.C_drew ?_))); (case side2 => exact HC0.out); rintro e w' ⟨rfl, ⟨nd, rfl⟩⟩; refine ⟨_, rfl, ?_⟩) | ((with_reducible refine gate_callee (f := 25) rfl ?_); refine goesL_ (some 25) rfl rfl Try.func25 (by kernel_rfl) rfl #[.slice A0 l0.length c0] rfl za ?_; (with_reducible refine (laws_toGrantS.calls k _ _ l0 t235 _ ?side1 ?side2 A8.out).mono ?_); (case side1 => repeat (first | exact HR0.out | (with_reducible refine Kd.C_alloc ?_ _) | (with_reducible refine Kd.C_drewN ?_ _) | (with_reducible refine Kd.C_drew ?_))); (case side2 => exact HC0.out); rintro e w19 ⟨v236, rfl, ho0, hb⟩; refine ⟨_, rfl, ?_⟩; have n0_ := aM (Kd.R_lower ho0 (below_size (zb))); have n1_ := aM (below_step (zb) hb); clear HB; have HO237 := n0_; have HB := n1_; clear n0_ n1_; (try clear hb); (try clear hb2); (try clear hk); (try clear hi); (try clear ho0); obtain ⟨Ao20, co20, eo20⟩ := Kd.R_slice HO237.out; subst eo20) | ((with_reducible refine gate_callee (f := 51) rfl ?_); refine goesL_ (some 30) rfl rfl Try.func51 (by kernel_rfl) rfl #[.slice Ao20 t235.length co20, .int .i64 a1, .int .i64 a2, .int .i64 a3, .int .i64 a4] rfl za ?_; (with_reducible refine (spec_NeededFor.calls k _ _ t235 a1 a2 a3 a4 t238 _ ?side1 ?side2 A9.out).mono ?_); (case side1 => repeat (first | exact (Kd.R_reads' HO237.out).2.2 | (with_reducible refine Kd.C_alloc ?_ _) | (with_reducible refine Kd.C_drewN ?_ _) | (with_reducible refine Kd.C_drew ?_))); (case side2 => exact (Kd.R_reads' HO237.out).2.1); rintro e w21 ⟨v239, rfl, ho0, hb⟩; refine ⟨_, rfl, ?_⟩; have n0_ := aM (Kd.R_below (by (with_reducible repeat (first | apply Kd.R_alloc | apply Kd.R_drewN | apply Kd.R_drew)); exact HO237.out) hb); have n1_ := aM (Kd.R_lower ho0 (below_size (zb))); have n2_ := aM (below_step (zb) hb); clear HO237; clear HB; have HO237 := n0_; have HO240 := n1_; have HB := n2_; clear n0_ n1_ n2_; (try clear hb); (try clear hb2); (try clear hk); (try clear hi); (try clear ho0)) | ((with_reducible refine gate_callee (f := 25) rfl ?_); refine goesL_ (some 32) rfl rfl Try.func25 (by kernel_rfl) rfl #[.slice A0 l0.length c0] rfl za ?_; (with_reducible refine (laws_toGrantS.calls k _ _ l0 t241 _ ?side1 ?side2 A10.out).mono ?_); (case side1 => repeat (first | exact (Kd.C_below HR0.out HB.out) | (with_reducible refine Kd.C_alloc ?_ _) | (with_reducible refine Kd.C_drewN ?_ _) | (with_reducible refine Kd.C_drew ?_))); (case side2 => exact HC0.out); rintro e w22 ⟨v242, rfl, ho0, hb⟩; refine ⟨_, rfl, ?_⟩; have n0_ := aM (Kd.R_elder' (by (with_reducible repeat (first | apply Kd.R_alloc | apply Kd.R_drewN | apply Kd.R_drew)); exact HO237.out) (Kd.R_base ho0) hb); have n1_ := aM (Kd.R_below (by (with_reducible repeat (first | apply Kd.R_alloc | apply Kd.R_drewN | apply Kd.R_drew)); exact HO240.out) hb); have n2_ := aM (Kd.R_lower (Kd.R_new' ho0 (Kd.R_lt (by (with_reducible repeat (first | apply Kd.R_alloc | apply Kd.R_drewN | apply Kd.R_drew)); exact HO237.out))) (below_size (zb))); have n3_ := aM (below_step (zb) hb); clear HO237; clear HO240; clear HB; have HO237 := n0_; have HO240 := n1_; have HO243 := n2_; have HB := n3_; clear n0_ n1_ n2_ n3_; (try clear hb); (try clear hb2); (try clear hk); (try clear hi); (try clear ho0); obtain ⟨Ao23, co23, eo23⟩ := Kd.R_slice HO243.out; subst eo23) | ((with_reducible refine gate_callee (f := 52) rfl ?_); refine goesL_ (some 38) rfl rfl Try.func52 (by kernel_rfl) rfl #[.slice Ao23 t241.length co23, .int .i64 a1, .int .i64 a2, .int .i64 a3, .int .i64 a4] rfl za ?_; (with_reducible refine (impl_NeededFor.calls k _ _ t241 a1 a2 a3 a4 t244 _ ?side1 ?side2 A11.out).mono ?_); (case side1 => repeat (first | exact (Kd.R_reads' HO243.out).2.2 | (with_reducible refine Kd.C_alloc ?_ _) | (with_reducible refine Kd.C_drewN ?_ _) | (with_reducible refine Kd.C_drew ?_))); (case side2 => exact (Kd.R_reads' HO243.out).2.1); rintro e w24 ⟨v245, rfl, ho0, hb⟩; refine ⟨_, rfl, ?_⟩; have n0_ := aM (Kd.R_below (by (with_reducible repeat (first | apply Kd.R_alloc | apply Kd.R_drewN | apply Kd.R_drew)); exact HO237.out) hb); have n1_ := aM (Kd.R_elder' (by (with_reducible repeat (first | apply Kd.R_alloc | apply Kd.R_drewN | apply Kd.R_drew)); exact HO240.out) (Kd.R_base ho0) hb); have n2_ := aM (Kd.R_below (by (with_reducible repeat (first | apply Kd.R_alloc | apply Kd.R_drewN | apply Kd.R_drew)); exact HO243.out) hb); have n3_ := aM (Kd.R_lower (Kd.R_new' ho0 (Kd.R_lt (by (with_reducible repeat (first | apply Kd.R_alloc | apply Kd.R_drewN | apply Kd.R_drew)); exact HO240.out))) (below_size (zb))); have n4_ := aM (below_step (zb) hb); clear HO237; clear HO240; clear HO243; clear HB; have HO237 := n0_; have HO240 := n1_; have HO243 := n2_; have HO246 := n3_; have HB := n4_; clear n0_ n1_ n2_ n3_ n4_; (try clear hb); (try clear hb2); (try clear hk); (try clear hi); (try clear ho0); obtain ⟨Ao25, co25, eo25⟩ := Kd.R_slice HO246.out; subst eo25; obtain ⟨Ao26, co26, eo26⟩ := Kd.R_slice HO240.out; subst eo26) | ((with_reducible refine gate_callee (f := 41) rfl ?_); refine goesL_ (some 41) rfl rfl Try.func41 (by kernel_rfl) rfl #[.slice Ao25 t244.length co25, .slice Ao26 t238.length co26] rfl za ?_; (with_reducible refine (laws_eqIntS.calls k _ _ t244 _ _ t238 true _ ?side1 ?side2 ?side3 ?side4 A12.out).mono ?_); (case side1 => repeat (first | exact (Kd.R_reads' HO246.out).2.2 | (with_reducible refine Kd.C_alloc ?_ _) | (with_reducible refine Kd.C_drewN ?_ _) | (with_reducible refine Kd.C_drew ?_))); (case side2 => exact (Kd.R_reads' HO246.out).2.1); (case side3 => repeat (first | exact (Kd.R_reads' HO240.out).2.2 | (with_reducible refine Kd.C_alloc ?_ _) | (with_reducible refine Kd.C_drewN ?_ _) | (with_reducible refine Kd.C_drew ?_))); (case side4 => exact (Kd.R_reads' HO240.out).2.1); rintro e w' ⟨rfl, ⟨nd, rfl⟩⟩; refine ⟨_, rfl, ?_⟩) | ((with_reducible refine gate_callee (f := 25) rfl ?_); refine goesL_ (some 45) rfl rfl Try.func25 (by kernel_rfl) rfl #[.slice A0 l0.length c0] rfl za ?_; (with_reducible refine (laws_toGrantS.calls k _ _ l0 t248 _ ?side1 ?side2 A14.out).mono ?_); (case side1 => repeat (first | exact (Kd.C_below HR0.out (zb)) | (with_reducible refine Kd.C_alloc ?_ _) | (with_reducible refine Kd.C_drewN ?_ _) | (with_reducible refine Kd.C_drew ?_))); (case side2 => exact HC0.out); rintro e w27 ⟨v249, rfl, ho0, hb⟩; refine ⟨_, rfl, ?_⟩; have n0_ := aM (Kd.R_elder' (by (with_reducible repeat (first | apply Kd.R_alloc | apply Kd.R_drewN | apply Kd.R_drew)); exact HO237.out) (Kd.R_base ho0) hb); have n1_ := aM (Kd.R_below (by (with_reducible repeat (first | apply Kd.R_alloc | apply Kd.R_drewN | apply Kd.R_drew)); exact HO240.out) hb); have n2_ := aM (Kd.R_elder' (by (with_reducible repeat (first | apply Kd.R_alloc | apply Kd.R_drewN | apply Kd.R_drew)); exact HO243.out) (Kd.R_base ho0) hb); have n3_ := aM (Kd.R_below (by (with_reducible repeat (first | apply Kd.R_alloc | apply Kd.R_drewN | apply Kd.R_drew)); exact HO246.out) hb); have n4_ := aM (Kd.R_lower (Kd.R_new' (Kd.R_new' ho0 (Kd.R_lt (by (with_reducible repeat (first | apply Kd.R_alloc | apply Kd.R_drewN | apply Kd.R_drew)); exact HO237.out))) (Kd.R_lt (by (with_reducible repeat (first | apply Kd.R_alloc | apply Kd.R_drewN | apply Kd.R_drew)); exact HO243.out))) (below_size (zb))); have n5_ := aM (below_step (zb) hb); clear HO237; clear HO240; clear HO243; clear HO246; clear HB; have HO237 := n0_; have HO240 := n1_; have HO243 := n2_; have HO246 := n3_; have HO250 := n4_; have HB := n5_; clear n0_ n1_ n2_ n3_ n4_ n5_; (try clear hb); (try clear hb2); (try clear hk); (try clear hi); (try clear ho0); obtain ⟨Ao28, co28, eo28⟩ := Kd.R_slice HO250.out; subst eo28) | ((with_reducible refine gate_callee (f := 27) rfl ?_); refine goesL_ (some 46) rfl rfl Try.func27 (by kernel_rfl) rfl #[.slice Ao23 t241.length co23, .slice Ao28 t248.length co28] rfl za ?_; (with_reducible refine (laws_eqGrantS.calls k _ _ t241 _ _ t248 true _ ?side1 ?side2 ?side3 ?side4 A15.out).mono ?_); (case side1 => repeat (first | exact (Kd.R_reads' HO243.out).2.2 | (with_reducible refine Kd.C_alloc ?_ _) | (with_reducible refine Kd.C_drewN ?_ _) | (with_reducible refine Kd.C_drew ?_))); (case side2 => exact (Kd.R_reads' HO243.out).2.1); (case side3 => repeat (first | exact (Kd.R_reads' HO250.out).2.2 | (with_reducible refine Kd.C_alloc ?_ _) | (with_reducible refine Kd.C_drewN ?_ _) | (with_reducible refine Kd.C_drew ?_))); (case side4 => exact (Kd.R_reads' HO250.out).2.1); rintro e w29 ⟨rfl, hb⟩; refine ⟨_, rfl, ?_⟩; have n0_ := aM (Kd.R_below (by (with_reducible repeat (first | apply Kd.R_alloc | apply Kd.R_drewN | apply Kd.R_drew)); exact HO237.out) hb); have n1_ := aM (Kd.R_below (by (with_reducible repeat (first | apply Kd.R_alloc | apply Kd.R_drewN | apply Kd.R_drew)); exact HO240.out) hb); have n2_ := aM (Kd.R_below (by (with_reducible repeat (first | apply Kd.R_alloc | apply Kd.R_drewN | apply Kd.R_drew)); exact HO243.out) hb); have n3_ := aM (Kd.R_below (by (with_reducible repeat (first | apply Kd.R_alloc | apply Kd.R_drewN | apply Kd.R_drew)); exact HO246.out) hb); have n4_ := aM (Kd.R_below (by (with_reducible repeat (first | apply Kd.R_alloc | apply Kd.R_drewN | apply Kd.R_drew)); exact HO250.out) hb); have n5_ := aM (below_step (zb) hb); clear HO237; clear HO240; clear HO243; clear HO246; clear HO250; clear HB; have HO237 := n0_; have HO240 := n1_; have HO243 := n2_; have HO246 := n3_; have HO250 := n4_; have HB := n5_; clear n0_ n1_ n2_ n3_ n4_ n5_; (try clear hb); (try clear hb2); (try clear hk); (try clear hi)) | ((with_reducible refine gate_callee (f := 30) rfl ?_); refine goesL_ (some 50) rfl rfl Try.func30 (by kernel_rfl) rfl #[.slice Ao23 t241.length co23, .int .i64 1] rfl za ?_; (with_reducible refine (laws_markGrantS.calls k (fun k_ => some k_ = (.slice Ao23 t241.length co23 : Value).ownBlock) (.slice Ao23 t241.length co23) t241 1 t252 t253 w _ ?side1 ?side2 A17.out).mono ?_); (case side1 => repeat (first | (with_reducible first | exact HB.out | apply eA | apply eN | apply eD) | exact HB.out)); (case side2 => exact Kd.R_tight rfl HO243.out); rintro e w30 ⟨rfl, hy0, hb, hkp⟩; refine ⟨_, rfl, ?_⟩; have n0_ := aM (Kd.R_mono (ok' := fun k_ => some k_ ≠ (.slice Ao23 t241.length co23 : Value).ownBlock ∧ some k_ ≠ (.slice Ao28 t248.length co28 : Value).ownBlock) (Kd.R_keptB (HO237.out) hkp (fun k_ hk_ hs_ => (hk_.1.2) hs_)) (fun k_ hk_ => ⟨hk_.1.1.2, hk_.1.2⟩)); have n1_ := aM (Kd.R_mono (ok' := fun k_ => some k_ ≠ (.slice Ao25 t244.length co25 : Value).ownBlock) (Kd.R_keptB ((Kd.R_apart' HO240.out (Kd.R_typed HO243.out) (by decide))) hkp (fun k_ hk_ hs_ => (hk_.2) hs_)) (fun k_ hk_ => hk_.1.1.2)); have n2_ := aM (Kd.R_reok rfl hy0 (fun k_ e_ => HO243.out.1 k_ e_)); have n3_ := aM (Kd.R_mono (ok' := fun k_ => some k_ ≠ (.slice Ao26 t238.length co26 : Value).ownBlock) (Kd.R_keptB ((Kd.R_apart' HO246.out (Kd.R_typed HO243.out) (by decide))) hkp (fun k_ hk_ hs_ => (hk_.2) hs_)) (fun k_ hk_ => hk_.1.1.2)); have n4_ := aM (Kd.R_mono (ok' := fun k_ => some k_ ≠ (.slice Ao20 t235.length co20 : Value).ownBlock ∧ some k_ ≠ (.slice Ao23 t241.length co23 : Value).ownBlock) (Kd.R_keptB (HO250.out) hkp (fun k_ hk_ hs_ => (hk_.2) hs_)) (fun k_ hk_ => ⟨hk_.1.1.2, hk_.1.2⟩)); have n5_ := aM (hb); clear HO237; clear HO240; clear HO243; clear HO246; clear HO250; clear HB; have HO237 := n0_; have HO240 := n1_; have HO243 := n2_; have HO246 := n3_; have HO250 := n4_; have HB := n5_; clear n0_ n1_ n2_ n3_ n4_ n5_; (try clear hb); (try clear hkp); (try clear hy0)))
    (try simp only [Act.put, List.setIfInBounds_toArray, List.set_cons_zero, List.set_cons_succ])
    go_cut [58] (fun v58 wc => ∃ (kq : Nat) (x58_17 : Bool), v58 = .bool x58_17 ∧ Aside0 (laws_FnExactNeededFor.j0 kq l0 a1 a2 a3 a4 t238 t244 x58_17 = some r) ∧ Aside0 (kq ≤ k) ∧ Aside0 (Kd.R (Kd.int .i64) 3 wc w.heap.size (fun k_ => some k_ ≠ ((.slice Ao25 t244.length co25) : Value).ownBlock) (.slice Ao26 t238.length co26) t238) ∧ Aside0 (Kd.R (Kd.int .i64) 3 wc w.heap.size (fun k_ => some k_ ≠ ((.slice Ao26 t238.length co26) : Value).ownBlock) (.slice Ao25 t244.length co25) t244) ∧ Aside0 (Below w.heap.size w wc))
    case first =>
     have H := HC18.out
     clear HC18
     by_cases c31 : t252 < 0
     ·rw [if_pos c31] at H
      have c31b0 : decide (t252 < 0) = true := decide_eq_true c31
      clear c31
      (first | rw [c31b0] | (simp only [i64_w, i32_w]; rw [c31b0]) | skip)
      have H' := aM H
      clear H
      go_wp2
      go_meet
      case rel => exact ⟨_, (true), zs, H', ⟨by first | omega | exact Nat.le_refl _⟩, ⟨by (with_reducible repeat (first | apply Kd.R_alloc | apply Kd.R_drewN | apply Kd.R_drew)); exact HO240.out⟩, ⟨by (with_reducible repeat (first | apply Kd.R_alloc | apply Kd.R_drewN | apply Kd.R_drew)); exact HO246.out⟩, ⟨zb⟩⟩
     ·rw [if_neg c31] at H
      have c31b0 : decide (t252 < 0) = false := decide_eq_false c31
      clear c31
      (first | rw [c31b0] | (simp only [i64_w, i32_w]; rw [c31b0]) | skip)
      replace H := Option.bind_eq_some_iff.mp H
      obtain ⟨t254, A320, H⟩ := H
      replace H : (laws_FnExactNeededFor.j0 k l0 a1 a2 a3 a4 t238 t244 (!t254)) = some r := H
      have A32 := aM A320
      clear A320
      have H' := aM H
      clear H
      go_wp2_with (first | (go_at_call 41; (with_reducible refine (laws_eqIntS.calls k _ _ t244 _ _ t238 t254 _ ?side1 ?side2 ?side3 ?side4 A32.out).mono ?_); (case side1 => repeat (first | exact (Kd.R_reads' HO246.out).2.2 | (with_reducible refine Kd.C_alloc ?_ _) | (with_reducible refine Kd.C_drewN ?_ _) | (with_reducible refine Kd.C_drew ?_))); (case side2 => exact (Kd.R_reads' HO246.out).2.1); (case side3 => repeat (first | exact (Kd.R_reads' HO240.out).2.2 | (with_reducible refine Kd.C_alloc ?_ _) | (with_reducible refine Kd.C_drewN ?_ _) | (with_reducible refine Kd.C_drew ?_))); (case side4 => exact (Kd.R_reads' HO240.out).2.1); rintro e w' ⟨rfl, ⟨nd, rfl⟩⟩))
      go_meet
      case rel => exact ⟨_, (!t254), zs, H', ⟨by first | omega | exact Nat.le_refl _⟩, ⟨by (with_reducible repeat (first | apply Kd.R_alloc | apply Kd.R_drewN | apply Kd.R_drew)); exact HO240.out⟩, ⟨by (with_reducible repeat (first | apply Kd.R_alloc | apply Kd.R_drewN | apply Kd.R_drew)); exact HO246.out⟩, ⟨zb⟩⟩
    case rest =>
     clear HC18
     try clear c1
     try clear c2
     try clear p2
     try clear c3
     try clear c4
     try clear c5
     try clear c7
     try clear c7b0
     try clear c13
     try clear c14
     try clear c16
     try clear c23
     try clear c25
     try clear c27
     try clear c30
     try clear c31
     try clear c31b0
     obtain ⟨kq, x58_17, rfl, HA, HJ17, HO_12, HO_14, HB⟩ := hcut
     cases kq with
     | zero => exact absurd HA.out (by simp [laws_FnExactNeededFor.j0])
     | succ kj17 =>
      have H := HA.out
      clear HA
      simp only [laws_FnExactNeededFor.j0] at H
      by_cases c33 : x58_17 = true
      ·subst c33
       have H1 : (none) = some r := by rw [if_pos rfl] at H; exact H
       clear H
       have H := H1
       clear H1
       exact absurd H (by simp)
      ·replace c33 := Bool.eq_false_iff.mpr c33
       subst c33
       have H1 : ((laws_markIntS.f kj17 t244 1).bind fun bt255 => ((laws_heldIntS.f kj17 bt255.2 1).bind fun t257 => (if t257 < 0 then (none) else (if t257 = bt255.1 then ((laws_toGrantS.f kj17 l0).bind fun t258 => ((impl_NeededFor.f kj17 t258 a1 a2 a3 a4).bind fun t261 => ((laws_eqIntS.f kj17 t261 t238).bind fun t264 => (if t264 = true then ((laws_heldIntS.f kj17 bt255.2 1).bind fun t265 => (if t265 < 0 then (none) else (if t265 = bt255.1 then (some true) else (none)))) else (none))))) else (none))))) = some r := by rw [if_neg (show ¬ (false = true) by decide)] at H; exact H
       clear H
       have H := H1
       clear H1
       replace H := Option.bind_eq_some_iff.mp H
       obtain ⟨⟨t255, t256⟩, A340, H⟩ := H
       replace H : ((laws_heldIntS.f kj17 t256 1).bind fun t257 => (if t257 < 0 then (none) else (if t257 = t255 then ((laws_toGrantS.f kj17 l0).bind fun t258 => ((impl_NeededFor.f kj17 t258 a1 a2 a3 a4).bind fun t261 => ((laws_eqIntS.f kj17 t261 t238).bind fun t264 => (if t264 = true then ((laws_heldIntS.f kj17 t256 1).bind fun t265 => (if t265 < 0 then (none) else (if t265 = t255 then (some true) else (none)))) else (none))))) else (none)))) = some r := H
       have A34 := aM A340
       clear A340
       replace H := Option.bind_eq_some_iff.mp H
       obtain ⟨t257, A350, H⟩ := H
       replace H : (if t257 < 0 then (none) else (if t257 = t255 then ((laws_toGrantS.f kj17 l0).bind fun t258 => ((impl_NeededFor.f kj17 t258 a1 a2 a3 a4).bind fun t261 => ((laws_eqIntS.f kj17 t261 t238).bind fun t264 => (if t264 = true then ((laws_heldIntS.f kj17 t256 1).bind fun t265 => (if t265 < 0 then (none) else (if t265 = t255 then (some true) else (none)))) else (none))))) else (none))) = some r := H
       have A35 := aM A350
       clear A350
       by_cases c36 : t257 < 0
       ·rw [if_pos c36] at H
        exact absurd H (by simp)
       ·rw [if_neg c36] at H
        have c36b0 : decide (t257 < 0) = false := decide_eq_false c36
        clear c36
        by_cases c37 : t257 = t255
        ·rw [if_pos c37] at H
         have c37b0 : (t257 == t255) = true := beq_iff_eq.mpr c37
         have c37b1 : (t257 != t255) = false := bne_eq_false_iff_eq.mpr c37
         clear c37
         replace H := Option.bind_eq_some_iff.mp H
         obtain ⟨t258, A380, H⟩ := H
         replace H : ((impl_NeededFor.f kj17 t258 a1 a2 a3 a4).bind fun t261 => ((laws_eqIntS.f kj17 t261 t238).bind fun t264 => (if t264 = true then ((laws_heldIntS.f kj17 t256 1).bind fun t265 => (if t265 < 0 then (none) else (if t265 = t255 then (some true) else (none)))) else (none)))) = some r := H
         have A38 := aM A380
         clear A380
         replace H := Option.bind_eq_some_iff.mp H
         obtain ⟨t261, A390, H⟩ := H
         replace H : ((laws_eqIntS.f kj17 t261 t238).bind fun t264 => (if t264 = true then ((laws_heldIntS.f kj17 t256 1).bind fun t265 => (if t265 < 0 then (none) else (if t265 = t255 then (some true) else (none)))) else (none))) = some r := H
         have A39 := aM A390
         clear A390
         replace H := Option.bind_eq_some_iff.mp H
         obtain ⟨t264, A400, H⟩ := H
         replace H : (if t264 = true then ((laws_heldIntS.f kj17 t256 1).bind fun t265 => (if t265 < 0 then (none) else (if t265 = t255 then (some true) else (none)))) else (none)) = some r := H
         have A40 := aM A400
         clear A400
         by_cases c41 : t264 = true
         ·subst c41
          have H1 : ((laws_heldIntS.f kj17 t256 1).bind fun t265 => (if t265 < 0 then (none) else (if t265 = t255 then (some true) else (none)))) = some r := by rw [if_pos rfl] at H; exact H
          clear H
          have H := H1
          clear H1
          replace H := Option.bind_eq_some_iff.mp H
          obtain ⟨t265, A420, H⟩ := H
          replace H : (if t265 < 0 then (none) else (if t265 = t255 then (some true) else (none))) = some r := H
          have A42 := aM A420
          clear A420
          by_cases c43 : t265 < 0
          ·rw [if_pos c43] at H
           exact absurd H (by simp)
          ·rw [if_neg c43] at H
           have c43b0 : decide (t265 < 0) = false := decide_eq_false c43
           clear c43
           by_cases c44 : t265 = t255
           ·rw [if_pos c44] at H
            have c44b0 : (t265 == t255) = true := beq_iff_eq.mpr c44
            have c44b1 : (t265 != t255) = false := bne_eq_false_iff_eq.mpr c44
            clear c44
            obtain rfl := Option.some.inj H
            go_wp2_with (first | ((with_reducible refine gate_callee (f := 42) rfl ?_); refine goesL_ (some 61) rfl rfl Try.func42 (by kernel_rfl) rfl #[.slice Ao25 t244.length co25, .int .i64 1] rfl za ?_; (with_reducible refine (laws_markIntS.calls kj17 (fun k_ => some k_ = (.slice Ao25 t244.length co25 : Value).ownBlock) (.slice Ao25 t244.length co25) t244 1 t255 t256 w _ ?side1 ?side2 A34.out).mono ?_); (case side1 => repeat (first | (with_reducible first | exact HB.out | apply eA | apply eN | apply eD) | exact HB.out)); (case side2 => exact Kd.R_tight rfl HO_14.out); rintro e w45 ⟨rfl, hy0, hb, hkp⟩; refine ⟨_, rfl, ?_⟩; have n0_ := aM (Kd.R_mono (ok' := fun k_ => some k_ ≠ (.slice Ao25 t244.length co25 : Value).ownBlock) (Kd.R_keptB (HO_12.out) hkp (fun k_ hk_ hs_ => (hk_) hs_)) (fun k_ hk_ => hk_.1)); have n1_ := aM (Kd.R_reok rfl hy0 (fun k_ e_ => HO_14.out.1 k_ e_)); have n2_ := aM (hb); clear HO_12; clear HO_14; clear HB; have HO_12 := n0_; have HO_14 := n1_; have HB := n2_; clear n0_ n1_ n2_; (try clear hb); (try clear hkp); (try clear hy0)) | ((with_reducible refine gate_callee (f := 43) rfl ?_); refine goesL_ (some 64) rfl rfl Try.func43 (by kernel_rfl) rfl #[.slice Ao25 t256.length co25, .int .i64 1] rfl (by (try simp only [List.map_toArray, List.map_cons, List.map_nil]); first | done | (rw [show t256.length = t244.length from (Kd.R_reads' HO_14.out).1.symm] <;> rfl) | rfl | (simp only [List.length_drop, List.length_take]; rfl)) ?_; (with_reducible refine (laws_heldIntS.calls kj17 _ _ t256 1 t257 _ ?side1 ?side2 A35.out).mono ?_); (case side1 => repeat (first | exact (Kd.R_reads' HO_14.out).2.2 | (with_reducible refine Kd.C_alloc ?_ _) | (with_reducible refine Kd.C_drewN ?_ _) | (with_reducible refine Kd.C_drew ?_))); (case side2 => rw [show t256.length = t244.length from (Kd.R_reads' HO_14.out).1.symm]; exact (Kd.R_reads' HO_14.out).2.1); rintro e w' ⟨rfl, ⟨nd, rfl⟩⟩; refine ⟨_, rfl, ?_⟩) | ((with_reducible refine gate_callee (f := 25) rfl ?_); refine goesL_ (some 71) rfl rfl Try.func25 (by kernel_rfl) rfl #[.slice A0 l0.length c0] rfl za ?_; (with_reducible refine (laws_toGrantS.calls kj17 _ _ l0 t258 _ ?side1 ?side2 A38.out).mono ?_); (case side1 => repeat (first | exact (Kd.C_below HR0.out (zb)) | (with_reducible refine Kd.C_alloc ?_ _) | (with_reducible refine Kd.C_drewN ?_ _) | (with_reducible refine Kd.C_drew ?_))); (case side2 => exact HC0.out); rintro e w46 ⟨v259, rfl, ho0, hb⟩; refine ⟨_, rfl, ?_⟩; have n0_ := aM (Kd.R_below (by (with_reducible repeat (first | apply Kd.R_alloc | apply Kd.R_drewN | apply Kd.R_drew)); exact HO_12.out) hb); have n1_ := aM (Kd.R_below (by (with_reducible repeat (first | apply Kd.R_alloc | apply Kd.R_drewN | apply Kd.R_drew)); exact HO_14.out) hb); have n2_ := aM (Kd.R_lower ho0 (below_size (zb))); have n3_ := aM (below_step (zb) hb); clear HO_12; clear HO_14; clear HB; have HO_12 := n0_; have HO_14 := n1_; have HO260 := n2_; have HB := n3_; clear n0_ n1_ n2_ n3_; (try clear hb); (try clear hb2); (try clear hk); (try clear hi); (try clear ho0); obtain ⟨Ao47, co47, eo47⟩ := Kd.R_slice HO260.out; subst eo47) | ((with_reducible refine gate_callee (f := 52) rfl ?_); refine goesL_ (some 76) rfl rfl Try.func52 (by kernel_rfl) rfl #[.slice Ao47 t258.length co47, .int .i64 a1, .int .i64 a2, .int .i64 a3, .int .i64 a4] rfl za ?_; (with_reducible refine (impl_NeededFor.calls kj17 _ _ t258 a1 a2 a3 a4 t261 _ ?side1 ?side2 A39.out).mono ?_); (case side1 => repeat (first | exact (Kd.R_reads' HO260.out).2.2 | (with_reducible refine Kd.C_alloc ?_ _) | (with_reducible refine Kd.C_drewN ?_ _) | (with_reducible refine Kd.C_drew ?_))); (case side2 => exact (Kd.R_reads' HO260.out).2.1); rintro e w48 ⟨v262, rfl, ho0, hb⟩; refine ⟨_, rfl, ?_⟩; have n0_ := aM (Kd.R_elder' (by (with_reducible repeat (first | apply Kd.R_alloc | apply Kd.R_drewN | apply Kd.R_drew)); exact HO_12.out) (Kd.R_base ho0) hb); have n1_ := aM (Kd.R_elder' (by (with_reducible repeat (first | apply Kd.R_alloc | apply Kd.R_drewN | apply Kd.R_drew)); exact HO_14.out) (Kd.R_base ho0) hb); have n2_ := aM (Kd.R_below (by (with_reducible repeat (first | apply Kd.R_alloc | apply Kd.R_drewN | apply Kd.R_drew)); exact HO260.out) hb); have n3_ := aM (Kd.R_lower (Kd.R_new' (Kd.R_new' ho0 (Kd.R_lt (by (with_reducible repeat (first | apply Kd.R_alloc | apply Kd.R_drewN | apply Kd.R_drew)); exact HO_12.out))) (Kd.R_lt (by (with_reducible repeat (first | apply Kd.R_alloc | apply Kd.R_drewN | apply Kd.R_drew)); exact HO_14.out))) (below_size (zb))); have n4_ := aM (below_step (zb) hb); clear HO_12; clear HO_14; clear HO260; clear HB; have HO_12 := n0_; have HO_14 := n1_; have HO260 := n2_; have HO263 := n3_; have HB := n4_; clear n0_ n1_ n2_ n3_ n4_; (try clear hb); (try clear hb2); (try clear hk); (try clear hi); (try clear ho0); obtain ⟨Ao49, co49, eo49⟩ := Kd.R_slice HO263.out; subst eo49) | ((with_reducible refine gate_callee (f := 41) rfl ?_); refine goesL_ (some 79) rfl rfl Try.func41 (by kernel_rfl) rfl #[.slice Ao49 t261.length co49, .slice Ao26 t238.length co26] rfl za ?_; (with_reducible refine (laws_eqIntS.calls kj17 _ _ t261 _ _ t238 true _ ?side1 ?side2 ?side3 ?side4 A40.out).mono ?_); (case side1 => repeat (first | exact (Kd.R_reads' HO263.out).2.2 | (with_reducible refine Kd.C_alloc ?_ _) | (with_reducible refine Kd.C_drewN ?_ _) | (with_reducible refine Kd.C_drew ?_))); (case side2 => exact (Kd.R_reads' HO263.out).2.1); (case side3 => repeat (first | exact (Kd.R_reads' HO_12.out).2.2 | (with_reducible refine Kd.C_alloc ?_ _) | (with_reducible refine Kd.C_drewN ?_ _) | (with_reducible refine Kd.C_drew ?_))); (case side4 => exact (Kd.R_reads' HO_12.out).2.1); rintro e w' ⟨rfl, ⟨nd, rfl⟩⟩; refine ⟨_, rfl, ?_⟩) | ((with_reducible refine gate_callee (f := 43) rfl ?_); refine goesL_ (some 83) rfl rfl Try.func43 (by kernel_rfl) rfl #[.slice Ao25 t256.length co25, .int .i64 1] rfl (by (try simp only [List.map_toArray, List.map_cons, List.map_nil]); first | done | (rw [show t256.length = t244.length from (Kd.R_reads' HO_14.out).1.symm] <;> rfl) | rfl | (simp only [List.length_drop, List.length_take]; rfl)) ?_; (with_reducible refine (laws_heldIntS.calls kj17 _ _ t256 1 t265 _ ?side1 ?side2 A42.out).mono ?_); (case side1 => repeat (first | exact (Kd.R_reads' HO_14.out).2.2 | (with_reducible refine Kd.C_alloc ?_ _) | (with_reducible refine Kd.C_drewN ?_ _) | (with_reducible refine Kd.C_drew ?_))); (case side2 => rw [show t256.length = t244.length from (Kd.R_reads' HO_14.out).1.symm]; exact (Kd.R_reads' HO_14.out).2.1); rintro e w' ⟨rfl, ⟨nd, rfl⟩⟩; refine ⟨_, rfl, ?_⟩))
            go_ret
            exact ⟨zr, zb⟩
           ·rw [if_neg c44] at H
            exact absurd H (by simp)
         ·replace c41 := Bool.eq_false_iff.mpr c41
          subst c41
          have H1 : (none) = some r := by rw [if_neg (show ¬ (false = true) by decide)] at H; exact H
          clear H
          have H := H1
          clear H1
          exact absurd H (by simp)
        ·rw [if_neg c37] at H
         exact absurd H (by simp)
   ·replace c16 := Bool.eq_false_iff.mpr c16
    subst c16
    have H1 : (none) = some r := by rw [if_neg (show ¬ (false = true) by decide)] at H; exact H
    clear H
    have H := H1
    clear H1
    exact absurd H (by simp)
  ·replace c13 := Bool.eq_false_iff.mpr c13
   subst c13
   have H1 : (none) = some r := by rw [if_neg (show ¬ (false = true) by decide)] at H; exact H
   clear H
   have H := H1
   clear H1
   exact absurd H (by simp)

end Go.Proofs.Ytcpjfkagbnoagaa.QFnExactNeededFor
