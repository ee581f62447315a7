-- Printed functions and their walks: by print.py, turned by wip/tools/myprint.py.
import Derived.Test.YtcpjfkagbnoagaaQFnChainsx0
import Derived.Test.YtcpjfkagbnoagaaQFnChainsx5
import Derived.Test.YtcpjfkagbnoagaaQFnChainsx6
import Derived.Test.YtcpjfkagbnoagaaQFnChainsx7
namespace Go.Proofs.Ytcpjfkagbnoagaa.QFnChains
open Go.RowKit Go.Proofs.YtcpjfkagbnoagaaW.PrintWords Go.Proofs.YtcpjfkagbnoagaaW.PrintLast Go.Proofs.YtcpjfkagbnoagaaW.PrintMore
attribute [local go_sem] max2_int min2_int max_two min_two max_three min_three max_four min_four   -- for this text's walks alone
set_option linter.unusedVariables false
set_option linter.unusedSimpArgs false

/-! ### spec_ChainOf: function 37 -/
mutual
def spec_ChainOf.l0 : Nat → List (S25) → Int → Int → List (List Bool) → List Int → Int → Int → Option (List Int × Bool)
 | 0, _, _, _, _, _, _, _ => none
 | k + 1, x0, x3, x4, x12, x14, x15, x16 => if x16 > 0 then (spec_ChainOf.l1 k x0 x3 x4 x12 x14 x15 x16 0) else (some (x14, true))
def spec_ChainOf.l1 : Nat → List (S25) → Int → Int → List (List Bool) → List Int → Int → Int → Int → Option (List Int × Bool)
 | 0, _, _, _, _, _, _, _, _ => none
 | k + 1, x0, x3, x4, x12, x14, x15, x16, x17 => if x17 < (x0.length : Int) then (if 0 ≤ x17 then (if ((rd_T25 x0 x17).f0) = x15 then ((spec_Applies.f ((rd_T25 x0 x17).f0) ((rd_T25 x0 x17).f1) ((rd_T25 x0 x17).f2) ((rd_T25 x0 x17).f3) ((rd_T25 x0 x17).f4) ((rd_T25 x0 x17).f5) ((rd_T25 x0 x17).f6) x3 x4).bind fun t356 => (if t356 = true then (if ((rd_T25 x0 x17).f3) ≥ (wrap64 (x16 - 1)) then (if 0 ≤ (wrap64 (x16 - 1)) then (if (wrap64 (x16 - 1)) < (x12.length : Int) then (if 0 ≤ ((rd_T25 x0 x17).f1) then (if ((rd_T25 x0 x17).f1) < ((rd_L4 x12 (wrap64 (x16 - 1))).length : Int) then (if rdOf false (rd_L4 x12 (wrap64 (x16 - 1))) ((rd_T25 x0 x17).f1) = true then (if x14.length < 17592186044416 then (spec_ChainOf.l0 k x0 x3 x4 x12 (x14 ++ [x17]) ((rd_T25 x0 x17).f1) (wrap64 (x16 - 1))) else (none)) else (spec_ChainOf.l1 k x0 x3 x4 x12 x14 x15 x16 (wrap64 (x17 + 1)))) else (none)) else (none)) else (none)) else (none)) else (spec_ChainOf.l1 k x0 x3 x4 x12 x14 x15 x16 (wrap64 (x17 + 1)))) else (spec_ChainOf.l1 k x0 x3 x4 x12 x14 x15 x16 (wrap64 (x17 + 1))))) else (spec_ChainOf.l1 k x0 x3 x4 x12 x14 x15 x16 (wrap64 (x17 + 1)))) else (none)) else (spec_ChainOf.l0 k x0 x3 x4 x12 x14 x15 (wrap64 (x16 - 1)))
end
def spec_ChainOf.f (k : Nat) (l0 : List (S25)) (a1 : Int) (a2 : Int) (a3 : Int) (a4 : Int) : Option (List Int × Bool) := (spec_l05Good.f k l0 a1 a2 a3 a4).bind fun t346 => (if t346 = true then ((spec_l05Reach.f k l0 a2 a3 a4 0).bind fun t347 => ((spec_l05Short.f k t347 a1).bind fun t350 => (if t350 < 0 then (some (([] : List Int), false)) else (spec_ChainOf.l0 k l0 a3 a4 t347 (([] : List Int)) a1 t350)))) else (some (([] : List Int), false)))
theorem spec_ChainOf.mono_l : ∀ k, (∀ y0 y1 y2 y3 y4 y5 y6, LeO (spec_ChainOf.l0 k y0 y1 y2 y3 y4 y5 y6) (spec_ChainOf.l0 (k + 1) y0 y1 y2 y3 y4 y5 y6)) ∧ (∀ y0 y1 y2 y3 y4 y5 y6 y7, LeO (spec_ChainOf.l1 k y0 y1 y2 y3 y4 y5 y6 y7) (spec_ChainOf.l1 (k + 1) y0 y1 y2 y3 y4 y5 y6 y7))
 | 0 => ⟨fun _ _ _ _ _ _ _ r h => by simp [spec_ChainOf.l0] at h, fun _ _ _ _ _ _ _ _ r h => by simp [spec_ChainOf.l1] at h⟩
 | k + 1 => by
  obtain ⟨ih0, ih1⟩ := spec_ChainOf.mono_l k
  refine ⟨?_, ?_⟩
  ·intro y0 y1 y2 y3 y4 y5 y6
   unfold spec_ChainOf.l0
   repeat' first
   | (with_reducible exact ih0 _ _ _ _ _ _ _)
   | (with_reducible exact ih1 _ _ _ _ _ _ _ _)
   | (with_reducible exact spec_l05Good.mono _ _ _ _ _ _)
   | (with_reducible exact spec_l05Reach.mono _ _ _ _ _ _)
   | (with_reducible exact spec_l05Short.mono _ _ _)
   | (with_reducible exact LeO.refl _)
   | (with_reducible exact LeO.none _)
   | (with_reducible refine LeO.ite ?_ ?_)
   | (with_reducible refine LeO.bind ?_ (fun _ => ?_))
   | exact ih0 _ _ _ _ _ _ _
   | exact ih1 _ _ _ _ _ _ _ _
   | exact spec_l05Good.mono _ _ _ _ _ _
   | exact spec_l05Reach.mono _ _ _ _ _ _
   | exact spec_l05Short.mono _ _ _
   | exact LeO.none _
   | refine LeO.ite ?_ ?_
   | refine LeO.bind ?_ (fun _ => ?_)
  ·intro y0 y1 y2 y3 y4 y5 y6 y7
   unfold spec_ChainOf.l1
   repeat' first
   | (with_reducible exact ih0 _ _ _ _ _ _ _)
   | (with_reducible exact ih1 _ _ _ _ _ _ _ _)
   | (with_reducible exact spec_l05Good.mono _ _ _ _ _ _)
   | (with_reducible exact spec_l05Reach.mono _ _ _ _ _ _)
   | (with_reducible exact spec_l05Short.mono _ _ _)
   | (with_reducible exact LeO.refl _)
   | (with_reducible exact LeO.none _)
   | (with_reducible refine LeO.ite ?_ ?_)
   | (with_reducible refine LeO.bind ?_ (fun _ => ?_))
   | exact ih0 _ _ _ _ _ _ _
   | exact ih1 _ _ _ _ _ _ _ _
   | exact spec_l05Good.mono _ _ _ _ _ _
   | exact spec_l05Reach.mono _ _ _ _ _ _
   | exact spec_l05Short.mono _ _ _
   | exact LeO.none _
   | refine LeO.ite ?_ ?_
   | refine LeO.bind ?_ (fun _ => ?_)
theorem spec_ChainOf.mono : ∀ a0 a1 a2 a3 a4 k, LeO (spec_ChainOf.f k a0 a1 a2 a3 a4) (spec_ChainOf.f (k + 1) a0 a1 a2 a3 a4) := by
 intro a0 a1 a2 a3 a4 k
 obtain ⟨ih0, ih1⟩ := spec_ChainOf.mono_l k
 unfold spec_ChainOf.f
 repeat' first
   | (with_reducible exact ih0 _ _ _ _ _ _ _)
   | (with_reducible exact ih1 _ _ _ _ _ _ _ _)
   | (with_reducible exact spec_l05Good.mono _ _ _ _ _ _)
   | (with_reducible exact spec_l05Reach.mono _ _ _ _ _ _)
   | (with_reducible exact spec_l05Short.mono _ _ _)
   | (with_reducible exact LeO.refl _)
   | (with_reducible exact LeO.none _)
   | (with_reducible refine LeO.ite ?_ ?_)
   | (with_reducible refine LeO.bind ?_ (fun _ => ?_))
   | exact ih0 _ _ _ _ _ _ _
   | exact ih1 _ _ _ _ _ _ _ _
   | exact spec_l05Good.mono _ _ _ _ _ _
   | exact spec_l05Reach.mono _ _ _ _ _ _
   | exact spec_l05Short.mono _ _ _
   | exact LeO.none _
   | refine LeO.ite ?_ ?_
   | refine LeO.bind ?_ (fun _ => ?_)
def spec_ChainOf.T16 : Bool × List (List Nat × List Nat) := (true, [([], []), ([0], [0]), ([], []), ([1, 2], [1, 2]), ([3], [3]), ([4], [4]), ([4], [4]), ([4], [4]), ([5, 6, 7, 4, 4], [4, 5, 6, 7]), ([4, 8], [4, 8]), ([9, 8], [9]), ([10], [10]), ([11, 10], [10, 11]), ([10], [10]), ([13, 10], [10, 13]), ([12, 14, 10], [10, 12, 14]), ([10, 15], [10, 15]), ([16, 10], [16]), ([17], [17]), ([17], [17]), ([19, 17], [17, 19]), ([18, 20, 17], [17, 18, 20]), ([21, 17], [17, 21]), ([17], [17]), ([23, 17], [17, 23]), ([22, 24, 17], [17, 22, 24]), ([25, 17], [17, 25]), ([17, 26], [17, 26])])
def spec_ChainOf.B16 : List Nat := [0, 1, 0, 7, 15, 31, 31, 31, 255, 511, 1023, 2047, 4095, 2047, 10239, 32767, 65535, 131071, 262143, 262143, 786431, 2097151, 4194303, 262143, 8650751, 33554431, 67108863, 134217727]
theorem spec_ChainOf.tab16 : rtab .any (opsOf Try.f37 16) = spec_ChainOf.T16 := by kernel_rfl
theorem spec_ChainOf.bits16 : waitsOk spec_ChainOf.T16.2 spec_ChainOf.B16 = true := by kernel_rfl
set_option maxHeartbeats 8000000 in
set_option maxRecDepth 100000 in
theorem spec_ChainOf.calls (k : Nat) (A0 : Option Addr) (c0 : Nat) (l0 : List (S25)) (a1 : Int) (a2 : Int) (a3 : Int) (a4 : Int) (r1 : List Int) (r2 : Bool) (w : World) (hr0 : Kd.C k25 w A0 l0.length l0) (hc0 : l0.length ≤ c0) (h : spec_ChainOf.f k l0 a1 a2 a3 a4 = some (r1, r2)) :
  Calls Try.prog 37 #[.slice A0 l0.length c0, .int .i64 a1, .int .i64 a2, .int .i64 a3, .int .i64 a4] w fun e w' => ∃ v0_ : Value, e = .returned (.tuple #[v0_, .bool r2]) ∧ Kd.R (Kd.int .i64) 3 w' w.heap.size (fun _ => True) v0_ r1 ∧ Below w.heap.size w w' := by
 have hu25 := Try.underlying25
 have HR0 := aM hr0
 have HC0 := aM hc0
 clear hr0 hc0
 have HB := aM (Below.refl w.heap.size w)
 have H : ((spec_l05Good.f k l0 a1 a2 a3 a4).bind fun t346 => (if t346 = true then ((spec_l05Reach.f k l0 a2 a3 a4 0).bind fun t347 => ((spec_l05Short.f k t347 a1).bind fun t350 => (if t350 < 0 then (some (([] : List Int), false)) else (spec_ChainOf.l0 k l0 a3 a4 t347 (([] : List Int)) a1 t350)))) else (some (([] : List Int), false)))) = some (r1, r2) := h
 clear h
 replace H := Option.bind_eq_some_iff.mp H
 obtain ⟨t346, A60, H⟩ := H
 replace H : (if t346 = true then ((spec_l05Reach.f k l0 a2 a3 a4 0).bind fun t347 => ((spec_l05Short.f k t347 a1).bind fun t350 => (if t350 < 0 then (some (([] : List Int), false)) else (spec_ChainOf.l0 k l0 a3 a4 t347 (([] : List Int)) a1 t350)))) else (some (([] : List Int), false))) = some (r1, r2) := H
 have A6 := aM A60
 clear A60
 by_cases c7 : t346 = true
 ·subst c7
  have H1 : ((spec_l05Reach.f k l0 a2 a3 a4 0).bind fun t347 => ((spec_l05Short.f k t347 a1).bind fun t350 => (if t350 < 0 then (some (([] : List Int), false)) else (spec_ChainOf.l0 k l0 a3 a4 t347 (([] : List Int)) a1 t350)))) = some (r1, r2) := by rw [if_pos rfl] at H; exact H
  clear H
  have H := H1
  clear H1
  replace H := Option.bind_eq_some_iff.mp H
  obtain ⟨t347, A80, H⟩ := H
  replace H : ((spec_l05Short.f k t347 a1).bind fun t350 => (if t350 < 0 then (some (([] : List Int), false)) else (spec_ChainOf.l0 k l0 a3 a4 t347 (([] : List Int)) a1 t350))) = some (r1, r2) := H
  have A8 := aM A80
  clear A80
  replace H := Option.bind_eq_some_iff.mp H
  obtain ⟨t350, A90, H⟩ := H
  replace H : (if t350 < 0 then (some (([] : List Int), false)) else (spec_ChainOf.l0 k l0 a3 a4 t347 (([] : List Int)) a1 t350)) = some (r1, r2) := H
  have A9 := aM A90
  clear A90
  by_cases c10 : t350 < 0
  ·rw [if_pos c10] at H
   have c10b0 : decide (t350 < 0) = true := decide_eq_true c10
   clear c10
   simp only [Option.some.injEq, Prod.mk.injEq] at H
   obtain ⟨rfl, rfl⟩ := H
   go_enter Try.func37, Try.ntmps37
   go_wp2_with (first | ((with_reducible refine gate_callee (f := 72) rfl ?_); refine goesL_ (some 24) rfl rfl Try.func72 (by kernel_rfl) rfl #[.slice A0 l0.length c0, .int .i64 a1, .int .i64 a2, .int .i64 a3, .int .i64 a4] rfl za ?_; (with_reducible refine (spec_l05Good.calls k _ _ l0 a1 a2 a3 a4 true _ ?side1 ?side2 A6.out).mono ?_); (case side1 => repeat (first | exact HR0.out | (with_reducible refine Kd.C_alloc ?_ _) | (with_reducible refine Kd.C_drewN ?_ _) | (with_reducible refine Kd.C_drew ?_))); (case side2 => exact HC0.out); rintro e w11 ⟨rfl, hb⟩; refine ⟨_, rfl, ?_⟩; have n0_ := aM (below_step (zb) hb); clear HB; have HB := n0_; clear n0_; (try clear hb); (try clear hb2); (try clear hk); (try clear hi)) | ((with_reducible refine gate_callee (f := 73) rfl ?_); refine goesL_ (some 30) rfl rfl Try.func73 (by kernel_rfl) rfl #[.slice A0 l0.length c0, .int .i64 a2, .int .i64 a3, .int .i64 a4, .int .i64 0] rfl za ?_; (with_reducible refine (spec_l05Reach.calls k _ _ l0 a2 a3 a4 0 t347 _ ?side1 ?side2 A8.out).mono ?_); (case side1 => repeat (first | exact (Kd.C_below HR0.out HB.out) | (with_reducible refine Kd.C_alloc ?_ _) | (with_reducible refine Kd.C_drewN ?_ _) | (with_reducible refine Kd.C_drew ?_))); (case side2 => exact HC0.out); rintro e w12 ⟨v348, rfl, ho0, hb⟩; refine ⟨_, rfl, ?_⟩; have n0_ := aM (Kd.N_lower (Kd.N_mono (ok' := fun k_ => True) ho0 (fun k_ hk_ => trivial)) (below_size (zb))); have n1_ := aM (below_step (zb) hb); clear HB; have HO349 := n0_; have HB := n1_; clear n0_ n1_; (try clear hb); (try clear hb2); (try clear hk); (try clear hi); (try clear ho0); obtain ⟨Ao13, co13, eo13⟩ := Kd.N_slice HO349.out; subst eo13) | ((with_reducible refine gate_callee (f := 74) rfl ?_); refine goesL_ (some 33) rfl rfl Try.func74 (by kernel_rfl) rfl #[.slice Ao13 t347.length co13, .int .i64 a1] rfl za ?_; (with_reducible refine (spec_l05Short.calls k _ _ t347 a1 t350 _ ?side1 ?side2 A9.out).mono ?_); (case side1 => repeat (first | exact (Kd.N_reads' HO349.out).2.2 | (with_reducible refine Kd.C_alloc ?_ _) | (with_reducible refine Kd.C_drewN ?_ _) | (with_reducible refine Kd.C_drew ?_))); (case side2 => exact (Kd.N_reads' HO349.out).2.1); rintro e w' ⟨rfl, ⟨nd, rfl⟩⟩; refine ⟨_, rfl, ?_⟩))
   go_ret2
   exact ⟨_, zr, by first | exact Kd.R_nil _ _ _ _ _ | exact Kd.N_nil _ _ _ _ _ | exact Kd.V_nil _ _ _ _ _ | exact Kd.Q_nil _ _ _ _ _ | exact Kd.S_nil _ _ _ _ _, zb⟩
  ·rw [if_neg c10] at H
   have c10b0 : decide (t350 < 0) = false := decide_eq_false c10
   clear c10
   obtain ⟨y351, hy351⟩ : ∃ y_ : List Int, y_ = (([] : List Int)) := ⟨_, rfl⟩
   replace H : (spec_ChainOf.l0 k l0 a3 a4 t347 y351 a1 t350) = some (r1, r2) := by first | (rw [hy351]; with_reducible exact H) | (have H2_ := (Option.bind_some _ _).symm.trans H; rw [hy351]; with_reducible exact H2_) | (have H2_ := (Option.bind_some _ _).symm.trans H; with_reducible exact H2_) | with_reducible exact H | (rw [hy351]; exact H) | exact H
   have Ny351 := aM hy351
   clear hy351
   have H' := aM H
   clear H
   go_enter Try.func37, Try.ntmps37
   go_wp2_with (first | ((with_reducible refine gate_callee (f := 72) rfl ?_); refine goesL_ (some 24) rfl rfl Try.func72 (by kernel_rfl) rfl #[.slice A0 l0.length c0, .int .i64 a1, .int .i64 a2, .int .i64 a3, .int .i64 a4] rfl za ?_; (with_reducible refine (spec_l05Good.calls k _ _ l0 a1 a2 a3 a4 true _ ?side1 ?side2 A6.out).mono ?_); (case side1 => repeat (first | exact HR0.out | (with_reducible refine Kd.C_alloc ?_ _) | (with_reducible refine Kd.C_drewN ?_ _) | (with_reducible refine Kd.C_drew ?_))); (case side2 => exact HC0.out); rintro e w14 ⟨rfl, hb⟩; refine ⟨_, rfl, ?_⟩; have n0_ := aM (below_step (zb) hb); clear HB; have HB := n0_; clear n0_; (try clear hb); (try clear hb2); (try clear hk); (try clear hi)) | ((with_reducible refine gate_callee (f := 73) rfl ?_); refine goesL_ (some 30) rfl rfl Try.func73 (by kernel_rfl) rfl #[.slice A0 l0.length c0, .int .i64 a2, .int .i64 a3, .int .i64 a4, .int .i64 0] rfl za ?_; (with_reducible refine (spec_l05Reach.calls k _ _ l0 a2 a3 a4 0 t347 _ ?side1 ?side2 A8.out).mono ?_); (case side1 => repeat (first | exact (Kd.C_below HR0.out HB.out) | (with_reducible refine Kd.C_alloc ?_ _) | (with_reducible refine Kd.C_drewN ?_ _) | (with_reducible refine Kd.C_drew ?_))); (case side2 => exact HC0.out); rintro e w15 ⟨v348, rfl, ho0, hb⟩; refine ⟨_, rfl, ?_⟩; have n0_ := aM (Kd.N_lower (Kd.N_mono (ok' := fun k_ => True) ho0 (fun k_ hk_ => trivial)) (below_size (zb))); have n1_ := aM (below_step (zb) hb); clear HB; have HO349 := n0_; have HB := n1_; clear n0_ n1_; (try clear hb); (try clear hb2); (try clear hk); (try clear hi); (try clear ho0); obtain ⟨Ao16, co16, eo16⟩ := Kd.N_slice HO349.out; subst eo16) | ((with_reducible refine gate_callee (f := 74) rfl ?_); refine goesL_ (some 33) rfl rfl Try.func74 (by kernel_rfl) rfl #[.slice Ao16 t347.length co16, .int .i64 a1] rfl za ?_; (with_reducible refine (spec_l05Short.calls k _ _ t347 a1 t350 _ ?side1 ?side2 A9.out).mono ?_); (case side1 => repeat (first | exact (Kd.N_reads' HO349.out).2.2 | (with_reducible refine Kd.C_alloc ?_ _) | (with_reducible refine Kd.C_drewN ?_ _) | (with_reducible refine Kd.C_drew ?_))); (case side2 => exact (Kd.N_reads' HO349.out).2.1); rintro e w' ⟨rfl, ⟨nd, rfl⟩⟩; refine ⟨_, rfl, ?_⟩) | ((with_reducible refine gate_dst (N := 36) rfl ?_); refine Kd.R_lit (Kd.int .i64) _ 3 ?hg (N := 36) ?hd (xs := ([] : List Int)) (inner := []) (ok := fun _ => True) (okp := fun _ => True) ?hr ?hp (fun _ hk => hk) trivial (Below.refl _ _) (Nat.le_refl _) (by simp) ?_; (case hd => rfl); (case hg => rfl); (case hr => exact zg); (case hp => exact (Reps.none _ _)); intro v352 w17 ho18 hb hg_ hnew_; clear hg_ hnew_; (first | rw [← Ny351.out] at ho18 | (simp only [Int.reduceToNat] at ho18; rw [← Ny351.out] at ho18)); have n0_ := aM (Kd.N_elder' (by (with_reducible repeat (first | apply Kd.N_alloc | apply Kd.N_drewN | apply Kd.N_drew)); exact HO349.out) (Kd.R_base ho18) hb); have n1_ := aM (Kd.R_lower ho18 (below_size (zb))); have n2_ := aM (below_step (zb) hb); clear HO349; clear HB; have HO349 := n0_; have HO353 := n1_; have HB := n2_; clear n0_ n1_ n2_; clear hb ho18))
   go_loopg [14, 15, 16] k (fun kq v14 v15 v16 w' => ∃ (x14_1 : List Int) (x15_1 : Int) (x16_1 : Int), v15 = .int .i64 x15_1 ∧ v16 = .int .i64 x16_1 ∧ Aside0 (spec_ChainOf.l0 kq l0 a3 a4 t347 x14_1 x15_1 x16_1 = some (r1, r2)) ∧ Aside0 (kq ≤ k) ∧ Aside0 (Kd.N (Kd.slice 4 Kd.bool) 71 w' w.heap.size (fun k_ => some k_ ≠ (v14 : Value).ownBlock) (.slice Ao16 t347.length co16) t347) ∧ Aside0 (Kd.R (Kd.int .i64) 3 w' w.heap.size (fun _ => True) v14 x14_1) ∧ Aside0 (Below w.heap.size w w'))
   case atStart => exact ⟨(y351), (a1), (t350), zs, zs, H', ⟨Nat.le_refl _⟩, ⟨by (with_reducible repeat (first | apply Kd.N_alloc | apply Kd.N_drewN | apply Kd.N_drew)); exact Kd.N_mono HO349.out (fun _ hk => hk.2)⟩, ⟨by (with_reducible repeat (first | apply Kd.R_alloc | apply Kd.R_drewN | apply Kd.R_drew)); exact HO353.out⟩, ⟨zb⟩⟩
   case round =>
    clear H'
    try clear c1
    try clear p2
    try clear c3
    try clear c7
    try clear c10
    try clear c10b0
    obtain ⟨x14_1, x15_1, x16_1, rfl, rfl, HA, HK1, HO_12, HO_14, HB⟩ := hrel
    cases gk with
    | zero => exact absurd HA.out (by simp [spec_ChainOf.l0])
    | succ k1 =>
     have H := HA.out
     clear HA
     simp only [spec_ChainOf.l0] at H
     by_cases c19 : x16_1 > 0
     ·rw [if_pos c19] at H
      have c19b0 : decide (0 < x16_1) = true := decide_eq_true c19
      clear c19
      have H' := aM H
      clear H
      go_wp2
      go_loopg [14, 15, 17] k1 (fun kq v14 v15 v17 w' => ∃ (x14_2 : List Int) (x15_2 : Int) (x17_2 : Int), v15 = .int .i64 x15_2 ∧ v17 = .int .i64 x17_2 ∧ Aside0 (spec_ChainOf.l1 kq l0 a3 a4 t347 x14_2 x15_2 x16_1 x17_2 = some (r1, r2)) ∧ Aside0 (kq ≤ k1) ∧ Aside0 (Kd.N (Kd.slice 4 Kd.bool) 71 w' w.heap.size (fun k_ => some k_ ≠ (v14 : Value).ownBlock) (.slice Ao16 t347.length co16) t347) ∧ Aside0 (Kd.R (Kd.int .i64) 3 w' w.heap.size (fun _ => True) v14 x14_2) ∧ Aside0 (Below w.heap.size w w'))
      case atStart => exact ⟨(x14_1), (x15_1), (0), zs, zs, H', ⟨Nat.le_refl _⟩, ⟨by (with_reducible repeat (first | apply Kd.N_alloc | apply Kd.N_drewN | apply Kd.N_drew)); exact HO_12.out⟩, ⟨by (with_reducible repeat (first | apply Kd.R_alloc | apply Kd.R_drewN | apply Kd.R_drew)); exact HO_14.out⟩, ⟨zb⟩⟩
      case round =>
       clear H'
       try clear c1
       try clear p2
       try clear c3
       try clear c7
       try clear c10
       try clear c10b0
       try clear c19
       try clear c19b0
       try clear p2
       obtain ⟨x14_2, x15_2, x17_2, rfl, rfl, HA, HK2, HO_12, HO_14, HB⟩ := hrel
       cases gk with
       | zero => exact absurd HA.out (by simp [spec_ChainOf.l1])
       | succ k2 =>
        have H := HA.out
        clear HA
        simp only [spec_ChainOf.l1] at H
        by_cases c20 : x17_2 < (l0.length : Int)
        ·rw [if_pos c20] at H
         have c20b0 : decide (x17_2 < (l0.length : Int)) = true := decide_eq_true c20
         clear c20
         by_cases c21 : 0 ≤ x17_2
         ·rw [if_pos c21] at H
          have c21b0 : decide (0 ≤ x17_2) = true := decide_eq_true c21
          clear c21
          by_cases c22 : ((rd_T25 l0 x17_2).f0) = x15_2
          ·rw [if_pos c22] at H
           have c22b0 : (((rd_T25 l0 x17_2).f0) == x15_2) = true := beq_iff_eq.mpr c22
           have c22b1 : (((rd_T25 l0 x17_2).f0) != x15_2) = false := bne_eq_false_iff_eq.mpr c22
           clear c22
           replace H := Option.bind_eq_some_iff.mp H
           obtain ⟨t356, A230, H⟩ := H
           replace H : (if t356 = true then (if ((rd_T25 l0 x17_2).f3) ≥ (wrap64 (x16_1 - 1)) then (if 0 ≤ (wrap64 (x16_1 - 1)) then (if (wrap64 (x16_1 - 1)) < (t347.length : Int) then (if 0 ≤ ((rd_T25 l0 x17_2).f1) then (if ((rd_T25 l0 x17_2).f1) < ((rd_L4 t347 (wrap64 (x16_1 - 1))).length : Int) then (if rdOf false (rd_L4 t347 (wrap64 (x16_1 - 1))) ((rd_T25 l0 x17_2).f1) = true then (if x14_2.length < 17592186044416 then (spec_ChainOf.l0 k2 l0 a3 a4 t347 (x14_2 ++ [x17_2]) ((rd_T25 l0 x17_2).f1) (wrap64 (x16_1 - 1))) else (none)) else (spec_ChainOf.l1 k2 l0 a3 a4 t347 x14_2 x15_2 x16_1 (wrap64 (x17_2 + 1)))) else (none)) else (none)) else (none)) else (none)) else (spec_ChainOf.l1 k2 l0 a3 a4 t347 x14_2 x15_2 x16_1 (wrap64 (x17_2 + 1)))) else (spec_ChainOf.l1 k2 l0 a3 a4 t347 x14_2 x15_2 x16_1 (wrap64 (x17_2 + 1)))) = some (r1, r2) := H
           have A23 := aM A230
           clear A230
           by_cases c24 : t356 = true
           ·subst c24
            have H1 : (if ((rd_T25 l0 x17_2).f3) ≥ (wrap64 (x16_1 - 1)) then (if 0 ≤ (wrap64 (x16_1 - 1)) then (if (wrap64 (x16_1 - 1)) < (t347.length : Int) then (if 0 ≤ ((rd_T25 l0 x17_2).f1) then (if ((rd_T25 l0 x17_2).f1) < ((rd_L4 t347 (wrap64 (x16_1 - 1))).length : Int) then (if rdOf false (rd_L4 t347 (wrap64 (x16_1 - 1))) ((rd_T25 l0 x17_2).f1) = true then (if x14_2.length < 17592186044416 then (spec_ChainOf.l0 k2 l0 a3 a4 t347 (x14_2 ++ [x17_2]) ((rd_T25 l0 x17_2).f1) (wrap64 (x16_1 - 1))) else (none)) else (spec_ChainOf.l1 k2 l0 a3 a4 t347 x14_2 x15_2 x16_1 (wrap64 (x17_2 + 1)))) else (none)) else (none)) else (none)) else (none)) else (spec_ChainOf.l1 k2 l0 a3 a4 t347 x14_2 x15_2 x16_1 (wrap64 (x17_2 + 1)))) = some (r1, r2) := by rw [if_pos rfl] at H; exact H
            clear H
            have H := H1
            clear H1
            by_cases c25 : ((rd_T25 l0 x17_2).f3) ≥ (wrap64 (x16_1 - 1))
            ·rw [if_pos c25] at H
             have c25b0 : decide ((wrap64 (x16_1 - 1)) ≤ ((rd_T25 l0 x17_2).f3)) = true := decide_eq_true c25
             clear c25
             obtain ⟨ji26, hji26⟩ : ∃ j_ : Int, (wrap64 (x16_1 - 1)) = j_ := ⟨_, rfl⟩
             replace H : (if 0 ≤ (ji26) then (if (ji26) < (t347.length : Int) then (if 0 ≤ ((rd_T25 l0 x17_2).f1) then (if ((rd_T25 l0 x17_2).f1) < ((rd_L4 t347 (ji26)).length : Int) then (if rdOf false (rd_L4 t347 (ji26)) ((rd_T25 l0 x17_2).f1) = true then (if x14_2.length < 17592186044416 then (spec_ChainOf.l0 k2 l0 a3 a4 t347 (x14_2 ++ [x17_2]) ((rd_T25 l0 x17_2).f1) ji26) else (none)) else (spec_ChainOf.l1 k2 l0 a3 a4 t347 x14_2 x15_2 x16_1 (wrap64 (x17_2 + 1)))) else (none)) else (none)) else (none)) else (none)) = some (r1, r2) := by first | (rw [hji26] at H; exact H) | (simp only [hji26] at H ⊢; exact H)
             (try rw [hji26] at c25b0)
             (try rw [hji26] at A23)
             have hji26w : (IntKind.i64.wrap (x16_1 - 1)) = ji26 := (i64_w _).trans hji26
             by_cases c27 : 0 ≤ (ji26)
             ·rw [if_pos c27] at H
              have c27b0 : decide (0 ≤ (ji26)) = true := decide_eq_true c27
              clear c27
              by_cases c28 : (ji26) < (t347.length : Int)
              ·rw [if_pos c28] at H
               have c28b0 : decide ((ji26) < (t347.length : Int)) = true := decide_eq_true c28
               clear c28
               by_cases c29 : 0 ≤ ((rd_T25 l0 x17_2).f1)
               ·rw [if_pos c29] at H
                have c29b0 : decide (0 ≤ ((rd_T25 l0 x17_2).f1)) = true := decide_eq_true c29
                clear c29
                by_cases c30 : ((rd_T25 l0 x17_2).f1) < ((rd_L4 t347 (ji26)).length : Int)
                ·rw [if_pos c30] at H
                 have c30b0 : decide (((rd_T25 l0 x17_2).f1) < ((rd_L4 t347 (ji26)).length : Int)) = true := decide_eq_true c30
                 clear c30
                 obtain ⟨bq31, hbq31⟩ : ∃ b_ : Bool, b_ = (rdOf false (rd_L4 t347 (ji26)) ((rd_T25 l0 x17_2).f1)) := ⟨_, rfl⟩
                 replace H : (if bq31 = true then (if x14_2.length < 17592186044416 then (spec_ChainOf.l0 k2 l0 a3 a4 t347 (x14_2 ++ [x17_2]) ((rd_T25 l0 x17_2).f1) ji26) else (none)) else (spec_ChainOf.l1 k2 l0 a3 a4 t347 x14_2 x15_2 x16_1 (wrap64 (x17_2 + 1)))) = some (r1, r2) := by rw [← hbq31] at H; exact H
                 have Nbq31 := aM hbq31
                 clear hbq31
                 by_cases c32 : bq31 = true
                 ·subst c32
                  have H1 : (if x14_2.length < 17592186044416 then (spec_ChainOf.l0 k2 l0 a3 a4 t347 (x14_2 ++ [x17_2]) ((rd_T25 l0 x17_2).f1) ji26) else (none)) = some (r1, r2) := by rw [if_pos rfl] at H; exact H
                  clear H
                  have H := H1
                  clear H1
                  by_cases c33 : x14_2.length < 17592186044416
                  ·rw [if_pos c33] at H
                   have LMc33 := aM c33
                   clear c33
                   obtain ⟨y359, hy359⟩ : ∃ y_ : List Int, y_ = (x14_2 ++ [x17_2]) := ⟨_, rfl⟩
                   replace H : (spec_ChainOf.l0 k2 l0 a3 a4 t347 y359 ((rd_T25 l0 x17_2).f1) ji26) = some (r1, r2) := by first | (rw [hy359]; with_reducible exact H) | (have H2_ := (Option.bind_some _ _).symm.trans H; rw [hy359]; with_reducible exact H2_) | (have H2_ := (Option.bind_some _ _).symm.trans H; with_reducible exact H2_) | with_reducible exact H | (rw [hy359]; exact H) | exact H
                   have Ny359 := aM hy359
                   clear hy359
                   have H' := aM H
                   clear H
                   have p354 : 0 ≤ (x17_2 : Int) := of_decide_eq_true (by first | (with_reducible assumption) | assumption)
                   have q354 : x17_2 < (l0.length : Int) := of_decide_eq_true (by first | (with_reducible assumption) | assumption)
                   obtain ⟨ad354, e354, hx354_0, hx354_1, hx354_2, hx354_3, hx354_4, hx354_5, hx354_6⟩ := at_T25 HR0.out x17_2 p354 q354
                   (try rw [← Nbq31.out] at hx354_6)
                   cases e354
                   replace hx354_0 := (HB.out.cell (World.block_lt_of_cell? w _ hx354_0)).trans hx354_0
                   replace hx354_1 := (HB.out.cell (World.block_lt_of_cell? w _ hx354_1)).trans hx354_1
                   replace hx354_2 := (HB.out.cell (World.block_lt_of_cell? w _ hx354_2)).trans hx354_2
                   replace hx354_3 := (HB.out.cell (World.block_lt_of_cell? w _ hx354_3)).trans hx354_3
                   replace hx354_4 := (HB.out.cell (World.block_lt_of_cell? w _ hx354_4)).trans hx354_4
                   replace hx354_5 := (HB.out.cell (World.block_lt_of_cell? w _ hx354_5)).trans hx354_5
                   replace hx354_6 := (HB.out.cell (World.block_lt_of_cell? w _ hx354_6)).trans hx354_6
                   replace p354 := eq_true p354
                   replace q354 := eq_true q354
                   try go_wp2_with (first | ((with_reducible refine gate_dst (N := 18) rfl ?_); refine box_event ?hg (N := 18) ?hd (cs := #[.int .i64 0, .int .i64 0, .int .i64 0, .int .i64 0, .int .i64 0, .int .i64 0, .bool false]) (t := 25) ?hr ?_; (case hd => rfl); (case hg => rfl); (case hr => exact zg); intro gb355 hg w34 hbox hb; have n0_ := aM (Kd.N_below (Kd.N_elderB (by (with_reducible repeat (first | apply Kd.N_alloc | apply Kd.N_drewN | apply Kd.N_drew)); exact HO_12.out) gb355 (Nat.le_of_eq hg.symm)) hb); have n1_ := aM (Kd.R_below (by (with_reducible repeat (first | apply Kd.R_alloc | apply Kd.R_drewN | apply Kd.R_drew)); exact HO_14.out) hb); have n2_ := aM (below_step (zb) hb); have n3_ := aM (hbox); have n4_ := aM ((by rw [hg]; exact (below_size (zb)) : w.heap.size ≤ gb355)); have n5_ := aM ((by rw [hg]; exact (below_size (zb)) : w.heap.size ≤ gb355)); clear HO_12; clear HO_14; clear HB; have HO_12 := n0_; have HO_14 := n1_; have HB := n2_; have BK355 := n3_; have GW355 := n4_; have GE355 := n5_; clear n0_ n1_ n2_ n3_ n4_ n5_; clear hb hbox hg; obtain ⟨hcz35_0, hcz35_1, hcz35_2, hcz35_3, hcz35_4, hcz35_5, hcz35_6, hfz35_0, hfz35_1, hfz35_2, hfz35_3, hfz35_4, hfz35_5, hfz35_6⟩ := cells7 BK355.out))
                   have n0_ : Aside0 (Kd.N (Kd.slice 4 Kd.bool) 71 (((((((w34.setCell ⟨gb355, 0, none⟩ (.int .i64 ((rd_T25 l0 x17_2).f0))).setCell ⟨gb355, 1, none⟩ (.int .i64 ((rd_T25 l0 x17_2).f1))).setCell ⟨gb355, 2, none⟩ (.int .i64 ((rd_T25 l0 x17_2).f2))).setCell ⟨gb355, 3, none⟩ (.int .i64 ((rd_T25 l0 x17_2).f3))).setCell ⟨gb355, 4, none⟩ (.int .i64 ((rd_T25 l0 x17_2).f4))).setCell ⟨gb355, 5, none⟩ (.int .i64 ((rd_T25 l0 x17_2).f5))).setCell ⟨gb355, 6, none⟩ (.bool ((rd_T25 l0 x17_2).f6))) w.heap.size (fun k_ => some k_ ≠ (u14 : Value).ownBlock ∧ k_ ≠ gb355) (.slice Ao16 t347.length co16) t347) := ⟨by (with_reducible repeat (first | apply Kd.N_alloc | apply Kd.N_drewN | apply Kd.N_drew)); exact Kd.N_mono (Kd.N_far (p := ⟨gb355, 6, none⟩) (Kd.N_far (p := ⟨gb355, 5, none⟩) (Kd.N_far (p := ⟨gb355, 4, none⟩) (Kd.N_far (p := ⟨gb355, 3, none⟩) (Kd.N_far (p := ⟨gb355, 2, none⟩) (Kd.N_far (p := ⟨gb355, 1, none⟩) (Kd.N_far (p := ⟨gb355, 0, none⟩) (Kd.N_mono HO_12.out (fun k_ hk => (⟨hk, hk.2⟩ : _ ∧ k_ ≠ gb355))) (fun _ hk => hk.2) (.int .i64 ((rd_T25 l0 x17_2).f0))) (fun _ hk => hk.2) (.int .i64 ((rd_T25 l0 x17_2).f1))) (fun _ hk => hk.2) (.int .i64 ((rd_T25 l0 x17_2).f2))) (fun _ hk => hk.2) (.int .i64 ((rd_T25 l0 x17_2).f3))) (fun _ hk => hk.2) (.int .i64 ((rd_T25 l0 x17_2).f4))) (fun _ hk => hk.2) (.int .i64 ((rd_T25 l0 x17_2).f5))) (fun _ hk => hk.2) (.bool ((rd_T25 l0 x17_2).f6))) (fun _ hk => ⟨hk.1.1, hk.1.2⟩)⟩
                   have n1_ : Aside0 (Kd.R (Kd.int .i64) 3 (((((((w34.setCell ⟨gb355, 0, none⟩ (.int .i64 ((rd_T25 l0 x17_2).f0))).setCell ⟨gb355, 1, none⟩ (.int .i64 ((rd_T25 l0 x17_2).f1))).setCell ⟨gb355, 2, none⟩ (.int .i64 ((rd_T25 l0 x17_2).f2))).setCell ⟨gb355, 3, none⟩ (.int .i64 ((rd_T25 l0 x17_2).f3))).setCell ⟨gb355, 4, none⟩ (.int .i64 ((rd_T25 l0 x17_2).f4))).setCell ⟨gb355, 5, none⟩ (.int .i64 ((rd_T25 l0 x17_2).f5))).setCell ⟨gb355, 6, none⟩ (.bool ((rd_T25 l0 x17_2).f6))) w.heap.size (fun _ => True) u14 x14_2) := ⟨by (with_reducible repeat (first | apply Kd.R_alloc | apply Kd.R_drewN | apply Kd.R_drew)); exact Kd.R_mono (Kd.R_far (p := ⟨gb355, 6, none⟩) (Kd.R_far (p := ⟨gb355, 5, none⟩) (Kd.R_far (p := ⟨gb355, 4, none⟩) (Kd.R_far (p := ⟨gb355, 3, none⟩) (Kd.R_far (p := ⟨gb355, 2, none⟩) (Kd.R_far (p := ⟨gb355, 1, none⟩) (Kd.R_far (p := ⟨gb355, 0, none⟩) (Kd.R_types HO_14.out BK355.out (by decide)) (fun _ hk => hk.2) (.int .i64 ((rd_T25 l0 x17_2).f0))) (fun _ hk => hk.2) (.int .i64 ((rd_T25 l0 x17_2).f1))) (fun _ hk => hk.2) (.int .i64 ((rd_T25 l0 x17_2).f2))) (fun _ hk => hk.2) (.int .i64 ((rd_T25 l0 x17_2).f3))) (fun _ hk => hk.2) (.int .i64 ((rd_T25 l0 x17_2).f4))) (fun _ hk => hk.2) (.int .i64 ((rd_T25 l0 x17_2).f5))) (fun _ hk => hk.2) (.bool ((rd_T25 l0 x17_2).f6))) (fun _ hk => trivial)⟩
                   have n2_ : Aside0 ((((((((w34.setCell ⟨gb355, 0, none⟩ (.int .i64 ((rd_T25 l0 x17_2).f0))).setCell ⟨gb355, 1, none⟩ (.int .i64 ((rd_T25 l0 x17_2).f1))).setCell ⟨gb355, 2, none⟩ (.int .i64 ((rd_T25 l0 x17_2).f2))).setCell ⟨gb355, 3, none⟩ (.int .i64 ((rd_T25 l0 x17_2).f3))).setCell ⟨gb355, 4, none⟩ (.int .i64 ((rd_T25 l0 x17_2).f4))).setCell ⟨gb355, 5, none⟩ (.int .i64 ((rd_T25 l0 x17_2).f5))).setCell ⟨gb355, 6, none⟩ (.bool ((rd_T25 l0 x17_2).f6))).heap[gb355]? = some (.cells #[.int .i64 ((rd_T25 l0 x17_2).f0), .int .i64 ((rd_T25 l0 x17_2).f1), .int .i64 ((rd_T25 l0 x17_2).f2), .int .i64 ((rd_T25 l0 x17_2).f3), .int .i64 ((rd_T25 l0 x17_2).f4), .int .i64 ((rd_T25 l0 x17_2).f5), .bool ((rd_T25 l0 x17_2).f6)] 25 (0, 0))) := ⟨by refine pq ?_; refine blk_put (cs := #[.int .i64 ((rd_T25 l0 x17_2).f0), .int .i64 ((rd_T25 l0 x17_2).f1), .int .i64 ((rd_T25 l0 x17_2).f2), .int .i64 ((rd_T25 l0 x17_2).f3), .int .i64 ((rd_T25 l0 x17_2).f4), .int .i64 ((rd_T25 l0 x17_2).f5), .bool false]) ?_ 6 _ rfl; refine pq ?_; refine blk_put (cs := #[.int .i64 ((rd_T25 l0 x17_2).f0), .int .i64 ((rd_T25 l0 x17_2).f1), .int .i64 ((rd_T25 l0 x17_2).f2), .int .i64 ((rd_T25 l0 x17_2).f3), .int .i64 ((rd_T25 l0 x17_2).f4), .int .i64 0, .bool false]) ?_ 5 _ rfl; refine pq ?_; refine blk_put (cs := #[.int .i64 ((rd_T25 l0 x17_2).f0), .int .i64 ((rd_T25 l0 x17_2).f1), .int .i64 ((rd_T25 l0 x17_2).f2), .int .i64 ((rd_T25 l0 x17_2).f3), .int .i64 0, .int .i64 0, .bool false]) ?_ 4 _ rfl; refine pq ?_; refine blk_put (cs := #[.int .i64 ((rd_T25 l0 x17_2).f0), .int .i64 ((rd_T25 l0 x17_2).f1), .int .i64 ((rd_T25 l0 x17_2).f2), .int .i64 0, .int .i64 0, .int .i64 0, .bool false]) ?_ 3 _ rfl; refine pq ?_; refine blk_put (cs := #[.int .i64 ((rd_T25 l0 x17_2).f0), .int .i64 ((rd_T25 l0 x17_2).f1), .int .i64 0, .int .i64 0, .int .i64 0, .int .i64 0, .bool false]) ?_ 2 _ rfl; refine pq ?_; refine blk_put (cs := #[.int .i64 ((rd_T25 l0 x17_2).f0), .int .i64 0, .int .i64 0, .int .i64 0, .int .i64 0, .int .i64 0, .bool false]) ?_ 1 _ rfl; refine pq ?_; refine blk_put (cs := #[.int .i64 0, .int .i64 0, .int .i64 0, .int .i64 0, .int .i64 0, .int .i64 0, .bool false]) ?_ 0 _ rfl; refine pq ?_; exact BK355.out⟩
                   have n3_ : Aside0 (Below w.heap.size w (((((((w34.setCell ⟨gb355, 0, none⟩ (.int .i64 ((rd_T25 l0 x17_2).f0))).setCell ⟨gb355, 1, none⟩ (.int .i64 ((rd_T25 l0 x17_2).f1))).setCell ⟨gb355, 2, none⟩ (.int .i64 ((rd_T25 l0 x17_2).f2))).setCell ⟨gb355, 3, none⟩ (.int .i64 ((rd_T25 l0 x17_2).f3))).setCell ⟨gb355, 4, none⟩ (.int .i64 ((rd_T25 l0 x17_2).f4))).setCell ⟨gb355, 5, none⟩ (.int .i64 ((rd_T25 l0 x17_2).f5))).setCell ⟨gb355, 6, none⟩ (.bool ((rd_T25 l0 x17_2).f6)))) := ⟨zb⟩
                   (try clear HO_12)
                   (try clear HO_14)
                   (try clear BK355)
                   (try clear HB)
                   generalize (((((((w34.setCell ⟨gb355, 0, none⟩ (.int .i64 ((rd_T25 l0 x17_2).f0))).setCell ⟨gb355, 1, none⟩ (.int .i64 ((rd_T25 l0 x17_2).f1))).setCell ⟨gb355, 2, none⟩ (.int .i64 ((rd_T25 l0 x17_2).f2))).setCell ⟨gb355, 3, none⟩ (.int .i64 ((rd_T25 l0 x17_2).f3))).setCell ⟨gb355, 4, none⟩ (.int .i64 ((rd_T25 l0 x17_2).f4))).setCell ⟨gb355, 5, none⟩ (.int .i64 ((rd_T25 l0 x17_2).f5))).setCell ⟨gb355, 6, none⟩ (.bool ((rd_T25 l0 x17_2).f6))) = w36 at n0_ n1_ n2_ n3_ ⊢
                   have HO_12 := n0_
                   have HO_14 := n1_
                   have BK355 := n2_
                   have HB := n3_
                   clear n0_ n1_ n2_ n3_
                   have n0_ := aM (Kd.N_drew HO_12.out)
                   have n1_ := aM (Kd.R_drew HO_14.out)
                   have n2_ := aM (blk_drew BK355.out)
                   have n3_ := aM (below_drew1 HB.out)
                   clear HO_12
                   clear HO_14
                   clear BK355
                   clear HB
                   have HO_12 := n0_
                   have HO_14 := n1_
                   have BK355 := n2_
                   have HB := n3_
                   clear n0_ n1_ n2_ n3_
                   have p357 : 0 ≤ ((ji26) : Int) := of_decide_eq_true (by first | (with_reducible assumption) | assumption)
                   have q357 : (ji26) < (t347.length : Int) := of_decide_eq_true (by first | (with_reducible assumption) | assumption)
                   obtain ⟨ad357, A357_0, c357_0, e357, hx357_0, hl357_0, hi357_0⟩ := at_L4 (Kd.N_reads' HO_12.out).2.2 (ji26) p357 q357
                   cases e357
                   obtain ⟨ce357, hce357, hMe357, hcc357⟩ := Kd.N_get HO_12.out [] (ji26) p357 (by first | exact q357 | exact of_decide_eq_true (by first | (with_reducible assumption) | assumption) | (have e_ := (Kd.N_reads' HO_12.out).1; omega))
                   obtain ⟨ua357_0, uc357_0, rfl, ul357_0, ge357_0⟩ := Kd.FK_slice_open hMe357
                   have hv357_0 := hcc357 0 _ rfl
                   rw [Nat.add_zero, show ((Kd.slice 4 Kd.bool)).sz = 1 from rfl, Nat.mul_one] at hv357_0
                   replace hv357_0 := Option.some.inj (hv357_0.symm.trans hx357_0)
                   injection hv357_0 with hva_ hvn_ hvc_
                   rw [hva_] at ge357_0
                   rw [hvc_] at ul357_0
                   have HL357_0 := aM (show Kd.V Kd.bool 4 _ w.heap.size _ _ (rd_L4 t347 (ji26)) from Kd.V_mk ul357_0 ge357_0)
                   clear hva_ hvn_ hvc_ ge357_0 ul357_0
                   clear hcc357 hce357
                   have HR357_0 := aM hi357_0
                   have HC357_0 := aM hl357_0
                   clear hi357_0 hl357_0
                   replace p357 := eq_true p357
                   replace q357 := eq_true q357
                   have p358 : 0 ≤ (((rd_T25 l0 x17_2).f1) : Int) := of_decide_eq_true (by first | (with_reducible assumption) | assumption)
                   have q358 : ((rd_T25 l0 x17_2).f1) < ((rd_L4 t347 (ji26)).length : Int) := of_decide_eq_true (by first | (with_reducible assumption) | assumption)
                   obtain ⟨ad358, e358, hx358_0⟩ := Kd.at_bool (by repeat (first | (with_reducible exact HR357_0.out) | (with_reducible refine Kd.C_alloc ?_ _) | (with_reducible refine Kd.C_drewN ?_ _) | (with_reducible refine Kd.C_drew ?_) | exact HR357_0.out)) ((rd_T25 l0 x17_2).f1) p358 q358
                   (try rw [← Nbq31.out] at hx358_0)
                   cases e358
                   replace p358 := eq_true p358
                   replace q358 := eq_true q358
                   refine start_ (n := 28) (S := fun w' => w'.cell? ⟨gb355, 0, none⟩ = some (.int .i64 ((rd_T25 l0 x17_2).f0)) ∧ w'.cell? ⟨gb355, 1, none⟩ = some (.int .i64 ((rd_T25 l0 x17_2).f1)) ∧ w'.cell? ⟨gb355, 2, none⟩ = some (.int .i64 ((rd_T25 l0 x17_2).f2)) ∧ w'.cell? ⟨gb355, 3, none⟩ = some (.int .i64 ((rd_T25 l0 x17_2).f3)) ∧ w'.cell? ⟨gb355, 4, none⟩ = some (.int .i64 ((rd_T25 l0 x17_2).f4)) ∧ w'.cell? ⟨gb355, 5, none⟩ = some (.int .i64 ((rd_T25 l0 x17_2).f5)) ∧ w'.cell? ⟨gb355, 6, none⟩ = some (.bool ((rd_T25 l0 x17_2).f6)) ∧ w'.cell? (ad357.add ((ji26)).toNat) = some (.slice (some ad358) (rd_L4 t347 (ji26)).length c357_0) ∧ w'.cell? (ad358.add (((rd_T25 l0 x17_2).f1)).toNat) = some (.bool true)) (ds := []) #[false, false, false, false, false, false, false, false, false, false, false, false, false, false, false, false, false, false, false, false, false, false, false, false, false, false, false, false] (by kernel_rfl) rfl rfl ⟨(blk_cell BK355.out 0).trans rfl, (blk_cell BK355.out 1).trans rfl, (blk_cell BK355.out 2).trans rfl, (blk_cell BK355.out 3).trans rfl, (blk_cell BK355.out 4).trans rfl, (blk_cell BK355.out 5).trans rfl, (blk_cell BK355.out 6).trans rfl, hx357_0, hx358_0⟩ (fun hHeld => ?_); refine with_tabW spec_ChainOf.tab16 spec_ChainOf.bits16 (fun HT_ HW_ => ?_)
                   generalize w36.drew = w37 at HO_12 HO_14 BK355 HB HL357_0 HR357_0 hx357_0 hx358_0 hHeld ⊢
                   refine pure_ (i := 0) (N := some 53) (v := ?_) (a' := ?_) #[true, false, false, false, false, false, false, false, false, false, false, false, false, false, false, false, false, false, false, false, false, false, false, false, false, false, false, false] rfl rfl (any_of HT_.out (by kernel_rfl)) (fun _ _ _ h => h) (Or.inl ⟨by rfl, ?_⟩) ?_ ?_
                   rotate_left
                   ·intro w'
                    go_simp
                    with_reducible rfl
                   rotate_left
                   ·simp only [Act.put, List.setIfInBounds_toArray, List.set_cons_zero, List.set_cons_succ, i64_w, i32_w]
                    rfl
                   refine pure_ (i := 2) (N := some 55) (v := ?_) (a' := ?_) #[true, false, true, false, false, false, false, false, false, false, false, false, false, false, false, false, false, false, false, false, false, false, false, false, false, false, false, false] rfl rfl (any_of HT_.out (by kernel_rfl)) (fun _ _ _ h => h) (Or.inl ⟨by rfl, ?_⟩) ?_ ?_
                   rotate_left
                   ·intro w'
                    go_simp
                    with_reducible rfl
                   rotate_left
                   ·simp only [Act.put, List.setIfInBounds_toArray, List.set_cons_zero, List.set_cons_succ, i64_w, i32_w]
                    rfl
                   refine take_ (i := 1) (N := some 54) (v := ?_) (a' := ?_) #[true, true, true, false, false, false, false, false, false, false, false, false, false, false, false, false, false, false, false, false, false, false, false, false, false, false, false, false] rfl rfl (take_ofW HT_.out HW_.out (by kernel_rfl)) (fun _ _ _ h => h) (Or.inl ⟨by rfl, ?_⟩) hHeld ?_ ?_
                   rotate_left
                   ·rintro w' ⟨s0, s1, s2, s3, s4, s5, s6, s7, s8⟩
                    go_simp
                    with_reducible rfl
                   rotate_left
                   ·simp only [Act.put, List.setIfInBounds_toArray, List.set_cons_zero, List.set_cons_succ, i64_w, i32_w]
                    rfl
                   refine pure_ (i := 3) (N := some 56) (v := ?_) (a' := ?_) #[true, true, true, true, false, false, false, false, false, false, false, false, false, false, false, false, false, false, false, false, false, false, false, false, false, false, false, false] rfl rfl (any_of HT_.out (by kernel_rfl)) (fun _ _ _ h => h) (Or.inl ⟨by rfl, ?_⟩) ?_ ?_
                   rotate_left
                   ·intro w'
                    go_simp
                    with_reducible rfl
                   rotate_left
                   ·simp only [Act.put, List.setIfInBounds_toArray, List.set_cons_zero, List.set_cons_succ, i64_w, i32_w]
                    rfl
                   refine pure_ (i := 4) (N := some 57) (v := ?_) (a' := ?_) #[true, true, true, true, true, false, false, false, false, false, false, false, false, false, false, false, false, false, false, false, false, false, false, false, false, false, false, false] rfl rfl (any_of HT_.out (by kernel_rfl)) (fun _ _ _ h => h) (Or.inl ⟨by rfl, ?_⟩) ?_ ?_
                   rotate_left
                   ·intro w'
                    go_simp
                    with_reducible rfl
                   rotate_left
                   ·simp only [Act.put, List.setIfInBounds_toArray, List.set_cons_zero, List.set_cons_succ, i64_w, i32_w]
                    rfl
                   refine pure_ (i := 6) (N := some 59) (v := ?_) (a' := ?_) #[true, true, true, true, true, false, true, false, false, false, false, false, false, false, false, false, false, false, false, false, false, false, false, false, false, false, false, false] rfl rfl (any_of HT_.out (by kernel_rfl)) (fun _ _ _ h => h) (Or.inl ⟨by rfl, ?_⟩) ?_ ?_
                   rotate_left
                   ·intro w'
                    go_simp
                    with_reducible rfl
                   rotate_left
                   ·simp only [Act.put, List.setIfInBounds_toArray, List.set_cons_zero, List.set_cons_succ, i64_w, i32_w]
                    rfl
                   refine pure_ (i := 7) (N := some 60) (v := ?_) (a' := ?_) #[true, true, true, true, true, false, true, true, false, false, false, false, false, false, false, false, false, false, false, false, false, false, false, false, false, false, false, false] rfl rfl (any_of HT_.out (by kernel_rfl)) (fun _ _ _ h => h) (Or.inl ⟨by rfl, ?_⟩) ?_ ?_
                   rotate_left
                   ·intro w'
                    go_simp
                    with_reducible rfl
                   rotate_left
                   ·simp only [Act.put, List.setIfInBounds_toArray, List.set_cons_zero, List.set_cons_succ, i64_w, i32_w]
                    rfl
                   refine take_ (i := 5) (N := some 58) (v := ?_) (a' := ?_) #[true, true, true, true, true, true, true, true, false, false, false, false, false, false, false, false, false, false, false, false, false, false, false, false, false, false, false, false] rfl rfl (take_ofW HT_.out HW_.out (by kernel_rfl)) (fun _ _ _ h => h) (Or.inl ⟨by rfl, ?_⟩) hHeld ?_ ?_
                   rotate_left
                   ·rintro w' ⟨s0, s1, s2, s3, s4, s5, s6, s7, s8⟩
                    go_simp
                    with_reducible rfl
                   rotate_left
                   ·simp only [Act.put, List.setIfInBounds_toArray, List.set_cons_zero, List.set_cons_succ, i64_w, i32_w]
                    rfl
                   refine one_ (i := 8) (N := some 61) #[true, true, true, true, true, true, true, true, true, false, false, false, false, false, false, false, false, false, false, false, false, false, false, false, false, false, false, false] rfl rfl (one_of HT_.out (by kernel_rfl)) (by decide) (fun K hK => ?_)
                   refine goes_ Try.func21 (by kernel_rfl) rfl #[.agg #[.int .i64 ((rd_T25 l0 x17_2).f0), .int .i64 ((rd_T25 l0 x17_2).f1), .int .i64 ((rd_T25 l0 x17_2).f2), .int .i64 ((rd_T25 l0 x17_2).f3), .int .i64 ((rd_T25 l0 x17_2).f4), .int .i64 ((rd_T25 l0 x17_2).f5), .bool ((rd_T25 l0 x17_2).f6)], .int .i64 a3, .int .i64 a4] (by rfl) rfl rfl za ?_
                   with_reducible refine (spec_Applies.calls ((rd_T25 l0 x17_2).f0) ((rd_T25 l0 x17_2).f1) ((rd_T25 l0 x17_2).f2) ((rd_T25 l0 x17_2).f3) ((rd_T25 l0 x17_2).f4) ((rd_T25 l0 x17_2).f5) ((rd_T25 l0 x17_2).f6) a3 a4 true _ A23.out).mono ?_
                   rintro e w38 ⟨rfl, hb⟩
                   have HS7_ := (hb.cell (World.block_lt_of_cell? _ _ (hHeld.2.2.2.2.2.2.2.1))).trans (hHeld.2.2.2.2.2.2.2.1)
                   have HS8_ := (hb.cell (World.block_lt_of_cell? _ _ (hHeld.2.2.2.2.2.2.2.2))).trans (hHeld.2.2.2.2.2.2.2.2)
                   refine ⟨_, rfl, ?_⟩
                   try have HLz_ := aM (Kd.V_below HL357_0.out hb)
                   try clear HL357_0
                   try have HL357_0 := HLz_
                   try clear HLz_
                   have n0_ := aM (Kd.N_below (by (with_reducible repeat (first | apply Kd.N_alloc | apply Kd.N_drewN | apply Kd.N_drew)); exact HO_12.out) hb)
                   have n1_ := aM (Kd.R_below (by (with_reducible repeat (first | apply Kd.R_alloc | apply Kd.R_drewN | apply Kd.R_drew)); exact HO_14.out) hb)
                   have n2_ := aM (bb BK355.out hb)
                   have n3_ := aM (below_step (zb) hb)
                   clear HO_12
                   clear HO_14
                   clear BK355
                   clear HB
                   have HO_12 := n0_
                   have HO_14 := n1_
                   have BK355 := n2_
                   have HB := n3_
                   clear n0_ n1_ n2_ n3_
                   (try clear hb)
                   (try clear hb2)
                   (try clear hk)
                   (try clear hi)
                   refine hK.out _ _ ⟨(blk_cell BK355.out 0).trans rfl, (blk_cell BK355.out 1).trans rfl, (blk_cell BK355.out 2).trans rfl, (blk_cell BK355.out 3).trans rfl, (blk_cell BK355.out 4).trans rfl, (blk_cell BK355.out 5).trans rfl, (blk_cell BK355.out 6).trans rfl, HS7_, HS8_⟩ (fun hHeld => ?_)
                   clear hK K
                   refine norm_ (a' := ?_) ?_ ?_
                   rotate_left
                   ·show Act.put _ (some 61) _ = _
                    simp only [Act.put, List.setIfInBounds_toArray, List.set_cons_zero, List.set_cons_succ, i64_w, i32_w]
                    rfl
                   refine pure_ (i := 9) (N := some 62) (v := ?_) (a' := ?_) #[true, true, true, true, true, true, true, true, true, true, false, false, false, false, false, false, false, false, false, false, false, false, false, false, false, false, false, false] rfl rfl (any_of HT_.out (by kernel_rfl)) (fun _ _ _ h => h) (Or.inl ⟨by rfl, ?_⟩) ?_ ?_
                   rotate_left
                   ·intro w'
                    go_simp
                    with_reducible rfl
                   rotate_left
                   ·simp only [Act.put, List.setIfInBounds_toArray, List.set_cons_zero, List.set_cons_succ, i64_w, i32_w]
                    rfl
                   refine pure_ (i := 10) (N := some 63) (v := ?_) (a' := ?_) #[true, true, true, true, true, true, true, true, true, true, true, false, false, false, false, false, false, false, false, false, false, false, false, false, false, false, false, false] rfl rfl (any_of HT_.out (by kernel_rfl)) (fun _ _ _ h => h) (Or.inl ⟨by rfl, ?_⟩) ?_ ?_
                   rotate_left
                   ·intro w'
                    go_simp
                    with_reducible rfl
                   rotate_left
                   ·simp only [Act.put, List.setIfInBounds_toArray, List.set_cons_zero, List.set_cons_succ, i64_w, i32_w]
                    rfl
                   refine pure_ (i := 11) (N := some 64) (v := ?_) (a' := ?_) #[true, true, true, true, true, true, true, true, true, true, true, true, false, false, false, false, false, false, false, false, false, false, false, false, false, false, false, false] rfl rfl (any_of HT_.out (by kernel_rfl)) (fun _ _ _ h => h) (Or.inl ⟨by rfl, ?_⟩) ?_ ?_
                   rotate_left
                   ·intro w'
                    go_simp
                    with_reducible rfl
                   rotate_left
                   ·simp only [Act.put, List.setIfInBounds_toArray, List.set_cons_zero, List.set_cons_succ, i64_w, i32_w]
                    rfl
                   refine pure_ (i := 13) (N := some 66) (v := ?_) (a' := ?_) #[true, true, true, true, true, true, true, true, true, true, true, true, false, true, false, false, false, false, false, false, false, false, false, false, false, false, false, false] rfl rfl (any_of HT_.out (by kernel_rfl)) (fun _ _ _ h => h) (Or.inl ⟨by rfl, ?_⟩) ?_ ?_
                   rotate_left
                   ·intro w'
                    go_simp
                    with_reducible rfl
                   rotate_left
                   ·simp only [Act.put, List.setIfInBounds_toArray, List.set_cons_zero, List.set_cons_succ, i64_w, i32_w]
                    rfl
                   refine pure_ (i := 14) (N := some 67) (v := ?_) (a' := ?_) #[true, true, true, true, true, true, true, true, true, true, true, true, false, true, true, false, false, false, false, false, false, false, false, false, false, false, false, false] rfl rfl (any_of HT_.out (by kernel_rfl)) (fun _ _ _ h => h) (Or.inl ⟨by rfl, ?_⟩) ?_ ?_
                   rotate_left
                   ·intro w'
                    go_simp
                    with_reducible rfl
                   rotate_left
                   ·simp only [Act.put, List.setIfInBounds_toArray, List.set_cons_zero, List.set_cons_succ, i64_w, i32_w]
                    rfl
                   refine take_ (i := 12) (N := some 65) (v := ?_) (a' := ?_) #[true, true, true, true, true, true, true, true, true, true, true, true, true, true, true, false, false, false, false, false, false, false, false, false, false, false, false, false] rfl rfl (take_ofW HT_.out HW_.out (by kernel_rfl)) (fun _ _ _ h => h) (Or.inl ⟨by rfl, ?_⟩) hHeld ?_ ?_
                   rotate_left
                   ·rintro w' ⟨s0, s1, s2, s3, s4, s5, s6, s7, s8⟩
                    go_simp
                    with_reducible rfl
                   rotate_left
                   ·simp only [Act.put, List.setIfInBounds_toArray, List.set_cons_zero, List.set_cons_succ, i64_w, i32_w]
                    rfl
                   refine pure_ (i := 15) (N := some 68) (v := ?_) (a' := ?_) #[true, true, true, true, true, true, true, true, true, true, true, true, true, true, true, true, false, false, false, false, false, false, false, false, false, false, false, false] rfl rfl (any_of HT_.out (by kernel_rfl)) (fun _ _ _ h => h) (Or.inl ⟨by rfl, ?_⟩) ?_ ?_
                   rotate_left
                   ·intro w'
                    go_simp
                    with_reducible rfl
                   rotate_left
                   ·simp only [Act.put, List.setIfInBounds_toArray, List.set_cons_zero, List.set_cons_succ, i64_w, i32_w]
                    rfl
                   refine pure_ (i := 16) (N := some 69) (v := ?_) (a' := ?_) #[true, true, true, true, true, true, true, true, true, true, true, true, true, true, true, true, true, false, false, false, false, false, false, false, false, false, false, false] rfl rfl (any_of HT_.out (by kernel_rfl)) (fun _ _ _ h => h) (Or.inl ⟨by rfl, ?_⟩) ?_ ?_
                   rotate_left
                   ·intro w'
                    go_simp
                    with_reducible rfl
                   rotate_left
                   ·simp only [Act.put, List.setIfInBounds_toArray, List.set_cons_zero, List.set_cons_succ, i64_w, i32_w]
                    rfl
                   refine pure_ (i := 17) (N := some 70) (v := ?_) (a' := ?_) #[true, true, true, true, true, true, true, true, true, true, true, true, true, true, true, true, true, true, false, false, false, false, false, false, false, false, false, false] rfl rfl (any_of HT_.out (by kernel_rfl)) (fun _ _ _ h => h) (Or.inl ⟨by rfl, ?_⟩) ?_ ?_
                   rotate_left
                   ·intro w'
                    go_simp
                    with_reducible rfl
                   rotate_left
                   ·simp only [Act.put, List.setIfInBounds_toArray, List.set_cons_zero, List.set_cons_succ, i64_w, i32_w]
                    rfl
                   refine pure_ (i := 18) (N := some 71) (v := ?_) (a' := ?_) #[true, true, true, true, true, true, true, true, true, true, true, true, true, true, true, true, true, true, true, false, false, false, false, false, false, false, false, false] rfl rfl (any_of HT_.out (by kernel_rfl)) (fun _ _ _ h => h) (Or.inl ⟨by rfl, ?_⟩) ?_ ?_
                   rotate_left
                   ·intro w'
                    go_simp
                    with_reducible rfl
                   rotate_left
                   ·simp only [Act.put, List.setIfInBounds_toArray, List.set_cons_zero, List.set_cons_succ, i64_w, i32_w]
                    rfl
                   refine pure_ (i := 19) (N := some 72) (v := ?_) (a' := ?_) #[true, true, true, true, true, true, true, true, true, true, true, true, true, true, true, true, true, true, true, true, false, false, false, false, false, false, false, false] rfl rfl (any_of HT_.out (by kernel_rfl)) (fun _ _ _ h => h) (Or.inl ⟨by rfl, ?_⟩) ?_ ?_
                   rotate_left
                   ·intro w'
                    go_simp
                    with_reducible rfl
                   rotate_left
                   ·simp only [Act.put, List.setIfInBounds_toArray, List.set_cons_zero, List.set_cons_succ, i64_w, i32_w]
                    rfl
                   refine pure_ (i := 20) (N := some 73) (v := ?_) (a' := ?_) #[true, true, true, true, true, true, true, true, true, true, true, true, true, true, true, true, true, true, true, true, true, false, false, false, false, false, false, false] rfl rfl (any_of HT_.out (by kernel_rfl)) (fun _ _ _ h => h) (Or.inl ⟨by rfl, ?_⟩) ?_ ?_
                   rotate_left
                   ·intro w'
                    go_simp
                    with_reducible rfl
                   rotate_left
                   ·simp only [Act.put, List.setIfInBounds_toArray, List.set_cons_zero, List.set_cons_succ, i64_w, i32_w]
                    rfl
                   refine pure_ (i := 21) (N := some 74) (v := ?_) (a' := ?_) #[true, true, true, true, true, true, true, true, true, true, true, true, true, true, true, true, true, true, true, true, true, true, false, false, false, false, false, false] rfl rfl (any_of HT_.out (by kernel_rfl)) (fun _ _ _ h => h) (Or.inl ⟨by rfl, ?_⟩) ?_ ?_
                   rotate_left
                   ·intro w'
                    go_simp
                    with_reducible rfl
                   rotate_left
                   ·simp only [Act.put, List.setIfInBounds_toArray, List.set_cons_zero, List.set_cons_succ, i64_w, i32_w]
                    rfl
                   refine pure_ (i := 23) (N := some 76) (v := ?_) (a' := ?_) #[true, true, true, true, true, true, true, true, true, true, true, true, true, true, true, true, true, true, true, true, true, true, false, true, false, false, false, false] rfl rfl (any_of HT_.out (by kernel_rfl)) (fun _ _ _ h => h) (Or.inl ⟨by rfl, ?_⟩) ?_ ?_
                   rotate_left
                   ·intro w'
                    go_simp
                    with_reducible rfl
                   rotate_left
                   ·simp only [Act.put, List.setIfInBounds_toArray, List.set_cons_zero, List.set_cons_succ, i64_w, i32_w]
                    rfl
                   refine take_ (i := 22) (N := some 75) (v := ?_) (a' := ?_) #[true, true, true, true, true, true, true, true, true, true, true, true, true, true, true, true, true, true, true, true, true, true, true, true, false, false, false, false] rfl rfl (take_ofW HT_.out HW_.out (by kernel_rfl)) (fun _ _ _ h => h) (Or.inl ⟨by rfl, ?_⟩) hHeld ?_ ?_
                   rotate_left
                   ·rintro w' ⟨s0, s1, s2, s3, s4, s5, s6, s7, s8⟩
                    go_simp
                    with_reducible rfl
                   rotate_left
                   ·simp only [Act.put, List.setIfInBounds_toArray, List.set_cons_zero, List.set_cons_succ, i64_w, i32_w]
                    rfl
                   refine take_ (i := 24) (N := some 77) (v := ?_) (a' := ?_) #[true, true, true, true, true, true, true, true, true, true, true, true, true, true, true, true, true, true, true, true, true, true, true, true, true, false, false, false] rfl rfl (take_ofW HT_.out HW_.out (by kernel_rfl)) (fun _ _ _ h => h) (Or.inl ⟨by rfl, ?_⟩) hHeld ?_ ?_
                   rotate_left
                   ·rintro w' ⟨s0, s1, s2, s3, s4, s5, s6, s7, s8⟩
                    go_simp
                    with_reducible rfl
                   rotate_left
                   ·simp only [Act.put, List.setIfInBounds_toArray, List.set_cons_zero, List.set_cons_succ, i64_w, i32_w]
                    rfl
                   refine pure_ (i := 25) (N := some 78) (v := ?_) (a' := ?_) #[true, true, true, true, true, true, true, true, true, true, true, true, true, true, true, true, true, true, true, true, true, true, true, true, true, true, false, false] rfl rfl (any_of HT_.out (by kernel_rfl)) (fun _ _ _ h => h) (Or.inl ⟨by rfl, ?_⟩) ?_ ?_
                   rotate_left
                   ·intro w'
                    go_simp
                    with_reducible rfl
                   rotate_left
                   ·simp only [Act.put, List.setIfInBounds_toArray, List.set_cons_zero, List.set_cons_succ, i64_w, i32_w]
                    rfl
                   refine take_ (i := 26) (N := some 79) (v := ?_) (a' := ?_) #[true, true, true, true, true, true, true, true, true, true, true, true, true, true, true, true, true, true, true, true, true, true, true, true, true, true, true, false] rfl rfl (take_ofW HT_.out HW_.out (by kernel_rfl)) (fun _ _ _ h => h) (Or.inl ⟨by rfl, ?_⟩) hHeld ?_ ?_
                   rotate_left
                   ·rintro w' ⟨s0, s1, s2, s3, s4, s5, s6, s7, s8⟩
                    go_simp
                    with_reducible rfl
                   rotate_left
                   ·simp only [Act.put, List.setIfInBounds_toArray, List.set_cons_zero, List.set_cons_succ, i64_w, i32_w]
                    rfl
                   refine pure_ (i := 27) (N := some 80) (v := ?_) (a' := ?_) #[true, true, true, true, true, true, true, true, true, true, true, true, true, true, true, true, true, true, true, true, true, true, true, true, true, true, true, true] rfl rfl (any_of HT_.out (by kernel_rfl)) (fun _ _ _ h => h) (Or.inl ⟨by rfl, ?_⟩) ?_ ?_
                   rotate_left
                   ·intro w'
                    go_simp
                    with_reducible rfl
                   rotate_left
                   ·simp only [Act.put, List.setIfInBounds_toArray, List.set_cons_zero, List.set_cons_succ, i64_w, i32_w]
                    rfl
                   refine done_ (done_of HT_.out (by kernel_rfl)) ?_
                   try go_wp2_with (first | ((with_reducible refine gate_builtin (b := .append) (xs := #[.tmp 81, .tmp 83]) rfl ?_); at_builtin; refine Kd.R_append (Kd.int .i64) (w0 := w) w.heap.size rfl (.tmp 81) (.tmp 83) 47 3 (.int .i64 0) 8 rfl Try.underlying47 info3 rfl (by decide) (by omega) u14 x14_2 x17_2 [.int .i64 x17_2] (fun _ => True) (fun _ => False) rfl rfl ?aP (fun _ hk => hk.elim) ?aF ?aO ?aB ?aS ?aL ?_; (case aP => exact rfl); (case aB => exact (zb)); (case aF => exact (fun _ _ => trivial)); (case aO => exact (by (with_reducible repeat (first | apply Kd.R_alloc | apply Kd.R_drewN | apply Kd.R_drew)); exact HO_14.out)); (case aS => exact (below_size (zb))); (case aL => have := LMc33.out; omega); intro v360 w39 ho hb hg hat; rw [← Ny359.out] at ho; have n0_ := aM (Kd.N_afterv (ok := (fun k_ => k_ ≠ gb355)) (by (with_reducible repeat (first | apply Kd.N_alloc | apply Kd.N_drewN | apply Kd.N_drew)); exact Kd.N_mono HO_12.out (fun _ hk => ⟨hk.2, hk.1⟩)) hg hat); have n1_ := aM (blk_grown (g := gb355) (o := .cells #[.int .i64 ((rd_T25 l0 x17_2).f0), .int .i64 ((rd_T25 l0 x17_2).f1), .int .i64 ((rd_T25 l0 x17_2).f2), .int .i64 ((rd_T25 l0 x17_2).f3), .int .i64 ((rd_T25 l0 x17_2).f4), .int .i64 ((rd_T25 l0 x17_2).f5), .bool ((rd_T25 l0 x17_2).f6)] 25 (0, 0)) (by exact pk BK355.out) hg (Kd.R_ne HO_14.out BK355.out (by decide))); have n2_ := aM (Kd.V_afterv (ok := (fun k_ => some k_ ≠ (.slice (some ad357) t347.length co16 : Value).ownBlock ∧ k_ ≠ gb355)) (by (with_reducible repeat (first | apply Kd.V_alloc | apply Kd.V_drewN | apply Kd.V_drew)); exact Kd.V_mono HL357_0.out (fun _ hk => ⟨⟨hk.2, hk.1.2⟩, hk.1.1⟩)) hg hat); have n3_ := aM (hb); have n4_ := aM (ho); clear HO_12; clear BK355; clear HL357_0; clear HB; clear HO_14; have HO_12 := n0_; have BK355 := n1_; have HL357_0 := n2_; have HB := n3_; have HO361 := n4_; clear n0_ n1_ n2_ n3_ n4_; clear ho hb hg hat; obtain ⟨hcz40_0, hcz40_1, hcz40_2, hcz40_3, hcz40_4, hcz40_5, hcz40_6, hfz40_0, hfz40_1, hfz40_2, hfz40_3, hfz40_4, hfz40_5, hfz40_6⟩ := cells7 BK355.out))
                   go_roundg k2
                   case measure => have := HK1.out; have := HK2.out; omega
                   case rel => exact ⟨(y359), ((rd_T25 l0 x17_2).f1), (ji26), zs, (by first | rfl | (simp; done) | (simp only [← hji26] <;> (first | rfl | simp)) | (simp [*]; done)), H', ⟨by have := HK1.out; have := HK2.out; omega⟩, ⟨by (with_reducible repeat (first | apply Kd.N_alloc | apply Kd.N_drewN | apply Kd.N_drew)); exact Kd.N_mono HO_12.out (fun _ hk => hk.2)⟩, ⟨by (with_reducible repeat (first | apply Kd.R_alloc | apply Kd.R_drewN | apply Kd.R_drew)); exact HO361.out⟩, ⟨zb⟩⟩
                  ·rw [if_neg c33] at H
                   exact absurd H (by simp)
                 ·replace c32 := Bool.eq_false_iff.mpr c32
                  subst c32
                  have H1 : (spec_ChainOf.l1 k2 l0 a3 a4 t347 x14_2 x15_2 x16_1 (wrap64 (x17_2 + 1))) = some (r1, r2) := by rw [if_neg (show ¬ (false = true) by decide)] at H; exact H
                  clear H
                  have H := H1
                  clear H1
                  have H' := aM H
                  clear H
                  have p354 : 0 ≤ (x17_2 : Int) := of_decide_eq_true (by first | (with_reducible assumption) | assumption)
                  have q354 : x17_2 < (l0.length : Int) := of_decide_eq_true (by first | (with_reducible assumption) | assumption)
                  obtain ⟨ad354, e354, hx354_0, hx354_1, hx354_2, hx354_3, hx354_4, hx354_5, hx354_6⟩ := at_T25 HR0.out x17_2 p354 q354
                  (try rw [← Nbq31.out] at hx354_6)
                  cases e354
                  replace hx354_0 := (HB.out.cell (World.block_lt_of_cell? w _ hx354_0)).trans hx354_0
                  replace hx354_1 := (HB.out.cell (World.block_lt_of_cell? w _ hx354_1)).trans hx354_1
                  replace hx354_2 := (HB.out.cell (World.block_lt_of_cell? w _ hx354_2)).trans hx354_2
                  replace hx354_3 := (HB.out.cell (World.block_lt_of_cell? w _ hx354_3)).trans hx354_3
                  replace hx354_4 := (HB.out.cell (World.block_lt_of_cell? w _ hx354_4)).trans hx354_4
                  replace hx354_5 := (HB.out.cell (World.block_lt_of_cell? w _ hx354_5)).trans hx354_5
                  replace hx354_6 := (HB.out.cell (World.block_lt_of_cell? w _ hx354_6)).trans hx354_6
                  replace p354 := eq_true p354
                  replace q354 := eq_true q354
                  try go_wp2_with (first | ((with_reducible refine gate_dst (N := 18) rfl ?_); refine box_event ?hg (N := 18) ?hd (cs := #[.int .i64 0, .int .i64 0, .int .i64 0, .int .i64 0, .int .i64 0, .int .i64 0, .bool false]) (t := 25) ?hr ?_; (case hd => rfl); (case hg => rfl); (case hr => exact zg); intro gb355 hg w41 hbox hb; have n0_ := aM (Kd.N_below (Kd.N_elderB (by (with_reducible repeat (first | apply Kd.N_alloc | apply Kd.N_drewN | apply Kd.N_drew)); exact HO_12.out) gb355 (Nat.le_of_eq hg.symm)) hb); have n1_ := aM (Kd.R_below (by (with_reducible repeat (first | apply Kd.R_alloc | apply Kd.R_drewN | apply Kd.R_drew)); exact HO_14.out) hb); have n2_ := aM (below_step (zb) hb); have n3_ := aM (hbox); have n4_ := aM ((by rw [hg]; exact (below_size (zb)) : w.heap.size ≤ gb355)); have n5_ := aM ((by rw [hg]; exact (below_size (zb)) : w.heap.size ≤ gb355)); clear HO_12; clear HO_14; clear HB; have HO_12 := n0_; have HO_14 := n1_; have HB := n2_; have BK355 := n3_; have GW355 := n4_; have GE355 := n5_; clear n0_ n1_ n2_ n3_ n4_ n5_; clear hb hbox hg; obtain ⟨hcz42_0, hcz42_1, hcz42_2, hcz42_3, hcz42_4, hcz42_5, hcz42_6, hfz42_0, hfz42_1, hfz42_2, hfz42_3, hfz42_4, hfz42_5, hfz42_6⟩ := cells7 BK355.out))
                  have n0_ : Aside0 (Kd.N (Kd.slice 4 Kd.bool) 71 (((((((w41.setCell ⟨gb355, 0, none⟩ (.int .i64 ((rd_T25 l0 x17_2).f0))).setCell ⟨gb355, 1, none⟩ (.int .i64 ((rd_T25 l0 x17_2).f1))).setCell ⟨gb355, 2, none⟩ (.int .i64 ((rd_T25 l0 x17_2).f2))).setCell ⟨gb355, 3, none⟩ (.int .i64 ((rd_T25 l0 x17_2).f3))).setCell ⟨gb355, 4, none⟩ (.int .i64 ((rd_T25 l0 x17_2).f4))).setCell ⟨gb355, 5, none⟩ (.int .i64 ((rd_T25 l0 x17_2).f5))).setCell ⟨gb355, 6, none⟩ (.bool ((rd_T25 l0 x17_2).f6))) w.heap.size (fun k_ => some k_ ≠ (u14 : Value).ownBlock ∧ k_ ≠ gb355) (.slice Ao16 t347.length co16) t347) := ⟨by (with_reducible repeat (first | apply Kd.N_alloc | apply Kd.N_drewN | apply Kd.N_drew)); exact Kd.N_mono (Kd.N_far (p := ⟨gb355, 6, none⟩) (Kd.N_far (p := ⟨gb355, 5, none⟩) (Kd.N_far (p := ⟨gb355, 4, none⟩) (Kd.N_far (p := ⟨gb355, 3, none⟩) (Kd.N_far (p := ⟨gb355, 2, none⟩) (Kd.N_far (p := ⟨gb355, 1, none⟩) (Kd.N_far (p := ⟨gb355, 0, none⟩) (Kd.N_mono HO_12.out (fun k_ hk => (⟨hk, hk.2⟩ : _ ∧ k_ ≠ gb355))) (fun _ hk => hk.2) (.int .i64 ((rd_T25 l0 x17_2).f0))) (fun _ hk => hk.2) (.int .i64 ((rd_T25 l0 x17_2).f1))) (fun _ hk => hk.2) (.int .i64 ((rd_T25 l0 x17_2).f2))) (fun _ hk => hk.2) (.int .i64 ((rd_T25 l0 x17_2).f3))) (fun _ hk => hk.2) (.int .i64 ((rd_T25 l0 x17_2).f4))) (fun _ hk => hk.2) (.int .i64 ((rd_T25 l0 x17_2).f5))) (fun _ hk => hk.2) (.bool ((rd_T25 l0 x17_2).f6))) (fun _ hk => ⟨hk.1.1, hk.1.2⟩)⟩
                  have n1_ : Aside0 (Kd.R (Kd.int .i64) 3 (((((((w41.setCell ⟨gb355, 0, none⟩ (.int .i64 ((rd_T25 l0 x17_2).f0))).setCell ⟨gb355, 1, none⟩ (.int .i64 ((rd_T25 l0 x17_2).f1))).setCell ⟨gb355, 2, none⟩ (.int .i64 ((rd_T25 l0 x17_2).f2))).setCell ⟨gb355, 3, none⟩ (.int .i64 ((rd_T25 l0 x17_2).f3))).setCell ⟨gb355, 4, none⟩ (.int .i64 ((rd_T25 l0 x17_2).f4))).setCell ⟨gb355, 5, none⟩ (.int .i64 ((rd_T25 l0 x17_2).f5))).setCell ⟨gb355, 6, none⟩ (.bool ((rd_T25 l0 x17_2).f6))) w.heap.size (fun _ => True) u14 x14_2) := ⟨by (with_reducible repeat (first | apply Kd.R_alloc | apply Kd.R_drewN | apply Kd.R_drew)); exact Kd.R_mono (Kd.R_far (p := ⟨gb355, 6, none⟩) (Kd.R_far (p := ⟨gb355, 5, none⟩) (Kd.R_far (p := ⟨gb355, 4, none⟩) (Kd.R_far (p := ⟨gb355, 3, none⟩) (Kd.R_far (p := ⟨gb355, 2, none⟩) (Kd.R_far (p := ⟨gb355, 1, none⟩) (Kd.R_far (p := ⟨gb355, 0, none⟩) (Kd.R_types HO_14.out BK355.out (by decide)) (fun _ hk => hk.2) (.int .i64 ((rd_T25 l0 x17_2).f0))) (fun _ hk => hk.2) (.int .i64 ((rd_T25 l0 x17_2).f1))) (fun _ hk => hk.2) (.int .i64 ((rd_T25 l0 x17_2).f2))) (fun _ hk => hk.2) (.int .i64 ((rd_T25 l0 x17_2).f3))) (fun _ hk => hk.2) (.int .i64 ((rd_T25 l0 x17_2).f4))) (fun _ hk => hk.2) (.int .i64 ((rd_T25 l0 x17_2).f5))) (fun _ hk => hk.2) (.bool ((rd_T25 l0 x17_2).f6))) (fun _ hk => trivial)⟩
                  have n2_ : Aside0 ((((((((w41.setCell ⟨gb355, 0, none⟩ (.int .i64 ((rd_T25 l0 x17_2).f0))).setCell ⟨gb355, 1, none⟩ (.int .i64 ((rd_T25 l0 x17_2).f1))).setCell ⟨gb355, 2, none⟩ (.int .i64 ((rd_T25 l0 x17_2).f2))).setCell ⟨gb355, 3, none⟩ (.int .i64 ((rd_T25 l0 x17_2).f3))).setCell ⟨gb355, 4, none⟩ (.int .i64 ((rd_T25 l0 x17_2).f4))).setCell ⟨gb355, 5, none⟩ (.int .i64 ((rd_T25 l0 x17_2).f5))).setCell ⟨gb355, 6, none⟩ (.bool ((rd_T25 l0 x17_2).f6))).heap[gb355]? = some (.cells #[.int .i64 ((rd_T25 l0 x17_2).f0), .int .i64 ((rd_T25 l0 x17_2).f1), .int .i64 ((rd_T25 l0 x17_2).f2), .int .i64 ((rd_T25 l0 x17_2).f3), .int .i64 ((rd_T25 l0 x17_2).f4), .int .i64 ((rd_T25 l0 x17_2).f5), .bool ((rd_T25 l0 x17_2).f6)] 25 (0, 0))) := ⟨by refine pq ?_; refine blk_put (cs := #[.int .i64 ((rd_T25 l0 x17_2).f0), .int .i64 ((rd_T25 l0 x17_2).f1), .int .i64 ((rd_T25 l0 x17_2).f2), .int .i64 ((rd_T25 l0 x17_2).f3), .int .i64 ((rd_T25 l0 x17_2).f4), .int .i64 ((rd_T25 l0 x17_2).f5), .bool false]) ?_ 6 _ rfl; refine pq ?_; refine blk_put (cs := #[.int .i64 ((rd_T25 l0 x17_2).f0), .int .i64 ((rd_T25 l0 x17_2).f1), .int .i64 ((rd_T25 l0 x17_2).f2), .int .i64 ((rd_T25 l0 x17_2).f3), .int .i64 ((rd_T25 l0 x17_2).f4), .int .i64 0, .bool false]) ?_ 5 _ rfl; refine pq ?_; refine blk_put (cs := #[.int .i64 ((rd_T25 l0 x17_2).f0), .int .i64 ((rd_T25 l0 x17_2).f1), .int .i64 ((rd_T25 l0 x17_2).f2), .int .i64 ((rd_T25 l0 x17_2).f3), .int .i64 0, .int .i64 0, .bool false]) ?_ 4 _ rfl; refine pq ?_; refine blk_put (cs := #[.int .i64 ((rd_T25 l0 x17_2).f0), .int .i64 ((rd_T25 l0 x17_2).f1), .int .i64 ((rd_T25 l0 x17_2).f2), .int .i64 0, .int .i64 0, .int .i64 0, .bool false]) ?_ 3 _ rfl; refine pq ?_; refine blk_put (cs := #[.int .i64 ((rd_T25 l0 x17_2).f0), .int .i64 ((rd_T25 l0 x17_2).f1), .int .i64 0, .int .i64 0, .int .i64 0, .int .i64 0, .bool false]) ?_ 2 _ rfl; refine pq ?_; refine blk_put (cs := #[.int .i64 ((rd_T25 l0 x17_2).f0), .int .i64 0, .int .i64 0, .int .i64 0, .int .i64 0, .int .i64 0, .bool false]) ?_ 1 _ rfl; refine pq ?_; refine blk_put (cs := #[.int .i64 0, .int .i64 0, .int .i64 0, .int .i64 0, .int .i64 0, .int .i64 0, .bool false]) ?_ 0 _ rfl; refine pq ?_; exact BK355.out⟩
                  have n3_ : Aside0 (Below w.heap.size w (((((((w41.setCell ⟨gb355, 0, none⟩ (.int .i64 ((rd_T25 l0 x17_2).f0))).setCell ⟨gb355, 1, none⟩ (.int .i64 ((rd_T25 l0 x17_2).f1))).setCell ⟨gb355, 2, none⟩ (.int .i64 ((rd_T25 l0 x17_2).f2))).setCell ⟨gb355, 3, none⟩ (.int .i64 ((rd_T25 l0 x17_2).f3))).setCell ⟨gb355, 4, none⟩ (.int .i64 ((rd_T25 l0 x17_2).f4))).setCell ⟨gb355, 5, none⟩ (.int .i64 ((rd_T25 l0 x17_2).f5))).setCell ⟨gb355, 6, none⟩ (.bool ((rd_T25 l0 x17_2).f6)))) := ⟨zb⟩
                  (try clear HO_12)
                  (try clear HO_14)
                  (try clear BK355)
                  (try clear HB)
                  generalize (((((((w41.setCell ⟨gb355, 0, none⟩ (.int .i64 ((rd_T25 l0 x17_2).f0))).setCell ⟨gb355, 1, none⟩ (.int .i64 ((rd_T25 l0 x17_2).f1))).setCell ⟨gb355, 2, none⟩ (.int .i64 ((rd_T25 l0 x17_2).f2))).setCell ⟨gb355, 3, none⟩ (.int .i64 ((rd_T25 l0 x17_2).f3))).setCell ⟨gb355, 4, none⟩ (.int .i64 ((rd_T25 l0 x17_2).f4))).setCell ⟨gb355, 5, none⟩ (.int .i64 ((rd_T25 l0 x17_2).f5))).setCell ⟨gb355, 6, none⟩ (.bool ((rd_T25 l0 x17_2).f6))) = w43 at n0_ n1_ n2_ n3_ ⊢
                  have HO_12 := n0_
                  have HO_14 := n1_
                  have BK355 := n2_
                  have HB := n3_
                  clear n0_ n1_ n2_ n3_
                  have n0_ := aM (Kd.N_drew HO_12.out)
                  have n1_ := aM (Kd.R_drew HO_14.out)
                  have n2_ := aM (blk_drew BK355.out)
                  have n3_ := aM (below_drew1 HB.out)
                  clear HO_12
                  clear HO_14
                  clear BK355
                  clear HB
                  have HO_12 := n0_
                  have HO_14 := n1_
                  have BK355 := n2_
                  have HB := n3_
                  clear n0_ n1_ n2_ n3_
                  have p357 : 0 ≤ ((ji26) : Int) := of_decide_eq_true (by first | (with_reducible assumption) | assumption)
                  have q357 : (ji26) < (t347.length : Int) := of_decide_eq_true (by first | (with_reducible assumption) | assumption)
                  obtain ⟨ad357, A357_0, c357_0, e357, hx357_0, hl357_0, hi357_0⟩ := at_L4 (Kd.N_reads' HO_12.out).2.2 (ji26) p357 q357
                  cases e357
                  obtain ⟨ce357, hce357, hMe357, hcc357⟩ := Kd.N_get HO_12.out [] (ji26) p357 (by first | exact q357 | exact of_decide_eq_true (by first | (with_reducible assumption) | assumption) | (have e_ := (Kd.N_reads' HO_12.out).1; omega))
                  obtain ⟨ua357_0, uc357_0, rfl, ul357_0, ge357_0⟩ := Kd.FK_slice_open hMe357
                  have hv357_0 := hcc357 0 _ rfl
                  rw [Nat.add_zero, show ((Kd.slice 4 Kd.bool)).sz = 1 from rfl, Nat.mul_one] at hv357_0
                  replace hv357_0 := Option.some.inj (hv357_0.symm.trans hx357_0)
                  injection hv357_0 with hva_ hvn_ hvc_
                  rw [hva_] at ge357_0
                  rw [hvc_] at ul357_0
                  have HL357_0 := aM (show Kd.V Kd.bool 4 _ w.heap.size _ _ (rd_L4 t347 (ji26)) from Kd.V_mk ul357_0 ge357_0)
                  clear hva_ hvn_ hvc_ ge357_0 ul357_0
                  clear hcc357 hce357
                  have HR357_0 := aM hi357_0
                  have HC357_0 := aM hl357_0
                  clear hi357_0 hl357_0
                  replace p357 := eq_true p357
                  replace q357 := eq_true q357
                  have p358 : 0 ≤ (((rd_T25 l0 x17_2).f1) : Int) := of_decide_eq_true (by first | (with_reducible assumption) | assumption)
                  have q358 : ((rd_T25 l0 x17_2).f1) < ((rd_L4 t347 (ji26)).length : Int) := of_decide_eq_true (by first | (with_reducible assumption) | assumption)
                  obtain ⟨ad358, e358, hx358_0⟩ := Kd.at_bool (by repeat (first | (with_reducible exact HR357_0.out) | (with_reducible refine Kd.C_alloc ?_ _) | (with_reducible refine Kd.C_drewN ?_ _) | (with_reducible refine Kd.C_drew ?_) | exact HR357_0.out)) ((rd_T25 l0 x17_2).f1) p358 q358
                  (try rw [← Nbq31.out] at hx358_0)
                  cases e358
                  replace p358 := eq_true p358
                  replace q358 := eq_true q358
                  refine start_ (n := 28) (S := fun w' => w'.cell? ⟨gb355, 0, none⟩ = some (.int .i64 ((rd_T25 l0 x17_2).f0)) ∧ w'.cell? ⟨gb355, 1, none⟩ = some (.int .i64 ((rd_T25 l0 x17_2).f1)) ∧ w'.cell? ⟨gb355, 2, none⟩ = some (.int .i64 ((rd_T25 l0 x17_2).f2)) ∧ w'.cell? ⟨gb355, 3, none⟩ = some (.int .i64 ((rd_T25 l0 x17_2).f3)) ∧ w'.cell? ⟨gb355, 4, none⟩ = some (.int .i64 ((rd_T25 l0 x17_2).f4)) ∧ w'.cell? ⟨gb355, 5, none⟩ = some (.int .i64 ((rd_T25 l0 x17_2).f5)) ∧ w'.cell? ⟨gb355, 6, none⟩ = some (.bool ((rd_T25 l0 x17_2).f6)) ∧ w'.cell? (ad357.add ((ji26)).toNat) = some (.slice (some ad358) (rd_L4 t347 (ji26)).length c357_0) ∧ w'.cell? (ad358.add (((rd_T25 l0 x17_2).f1)).toNat) = some (.bool false)) (ds := []) #[false, false, false, false, false, false, false, false, false, false, false, false, false, false, false, false, false, false, false, false, false, false, false, false, false, false, false, false] (by kernel_rfl) rfl rfl ⟨(blk_cell BK355.out 0).trans rfl, (blk_cell BK355.out 1).trans rfl, (blk_cell BK355.out 2).trans rfl, (blk_cell BK355.out 3).trans rfl, (blk_cell BK355.out 4).trans rfl, (blk_cell BK355.out 5).trans rfl, (blk_cell BK355.out 6).trans rfl, hx357_0, hx358_0⟩ (fun hHeld => ?_); refine with_tabW spec_ChainOf.tab16 spec_ChainOf.bits16 (fun HT_ HW_ => ?_)
                  generalize w43.drew = w44 at HO_12 HO_14 BK355 HB HL357_0 HR357_0 hx357_0 hx358_0 hHeld ⊢
                  refine pure_ (i := 0) (N := some 53) (v := ?_) (a' := ?_) #[true, false, false, false, false, false, false, false, false, false, false, false, false, false, false, false, false, false, false, false, false, false, false, false, false, false, false, false] rfl rfl (any_of HT_.out (by kernel_rfl)) (fun _ _ _ h => h) (Or.inl ⟨by rfl, ?_⟩) ?_ ?_
                  rotate_left
                  ·intro w'
                   go_simp
                   with_reducible rfl
                  rotate_left
                  ·simp only [Act.put, List.setIfInBounds_toArray, List.set_cons_zero, List.set_cons_succ, i64_w, i32_w]
                   rfl
                  refine pure_ (i := 2) (N := some 55) (v := ?_) (a' := ?_) #[true, false, true, false, false, false, false, false, false, false, false, false, false, false, false, false, false, false, false, false, false, false, false, false, false, false, false, false] rfl rfl (any_of HT_.out (by kernel_rfl)) (fun _ _ _ h => h) (Or.inl ⟨by rfl, ?_⟩) ?_ ?_
                  rotate_left
                  ·intro w'
                   go_simp
                   with_reducible rfl
                  rotate_left
                  ·simp only [Act.put, List.setIfInBounds_toArray, List.set_cons_zero, List.set_cons_succ, i64_w, i32_w]
                   rfl
                  refine take_ (i := 1) (N := some 54) (v := ?_) (a' := ?_) #[true, true, true, false, false, false, false, false, false, false, false, false, false, false, false, false, false, false, false, false, false, false, false, false, false, false, false, false] rfl rfl (take_ofW HT_.out HW_.out (by kernel_rfl)) (fun _ _ _ h => h) (Or.inl ⟨by rfl, ?_⟩) hHeld ?_ ?_
                  rotate_left
                  ·rintro w' ⟨s0, s1, s2, s3, s4, s5, s6, s7, s8⟩
                   go_simp
                   with_reducible rfl
                  rotate_left
                  ·simp only [Act.put, List.setIfInBounds_toArray, List.set_cons_zero, List.set_cons_succ, i64_w, i32_w]
                   rfl
                  refine pure_ (i := 3) (N := some 56) (v := ?_) (a' := ?_) #[true, true, true, true, false, false, false, false, false, false, false, false, false, false, false, false, false, false, false, false, false, false, false, false, false, false, false, false] rfl rfl (any_of HT_.out (by kernel_rfl)) (fun _ _ _ h => h) (Or.inl ⟨by rfl, ?_⟩) ?_ ?_
                  rotate_left
                  ·intro w'
                   go_simp
                   with_reducible rfl
                  rotate_left
                  ·simp only [Act.put, List.setIfInBounds_toArray, List.set_cons_zero, List.set_cons_succ, i64_w, i32_w]
                   rfl
                  refine pure_ (i := 4) (N := some 57) (v := ?_) (a' := ?_) #[true, true, true, true, true, false, false, false, false, false, false, false, false, false, false, false, false, false, false, false, false, false, false, false, false, false, false, false] rfl rfl (any_of HT_.out (by kernel_rfl)) (fun _ _ _ h => h) (Or.inl ⟨by rfl, ?_⟩) ?_ ?_
                  rotate_left
                  ·intro w'
                   go_simp
                   with_reducible rfl
                  rotate_left
                  ·simp only [Act.put, List.setIfInBounds_toArray, List.set_cons_zero, List.set_cons_succ, i64_w, i32_w]
                   rfl
                  refine pure_ (i := 6) (N := some 59) (v := ?_) (a' := ?_) #[true, true, true, true, true, false, true, false, false, false, false, false, false, false, false, false, false, false, false, false, false, false, false, false, false, false, false, false] rfl rfl (any_of HT_.out (by kernel_rfl)) (fun _ _ _ h => h) (Or.inl ⟨by rfl, ?_⟩) ?_ ?_
                  rotate_left
                  ·intro w'
                   go_simp
                   with_reducible rfl
                  rotate_left
                  ·simp only [Act.put, List.setIfInBounds_toArray, List.set_cons_zero, List.set_cons_succ, i64_w, i32_w]
                   rfl
                  refine pure_ (i := 7) (N := some 60) (v := ?_) (a' := ?_) #[true, true, true, true, true, false, true, true, false, false, false, false, false, false, false, false, false, false, false, false, false, false, false, false, false, false, false, false] rfl rfl (any_of HT_.out (by kernel_rfl)) (fun _ _ _ h => h) (Or.inl ⟨by rfl, ?_⟩) ?_ ?_
                  rotate_left
                  ·intro w'
                   go_simp
                   with_reducible rfl
                  rotate_left
                  ·simp only [Act.put, List.setIfInBounds_toArray, List.set_cons_zero, List.set_cons_succ, i64_w, i32_w]
                   rfl
                  refine take_ (i := 5) (N := some 58) (v := ?_) (a' := ?_) #[true, true, true, true, true, true, true, true, false, false, false, false, false, false, false, false, false, false, false, false, false, false, false, false, false, false, false, false] rfl rfl (take_ofW HT_.out HW_.out (by kernel_rfl)) (fun _ _ _ h => h) (Or.inl ⟨by rfl, ?_⟩) hHeld ?_ ?_
                  rotate_left
                  ·rintro w' ⟨s0, s1, s2, s3, s4, s5, s6, s7, s8⟩
                   go_simp
                   with_reducible rfl
                  rotate_left
                  ·simp only [Act.put, List.setIfInBounds_toArray, List.set_cons_zero, List.set_cons_succ, i64_w, i32_w]
                   rfl
                  refine one_ (i := 8) (N := some 61) #[true, true, true, true, true, true, true, true, true, false, false, false, false, false, false, false, false, false, false, false, false, false, false, false, false, false, false, false] rfl rfl (one_of HT_.out (by kernel_rfl)) (by decide) (fun K hK => ?_)
                  refine goes_ Try.func21 (by kernel_rfl) rfl #[.agg #[.int .i64 ((rd_T25 l0 x17_2).f0), .int .i64 ((rd_T25 l0 x17_2).f1), .int .i64 ((rd_T25 l0 x17_2).f2), .int .i64 ((rd_T25 l0 x17_2).f3), .int .i64 ((rd_T25 l0 x17_2).f4), .int .i64 ((rd_T25 l0 x17_2).f5), .bool ((rd_T25 l0 x17_2).f6)], .int .i64 a3, .int .i64 a4] (by rfl) rfl rfl za ?_
                  with_reducible refine (spec_Applies.calls ((rd_T25 l0 x17_2).f0) ((rd_T25 l0 x17_2).f1) ((rd_T25 l0 x17_2).f2) ((rd_T25 l0 x17_2).f3) ((rd_T25 l0 x17_2).f4) ((rd_T25 l0 x17_2).f5) ((rd_T25 l0 x17_2).f6) a3 a4 true _ A23.out).mono ?_
                  rintro e w45 ⟨rfl, hb⟩
                  have HS7_ := (hb.cell (World.block_lt_of_cell? _ _ (hHeld.2.2.2.2.2.2.2.1))).trans (hHeld.2.2.2.2.2.2.2.1)
                  have HS8_ := (hb.cell (World.block_lt_of_cell? _ _ (hHeld.2.2.2.2.2.2.2.2))).trans (hHeld.2.2.2.2.2.2.2.2)
                  refine ⟨_, rfl, ?_⟩
                  try have HLz_ := aM (Kd.V_below HL357_0.out hb)
                  try clear HL357_0
                  try have HL357_0 := HLz_
                  try clear HLz_
                  have n0_ := aM (Kd.N_below (by (with_reducible repeat (first | apply Kd.N_alloc | apply Kd.N_drewN | apply Kd.N_drew)); exact HO_12.out) hb)
                  have n1_ := aM (Kd.R_below (by (with_reducible repeat (first | apply Kd.R_alloc | apply Kd.R_drewN | apply Kd.R_drew)); exact HO_14.out) hb)
                  have n2_ := aM (bb BK355.out hb)
                  have n3_ := aM (below_step (zb) hb)
                  clear HO_12
                  clear HO_14
                  clear BK355
                  clear HB
                  have HO_12 := n0_
                  have HO_14 := n1_
                  have BK355 := n2_
                  have HB := n3_
                  clear n0_ n1_ n2_ n3_
                  (try clear hb)
                  (try clear hb2)
                  (try clear hk)
                  (try clear hi)
                  refine hK.out _ _ ⟨(blk_cell BK355.out 0).trans rfl, (blk_cell BK355.out 1).trans rfl, (blk_cell BK355.out 2).trans rfl, (blk_cell BK355.out 3).trans rfl, (blk_cell BK355.out 4).trans rfl, (blk_cell BK355.out 5).trans rfl, (blk_cell BK355.out 6).trans rfl, HS7_, HS8_⟩ (fun hHeld => ?_)
                  clear hK K
                  refine norm_ (a' := ?_) ?_ ?_
                  rotate_left
                  ·show Act.put _ (some 61) _ = _
                   simp only [Act.put, List.setIfInBounds_toArray, List.set_cons_zero, List.set_cons_succ, i64_w, i32_w]
                   rfl
                  refine pure_ (i := 9) (N := some 62) (v := ?_) (a' := ?_) #[true, true, true, true, true, true, true, true, true, true, false, false, false, false, false, false, false, false, false, false, false, false, false, false, false, false, false, false] rfl rfl (any_of HT_.out (by kernel_rfl)) (fun _ _ _ h => h) (Or.inl ⟨by rfl, ?_⟩) ?_ ?_
                  rotate_left
                  ·intro w'
                   go_simp
                   with_reducible rfl
                  rotate_left
                  ·simp only [Act.put, List.setIfInBounds_toArray, List.set_cons_zero, List.set_cons_succ, i64_w, i32_w]
                   rfl
                  refine pure_ (i := 10) (N := some 63) (v := ?_) (a' := ?_) #[true, true, true, true, true, true, true, true, true, true, true, false, false, false, false, false, false, false, false, false, false, false, false, false, false, false, false, false] rfl rfl (any_of HT_.out (by kernel_rfl)) (fun _ _ _ h => h) (Or.inl ⟨by rfl, ?_⟩) ?_ ?_
                  rotate_left
                  ·intro w'
                   go_simp
                   with_reducible rfl
                  rotate_left
                  ·simp only [Act.put, List.setIfInBounds_toArray, List.set_cons_zero, List.set_cons_succ, i64_w, i32_w]
                   rfl
                  refine pure_ (i := 11) (N := some 64) (v := ?_) (a' := ?_) #[true, true, true, true, true, true, true, true, true, true, true, true, false, false, false, false, false, false, false, false, false, false, false, false, false, false, false, false] rfl rfl (any_of HT_.out (by kernel_rfl)) (fun _ _ _ h => h) (Or.inl ⟨by rfl, ?_⟩) ?_ ?_
                  rotate_left
                  ·intro w'
                   go_simp
                   with_reducible rfl
                  rotate_left
                  ·simp only [Act.put, List.setIfInBounds_toArray, List.set_cons_zero, List.set_cons_succ, i64_w, i32_w]
                   rfl
                  refine pure_ (i := 13) (N := some 66) (v := ?_) (a' := ?_) #[true, true, true, true, true, true, true, true, true, true, true, true, false, true, false, false, false, false, false, false, false, false, false, false, false, false, false, false] rfl rfl (any_of HT_.out (by kernel_rfl)) (fun _ _ _ h => h) (Or.inl ⟨by rfl, ?_⟩) ?_ ?_
                  rotate_left
                  ·intro w'
                   go_simp
                   with_reducible rfl
                  rotate_left
                  ·simp only [Act.put, List.setIfInBounds_toArray, List.set_cons_zero, List.set_cons_succ, i64_w, i32_w]
                   rfl
                  refine pure_ (i := 14) (N := some 67) (v := ?_) (a' := ?_) #[true, true, true, true, true, true, true, true, true, true, true, true, false, true, true, false, false, false, false, false, false, false, false, false, false, false, false, false] rfl rfl (any_of HT_.out (by kernel_rfl)) (fun _ _ _ h => h) (Or.inl ⟨by rfl, ?_⟩) ?_ ?_
                  rotate_left
                  ·intro w'
                   go_simp
                   with_reducible rfl
                  rotate_left
                  ·simp only [Act.put, List.setIfInBounds_toArray, List.set_cons_zero, List.set_cons_succ, i64_w, i32_w]
                   rfl
                  refine take_ (i := 12) (N := some 65) (v := ?_) (a' := ?_) #[true, true, true, true, true, true, true, true, true, true, true, true, true, true, true, false, false, false, false, false, false, false, false, false, false, false, false, false] rfl rfl (take_ofW HT_.out HW_.out (by kernel_rfl)) (fun _ _ _ h => h) (Or.inl ⟨by rfl, ?_⟩) hHeld ?_ ?_
                  rotate_left
                  ·rintro w' ⟨s0, s1, s2, s3, s4, s5, s6, s7, s8⟩
                   go_simp
                   with_reducible rfl
                  rotate_left
                  ·simp only [Act.put, List.setIfInBounds_toArray, List.set_cons_zero, List.set_cons_succ, i64_w, i32_w]
                   rfl
                  refine pure_ (i := 15) (N := some 68) (v := ?_) (a' := ?_) #[true, true, true, true, true, true, true, true, true, true, true, true, true, true, true, true, false, false, false, false, false, false, false, false, false, false, false, false] rfl rfl (any_of HT_.out (by kernel_rfl)) (fun _ _ _ h => h) (Or.inl ⟨by rfl, ?_⟩) ?_ ?_
                  rotate_left
                  ·intro w'
                   go_simp
                   with_reducible rfl
                  rotate_left
                  ·simp only [Act.put, List.setIfInBounds_toArray, List.set_cons_zero, List.set_cons_succ, i64_w, i32_w]
                   rfl
                  refine pure_ (i := 16) (N := some 69) (v := ?_) (a' := ?_) #[true, true, true, true, true, true, true, true, true, true, true, true, true, true, true, true, true, false, false, false, false, false, false, false, false, false, false, false] rfl rfl (any_of HT_.out (by kernel_rfl)) (fun _ _ _ h => h) (Or.inl ⟨by rfl, ?_⟩) ?_ ?_
                  rotate_left
                  ·intro w'
                   go_simp
                   with_reducible rfl
                  rotate_left
                  ·simp only [Act.put, List.setIfInBounds_toArray, List.set_cons_zero, List.set_cons_succ, i64_w, i32_w]
                   rfl
                  refine pure_ (i := 17) (N := some 70) (v := ?_) (a' := ?_) #[true, true, true, true, true, true, true, true, true, true, true, true, true, true, true, true, true, true, false, false, false, false, false, false, false, false, false, false] rfl rfl (any_of HT_.out (by kernel_rfl)) (fun _ _ _ h => h) (Or.inl ⟨by rfl, ?_⟩) ?_ ?_
                  rotate_left
                  ·intro w'
                   go_simp
                   with_reducible rfl
                  rotate_left
                  ·simp only [Act.put, List.setIfInBounds_toArray, List.set_cons_zero, List.set_cons_succ, i64_w, i32_w]
                   rfl
                  refine pure_ (i := 18) (N := some 71) (v := ?_) (a' := ?_) #[true, true, true, true, true, true, true, true, true, true, true, true, true, true, true, true, true, true, true, false, false, false, false, false, false, false, false, false] rfl rfl (any_of HT_.out (by kernel_rfl)) (fun _ _ _ h => h) (Or.inl ⟨by rfl, ?_⟩) ?_ ?_
                  rotate_left
                  ·intro w'
                   go_simp
                   with_reducible rfl
                  rotate_left
                  ·simp only [Act.put, List.setIfInBounds_toArray, List.set_cons_zero, List.set_cons_succ, i64_w, i32_w]
                   rfl
                  refine pure_ (i := 19) (N := some 72) (v := ?_) (a' := ?_) #[true, true, true, true, true, true, true, true, true, true, true, true, true, true, true, true, true, true, true, true, false, false, false, false, false, false, false, false] rfl rfl (any_of HT_.out (by kernel_rfl)) (fun _ _ _ h => h) (Or.inl ⟨by rfl, ?_⟩) ?_ ?_
                  rotate_left
                  ·intro w'
                   go_simp
                   with_reducible rfl
                  rotate_left
                  ·simp only [Act.put, List.setIfInBounds_toArray, List.set_cons_zero, List.set_cons_succ, i64_w, i32_w]
                   rfl
                  refine pure_ (i := 20) (N := some 73) (v := ?_) (a' := ?_) #[true, true, true, true, true, true, true, true, true, true, true, true, true, true, true, true, true, true, true, true, true, false, false, false, false, false, false, false] rfl rfl (any_of HT_.out (by kernel_rfl)) (fun _ _ _ h => h) (Or.inl ⟨by rfl, ?_⟩) ?_ ?_
                  rotate_left
                  ·intro w'
                   go_simp
                   with_reducible rfl
                  rotate_left
                  ·simp only [Act.put, List.setIfInBounds_toArray, List.set_cons_zero, List.set_cons_succ, i64_w, i32_w]
                   rfl
                  refine pure_ (i := 21) (N := some 74) (v := ?_) (a' := ?_) #[true, true, true, true, true, true, true, true, true, true, true, true, true, true, true, true, true, true, true, true, true, true, false, false, false, false, false, false] rfl rfl (any_of HT_.out (by kernel_rfl)) (fun _ _ _ h => h) (Or.inl ⟨by rfl, ?_⟩) ?_ ?_
                  rotate_left
                  ·intro w'
                   go_simp
                   with_reducible rfl
                  rotate_left
                  ·simp only [Act.put, List.setIfInBounds_toArray, List.set_cons_zero, List.set_cons_succ, i64_w, i32_w]
                   rfl
                  refine pure_ (i := 23) (N := some 76) (v := ?_) (a' := ?_) #[true, true, true, true, true, true, true, true, true, true, true, true, true, true, true, true, true, true, true, true, true, true, false, true, false, false, false, false] rfl rfl (any_of HT_.out (by kernel_rfl)) (fun _ _ _ h => h) (Or.inl ⟨by rfl, ?_⟩) ?_ ?_
                  rotate_left
                  ·intro w'
                   go_simp
                   with_reducible rfl
                  rotate_left
                  ·simp only [Act.put, List.setIfInBounds_toArray, List.set_cons_zero, List.set_cons_succ, i64_w, i32_w]
                   rfl
                  refine take_ (i := 22) (N := some 75) (v := ?_) (a' := ?_) #[true, true, true, true, true, true, true, true, true, true, true, true, true, true, true, true, true, true, true, true, true, true, true, true, false, false, false, false] rfl rfl (take_ofW HT_.out HW_.out (by kernel_rfl)) (fun _ _ _ h => h) (Or.inl ⟨by rfl, ?_⟩) hHeld ?_ ?_
                  rotate_left
                  ·rintro w' ⟨s0, s1, s2, s3, s4, s5, s6, s7, s8⟩
                   go_simp
                   with_reducible rfl
                  rotate_left
                  ·simp only [Act.put, List.setIfInBounds_toArray, List.set_cons_zero, List.set_cons_succ, i64_w, i32_w]
                   rfl
                  refine take_ (i := 24) (N := some 77) (v := ?_) (a' := ?_) #[true, true, true, true, true, true, true, true, true, true, true, true, true, true, true, true, true, true, true, true, true, true, true, true, true, false, false, false] rfl rfl (take_ofW HT_.out HW_.out (by kernel_rfl)) (fun _ _ _ h => h) (Or.inl ⟨by rfl, ?_⟩) hHeld ?_ ?_
                  rotate_left
                  ·rintro w' ⟨s0, s1, s2, s3, s4, s5, s6, s7, s8⟩
                   go_simp
                   with_reducible rfl
                  rotate_left
                  ·simp only [Act.put, List.setIfInBounds_toArray, List.set_cons_zero, List.set_cons_succ, i64_w, i32_w]
                   rfl
                  refine pure_ (i := 25) (N := some 78) (v := ?_) (a' := ?_) #[true, true, true, true, true, true, true, true, true, true, true, true, true, true, true, true, true, true, true, true, true, true, true, true, true, true, false, false] rfl rfl (any_of HT_.out (by kernel_rfl)) (fun _ _ _ h => h) (Or.inl ⟨by rfl, ?_⟩) ?_ ?_
                  rotate_left
                  ·intro w'
                   go_simp
                   with_reducible rfl
                  rotate_left
                  ·simp only [Act.put, List.setIfInBounds_toArray, List.set_cons_zero, List.set_cons_succ, i64_w, i32_w]
                   rfl
                  refine take_ (i := 26) (N := some 79) (v := ?_) (a' := ?_) #[true, true, true, true, true, true, true, true, true, true, true, true, true, true, true, true, true, true, true, true, true, true, true, true, true, true, true, false] rfl rfl (take_ofW HT_.out HW_.out (by kernel_rfl)) (fun _ _ _ h => h) (Or.inl ⟨by rfl, ?_⟩) hHeld ?_ ?_
                  rotate_left
                  ·rintro w' ⟨s0, s1, s2, s3, s4, s5, s6, s7, s8⟩
                   go_simp
                   with_reducible rfl
                  rotate_left
                  ·simp only [Act.put, List.setIfInBounds_toArray, List.set_cons_zero, List.set_cons_succ, i64_w, i32_w]
                   rfl
                  refine pure_ (i := 27) (N := some 80) (v := ?_) (a' := ?_) #[true, true, true, true, true, true, true, true, true, true, true, true, true, true, true, true, true, true, true, true, true, true, true, true, true, true, true, true] rfl rfl (any_of HT_.out (by kernel_rfl)) (fun _ _ _ h => h) (Or.inl ⟨by rfl, ?_⟩) ?_ ?_
                  rotate_left
                  ·intro w'
                   go_simp
                   with_reducible rfl
                  rotate_left
                  ·simp only [Act.put, List.setIfInBounds_toArray, List.set_cons_zero, List.set_cons_succ, i64_w, i32_w]
                   rfl
                  refine done_ (done_of HT_.out (by kernel_rfl)) ?_
                  try go_wp2
                  go_roundg k2
                  case measure => have := HK1.out; have := HK2.out; omega
                  case rel => exact ⟨(x14_2), (x15_2), (wrap64 (x17_2 + 1)), zs, zs, H', ⟨by have := HK1.out; have := HK2.out; omega⟩, ⟨by (with_reducible repeat (first | apply Kd.N_alloc | apply Kd.N_drewN | apply Kd.N_drew)); exact Kd.N_mono HO_12.out (fun _ hk => hk.1)⟩, ⟨by (with_reducible repeat (first | apply Kd.R_alloc | apply Kd.R_drewN | apply Kd.R_drew)); exact HO_14.out⟩, ⟨zb⟩⟩
                ·rw [if_neg c30] at H
                 exact absurd H (by simp)
               ·rw [if_neg c29] at H
                exact absurd H (by simp)
              ·rw [if_neg c28] at H
               exact absurd H (by simp)
             ·rw [if_neg c27] at H
              exact absurd H (by simp)
            ·rw [if_neg c25] at H
             have c25b0 : decide ((wrap64 (x16_1 - 1)) ≤ ((rd_T25 l0 x17_2).f3)) = false := decide_eq_false c25
             clear c25
             have H' := aM H
             clear H
             have p354 : 0 ≤ (x17_2 : Int) := of_decide_eq_true (by first | (with_reducible assumption) | assumption)
             have q354 : x17_2 < (l0.length : Int) := of_decide_eq_true (by first | (with_reducible assumption) | assumption)
             obtain ⟨ad354, e354, hx354_0, hx354_1, hx354_2, hx354_3, hx354_4, hx354_5, hx354_6⟩ := at_T25 HR0.out x17_2 p354 q354
             cases e354
             replace hx354_0 := (HB.out.cell (World.block_lt_of_cell? w _ hx354_0)).trans hx354_0
             replace hx354_1 := (HB.out.cell (World.block_lt_of_cell? w _ hx354_1)).trans hx354_1
             replace hx354_2 := (HB.out.cell (World.block_lt_of_cell? w _ hx354_2)).trans hx354_2
             replace hx354_3 := (HB.out.cell (World.block_lt_of_cell? w _ hx354_3)).trans hx354_3
             replace hx354_4 := (HB.out.cell (World.block_lt_of_cell? w _ hx354_4)).trans hx354_4
             replace hx354_5 := (HB.out.cell (World.block_lt_of_cell? w _ hx354_5)).trans hx354_5
             replace hx354_6 := (HB.out.cell (World.block_lt_of_cell? w _ hx354_6)).trans hx354_6
             replace p354 := eq_true p354
             replace q354 := eq_true q354
             try go_wp2_with (first | ((with_reducible refine gate_dst (N := 18) rfl ?_); refine box_event ?hg (N := 18) ?hd (cs := #[.int .i64 0, .int .i64 0, .int .i64 0, .int .i64 0, .int .i64 0, .int .i64 0, .bool false]) (t := 25) ?hr ?_; (case hd => rfl); (case hg => rfl); (case hr => exact zg); intro gb355 hg w46 hbox hb; have n0_ := aM (Kd.N_below (Kd.N_elderB (by (with_reducible repeat (first | apply Kd.N_alloc | apply Kd.N_drewN | apply Kd.N_drew)); exact HO_12.out) gb355 (Nat.le_of_eq hg.symm)) hb); have n1_ := aM (Kd.R_below (by (with_reducible repeat (first | apply Kd.R_alloc | apply Kd.R_drewN | apply Kd.R_drew)); exact HO_14.out) hb); have n2_ := aM (below_step (zb) hb); have n3_ := aM (hbox); have n4_ := aM ((by rw [hg]; exact (below_size (zb)) : w.heap.size ≤ gb355)); have n5_ := aM ((by rw [hg]; exact (below_size (zb)) : w.heap.size ≤ gb355)); clear HO_12; clear HO_14; clear HB; have HO_12 := n0_; have HO_14 := n1_; have HB := n2_; have BK355 := n3_; have GW355 := n4_; have GE355 := n5_; clear n0_ n1_ n2_ n3_ n4_ n5_; clear hb hbox hg; obtain ⟨hcz47_0, hcz47_1, hcz47_2, hcz47_3, hcz47_4, hcz47_5, hcz47_6, hfz47_0, hfz47_1, hfz47_2, hfz47_3, hfz47_4, hfz47_5, hfz47_6⟩ := cells7 BK355.out))
             have n0_ : Aside0 (Kd.N (Kd.slice 4 Kd.bool) 71 (((((((w46.setCell ⟨gb355, 0, none⟩ (.int .i64 ((rd_T25 l0 x17_2).f0))).setCell ⟨gb355, 1, none⟩ (.int .i64 ((rd_T25 l0 x17_2).f1))).setCell ⟨gb355, 2, none⟩ (.int .i64 ((rd_T25 l0 x17_2).f2))).setCell ⟨gb355, 3, none⟩ (.int .i64 ((rd_T25 l0 x17_2).f3))).setCell ⟨gb355, 4, none⟩ (.int .i64 ((rd_T25 l0 x17_2).f4))).setCell ⟨gb355, 5, none⟩ (.int .i64 ((rd_T25 l0 x17_2).f5))).setCell ⟨gb355, 6, none⟩ (.bool ((rd_T25 l0 x17_2).f6))) w.heap.size (fun k_ => some k_ ≠ (u14 : Value).ownBlock ∧ k_ ≠ gb355) (.slice Ao16 t347.length co16) t347) := ⟨by (with_reducible repeat (first | apply Kd.N_alloc | apply Kd.N_drewN | apply Kd.N_drew)); exact Kd.N_mono (Kd.N_far (p := ⟨gb355, 6, none⟩) (Kd.N_far (p := ⟨gb355, 5, none⟩) (Kd.N_far (p := ⟨gb355, 4, none⟩) (Kd.N_far (p := ⟨gb355, 3, none⟩) (Kd.N_far (p := ⟨gb355, 2, none⟩) (Kd.N_far (p := ⟨gb355, 1, none⟩) (Kd.N_far (p := ⟨gb355, 0, none⟩) (Kd.N_mono HO_12.out (fun k_ hk => (⟨hk, hk.2⟩ : _ ∧ k_ ≠ gb355))) (fun _ hk => hk.2) (.int .i64 ((rd_T25 l0 x17_2).f0))) (fun _ hk => hk.2) (.int .i64 ((rd_T25 l0 x17_2).f1))) (fun _ hk => hk.2) (.int .i64 ((rd_T25 l0 x17_2).f2))) (fun _ hk => hk.2) (.int .i64 ((rd_T25 l0 x17_2).f3))) (fun _ hk => hk.2) (.int .i64 ((rd_T25 l0 x17_2).f4))) (fun _ hk => hk.2) (.int .i64 ((rd_T25 l0 x17_2).f5))) (fun _ hk => hk.2) (.bool ((rd_T25 l0 x17_2).f6))) (fun _ hk => ⟨hk.1.1, hk.1.2⟩)⟩
             have n1_ : Aside0 (Kd.R (Kd.int .i64) 3 (((((((w46.setCell ⟨gb355, 0, none⟩ (.int .i64 ((rd_T25 l0 x17_2).f0))).setCell ⟨gb355, 1, none⟩ (.int .i64 ((rd_T25 l0 x17_2).f1))).setCell ⟨gb355, 2, none⟩ (.int .i64 ((rd_T25 l0 x17_2).f2))).setCell ⟨gb355, 3, none⟩ (.int .i64 ((rd_T25 l0 x17_2).f3))).setCell ⟨gb355, 4, none⟩ (.int .i64 ((rd_T25 l0 x17_2).f4))).setCell ⟨gb355, 5, none⟩ (.int .i64 ((rd_T25 l0 x17_2).f5))).setCell ⟨gb355, 6, none⟩ (.bool ((rd_T25 l0 x17_2).f6))) w.heap.size (fun _ => True) u14 x14_2) := ⟨by (with_reducible repeat (first | apply Kd.R_alloc | apply Kd.R_drewN | apply Kd.R_drew)); exact Kd.R_mono (Kd.R_far (p := ⟨gb355, 6, none⟩) (Kd.R_far (p := ⟨gb355, 5, none⟩) (Kd.R_far (p := ⟨gb355, 4, none⟩) (Kd.R_far (p := ⟨gb355, 3, none⟩) (Kd.R_far (p := ⟨gb355, 2, none⟩) (Kd.R_far (p := ⟨gb355, 1, none⟩) (Kd.R_far (p := ⟨gb355, 0, none⟩) (Kd.R_types HO_14.out BK355.out (by decide)) (fun _ hk => hk.2) (.int .i64 ((rd_T25 l0 x17_2).f0))) (fun _ hk => hk.2) (.int .i64 ((rd_T25 l0 x17_2).f1))) (fun _ hk => hk.2) (.int .i64 ((rd_T25 l0 x17_2).f2))) (fun _ hk => hk.2) (.int .i64 ((rd_T25 l0 x17_2).f3))) (fun _ hk => hk.2) (.int .i64 ((rd_T25 l0 x17_2).f4))) (fun _ hk => hk.2) (.int .i64 ((rd_T25 l0 x17_2).f5))) (fun _ hk => hk.2) (.bool ((rd_T25 l0 x17_2).f6))) (fun _ hk => trivial)⟩
             have n2_ : Aside0 ((((((((w46.setCell ⟨gb355, 0, none⟩ (.int .i64 ((rd_T25 l0 x17_2).f0))).setCell ⟨gb355, 1, none⟩ (.int .i64 ((rd_T25 l0 x17_2).f1))).setCell ⟨gb355, 2, none⟩ (.int .i64 ((rd_T25 l0 x17_2).f2))).setCell ⟨gb355, 3, none⟩ (.int .i64 ((rd_T25 l0 x17_2).f3))).setCell ⟨gb355, 4, none⟩ (.int .i64 ((rd_T25 l0 x17_2).f4))).setCell ⟨gb355, 5, none⟩ (.int .i64 ((rd_T25 l0 x17_2).f5))).setCell ⟨gb355, 6, none⟩ (.bool ((rd_T25 l0 x17_2).f6))).heap[gb355]? = some (.cells #[.int .i64 ((rd_T25 l0 x17_2).f0), .int .i64 ((rd_T25 l0 x17_2).f1), .int .i64 ((rd_T25 l0 x17_2).f2), .int .i64 ((rd_T25 l0 x17_2).f3), .int .i64 ((rd_T25 l0 x17_2).f4), .int .i64 ((rd_T25 l0 x17_2).f5), .bool ((rd_T25 l0 x17_2).f6)] 25 (0, 0))) := ⟨by refine pq ?_; refine blk_put (cs := #[.int .i64 ((rd_T25 l0 x17_2).f0), .int .i64 ((rd_T25 l0 x17_2).f1), .int .i64 ((rd_T25 l0 x17_2).f2), .int .i64 ((rd_T25 l0 x17_2).f3), .int .i64 ((rd_T25 l0 x17_2).f4), .int .i64 ((rd_T25 l0 x17_2).f5), .bool false]) ?_ 6 _ rfl; refine pq ?_; refine blk_put (cs := #[.int .i64 ((rd_T25 l0 x17_2).f0), .int .i64 ((rd_T25 l0 x17_2).f1), .int .i64 ((rd_T25 l0 x17_2).f2), .int .i64 ((rd_T25 l0 x17_2).f3), .int .i64 ((rd_T25 l0 x17_2).f4), .int .i64 0, .bool false]) ?_ 5 _ rfl; refine pq ?_; refine blk_put (cs := #[.int .i64 ((rd_T25 l0 x17_2).f0), .int .i64 ((rd_T25 l0 x17_2).f1), .int .i64 ((rd_T25 l0 x17_2).f2), .int .i64 ((rd_T25 l0 x17_2).f3), .int .i64 0, .int .i64 0, .bool false]) ?_ 4 _ rfl; refine pq ?_; refine blk_put (cs := #[.int .i64 ((rd_T25 l0 x17_2).f0), .int .i64 ((rd_T25 l0 x17_2).f1), .int .i64 ((rd_T25 l0 x17_2).f2), .int .i64 0, .int .i64 0, .int .i64 0, .bool false]) ?_ 3 _ rfl; refine pq ?_; refine blk_put (cs := #[.int .i64 ((rd_T25 l0 x17_2).f0), .int .i64 ((rd_T25 l0 x17_2).f1), .int .i64 0, .int .i64 0, .int .i64 0, .int .i64 0, .bool false]) ?_ 2 _ rfl; refine pq ?_; refine blk_put (cs := #[.int .i64 ((rd_T25 l0 x17_2).f0), .int .i64 0, .int .i64 0, .int .i64 0, .int .i64 0, .int .i64 0, .bool false]) ?_ 1 _ rfl; refine pq ?_; refine blk_put (cs := #[.int .i64 0, .int .i64 0, .int .i64 0, .int .i64 0, .int .i64 0, .int .i64 0, .bool false]) ?_ 0 _ rfl; refine pq ?_; exact BK355.out⟩
             have n3_ : Aside0 (Below w.heap.size w (((((((w46.setCell ⟨gb355, 0, none⟩ (.int .i64 ((rd_T25 l0 x17_2).f0))).setCell ⟨gb355, 1, none⟩ (.int .i64 ((rd_T25 l0 x17_2).f1))).setCell ⟨gb355, 2, none⟩ (.int .i64 ((rd_T25 l0 x17_2).f2))).setCell ⟨gb355, 3, none⟩ (.int .i64 ((rd_T25 l0 x17_2).f3))).setCell ⟨gb355, 4, none⟩ (.int .i64 ((rd_T25 l0 x17_2).f4))).setCell ⟨gb355, 5, none⟩ (.int .i64 ((rd_T25 l0 x17_2).f5))).setCell ⟨gb355, 6, none⟩ (.bool ((rd_T25 l0 x17_2).f6)))) := ⟨zb⟩
             (try clear HO_12)
             (try clear HO_14)
             (try clear BK355)
             (try clear HB)
             generalize (((((((w46.setCell ⟨gb355, 0, none⟩ (.int .i64 ((rd_T25 l0 x17_2).f0))).setCell ⟨gb355, 1, none⟩ (.int .i64 ((rd_T25 l0 x17_2).f1))).setCell ⟨gb355, 2, none⟩ (.int .i64 ((rd_T25 l0 x17_2).f2))).setCell ⟨gb355, 3, none⟩ (.int .i64 ((rd_T25 l0 x17_2).f3))).setCell ⟨gb355, 4, none⟩ (.int .i64 ((rd_T25 l0 x17_2).f4))).setCell ⟨gb355, 5, none⟩ (.int .i64 ((rd_T25 l0 x17_2).f5))).setCell ⟨gb355, 6, none⟩ (.bool ((rd_T25 l0 x17_2).f6))) = w48 at n0_ n1_ n2_ n3_ ⊢
             have HO_12 := n0_
             have HO_14 := n1_
             have BK355 := n2_
             have HB := n3_
             clear n0_ n1_ n2_ n3_
             have n0_ := aM (Kd.N_drew HO_12.out)
             have n1_ := aM (Kd.R_drew HO_14.out)
             have n2_ := aM (blk_drew BK355.out)
             have n3_ := aM (below_drew1 HB.out)
             clear HO_12
             clear HO_14
             clear BK355
             clear HB
             have HO_12 := n0_
             have HO_14 := n1_
             have BK355 := n2_
             have HB := n3_
             clear n0_ n1_ n2_ n3_
             refine start_ (n := 28) (S := fun w' => w'.cell? ⟨gb355, 0, none⟩ = some (.int .i64 ((rd_T25 l0 x17_2).f0)) ∧ w'.cell? ⟨gb355, 1, none⟩ = some (.int .i64 ((rd_T25 l0 x17_2).f1)) ∧ w'.cell? ⟨gb355, 2, none⟩ = some (.int .i64 ((rd_T25 l0 x17_2).f2)) ∧ w'.cell? ⟨gb355, 3, none⟩ = some (.int .i64 ((rd_T25 l0 x17_2).f3)) ∧ w'.cell? ⟨gb355, 4, none⟩ = some (.int .i64 ((rd_T25 l0 x17_2).f4)) ∧ w'.cell? ⟨gb355, 5, none⟩ = some (.int .i64 ((rd_T25 l0 x17_2).f5)) ∧ w'.cell? ⟨gb355, 6, none⟩ = some (.bool ((rd_T25 l0 x17_2).f6))) (ds := []) #[false, false, false, false, false, false, false, false, false, false, false, false, false, false, false, false, false, false, false, false, false, false, false, false, false, false, false, false] (by kernel_rfl) rfl rfl ⟨(blk_cell BK355.out 0).trans rfl, (blk_cell BK355.out 1).trans rfl, (blk_cell BK355.out 2).trans rfl, (blk_cell BK355.out 3).trans rfl, (blk_cell BK355.out 4).trans rfl, (blk_cell BK355.out 5).trans rfl, (blk_cell BK355.out 6).trans rfl⟩ (fun hHeld => ?_); refine with_tabW spec_ChainOf.tab16 spec_ChainOf.bits16 (fun HT_ HW_ => ?_)
             generalize w48.drew = w49 at HO_12 HO_14 BK355 HB hHeld ⊢
             refine pure_ (i := 0) (N := some 53) (v := ?_) (a' := ?_) #[true, false, false, false, false, false, false, false, false, false, false, false, false, false, false, false, false, false, false, false, false, false, false, false, false, false, false, false] rfl rfl (any_of HT_.out (by kernel_rfl)) (fun _ _ _ h => h) (Or.inl ⟨by rfl, ?_⟩) ?_ ?_
             rotate_left
             ·intro w'
              go_simp
              with_reducible rfl
             rotate_left
             ·simp only [Act.put, List.setIfInBounds_toArray, List.set_cons_zero, List.set_cons_succ, i64_w, i32_w]
              rfl
             refine pure_ (i := 2) (N := some 55) (v := ?_) (a' := ?_) #[true, false, true, false, false, false, false, false, false, false, false, false, false, false, false, false, false, false, false, false, false, false, false, false, false, false, false, false] rfl rfl (any_of HT_.out (by kernel_rfl)) (fun _ _ _ h => h) (Or.inl ⟨by rfl, ?_⟩) ?_ ?_
             rotate_left
             ·intro w'
              go_simp
              with_reducible rfl
             rotate_left
             ·simp only [Act.put, List.setIfInBounds_toArray, List.set_cons_zero, List.set_cons_succ, i64_w, i32_w]
              rfl
             refine take_ (i := 1) (N := some 54) (v := ?_) (a' := ?_) #[true, true, true, false, false, false, false, false, false, false, false, false, false, false, false, false, false, false, false, false, false, false, false, false, false, false, false, false] rfl rfl (take_ofW HT_.out HW_.out (by kernel_rfl)) (fun _ _ _ h => h) (Or.inl ⟨by rfl, ?_⟩) hHeld ?_ ?_
             rotate_left
             ·rintro w' ⟨s0, s1, s2, s3, s4, s5, s6⟩
              go_simp
              with_reducible rfl
             rotate_left
             ·simp only [Act.put, List.setIfInBounds_toArray, List.set_cons_zero, List.set_cons_succ, i64_w, i32_w]
              rfl
             refine pure_ (i := 3) (N := some 56) (v := ?_) (a' := ?_) #[true, true, true, true, false, false, false, false, false, false, false, false, false, false, false, false, false, false, false, false, false, false, false, false, false, false, false, false] rfl rfl (any_of HT_.out (by kernel_rfl)) (fun _ _ _ h => h) (Or.inl ⟨by rfl, ?_⟩) ?_ ?_
             rotate_left
             ·intro w'
              go_simp
              with_reducible rfl
             rotate_left
             ·simp only [Act.put, List.setIfInBounds_toArray, List.set_cons_zero, List.set_cons_succ, i64_w, i32_w]
              rfl
             refine pure_ (i := 4) (N := some 57) (v := ?_) (a' := ?_) #[true, true, true, true, true, false, false, false, false, false, false, false, false, false, false, false, false, false, false, false, false, false, false, false, false, false, false, false] rfl rfl (any_of HT_.out (by kernel_rfl)) (fun _ _ _ h => h) (Or.inl ⟨by rfl, ?_⟩) ?_ ?_
             rotate_left
             ·intro w'
              go_simp
              with_reducible rfl
             rotate_left
             ·simp only [Act.put, List.setIfInBounds_toArray, List.set_cons_zero, List.set_cons_succ, i64_w, i32_w]
              rfl
             refine pure_ (i := 6) (N := some 59) (v := ?_) (a' := ?_) #[true, true, true, true, true, false, true, false, false, false, false, false, false, false, false, false, false, false, false, false, false, false, false, false, false, false, false, false] rfl rfl (any_of HT_.out (by kernel_rfl)) (fun _ _ _ h => h) (Or.inl ⟨by rfl, ?_⟩) ?_ ?_
             rotate_left
             ·intro w'
              go_simp
              with_reducible rfl
             rotate_left
             ·simp only [Act.put, List.setIfInBounds_toArray, List.set_cons_zero, List.set_cons_succ, i64_w, i32_w]
              rfl
             refine pure_ (i := 7) (N := some 60) (v := ?_) (a' := ?_) #[true, true, true, true, true, false, true, true, false, false, false, false, false, false, false, false, false, false, false, false, false, false, false, false, false, false, false, false] rfl rfl (any_of HT_.out (by kernel_rfl)) (fun _ _ _ h => h) (Or.inl ⟨by rfl, ?_⟩) ?_ ?_
             rotate_left
             ·intro w'
              go_simp
              with_reducible rfl
             rotate_left
             ·simp only [Act.put, List.setIfInBounds_toArray, List.set_cons_zero, List.set_cons_succ, i64_w, i32_w]
              rfl
             refine take_ (i := 5) (N := some 58) (v := ?_) (a' := ?_) #[true, true, true, true, true, true, true, true, false, false, false, false, false, false, false, false, false, false, false, false, false, false, false, false, false, false, false, false] rfl rfl (take_ofW HT_.out HW_.out (by kernel_rfl)) (fun _ _ _ h => h) (Or.inl ⟨by rfl, ?_⟩) hHeld ?_ ?_
             rotate_left
             ·rintro w' ⟨s0, s1, s2, s3, s4, s5, s6⟩
              go_simp
              with_reducible rfl
             rotate_left
             ·simp only [Act.put, List.setIfInBounds_toArray, List.set_cons_zero, List.set_cons_succ, i64_w, i32_w]
              rfl
             refine one_ (i := 8) (N := some 61) #[true, true, true, true, true, true, true, true, true, false, false, false, false, false, false, false, false, false, false, false, false, false, false, false, false, false, false, false] rfl rfl (one_of HT_.out (by kernel_rfl)) (by decide) (fun K hK => ?_)
             refine goes_ Try.func21 (by kernel_rfl) rfl #[.agg #[.int .i64 ((rd_T25 l0 x17_2).f0), .int .i64 ((rd_T25 l0 x17_2).f1), .int .i64 ((rd_T25 l0 x17_2).f2), .int .i64 ((rd_T25 l0 x17_2).f3), .int .i64 ((rd_T25 l0 x17_2).f4), .int .i64 ((rd_T25 l0 x17_2).f5), .bool ((rd_T25 l0 x17_2).f6)], .int .i64 a3, .int .i64 a4] (by rfl) rfl rfl za ?_
             with_reducible refine (spec_Applies.calls ((rd_T25 l0 x17_2).f0) ((rd_T25 l0 x17_2).f1) ((rd_T25 l0 x17_2).f2) ((rd_T25 l0 x17_2).f3) ((rd_T25 l0 x17_2).f4) ((rd_T25 l0 x17_2).f5) ((rd_T25 l0 x17_2).f6) a3 a4 true _ A23.out).mono ?_
             rintro e w50 ⟨rfl, hb⟩
             refine ⟨_, rfl, ?_⟩
             have n0_ := aM (Kd.N_below (by (with_reducible repeat (first | apply Kd.N_alloc | apply Kd.N_drewN | apply Kd.N_drew)); exact HO_12.out) hb)
             have n1_ := aM (Kd.R_below (by (with_reducible repeat (first | apply Kd.R_alloc | apply Kd.R_drewN | apply Kd.R_drew)); exact HO_14.out) hb)
             have n2_ := aM (bb BK355.out hb)
             have n3_ := aM (below_step (zb) hb)
             clear HO_12
             clear HO_14
             clear BK355
             clear HB
             have HO_12 := n0_
             have HO_14 := n1_
             have BK355 := n2_
             have HB := n3_
             clear n0_ n1_ n2_ n3_
             (try clear hb)
             (try clear hb2)
             (try clear hk)
             (try clear hi)
             refine hK.out _ _ ⟨(blk_cell BK355.out 0).trans rfl, (blk_cell BK355.out 1).trans rfl, (blk_cell BK355.out 2).trans rfl, (blk_cell BK355.out 3).trans rfl, (blk_cell BK355.out 4).trans rfl, (blk_cell BK355.out 5).trans rfl, (blk_cell BK355.out 6).trans rfl⟩ (fun hHeld => ?_)
             clear hK K
             refine norm_ (a' := ?_) ?_ ?_
             rotate_left
             ·show Act.put _ (some 61) _ = _
              simp only [Act.put, List.setIfInBounds_toArray, List.set_cons_zero, List.set_cons_succ, i64_w, i32_w]
              rfl
             refine pure_ (i := 9) (N := some 62) (v := ?_) (a' := ?_) #[true, true, true, true, true, true, true, true, true, true, false, false, false, false, false, false, false, false, false, false, false, false, false, false, false, false, false, false] rfl rfl (any_of HT_.out (by kernel_rfl)) (fun _ _ _ h => h) (Or.inl ⟨by rfl, ?_⟩) ?_ ?_
             rotate_left
             ·intro w'
              go_simp
              with_reducible rfl
             rotate_left
             ·simp only [Act.put, List.setIfInBounds_toArray, List.set_cons_zero, List.set_cons_succ, i64_w, i32_w]
              rfl
             refine pure_ (i := 10) (N := some 63) (v := ?_) (a' := ?_) #[true, true, true, true, true, true, true, true, true, true, true, false, false, false, false, false, false, false, false, false, false, false, false, false, false, false, false, false] rfl rfl (any_of HT_.out (by kernel_rfl)) (fun _ _ _ h => h) (Or.inl ⟨by rfl, ?_⟩) ?_ ?_
             rotate_left
             ·intro w'
              go_simp
              with_reducible rfl
             rotate_left
             ·simp only [Act.put, List.setIfInBounds_toArray, List.set_cons_zero, List.set_cons_succ, i64_w, i32_w]
              rfl
             refine pure_ (i := 11) (N := some 64) (v := ?_) (a' := ?_) #[true, true, true, true, true, true, true, true, true, true, true, true, false, false, false, false, false, false, false, false, false, false, false, false, false, false, false, false] rfl rfl (any_of HT_.out (by kernel_rfl)) (fun _ _ _ h => h) (Or.inl ⟨by rfl, ?_⟩) ?_ ?_
             rotate_left
             ·intro w'
              go_simp
              with_reducible rfl
             rotate_left
             ·simp only [Act.put, List.setIfInBounds_toArray, List.set_cons_zero, List.set_cons_succ, i64_w, i32_w]
              rfl
             refine pure_ (i := 13) (N := some 66) (v := ?_) (a' := ?_) #[true, true, true, true, true, true, true, true, true, true, true, true, false, true, false, false, false, false, false, false, false, false, false, false, false, false, false, false] rfl rfl (any_of HT_.out (by kernel_rfl)) (fun _ _ _ h => h) (Or.inl ⟨by rfl, ?_⟩) ?_ ?_
             rotate_left
             ·intro w'
              go_simp
              with_reducible rfl
             rotate_left
             ·simp only [Act.put, List.setIfInBounds_toArray, List.set_cons_zero, List.set_cons_succ, i64_w, i32_w]
              rfl
             refine pure_ (i := 14) (N := some 67) (v := ?_) (a' := ?_) #[true, true, true, true, true, true, true, true, true, true, true, true, false, true, true, false, false, false, false, false, false, false, false, false, false, false, false, false] rfl rfl (any_of HT_.out (by kernel_rfl)) (fun _ _ _ h => h) (Or.inl ⟨by rfl, ?_⟩) ?_ ?_
             rotate_left
             ·intro w'
              go_simp
              with_reducible rfl
             rotate_left
             ·simp only [Act.put, List.setIfInBounds_toArray, List.set_cons_zero, List.set_cons_succ, i64_w, i32_w]
              rfl
             refine take_ (i := 12) (N := some 65) (v := ?_) (a' := ?_) #[true, true, true, true, true, true, true, true, true, true, true, true, true, true, true, false, false, false, false, false, false, false, false, false, false, false, false, false] rfl rfl (take_ofW HT_.out HW_.out (by kernel_rfl)) (fun _ _ _ h => h) (Or.inl ⟨by rfl, ?_⟩) hHeld ?_ ?_
             rotate_left
             ·rintro w' ⟨s0, s1, s2, s3, s4, s5, s6⟩
              go_simp
              with_reducible rfl
             rotate_left
             ·simp only [Act.put, List.setIfInBounds_toArray, List.set_cons_zero, List.set_cons_succ, i64_w, i32_w]
              rfl
             refine pure_ (i := 15) (N := some 68) (v := ?_) (a' := ?_) #[true, true, true, true, true, true, true, true, true, true, true, true, true, true, true, true, false, false, false, false, false, false, false, false, false, false, false, false] rfl rfl (any_of HT_.out (by kernel_rfl)) (fun _ _ _ h => h) (Or.inl ⟨by rfl, ?_⟩) ?_ ?_
             rotate_left
             ·intro w'
              go_simp
              with_reducible rfl
             rotate_left
             ·simp only [Act.put, List.setIfInBounds_toArray, List.set_cons_zero, List.set_cons_succ, i64_w, i32_w]
              rfl
             refine pure_ (i := 16) (N := some 69) (v := ?_) (a' := ?_) #[true, true, true, true, true, true, true, true, true, true, true, true, true, true, true, true, true, false, false, false, false, false, false, false, false, false, false, false] rfl rfl (any_of HT_.out (by kernel_rfl)) (fun _ _ _ h => h) (Or.inl ⟨by rfl, ?_⟩) ?_ ?_
             rotate_left
             ·intro w'
              go_simp
              with_reducible rfl
             rotate_left
             ·simp only [Act.put, List.setIfInBounds_toArray, List.set_cons_zero, List.set_cons_succ, i64_w, i32_w]
              rfl
             refine pure_ (i := 17) (N := some 70) (v := ?_) (a' := ?_) #[true, true, true, true, true, true, true, true, true, true, true, true, true, true, true, true, true, true, false, false, false, false, false, false, false, false, false, false] rfl rfl (any_of HT_.out (by kernel_rfl)) (fun _ _ _ h => h) (Or.inl ⟨by rfl, ?_⟩) ?_ ?_
             rotate_left
             ·intro w'
              go_simp
              with_reducible rfl
             rotate_left
             ·simp only [Act.put, List.setIfInBounds_toArray, List.set_cons_zero, List.set_cons_succ, i64_w, i32_w]
              rfl
             refine pure_ (i := 18) (N := some 71) (v := undef) (a' := ?_) #[true, true, true, true, true, true, true, true, true, true, true, true, true, true, true, true, true, true, true, false, false, false, false, false, false, false, false, false] rfl rfl (any_of HT_.out (by kernel_rfl)) (fun _ _ _ h => h) (Or.inr ⟨by rfl, rfl⟩) ?_ ?_
             rotate_left
             ·simp only [Act.put, List.setIfInBounds_toArray, List.set_cons_zero, List.set_cons_succ, i64_w, i32_w]
              rfl
             refine pure_ (i := 19) (N := some 72) (v := undef) (a' := ?_) #[true, true, true, true, true, true, true, true, true, true, true, true, true, true, true, true, true, true, true, true, false, false, false, false, false, false, false, false] rfl rfl (any_of HT_.out (by kernel_rfl)) (fun _ _ _ h => h) (Or.inr ⟨by rfl, rfl⟩) ?_ ?_
             rotate_left
             ·simp only [Act.put, List.setIfInBounds_toArray, List.set_cons_zero, List.set_cons_succ, i64_w, i32_w]
              rfl
             refine pure_ (i := 20) (N := some 73) (v := undef) (a' := ?_) #[true, true, true, true, true, true, true, true, true, true, true, true, true, true, true, true, true, true, true, true, true, false, false, false, false, false, false, false] rfl rfl (any_of HT_.out (by kernel_rfl)) (fun _ _ _ h => h) (Or.inr ⟨by rfl, rfl⟩) ?_ ?_
             rotate_left
             ·simp only [Act.put, List.setIfInBounds_toArray, List.set_cons_zero, List.set_cons_succ, i64_w, i32_w]
              rfl
             refine pure_ (i := 21) (N := some 74) (v := undef) (a' := ?_) #[true, true, true, true, true, true, true, true, true, true, true, true, true, true, true, true, true, true, true, true, true, true, false, false, false, false, false, false] rfl rfl (any_of HT_.out (by kernel_rfl)) (fun _ _ _ h => h) (Or.inr ⟨by rfl, rfl⟩) ?_ ?_
             rotate_left
             ·simp only [Act.put, List.setIfInBounds_toArray, List.set_cons_zero, List.set_cons_succ, i64_w, i32_w]
              rfl
             refine pure_ (i := 22) (N := some 75) (v := undef) (a' := ?_) #[true, true, true, true, true, true, true, true, true, true, true, true, true, true, true, true, true, true, true, true, true, true, true, false, false, false, false, false] rfl rfl (any_of HT_.out (by kernel_rfl)) (fun _ _ _ h => h) (Or.inr ⟨by rfl, rfl⟩) ?_ ?_
             rotate_left
             ·simp only [Act.put, List.setIfInBounds_toArray, List.set_cons_zero, List.set_cons_succ, i64_w, i32_w]
              rfl
             refine pure_ (i := 23) (N := some 76) (v := undef) (a' := ?_) #[true, true, true, true, true, true, true, true, true, true, true, true, true, true, true, true, true, true, true, true, true, true, true, true, false, false, false, false] rfl rfl (any_of HT_.out (by kernel_rfl)) (fun _ _ _ h => h) (Or.inr ⟨by rfl, rfl⟩) ?_ ?_
             rotate_left
             ·simp only [Act.put, List.setIfInBounds_toArray, List.set_cons_zero, List.set_cons_succ, i64_w, i32_w]
              rfl
             refine pure_ (i := 24) (N := some 77) (v := undef) (a' := ?_) #[true, true, true, true, true, true, true, true, true, true, true, true, true, true, true, true, true, true, true, true, true, true, true, true, true, false, false, false] rfl rfl (any_of HT_.out (by kernel_rfl)) (fun _ _ _ h => h) (Or.inr ⟨by rfl, rfl⟩) ?_ ?_
             rotate_left
             ·simp only [Act.put, List.setIfInBounds_toArray, List.set_cons_zero, List.set_cons_succ, i64_w, i32_w]
              rfl
             refine pure_ (i := 25) (N := some 78) (v := undef) (a' := ?_) #[true, true, true, true, true, true, true, true, true, true, true, true, true, true, true, true, true, true, true, true, true, true, true, true, true, true, false, false] rfl rfl (any_of HT_.out (by kernel_rfl)) (fun _ _ _ h => h) (Or.inr ⟨by rfl, rfl⟩) ?_ ?_
             rotate_left
             ·simp only [Act.put, List.setIfInBounds_toArray, List.set_cons_zero, List.set_cons_succ, i64_w, i32_w]
              rfl
             refine pure_ (i := 26) (N := some 79) (v := undef) (a' := ?_) #[true, true, true, true, true, true, true, true, true, true, true, true, true, true, true, true, true, true, true, true, true, true, true, true, true, true, true, false] rfl rfl (any_of HT_.out (by kernel_rfl)) (fun _ _ _ h => h) (Or.inr ⟨by rfl, rfl⟩) ?_ ?_
             rotate_left
             ·simp only [Act.put, List.setIfInBounds_toArray, List.set_cons_zero, List.set_cons_succ, i64_w, i32_w]
              rfl
             refine pure_ (i := 27) (N := some 80) (v := ?_) (a' := ?_) #[true, true, true, true, true, true, true, true, true, true, true, true, true, true, true, true, true, true, true, true, true, true, true, true, true, true, true, true] rfl rfl (any_of HT_.out (by kernel_rfl)) (fun _ _ _ h => h) (Or.inl ⟨by rfl, ?_⟩) ?_ ?_
             rotate_left
             ·intro w'
              go_simp
              with_reducible rfl
             rotate_left
             ·simp only [Act.put, List.setIfInBounds_toArray, List.set_cons_zero, List.set_cons_succ, i64_w, i32_w]
              rfl
             refine done_ (done_of HT_.out (by kernel_rfl)) ?_
             try go_wp2
             go_roundg k2
             case measure => have := HK1.out; have := HK2.out; omega
             case rel => exact ⟨(x14_2), (x15_2), (wrap64 (x17_2 + 1)), zs, zs, H', ⟨by have := HK1.out; have := HK2.out; omega⟩, ⟨by (with_reducible repeat (first | apply Kd.N_alloc | apply Kd.N_drewN | apply Kd.N_drew)); exact Kd.N_mono HO_12.out (fun _ hk => hk.1)⟩, ⟨by (with_reducible repeat (first | apply Kd.R_alloc | apply Kd.R_drewN | apply Kd.R_drew)); exact HO_14.out⟩, ⟨zb⟩⟩
           ·replace c24 := Bool.eq_false_iff.mpr c24
            subst c24
            have H1 : (spec_ChainOf.l1 k2 l0 a3 a4 t347 x14_2 x15_2 x16_1 (wrap64 (x17_2 + 1))) = some (r1, r2) := by rw [if_neg (show ¬ (false = true) by decide)] at H; exact H
            clear H
            have H := H1
            clear H1
            have H' := aM H
            clear H
            have p354 : 0 ≤ (x17_2 : Int) := of_decide_eq_true (by first | (with_reducible assumption) | assumption)
            have q354 : x17_2 < (l0.length : Int) := of_decide_eq_true (by first | (with_reducible assumption) | assumption)
            obtain ⟨ad354, e354, hx354_0, hx354_1, hx354_2, hx354_3, hx354_4, hx354_5, hx354_6⟩ := at_T25 HR0.out x17_2 p354 q354
            cases e354
            replace hx354_0 := (HB.out.cell (World.block_lt_of_cell? w _ hx354_0)).trans hx354_0
            replace hx354_1 := (HB.out.cell (World.block_lt_of_cell? w _ hx354_1)).trans hx354_1
            replace hx354_2 := (HB.out.cell (World.block_lt_of_cell? w _ hx354_2)).trans hx354_2
            replace hx354_3 := (HB.out.cell (World.block_lt_of_cell? w _ hx354_3)).trans hx354_3
            replace hx354_4 := (HB.out.cell (World.block_lt_of_cell? w _ hx354_4)).trans hx354_4
            replace hx354_5 := (HB.out.cell (World.block_lt_of_cell? w _ hx354_5)).trans hx354_5
            replace hx354_6 := (HB.out.cell (World.block_lt_of_cell? w _ hx354_6)).trans hx354_6
            replace p354 := eq_true p354
            replace q354 := eq_true q354
            try go_wp2_with (first | ((with_reducible refine gate_dst (N := 18) rfl ?_); refine box_event ?hg (N := 18) ?hd (cs := #[.int .i64 0, .int .i64 0, .int .i64 0, .int .i64 0, .int .i64 0, .int .i64 0, .bool false]) (t := 25) ?hr ?_; (case hd => rfl); (case hg => rfl); (case hr => exact zg); intro gb355 hg w51 hbox hb; have n0_ := aM (Kd.N_below (Kd.N_elderB (by (with_reducible repeat (first | apply Kd.N_alloc | apply Kd.N_drewN | apply Kd.N_drew)); exact HO_12.out) gb355 (Nat.le_of_eq hg.symm)) hb); have n1_ := aM (Kd.R_below (by (with_reducible repeat (first | apply Kd.R_alloc | apply Kd.R_drewN | apply Kd.R_drew)); exact HO_14.out) hb); have n2_ := aM (below_step (zb) hb); have n3_ := aM (hbox); have n4_ := aM ((by rw [hg]; exact (below_size (zb)) : w.heap.size ≤ gb355)); have n5_ := aM ((by rw [hg]; exact (below_size (zb)) : w.heap.size ≤ gb355)); clear HO_12; clear HO_14; clear HB; have HO_12 := n0_; have HO_14 := n1_; have HB := n2_; have BK355 := n3_; have GW355 := n4_; have GE355 := n5_; clear n0_ n1_ n2_ n3_ n4_ n5_; clear hb hbox hg; obtain ⟨hcz52_0, hcz52_1, hcz52_2, hcz52_3, hcz52_4, hcz52_5, hcz52_6, hfz52_0, hfz52_1, hfz52_2, hfz52_3, hfz52_4, hfz52_5, hfz52_6⟩ := cells7 BK355.out))
            have n0_ : Aside0 (Kd.N (Kd.slice 4 Kd.bool) 71 (((((((w51.setCell ⟨gb355, 0, none⟩ (.int .i64 ((rd_T25 l0 x17_2).f0))).setCell ⟨gb355, 1, none⟩ (.int .i64 ((rd_T25 l0 x17_2).f1))).setCell ⟨gb355, 2, none⟩ (.int .i64 ((rd_T25 l0 x17_2).f2))).setCell ⟨gb355, 3, none⟩ (.int .i64 ((rd_T25 l0 x17_2).f3))).setCell ⟨gb355, 4, none⟩ (.int .i64 ((rd_T25 l0 x17_2).f4))).setCell ⟨gb355, 5, none⟩ (.int .i64 ((rd_T25 l0 x17_2).f5))).setCell ⟨gb355, 6, none⟩ (.bool ((rd_T25 l0 x17_2).f6))) w.heap.size (fun k_ => some k_ ≠ (u14 : Value).ownBlock ∧ k_ ≠ gb355) (.slice Ao16 t347.length co16) t347) := ⟨by (with_reducible repeat (first | apply Kd.N_alloc | apply Kd.N_drewN | apply Kd.N_drew)); exact Kd.N_mono (Kd.N_far (p := ⟨gb355, 6, none⟩) (Kd.N_far (p := ⟨gb355, 5, none⟩) (Kd.N_far (p := ⟨gb355, 4, none⟩) (Kd.N_far (p := ⟨gb355, 3, none⟩) (Kd.N_far (p := ⟨gb355, 2, none⟩) (Kd.N_far (p := ⟨gb355, 1, none⟩) (Kd.N_far (p := ⟨gb355, 0, none⟩) (Kd.N_mono HO_12.out (fun k_ hk => (⟨hk, hk.2⟩ : _ ∧ k_ ≠ gb355))) (fun _ hk => hk.2) (.int .i64 ((rd_T25 l0 x17_2).f0))) (fun _ hk => hk.2) (.int .i64 ((rd_T25 l0 x17_2).f1))) (fun _ hk => hk.2) (.int .i64 ((rd_T25 l0 x17_2).f2))) (fun _ hk => hk.2) (.int .i64 ((rd_T25 l0 x17_2).f3))) (fun _ hk => hk.2) (.int .i64 ((rd_T25 l0 x17_2).f4))) (fun _ hk => hk.2) (.int .i64 ((rd_T25 l0 x17_2).f5))) (fun _ hk => hk.2) (.bool ((rd_T25 l0 x17_2).f6))) (fun _ hk => ⟨hk.1.1, hk.1.2⟩)⟩
            have n1_ : Aside0 (Kd.R (Kd.int .i64) 3 (((((((w51.setCell ⟨gb355, 0, none⟩ (.int .i64 ((rd_T25 l0 x17_2).f0))).setCell ⟨gb355, 1, none⟩ (.int .i64 ((rd_T25 l0 x17_2).f1))).setCell ⟨gb355, 2, none⟩ (.int .i64 ((rd_T25 l0 x17_2).f2))).setCell ⟨gb355, 3, none⟩ (.int .i64 ((rd_T25 l0 x17_2).f3))).setCell ⟨gb355, 4, none⟩ (.int .i64 ((rd_T25 l0 x17_2).f4))).setCell ⟨gb355, 5, none⟩ (.int .i64 ((rd_T25 l0 x17_2).f5))).setCell ⟨gb355, 6, none⟩ (.bool ((rd_T25 l0 x17_2).f6))) w.heap.size (fun _ => True) u14 x14_2) := ⟨by (with_reducible repeat (first | apply Kd.R_alloc | apply Kd.R_drewN | apply Kd.R_drew)); exact Kd.R_mono (Kd.R_far (p := ⟨gb355, 6, none⟩) (Kd.R_far (p := ⟨gb355, 5, none⟩) (Kd.R_far (p := ⟨gb355, 4, none⟩) (Kd.R_far (p := ⟨gb355, 3, none⟩) (Kd.R_far (p := ⟨gb355, 2, none⟩) (Kd.R_far (p := ⟨gb355, 1, none⟩) (Kd.R_far (p := ⟨gb355, 0, none⟩) (Kd.R_types HO_14.out BK355.out (by decide)) (fun _ hk => hk.2) (.int .i64 ((rd_T25 l0 x17_2).f0))) (fun _ hk => hk.2) (.int .i64 ((rd_T25 l0 x17_2).f1))) (fun _ hk => hk.2) (.int .i64 ((rd_T25 l0 x17_2).f2))) (fun _ hk => hk.2) (.int .i64 ((rd_T25 l0 x17_2).f3))) (fun _ hk => hk.2) (.int .i64 ((rd_T25 l0 x17_2).f4))) (fun _ hk => hk.2) (.int .i64 ((rd_T25 l0 x17_2).f5))) (fun _ hk => hk.2) (.bool ((rd_T25 l0 x17_2).f6))) (fun _ hk => trivial)⟩
            have n2_ : Aside0 ((((((((w51.setCell ⟨gb355, 0, none⟩ (.int .i64 ((rd_T25 l0 x17_2).f0))).setCell ⟨gb355, 1, none⟩ (.int .i64 ((rd_T25 l0 x17_2).f1))).setCell ⟨gb355, 2, none⟩ (.int .i64 ((rd_T25 l0 x17_2).f2))).setCell ⟨gb355, 3, none⟩ (.int .i64 ((rd_T25 l0 x17_2).f3))).setCell ⟨gb355, 4, none⟩ (.int .i64 ((rd_T25 l0 x17_2).f4))).setCell ⟨gb355, 5, none⟩ (.int .i64 ((rd_T25 l0 x17_2).f5))).setCell ⟨gb355, 6, none⟩ (.bool ((rd_T25 l0 x17_2).f6))).heap[gb355]? = some (.cells #[.int .i64 ((rd_T25 l0 x17_2).f0), .int .i64 ((rd_T25 l0 x17_2).f1), .int .i64 ((rd_T25 l0 x17_2).f2), .int .i64 ((rd_T25 l0 x17_2).f3), .int .i64 ((rd_T25 l0 x17_2).f4), .int .i64 ((rd_T25 l0 x17_2).f5), .bool ((rd_T25 l0 x17_2).f6)] 25 (0, 0))) := ⟨by refine pq ?_; refine blk_put (cs := #[.int .i64 ((rd_T25 l0 x17_2).f0), .int .i64 ((rd_T25 l0 x17_2).f1), .int .i64 ((rd_T25 l0 x17_2).f2), .int .i64 ((rd_T25 l0 x17_2).f3), .int .i64 ((rd_T25 l0 x17_2).f4), .int .i64 ((rd_T25 l0 x17_2).f5), .bool false]) ?_ 6 _ rfl; refine pq ?_; refine blk_put (cs := #[.int .i64 ((rd_T25 l0 x17_2).f0), .int .i64 ((rd_T25 l0 x17_2).f1), .int .i64 ((rd_T25 l0 x17_2).f2), .int .i64 ((rd_T25 l0 x17_2).f3), .int .i64 ((rd_T25 l0 x17_2).f4), .int .i64 0, .bool false]) ?_ 5 _ rfl; refine pq ?_; refine blk_put (cs := #[.int .i64 ((rd_T25 l0 x17_2).f0), .int .i64 ((rd_T25 l0 x17_2).f1), .int .i64 ((rd_T25 l0 x17_2).f2), .int .i64 ((rd_T25 l0 x17_2).f3), .int .i64 0, .int .i64 0, .bool false]) ?_ 4 _ rfl; refine pq ?_; refine blk_put (cs := #[.int .i64 ((rd_T25 l0 x17_2).f0), .int .i64 ((rd_T25 l0 x17_2).f1), .int .i64 ((rd_T25 l0 x17_2).f2), .int .i64 0, .int .i64 0, .int .i64 0, .bool false]) ?_ 3 _ rfl; refine pq ?_; refine blk_put (cs := #[.int .i64 ((rd_T25 l0 x17_2).f0), .int .i64 ((rd_T25 l0 x17_2).f1), .int .i64 0, .int .i64 0, .int .i64 0, .int .i64 0, .bool false]) ?_ 2 _ rfl; refine pq ?_; refine blk_put (cs := #[.int .i64 ((rd_T25 l0 x17_2).f0), .int .i64 0, .int .i64 0, .int .i64 0, .int .i64 0, .int .i64 0, .bool false]) ?_ 1 _ rfl; refine pq ?_; refine blk_put (cs := #[.int .i64 0, .int .i64 0, .int .i64 0, .int .i64 0, .int .i64 0, .int .i64 0, .bool false]) ?_ 0 _ rfl; refine pq ?_; exact BK355.out⟩
            have n3_ : Aside0 (Below w.heap.size w (((((((w51.setCell ⟨gb355, 0, none⟩ (.int .i64 ((rd_T25 l0 x17_2).f0))).setCell ⟨gb355, 1, none⟩ (.int .i64 ((rd_T25 l0 x17_2).f1))).setCell ⟨gb355, 2, none⟩ (.int .i64 ((rd_T25 l0 x17_2).f2))).setCell ⟨gb355, 3, none⟩ (.int .i64 ((rd_T25 l0 x17_2).f3))).setCell ⟨gb355, 4, none⟩ (.int .i64 ((rd_T25 l0 x17_2).f4))).setCell ⟨gb355, 5, none⟩ (.int .i64 ((rd_T25 l0 x17_2).f5))).setCell ⟨gb355, 6, none⟩ (.bool ((rd_T25 l0 x17_2).f6)))) := ⟨zb⟩
            (try clear HO_12)
            (try clear HO_14)
            (try clear BK355)
            (try clear HB)
            generalize (((((((w51.setCell ⟨gb355, 0, none⟩ (.int .i64 ((rd_T25 l0 x17_2).f0))).setCell ⟨gb355, 1, none⟩ (.int .i64 ((rd_T25 l0 x17_2).f1))).setCell ⟨gb355, 2, none⟩ (.int .i64 ((rd_T25 l0 x17_2).f2))).setCell ⟨gb355, 3, none⟩ (.int .i64 ((rd_T25 l0 x17_2).f3))).setCell ⟨gb355, 4, none⟩ (.int .i64 ((rd_T25 l0 x17_2).f4))).setCell ⟨gb355, 5, none⟩ (.int .i64 ((rd_T25 l0 x17_2).f5))).setCell ⟨gb355, 6, none⟩ (.bool ((rd_T25 l0 x17_2).f6))) = w53 at n0_ n1_ n2_ n3_ ⊢
            have HO_12 := n0_
            have HO_14 := n1_
            have BK355 := n2_
            have HB := n3_
            clear n0_ n1_ n2_ n3_
            have n0_ := aM (Kd.N_drew HO_12.out)
            have n1_ := aM (Kd.R_drew HO_14.out)
            have n2_ := aM (blk_drew BK355.out)
            have n3_ := aM (below_drew1 HB.out)
            clear HO_12
            clear HO_14
            clear BK355
            clear HB
            have HO_12 := n0_
            have HO_14 := n1_
            have BK355 := n2_
            have HB := n3_
            clear n0_ n1_ n2_ n3_
            refine start_ (n := 28) (S := fun w' => w'.cell? ⟨gb355, 0, none⟩ = some (.int .i64 ((rd_T25 l0 x17_2).f0)) ∧ w'.cell? ⟨gb355, 1, none⟩ = some (.int .i64 ((rd_T25 l0 x17_2).f1)) ∧ w'.cell? ⟨gb355, 2, none⟩ = some (.int .i64 ((rd_T25 l0 x17_2).f2)) ∧ w'.cell? ⟨gb355, 3, none⟩ = some (.int .i64 ((rd_T25 l0 x17_2).f3)) ∧ w'.cell? ⟨gb355, 4, none⟩ = some (.int .i64 ((rd_T25 l0 x17_2).f4)) ∧ w'.cell? ⟨gb355, 5, none⟩ = some (.int .i64 ((rd_T25 l0 x17_2).f5)) ∧ w'.cell? ⟨gb355, 6, none⟩ = some (.bool ((rd_T25 l0 x17_2).f6))) (ds := []) #[false, false, false, false, false, false, false, false, false, false, false, false, false, false, false, false, false, false, false, false, false, false, false, false, false, false, false, false] (by kernel_rfl) rfl rfl ⟨(blk_cell BK355.out 0).trans rfl, (blk_cell BK355.out 1).trans rfl, (blk_cell BK355.out 2).trans rfl, (blk_cell BK355.out 3).trans rfl, (blk_cell BK355.out 4).trans rfl, (blk_cell BK355.out 5).trans rfl, (blk_cell BK355.out 6).trans rfl⟩ (fun hHeld => ?_); refine with_tabW spec_ChainOf.tab16 spec_ChainOf.bits16 (fun HT_ HW_ => ?_)
            generalize w53.drew = w54 at HO_12 HO_14 BK355 HB hHeld ⊢
            refine pure_ (i := 0) (N := some 53) (v := ?_) (a' := ?_) #[true, false, false, false, false, false, false, false, false, false, false, false, false, false, false, false, false, false, false, false, false, false, false, false, false, false, false, false] rfl rfl (any_of HT_.out (by kernel_rfl)) (fun _ _ _ h => h) (Or.inl ⟨by rfl, ?_⟩) ?_ ?_
            rotate_left
            ·intro w'
             go_simp
             with_reducible rfl
            rotate_left
            ·simp only [Act.put, List.setIfInBounds_toArray, List.set_cons_zero, List.set_cons_succ, i64_w, i32_w]
             rfl
            refine pure_ (i := 2) (N := some 55) (v := ?_) (a' := ?_) #[true, false, true, false, false, false, false, false, false, false, false, false, false, false, false, false, false, false, false, false, false, false, false, false, false, false, false, false] rfl rfl (any_of HT_.out (by kernel_rfl)) (fun _ _ _ h => h) (Or.inl ⟨by rfl, ?_⟩) ?_ ?_
            rotate_left
            ·intro w'
             go_simp
             with_reducible rfl
            rotate_left
            ·simp only [Act.put, List.setIfInBounds_toArray, List.set_cons_zero, List.set_cons_succ, i64_w, i32_w]
             rfl
            refine take_ (i := 1) (N := some 54) (v := ?_) (a' := ?_) #[true, true, true, false, false, false, false, false, false, false, false, false, false, false, false, false, false, false, false, false, false, false, false, false, false, false, false, false] rfl rfl (take_ofW HT_.out HW_.out (by kernel_rfl)) (fun _ _ _ h => h) (Or.inl ⟨by rfl, ?_⟩) hHeld ?_ ?_
            rotate_left
            ·rintro w' ⟨s0, s1, s2, s3, s4, s5, s6⟩
             go_simp
             with_reducible rfl
            rotate_left
            ·simp only [Act.put, List.setIfInBounds_toArray, List.set_cons_zero, List.set_cons_succ, i64_w, i32_w]
             rfl
            refine pure_ (i := 3) (N := some 56) (v := ?_) (a' := ?_) #[true, true, true, true, false, false, false, false, false, false, false, false, false, false, false, false, false, false, false, false, false, false, false, false, false, false, false, false] rfl rfl (any_of HT_.out (by kernel_rfl)) (fun _ _ _ h => h) (Or.inl ⟨by rfl, ?_⟩) ?_ ?_
            rotate_left
            ·intro w'
             go_simp
             with_reducible rfl
            rotate_left
            ·simp only [Act.put, List.setIfInBounds_toArray, List.set_cons_zero, List.set_cons_succ, i64_w, i32_w]
             rfl
            refine pure_ (i := 4) (N := some 57) (v := ?_) (a' := ?_) #[true, true, true, true, true, false, false, false, false, false, false, false, false, false, false, false, false, false, false, false, false, false, false, false, false, false, false, false] rfl rfl (any_of HT_.out (by kernel_rfl)) (fun _ _ _ h => h) (Or.inl ⟨by rfl, ?_⟩) ?_ ?_
            rotate_left
            ·intro w'
             go_simp
             with_reducible rfl
            rotate_left
            ·simp only [Act.put, List.setIfInBounds_toArray, List.set_cons_zero, List.set_cons_succ, i64_w, i32_w]
             rfl
            refine pure_ (i := 6) (N := some 59) (v := ?_) (a' := ?_) #[true, true, true, true, true, false, true, false, false, false, false, false, false, false, false, false, false, false, false, false, false, false, false, false, false, false, false, false] rfl rfl (any_of HT_.out (by kernel_rfl)) (fun _ _ _ h => h) (Or.inl ⟨by rfl, ?_⟩) ?_ ?_
            rotate_left
            ·intro w'
             go_simp
             with_reducible rfl
            rotate_left
            ·simp only [Act.put, List.setIfInBounds_toArray, List.set_cons_zero, List.set_cons_succ, i64_w, i32_w]
             rfl
            refine pure_ (i := 7) (N := some 60) (v := ?_) (a' := ?_) #[true, true, true, true, true, false, true, true, false, false, false, false, false, false, false, false, false, false, false, false, false, false, false, false, false, false, false, false] rfl rfl (any_of HT_.out (by kernel_rfl)) (fun _ _ _ h => h) (Or.inl ⟨by rfl, ?_⟩) ?_ ?_
            rotate_left
            ·intro w'
             go_simp
             with_reducible rfl
            rotate_left
            ·simp only [Act.put, List.setIfInBounds_toArray, List.set_cons_zero, List.set_cons_succ, i64_w, i32_w]
             rfl
            refine take_ (i := 5) (N := some 58) (v := ?_) (a' := ?_) #[true, true, true, true, true, true, true, true, false, false, false, false, false, false, false, false, false, false, false, false, false, false, false, false, false, false, false, false] rfl rfl (take_ofW HT_.out HW_.out (by kernel_rfl)) (fun _ _ _ h => h) (Or.inl ⟨by rfl, ?_⟩) hHeld ?_ ?_
            rotate_left
            ·rintro w' ⟨s0, s1, s2, s3, s4, s5, s6⟩
             go_simp
             with_reducible rfl
            rotate_left
            ·simp only [Act.put, List.setIfInBounds_toArray, List.set_cons_zero, List.set_cons_succ, i64_w, i32_w]
             rfl
            refine one_ (i := 8) (N := some 61) #[true, true, true, true, true, true, true, true, true, false, false, false, false, false, false, false, false, false, false, false, false, false, false, false, false, false, false, false] rfl rfl (one_of HT_.out (by kernel_rfl)) (by decide) (fun K hK => ?_)
            refine goes_ Try.func21 (by kernel_rfl) rfl #[.agg #[.int .i64 ((rd_T25 l0 x17_2).f0), .int .i64 ((rd_T25 l0 x17_2).f1), .int .i64 ((rd_T25 l0 x17_2).f2), .int .i64 ((rd_T25 l0 x17_2).f3), .int .i64 ((rd_T25 l0 x17_2).f4), .int .i64 ((rd_T25 l0 x17_2).f5), .bool ((rd_T25 l0 x17_2).f6)], .int .i64 a3, .int .i64 a4] (by rfl) rfl rfl za ?_
            with_reducible refine (spec_Applies.calls ((rd_T25 l0 x17_2).f0) ((rd_T25 l0 x17_2).f1) ((rd_T25 l0 x17_2).f2) ((rd_T25 l0 x17_2).f3) ((rd_T25 l0 x17_2).f4) ((rd_T25 l0 x17_2).f5) ((rd_T25 l0 x17_2).f6) a3 a4 false _ A23.out).mono ?_
            rintro e w55 ⟨rfl, hb⟩
            refine ⟨_, rfl, ?_⟩
            have n0_ := aM (Kd.N_below (by (with_reducible repeat (first | apply Kd.N_alloc | apply Kd.N_drewN | apply Kd.N_drew)); exact HO_12.out) hb)
            have n1_ := aM (Kd.R_below (by (with_reducible repeat (first | apply Kd.R_alloc | apply Kd.R_drewN | apply Kd.R_drew)); exact HO_14.out) hb)
            have n2_ := aM (bb BK355.out hb)
            have n3_ := aM (below_step (zb) hb)
            clear HO_12
            clear HO_14
            clear BK355
            clear HB
            have HO_12 := n0_
            have HO_14 := n1_
            have BK355 := n2_
            have HB := n3_
            clear n0_ n1_ n2_ n3_
            (try clear hb)
            (try clear hb2)
            (try clear hk)
            (try clear hi)
            refine hK.out _ _ ⟨(blk_cell BK355.out 0).trans rfl, (blk_cell BK355.out 1).trans rfl, (blk_cell BK355.out 2).trans rfl, (blk_cell BK355.out 3).trans rfl, (blk_cell BK355.out 4).trans rfl, (blk_cell BK355.out 5).trans rfl, (blk_cell BK355.out 6).trans rfl⟩ (fun hHeld => ?_)
            clear hK K
            refine norm_ (a' := ?_) ?_ ?_
            rotate_left
            ·show Act.put _ (some 61) _ = _
             simp only [Act.put, List.setIfInBounds_toArray, List.set_cons_zero, List.set_cons_succ, i64_w, i32_w]
             rfl
            refine pure_ (i := 9) (N := some 62) (v := ?_) (a' := ?_) #[true, true, true, true, true, true, true, true, true, true, false, false, false, false, false, false, false, false, false, false, false, false, false, false, false, false, false, false] rfl rfl (any_of HT_.out (by kernel_rfl)) (fun _ _ _ h => h) (Or.inl ⟨by rfl, ?_⟩) ?_ ?_
            rotate_left
            ·intro w'
             go_simp
             with_reducible rfl
            rotate_left
            ·simp only [Act.put, List.setIfInBounds_toArray, List.set_cons_zero, List.set_cons_succ, i64_w, i32_w]
             rfl
            refine pure_ (i := 10) (N := some 63) (v := ?_) (a' := ?_) #[true, true, true, true, true, true, true, true, true, true, true, false, false, false, false, false, false, false, false, false, false, false, false, false, false, false, false, false] rfl rfl (any_of HT_.out (by kernel_rfl)) (fun _ _ _ h => h) (Or.inl ⟨by rfl, ?_⟩) ?_ ?_
            rotate_left
            ·intro w'
             go_simp
             with_reducible rfl
            rotate_left
            ·simp only [Act.put, List.setIfInBounds_toArray, List.set_cons_zero, List.set_cons_succ, i64_w, i32_w]
             rfl
            refine pure_ (i := 11) (N := some 64) (v := undef) (a' := ?_) #[true, true, true, true, true, true, true, true, true, true, true, true, false, false, false, false, false, false, false, false, false, false, false, false, false, false, false, false] rfl rfl (any_of HT_.out (by kernel_rfl)) (fun _ _ _ h => h) (Or.inr ⟨by rfl, rfl⟩) ?_ ?_
            rotate_left
            ·simp only [Act.put, List.setIfInBounds_toArray, List.set_cons_zero, List.set_cons_succ, i64_w, i32_w]
             rfl
            refine pure_ (i := 12) (N := some 65) (v := undef) (a' := ?_) #[true, true, true, true, true, true, true, true, true, true, true, true, true, false, false, false, false, false, false, false, false, false, false, false, false, false, false, false] rfl rfl (any_of HT_.out (by kernel_rfl)) (fun _ _ _ h => h) (Or.inr ⟨by rfl, rfl⟩) ?_ ?_
            rotate_left
            ·simp only [Act.put, List.setIfInBounds_toArray, List.set_cons_zero, List.set_cons_succ, i64_w, i32_w]
             rfl
            refine pure_ (i := 13) (N := some 66) (v := undef) (a' := ?_) #[true, true, true, true, true, true, true, true, true, true, true, true, true, true, false, false, false, false, false, false, false, false, false, false, false, false, false, false] rfl rfl (any_of HT_.out (by kernel_rfl)) (fun _ _ _ h => h) (Or.inr ⟨by rfl, rfl⟩) ?_ ?_
            rotate_left
            ·simp only [Act.put, List.setIfInBounds_toArray, List.set_cons_zero, List.set_cons_succ, i64_w, i32_w]
             rfl
            refine pure_ (i := 14) (N := some 67) (v := undef) (a' := ?_) #[true, true, true, true, true, true, true, true, true, true, true, true, true, true, true, false, false, false, false, false, false, false, false, false, false, false, false, false] rfl rfl (any_of HT_.out (by kernel_rfl)) (fun _ _ _ h => h) (Or.inr ⟨by rfl, rfl⟩) ?_ ?_
            rotate_left
            ·simp only [Act.put, List.setIfInBounds_toArray, List.set_cons_zero, List.set_cons_succ, i64_w, i32_w]
             rfl
            refine pure_ (i := 15) (N := some 68) (v := undef) (a' := ?_) #[true, true, true, true, true, true, true, true, true, true, true, true, true, true, true, true, false, false, false, false, false, false, false, false, false, false, false, false] rfl rfl (any_of HT_.out (by kernel_rfl)) (fun _ _ _ h => h) (Or.inr ⟨by rfl, rfl⟩) ?_ ?_
            rotate_left
            ·simp only [Act.put, List.setIfInBounds_toArray, List.set_cons_zero, List.set_cons_succ, i64_w, i32_w]
             rfl
            refine pure_ (i := 16) (N := some 69) (v := ?_) (a' := ?_) #[true, true, true, true, true, true, true, true, true, true, true, true, true, true, true, true, true, false, false, false, false, false, false, false, false, false, false, false] rfl rfl (any_of HT_.out (by kernel_rfl)) (fun _ _ _ h => h) (Or.inl ⟨by rfl, ?_⟩) ?_ ?_
            rotate_left
            ·intro w'
             go_simp
             with_reducible rfl
            rotate_left
            ·simp only [Act.put, List.setIfInBounds_toArray, List.set_cons_zero, List.set_cons_succ, i64_w, i32_w]
             rfl
            refine pure_ (i := 17) (N := some 70) (v := ?_) (a' := ?_) #[true, true, true, true, true, true, true, true, true, true, true, true, true, true, true, true, true, true, false, false, false, false, false, false, false, false, false, false] rfl rfl (any_of HT_.out (by kernel_rfl)) (fun _ _ _ h => h) (Or.inl ⟨by rfl, ?_⟩) ?_ ?_
            rotate_left
            ·intro w'
             go_simp
             with_reducible rfl
            rotate_left
            ·simp only [Act.put, List.setIfInBounds_toArray, List.set_cons_zero, List.set_cons_succ, i64_w, i32_w]
             rfl
            refine pure_ (i := 18) (N := some 71) (v := undef) (a' := ?_) #[true, true, true, true, true, true, true, true, true, true, true, true, true, true, true, true, true, true, true, false, false, false, false, false, false, false, false, false] rfl rfl (any_of HT_.out (by kernel_rfl)) (fun _ _ _ h => h) (Or.inr ⟨by rfl, rfl⟩) ?_ ?_
            rotate_left
            ·simp only [Act.put, List.setIfInBounds_toArray, List.set_cons_zero, List.set_cons_succ, i64_w, i32_w]
             rfl
            refine pure_ (i := 19) (N := some 72) (v := undef) (a' := ?_) #[true, true, true, true, true, true, true, true, true, true, true, true, true, true, true, true, true, true, true, true, false, false, false, false, false, false, false, false] rfl rfl (any_of HT_.out (by kernel_rfl)) (fun _ _ _ h => h) (Or.inr ⟨by rfl, rfl⟩) ?_ ?_
            rotate_left
            ·simp only [Act.put, List.setIfInBounds_toArray, List.set_cons_zero, List.set_cons_succ, i64_w, i32_w]
             rfl
            refine pure_ (i := 20) (N := some 73) (v := undef) (a' := ?_) #[true, true, true, true, true, true, true, true, true, true, true, true, true, true, true, true, true, true, true, true, true, false, false, false, false, false, false, false] rfl rfl (any_of HT_.out (by kernel_rfl)) (fun _ _ _ h => h) (Or.inr ⟨by rfl, rfl⟩) ?_ ?_
            rotate_left
            ·simp only [Act.put, List.setIfInBounds_toArray, List.set_cons_zero, List.set_cons_succ, i64_w, i32_w]
             rfl
            refine pure_ (i := 21) (N := some 74) (v := undef) (a' := ?_) #[true, true, true, true, true, true, true, true, true, true, true, true, true, true, true, true, true, true, true, true, true, true, false, false, false, false, false, false] rfl rfl (any_of HT_.out (by kernel_rfl)) (fun _ _ _ h => h) (Or.inr ⟨by rfl, rfl⟩) ?_ ?_
            rotate_left
            ·simp only [Act.put, List.setIfInBounds_toArray, List.set_cons_zero, List.set_cons_succ, i64_w, i32_w]
             rfl
            refine pure_ (i := 22) (N := some 75) (v := undef) (a' := ?_) #[true, true, true, true, true, true, true, true, true, true, true, true, true, true, true, true, true, true, true, true, true, true, true, false, false, false, false, false] rfl rfl (any_of HT_.out (by kernel_rfl)) (fun _ _ _ h => h) (Or.inr ⟨by rfl, rfl⟩) ?_ ?_
            rotate_left
            ·simp only [Act.put, List.setIfInBounds_toArray, List.set_cons_zero, List.set_cons_succ, i64_w, i32_w]
             rfl
            refine pure_ (i := 23) (N := some 76) (v := undef) (a' := ?_) #[true, true, true, true, true, true, true, true, true, true, true, true, true, true, true, true, true, true, true, true, true, true, true, true, false, false, false, false] rfl rfl (any_of HT_.out (by kernel_rfl)) (fun _ _ _ h => h) (Or.inr ⟨by rfl, rfl⟩) ?_ ?_
            rotate_left
            ·simp only [Act.put, List.setIfInBounds_toArray, List.set_cons_zero, List.set_cons_succ, i64_w, i32_w]
             rfl
            refine pure_ (i := 24) (N := some 77) (v := undef) (a' := ?_) #[true, true, true, true, true, true, true, true, true, true, true, true, true, true, true, true, true, true, true, true, true, true, true, true, true, false, false, false] rfl rfl (any_of HT_.out (by kernel_rfl)) (fun _ _ _ h => h) (Or.inr ⟨by rfl, rfl⟩) ?_ ?_
            rotate_left
            ·simp only [Act.put, List.setIfInBounds_toArray, List.set_cons_zero, List.set_cons_succ, i64_w, i32_w]
             rfl
            refine pure_ (i := 25) (N := some 78) (v := undef) (a' := ?_) #[true, true, true, true, true, true, true, true, true, true, true, true, true, true, true, true, true, true, true, true, true, true, true, true, true, true, false, false] rfl rfl (any_of HT_.out (by kernel_rfl)) (fun _ _ _ h => h) (Or.inr ⟨by rfl, rfl⟩) ?_ ?_
            rotate_left
            ·simp only [Act.put, List.setIfInBounds_toArray, List.set_cons_zero, List.set_cons_succ, i64_w, i32_w]
             rfl
            refine pure_ (i := 26) (N := some 79) (v := undef) (a' := ?_) #[true, true, true, true, true, true, true, true, true, true, true, true, true, true, true, true, true, true, true, true, true, true, true, true, true, true, true, false] rfl rfl (any_of HT_.out (by kernel_rfl)) (fun _ _ _ h => h) (Or.inr ⟨by rfl, rfl⟩) ?_ ?_
            rotate_left
            ·simp only [Act.put, List.setIfInBounds_toArray, List.set_cons_zero, List.set_cons_succ, i64_w, i32_w]
             rfl
            refine pure_ (i := 27) (N := some 80) (v := ?_) (a' := ?_) #[true, true, true, true, true, true, true, true, true, true, true, true, true, true, true, true, true, true, true, true, true, true, true, true, true, true, true, true] rfl rfl (any_of HT_.out (by kernel_rfl)) (fun _ _ _ h => h) (Or.inl ⟨by rfl, ?_⟩) ?_ ?_
            rotate_left
            ·intro w'
             go_simp
             with_reducible rfl
            rotate_left
            ·simp only [Act.put, List.setIfInBounds_toArray, List.set_cons_zero, List.set_cons_succ, i64_w, i32_w]
             rfl
            refine done_ (done_of HT_.out (by kernel_rfl)) ?_
            try go_wp2
            go_roundg k2
            case measure => have := HK1.out; have := HK2.out; omega
            case rel => exact ⟨(x14_2), (x15_2), (wrap64 (x17_2 + 1)), zs, zs, H', ⟨by have := HK1.out; have := HK2.out; omega⟩, ⟨by (with_reducible repeat (first | apply Kd.N_alloc | apply Kd.N_drewN | apply Kd.N_drew)); exact Kd.N_mono HO_12.out (fun _ hk => hk.1)⟩, ⟨by (with_reducible repeat (first | apply Kd.R_alloc | apply Kd.R_drewN | apply Kd.R_drew)); exact HO_14.out⟩, ⟨zb⟩⟩
          ·rw [if_neg c22] at H
           have c22b0 : (((rd_T25 l0 x17_2).f0) == x15_2) = false := beq_eq_false_iff_ne.mpr c22
           have c22b1 : (((rd_T25 l0 x17_2).f0) != x15_2) = true := bne_iff_ne.mpr c22
           have H' := aM H
           clear H
           have p354 : 0 ≤ (x17_2 : Int) := of_decide_eq_true (by first | (with_reducible assumption) | assumption)
           have q354 : x17_2 < (l0.length : Int) := of_decide_eq_true (by first | (with_reducible assumption) | assumption)
           obtain ⟨ad354, e354, hx354_0, hx354_1, hx354_2, hx354_3, hx354_4, hx354_5, hx354_6⟩ := at_T25 HR0.out x17_2 p354 q354
           cases e354
           replace hx354_0 := (HB.out.cell (World.block_lt_of_cell? w _ hx354_0)).trans hx354_0
           replace hx354_1 := (HB.out.cell (World.block_lt_of_cell? w _ hx354_1)).trans hx354_1
           replace hx354_2 := (HB.out.cell (World.block_lt_of_cell? w _ hx354_2)).trans hx354_2
           replace hx354_3 := (HB.out.cell (World.block_lt_of_cell? w _ hx354_3)).trans hx354_3
           replace hx354_4 := (HB.out.cell (World.block_lt_of_cell? w _ hx354_4)).trans hx354_4
           replace hx354_5 := (HB.out.cell (World.block_lt_of_cell? w _ hx354_5)).trans hx354_5
           replace hx354_6 := (HB.out.cell (World.block_lt_of_cell? w _ hx354_6)).trans hx354_6
           replace p354 := eq_true p354
           replace q354 := eq_true q354
           try go_wp2_with (first | ((with_reducible refine gate_dst (N := 18) rfl ?_); refine box_event ?hg (N := 18) ?hd (cs := #[.int .i64 0, .int .i64 0, .int .i64 0, .int .i64 0, .int .i64 0, .int .i64 0, .bool false]) (t := 25) ?hr ?_; (case hd => rfl); (case hg => rfl); (case hr => exact zg); intro gb355 hg w56 hbox hb; have n0_ := aM (Kd.N_below (Kd.N_elderB (by (with_reducible repeat (first | apply Kd.N_alloc | apply Kd.N_drewN | apply Kd.N_drew)); exact HO_12.out) gb355 (Nat.le_of_eq hg.symm)) hb); have n1_ := aM (Kd.R_below (by (with_reducible repeat (first | apply Kd.R_alloc | apply Kd.R_drewN | apply Kd.R_drew)); exact HO_14.out) hb); have n2_ := aM (below_step (zb) hb); have n3_ := aM (hbox); have n4_ := aM ((by rw [hg]; exact (below_size (zb)) : w.heap.size ≤ gb355)); have n5_ := aM ((by rw [hg]; exact (below_size (zb)) : w.heap.size ≤ gb355)); clear HO_12; clear HO_14; clear HB; have HO_12 := n0_; have HO_14 := n1_; have HB := n2_; have BK355 := n3_; have GW355 := n4_; have GE355 := n5_; clear n0_ n1_ n2_ n3_ n4_ n5_; clear hb hbox hg; obtain ⟨hcz57_0, hcz57_1, hcz57_2, hcz57_3, hcz57_4, hcz57_5, hcz57_6, hfz57_0, hfz57_1, hfz57_2, hfz57_3, hfz57_4, hfz57_5, hfz57_6⟩ := cells7 BK355.out))
           have n0_ : Aside0 (Kd.N (Kd.slice 4 Kd.bool) 71 (((((((w56.setCell ⟨gb355, 0, none⟩ (.int .i64 ((rd_T25 l0 x17_2).f0))).setCell ⟨gb355, 1, none⟩ (.int .i64 ((rd_T25 l0 x17_2).f1))).setCell ⟨gb355, 2, none⟩ (.int .i64 ((rd_T25 l0 x17_2).f2))).setCell ⟨gb355, 3, none⟩ (.int .i64 ((rd_T25 l0 x17_2).f3))).setCell ⟨gb355, 4, none⟩ (.int .i64 ((rd_T25 l0 x17_2).f4))).setCell ⟨gb355, 5, none⟩ (.int .i64 ((rd_T25 l0 x17_2).f5))).setCell ⟨gb355, 6, none⟩ (.bool ((rd_T25 l0 x17_2).f6))) w.heap.size (fun k_ => some k_ ≠ (u14 : Value).ownBlock ∧ k_ ≠ gb355) (.slice Ao16 t347.length co16) t347) := ⟨by (with_reducible repeat (first | apply Kd.N_alloc | apply Kd.N_drewN | apply Kd.N_drew)); exact Kd.N_mono (Kd.N_far (p := ⟨gb355, 6, none⟩) (Kd.N_far (p := ⟨gb355, 5, none⟩) (Kd.N_far (p := ⟨gb355, 4, none⟩) (Kd.N_far (p := ⟨gb355, 3, none⟩) (Kd.N_far (p := ⟨gb355, 2, none⟩) (Kd.N_far (p := ⟨gb355, 1, none⟩) (Kd.N_far (p := ⟨gb355, 0, none⟩) (Kd.N_mono HO_12.out (fun k_ hk => (⟨hk, hk.2⟩ : _ ∧ k_ ≠ gb355))) (fun _ hk => hk.2) (.int .i64 ((rd_T25 l0 x17_2).f0))) (fun _ hk => hk.2) (.int .i64 ((rd_T25 l0 x17_2).f1))) (fun _ hk => hk.2) (.int .i64 ((rd_T25 l0 x17_2).f2))) (fun _ hk => hk.2) (.int .i64 ((rd_T25 l0 x17_2).f3))) (fun _ hk => hk.2) (.int .i64 ((rd_T25 l0 x17_2).f4))) (fun _ hk => hk.2) (.int .i64 ((rd_T25 l0 x17_2).f5))) (fun _ hk => hk.2) (.bool ((rd_T25 l0 x17_2).f6))) (fun _ hk => ⟨hk.1.1, hk.1.2⟩)⟩
           have n1_ : Aside0 (Kd.R (Kd.int .i64) 3 (((((((w56.setCell ⟨gb355, 0, none⟩ (.int .i64 ((rd_T25 l0 x17_2).f0))).setCell ⟨gb355, 1, none⟩ (.int .i64 ((rd_T25 l0 x17_2).f1))).setCell ⟨gb355, 2, none⟩ (.int .i64 ((rd_T25 l0 x17_2).f2))).setCell ⟨gb355, 3, none⟩ (.int .i64 ((rd_T25 l0 x17_2).f3))).setCell ⟨gb355, 4, none⟩ (.int .i64 ((rd_T25 l0 x17_2).f4))).setCell ⟨gb355, 5, none⟩ (.int .i64 ((rd_T25 l0 x17_2).f5))).setCell ⟨gb355, 6, none⟩ (.bool ((rd_T25 l0 x17_2).f6))) w.heap.size (fun _ => True) u14 x14_2) := ⟨by (with_reducible repeat (first | apply Kd.R_alloc | apply Kd.R_drewN | apply Kd.R_drew)); exact Kd.R_mono (Kd.R_far (p := ⟨gb355, 6, none⟩) (Kd.R_far (p := ⟨gb355, 5, none⟩) (Kd.R_far (p := ⟨gb355, 4, none⟩) (Kd.R_far (p := ⟨gb355, 3, none⟩) (Kd.R_far (p := ⟨gb355, 2, none⟩) (Kd.R_far (p := ⟨gb355, 1, none⟩) (Kd.R_far (p := ⟨gb355, 0, none⟩) (Kd.R_types HO_14.out BK355.out (by decide)) (fun _ hk => hk.2) (.int .i64 ((rd_T25 l0 x17_2).f0))) (fun _ hk => hk.2) (.int .i64 ((rd_T25 l0 x17_2).f1))) (fun _ hk => hk.2) (.int .i64 ((rd_T25 l0 x17_2).f2))) (fun _ hk => hk.2) (.int .i64 ((rd_T25 l0 x17_2).f3))) (fun _ hk => hk.2) (.int .i64 ((rd_T25 l0 x17_2).f4))) (fun _ hk => hk.2) (.int .i64 ((rd_T25 l0 x17_2).f5))) (fun _ hk => hk.2) (.bool ((rd_T25 l0 x17_2).f6))) (fun _ hk => trivial)⟩
           have n2_ : Aside0 ((((((((w56.setCell ⟨gb355, 0, none⟩ (.int .i64 ((rd_T25 l0 x17_2).f0))).setCell ⟨gb355, 1, none⟩ (.int .i64 ((rd_T25 l0 x17_2).f1))).setCell ⟨gb355, 2, none⟩ (.int .i64 ((rd_T25 l0 x17_2).f2))).setCell ⟨gb355, 3, none⟩ (.int .i64 ((rd_T25 l0 x17_2).f3))).setCell ⟨gb355, 4, none⟩ (.int .i64 ((rd_T25 l0 x17_2).f4))).setCell ⟨gb355, 5, none⟩ (.int .i64 ((rd_T25 l0 x17_2).f5))).setCell ⟨gb355, 6, none⟩ (.bool ((rd_T25 l0 x17_2).f6))).heap[gb355]? = some (.cells #[.int .i64 ((rd_T25 l0 x17_2).f0), .int .i64 ((rd_T25 l0 x17_2).f1), .int .i64 ((rd_T25 l0 x17_2).f2), .int .i64 ((rd_T25 l0 x17_2).f3), .int .i64 ((rd_T25 l0 x17_2).f4), .int .i64 ((rd_T25 l0 x17_2).f5), .bool ((rd_T25 l0 x17_2).f6)] 25 (0, 0))) := ⟨by refine pq ?_; refine blk_put (cs := #[.int .i64 ((rd_T25 l0 x17_2).f0), .int .i64 ((rd_T25 l0 x17_2).f1), .int .i64 ((rd_T25 l0 x17_2).f2), .int .i64 ((rd_T25 l0 x17_2).f3), .int .i64 ((rd_T25 l0 x17_2).f4), .int .i64 ((rd_T25 l0 x17_2).f5), .bool false]) ?_ 6 _ rfl; refine pq ?_; refine blk_put (cs := #[.int .i64 ((rd_T25 l0 x17_2).f0), .int .i64 ((rd_T25 l0 x17_2).f1), .int .i64 ((rd_T25 l0 x17_2).f2), .int .i64 ((rd_T25 l0 x17_2).f3), .int .i64 ((rd_T25 l0 x17_2).f4), .int .i64 0, .bool false]) ?_ 5 _ rfl; refine pq ?_; refine blk_put (cs := #[.int .i64 ((rd_T25 l0 x17_2).f0), .int .i64 ((rd_T25 l0 x17_2).f1), .int .i64 ((rd_T25 l0 x17_2).f2), .int .i64 ((rd_T25 l0 x17_2).f3), .int .i64 0, .int .i64 0, .bool false]) ?_ 4 _ rfl; refine pq ?_; refine blk_put (cs := #[.int .i64 ((rd_T25 l0 x17_2).f0), .int .i64 ((rd_T25 l0 x17_2).f1), .int .i64 ((rd_T25 l0 x17_2).f2), .int .i64 0, .int .i64 0, .int .i64 0, .bool false]) ?_ 3 _ rfl; refine pq ?_; refine blk_put (cs := #[.int .i64 ((rd_T25 l0 x17_2).f0), .int .i64 ((rd_T25 l0 x17_2).f1), .int .i64 0, .int .i64 0, .int .i64 0, .int .i64 0, .bool false]) ?_ 2 _ rfl; refine pq ?_; refine blk_put (cs := #[.int .i64 ((rd_T25 l0 x17_2).f0), .int .i64 0, .int .i64 0, .int .i64 0, .int .i64 0, .int .i64 0, .bool false]) ?_ 1 _ rfl; refine pq ?_; refine blk_put (cs := #[.int .i64 0, .int .i64 0, .int .i64 0, .int .i64 0, .int .i64 0, .int .i64 0, .bool false]) ?_ 0 _ rfl; refine pq ?_; exact BK355.out⟩
           have n3_ : Aside0 (Below w.heap.size w (((((((w56.setCell ⟨gb355, 0, none⟩ (.int .i64 ((rd_T25 l0 x17_2).f0))).setCell ⟨gb355, 1, none⟩ (.int .i64 ((rd_T25 l0 x17_2).f1))).setCell ⟨gb355, 2, none⟩ (.int .i64 ((rd_T25 l0 x17_2).f2))).setCell ⟨gb355, 3, none⟩ (.int .i64 ((rd_T25 l0 x17_2).f3))).setCell ⟨gb355, 4, none⟩ (.int .i64 ((rd_T25 l0 x17_2).f4))).setCell ⟨gb355, 5, none⟩ (.int .i64 ((rd_T25 l0 x17_2).f5))).setCell ⟨gb355, 6, none⟩ (.bool ((rd_T25 l0 x17_2).f6)))) := ⟨zb⟩
           (try clear HO_12)
           (try clear HO_14)
           (try clear BK355)
           (try clear HB)
           generalize (((((((w56.setCell ⟨gb355, 0, none⟩ (.int .i64 ((rd_T25 l0 x17_2).f0))).setCell ⟨gb355, 1, none⟩ (.int .i64 ((rd_T25 l0 x17_2).f1))).setCell ⟨gb355, 2, none⟩ (.int .i64 ((rd_T25 l0 x17_2).f2))).setCell ⟨gb355, 3, none⟩ (.int .i64 ((rd_T25 l0 x17_2).f3))).setCell ⟨gb355, 4, none⟩ (.int .i64 ((rd_T25 l0 x17_2).f4))).setCell ⟨gb355, 5, none⟩ (.int .i64 ((rd_T25 l0 x17_2).f5))).setCell ⟨gb355, 6, none⟩ (.bool ((rd_T25 l0 x17_2).f6))) = w58 at n0_ n1_ n2_ n3_ ⊢
           have HO_12 := n0_
           have HO_14 := n1_
           have BK355 := n2_
           have HB := n3_
           clear n0_ n1_ n2_ n3_
           have n0_ := aM (Kd.N_drew HO_12.out)
           have n1_ := aM (Kd.R_drew HO_14.out)
           have n2_ := aM (blk_drew BK355.out)
           have n3_ := aM (below_drew1 HB.out)
           clear HO_12
           clear HO_14
           clear BK355
           clear HB
           have HO_12 := n0_
           have HO_14 := n1_
           have BK355 := n2_
           have HB := n3_
           clear n0_ n1_ n2_ n3_
           refine start_ (n := 28) (S := fun w' => w'.cell? ⟨gb355, 0, none⟩ = some (.int .i64 ((rd_T25 l0 x17_2).f0)) ∧ w'.cell? ⟨gb355, 1, none⟩ = some (.int .i64 ((rd_T25 l0 x17_2).f1)) ∧ w'.cell? ⟨gb355, 2, none⟩ = some (.int .i64 ((rd_T25 l0 x17_2).f2)) ∧ w'.cell? ⟨gb355, 3, none⟩ = some (.int .i64 ((rd_T25 l0 x17_2).f3)) ∧ w'.cell? ⟨gb355, 4, none⟩ = some (.int .i64 ((rd_T25 l0 x17_2).f4)) ∧ w'.cell? ⟨gb355, 5, none⟩ = some (.int .i64 ((rd_T25 l0 x17_2).f5)) ∧ w'.cell? ⟨gb355, 6, none⟩ = some (.bool ((rd_T25 l0 x17_2).f6))) (ds := []) #[false, false, false, false, false, false, false, false, false, false, false, false, false, false, false, false, false, false, false, false, false, false, false, false, false, false, false, false] (by kernel_rfl) rfl rfl ⟨(blk_cell BK355.out 0).trans rfl, (blk_cell BK355.out 1).trans rfl, (blk_cell BK355.out 2).trans rfl, (blk_cell BK355.out 3).trans rfl, (blk_cell BK355.out 4).trans rfl, (blk_cell BK355.out 5).trans rfl, (blk_cell BK355.out 6).trans rfl⟩ (fun hHeld => ?_); refine with_tabW spec_ChainOf.tab16 spec_ChainOf.bits16 (fun HT_ HW_ => ?_)
           generalize w58.drew = w59 at HO_12 HO_14 BK355 HB hHeld ⊢
           refine pure_ (i := 0) (N := some 53) (v := ?_) (a' := ?_) #[true, false, false, false, false, false, false, false, false, false, false, false, false, false, false, false, false, false, false, false, false, false, false, false, false, false, false, false] rfl rfl (any_of HT_.out (by kernel_rfl)) (fun _ _ _ h => h) (Or.inl ⟨by rfl, ?_⟩) ?_ ?_
           rotate_left
           ·intro w'
            go_simp
            with_reducible rfl
           rotate_left
           ·simp only [Act.put, List.setIfInBounds_toArray, List.set_cons_zero, List.set_cons_succ, i64_w, i32_w]
            rfl
           refine pure_ (i := 2) (N := some 55) (v := ?_) (a' := ?_) #[true, false, true, false, false, false, false, false, false, false, false, false, false, false, false, false, false, false, false, false, false, false, false, false, false, false, false, false] rfl rfl (any_of HT_.out (by kernel_rfl)) (fun _ _ _ h => h) (Or.inl ⟨by rfl, ?_⟩) ?_ ?_
           rotate_left
           ·intro w'
            go_simp
            with_reducible rfl
           rotate_left
           ·simp only [Act.put, List.setIfInBounds_toArray, List.set_cons_zero, List.set_cons_succ, i64_w, i32_w]
            rfl
           refine take_ (i := 1) (N := some 54) (v := ?_) (a' := ?_) #[true, true, true, false, false, false, false, false, false, false, false, false, false, false, false, false, false, false, false, false, false, false, false, false, false, false, false, false] rfl rfl (take_ofW HT_.out HW_.out (by kernel_rfl)) (fun _ _ _ h => h) (Or.inl ⟨by rfl, ?_⟩) hHeld ?_ ?_
           rotate_left
           ·rintro w' ⟨s0, s1, s2, s3, s4, s5, s6⟩
            go_simp
            with_reducible rfl
           rotate_left
           ·simp only [Act.put, List.setIfInBounds_toArray, List.set_cons_zero, List.set_cons_succ, i64_w, i32_w]
            rfl
           refine pure_ (i := 3) (N := some 56) (v := ?_) (a' := ?_) #[true, true, true, true, false, false, false, false, false, false, false, false, false, false, false, false, false, false, false, false, false, false, false, false, false, false, false, false] rfl rfl (any_of HT_.out (by kernel_rfl)) (fun _ _ _ h => h) (Or.inl ⟨by rfl, ?_⟩) ?_ ?_
           rotate_left
           ·intro w'
            go_simp
            with_reducible rfl
           rotate_left
           ·simp only [Act.put, List.setIfInBounds_toArray, List.set_cons_zero, List.set_cons_succ, i64_w, i32_w]
            rfl
           refine pure_ (i := 4) (N := some 57) (v := ?_) (a' := ?_) #[true, true, true, true, true, false, false, false, false, false, false, false, false, false, false, false, false, false, false, false, false, false, false, false, false, false, false, false] rfl rfl (any_of HT_.out (by kernel_rfl)) (fun _ _ _ h => h) (Or.inl ⟨by rfl, ?_⟩) ?_ ?_
           rotate_left
           ·intro w'
            go_simp
            with_reducible rfl
           rotate_left
           ·simp only [Act.put, List.setIfInBounds_toArray, List.set_cons_zero, List.set_cons_succ, i64_w, i32_w]
            rfl
           refine pure_ (i := 5) (N := some 58) (v := undef) (a' := ?_) #[true, true, true, true, true, true, false, false, false, false, false, false, false, false, false, false, false, false, false, false, false, false, false, false, false, false, false, false] rfl rfl (any_of HT_.out (by kernel_rfl)) (fun _ _ _ h => h) (Or.inr ⟨by rfl, rfl⟩) ?_ ?_
           rotate_left
           ·simp only [Act.put, List.setIfInBounds_toArray, List.set_cons_zero, List.set_cons_succ, i64_w, i32_w]
            rfl
           refine pure_ (i := 6) (N := some 59) (v := undef) (a' := ?_) #[true, true, true, true, true, true, true, false, false, false, false, false, false, false, false, false, false, false, false, false, false, false, false, false, false, false, false, false] rfl rfl (any_of HT_.out (by kernel_rfl)) (fun _ _ _ h => h) (Or.inr ⟨by rfl, rfl⟩) ?_ ?_
           rotate_left
           ·simp only [Act.put, List.setIfInBounds_toArray, List.set_cons_zero, List.set_cons_succ, i64_w, i32_w]
            rfl
           refine pure_ (i := 7) (N := some 60) (v := undef) (a' := ?_) #[true, true, true, true, true, true, true, true, false, false, false, false, false, false, false, false, false, false, false, false, false, false, false, false, false, false, false, false] rfl rfl (any_of HT_.out (by kernel_rfl)) (fun _ _ _ h => h) (Or.inr ⟨by rfl, rfl⟩) ?_ ?_
           rotate_left
           ·simp only [Act.put, List.setIfInBounds_toArray, List.set_cons_zero, List.set_cons_succ, i64_w, i32_w]
            rfl
           refine pure_ (i := 8) (N := some 61) (v := undef) (a' := ?_) #[true, true, true, true, true, true, true, true, true, false, false, false, false, false, false, false, false, false, false, false, false, false, false, false, false, false, false, false] rfl rfl (any_of HT_.out (by kernel_rfl)) (fun _ _ _ h => h) (Or.inr ⟨by rfl, rfl⟩) ?_ ?_
           rotate_left
           ·simp only [Act.put, List.setIfInBounds_toArray, List.set_cons_zero, List.set_cons_succ, i64_w, i32_w]
            rfl
           refine pure_ (i := 9) (N := some 62) (v := ?_) (a' := ?_) #[true, true, true, true, true, true, true, true, true, true, false, false, false, false, false, false, false, false, false, false, false, false, false, false, false, false, false, false] rfl rfl (any_of HT_.out (by kernel_rfl)) (fun _ _ _ h => h) (Or.inl ⟨by rfl, ?_⟩) ?_ ?_
           rotate_left
           ·intro w'
            go_simp
            with_reducible rfl
           rotate_left
           ·simp only [Act.put, List.setIfInBounds_toArray, List.set_cons_zero, List.set_cons_succ, i64_w, i32_w]
            rfl
           refine pure_ (i := 10) (N := some 63) (v := ?_) (a' := ?_) #[true, true, true, true, true, true, true, true, true, true, true, false, false, false, false, false, false, false, false, false, false, false, false, false, false, false, false, false] rfl rfl (any_of HT_.out (by kernel_rfl)) (fun _ _ _ h => h) (Or.inl ⟨by rfl, ?_⟩) ?_ ?_
           rotate_left
           ·intro w'
            go_simp
            with_reducible rfl
           rotate_left
           ·simp only [Act.put, List.setIfInBounds_toArray, List.set_cons_zero, List.set_cons_succ, i64_w, i32_w]
            rfl
           refine pure_ (i := 11) (N := some 64) (v := undef) (a' := ?_) #[true, true, true, true, true, true, true, true, true, true, true, true, false, false, false, false, false, false, false, false, false, false, false, false, false, false, false, false] rfl rfl (any_of HT_.out (by kernel_rfl)) (fun _ _ _ h => h) (Or.inr ⟨by rfl, rfl⟩) ?_ ?_
           rotate_left
           ·simp only [Act.put, List.setIfInBounds_toArray, List.set_cons_zero, List.set_cons_succ, i64_w, i32_w]
            rfl
           refine pure_ (i := 12) (N := some 65) (v := undef) (a' := ?_) #[true, true, true, true, true, true, true, true, true, true, true, true, true, false, false, false, false, false, false, false, false, false, false, false, false, false, false, false] rfl rfl (any_of HT_.out (by kernel_rfl)) (fun _ _ _ h => h) (Or.inr ⟨by rfl, rfl⟩) ?_ ?_
           rotate_left
           ·simp only [Act.put, List.setIfInBounds_toArray, List.set_cons_zero, List.set_cons_succ, i64_w, i32_w]
            rfl
           refine pure_ (i := 13) (N := some 66) (v := undef) (a' := ?_) #[true, true, true, true, true, true, true, true, true, true, true, true, true, true, false, false, false, false, false, false, false, false, false, false, false, false, false, false] rfl rfl (any_of HT_.out (by kernel_rfl)) (fun _ _ _ h => h) (Or.inr ⟨by rfl, rfl⟩) ?_ ?_
           rotate_left
           ·simp only [Act.put, List.setIfInBounds_toArray, List.set_cons_zero, List.set_cons_succ, i64_w, i32_w]
            rfl
           refine pure_ (i := 14) (N := some 67) (v := undef) (a' := ?_) #[true, true, true, true, true, true, true, true, true, true, true, true, true, true, true, false, false, false, false, false, false, false, false, false, false, false, false, false] rfl rfl (any_of HT_.out (by kernel_rfl)) (fun _ _ _ h => h) (Or.inr ⟨by rfl, rfl⟩) ?_ ?_
           rotate_left
           ·simp only [Act.put, List.setIfInBounds_toArray, List.set_cons_zero, List.set_cons_succ, i64_w, i32_w]
            rfl
           refine pure_ (i := 15) (N := some 68) (v := undef) (a' := ?_) #[true, true, true, true, true, true, true, true, true, true, true, true, true, true, true, true, false, false, false, false, false, false, false, false, false, false, false, false] rfl rfl (any_of HT_.out (by kernel_rfl)) (fun _ _ _ h => h) (Or.inr ⟨by rfl, rfl⟩) ?_ ?_
           rotate_left
           ·simp only [Act.put, List.setIfInBounds_toArray, List.set_cons_zero, List.set_cons_succ, i64_w, i32_w]
            rfl
           refine pure_ (i := 16) (N := some 69) (v := ?_) (a' := ?_) #[true, true, true, true, true, true, true, true, true, true, true, true, true, true, true, true, true, false, false, false, false, false, false, false, false, false, false, false] rfl rfl (any_of HT_.out (by kernel_rfl)) (fun _ _ _ h => h) (Or.inl ⟨by rfl, ?_⟩) ?_ ?_
           rotate_left
           ·intro w'
            go_simp
            with_reducible rfl
           rotate_left
           ·simp only [Act.put, List.setIfInBounds_toArray, List.set_cons_zero, List.set_cons_succ, i64_w, i32_w]
            rfl
           refine pure_ (i := 17) (N := some 70) (v := ?_) (a' := ?_) #[true, true, true, true, true, true, true, true, true, true, true, true, true, true, true, true, true, true, false, false, false, false, false, false, false, false, false, false] rfl rfl (any_of HT_.out (by kernel_rfl)) (fun _ _ _ h => h) (Or.inl ⟨by rfl, ?_⟩) ?_ ?_
           rotate_left
           ·intro w'
            go_simp
            with_reducible rfl
           rotate_left
           ·simp only [Act.put, List.setIfInBounds_toArray, List.set_cons_zero, List.set_cons_succ, i64_w, i32_w]
            rfl
           refine pure_ (i := 18) (N := some 71) (v := undef) (a' := ?_) #[true, true, true, true, true, true, true, true, true, true, true, true, true, true, true, true, true, true, true, false, false, false, false, false, false, false, false, false] rfl rfl (any_of HT_.out (by kernel_rfl)) (fun _ _ _ h => h) (Or.inr ⟨by rfl, rfl⟩) ?_ ?_
           rotate_left
           ·simp only [Act.put, List.setIfInBounds_toArray, List.set_cons_zero, List.set_cons_succ, i64_w, i32_w]
            rfl
           refine pure_ (i := 19) (N := some 72) (v := undef) (a' := ?_) #[true, true, true, true, true, true, true, true, true, true, true, true, true, true, true, true, true, true, true, true, false, false, false, false, false, false, false, false] rfl rfl (any_of HT_.out (by kernel_rfl)) (fun _ _ _ h => h) (Or.inr ⟨by rfl, rfl⟩) ?_ ?_
           rotate_left
           ·simp only [Act.put, List.setIfInBounds_toArray, List.set_cons_zero, List.set_cons_succ, i64_w, i32_w]
            rfl
           refine pure_ (i := 20) (N := some 73) (v := undef) (a' := ?_) #[true, true, true, true, true, true, true, true, true, true, true, true, true, true, true, true, true, true, true, true, true, false, false, false, false, false, false, false] rfl rfl (any_of HT_.out (by kernel_rfl)) (fun _ _ _ h => h) (Or.inr ⟨by rfl, rfl⟩) ?_ ?_
           rotate_left
           ·simp only [Act.put, List.setIfInBounds_toArray, List.set_cons_zero, List.set_cons_succ, i64_w, i32_w]
            rfl
           refine pure_ (i := 21) (N := some 74) (v := undef) (a' := ?_) #[true, true, true, true, true, true, true, true, true, true, true, true, true, true, true, true, true, true, true, true, true, true, false, false, false, false, false, false] rfl rfl (any_of HT_.out (by kernel_rfl)) (fun _ _ _ h => h) (Or.inr ⟨by rfl, rfl⟩) ?_ ?_
           rotate_left
           ·simp only [Act.put, List.setIfInBounds_toArray, List.set_cons_zero, List.set_cons_succ, i64_w, i32_w]
            rfl
           refine pure_ (i := 22) (N := some 75) (v := undef) (a' := ?_) #[true, true, true, true, true, true, true, true, true, true, true, true, true, true, true, true, true, true, true, true, true, true, true, false, false, false, false, false] rfl rfl (any_of HT_.out (by kernel_rfl)) (fun _ _ _ h => h) (Or.inr ⟨by rfl, rfl⟩) ?_ ?_
           rotate_left
           ·simp only [Act.put, List.setIfInBounds_toArray, List.set_cons_zero, List.set_cons_succ, i64_w, i32_w]
            rfl
           refine pure_ (i := 23) (N := some 76) (v := undef) (a' := ?_) #[true, true, true, true, true, true, true, true, true, true, true, true, true, true, true, true, true, true, true, true, true, true, true, true, false, false, false, false] rfl rfl (any_of HT_.out (by kernel_rfl)) (fun _ _ _ h => h) (Or.inr ⟨by rfl, rfl⟩) ?_ ?_
           rotate_left
           ·simp only [Act.put, List.setIfInBounds_toArray, List.set_cons_zero, List.set_cons_succ, i64_w, i32_w]
            rfl
           refine pure_ (i := 24) (N := some 77) (v := undef) (a' := ?_) #[true, true, true, true, true, true, true, true, true, true, true, true, true, true, true, true, true, true, true, true, true, true, true, true, true, false, false, false] rfl rfl (any_of HT_.out (by kernel_rfl)) (fun _ _ _ h => h) (Or.inr ⟨by rfl, rfl⟩) ?_ ?_
           rotate_left
           ·simp only [Act.put, List.setIfInBounds_toArray, List.set_cons_zero, List.set_cons_succ, i64_w, i32_w]
            rfl
           refine pure_ (i := 25) (N := some 78) (v := undef) (a' := ?_) #[true, true, true, true, true, true, true, true, true, true, true, true, true, true, true, true, true, true, true, true, true, true, true, true, true, true, false, false] rfl rfl (any_of HT_.out (by kernel_rfl)) (fun _ _ _ h => h) (Or.inr ⟨by rfl, rfl⟩) ?_ ?_
           rotate_left
           ·simp only [Act.put, List.setIfInBounds_toArray, List.set_cons_zero, List.set_cons_succ, i64_w, i32_w]
            rfl
           refine pure_ (i := 26) (N := some 79) (v := undef) (a' := ?_) #[true, true, true, true, true, true, true, true, true, true, true, true, true, true, true, true, true, true, true, true, true, true, true, true, true, true, true, false] rfl rfl (any_of HT_.out (by kernel_rfl)) (fun _ _ _ h => h) (Or.inr ⟨by rfl, rfl⟩) ?_ ?_
           rotate_left
           ·simp only [Act.put, List.setIfInBounds_toArray, List.set_cons_zero, List.set_cons_succ, i64_w, i32_w]
            rfl
           refine pure_ (i := 27) (N := some 80) (v := ?_) (a' := ?_) #[true, true, true, true, true, true, true, true, true, true, true, true, true, true, true, true, true, true, true, true, true, true, true, true, true, true, true, true] rfl rfl (any_of HT_.out (by kernel_rfl)) (fun _ _ _ h => h) (Or.inl ⟨by rfl, ?_⟩) ?_ ?_
           rotate_left
           ·intro w'
            go_simp
            with_reducible rfl
           rotate_left
           ·simp only [Act.put, List.setIfInBounds_toArray, List.set_cons_zero, List.set_cons_succ, i64_w, i32_w]
            rfl
           refine done_ (done_of HT_.out (by kernel_rfl)) ?_
           try go_wp2
           go_roundg k2
           case measure => have := HK1.out; have := HK2.out; omega
           case rel => exact ⟨(x14_2), (x15_2), (wrap64 (x17_2 + 1)), zs, zs, H', ⟨by have := HK1.out; have := HK2.out; omega⟩, ⟨by (with_reducible repeat (first | apply Kd.N_alloc | apply Kd.N_drewN | apply Kd.N_drew)); exact Kd.N_mono HO_12.out (fun _ hk => hk.1)⟩, ⟨by (with_reducible repeat (first | apply Kd.R_alloc | apply Kd.R_drewN | apply Kd.R_drew)); exact HO_14.out⟩, ⟨zb⟩⟩
         ·rw [if_neg c21] at H
          exact absurd H (by simp)
        ·rw [if_neg c20] at H
         have c20b0 : decide (x17_2 < (l0.length : Int)) = false := decide_eq_false c20
         clear c20
         have H' := aM H
         clear H
         go_wp2
         go_roundg k2
         case measure => have := HK1.out; have := HK2.out; omega
         case rel => exact ⟨(x14_2), (x15_2), (wrap64 (x16_1 - 1)), zs, zs, H', ⟨by have := HK1.out; have := HK2.out; omega⟩, ⟨by (with_reducible repeat (first | apply Kd.N_alloc | apply Kd.N_drewN | apply Kd.N_drew)); exact HO_12.out⟩, ⟨by (with_reducible repeat (first | apply Kd.R_alloc | apply Kd.R_drewN | apply Kd.R_drew)); exact HO_14.out⟩, ⟨zb⟩⟩
     ·rw [if_neg c19] at H
      have c19b0 : decide (0 < x16_1) = false := decide_eq_false c19
      clear c19
      simp only [Option.some.injEq, Prod.mk.injEq] at H
      obtain ⟨rfl, rfl⟩ := H
      go_wp2
      go_ret2
      exact ⟨_, zr, by (with_reducible repeat (first | apply Kd.R_alloc | apply Kd.R_drewN | apply Kd.R_drew)); exact HO_14.out, zb⟩
 ·replace c7 := Bool.eq_false_iff.mpr c7
  subst c7
  have H1 : (some (([] : List Int), false)) = some (r1, r2) := by rw [if_neg (show ¬ (false = true) by decide)] at H; exact H
  clear H
  have H := H1
  clear H1
  simp only [Option.some.injEq, Prod.mk.injEq] at H
  obtain ⟨rfl, rfl⟩ := H
  go_enter Try.func37, Try.ntmps37
  go_wp2_with (first | ((with_reducible refine gate_callee (f := 72) rfl ?_); refine goesL_ (some 24) rfl rfl Try.func72 (by kernel_rfl) rfl #[.slice A0 l0.length c0, .int .i64 a1, .int .i64 a2, .int .i64 a3, .int .i64 a4] rfl za ?_; (with_reducible refine (spec_l05Good.calls k _ _ l0 a1 a2 a3 a4 false _ ?side1 ?side2 A6.out).mono ?_); (case side1 => repeat (first | exact HR0.out | (with_reducible refine Kd.C_alloc ?_ _) | (with_reducible refine Kd.C_drewN ?_ _) | (with_reducible refine Kd.C_drew ?_))); (case side2 => exact HC0.out); rintro e w60 ⟨rfl, hb⟩; refine ⟨_, rfl, ?_⟩; have n0_ := aM (below_step (zb) hb); clear HB; have HB := n0_; clear n0_; (try clear hb); (try clear hb2); (try clear hk); (try clear hi)))
  go_ret2
  exact ⟨_, zr, by first | exact Kd.R_nil _ _ _ _ _ | exact Kd.N_nil _ _ _ _ _ | exact Kd.V_nil _ _ _ _ _ | exact Kd.Q_nil _ _ _ _ _ | exact Kd.S_nil _ _ _ _ _, zb⟩

end Go.Proofs.Ytcpjfkagbnoagaa.QFnChains
