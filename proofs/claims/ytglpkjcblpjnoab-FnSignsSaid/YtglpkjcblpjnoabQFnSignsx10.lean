-- Printed functions and their walks: by print.py, turned by wip/tools/myprint.py.
import Derived.Test.YtglpkjcblpjnoabQFnSignsx0
import Derived.Test.YtglpkjcblpjnoabQFnSignsx1
import Derived.Test.YtglpkjcblpjnoabQFnSignsx5
import Derived.Test.YtglpkjcblpjnoabQFnSignsx9
namespace Go.Proofs.Ytglpkjcblpjnoab.QFnSigns
open Go.RowKit Go.Proofs.YtglpkjcblpjnoabW.PrintWords Go.Proofs.YtglpkjcblpjnoabW.PrintLast Go.Proofs.YtglpkjcblpjnoabW.PrintMore
attribute [local go_sem] max2_int min2_int max_two min_two max_three min_three max_four min_four   -- for this text's walks alone
set_option linter.unusedVariables false
set_option linter.unusedSimpArgs false

attribute [local go_sem high] eqA24
/-! ### spec_DoActs: function 43 -/
mutual
def spec_DoActs.j0 : Nat → List Int → List Int → Bool → Int → Int → Bool → Bool → Bool → Option (Int × Int × Bool × Bool × Bool × List Int)
 | 0, _, _, _, _, _, _, _, _ => none
 | k + 1, x1, x6, x18, x264000, x264001, x264002, x264003, x264004 => if x18 = true then (some (x264000, x264001, x264002, x264003, x264004, x6)) else (spec_DoActs.l0 k x1 x6 0 x264000 x264001 x264002 x264003 x264004)
def spec_DoActs.l0 : Nat → List Int → List Int → Int → Int → Int → Bool → Bool → Bool → Option (Int × Int × Bool × Bool × Bool × List Int)
 | 0, _, _, _, _, _, _, _, _ => none
 | k + 1, x1, x6, x7, x264000, x264001, x264002, x264003, x264004 => if x7 < (x1.length : Int) then (if 0 ≤ x7 then ((spec_l01In.f (rd x1 x7) 1 9).bind fun t270 => (if t270 = true then (spec_DoActs.l0 k x1 x6 (wrap64 (x7 + 1)) x264000 x264001 x264002 x264003 x264004) else (some (x264000, x264001, x264002, x264003, x264004, x6)))) else (none)) else (spec_DoActs.l1 k x1 x6 0 x264000 x264001 x264002 x264003 x264004)
def spec_DoActs.l1 : Nat → List Int → List Int → Int → Int → Int → Bool → Bool → Bool → Option (Int × Int × Bool × Bool × Bool × List Int)
 | 0, _, _, _, _, _, _, _, _ => none
 | k + 1, x1, x6, x8, x264000, x264001, x264002, x264003, x264004 => if x8 < (x1.length : Int) then (if 0 ≤ x8 then ((spec_l04Act.f k x264000 x264001 x264002 x264003 x264004 (rd x1 x8)).bind fun bt272 => (if (!(bt272.1 == x264000) || (!(bt272.2.1 == x264001) || (!(bt272.2.2.1 == x264002) || (!(bt272.2.2.2.1 == x264003) || (!(bt272.2.2.2.2 == x264004)))))) = true then (if x6.length < 17592186044416 then (spec_DoActs.l1 k x1 (x6 ++ [x8]) (wrap64 (x8 + 1)) bt272.1 bt272.2.1 bt272.2.2.1 bt272.2.2.2.1 bt272.2.2.2.2) else (none)) else (spec_DoActs.l1 k x1 x6 (wrap64 (x8 + 1)) bt272.1 bt272.2.1 bt272.2.2.1 bt272.2.2.2.1 bt272.2.2.2.2))) else (none)) else (some (x264000, x264001, x264002, x264003, x264004, x6))
end
def spec_DoActs.f (k : Nat) (a0_0 : Int) (a0_1 : Int) (a0_2 : Bool) (a0_3 : Bool) (a0_4 : Bool) (l1 : List Int) : Option (Int × Int × Bool × Bool × Bool × List Int) := (some (([] : List Int) : List Int)).bind fun y265 => ((spec_DoorOk.f k a0_0 a0_1 a0_2 a0_3 a0_4).bind fun t268 => (if t268 = true then (spec_DoActs.j0 k l1 y265 (decide ((l1.length : Int) > 200)) a0_0 a0_1 a0_2 a0_3 a0_4) else (spec_DoActs.j0 k l1 y265 true a0_0 a0_1 a0_2 a0_3 a0_4)))
theorem spec_DoActs.mono_l : ∀ k, (∀ y0 y1 y2 y3 y4 y5 y6 y7, LeO (spec_DoActs.j0 k y0 y1 y2 y3 y4 y5 y6 y7) (spec_DoActs.j0 (k + 1) y0 y1 y2 y3 y4 y5 y6 y7)) ∧ (∀ y0 y1 y2 y3 y4 y5 y6 y7, LeO (spec_DoActs.l0 k y0 y1 y2 y3 y4 y5 y6 y7) (spec_DoActs.l0 (k + 1) y0 y1 y2 y3 y4 y5 y6 y7)) ∧ (∀ y0 y1 y2 y3 y4 y5 y6 y7, LeO (spec_DoActs.l1 k y0 y1 y2 y3 y4 y5 y6 y7) (spec_DoActs.l1 (k + 1) y0 y1 y2 y3 y4 y5 y6 y7))
 | 0 => ⟨fun _ _ _ _ _ _ _ _ r h => by simp [spec_DoActs.j0] at h, fun _ _ _ _ _ _ _ _ r h => by simp [spec_DoActs.l0] at h, fun _ _ _ _ _ _ _ _ r h => by simp [spec_DoActs.l1] at h⟩
 | k + 1 => by
  obtain ⟨ih0, ih1, ih2⟩ := spec_DoActs.mono_l k
  refine ⟨?_, ?_, ?_⟩
  ·intro y0 y1 y2 y3 y4 y5 y6 y7
   unfold spec_DoActs.j0
   repeat' first
   | (with_reducible exact ih0 _ _ _ _ _ _ _ _)
   | (with_reducible exact ih1 _ _ _ _ _ _ _ _)
   | (with_reducible exact ih2 _ _ _ _ _ _ _ _)
   | (with_reducible exact spec_DoorOk.mono _ _ _ _ _ _)
   | (with_reducible exact spec_l04Act.mono _ _ _ _ _ _ _)
   | (with_reducible exact LeO.refl _)
   | (with_reducible exact LeO.none _)
   | (with_reducible refine LeO.ite ?_ ?_)
   | (with_reducible refine LeO.bind ?_ (fun _ => ?_))
   | exact ih0 _ _ _ _ _ _ _ _
   | exact ih1 _ _ _ _ _ _ _ _
   | exact ih2 _ _ _ _ _ _ _ _
   | exact spec_DoorOk.mono _ _ _ _ _ _
   | exact spec_l04Act.mono _ _ _ _ _ _ _
   | exact LeO.none _
   | refine LeO.ite ?_ ?_
   | refine LeO.bind ?_ (fun _ => ?_)
  ·intro y0 y1 y2 y3 y4 y5 y6 y7
   unfold spec_DoActs.l0
   repeat' first
   | (with_reducible exact ih0 _ _ _ _ _ _ _ _)
   | (with_reducible exact ih1 _ _ _ _ _ _ _ _)
   | (with_reducible exact ih2 _ _ _ _ _ _ _ _)
   | (with_reducible exact spec_DoorOk.mono _ _ _ _ _ _)
   | (with_reducible exact spec_l04Act.mono _ _ _ _ _ _ _)
   | (with_reducible exact LeO.refl _)
   | (with_reducible exact LeO.none _)
   | (with_reducible refine LeO.ite ?_ ?_)
   | (with_reducible refine LeO.bind ?_ (fun _ => ?_))
   | exact ih0 _ _ _ _ _ _ _ _
   | exact ih1 _ _ _ _ _ _ _ _
   | exact ih2 _ _ _ _ _ _ _ _
   | exact spec_DoorOk.mono _ _ _ _ _ _
   | exact spec_l04Act.mono _ _ _ _ _ _ _
   | exact LeO.none _
   | refine LeO.ite ?_ ?_
   | refine LeO.bind ?_ (fun _ => ?_)
  ·intro y0 y1 y2 y3 y4 y5 y6 y7
   unfold spec_DoActs.l1
   repeat' first
   | (with_reducible exact ih0 _ _ _ _ _ _ _ _)
   | (with_reducible exact ih1 _ _ _ _ _ _ _ _)
   | (with_reducible exact ih2 _ _ _ _ _ _ _ _)
   | (with_reducible exact spec_DoorOk.mono _ _ _ _ _ _)
   | (with_reducible exact spec_l04Act.mono _ _ _ _ _ _ _)
   | (with_reducible exact LeO.refl _)
   | (with_reducible exact LeO.none _)
   | (with_reducible refine LeO.ite ?_ ?_)
   | (with_reducible refine LeO.bind ?_ (fun _ => ?_))
   | exact ih0 _ _ _ _ _ _ _ _
   | exact ih1 _ _ _ _ _ _ _ _
   | exact ih2 _ _ _ _ _ _ _ _
   | exact spec_DoorOk.mono _ _ _ _ _ _
   | exact spec_l04Act.mono _ _ _ _ _ _ _
   | exact LeO.none _
   | refine LeO.ite ?_ ?_
   | refine LeO.bind ?_ (fun _ => ?_)
theorem spec_DoActs.mono : ∀ a0 a1 a2 a3 a4 a5 k, LeO (spec_DoActs.f k a0 a1 a2 a3 a4 a5) (spec_DoActs.f (k + 1) a0 a1 a2 a3 a4 a5) := by
 intro a0 a1 a2 a3 a4 a5 k
 obtain ⟨ih0, ih1, ih2⟩ := spec_DoActs.mono_l k
 unfold spec_DoActs.f
 repeat' first
   | (with_reducible exact ih0 _ _ _ _ _ _ _ _)
   | (with_reducible exact ih1 _ _ _ _ _ _ _ _)
   | (with_reducible exact ih2 _ _ _ _ _ _ _ _)
   | (with_reducible exact spec_DoorOk.mono _ _ _ _ _ _)
   | (with_reducible exact spec_l04Act.mono _ _ _ _ _ _ _)
   | (with_reducible exact LeO.refl _)
   | (with_reducible exact LeO.none _)
   | (with_reducible refine LeO.ite ?_ ?_)
   | (with_reducible refine LeO.bind ?_ (fun _ => ?_))
   | exact ih0 _ _ _ _ _ _ _ _
   | exact ih1 _ _ _ _ _ _ _ _
   | exact ih2 _ _ _ _ _ _ _ _
   | exact spec_DoorOk.mono _ _ _ _ _ _
   | exact spec_l04Act.mono _ _ _ _ _ _ _
   | exact LeO.none _
   | refine LeO.ite ?_ ?_
   | refine LeO.bind ?_ (fun _ => ?_)
def spec_DoActs.T12 : Bool × List (List Nat × List Nat) := (true, [([], []), ([], []), ([], []), ([1, 2], [1, 2]), ([3], [3]), ([0, 4], [0, 4]), ([], []), ([6, 5, 5, 0, 1, 2, 3, 4, 5, 6], [5, 6])])
def spec_DoActs.B12 : List Nat := [0, 0, 0, 6, 14, 31, 0, 127]
theorem spec_DoActs.tab12 : rtab .any (opsOf Try.f43 12) = spec_DoActs.T12 := by kernel_rfl
theorem spec_DoActs.bits12 : waitsOk spec_DoActs.T12.2 spec_DoActs.B12 = true := by kernel_rfl
set_option maxHeartbeats 8000000 in
set_option maxRecDepth 100000 in
theorem spec_DoActs.calls (k : Nat) (a0_0 : Int) (a0_1 : Int) (a0_2 : Bool) (a0_3 : Bool) (a0_4 : Bool) (A1 : Option Addr) (c1 : Nat) (l1 : List Int) (r1 : Int) (r2 : Int) (r3 : Bool) (r4 : Bool) (r5 : Bool) (r6 : List Int) (w : World) (hr1 : Kd.C (Kd.int .i64) w A1 l1.length l1) (hc1 : l1.length ≤ c1) (h : spec_DoActs.f k a0_0 a0_1 a0_2 a0_3 a0_4 l1 = some (r1, r2, r3, r4, r5, r6)) :
  Calls Try.prog 43 #[.agg #[.int .i64 a0_0, .int .i64 a0_1, .bool a0_2, .bool a0_3, .bool a0_4], .slice A1 l1.length c1] w fun e w' => ∃ v5_ : Value, e = .returned (.tuple #[.agg #[.int .i64 r1, .int .i64 r2, .bool r3, .bool r4, .bool r5], v5_]) ∧ Kd.R (Kd.int .i64) 3 w' w.heap.size (fun _ => True) v5_ r6 ∧ Below w.heap.size w w' := by
 have hu24 := Try.underlying24
 have HR1 := aM hr1
 have HC1 := aM hc1
 clear hr1 hc1
 have HB := aM (Below.refl w.heap.size w)
 have H : ((some (([] : List Int) : List Int)).bind fun y265 => ((spec_DoorOk.f k a0_0 a0_1 a0_2 a0_3 a0_4).bind fun t268 => (if t268 = true then (spec_DoActs.j0 k l1 y265 (decide ((l1.length : Int) > 200)) a0_0 a0_1 a0_2 a0_3 a0_4) else (spec_DoActs.j0 k l1 y265 true a0_0 a0_1 a0_2 a0_3 a0_4)))) = some (r1, r2, r3, r4, r5, r6) := h
 clear h
 obtain ⟨y265, hy265⟩ : ∃ y_ : List Int, y_ = (([] : List Int)) := ⟨_, rfl⟩
 replace H : ((spec_DoorOk.f k a0_0 a0_1 a0_2 a0_3 a0_4).bind fun t268 => (if t268 = true then (spec_DoActs.j0 k l1 y265 (decide ((l1.length : Int) > 200)) a0_0 a0_1 a0_2 a0_3 a0_4) else (spec_DoActs.j0 k l1 y265 true a0_0 a0_1 a0_2 a0_3 a0_4))) = some (r1, r2, r3, r4, r5, r6) := by first | (rw [hy265]; with_reducible exact H) | (have H2_ := (Option.bind_some _ _).symm.trans H; rw [hy265]; with_reducible exact H2_) | (have H2_ := (Option.bind_some _ _).symm.trans H; with_reducible exact H2_) | with_reducible exact H | (rw [hy265]; exact H) | exact H
 have Ny265 := aM hy265
 clear hy265
 have HC3 := aM H
 clear H
 go_enter Try.func43, Try.ntmps43
 go_upto_region 2 with (first | ((with_reducible refine gate_dst (N := 2) rfl ?_); (try (refine gate_guard (by rfl) ?_; dsimp only)); refine box_event ?hg (N := 2) ?hd (cs := #[.int .i64 a0_0, .int .i64 a0_1, .bool a0_2, .bool a0_3, .bool a0_4]) (t := 24) ?hr ?_; (case hd => rfl); (case hg => rfl); (case hr => exact zg); intro gb263 hg w4 hbox hb; have n0_ := aM (below_step (zb) hb); have n1_ := aM (hbox); have n2_ := aM ((by rw [hg]; exact (below_size (zb)) : w.heap.size ≤ gb263)); have n3_ := aM ((by rw [hg]; exact (below_size (zb)) : w.heap.size ≤ gb263)); clear HB; have HB := n0_; have BK263 := n1_; have GW263 := n2_; have GE263 := n3_; clear n0_ n1_ n2_ n3_; clear hb hbox hg) | ((with_reducible refine gate_dst (N := 4) rfl ?_); (try (refine gate_guard (by rfl) ?_; dsimp only)); refine box_event ?hg (N := 4) ?hd (cs := #[.int .i64 0, .int .i64 0, .bool false, .bool false, .bool false]) (t := 24) ?hr ?_; (case hd => rfl); (case hg => rfl); (case hr => exact zg); intro gb264 hg w5 hbox hb; have n0_ := aM (bb BK263.out hb); have n1_ := aM (below_step (zb) hb); have n2_ := aM (hbox); have n3_ := aM ((by rw [hg]; exact (below_size (zb)) : w.heap.size ≤ gb264)); have n4_ := aM ((by rw [hg]; exact (below_size (zb)) : w.heap.size ≤ gb264)); have n5_ := aM ((by rw [hg]; exact Nat.ne_of_lt (nl BK263.out) : gb263 ≠ gb264)); have n6_ := aM ((by rw [hg]; exact Nat.ne_of_gt (nl BK263.out) : gb264 ≠ gb263)); clear BK263; clear HB; have BK263 := n0_; have HB := n1_; have BK264 := n2_; have GW264 := n3_; have GE264 := n4_; have NB263_264 := n5_; have NB264_263 := n6_; clear n0_ n1_ n2_ n3_ n4_ n5_ n6_; clear hb hbox hg) | ((with_reducible refine gate_dst (N := 10) rfl ?_); (try (refine gate_guard (by rfl) ?_; dsimp only)); refine Kd.R_lit (Kd.int .i64) _ 3 ?hg (N := 10) ?hd (xs := ([] : List Int)) (inner := []) (ok := fun _ => True) (okp := fun _ => True) ?hr ?hp (fun _ hk => hk) trivial (Below.refl _ _) (Nat.le_refl _) (by simp) ?_; (case hd => rfl); (case hg => rfl); (case hr => exact zg); (case hp => exact (Reps.none _ _)); intro v266 w6 ho7 hb hg_ hnew_; clear hg_ hnew_; (first | rw [← Ny265.out] at ho7 | (simp only [Int.reduceToNat] at ho7; rw [← Ny265.out] at ho7)); have n0_ := aM (Kd.R_lower ho7 (below_size (zb))); have n1_ := aM (bb BK263.out hb); have n2_ := aM (bb BK264.out hb); have n3_ := aM (below_step (zb) hb); clear BK263; clear BK264; clear HB; have HO267 := n0_; have BK263 := n1_; have BK264 := n2_; have HB := n3_; clear n0_ n1_ n2_ n3_; clear hb ho7))
 (try simp only [Act.put, List.setIfInBounds_toArray, List.set_cons_zero, List.set_cons_succ])
 go_cut [18] (fun v18 wc => ∃ (kq : Nat) (x18_2 : Bool), v18 = .bool x18_2 ∧ Aside0 (spec_DoActs.j0 kq l1 y265 x18_2 a0_0 a0_1 a0_2 a0_3 a0_4 = some (r1, r2, r3, r4, r5, r6)) ∧ Aside0 (kq ≤ k) ∧ Aside0 (Kd.R (Kd.int .i64) 3 wc w.heap.size (fun _ => True) v266 y265) ∧ Aside0 (wc.heap[gb263]? = some (.cells #[.int .i64 a0_0, .int .i64 a0_1, .bool a0_2, .bool a0_3, .bool a0_4] 24 (0, 0))) ∧ Aside0 (wc.heap[gb264]? = some (.cells #[.int .i64 0, .int .i64 0, .bool false, .bool false, .bool false] 24 (0, 0))) ∧ Aside0 (Below w.heap.size w wc))
 case first =>
  have H := HC3.out
  clear HC3
  replace H := Option.bind_eq_some_iff.mp H
  obtain ⟨t268, A80, H⟩ := H
  replace H : (if t268 = true then (spec_DoActs.j0 k l1 y265 (decide ((l1.length : Int) > 200)) a0_0 a0_1 a0_2 a0_3 a0_4) else (spec_DoActs.j0 k l1 y265 true a0_0 a0_1 a0_2 a0_3 a0_4)) = some (r1, r2, r3, r4, r5, r6) := H
  have A8 := aM A80
  clear A80
  by_cases c9 : t268 = true
  ·subst c9
   have H1 : (spec_DoActs.j0 k l1 y265 (decide ((l1.length : Int) > 200)) a0_0 a0_1 a0_2 a0_3 a0_4) = some (r1, r2, r3, r4, r5, r6) := by rw [if_pos rfl] at H; exact H
   clear H
   have H := H1
   clear H1
   have H' := aM H
   clear H
   have hnb10 := NB263_264.out
   have hnc10 := NB264_263.out
   obtain ⟨hcz11_0, hcz11_1, hcz11_2, hcz11_3, hcz11_4, hfz11_0, hfz11_1, hfz11_2, hfz11_3, hfz11_4⟩ := cells5 BK263.out
   go_wp2_with (first | ((with_reducible refine gate_callee (f := 51) rfl ?_); refine goesL_ (some 12) rfl rfl Try.func51 (by kernel_rfl) rfl #[.agg #[.int .i64 a0_0, .int .i64 a0_1, .bool a0_2, .bool a0_3, .bool a0_4]] rfl za ?_; (with_reducible refine (spec_DoorOk.calls k a0_0 a0_1 a0_2 a0_3 a0_4 true _ A8.out).mono ?_); rintro e w12 ⟨rfl, hb⟩; refine ⟨_, rfl, ?_⟩; have n0_ := aM (Kd.R_below (by (with_reducible repeat (first | apply Kd.R_alloc | apply Kd.R_drewN | apply Kd.R_drew)); exact HO267.out) hb); have n1_ := aM (bb BK263.out hb); have n2_ := aM (bb BK264.out hb); have n3_ := aM (below_step (zb) hb); clear HO267; clear BK263; clear BK264; clear HB; have HO267 := n0_; have BK263 := n1_; have BK264 := n2_; have HB := n3_; clear n0_ n1_ n2_ n3_; (try clear hb); (try clear hb2); (try clear hk); (try clear hi)))
   go_meet
   case rel => exact ⟨_, (decide ((l1.length : Int) > 200)), zs, H', ⟨by first | omega | exact Nat.le_refl _⟩, ⟨by (with_reducible repeat (first | apply Kd.R_alloc | apply Kd.R_drewN | apply Kd.R_drew)); exact HO267.out⟩, ⟨by exact pk BK263.out⟩, ⟨by exact pk BK264.out⟩, ⟨zb⟩⟩
  ·replace c9 := Bool.eq_false_iff.mpr c9
   subst c9
   have H1 : (spec_DoActs.j0 k l1 y265 true a0_0 a0_1 a0_2 a0_3 a0_4) = some (r1, r2, r3, r4, r5, r6) := by rw [if_neg (show ¬ (false = true) by decide)] at H; exact H
   clear H
   have H := H1
   clear H1
   have H' := aM H
   clear H
   have hnb13 := NB263_264.out
   have hnc13 := NB264_263.out
   obtain ⟨hcz14_0, hcz14_1, hcz14_2, hcz14_3, hcz14_4, hfz14_0, hfz14_1, hfz14_2, hfz14_3, hfz14_4⟩ := cells5 BK263.out
   go_wp2_with (first | ((with_reducible refine gate_callee (f := 51) rfl ?_); refine goesL_ (some 12) rfl rfl Try.func51 (by kernel_rfl) rfl #[.agg #[.int .i64 a0_0, .int .i64 a0_1, .bool a0_2, .bool a0_3, .bool a0_4]] rfl za ?_; (with_reducible refine (spec_DoorOk.calls k a0_0 a0_1 a0_2 a0_3 a0_4 false _ A8.out).mono ?_); rintro e w15 ⟨rfl, hb⟩; refine ⟨_, rfl, ?_⟩; have n0_ := aM (Kd.R_below (by (with_reducible repeat (first | apply Kd.R_alloc | apply Kd.R_drewN | apply Kd.R_drew)); exact HO267.out) hb); have n1_ := aM (bb BK263.out hb); have n2_ := aM (bb BK264.out hb); have n3_ := aM (below_step (zb) hb); clear HO267; clear BK263; clear BK264; clear HB; have HO267 := n0_; have BK263 := n1_; have BK264 := n2_; have HB := n3_; clear n0_ n1_ n2_ n3_; (try clear hb); (try clear hb2); (try clear hk); (try clear hi)))
   go_meet
   case rel => exact ⟨_, (true), zs, H', ⟨by first | omega | exact Nat.le_refl _⟩, ⟨by (with_reducible repeat (first | apply Kd.R_alloc | apply Kd.R_drewN | apply Kd.R_drew)); exact HO267.out⟩, ⟨by exact pk BK263.out⟩, ⟨by exact pk BK264.out⟩, ⟨zb⟩⟩
 case rest =>
  clear HC3
  try clear c1
  try clear p2
  try clear c4
  try clear c5
  try clear c9
  try clear c10
  try clear c13
  try clear hcz11_0 hcz11_1 hcz11_2 hcz11_3 hcz11_4 hfz11_0 hfz11_1 hfz11_2 hfz11_3 hfz11_4
  try clear hcz14_0 hcz14_1 hcz14_2 hcz14_3 hcz14_4 hfz14_0 hfz14_1 hfz14_2 hfz14_3 hfz14_4
  obtain ⟨kq, x18_2, rfl, HA, HJ2, HO_6, BK263, BK264, HB⟩ := hcut
  cases kq with
  | zero => exact absurd HA.out (by simp [spec_DoActs.j0])
  | succ kj2 =>
   have H := HA.out
   clear HA
   simp only [spec_DoActs.j0] at H
   by_cases c16 : x18_2 = true
   ·subst c16
    have H1 : (some (a0_0, a0_1, a0_2, a0_3, a0_4, y265)) = some (r1, r2, r3, r4, r5, r6) := by rw [if_pos rfl] at H; exact H
    clear H
    have H := H1
    clear H1
    simp only [Option.some.injEq, Prod.mk.injEq] at H
    obtain ⟨rfl, rfl, rfl, rfl, rfl, rfl⟩ := H
    have hnb17 := NB263_264.out
    have hnc17 := NB264_263.out
    obtain ⟨hcz18_0, hcz18_1, hcz18_2, hcz18_3, hcz18_4, hfz18_0, hfz18_1, hfz18_2, hfz18_3, hfz18_4⟩ := cells5 BK263.out
    obtain ⟨hcz19_0, hcz19_1, hcz19_2, hcz19_3, hcz19_4, hfz19_0, hfz19_1, hfz19_2, hfz19_3, hfz19_4⟩ := cells5 BK264.out
    go_wp2
    refine bodyPost_ret (results_ct rfl _ _ gb264 24 #[.int .i64 a0_0, .int .i64 a0_1, .bool a0_2, .bool a0_3, .bool a0_4] (0, 0) _ rfl (by refine pq ?_; refine blk_put (cs := #[.int .i64 a0_0, .int .i64 a0_1, .bool a0_2, .bool a0_3, .bool false]) ?_ 4 _ rfl; refine pq ?_; refine blk_put (cs := #[.int .i64 a0_0, .int .i64 a0_1, .bool a0_2, .bool false, .bool false]) ?_ 3 _ rfl; refine pq ?_; refine blk_put (cs := #[.int .i64 a0_0, .int .i64 a0_1, .bool false, .bool false, .bool false]) ?_ 2 _ rfl; refine pq ?_; refine blk_put (cs := #[.int .i64 a0_0, .int .i64 0, .bool false, .bool false, .bool false]) ?_ 1 _ rfl; refine pq ?_; refine blk_put (cs := #[.int .i64 0, .int .i64 0, .bool false, .bool false, .bool false]) ?_ 0 _ rfl; refine pq ?_; exact BK264.out) Try.underlying24 rfl (by kernel_rfl)) rfl ?_
    exact ⟨_, zr, by (with_reducible repeat (first | apply Kd.R_alloc | apply Kd.R_drewN | apply Kd.R_drew)); exact Kd.R_mono (Kd.R_far (p := ⟨gb264, 4, none⟩) (Kd.R_far (p := ⟨gb264, 3, none⟩) (Kd.R_far (p := ⟨gb264, 2, none⟩) (Kd.R_far (p := ⟨gb264, 1, none⟩) (Kd.R_far (p := ⟨gb264, 0, none⟩) (Kd.R_types HO_6.out BK264.out (by decide)) (fun _ hk => hk.2) (.int .i64 a0_0)) (fun _ hk => hk.2) (.int .i64 a0_1)) (fun _ hk => hk.2) (.bool a0_2)) (fun _ hk => hk.2) (.bool a0_3)) (fun _ hk => hk.2) (.bool a0_4)) (fun _ hk => trivial), zb⟩
   ·replace c16 := Bool.eq_false_iff.mpr c16
    subst c16
    have H1 : (spec_DoActs.l0 kj2 l1 y265 0 a0_0 a0_1 a0_2 a0_3 a0_4) = some (r1, r2, r3, r4, r5, r6) := by rw [if_neg (show ¬ (false = true) by decide)] at H; exact H
    clear H
    have H := H1
    clear H1
    have H' := aM H
    clear H
    go_wp2
    go_loopg [7] kj2 (fun kq v7 w' => ∃ (x7_2 : Int) (x265000_2 : Int) (x265001_2 : Int) (x265002_2 : Bool) (x265003_2 : Bool) (x265004_2 : Bool), v7 = .int .i64 x7_2 ∧ Aside0 (spec_DoActs.l0 kq l1 y265 x7_2 a0_0 a0_1 a0_2 a0_3 a0_4 = some (r1, r2, r3, r4, r5, r6)) ∧ Aside0 (kq ≤ kj2) ∧ Aside0 (Kd.R (Kd.int .i64) 3 w' w.heap.size (fun _ => True) v266 y265) ∧ Aside0 (w'.heap[gb263]? = some (.cells #[.int .i64 a0_0, .int .i64 a0_1, .bool a0_2, .bool a0_3, .bool a0_4] 24 (0, 0))) ∧ Aside0 (w'.heap[gb264]? = some (.cells #[.int .i64 x265000_2, .int .i64 x265001_2, .bool x265002_2, .bool x265003_2, .bool x265004_2] 24 (0, 0))) ∧ Aside0 (Below w.heap.size w w'))
    case atStart => exact ⟨(0), (0), (0), (false), (false), (false), zs, H', ⟨Nat.le_refl _⟩, ⟨by (with_reducible repeat (first | apply Kd.R_alloc | apply Kd.R_drewN | apply Kd.R_drew)); exact HO_6.out⟩, ⟨by exact pk BK263.out⟩, ⟨by exact pk BK264.out⟩, ⟨zb⟩⟩
    case round =>
     clear H'
     try clear c1
     try clear p2
     try clear c4
     try clear c5
     try clear c9
     try clear c10
     try clear c13
     try clear c16
     try clear c17
     try clear hcz11_0 hcz11_1 hcz11_2 hcz11_3 hcz11_4 hfz11_0 hfz11_1 hfz11_2 hfz11_3 hfz11_4
     try clear hcz14_0 hcz14_1 hcz14_2 hcz14_3 hcz14_4 hfz14_0 hfz14_1 hfz14_2 hfz14_3 hfz14_4
     try clear hcz18_0 hcz18_1 hcz18_2 hcz18_3 hcz18_4 hfz18_0 hfz18_1 hfz18_2 hfz18_3 hfz18_4
     try clear hcz19_0 hcz19_1 hcz19_2 hcz19_3 hcz19_4 hfz19_0 hfz19_1 hfz19_2 hfz19_3 hfz19_4
     try clear p2
     obtain ⟨x7_2, x265000_2, x265001_2, x265002_2, x265003_2, x265004_2, rfl, HA, HK2, HO_6, BK263, BK264, HB⟩ := hrel
     cases gk with
     | zero => exact absurd HA.out (by simp [spec_DoActs.l0])
     | succ k2 =>
      have H := HA.out
      clear HA
      simp only [spec_DoActs.l0] at H
      by_cases c20 : x7_2 < (l1.length : Int)
      ·rw [if_pos c20] at H
       have c20b0 : decide (x7_2 < (l1.length : Int)) = true := decide_eq_true c20
       clear c20
       by_cases c21 : 0 ≤ x7_2
       ·rw [if_pos c21] at H
        have c21b0 : decide (0 ≤ x7_2) = true := decide_eq_true c21
        clear c21
        replace H := Option.bind_eq_some_iff.mp H
        obtain ⟨t270, A220, H⟩ := H
        replace H : (if t270 = true then (spec_DoActs.l0 k2 l1 y265 (wrap64 (x7_2 + 1)) a0_0 a0_1 a0_2 a0_3 a0_4) else (some (a0_0, a0_1, a0_2, a0_3, a0_4, y265))) = some (r1, r2, r3, r4, r5, r6) := H
        have A22 := aM A220
        clear A220
        by_cases c23 : t270 = true
        ·subst c23
         have H1 : (spec_DoActs.l0 k2 l1 y265 (wrap64 (x7_2 + 1)) a0_0 a0_1 a0_2 a0_3 a0_4) = some (r1, r2, r3, r4, r5, r6) := by rw [if_pos rfl] at H; exact H
         clear H
         have H := H1
         clear H1
         have H' := aM H
         clear H
         have p269 : 0 ≤ (x7_2 : Int) := of_decide_eq_true (by first | (with_reducible assumption) | assumption)
         have q269 : x7_2 < (l1.length : Int) := of_decide_eq_true (by first | (with_reducible assumption) | assumption)
         obtain ⟨ad269, e269, hx269_0⟩ := Kd.at_int HR1.out x7_2 p269 q269
         cases e269
         replace hx269_0 := (HB.out.cell (World.block_lt_of_cell? w _ hx269_0)).trans hx269_0
         replace p269 := eq_true p269
         replace q269 := eq_true q269
         go_wp2_with (first | ((with_reducible refine gate_callee (f := 56) rfl ?_); refine goesL_ (some 31) rfl rfl Try.func56 (by kernel_rfl) rfl #[.int .i64 (rd l1 x7_2), .int .i64 1, .int .i64 9] rfl za ?_; (with_reducible refine (spec_l01In.calls (rd l1 x7_2) 1 9 true _ A22.out).mono ?_); rintro e w' ⟨rfl, ⟨nd, rfl⟩⟩; refine ⟨_, rfl, ?_⟩))
         go_roundg k2
         case measure => have := HJ2.out; have := HK2.out; omega
         case rel => exact ⟨(wrap64 (x7_2 + 1)), (x265000_2), (x265001_2), (x265002_2), (x265003_2), (x265004_2), zs, H', ⟨by have := HJ2.out; have := HK2.out; omega⟩, ⟨by (with_reducible repeat (first | apply Kd.R_alloc | apply Kd.R_drewN | apply Kd.R_drew)); exact HO_6.out⟩, ⟨by exact pk BK263.out⟩, ⟨by exact pk BK264.out⟩, ⟨zb⟩⟩
        ·replace c23 := Bool.eq_false_iff.mpr c23
         subst c23
         have H1 : (some (a0_0, a0_1, a0_2, a0_3, a0_4, y265)) = some (r1, r2, r3, r4, r5, r6) := by rw [if_neg (show ¬ (false = true) by decide)] at H; exact H
         clear H
         have H := H1
         clear H1
         simp only [Option.some.injEq, Prod.mk.injEq] at H
         obtain ⟨rfl, rfl, rfl, rfl, rfl, rfl⟩ := H
         have p269 : 0 ≤ (x7_2 : Int) := of_decide_eq_true (by first | (with_reducible assumption) | assumption)
         have q269 : x7_2 < (l1.length : Int) := of_decide_eq_true (by first | (with_reducible assumption) | assumption)
         obtain ⟨ad269, e269, hx269_0⟩ := Kd.at_int HR1.out x7_2 p269 q269
         cases e269
         replace hx269_0 := (HB.out.cell (World.block_lt_of_cell? w _ hx269_0)).trans hx269_0
         replace p269 := eq_true p269
         replace q269 := eq_true q269
         go_wp2_with (first | ((with_reducible refine gate_callee (f := 56) rfl ?_); refine goesL_ (some 31) rfl rfl Try.func56 (by kernel_rfl) rfl #[.int .i64 (rd l1 x7_2), .int .i64 1, .int .i64 9] rfl za ?_; (with_reducible refine (spec_l01In.calls (rd l1 x7_2) 1 9 false _ A22.out).mono ?_); rintro e w' ⟨rfl, ⟨nd, rfl⟩⟩; refine ⟨_, rfl, ?_⟩; (try (rw [drewN_self wr]; generalize hq_ : World.drewN wr _ = wr; have n0_ : Aside0 (Kd.R (Kd.int .i64) 3 wr w.heap.size (fun _ => True) v266 y265) := ⟨by rw [← hq_]; exact (by (with_reducible repeat (first | apply Kd.R_alloc | apply Kd.R_drewN | apply Kd.R_drew)); exact HO_6.out)⟩; have n1_ : Aside0 (wr.heap[gb263]? = some (.cells #[.int .i64 a0_0, .int .i64 a0_1, .bool a0_2, .bool a0_3, .bool a0_4] 24 (0, 0))) := ⟨by rw [← hq_]; exact (by exact pk BK263.out)⟩; have n2_ : Aside0 (wr.heap[gb264]? = some (.cells #[.int .i64 x265000_2, .int .i64 x265001_2, .bool x265002_2, .bool x265003_2, .bool x265004_2] 24 (0, 0))) := ⟨by rw [← hq_]; exact (by exact pk BK264.out)⟩; have n3_ : Aside0 (Below w.heap.size w wr) := ⟨by rw [← hq_]; exact (zb)⟩; clear HO_6 BK263 BK264 HB hq_; have HO_6 := n0_; have BK263 := n1_; have BK264 := n2_; have HB := n3_; clear n0_ n1_ n2_ n3_)); have hnb24 := NB263_264.out; have hnc24 := NB264_263.out; obtain ⟨hcz25_0, hcz25_1, hcz25_2, hcz25_3, hcz25_4, hfz25_0, hfz25_1, hfz25_2, hfz25_3, hfz25_4⟩ := cells5 BK263.out; obtain ⟨hcz26_0, hcz26_1, hcz26_2, hcz26_3, hcz26_4, hfz26_0, hfz26_1, hfz26_2, hfz26_3, hfz26_4⟩ := cells5 BK264.out))
         refine bodyPost_ret (results_ct rfl _ _ gb264 24 #[.int .i64 a0_0, .int .i64 a0_1, .bool a0_2, .bool a0_3, .bool a0_4] (0, 0) _ rfl (by refine pq ?_; refine blk_put (cs := #[.int .i64 a0_0, .int .i64 a0_1, .bool a0_2, .bool a0_3, .bool x265004_2]) ?_ 4 _ rfl; refine pq ?_; refine blk_put (cs := #[.int .i64 a0_0, .int .i64 a0_1, .bool a0_2, .bool x265003_2, .bool x265004_2]) ?_ 3 _ rfl; refine pq ?_; refine blk_put (cs := #[.int .i64 a0_0, .int .i64 a0_1, .bool x265002_2, .bool x265003_2, .bool x265004_2]) ?_ 2 _ rfl; refine pq ?_; refine blk_put (cs := #[.int .i64 a0_0, .int .i64 x265001_2, .bool x265002_2, .bool x265003_2, .bool x265004_2]) ?_ 1 _ rfl; refine pq ?_; refine blk_put (cs := #[.int .i64 x265000_2, .int .i64 x265001_2, .bool x265002_2, .bool x265003_2, .bool x265004_2]) ?_ 0 _ rfl; refine pq ?_; exact BK264.out) Try.underlying24 rfl (by kernel_rfl)) rfl ?_
         exact ⟨_, zr, by (with_reducible repeat (first | apply Kd.R_alloc | apply Kd.R_drewN | apply Kd.R_drew)); exact Kd.R_mono (Kd.R_far (p := ⟨gb264, 4, none⟩) (Kd.R_far (p := ⟨gb264, 3, none⟩) (Kd.R_far (p := ⟨gb264, 2, none⟩) (Kd.R_far (p := ⟨gb264, 1, none⟩) (Kd.R_far (p := ⟨gb264, 0, none⟩) (Kd.R_types HO_6.out BK264.out (by decide)) (fun _ hk => hk.2) (.int .i64 a0_0)) (fun _ hk => hk.2) (.int .i64 a0_1)) (fun _ hk => hk.2) (.bool a0_2)) (fun _ hk => hk.2) (.bool a0_3)) (fun _ hk => hk.2) (.bool a0_4)) (fun _ hk => trivial), zb⟩
       ·rw [if_neg c21] at H
        exact absurd H (by simp)
      ·rw [if_neg c20] at H
       have c20b0 : decide (x7_2 < (l1.length : Int)) = false := decide_eq_false c20
       clear c20
       have H' := aM H
       clear H
       go_wp2
       go_loopg [6, 8] k2 (fun kq v6 v8 w' => ∃ (x6_3 : List Int) (x8_3 : Int) (x264000_3 : Int) (x264001_3 : Int) (x264002_3 : Bool) (x264003_3 : Bool) (x264004_3 : Bool), v8 = .int .i64 x8_3 ∧ Aside0 (spec_DoActs.l1 kq l1 x6_3 x8_3 x264000_3 x264001_3 x264002_3 x264003_3 x264004_3 = some (r1, r2, r3, r4, r5, r6)) ∧ Aside0 (kq ≤ k2) ∧ Aside0 (Kd.R (Kd.int .i64) 3 w' w.heap.size (fun _ => True) v6 x6_3) ∧ Aside0 (w'.heap[gb263]? = some (.cells #[.int .i64 x264000_3, .int .i64 x264001_3, .bool x264002_3, .bool x264003_3, .bool x264004_3] 24 (0, 0))) ∧ Aside0 (w'.heap[gb264]? = some (.cells #[.int .i64 x265000_2, .int .i64 x265001_2, .bool x265002_2, .bool x265003_2, .bool x265004_2] 24 (0, 0))) ∧ Aside0 (Below w.heap.size w w'))
       case atStart => exact ⟨(y265), (0), (a0_0), (a0_1), (a0_2), (a0_3), (a0_4), zs, H', ⟨Nat.le_refl _⟩, ⟨by (with_reducible repeat (first | apply Kd.R_alloc | apply Kd.R_drewN | apply Kd.R_drew)); exact HO_6.out⟩, ⟨by exact pk BK263.out⟩, ⟨by exact pk BK264.out⟩, ⟨zb⟩⟩
       case round =>
        clear H'
        try clear c1
        try clear c2
        try clear p2
        try clear q2
        try clear hx2
        try clear c4
        try clear c5
        try clear p6
        try clear c9
        try clear c10
        try clear c13
        try clear c16
        try clear c17
        try clear c20
        try clear c20b0
        try clear c21
        try clear c21b0
        try clear c23
        try clear c24
        try clear p26
        try clear q26
        try clear hx26
        try clear hcz11_0 hcz11_1 hcz11_2 hcz11_3 hcz11_4 hfz11_0 hfz11_1 hfz11_2 hfz11_3 hfz11_4
        try clear hcz14_0 hcz14_1 hcz14_2 hcz14_3 hcz14_4 hfz14_0 hfz14_1 hfz14_2 hfz14_3 hfz14_4
        try clear hcz18_0 hcz18_1 hcz18_2 hcz18_3 hcz18_4 hfz18_0 hfz18_1 hfz18_2 hfz18_3 hfz18_4
        try clear hcz19_0 hcz19_1 hcz19_2 hcz19_3 hcz19_4 hfz19_0 hfz19_1 hfz19_2 hfz19_3 hfz19_4
        try clear hcz25_0 hcz25_1 hcz25_2 hcz25_3 hcz25_4 hfz25_0 hfz25_1 hfz25_2 hfz25_3 hfz25_4
        try clear hcz26_0 hcz26_1 hcz26_2 hcz26_3 hcz26_4 hfz26_0 hfz26_1 hfz26_2 hfz26_3 hfz26_4
        try clear hx269_0
        try clear p2
        try clear p269
        try clear q269
        obtain ⟨x6_3, x8_3, x264000_3, x264001_3, x264002_3, x264003_3, x264004_3, rfl, HA, HK3, HO_6, BK263, BK264, HB⟩ := hrel
        cases gk with
        | zero => exact absurd HA.out (by simp [spec_DoActs.l1])
        | succ k3 =>
         have H := HA.out
         clear HA
         simp only [spec_DoActs.l1] at H
         by_cases c27 : x8_3 < (l1.length : Int)
         ·rw [if_pos c27] at H
          have c27b0 : decide (x8_3 < (l1.length : Int)) = true := decide_eq_true c27
          clear c27
          by_cases c28 : 0 ≤ x8_3
          ·rw [if_pos c28] at H
           have c28b0 : decide (0 ≤ x8_3) = true := decide_eq_true c28
           clear c28
           replace H := Option.bind_eq_some_iff.mp H
           obtain ⟨⟨t272, t273, t274, t275, t276⟩, A290, H⟩ := H
           replace H : (if (!(t272 == x264000_3) || (!(t273 == x264001_3) || (!(t274 == x264002_3) || (!(t275 == x264003_3) || (!(t276 == x264004_3)))))) = true then (if x6_3.length < 17592186044416 then (spec_DoActs.l1 k3 l1 (x6_3 ++ [x8_3]) (wrap64 (x8_3 + 1)) t272 t273 t274 t275 t276) else (none)) else (spec_DoActs.l1 k3 l1 x6_3 (wrap64 (x8_3 + 1)) t272 t273 t274 t275 t276)) = some (r1, r2, r3, r4, r5, r6) := H
           have A29 := aM A290
           clear A290
           by_cases c30 : (!(t272 == x264000_3) || (!(t273 == x264001_3) || (!(t274 == x264002_3) || (!(t275 == x264003_3) || (!(t276 == x264004_3)))))) = true
           ·rw [if_pos c30] at H
            have c30b0 : (!(t272 == x264000_3) || (!(t273 == x264001_3) || (!(t274 == x264002_3) || (!(t275 == x264003_3) || (!(t276 == x264004_3)))))) = true := c30
            clear c30
            by_cases c31 : x6_3.length < 17592186044416
            ·rw [if_pos c31] at H
             have LMc31 := aM c31
             clear c31
             obtain ⟨y278, hy278⟩ : ∃ y_ : List Int, y_ = (x6_3 ++ [x8_3]) := ⟨_, rfl⟩
             replace H : (spec_DoActs.l1 k3 l1 y278 (wrap64 (x8_3 + 1)) t272 t273 t274 t275 t276) = some (r1, r2, r3, r4, r5, r6) := by first | (rw [hy278]; with_reducible exact H) | (have H2_ := (Option.bind_some _ _).symm.trans H; rw [hy278]; with_reducible exact H2_) | (have H2_ := (Option.bind_some _ _).symm.trans H; with_reducible exact H2_) | with_reducible exact H | (rw [hy278]; exact H) | exact H
             have Ny278 := aM hy278
             clear hy278
             have H' := aM H
             clear H
             try go_wp2
             have n0_ := aM (Kd.R_drew HO_6.out)
             have n1_ := aM (blk_drew BK263.out)
             have n2_ := aM (blk_drew BK264.out)
             have n3_ := aM (below_drew1 HB.out)
             clear HO_6
             clear BK263
             clear BK264
             clear HB
             have HO_6 := n0_
             have BK263 := n1_
             have BK264 := n2_
             have HB := n3_
             clear n0_ n1_ n2_ n3_
             have p271 : 0 ≤ (x8_3 : Int) := of_decide_eq_true (by first | (with_reducible assumption) | assumption)
             have q271 : x8_3 < (l1.length : Int) := of_decide_eq_true (by first | (with_reducible assumption) | assumption)
             obtain ⟨ad271, e271, hx271_0⟩ := Kd.at_int HR1.out x8_3 p271 q271
             have hw271_0 := hx271_0
             cases e271
             replace hx271_0 := (HB.out.cell (World.block_lt_of_cell? w _ hx271_0)).trans hx271_0
             replace p271 := eq_true p271
             replace q271 := eq_true q271
             refine start_ (n := 8) (S := fun w' => w'.cell? ⟨gb263, 0, none⟩ = some (.int .i64 x264000_3) ∧ w'.cell? ⟨gb263, 1, none⟩ = some (.int .i64 x264001_3) ∧ w'.cell? ⟨gb263, 2, none⟩ = some (.bool x264002_3) ∧ w'.cell? ⟨gb263, 3, none⟩ = some (.bool x264003_3) ∧ w'.cell? ⟨gb263, 4, none⟩ = some (.bool x264004_3) ∧ w'.cell? (ad271.add (x8_3).toNat) = some (.int .i64 (rd l1 x8_3))) (ds := []) #[false, false, false, false, false, false, false, false] (by kernel_rfl) rfl rfl ⟨(blk_cell BK263.out 0).trans rfl, (blk_cell BK263.out 1).trans rfl, (blk_cell BK263.out 2).trans rfl, (blk_cell BK263.out 3).trans rfl, (blk_cell BK263.out 4).trans rfl, ((HB.out.cell (World.block_lt_of_cell? w _ hw271_0)).trans hw271_0)⟩ (fun hHeld => ?_); refine with_tabW spec_DoActs.tab12 spec_DoActs.bits12 (fun HT_ HW_ => ?_)
             generalize wr.drew = w32 at HO_6 BK263 BK264 HB hx271_0 hHeld ⊢
             refine pure_ (i := 1) (N := some 42) (v := ?_) (a' := ?_) #[false, true, false, false, false, false, false, false] rfl rfl (any_of HT_.out (by kernel_rfl)) (fun _ _ _ h => h) (Or.inl ⟨by rfl, ?_⟩) ?_ ?_
             rotate_left
             ·intro w'
              go_simp
              with_reducible rfl
             rotate_left
             ·simp only [Act.put, List.setIfInBounds_toArray, List.set_cons_zero, List.set_cons_succ, i64_w, i32_w]
              rfl
             refine pure_ (i := 2) (N := some 43) (v := ?_) (a' := ?_) #[false, true, true, false, false, false, false, false] rfl rfl (any_of HT_.out (by kernel_rfl)) (fun _ _ _ h => h) (Or.inl ⟨by rfl, ?_⟩) ?_ ?_
             rotate_left
             ·intro w'
              go_simp
              with_reducible rfl
             rotate_left
             ·simp only [Act.put, List.setIfInBounds_toArray, List.set_cons_zero, List.set_cons_succ, i64_w, i32_w]
              rfl
             refine pure_ (i := 3) (N := some 44) (v := ?_) (a' := ?_) #[false, true, true, true, false, false, false, false] rfl rfl (any_of HT_.out (by kernel_rfl)) (fun _ _ _ h => h) (Or.inl ⟨by rfl, ?_⟩) ?_ ?_
             rotate_left
             ·intro w'
              go_simp
              with_reducible rfl
             rotate_left
             ·simp only [Act.put, List.setIfInBounds_toArray, List.set_cons_zero, List.set_cons_succ, i64_w, i32_w]
              rfl
             refine take_ (i := 0) (N := some 41) (v := ?_) (a' := ?_) #[true, true, true, true, false, false, false, false] rfl rfl (take_ofW HT_.out HW_.out (by kernel_rfl)) (fun _ _ _ h => h) (Or.inl ⟨by rfl, ?_⟩) hHeld ?_ ?_
             rotate_left
             ·rintro w' ⟨s0, s1, s2, s3, s4, s5⟩
              go_simp
              with_reducible rfl
             rotate_left
             ·simp only [Act.put, List.setIfInBounds_toArray, List.set_cons_zero, List.set_cons_succ, i64_w, i32_w]
              rfl
             refine take_ (i := 4) (N := some 45) (v := ?_) (a' := ?_) #[true, true, true, true, true, false, false, false] rfl rfl (take_ofW HT_.out HW_.out (by kernel_rfl)) (fun _ _ _ h => h) (Or.inl ⟨by rfl, ?_⟩) hHeld ?_ ?_
             rotate_left
             ·rintro w' ⟨s0, s1, s2, s3, s4, s5⟩
              go_simp
              with_reducible rfl
             rotate_left
             ·simp only [Act.put, List.setIfInBounds_toArray, List.set_cons_zero, List.set_cons_succ, i64_w, i32_w]
              rfl
             refine join_ (σ := Nat) 1 #[true, true, true, true, true, true, true, false] (fun s_ => [(46, .agg #[.int .i64 t272, .int .i64 t273, .bool t274, .bool t275, .bool t276]), (9, .pointer (some ⟨s_, 0, none⟩))]) (fun s_ w' => (w'.cell? ⟨gb263, 0, none⟩ = some (.int .i64 x264000_3) ∧ w'.cell? ⟨gb263, 1, none⟩ = some (.int .i64 x264001_3) ∧ w'.cell? ⟨gb263, 2, none⟩ = some (.bool x264002_3) ∧ w'.cell? ⟨gb263, 3, none⟩ = some (.bool x264003_3) ∧ w'.cell? ⟨gb263, 4, none⟩ = some (.bool x264004_3) ∧ w'.cell? (ad271.add (x8_3).toNat) = some (.int .i64 (rd l1 x8_3))) ∧ (Kd.R (Kd.int .i64) 3 w' w.heap.size (fun _ => True) u6 x6_3) ∧ (w'.heap[gb263]? = some (.cells #[.int .i64 x264000_3, .int .i64 x264001_3, .bool x264002_3, .bool x264003_3, .bool x264004_3] 24 (0, 0))) ∧ (w'.heap[gb264]? = some (.cells #[.int .i64 x265000_2, .int .i64 x265001_2, .bool x265002_2, .bool x265003_2, .bool x265004_2] 24 (0, 0))) ∧ (w'.heap[s_]? = some (.cells #[.int .i64 0, .int .i64 0, .bool false, .bool false, .bool false] 24 (0, 0))) ∧ (w.heap.size ≤ s_) ∧ (w.heap.size ≤ s_) ∧ (gb263 ≠ s_) ∧ (s_ ≠ gb263) ∧ (gb264 ≠ s_) ∧ (s_ ≠ gb264) ∧ (Below w.heap.size w w')) ?_ ?_
             rotate_left
             ·intro hCont
              refine two_ (i := 5) (j := 6) (Ni := some 46) (Nj := some 9) #[true, true, true, true, true, true, false, false] #[true, true, true, true, true, false, true, false] rfl rfl rfl rfl (two_of HT_.out (by kernel_rfl)) (by decide) (by decide) (fun K hK => ?_) (fun K hK => ?_)
              ·skip
               refine goes_ Try.func67 (by kernel_rfl) rfl #[.agg #[.int .i64 x264000_3, .int .i64 x264001_3, .bool x264002_3, .bool x264003_3, .bool x264004_3], .int .i64 (rd l1 x8_3)] (by rfl) rfl rfl za ?_
               with_reducible refine (spec_l04Act.calls k3 x264000_3 x264001_3 x264002_3 x264003_3 x264004_3 (rd l1 x8_3) t272 t273 t274 t275 t276 _ A29.out).mono ?_
               rintro e w33 ⟨rfl, hb⟩
               refine ⟨_, rfl, ?_⟩
               have n0_ := aM (Kd.R_below (by (with_reducible repeat (first | apply Kd.R_alloc | apply Kd.R_drewN | apply Kd.R_drew)); exact HO_6.out) hb)
               have n1_ := aM (bb BK263.out hb)
               have n2_ := aM (bb BK264.out hb)
               have n3_ := aM (below_step (zb) hb)
               clear HO_6
               clear BK263
               clear BK264
               clear HB
               have HO_6 := n0_
               have BK263 := n1_
               have BK264 := n2_
               have HB := n3_
               clear n0_ n1_ n2_ n3_
               (try clear hb)
               (try clear hb2)
               (try clear hk)
               (try clear hi)
               refine hK.out _ _ ⟨(blk_cell BK263.out 0).trans rfl, (blk_cell BK263.out 1).trans rfl, (blk_cell BK263.out 2).trans rfl, (blk_cell BK263.out 3).trans rfl, (blk_cell BK263.out 4).trans rfl, ((HB.out.cell (World.block_lt_of_cell? w _ hw271_0)).trans hw271_0)⟩ (fun hHeld => ?_)
               clear hK K
               refine norm_ (a' := ?_) ?_ ?_
               rotate_left
               ·show Act.put _ (some 46) _ = _
                simp only [Act.put, List.setIfInBounds_toArray, List.set_cons_zero, List.set_cons_succ, i64_w, i32_w]
                rfl
               refine one_ (i := 6) (N := some 9) #[true, true, true, true, true, true, true, false] rfl rfl (one_of HT_.out (by kernel_rfl)) (by decide) (fun K hK => ?_)
               refine box_step ?hg (N := 9) ?hd (cs := #[.int .i64 0, .int .i64 0, .bool false, .bool false, .bool false]) (t := 24) ?hr ?_; (case hd => rfl); (case hg => rfl); (case hr => exact zg)
               intro gb277 hg w34 hbox hb
               have n0_ := aM (Kd.R_below (by (with_reducible repeat (first | apply Kd.R_alloc | apply Kd.R_drewN | apply Kd.R_drew)); exact HO_6.out) hb)
               have n1_ := aM (bb BK263.out hb)
               have n2_ := aM (bb BK264.out hb)
               have n3_ := aM (below_step (zb) hb)
               have n4_ := aM (hbox)
               have n5_ := aM ((by rw [hg]; exact (below_size (zb)) : w.heap.size ≤ gb277))
               have n6_ := aM ((by rw [hg]; exact (below_size (zb)) : w.heap.size ≤ gb277))
               have n7_ := aM ((by rw [hg]; exact Nat.ne_of_lt (nl BK263.out) : gb263 ≠ gb277))
               have n8_ := aM ((by rw [hg]; exact Nat.ne_of_gt (nl BK263.out) : gb277 ≠ gb263))
               have n9_ := aM ((by rw [hg]; exact Nat.ne_of_lt (nl BK264.out) : gb264 ≠ gb277))
               have n10_ := aM ((by rw [hg]; exact Nat.ne_of_gt (nl BK264.out) : gb277 ≠ gb264))
               clear HO_6
               clear BK263
               clear BK264
               clear HB
               have HO_6 := n0_
               have BK263 := n1_
               have BK264 := n2_
               have HB := n3_
               have BK277 := n4_
               have GW277 := n5_
               have GE277 := n6_
               have NB263_277 := n7_
               have NB277_263 := n8_
               have NB264_277 := n9_
               have NB277_264 := n10_
               clear n0_ n1_ n2_ n3_ n4_ n5_ n6_ n7_ n8_ n9_ n10_
               clear hb hbox hg
               refine hK.out _ _ ⟨(blk_cell BK263.out 0).trans rfl, (blk_cell BK263.out 1).trans rfl, (blk_cell BK263.out 2).trans rfl, (blk_cell BK263.out 3).trans rfl, (blk_cell BK263.out 4).trans rfl, ((HB.out.cell (World.block_lt_of_cell? w _ hw271_0)).trans hw271_0)⟩ (fun hHeld => ?_)
               clear hK K
               refine norm_ (a' := ?_) ?_ ?_
               rotate_left
               ·show Act.put _ (some 9) _ = _
                simp only [Act.put, List.setIfInBounds_toArray, List.set_cons_zero, List.set_cons_succ, i64_w, i32_w]
                rfl
               exact norm_ (by simp only [putAll, Act.put, List.setIfInBounds_toArray, List.set_cons_zero, List.set_cons_succ]) (hCont (gb277) _ ⟨hHeld, (by (with_reducible repeat (first | apply Kd.R_alloc | apply Kd.R_drewN | apply Kd.R_drew)); exact HO_6.out), (by exact pk BK263.out), (by exact pk BK264.out), (by exact pk BK277.out), GW277.out, GE277.out, NB263_277.out, NB277_263.out, NB264_277.out, NB277_264.out, (zb)⟩)
              ·skip
               refine box_step ?hg (N := 9) ?hd (cs := #[.int .i64 0, .int .i64 0, .bool false, .bool false, .bool false]) (t := 24) ?hr ?_; (case hd => rfl); (case hg => rfl); (case hr => exact zg)
               intro gb277 hg w33 hbox hb
               have n0_ := aM (Kd.R_below (by (with_reducible repeat (first | apply Kd.R_alloc | apply Kd.R_drewN | apply Kd.R_drew)); exact HO_6.out) hb)
               have n1_ := aM (bb BK263.out hb)
               have n2_ := aM (bb BK264.out hb)
               have n3_ := aM (below_step (zb) hb)
               have n4_ := aM (hbox)
               have n5_ := aM ((by rw [hg]; exact (below_size (zb)) : w.heap.size ≤ gb277))
               have n6_ := aM ((by rw [hg]; exact (below_size (zb)) : w.heap.size ≤ gb277))
               have n7_ := aM ((by rw [hg]; exact Nat.ne_of_lt (nl BK263.out) : gb263 ≠ gb277))
               have n8_ := aM ((by rw [hg]; exact Nat.ne_of_gt (nl BK263.out) : gb277 ≠ gb263))
               have n9_ := aM ((by rw [hg]; exact Nat.ne_of_lt (nl BK264.out) : gb264 ≠ gb277))
               have n10_ := aM ((by rw [hg]; exact Nat.ne_of_gt (nl BK264.out) : gb277 ≠ gb264))
               clear HO_6
               clear BK263
               clear BK264
               clear HB
               have HO_6 := n0_
               have BK263 := n1_
               have BK264 := n2_
               have HB := n3_
               have BK277 := n4_
               have GW277 := n5_
               have GE277 := n6_
               have NB263_277 := n7_
               have NB277_263 := n8_
               have NB264_277 := n9_
               have NB277_264 := n10_
               clear n0_ n1_ n2_ n3_ n4_ n5_ n6_ n7_ n8_ n9_ n10_
               clear hb hbox hg
               refine hK.out _ _ ⟨(blk_cell BK263.out 0).trans rfl, (blk_cell BK263.out 1).trans rfl, (blk_cell BK263.out 2).trans rfl, (blk_cell BK263.out 3).trans rfl, (blk_cell BK263.out 4).trans rfl, ((HB.out.cell (World.block_lt_of_cell? w _ hw271_0)).trans hw271_0)⟩ (fun hHeld => ?_)
               clear hK K
               refine norm_ (a' := ?_) ?_ ?_
               rotate_left
               ·show Act.put _ (some 9) _ = _
                simp only [Act.put, List.setIfInBounds_toArray, List.set_cons_zero, List.set_cons_succ, i64_w, i32_w]
                rfl
               refine one_ (i := 5) (N := some 46) #[true, true, true, true, true, true, true, false] rfl rfl (one_of HT_.out (by kernel_rfl)) (by decide) (fun K hK => ?_)
               refine goes_ Try.func67 (by kernel_rfl) rfl #[.agg #[.int .i64 x264000_3, .int .i64 x264001_3, .bool x264002_3, .bool x264003_3, .bool x264004_3], .int .i64 (rd l1 x8_3)] (by rfl) rfl rfl za ?_
               with_reducible refine (spec_l04Act.calls k3 x264000_3 x264001_3 x264002_3 x264003_3 x264004_3 (rd l1 x8_3) t272 t273 t274 t275 t276 _ A29.out).mono ?_
               rintro e w34 ⟨rfl, hb⟩
               refine ⟨_, rfl, ?_⟩
               have n0_ := aM (Kd.R_below (by (with_reducible repeat (first | apply Kd.R_alloc | apply Kd.R_drewN | apply Kd.R_drew)); exact HO_6.out) hb)
               have n1_ := aM (bb BK263.out hb)
               have n2_ := aM (bb BK264.out hb)
               have n3_ := aM (bb BK277.out hb)
               have n4_ := aM (below_step (zb) hb)
               clear HO_6
               clear BK263
               clear BK264
               clear BK277
               clear HB
               have HO_6 := n0_
               have BK263 := n1_
               have BK264 := n2_
               have BK277 := n3_
               have HB := n4_
               clear n0_ n1_ n2_ n3_ n4_
               (try clear hb)
               (try clear hb2)
               (try clear hk)
               (try clear hi)
               refine hK.out _ _ ⟨(blk_cell BK263.out 0).trans rfl, (blk_cell BK263.out 1).trans rfl, (blk_cell BK263.out 2).trans rfl, (blk_cell BK263.out 3).trans rfl, (blk_cell BK263.out 4).trans rfl, ((HB.out.cell (World.block_lt_of_cell? w _ hw271_0)).trans hw271_0)⟩ (fun hHeld => ?_)
               clear hK K
               refine norm_ (a' := ?_) ?_ ?_
               rotate_left
               ·show Act.put _ (some 46) _ = _
                simp only [Act.put, List.setIfInBounds_toArray, List.set_cons_zero, List.set_cons_succ, i64_w, i32_w]
                rfl
               exact norm_ (by simp only [putAll, Act.put, List.setIfInBounds_toArray, List.set_cons_zero, List.set_cons_succ]) (hCont (gb277) _ ⟨hHeld, (by (with_reducible repeat (first | apply Kd.R_alloc | apply Kd.R_drewN | apply Kd.R_drew)); exact HO_6.out), (by exact pk BK263.out), (by exact pk BK264.out), (by exact pk BK277.out), GW277.out, GE277.out, NB263_277.out, NB277_263.out, NB264_277.out, NB277_264.out, (zb)⟩)
             rintro gb277 w35 ⟨hS_, h0_, h1_, h2_, h3_, h4_, h5_, h6_, h7_, h8_, h9_, h10_⟩
             have n0_ : Aside0 (Kd.R (Kd.int .i64) 3 w35 w.heap.size (fun _ => True) u6 x6_3) := ⟨h0_⟩
             have n1_ : Aside0 (w35.heap[gb263]? = some (.cells #[.int .i64 x264000_3, .int .i64 x264001_3, .bool x264002_3, .bool x264003_3, .bool x264004_3] 24 (0, 0))) := ⟨h1_⟩
             have n2_ : Aside0 (w35.heap[gb264]? = some (.cells #[.int .i64 x265000_2, .int .i64 x265001_2, .bool x265002_2, .bool x265003_2, .bool x265004_2] 24 (0, 0))) := ⟨h2_⟩
             have n3_ : Aside0 (w35.heap[gb277]? = some (.cells #[.int .i64 0, .int .i64 0, .bool false, .bool false, .bool false] 24 (0, 0))) := ⟨h3_⟩
             have n4_ : Aside0 (w.heap.size ≤ gb277) := ⟨h4_⟩
             have n5_ : Aside0 (w.heap.size ≤ gb277) := ⟨h5_⟩
             have n6_ : Aside0 (gb263 ≠ gb277) := ⟨h6_⟩
             have n7_ : Aside0 (gb277 ≠ gb263) := ⟨h7_⟩
             have n8_ : Aside0 (gb264 ≠ gb277) := ⟨h8_⟩
             have n9_ : Aside0 (gb277 ≠ gb264) := ⟨h9_⟩
             have n10_ : Aside0 (Below w.heap.size w w35) := ⟨h10_⟩
             clear HO_6
             clear BK263
             clear BK264
             clear HB
             clear h0_ h1_ h2_ h3_ h4_ h5_ h6_ h7_ h8_ h9_ h10_
             have HO_6 := n0_
             have BK263 := n1_
             have BK264 := n2_
             have BK277 := n3_
             have GW277 := n4_
             have GE277 := n5_
             have NB263_277 := n6_
             have NB277_263 := n7_
             have NB264_277 := n8_
             have NB277_264 := n9_
             have HB := n10_
             clear n0_ n1_ n2_ n3_ n4_ n5_ n6_ n7_ n8_ n9_ n10_
             have hHeld : w35.cell? ⟨gb263, 0, none⟩ = some (.int .i64 x264000_3) ∧ w35.cell? ⟨gb263, 1, none⟩ = some (.int .i64 x264001_3) ∧ w35.cell? ⟨gb263, 2, none⟩ = some (.bool x264002_3) ∧ w35.cell? ⟨gb263, 3, none⟩ = some (.bool x264003_3) ∧ w35.cell? ⟨gb263, 4, none⟩ = some (.bool x264004_3) ∧ w35.cell? (ad271.add (x8_3).toNat) = some (.int .i64 (rd l1 x8_3)) := hS_
             refine norm_ (a' := ?_) ?_ ?_
             rotate_left
             ·simp only [putAll, Act.put, List.setIfInBounds_toArray, List.set_cons_zero, List.set_cons_succ]
              rfl
             refine one_ (i := 7) (N := none) #[true, true, true, true, true, true, true, true] rfl rfl (one_of HT_.out (by kernel_rfl)) (by decide) (fun K hK => ?_)
             have hs36 : w35.cell? ⟨gb277, 0, none⟩ = some (.int .i64 0) := (blk_cell BK277.out 0).trans rfl
             have hfs36 := blk_frozen BK277.out 0
             have hns36_0 := NB263_277.out
             have hns36_1 := NB264_277.out
             have hms36_0 := NB277_263.out
             have hms36_1 := NB277_264.out
             have hs37 : w35.cell? ⟨gb277, 1, none⟩ = some (.int .i64 0) := (blk_cell BK277.out 1).trans rfl
             have hfs37 := blk_frozen BK277.out 1
             have hns37_0 := NB263_277.out
             have hns37_1 := NB264_277.out
             have hms37_0 := NB277_263.out
             have hms37_1 := NB277_264.out
             have hs38 : w35.cell? ⟨gb277, 2, none⟩ = some (.bool false) := (blk_cell BK277.out 2).trans rfl
             have hfs38 := blk_frozen BK277.out 2
             have hns38_0 := NB263_277.out
             have hns38_1 := NB264_277.out
             have hms38_0 := NB277_263.out
             have hms38_1 := NB277_264.out
             have hs39 : w35.cell? ⟨gb277, 3, none⟩ = some (.bool false) := (blk_cell BK277.out 3).trans rfl
             have hfs39 := blk_frozen BK277.out 3
             have hns39_0 := NB263_277.out
             have hns39_1 := NB264_277.out
             have hms39_0 := NB277_263.out
             have hms39_1 := NB277_264.out
             have hs40 : w35.cell? ⟨gb277, 4, none⟩ = some (.bool false) := (blk_cell BK277.out 4).trans rfl
             have hfs40 := blk_frozen BK277.out 4
             have hns40_0 := NB263_277.out
             have hns40_1 := NB264_277.out
             have hms40_0 := NB277_263.out
             have hms40_1 := NB277_264.out
             refine skip_ (w1 := ?_) (by rfl) rfl ?_ ?_
             rotate_left
             ·go_simp
              rfl
             refine hK.out _ _ ⟨((cell_far (p := ⟨gb277, _, none⟩) NB263_277.out _).trans (((cell_far (p := ⟨gb277, _, none⟩) NB263_277.out _).trans (((cell_far (p := ⟨gb277, _, none⟩) NB263_277.out _).trans (((cell_far (p := ⟨gb277, _, none⟩) NB263_277.out _).trans (((cell_far (p := ⟨gb277, _, none⟩) NB263_277.out _).trans (hHeld.1)))))))))), ((cell_far (p := ⟨gb277, _, none⟩) NB263_277.out _).trans (((cell_far (p := ⟨gb277, _, none⟩) NB263_277.out _).trans (((cell_far (p := ⟨gb277, _, none⟩) NB263_277.out _).trans (((cell_far (p := ⟨gb277, _, none⟩) NB263_277.out _).trans (((cell_far (p := ⟨gb277, _, none⟩) NB263_277.out _).trans (hHeld.2.1)))))))))), ((cell_far (p := ⟨gb277, _, none⟩) NB263_277.out _).trans (((cell_far (p := ⟨gb277, _, none⟩) NB263_277.out _).trans (((cell_far (p := ⟨gb277, _, none⟩) NB263_277.out _).trans (((cell_far (p := ⟨gb277, _, none⟩) NB263_277.out _).trans (((cell_far (p := ⟨gb277, _, none⟩) NB263_277.out _).trans (hHeld.2.2.1)))))))))), ((cell_far (p := ⟨gb277, _, none⟩) NB263_277.out _).trans (((cell_far (p := ⟨gb277, _, none⟩) NB263_277.out _).trans (((cell_far (p := ⟨gb277, _, none⟩) NB263_277.out _).trans (((cell_far (p := ⟨gb277, _, none⟩) NB263_277.out _).trans (((cell_far (p := ⟨gb277, _, none⟩) NB263_277.out _).trans (hHeld.2.2.2.1)))))))))), ((cell_far (p := ⟨gb277, _, none⟩) NB263_277.out _).trans (((cell_far (p := ⟨gb277, _, none⟩) NB263_277.out _).trans (((cell_far (p := ⟨gb277, _, none⟩) NB263_277.out _).trans (((cell_far (p := ⟨gb277, _, none⟩) NB263_277.out _).trans (((cell_far (p := ⟨gb277, _, none⟩) NB263_277.out _).trans (hHeld.2.2.2.2.1)))))))))), ((cell_far (p := ⟨gb277, _, none⟩) (by first | exact Nat.ne_of_lt (Nat.lt_of_lt_of_le (by have := World.block_lt_of_cell? _ _ hw271_0; first | rwa [add_block] at this | exact this) GW277.out) | (rw [add_block]; exact Nat.ne_of_lt (Nat.lt_of_lt_of_le (by have := World.block_lt_of_cell? _ _ hw271_0; first | rwa [add_block] at this | exact this) GW277.out)) | (show (Addr.add _ _).block ≠ _; rw [add_block]; exact Nat.ne_of_lt (Nat.lt_of_lt_of_le (by have := World.block_lt_of_cell? _ _ hw271_0; first | rwa [add_block] at this | exact this) GW277.out)) | (dsimp only; exact Nat.ne_of_lt (Nat.lt_of_lt_of_le (by have := World.block_lt_of_cell? _ _ hw271_0; first | rwa [add_block] at this | exact this) GW277.out))) _).trans (((cell_far (p := ⟨gb277, _, none⟩) (by first | exact Nat.ne_of_lt (Nat.lt_of_lt_of_le (by have := World.block_lt_of_cell? _ _ hw271_0; first | rwa [add_block] at this | exact this) GW277.out) | (rw [add_block]; exact Nat.ne_of_lt (Nat.lt_of_lt_of_le (by have := World.block_lt_of_cell? _ _ hw271_0; first | rwa [add_block] at this | exact this) GW277.out)) | (show (Addr.add _ _).block ≠ _; rw [add_block]; exact Nat.ne_of_lt (Nat.lt_of_lt_of_le (by have := World.block_lt_of_cell? _ _ hw271_0; first | rwa [add_block] at this | exact this) GW277.out)) | (dsimp only; exact Nat.ne_of_lt (Nat.lt_of_lt_of_le (by have := World.block_lt_of_cell? _ _ hw271_0; first | rwa [add_block] at this | exact this) GW277.out))) _).trans (((cell_far (p := ⟨gb277, _, none⟩) (by first | exact Nat.ne_of_lt (Nat.lt_of_lt_of_le (by have := World.block_lt_of_cell? _ _ hw271_0; first | rwa [add_block] at this | exact this) GW277.out) | (rw [add_block]; exact Nat.ne_of_lt (Nat.lt_of_lt_of_le (by have := World.block_lt_of_cell? _ _ hw271_0; first | rwa [add_block] at this | exact this) GW277.out)) | (show (Addr.add _ _).block ≠ _; rw [add_block]; exact Nat.ne_of_lt (Nat.lt_of_lt_of_le (by have := World.block_lt_of_cell? _ _ hw271_0; first | rwa [add_block] at this | exact this) GW277.out)) | (dsimp only; exact Nat.ne_of_lt (Nat.lt_of_lt_of_le (by have := World.block_lt_of_cell? _ _ hw271_0; first | rwa [add_block] at this | exact this) GW277.out))) _).trans (((cell_far (p := ⟨gb277, _, none⟩) (by first | exact Nat.ne_of_lt (Nat.lt_of_lt_of_le (by have := World.block_lt_of_cell? _ _ hw271_0; first | rwa [add_block] at this | exact this) GW277.out) | (rw [add_block]; exact Nat.ne_of_lt (Nat.lt_of_lt_of_le (by have := World.block_lt_of_cell? _ _ hw271_0; first | rwa [add_block] at this | exact this) GW277.out)) | (show (Addr.add _ _).block ≠ _; rw [add_block]; exact Nat.ne_of_lt (Nat.lt_of_lt_of_le (by have := World.block_lt_of_cell? _ _ hw271_0; first | rwa [add_block] at this | exact this) GW277.out)) | (dsimp only; exact Nat.ne_of_lt (Nat.lt_of_lt_of_le (by have := World.block_lt_of_cell? _ _ hw271_0; first | rwa [add_block] at this | exact this) GW277.out))) _).trans (((cell_far (p := ⟨gb277, _, none⟩) (by first | exact Nat.ne_of_lt (Nat.lt_of_lt_of_le (by have := World.block_lt_of_cell? _ _ hw271_0; first | rwa [add_block] at this | exact this) GW277.out) | (rw [add_block]; exact Nat.ne_of_lt (Nat.lt_of_lt_of_le (by have := World.block_lt_of_cell? _ _ hw271_0; first | rwa [add_block] at this | exact this) GW277.out)) | (show (Addr.add _ _).block ≠ _; rw [add_block]; exact Nat.ne_of_lt (Nat.lt_of_lt_of_le (by have := World.block_lt_of_cell? _ _ hw271_0; first | rwa [add_block] at this | exact this) GW277.out)) | (dsimp only; exact Nat.ne_of_lt (Nat.lt_of_lt_of_le (by have := World.block_lt_of_cell? _ _ hw271_0; first | rwa [add_block] at this | exact this) GW277.out))) _).trans (hHeld.2.2.2.2.2))))))))))⟩ (fun hHeld => ?_)
             clear hK K
             refine done_ (done_of HT_.out (by kernel_rfl)) ?_
             have hnb41 := NB277_263.out
             have hnc41 := NB263_277.out
             have hnb42 := NB277_264.out
             have hnc42 := NB264_277.out
             obtain ⟨hcz43_0, hcz43_1, hcz43_2, hcz43_3, hcz43_4, hfz43_0, hfz43_1, hfz43_2, hfz43_3, hfz43_4⟩ := cells5 BK277.out
             have hnb44 := NB263_264.out
             have hnc44 := NB264_263.out
             obtain ⟨hcz45_0, hcz45_1, hcz45_2, hcz45_3, hcz45_4, hfz45_0, hfz45_1, hfz45_2, hfz45_3, hfz45_4⟩ := cells5 BK263.out
             try go_wp2_with (first | ((with_reducible refine gate_builtin (b := .append) (xs := #[.tmp 50, .tmp 52]) rfl ?_); (try (refine gate_guard (by rfl) ?_; dsimp only)); at_builtin; refine Kd.R_append (Kd.int .i64) (w0 := w) w.heap.size rfl (.tmp 50) (.tmp 52) 42 3 (.int .i64 0) 8 rfl Try.underlying42 info3 rfl (by decide) (by omega) u6 x6_3 x8_3 [.int .i64 x8_3] (fun _ => True) (fun _ => False) rfl (by first | (go_simp; done) | (go_simp; rfl)) ?aP (fun _ hk => hk.elim) ?aF ?aO ?aB ?aS ?aL ?_; (case aP => exact rfl); (case aB => exact (zb)); (case aF => exact (fun _ _ => trivial)); (case aO => exact (by (with_reducible repeat (first | apply Kd.R_alloc | apply Kd.R_drewN | apply Kd.R_drew)); exact Kd.R_mono (Kd.R_far (p := ⟨gb277, 4, none⟩) (Kd.R_far (p := ⟨gb277, 3, none⟩) (Kd.R_far (p := ⟨gb277, 2, none⟩) (Kd.R_far (p := ⟨gb277, 1, none⟩) (Kd.R_far (p := ⟨gb277, 0, none⟩) (Kd.R_types HO_6.out BK277.out (by decide)) (fun _ hk => hk.2) (.int .i64 t272)) (fun _ hk => hk.2) (.int .i64 t273)) (fun _ hk => hk.2) (.bool t274)) (fun _ hk => hk.2) (.bool t275)) (fun _ hk => hk.2) (.bool t276)) (fun _ hk => trivial))); (case aS => exact (below_size (zb))); (case aL => have := LMc31.out; omega); intro v279 w46 ho hb hg hat; rw [← Ny278.out] at ho; have n0_ := aM (blk_grown (g := gb263) (o := .cells #[.int .i64 x264000_3, .int .i64 x264001_3, .bool x264002_3, .bool x264003_3, .bool x264004_3] 24 (0, 0)) (by refine pq ?_; refine blk_far ?_ NB263_277.out _; refine pq ?_; refine blk_far ?_ NB263_277.out _; refine pq ?_; refine blk_far ?_ NB263_277.out _; refine pq ?_; refine blk_far ?_ NB263_277.out _; refine pq ?_; refine blk_far ?_ NB263_277.out _; refine pq ?_; exact BK263.out) hg (Kd.R_ne HO_6.out BK263.out (by decide))); have n1_ := aM (blk_grown (g := gb264) (o := .cells #[.int .i64 x265000_2, .int .i64 x265001_2, .bool x265002_2, .bool x265003_2, .bool x265004_2] 24 (0, 0)) (by refine pq ?_; refine blk_far ?_ NB264_277.out _; refine pq ?_; refine blk_far ?_ NB264_277.out _; refine pq ?_; refine blk_far ?_ NB264_277.out _; refine pq ?_; refine blk_far ?_ NB264_277.out _; refine pq ?_; refine blk_far ?_ NB264_277.out _; refine pq ?_; exact BK264.out) hg (Kd.R_ne HO_6.out BK264.out (by decide))); have n2_ := aM (blk_grown (g := gb277) (o := .cells #[.int .i64 t272, .int .i64 t273, .bool t274, .bool t275, .bool t276] 24 (0, 0)) (by refine pq ?_; refine blk_put (cs := #[.int .i64 t272, .int .i64 t273, .bool t274, .bool t275, .bool false]) ?_ 4 _ rfl; refine pq ?_; refine blk_put (cs := #[.int .i64 t272, .int .i64 t273, .bool t274, .bool false, .bool false]) ?_ 3 _ rfl; refine pq ?_; refine blk_put (cs := #[.int .i64 t272, .int .i64 t273, .bool false, .bool false, .bool false]) ?_ 2 _ rfl; refine pq ?_; refine blk_put (cs := #[.int .i64 t272, .int .i64 0, .bool false, .bool false, .bool false]) ?_ 1 _ rfl; refine pq ?_; refine blk_put (cs := #[.int .i64 0, .int .i64 0, .bool false, .bool false, .bool false]) ?_ 0 _ rfl; refine pq ?_; exact BK277.out) hg (Kd.R_ne HO_6.out BK277.out (by decide))); have n3_ := aM (hb); have n4_ := aM (ho); clear BK263; clear BK264; clear BK277; clear HB; clear HO_6; have BK263 := n0_; have BK264 := n1_; have BK277 := n2_; have HB := n3_; have HO280 := n4_; clear n0_ n1_ n2_ n3_ n4_; clear ho hb hg hat; obtain ⟨hcz47_0, hcz47_1, hcz47_2, hcz47_3, hcz47_4, hfz47_0, hfz47_1, hfz47_2, hfz47_3, hfz47_4⟩ := cells5 BK277.out; obtain ⟨hcz48_0, hcz48_1, hcz48_2, hcz48_3, hcz48_4, hfz48_0, hfz48_1, hfz48_2, hfz48_3, hfz48_4⟩ := cells5 BK263.out))
             go_roundg k3
             case measure => have := HJ2.out; have := HK2.out; have := HK3.out; omega
             case rel => exact ⟨(y278), (wrap64 (x8_3 + 1)), (t272), (t273), (t274), (t275), (t276), zs, H', ⟨by have := HJ2.out; have := HK2.out; have := HK3.out; omega⟩, ⟨by (with_reducible repeat (first | apply Kd.R_alloc | apply Kd.R_drewN | apply Kd.R_drew)); exact Kd.R_mono (Kd.R_far (p := ⟨gb263, 4, none⟩) (Kd.R_far (p := ⟨gb263, 3, none⟩) (Kd.R_far (p := ⟨gb263, 2, none⟩) (Kd.R_far (p := ⟨gb263, 1, none⟩) (Kd.R_far (p := ⟨gb263, 0, none⟩) (Kd.R_types HO280.out BK263.out (by decide)) (fun _ hk => hk.2) (.int .i64 t272)) (fun _ hk => hk.2) (.int .i64 t273)) (fun _ hk => hk.2) (.bool t274)) (fun _ hk => hk.2) (.bool t275)) (fun _ hk => hk.2) (.bool t276)) (fun _ hk => trivial)⟩, ⟨by refine pq ?_; refine blk_put (cs := #[.int .i64 t272, .int .i64 t273, .bool t274, .bool t275, .bool x264004_3]) ?_ 4 _ rfl; refine pq ?_; refine blk_put (cs := #[.int .i64 t272, .int .i64 t273, .bool t274, .bool x264003_3, .bool x264004_3]) ?_ 3 _ rfl; refine pq ?_; refine blk_put (cs := #[.int .i64 t272, .int .i64 t273, .bool x264002_3, .bool x264003_3, .bool x264004_3]) ?_ 2 _ rfl; refine pq ?_; refine blk_put (cs := #[.int .i64 t272, .int .i64 x264001_3, .bool x264002_3, .bool x264003_3, .bool x264004_3]) ?_ 1 _ rfl; refine pq ?_; refine blk_put (cs := #[.int .i64 x264000_3, .int .i64 x264001_3, .bool x264002_3, .bool x264003_3, .bool x264004_3]) ?_ 0 _ rfl; refine pq ?_; exact BK263.out⟩, ⟨by refine pq ?_; refine blk_far ?_ NB264_263.out _; refine pq ?_; refine blk_far ?_ NB264_263.out _; refine pq ?_; refine blk_far ?_ NB264_263.out _; refine pq ?_; refine blk_far ?_ NB264_263.out _; refine pq ?_; refine blk_far ?_ NB264_263.out _; refine pq ?_; exact BK264.out⟩, ⟨zb⟩⟩
            ·rw [if_neg c31] at H
             exact absurd H (by simp)
           ·rw [if_neg c30] at H
            have c30b0 : (!(t272 == x264000_3) || (!(t273 == x264001_3) || (!(t274 == x264002_3) || (!(t275 == x264003_3) || (!(t276 == x264004_3)))))) = false := by simpa using c30
            clear c30
            have H' := aM H
            clear H
            try go_wp2
            have n0_ := aM (Kd.R_drew HO_6.out)
            have n1_ := aM (blk_drew BK263.out)
            have n2_ := aM (blk_drew BK264.out)
            have n3_ := aM (below_drew1 HB.out)
            clear HO_6
            clear BK263
            clear BK264
            clear HB
            have HO_6 := n0_
            have BK263 := n1_
            have BK264 := n2_
            have HB := n3_
            clear n0_ n1_ n2_ n3_
            have p271 : 0 ≤ (x8_3 : Int) := of_decide_eq_true (by first | (with_reducible assumption) | assumption)
            have q271 : x8_3 < (l1.length : Int) := of_decide_eq_true (by first | (with_reducible assumption) | assumption)
            obtain ⟨ad271, e271, hx271_0⟩ := Kd.at_int HR1.out x8_3 p271 q271
            have hw271_0 := hx271_0
            cases e271
            replace hx271_0 := (HB.out.cell (World.block_lt_of_cell? w _ hx271_0)).trans hx271_0
            replace p271 := eq_true p271
            replace q271 := eq_true q271
            refine start_ (n := 8) (S := fun w' => w'.cell? ⟨gb263, 0, none⟩ = some (.int .i64 x264000_3) ∧ w'.cell? ⟨gb263, 1, none⟩ = some (.int .i64 x264001_3) ∧ w'.cell? ⟨gb263, 2, none⟩ = some (.bool x264002_3) ∧ w'.cell? ⟨gb263, 3, none⟩ = some (.bool x264003_3) ∧ w'.cell? ⟨gb263, 4, none⟩ = some (.bool x264004_3) ∧ w'.cell? (ad271.add (x8_3).toNat) = some (.int .i64 (rd l1 x8_3))) (ds := []) #[false, false, false, false, false, false, false, false] (by kernel_rfl) rfl rfl ⟨(blk_cell BK263.out 0).trans rfl, (blk_cell BK263.out 1).trans rfl, (blk_cell BK263.out 2).trans rfl, (blk_cell BK263.out 3).trans rfl, (blk_cell BK263.out 4).trans rfl, ((HB.out.cell (World.block_lt_of_cell? w _ hw271_0)).trans hw271_0)⟩ (fun hHeld => ?_); refine with_tabW spec_DoActs.tab12 spec_DoActs.bits12 (fun HT_ HW_ => ?_)
            generalize wr.drew = w49 at HO_6 BK263 BK264 HB hx271_0 hHeld ⊢
            refine pure_ (i := 1) (N := some 42) (v := ?_) (a' := ?_) #[false, true, false, false, false, false, false, false] rfl rfl (any_of HT_.out (by kernel_rfl)) (fun _ _ _ h => h) (Or.inl ⟨by rfl, ?_⟩) ?_ ?_
            rotate_left
            ·intro w'
             go_simp
             with_reducible rfl
            rotate_left
            ·simp only [Act.put, List.setIfInBounds_toArray, List.set_cons_zero, List.set_cons_succ, i64_w, i32_w]
             rfl
            refine pure_ (i := 2) (N := some 43) (v := ?_) (a' := ?_) #[false, true, true, false, false, false, false, false] rfl rfl (any_of HT_.out (by kernel_rfl)) (fun _ _ _ h => h) (Or.inl ⟨by rfl, ?_⟩) ?_ ?_
            rotate_left
            ·intro w'
             go_simp
             with_reducible rfl
            rotate_left
            ·simp only [Act.put, List.setIfInBounds_toArray, List.set_cons_zero, List.set_cons_succ, i64_w, i32_w]
             rfl
            refine pure_ (i := 3) (N := some 44) (v := ?_) (a' := ?_) #[false, true, true, true, false, false, false, false] rfl rfl (any_of HT_.out (by kernel_rfl)) (fun _ _ _ h => h) (Or.inl ⟨by rfl, ?_⟩) ?_ ?_
            rotate_left
            ·intro w'
             go_simp
             with_reducible rfl
            rotate_left
            ·simp only [Act.put, List.setIfInBounds_toArray, List.set_cons_zero, List.set_cons_succ, i64_w, i32_w]
             rfl
            refine take_ (i := 0) (N := some 41) (v := ?_) (a' := ?_) #[true, true, true, true, false, false, false, false] rfl rfl (take_ofW HT_.out HW_.out (by kernel_rfl)) (fun _ _ _ h => h) (Or.inl ⟨by rfl, ?_⟩) hHeld ?_ ?_
            rotate_left
            ·rintro w' ⟨s0, s1, s2, s3, s4, s5⟩
             go_simp
             with_reducible rfl
            rotate_left
            ·simp only [Act.put, List.setIfInBounds_toArray, List.set_cons_zero, List.set_cons_succ, i64_w, i32_w]
             rfl
            refine take_ (i := 4) (N := some 45) (v := ?_) (a' := ?_) #[true, true, true, true, true, false, false, false] rfl rfl (take_ofW HT_.out HW_.out (by kernel_rfl)) (fun _ _ _ h => h) (Or.inl ⟨by rfl, ?_⟩) hHeld ?_ ?_
            rotate_left
            ·rintro w' ⟨s0, s1, s2, s3, s4, s5⟩
             go_simp
             with_reducible rfl
            rotate_left
            ·simp only [Act.put, List.setIfInBounds_toArray, List.set_cons_zero, List.set_cons_succ, i64_w, i32_w]
             rfl
            refine join_ (σ := Nat) 1 #[true, true, true, true, true, true, true, false] (fun s_ => [(46, .agg #[.int .i64 t272, .int .i64 t273, .bool t274, .bool t275, .bool t276]), (9, .pointer (some ⟨s_, 0, none⟩))]) (fun s_ w' => (w'.cell? ⟨gb263, 0, none⟩ = some (.int .i64 x264000_3) ∧ w'.cell? ⟨gb263, 1, none⟩ = some (.int .i64 x264001_3) ∧ w'.cell? ⟨gb263, 2, none⟩ = some (.bool x264002_3) ∧ w'.cell? ⟨gb263, 3, none⟩ = some (.bool x264003_3) ∧ w'.cell? ⟨gb263, 4, none⟩ = some (.bool x264004_3) ∧ w'.cell? (ad271.add (x8_3).toNat) = some (.int .i64 (rd l1 x8_3))) ∧ (Kd.R (Kd.int .i64) 3 w' w.heap.size (fun _ => True) u6 x6_3) ∧ (w'.heap[gb263]? = some (.cells #[.int .i64 x264000_3, .int .i64 x264001_3, .bool x264002_3, .bool x264003_3, .bool x264004_3] 24 (0, 0))) ∧ (w'.heap[gb264]? = some (.cells #[.int .i64 x265000_2, .int .i64 x265001_2, .bool x265002_2, .bool x265003_2, .bool x265004_2] 24 (0, 0))) ∧ (w'.heap[s_]? = some (.cells #[.int .i64 0, .int .i64 0, .bool false, .bool false, .bool false] 24 (0, 0))) ∧ (w.heap.size ≤ s_) ∧ (w.heap.size ≤ s_) ∧ (gb263 ≠ s_) ∧ (s_ ≠ gb263) ∧ (gb264 ≠ s_) ∧ (s_ ≠ gb264) ∧ (Below w.heap.size w w')) ?_ ?_
            rotate_left
            ·intro hCont
             refine two_ (i := 5) (j := 6) (Ni := some 46) (Nj := some 9) #[true, true, true, true, true, true, false, false] #[true, true, true, true, true, false, true, false] rfl rfl rfl rfl (two_of HT_.out (by kernel_rfl)) (by decide) (by decide) (fun K hK => ?_) (fun K hK => ?_)
             ·skip
              refine goes_ Try.func67 (by kernel_rfl) rfl #[.agg #[.int .i64 x264000_3, .int .i64 x264001_3, .bool x264002_3, .bool x264003_3, .bool x264004_3], .int .i64 (rd l1 x8_3)] (by rfl) rfl rfl za ?_
              with_reducible refine (spec_l04Act.calls k3 x264000_3 x264001_3 x264002_3 x264003_3 x264004_3 (rd l1 x8_3) t272 t273 t274 t275 t276 _ A29.out).mono ?_
              rintro e w50 ⟨rfl, hb⟩
              refine ⟨_, rfl, ?_⟩
              have n0_ := aM (Kd.R_below (by (with_reducible repeat (first | apply Kd.R_alloc | apply Kd.R_drewN | apply Kd.R_drew)); exact HO_6.out) hb)
              have n1_ := aM (bb BK263.out hb)
              have n2_ := aM (bb BK264.out hb)
              have n3_ := aM (below_step (zb) hb)
              clear HO_6
              clear BK263
              clear BK264
              clear HB
              have HO_6 := n0_
              have BK263 := n1_
              have BK264 := n2_
              have HB := n3_
              clear n0_ n1_ n2_ n3_
              (try clear hb)
              (try clear hb2)
              (try clear hk)
              (try clear hi)
              refine hK.out _ _ ⟨(blk_cell BK263.out 0).trans rfl, (blk_cell BK263.out 1).trans rfl, (blk_cell BK263.out 2).trans rfl, (blk_cell BK263.out 3).trans rfl, (blk_cell BK263.out 4).trans rfl, ((HB.out.cell (World.block_lt_of_cell? w _ hw271_0)).trans hw271_0)⟩ (fun hHeld => ?_)
              clear hK K
              refine norm_ (a' := ?_) ?_ ?_
              rotate_left
              ·show Act.put _ (some 46) _ = _
               simp only [Act.put, List.setIfInBounds_toArray, List.set_cons_zero, List.set_cons_succ, i64_w, i32_w]
               rfl
              refine one_ (i := 6) (N := some 9) #[true, true, true, true, true, true, true, false] rfl rfl (one_of HT_.out (by kernel_rfl)) (by decide) (fun K hK => ?_)
              refine box_step ?hg (N := 9) ?hd (cs := #[.int .i64 0, .int .i64 0, .bool false, .bool false, .bool false]) (t := 24) ?hr ?_; (case hd => rfl); (case hg => rfl); (case hr => exact zg)
              intro gb277 hg w51 hbox hb
              have n0_ := aM (Kd.R_below (by (with_reducible repeat (first | apply Kd.R_alloc | apply Kd.R_drewN | apply Kd.R_drew)); exact HO_6.out) hb)
              have n1_ := aM (bb BK263.out hb)
              have n2_ := aM (bb BK264.out hb)
              have n3_ := aM (below_step (zb) hb)
              have n4_ := aM (hbox)
              have n5_ := aM ((by rw [hg]; exact (below_size (zb)) : w.heap.size ≤ gb277))
              have n6_ := aM ((by rw [hg]; exact (below_size (zb)) : w.heap.size ≤ gb277))
              have n7_ := aM ((by rw [hg]; exact Nat.ne_of_lt (nl BK263.out) : gb263 ≠ gb277))
              have n8_ := aM ((by rw [hg]; exact Nat.ne_of_gt (nl BK263.out) : gb277 ≠ gb263))
              have n9_ := aM ((by rw [hg]; exact Nat.ne_of_lt (nl BK264.out) : gb264 ≠ gb277))
              have n10_ := aM ((by rw [hg]; exact Nat.ne_of_gt (nl BK264.out) : gb277 ≠ gb264))
              clear HO_6
              clear BK263
              clear BK264
              clear HB
              have HO_6 := n0_
              have BK263 := n1_
              have BK264 := n2_
              have HB := n3_
              have BK277 := n4_
              have GW277 := n5_
              have GE277 := n6_
              have NB263_277 := n7_
              have NB277_263 := n8_
              have NB264_277 := n9_
              have NB277_264 := n10_
              clear n0_ n1_ n2_ n3_ n4_ n5_ n6_ n7_ n8_ n9_ n10_
              clear hb hbox hg
              refine hK.out _ _ ⟨(blk_cell BK263.out 0).trans rfl, (blk_cell BK263.out 1).trans rfl, (blk_cell BK263.out 2).trans rfl, (blk_cell BK263.out 3).trans rfl, (blk_cell BK263.out 4).trans rfl, ((HB.out.cell (World.block_lt_of_cell? w _ hw271_0)).trans hw271_0)⟩ (fun hHeld => ?_)
              clear hK K
              refine norm_ (a' := ?_) ?_ ?_
              rotate_left
              ·show Act.put _ (some 9) _ = _
               simp only [Act.put, List.setIfInBounds_toArray, List.set_cons_zero, List.set_cons_succ, i64_w, i32_w]
               rfl
              exact norm_ (by simp only [putAll, Act.put, List.setIfInBounds_toArray, List.set_cons_zero, List.set_cons_succ]) (hCont (gb277) _ ⟨hHeld, (by (with_reducible repeat (first | apply Kd.R_alloc | apply Kd.R_drewN | apply Kd.R_drew)); exact HO_6.out), (by exact pk BK263.out), (by exact pk BK264.out), (by exact pk BK277.out), GW277.out, GE277.out, NB263_277.out, NB277_263.out, NB264_277.out, NB277_264.out, (zb)⟩)
             ·skip
              refine box_step ?hg (N := 9) ?hd (cs := #[.int .i64 0, .int .i64 0, .bool false, .bool false, .bool false]) (t := 24) ?hr ?_; (case hd => rfl); (case hg => rfl); (case hr => exact zg)
              intro gb277 hg w50 hbox hb
              have n0_ := aM (Kd.R_below (by (with_reducible repeat (first | apply Kd.R_alloc | apply Kd.R_drewN | apply Kd.R_drew)); exact HO_6.out) hb)
              have n1_ := aM (bb BK263.out hb)
              have n2_ := aM (bb BK264.out hb)
              have n3_ := aM (below_step (zb) hb)
              have n4_ := aM (hbox)
              have n5_ := aM ((by rw [hg]; exact (below_size (zb)) : w.heap.size ≤ gb277))
              have n6_ := aM ((by rw [hg]; exact (below_size (zb)) : w.heap.size ≤ gb277))
              have n7_ := aM ((by rw [hg]; exact Nat.ne_of_lt (nl BK263.out) : gb263 ≠ gb277))
              have n8_ := aM ((by rw [hg]; exact Nat.ne_of_gt (nl BK263.out) : gb277 ≠ gb263))
              have n9_ := aM ((by rw [hg]; exact Nat.ne_of_lt (nl BK264.out) : gb264 ≠ gb277))
              have n10_ := aM ((by rw [hg]; exact Nat.ne_of_gt (nl BK264.out) : gb277 ≠ gb264))
              clear HO_6
              clear BK263
              clear BK264
              clear HB
              have HO_6 := n0_
              have BK263 := n1_
              have BK264 := n2_
              have HB := n3_
              have BK277 := n4_
              have GW277 := n5_
              have GE277 := n6_
              have NB263_277 := n7_
              have NB277_263 := n8_
              have NB264_277 := n9_
              have NB277_264 := n10_
              clear n0_ n1_ n2_ n3_ n4_ n5_ n6_ n7_ n8_ n9_ n10_
              clear hb hbox hg
              refine hK.out _ _ ⟨(blk_cell BK263.out 0).trans rfl, (blk_cell BK263.out 1).trans rfl, (blk_cell BK263.out 2).trans rfl, (blk_cell BK263.out 3).trans rfl, (blk_cell BK263.out 4).trans rfl, ((HB.out.cell (World.block_lt_of_cell? w _ hw271_0)).trans hw271_0)⟩ (fun hHeld => ?_)
              clear hK K
              refine norm_ (a' := ?_) ?_ ?_
              rotate_left
              ·show Act.put _ (some 9) _ = _
               simp only [Act.put, List.setIfInBounds_toArray, List.set_cons_zero, List.set_cons_succ, i64_w, i32_w]
               rfl
              refine one_ (i := 5) (N := some 46) #[true, true, true, true, true, true, true, false] rfl rfl (one_of HT_.out (by kernel_rfl)) (by decide) (fun K hK => ?_)
              refine goes_ Try.func67 (by kernel_rfl) rfl #[.agg #[.int .i64 x264000_3, .int .i64 x264001_3, .bool x264002_3, .bool x264003_3, .bool x264004_3], .int .i64 (rd l1 x8_3)] (by rfl) rfl rfl za ?_
              with_reducible refine (spec_l04Act.calls k3 x264000_3 x264001_3 x264002_3 x264003_3 x264004_3 (rd l1 x8_3) t272 t273 t274 t275 t276 _ A29.out).mono ?_
              rintro e w51 ⟨rfl, hb⟩
              refine ⟨_, rfl, ?_⟩
              have n0_ := aM (Kd.R_below (by (with_reducible repeat (first | apply Kd.R_alloc | apply Kd.R_drewN | apply Kd.R_drew)); exact HO_6.out) hb)
              have n1_ := aM (bb BK263.out hb)
              have n2_ := aM (bb BK264.out hb)
              have n3_ := aM (bb BK277.out hb)
              have n4_ := aM (below_step (zb) hb)
              clear HO_6
              clear BK263
              clear BK264
              clear BK277
              clear HB
              have HO_6 := n0_
              have BK263 := n1_
              have BK264 := n2_
              have BK277 := n3_
              have HB := n4_
              clear n0_ n1_ n2_ n3_ n4_
              (try clear hb)
              (try clear hb2)
              (try clear hk)
              (try clear hi)
              refine hK.out _ _ ⟨(blk_cell BK263.out 0).trans rfl, (blk_cell BK263.out 1).trans rfl, (blk_cell BK263.out 2).trans rfl, (blk_cell BK263.out 3).trans rfl, (blk_cell BK263.out 4).trans rfl, ((HB.out.cell (World.block_lt_of_cell? w _ hw271_0)).trans hw271_0)⟩ (fun hHeld => ?_)
              clear hK K
              refine norm_ (a' := ?_) ?_ ?_
              rotate_left
              ·show Act.put _ (some 46) _ = _
               simp only [Act.put, List.setIfInBounds_toArray, List.set_cons_zero, List.set_cons_succ, i64_w, i32_w]
               rfl
              exact norm_ (by simp only [putAll, Act.put, List.setIfInBounds_toArray, List.set_cons_zero, List.set_cons_succ]) (hCont (gb277) _ ⟨hHeld, (by (with_reducible repeat (first | apply Kd.R_alloc | apply Kd.R_drewN | apply Kd.R_drew)); exact HO_6.out), (by exact pk BK263.out), (by exact pk BK264.out), (by exact pk BK277.out), GW277.out, GE277.out, NB263_277.out, NB277_263.out, NB264_277.out, NB277_264.out, (zb)⟩)
            rintro gb277 w52 ⟨hS_, h0_, h1_, h2_, h3_, h4_, h5_, h6_, h7_, h8_, h9_, h10_⟩
            have n0_ : Aside0 (Kd.R (Kd.int .i64) 3 w52 w.heap.size (fun _ => True) u6 x6_3) := ⟨h0_⟩
            have n1_ : Aside0 (w52.heap[gb263]? = some (.cells #[.int .i64 x264000_3, .int .i64 x264001_3, .bool x264002_3, .bool x264003_3, .bool x264004_3] 24 (0, 0))) := ⟨h1_⟩
            have n2_ : Aside0 (w52.heap[gb264]? = some (.cells #[.int .i64 x265000_2, .int .i64 x265001_2, .bool x265002_2, .bool x265003_2, .bool x265004_2] 24 (0, 0))) := ⟨h2_⟩
            have n3_ : Aside0 (w52.heap[gb277]? = some (.cells #[.int .i64 0, .int .i64 0, .bool false, .bool false, .bool false] 24 (0, 0))) := ⟨h3_⟩
            have n4_ : Aside0 (w.heap.size ≤ gb277) := ⟨h4_⟩
            have n5_ : Aside0 (w.heap.size ≤ gb277) := ⟨h5_⟩
            have n6_ : Aside0 (gb263 ≠ gb277) := ⟨h6_⟩
            have n7_ : Aside0 (gb277 ≠ gb263) := ⟨h7_⟩
            have n8_ : Aside0 (gb264 ≠ gb277) := ⟨h8_⟩
            have n9_ : Aside0 (gb277 ≠ gb264) := ⟨h9_⟩
            have n10_ : Aside0 (Below w.heap.size w w52) := ⟨h10_⟩
            clear HO_6
            clear BK263
            clear BK264
            clear HB
            clear h0_ h1_ h2_ h3_ h4_ h5_ h6_ h7_ h8_ h9_ h10_
            have HO_6 := n0_
            have BK263 := n1_
            have BK264 := n2_
            have BK277 := n3_
            have GW277 := n4_
            have GE277 := n5_
            have NB263_277 := n6_
            have NB277_263 := n7_
            have NB264_277 := n8_
            have NB277_264 := n9_
            have HB := n10_
            clear n0_ n1_ n2_ n3_ n4_ n5_ n6_ n7_ n8_ n9_ n10_
            have hHeld : w52.cell? ⟨gb263, 0, none⟩ = some (.int .i64 x264000_3) ∧ w52.cell? ⟨gb263, 1, none⟩ = some (.int .i64 x264001_3) ∧ w52.cell? ⟨gb263, 2, none⟩ = some (.bool x264002_3) ∧ w52.cell? ⟨gb263, 3, none⟩ = some (.bool x264003_3) ∧ w52.cell? ⟨gb263, 4, none⟩ = some (.bool x264004_3) ∧ w52.cell? (ad271.add (x8_3).toNat) = some (.int .i64 (rd l1 x8_3)) := hS_
            refine norm_ (a' := ?_) ?_ ?_
            rotate_left
            ·simp only [putAll, Act.put, List.setIfInBounds_toArray, List.set_cons_zero, List.set_cons_succ]
             rfl
            refine one_ (i := 7) (N := none) #[true, true, true, true, true, true, true, true] rfl rfl (one_of HT_.out (by kernel_rfl)) (by decide) (fun K hK => ?_)
            have hs53 : w52.cell? ⟨gb277, 0, none⟩ = some (.int .i64 0) := (blk_cell BK277.out 0).trans rfl
            have hfs53 := blk_frozen BK277.out 0
            have hns53_0 := NB263_277.out
            have hns53_1 := NB264_277.out
            have hms53_0 := NB277_263.out
            have hms53_1 := NB277_264.out
            have hs54 : w52.cell? ⟨gb277, 1, none⟩ = some (.int .i64 0) := (blk_cell BK277.out 1).trans rfl
            have hfs54 := blk_frozen BK277.out 1
            have hns54_0 := NB263_277.out
            have hns54_1 := NB264_277.out
            have hms54_0 := NB277_263.out
            have hms54_1 := NB277_264.out
            have hs55 : w52.cell? ⟨gb277, 2, none⟩ = some (.bool false) := (blk_cell BK277.out 2).trans rfl
            have hfs55 := blk_frozen BK277.out 2
            have hns55_0 := NB263_277.out
            have hns55_1 := NB264_277.out
            have hms55_0 := NB277_263.out
            have hms55_1 := NB277_264.out
            have hs56 : w52.cell? ⟨gb277, 3, none⟩ = some (.bool false) := (blk_cell BK277.out 3).trans rfl
            have hfs56 := blk_frozen BK277.out 3
            have hns56_0 := NB263_277.out
            have hns56_1 := NB264_277.out
            have hms56_0 := NB277_263.out
            have hms56_1 := NB277_264.out
            have hs57 : w52.cell? ⟨gb277, 4, none⟩ = some (.bool false) := (blk_cell BK277.out 4).trans rfl
            have hfs57 := blk_frozen BK277.out 4
            have hns57_0 := NB263_277.out
            have hns57_1 := NB264_277.out
            have hms57_0 := NB277_263.out
            have hms57_1 := NB277_264.out
            refine skip_ (w1 := ?_) (by rfl) rfl ?_ ?_
            rotate_left
            ·go_simp
             rfl
            refine hK.out _ _ ⟨((cell_far (p := ⟨gb277, _, none⟩) NB263_277.out _).trans (((cell_far (p := ⟨gb277, _, none⟩) NB263_277.out _).trans (((cell_far (p := ⟨gb277, _, none⟩) NB263_277.out _).trans (((cell_far (p := ⟨gb277, _, none⟩) NB263_277.out _).trans (((cell_far (p := ⟨gb277, _, none⟩) NB263_277.out _).trans (hHeld.1)))))))))), ((cell_far (p := ⟨gb277, _, none⟩) NB263_277.out _).trans (((cell_far (p := ⟨gb277, _, none⟩) NB263_277.out _).trans (((cell_far (p := ⟨gb277, _, none⟩) NB263_277.out _).trans (((cell_far (p := ⟨gb277, _, none⟩) NB263_277.out _).trans (((cell_far (p := ⟨gb277, _, none⟩) NB263_277.out _).trans (hHeld.2.1)))))))))), ((cell_far (p := ⟨gb277, _, none⟩) NB263_277.out _).trans (((cell_far (p := ⟨gb277, _, none⟩) NB263_277.out _).trans (((cell_far (p := ⟨gb277, _, none⟩) NB263_277.out _).trans (((cell_far (p := ⟨gb277, _, none⟩) NB263_277.out _).trans (((cell_far (p := ⟨gb277, _, none⟩) NB263_277.out _).trans (hHeld.2.2.1)))))))))), ((cell_far (p := ⟨gb277, _, none⟩) NB263_277.out _).trans (((cell_far (p := ⟨gb277, _, none⟩) NB263_277.out _).trans (((cell_far (p := ⟨gb277, _, none⟩) NB263_277.out _).trans (((cell_far (p := ⟨gb277, _, none⟩) NB263_277.out _).trans (((cell_far (p := ⟨gb277, _, none⟩) NB263_277.out _).trans (hHeld.2.2.2.1)))))))))), ((cell_far (p := ⟨gb277, _, none⟩) NB263_277.out _).trans (((cell_far (p := ⟨gb277, _, none⟩) NB263_277.out _).trans (((cell_far (p := ⟨gb277, _, none⟩) NB263_277.out _).trans (((cell_far (p := ⟨gb277, _, none⟩) NB263_277.out _).trans (((cell_far (p := ⟨gb277, _, none⟩) NB263_277.out _).trans (hHeld.2.2.2.2.1)))))))))), ((cell_far (p := ⟨gb277, _, none⟩) (by first | exact Nat.ne_of_lt (Nat.lt_of_lt_of_le (by have := World.block_lt_of_cell? _ _ hw271_0; first | rwa [add_block] at this | exact this) GW277.out) | (rw [add_block]; exact Nat.ne_of_lt (Nat.lt_of_lt_of_le (by have := World.block_lt_of_cell? _ _ hw271_0; first | rwa [add_block] at this | exact this) GW277.out)) | (show (Addr.add _ _).block ≠ _; rw [add_block]; exact Nat.ne_of_lt (Nat.lt_of_lt_of_le (by have := World.block_lt_of_cell? _ _ hw271_0; first | rwa [add_block] at this | exact this) GW277.out)) | (dsimp only; exact Nat.ne_of_lt (Nat.lt_of_lt_of_le (by have := World.block_lt_of_cell? _ _ hw271_0; first | rwa [add_block] at this | exact this) GW277.out))) _).trans (((cell_far (p := ⟨gb277, _, none⟩) (by first | exact Nat.ne_of_lt (Nat.lt_of_lt_of_le (by have := World.block_lt_of_cell? _ _ hw271_0; first | rwa [add_block] at this | exact this) GW277.out) | (rw [add_block]; exact Nat.ne_of_lt (Nat.lt_of_lt_of_le (by have := World.block_lt_of_cell? _ _ hw271_0; first | rwa [add_block] at this | exact this) GW277.out)) | (show (Addr.add _ _).block ≠ _; rw [add_block]; exact Nat.ne_of_lt (Nat.lt_of_lt_of_le (by have := World.block_lt_of_cell? _ _ hw271_0; first | rwa [add_block] at this | exact this) GW277.out)) | (dsimp only; exact Nat.ne_of_lt (Nat.lt_of_lt_of_le (by have := World.block_lt_of_cell? _ _ hw271_0; first | rwa [add_block] at this | exact this) GW277.out))) _).trans (((cell_far (p := ⟨gb277, _, none⟩) (by first | exact Nat.ne_of_lt (Nat.lt_of_lt_of_le (by have := World.block_lt_of_cell? _ _ hw271_0; first | rwa [add_block] at this | exact this) GW277.out) | (rw [add_block]; exact Nat.ne_of_lt (Nat.lt_of_lt_of_le (by have := World.block_lt_of_cell? _ _ hw271_0; first | rwa [add_block] at this | exact this) GW277.out)) | (show (Addr.add _ _).block ≠ _; rw [add_block]; exact Nat.ne_of_lt (Nat.lt_of_lt_of_le (by have := World.block_lt_of_cell? _ _ hw271_0; first | rwa [add_block] at this | exact this) GW277.out)) | (dsimp only; exact Nat.ne_of_lt (Nat.lt_of_lt_of_le (by have := World.block_lt_of_cell? _ _ hw271_0; first | rwa [add_block] at this | exact this) GW277.out))) _).trans (((cell_far (p := ⟨gb277, _, none⟩) (by first | exact Nat.ne_of_lt (Nat.lt_of_lt_of_le (by have := World.block_lt_of_cell? _ _ hw271_0; first | rwa [add_block] at this | exact this) GW277.out) | (rw [add_block]; exact Nat.ne_of_lt (Nat.lt_of_lt_of_le (by have := World.block_lt_of_cell? _ _ hw271_0; first | rwa [add_block] at this | exact this) GW277.out)) | (show (Addr.add _ _).block ≠ _; rw [add_block]; exact Nat.ne_of_lt (Nat.lt_of_lt_of_le (by have := World.block_lt_of_cell? _ _ hw271_0; first | rwa [add_block] at this | exact this) GW277.out)) | (dsimp only; exact Nat.ne_of_lt (Nat.lt_of_lt_of_le (by have := World.block_lt_of_cell? _ _ hw271_0; first | rwa [add_block] at this | exact this) GW277.out))) _).trans (((cell_far (p := ⟨gb277, _, none⟩) (by first | exact Nat.ne_of_lt (Nat.lt_of_lt_of_le (by have := World.block_lt_of_cell? _ _ hw271_0; first | rwa [add_block] at this | exact this) GW277.out) | (rw [add_block]; exact Nat.ne_of_lt (Nat.lt_of_lt_of_le (by have := World.block_lt_of_cell? _ _ hw271_0; first | rwa [add_block] at this | exact this) GW277.out)) | (show (Addr.add _ _).block ≠ _; rw [add_block]; exact Nat.ne_of_lt (Nat.lt_of_lt_of_le (by have := World.block_lt_of_cell? _ _ hw271_0; first | rwa [add_block] at this | exact this) GW277.out)) | (dsimp only; exact Nat.ne_of_lt (Nat.lt_of_lt_of_le (by have := World.block_lt_of_cell? _ _ hw271_0; first | rwa [add_block] at this | exact this) GW277.out))) _).trans (hHeld.2.2.2.2.2))))))))))⟩ (fun hHeld => ?_)
            clear hK K
            refine done_ (done_of HT_.out (by kernel_rfl)) ?_
            have hnb58 := NB277_263.out
            have hnc58 := NB263_277.out
            have hnb59 := NB277_264.out
            have hnc59 := NB264_277.out
            obtain ⟨hcz60_0, hcz60_1, hcz60_2, hcz60_3, hcz60_4, hfz60_0, hfz60_1, hfz60_2, hfz60_3, hfz60_4⟩ := cells5 BK277.out
            have hnb61 := NB263_264.out
            have hnc61 := NB264_263.out
            obtain ⟨hcz62_0, hcz62_1, hcz62_2, hcz62_3, hcz62_4, hfz62_0, hfz62_1, hfz62_2, hfz62_3, hfz62_4⟩ := cells5 BK263.out
            try go_wp2
            go_roundg k3
            case measure => have := HJ2.out; have := HK2.out; have := HK3.out; omega
            case rel => exact ⟨(x6_3), (wrap64 (x8_3 + 1)), (t272), (t273), (t274), (t275), (t276), zs, H', ⟨by have := HJ2.out; have := HK2.out; have := HK3.out; omega⟩, ⟨by (with_reducible repeat (first | apply Kd.R_alloc | apply Kd.R_drewN | apply Kd.R_drew)); exact Kd.R_mono (Kd.R_far (p := ⟨gb263, 4, none⟩) (Kd.R_far (p := ⟨gb263, 3, none⟩) (Kd.R_far (p := ⟨gb263, 2, none⟩) (Kd.R_far (p := ⟨gb263, 1, none⟩) (Kd.R_far (p := ⟨gb263, 0, none⟩) (Kd.R_far (p := ⟨gb277, 4, none⟩) (Kd.R_far (p := ⟨gb277, 3, none⟩) (Kd.R_far (p := ⟨gb277, 2, none⟩) (Kd.R_far (p := ⟨gb277, 1, none⟩) (Kd.R_far (p := ⟨gb277, 0, none⟩) (Kd.R_types (Kd.R_types HO_6.out BK277.out (by decide)) BK263.out (by decide)) (fun _ hk => hk.1.2) (.int .i64 t272)) (fun _ hk => hk.1.2) (.int .i64 t273)) (fun _ hk => hk.1.2) (.bool t274)) (fun _ hk => hk.1.2) (.bool t275)) (fun _ hk => hk.1.2) (.bool t276)) (fun _ hk => hk.2) (.int .i64 t272)) (fun _ hk => hk.2) (.int .i64 t273)) (fun _ hk => hk.2) (.bool t274)) (fun _ hk => hk.2) (.bool t275)) (fun _ hk => hk.2) (.bool t276)) (fun _ hk => trivial)⟩, ⟨by refine pq ?_; refine blk_put (cs := #[.int .i64 t272, .int .i64 t273, .bool t274, .bool t275, .bool x264004_3]) ?_ 4 _ rfl; refine pq ?_; refine blk_put (cs := #[.int .i64 t272, .int .i64 t273, .bool t274, .bool x264003_3, .bool x264004_3]) ?_ 3 _ rfl; refine pq ?_; refine blk_put (cs := #[.int .i64 t272, .int .i64 t273, .bool x264002_3, .bool x264003_3, .bool x264004_3]) ?_ 2 _ rfl; refine pq ?_; refine blk_put (cs := #[.int .i64 t272, .int .i64 x264001_3, .bool x264002_3, .bool x264003_3, .bool x264004_3]) ?_ 1 _ rfl; refine pq ?_; refine blk_put (cs := #[.int .i64 x264000_3, .int .i64 x264001_3, .bool x264002_3, .bool x264003_3, .bool x264004_3]) ?_ 0 _ rfl; refine pq ?_; refine blk_far ?_ NB263_277.out _; refine pq ?_; refine blk_far ?_ NB263_277.out _; refine pq ?_; refine blk_far ?_ NB263_277.out _; refine pq ?_; refine blk_far ?_ NB263_277.out _; refine pq ?_; refine blk_far ?_ NB263_277.out _; refine pq ?_; exact BK263.out⟩, ⟨by refine pq ?_; refine blk_far ?_ NB264_263.out _; refine pq ?_; refine blk_far ?_ NB264_263.out _; refine pq ?_; refine blk_far ?_ NB264_263.out _; refine pq ?_; refine blk_far ?_ NB264_263.out _; refine pq ?_; refine blk_far ?_ NB264_263.out _; refine pq ?_; refine blk_far ?_ NB264_277.out _; refine pq ?_; refine blk_far ?_ NB264_277.out _; refine pq ?_; refine blk_far ?_ NB264_277.out _; refine pq ?_; refine blk_far ?_ NB264_277.out _; refine pq ?_; refine blk_far ?_ NB264_277.out _; refine pq ?_; exact BK264.out⟩, ⟨zb⟩⟩
          ·rw [if_neg c28] at H
           exact absurd H (by simp)
         ·rw [if_neg c27] at H
          have c27b0 : decide (x8_3 < (l1.length : Int)) = false := decide_eq_false c27
          clear c27
          simp only [Option.some.injEq, Prod.mk.injEq] at H
          obtain ⟨rfl, rfl, rfl, rfl, rfl, rfl⟩ := H
          have hnb63 := NB263_264.out
          have hnc63 := NB264_263.out
          obtain ⟨hcz64_0, hcz64_1, hcz64_2, hcz64_3, hcz64_4, hfz64_0, hfz64_1, hfz64_2, hfz64_3, hfz64_4⟩ := cells5 BK263.out
          obtain ⟨hcz65_0, hcz65_1, hcz65_2, hcz65_3, hcz65_4, hfz65_0, hfz65_1, hfz65_2, hfz65_3, hfz65_4⟩ := cells5 BK264.out
          go_wp2
          refine bodyPost_ret (results_ct rfl _ _ gb264 24 #[.int .i64 x264000_3, .int .i64 x264001_3, .bool x264002_3, .bool x264003_3, .bool x264004_3] (0, 0) _ rfl (by refine pq ?_; refine blk_put (cs := #[.int .i64 x264000_3, .int .i64 x264001_3, .bool x264002_3, .bool x264003_3, .bool x265004_2]) ?_ 4 _ rfl; refine pq ?_; refine blk_put (cs := #[.int .i64 x264000_3, .int .i64 x264001_3, .bool x264002_3, .bool x265003_2, .bool x265004_2]) ?_ 3 _ rfl; refine pq ?_; refine blk_put (cs := #[.int .i64 x264000_3, .int .i64 x264001_3, .bool x265002_2, .bool x265003_2, .bool x265004_2]) ?_ 2 _ rfl; refine pq ?_; refine blk_put (cs := #[.int .i64 x264000_3, .int .i64 x265001_2, .bool x265002_2, .bool x265003_2, .bool x265004_2]) ?_ 1 _ rfl; refine pq ?_; refine blk_put (cs := #[.int .i64 x265000_2, .int .i64 x265001_2, .bool x265002_2, .bool x265003_2, .bool x265004_2]) ?_ 0 _ rfl; refine pq ?_; exact BK264.out) Try.underlying24 rfl (by kernel_rfl)) rfl ?_
          exact ⟨_, zr, by (with_reducible repeat (first | apply Kd.R_alloc | apply Kd.R_drewN | apply Kd.R_drew)); exact Kd.R_mono (Kd.R_far (p := ⟨gb264, 4, none⟩) (Kd.R_far (p := ⟨gb264, 3, none⟩) (Kd.R_far (p := ⟨gb264, 2, none⟩) (Kd.R_far (p := ⟨gb264, 1, none⟩) (Kd.R_far (p := ⟨gb264, 0, none⟩) (Kd.R_types HO_6.out BK264.out (by decide)) (fun _ hk => hk.2) (.int .i64 x264000_3)) (fun _ hk => hk.2) (.int .i64 x264001_3)) (fun _ hk => hk.2) (.bool x264002_3)) (fun _ hk => hk.2) (.bool x264003_3)) (fun _ hk => hk.2) (.bool x264004_3)) (fun _ hk => trivial), zb⟩

end Go.Proofs.Ytglpkjcblpjnoab.QFnSigns
