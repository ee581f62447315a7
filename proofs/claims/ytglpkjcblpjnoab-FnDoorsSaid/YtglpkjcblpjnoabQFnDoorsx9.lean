-- Printed functions and their walks: by print.py, turned by wip/tools/myprint.py.
import Derived.Test.YtglpkjcblpjnoabQFnDoorsx0
import Derived.Test.YtglpkjcblpjnoabQFnDoorsx2
import Derived.Test.YtglpkjcblpjnoabQFnDoorsx7
import Derived.Test.YtglpkjcblpjnoabQFnDoorsx8
namespace Go.Proofs.Ytglpkjcblpjnoab.QFnDoors
open Go.RowKit Go.Proofs.YtglpkjcblpjnoabW.PrintWords Go.Proofs.YtglpkjcblpjnoabW.PrintLast Go.Proofs.YtglpkjcblpjnoabW.PrintMore
attribute [local go_sem] max2_int min2_int max_two min_two max_three min_three max_four min_four   -- for this text's walks alone
set_option linter.unusedVariables false
set_option linter.unusedSimpArgs false

/-! ### impl_Recover: function 25 -/
def impl_Recover.j0 : Nat → Bool → Int → Int → Bool → Bool → Bool → Bool → Bool → Bool → Bool → Option (Int × Int × Bool × Bool × Bool × Int × Bool)
 | 0, _, _, _, _, _, _, _, _, _, _ => none
 | k + 1, x27, x264000, x264001, x264002, x264003, x264004, x272000, x272001, x272002, x272003 => if x27 = true then (some (x264000, x264001, x264002, x264003, x264004, 0, false)) else ((impl_Verdict.f k x264000 x272000 x272001 x272002 x272003).bind fun t274 => (if t274 = 3 then (some (0, x264001, false, x264003, x264004, t274, true)) else (if t274 = 4 then (some (0, x264001, false, x264003, x264004, t274, true)) else (some (x264000, x264001, x264002, x264003, x264004, t274, true)))))
def impl_Recover.f (k : Nat) (a0_0 : Int) (a0_1 : Int) (a0_2 : Bool) (a0_3 : Bool) (a0_4 : Bool) (a1_0 : Int) (a1_1 : Int) (a1_2 : Int) (a1_3 : Int) : Option (Int × Int × Bool × Bool × Bool × Int × Bool) := (impl_SignsOf.f k a0_0 a0_1 a0_2 a0_3 a0_4 a1_0 a1_1 a1_2 a1_3).bind fun bt266 => (if bt266.2.2.2.2 = true then ((impl_isCut.f k a0_0 a0_1 a0_2 a0_3 a0_4).bind fun t272 => (if t272 = true then ((impl_CountFaults.f k a1_0 a1_1 a1_2 a1_3).bind fun t273 => (impl_Recover.j0 k (decide (t273 > 1)) a0_0 a0_1 a0_2 a0_3 a0_4 bt266.1 bt266.2.1 bt266.2.2.1 bt266.2.2.2.1)) else (impl_Recover.j0 k true a0_0 a0_1 a0_2 a0_3 a0_4 bt266.1 bt266.2.1 bt266.2.2.1 bt266.2.2.2.1))) else (impl_Recover.j0 k true a0_0 a0_1 a0_2 a0_3 a0_4 bt266.1 bt266.2.1 bt266.2.2.1 bt266.2.2.2.1))
theorem impl_Recover.mono_l : ∀ k, (∀ y0 y1 y2 y3 y4 y5 y6 y7 y8 y9, LeO (impl_Recover.j0 k y0 y1 y2 y3 y4 y5 y6 y7 y8 y9) (impl_Recover.j0 (k + 1) y0 y1 y2 y3 y4 y5 y6 y7 y8 y9))
 | 0 => fun _ _ _ _ _ _ _ _ _ _ r h => by simp [impl_Recover.j0] at h
 | k + 1 => by
  have ih0 := impl_Recover.mono_l k
  ·intro y0 y1 y2 y3 y4 y5 y6 y7 y8 y9
   unfold impl_Recover.j0
   repeat' first
   | (with_reducible exact ih0 _ _ _ _ _ _ _ _ _ _)
   | (with_reducible exact impl_CountFaults.mono _ _ _ _ _)
   | (with_reducible exact impl_SignsOf.mono _ _ _ _ _ _ _ _ _ _)
   | (with_reducible exact impl_Verdict.mono _ _ _ _ _ _)
   | (with_reducible exact impl_isCut.mono _ _ _ _ _ _)
   | (with_reducible exact LeO.refl _)
   | (with_reducible exact LeO.none _)
   | (with_reducible refine LeO.ite ?_ ?_)
   | (with_reducible refine LeO.bind ?_ (fun _ => ?_))
   | exact ih0 _ _ _ _ _ _ _ _ _ _
   | exact impl_CountFaults.mono _ _ _ _ _
   | exact impl_SignsOf.mono _ _ _ _ _ _ _ _ _ _
   | exact impl_Verdict.mono _ _ _ _ _ _
   | exact impl_isCut.mono _ _ _ _ _ _
   | exact LeO.none _
   | refine LeO.ite ?_ ?_
   | refine LeO.bind ?_ (fun _ => ?_)
theorem impl_Recover.mono : ∀ a0 a1 a2 a3 a4 a5 a6 a7 a8 k, LeO (impl_Recover.f k a0 a1 a2 a3 a4 a5 a6 a7 a8) (impl_Recover.f (k + 1) a0 a1 a2 a3 a4 a5 a6 a7 a8) := by
 intro a0 a1 a2 a3 a4 a5 a6 a7 a8 k
 have ih0 := impl_Recover.mono_l k
 unfold impl_Recover.f
 repeat' first
   | (with_reducible exact ih0 _ _ _ _ _ _ _ _ _ _)
   | (with_reducible exact impl_CountFaults.mono _ _ _ _ _)
   | (with_reducible exact impl_SignsOf.mono _ _ _ _ _ _ _ _ _ _)
   | (with_reducible exact impl_Verdict.mono _ _ _ _ _ _)
   | (with_reducible exact impl_isCut.mono _ _ _ _ _ _)
   | (with_reducible exact LeO.refl _)
   | (with_reducible exact LeO.none _)
   | (with_reducible refine LeO.ite ?_ ?_)
   | (with_reducible refine LeO.bind ?_ (fun _ => ?_))
   | exact ih0 _ _ _ _ _ _ _ _ _ _
   | exact impl_CountFaults.mono _ _ _ _ _
   | exact impl_SignsOf.mono _ _ _ _ _ _ _ _ _ _
   | exact impl_Verdict.mono _ _ _ _ _ _
   | exact impl_isCut.mono _ _ _ _ _ _
   | exact LeO.none _
   | refine LeO.ite ?_ ?_
   | refine LeO.bind ?_ (fun _ => ?_)
set_option maxHeartbeats 8000000 in
set_option maxRecDepth 100000 in
theorem impl_Recover.calls (k : Nat) (a0_0 : Int) (a0_1 : Int) (a0_2 : Bool) (a0_3 : Bool) (a0_4 : Bool) (a1_0 : Int) (a1_1 : Int) (a1_2 : Int) (a1_3 : Int) (r1 : Int) (r2 : Int) (r3 : Bool) (r4 : Bool) (r5 : Bool) (r6 : Int) (r7 : Bool) (w : World) (h : impl_Recover.f k a0_0 a0_1 a0_2 a0_3 a0_4 a1_0 a1_1 a1_2 a1_3 = some (r1, r2, r3, r4, r5, r6, r7)) :
  Calls Try.prog 25 #[.agg #[.int .i64 a0_0, .int .i64 a0_1, .bool a0_2, .bool a0_3, .bool a0_4], .agg #[.int .i64 a1_0, .int .i64 a1_1, .int .i64 a1_2, .int .i64 a1_3]] w fun e w' => e = .returned (.tuple #[.agg #[.int .i64 r1, .int .i64 r2, .bool r3, .bool r4, .bool r5], .int .i64 r6, .bool r7]) ∧ Below w.heap.size w w' := by
 have hu24 := Try.underlying24
 have hu37 := Try.underlying37
 have hu50 := Try.underlying50
 have HB := aM (Below.refl w.heap.size w)
 have H : ((impl_SignsOf.f k a0_0 a0_1 a0_2 a0_3 a0_4 a1_0 a1_1 a1_2 a1_3).bind fun bt266 => (if bt266.2.2.2.2 = true then ((impl_isCut.f k a0_0 a0_1 a0_2 a0_3 a0_4).bind fun t272 => (if t272 = true then ((impl_CountFaults.f k a1_0 a1_1 a1_2 a1_3).bind fun t273 => (impl_Recover.j0 k (decide (t273 > 1)) a0_0 a0_1 a0_2 a0_3 a0_4 bt266.1 bt266.2.1 bt266.2.2.1 bt266.2.2.2.1)) else (impl_Recover.j0 k true a0_0 a0_1 a0_2 a0_3 a0_4 bt266.1 bt266.2.1 bt266.2.2.1 bt266.2.2.2.1))) else (impl_Recover.j0 k true a0_0 a0_1 a0_2 a0_3 a0_4 bt266.1 bt266.2.1 bt266.2.2.1 bt266.2.2.2.1))) = some (r1, r2, r3, r4, r5, r6, r7) := h
 clear h
 replace H := Option.bind_eq_some_iff.mp H
 obtain ⟨⟨t266, t267, t268, t269, t270⟩, A30, H⟩ := H
 replace H : (if t270 = true then ((impl_isCut.f k a0_0 a0_1 a0_2 a0_3 a0_4).bind fun t272 => (if t272 = true then ((impl_CountFaults.f k a1_0 a1_1 a1_2 a1_3).bind fun t273 => (impl_Recover.j0 k (decide (t273 > 1)) a0_0 a0_1 a0_2 a0_3 a0_4 t266 t267 t268 t269)) else (impl_Recover.j0 k true a0_0 a0_1 a0_2 a0_3 a0_4 t266 t267 t268 t269))) else (impl_Recover.j0 k true a0_0 a0_1 a0_2 a0_3 a0_4 t266 t267 t268 t269)) = some (r1, r2, r3, r4, r5, r6, r7) := H
 have A3 := aM A30
 clear A30
 have HC4 := aM H
 clear H
 go_enter Try.func25, Try.ntmps25
 go_upto_region 2 with (first | ((with_reducible refine gate_dst (N := 2) rfl ?_); refine box_event ?hg (N := 2) ?hd (cs := #[.int .i64 a0_0, .int .i64 a0_1, .bool a0_2, .bool a0_3, .bool a0_4]) (t := 24) ?hr ?_; (case hd => rfl); (case hg => rfl); (case hr => exact zg); intro gb263 hg w5 hbox hb; have n0_ := aM (below_step (zb) hb); have n1_ := aM (hbox); have n2_ := aM ((by rw [hg]; exact (below_size (zb)) : w.heap.size ≤ gb263)); have n3_ := aM ((by rw [hg]; exact (below_size (zb)) : w.heap.size ≤ gb263)); clear HB; have HB := n0_; have BK263 := n1_; have GW263 := n2_; have GE263 := n3_; clear n0_ n1_ n2_ n3_; clear hb hbox hg) | ((with_reducible refine gate_dst (N := 3) rfl ?_); refine box_event ?hg (N := 3) ?hd (cs := #[.int .i64 a1_0, .int .i64 a1_1, .int .i64 a1_2, .int .i64 a1_3]) (t := 37) ?hr ?_; (case hd => rfl); (case hg => rfl); (case hr => exact zg); intro gb264 hg w6 hbox hb; have n0_ := aM (bb BK263.out hb); have n1_ := aM (below_step (zb) hb); have n2_ := aM (hbox); have n3_ := aM ((by rw [hg]; exact (below_size (zb)) : w.heap.size ≤ gb264)); have n4_ := aM ((by rw [hg]; exact (below_size (zb)) : w.heap.size ≤ gb264)); have n5_ := aM ((by rw [hg]; exact Nat.ne_of_lt (nl BK263.out) : gb263 ≠ gb264)); have n6_ := aM ((by rw [hg]; exact Nat.ne_of_gt (nl BK263.out) : gb264 ≠ gb263)); clear BK263; clear HB; have BK263 := n0_; have HB := n1_; have BK264 := n2_; have GW264 := n3_; have GE264 := n4_; have NB263_264 := n5_; have NB264_263 := n6_; clear n0_ n1_ n2_ n3_ n4_ n5_ n6_; clear hb hbox hg) | ((with_reducible refine gate_dst (N := 4) rfl ?_); refine box_event ?hg (N := 4) ?hd (cs := #[.int .i64 0, .int .i64 0, .bool false, .bool false, .bool false]) (t := 24) ?hr ?_; (case hd => rfl); (case hg => rfl); (case hr => exact zg); intro gb265 hg w7 hbox hb; have n0_ := aM (bb BK263.out hb); have n1_ := aM (bb BK264.out hb); have n2_ := aM (below_step (zb) hb); have n3_ := aM (hbox); have n4_ := aM ((by rw [hg]; exact (below_size (zb)) : w.heap.size ≤ gb265)); have n5_ := aM ((by rw [hg]; exact (below_size (zb)) : w.heap.size ≤ gb265)); have n6_ := aM ((by rw [hg]; exact Nat.ne_of_lt (nl BK263.out) : gb263 ≠ gb265)); have n7_ := aM ((by rw [hg]; exact Nat.ne_of_gt (nl BK263.out) : gb265 ≠ gb263)); have n8_ := aM ((by rw [hg]; exact Nat.ne_of_lt (nl BK264.out) : gb264 ≠ gb265)); have n9_ := aM ((by rw [hg]; exact Nat.ne_of_gt (nl BK264.out) : gb265 ≠ gb264)); clear BK263; clear BK264; clear HB; have BK263 := n0_; have BK264 := n1_; have HB := n2_; have BK265 := n3_; have GW265 := n4_; have GE265 := n5_; have NB263_265 := n6_; have NB265_263 := n7_; have NB264_265 := n8_; have NB265_264 := n9_; clear n0_ n1_ n2_ n3_ n4_ n5_ n6_ n7_ n8_ n9_; clear hb hbox hg; have hnb8 := NB263_264.out; have hnc8 := NB264_263.out; have hnb9 := NB263_265.out; have hnc9 := NB265_263.out; obtain ⟨hcz10_0, hcz10_1, hcz10_2, hcz10_3, hcz10_4, hfz10_0, hfz10_1, hfz10_2, hfz10_3, hfz10_4⟩ := cells5 BK263.out; have hnb11 := NB264_265.out; have hnc11 := NB265_264.out; obtain ⟨hcz12_0, hcz12_1, hcz12_2, hcz12_3, hfz12_0, hfz12_1, hfz12_2, hfz12_3⟩ := cells4 BK264.out) | ((with_reducible refine gate_callee (f := 36) rfl ?_); refine goesL_ (some 13) rfl rfl Try.func36 (by kernel_rfl) rfl #[.agg #[.int .i64 a0_0, .int .i64 a0_1, .bool a0_2, .bool a0_3, .bool a0_4], .agg #[.int .i64 a1_0, .int .i64 a1_1, .int .i64 a1_2, .int .i64 a1_3]] rfl za ?_; (with_reducible refine (impl_SignsOf.calls k a0_0 a0_1 a0_2 a0_3 a0_4 a1_0 a1_1 a1_2 a1_3 t266 t267 t268 t269 t270 _ A3.out).mono ?_); rintro e w13 ⟨rfl, hb⟩; refine ⟨_, rfl, ?_⟩; have n0_ := aM (bb BK263.out hb); have n1_ := aM (bb BK264.out hb); have n2_ := aM (bb BK265.out hb); have n3_ := aM (below_step (zb) hb); clear BK263; clear BK264; clear BK265; clear HB; have BK263 := n0_; have BK264 := n1_; have BK265 := n2_; have HB := n3_; clear n0_ n1_ n2_ n3_; (try clear hb); (try clear hb2); (try clear hk); (try clear hi)) | ((with_reducible refine gate_dst (N := 7) rfl ?_); refine box_event ?hg (N := 7) ?hd (cs := #[.bool false, .bool false, .bool false, .bool false]) (t := 50) ?hr ?_; (case hd => rfl); (case hg => rfl); (case hr => exact zg); intro gb271 hg w14 hbox hb; have n0_ := aM (bb BK263.out hb); have n1_ := aM (bb BK264.out hb); have n2_ := aM (bb BK265.out hb); have n3_ := aM (below_step (zb) hb); have n4_ := aM (hbox); have n5_ := aM ((by rw [hg]; exact (below_size (zb)) : w.heap.size ≤ gb271)); have n6_ := aM ((by rw [hg]; exact (below_size (zb)) : w.heap.size ≤ gb271)); have n7_ := aM ((by rw [hg]; exact Nat.ne_of_lt (nl BK263.out) : gb263 ≠ gb271)); have n8_ := aM ((by rw [hg]; exact Nat.ne_of_gt (nl BK263.out) : gb271 ≠ gb263)); have n9_ := aM ((by rw [hg]; exact Nat.ne_of_lt (nl BK264.out) : gb264 ≠ gb271)); have n10_ := aM ((by rw [hg]; exact Nat.ne_of_gt (nl BK264.out) : gb271 ≠ gb264)); have n11_ := aM ((by rw [hg]; exact Nat.ne_of_lt (nl BK265.out) : gb265 ≠ gb271)); have n12_ := aM ((by rw [hg]; exact Nat.ne_of_gt (nl BK265.out) : gb271 ≠ gb265)); clear BK263; clear BK264; clear BK265; clear HB; have BK263 := n0_; have BK264 := n1_; have BK265 := n2_; have HB := n3_; have BK271 := n4_; have GW271 := n5_; have GE271 := n6_; have NB263_271 := n7_; have NB271_263 := n8_; have NB264_271 := n9_; have NB271_264 := n10_; have NB265_271 := n11_; have NB271_265 := n12_; clear n0_ n1_ n2_ n3_ n4_ n5_ n6_ n7_ n8_ n9_ n10_ n11_ n12_; clear hb hbox hg; have hnb15 := NB271_263.out; have hnc15 := NB263_271.out; have hnb16 := NB271_264.out; have hnc16 := NB264_271.out; have hnb17 := NB271_265.out; have hnc17 := NB265_271.out; obtain ⟨hcz18_0, hcz18_1, hcz18_2, hcz18_3, hfz18_0, hfz18_1, hfz18_2, hfz18_3⟩ := cells4 BK271.out))
 (try simp only [Act.put, List.setIfInBounds_toArray, List.set_cons_zero, List.set_cons_succ])
 go_cut [27] (fun v27 wc => ∃ (kq : Nat) (x27_3 : Bool), v27 = .bool x27_3 ∧ Aside0 (impl_Recover.j0 kq x27_3 a0_0 a0_1 a0_2 a0_3 a0_4 t266 t267 t268 t269 = some (r1, r2, r3, r4, r5, r6, r7)) ∧ Aside0 (kq ≤ k) ∧ Aside0 (wc.heap[gb263]? = some (.cells #[.int .i64 a0_0, .int .i64 a0_1, .bool a0_2, .bool a0_3, .bool a0_4] 24 (0, 0))) ∧ Aside0 (wc.heap[gb264]? = some (.cells #[.int .i64 a1_0, .int .i64 a1_1, .int .i64 a1_2, .int .i64 a1_3] 37 (0, 0))) ∧ Aside0 (wc.heap[gb265]? = some (.cells #[.int .i64 0, .int .i64 0, .bool false, .bool false, .bool false] 24 (0, 0))) ∧ Aside0 (wc.heap[gb271]? = some (.cells #[.bool t266, .bool t267, .bool t268, .bool t269] 50 (0, 0))) ∧ Aside0 (Below w.heap.size w wc))
 case first =>
  have H := HC4.out
  clear HC4
  by_cases c19 : t270 = true
  ·subst c19
   have H1 : ((impl_isCut.f k a0_0 a0_1 a0_2 a0_3 a0_4).bind fun t272 => (if t272 = true then ((impl_CountFaults.f k a1_0 a1_1 a1_2 a1_3).bind fun t273 => (impl_Recover.j0 k (decide (t273 > 1)) a0_0 a0_1 a0_2 a0_3 a0_4 t266 t267 t268 t269)) else (impl_Recover.j0 k true a0_0 a0_1 a0_2 a0_3 a0_4 t266 t267 t268 t269))) = some (r1, r2, r3, r4, r5, r6, r7) := by rw [if_pos rfl] at H; exact H
   clear H
   have H := H1
   clear H1
   replace H := Option.bind_eq_some_iff.mp H
   obtain ⟨t272, A200, H⟩ := H
   replace H : (if t272 = true then ((impl_CountFaults.f k a1_0 a1_1 a1_2 a1_3).bind fun t273 => (impl_Recover.j0 k (decide (t273 > 1)) a0_0 a0_1 a0_2 a0_3 a0_4 t266 t267 t268 t269)) else (impl_Recover.j0 k true a0_0 a0_1 a0_2 a0_3 a0_4 t266 t267 t268 t269)) = some (r1, r2, r3, r4, r5, r6, r7) := H
   have A20 := aM A200
   clear A200
   by_cases c21 : t272 = true
   ·subst c21
    have H1 : ((impl_CountFaults.f k a1_0 a1_1 a1_2 a1_3).bind fun t273 => (impl_Recover.j0 k (decide (t273 > 1)) a0_0 a0_1 a0_2 a0_3 a0_4 t266 t267 t268 t269)) = some (r1, r2, r3, r4, r5, r6, r7) := by rw [if_pos rfl] at H; exact H
    clear H
    have H := H1
    clear H1
    replace H := Option.bind_eq_some_iff.mp H
    obtain ⟨t273, A220, H⟩ := H
    replace H : (impl_Recover.j0 k (decide (t273 > 1)) a0_0 a0_1 a0_2 a0_3 a0_4 t266 t267 t268 t269) = some (r1, r2, r3, r4, r5, r6, r7) := H
    have A22 := aM A220
    clear A220
    have H' := aM H
    clear H
    have hnb23 := NB263_264.out
    have hnc23 := NB264_263.out
    have hnb24 := NB263_265.out
    have hnc24 := NB265_263.out
    have hnb25 := NB263_271.out
    have hnc25 := NB271_263.out
    obtain ⟨hcz26_0, hcz26_1, hcz26_2, hcz26_3, hcz26_4, hfz26_0, hfz26_1, hfz26_2, hfz26_3, hfz26_4⟩ := cells5 BK263.out
    go_wp2_with (first | (go_at_call 54; (with_reducible refine (impl_isCut.calls k a0_0 a0_1 a0_2 a0_3 a0_4 true _ A20.out).mono ?_); rintro e w27 ⟨rfl, hb⟩; have n0_ := aM (blk_below (g := gb263) (o := .cells #[.int .i64 a0_0, .int .i64 a0_1, .bool a0_2, .bool a0_3, .bool a0_4] 24 (0, 0)) (by refine pq ?_; refine blk_far ?_ NB263_271.out _; refine pq ?_; refine blk_far ?_ NB263_271.out _; refine pq ?_; refine blk_far ?_ NB263_271.out _; refine pq ?_; refine blk_far ?_ NB263_271.out _; refine pq ?_; exact BK263.out) hb); have n1_ := aM (blk_below (g := gb264) (o := .cells #[.int .i64 a1_0, .int .i64 a1_1, .int .i64 a1_2, .int .i64 a1_3] 37 (0, 0)) (by refine pq ?_; refine blk_far ?_ NB264_271.out _; refine pq ?_; refine blk_far ?_ NB264_271.out _; refine pq ?_; refine blk_far ?_ NB264_271.out _; refine pq ?_; refine blk_far ?_ NB264_271.out _; refine pq ?_; exact BK264.out) hb); have n2_ := aM (blk_below (g := gb265) (o := .cells #[.int .i64 0, .int .i64 0, .bool false, .bool false, .bool false] 24 (0, 0)) (by refine pq ?_; refine blk_far ?_ NB265_271.out _; refine pq ?_; refine blk_far ?_ NB265_271.out _; refine pq ?_; refine blk_far ?_ NB265_271.out _; refine pq ?_; refine blk_far ?_ NB265_271.out _; refine pq ?_; exact BK265.out) hb); have n3_ := aM (blk_below (g := gb271) (o := .cells #[.bool t266, .bool t267, .bool t268, .bool t269] 50 (0, 0)) (by refine pq ?_; refine blk_put (cs := #[.bool t266, .bool t267, .bool t268, .bool false]) ?_ 3 _ rfl; refine pq ?_; refine blk_put (cs := #[.bool t266, .bool t267, .bool false, .bool false]) ?_ 2 _ rfl; refine pq ?_; refine blk_put (cs := #[.bool t266, .bool false, .bool false, .bool false]) ?_ 1 _ rfl; refine pq ?_; refine blk_put (cs := #[.bool false, .bool false, .bool false, .bool false]) ?_ 0 _ rfl; refine pq ?_; exact BK271.out) hb); have n4_ := aM (below_step (zb) hb); clear BK263; clear BK264; clear BK265; clear BK271; clear HB; have BK263 := n0_; have BK264 := n1_; have BK265 := n2_; have BK271 := n3_; have HB := n4_; clear n0_ n1_ n2_ n3_ n4_; (try clear hb); (try clear hb2); (try clear hk); (try clear hi); have hnb28 := NB264_265.out; have hnc28 := NB265_264.out; have hnb29 := NB264_271.out; have hnc29 := NB271_264.out; obtain ⟨hcz30_0, hcz30_1, hcz30_2, hcz30_3, hfz30_0, hfz30_1, hfz30_2, hfz30_3⟩ := cells4 BK264.out) | (go_at_call 38; (with_reducible refine (impl_CountFaults.calls k a1_0 a1_1 a1_2 a1_3 t273 _ A22.out).mono ?_); rintro e w31 ⟨rfl, hb⟩; have n0_ := aM (bb BK263.out hb); have n1_ := aM (bb BK264.out hb); have n2_ := aM (bb BK265.out hb); have n3_ := aM (bb BK271.out hb); have n4_ := aM (below_step (zb) hb); clear BK263; clear BK264; clear BK265; clear BK271; clear HB; have BK263 := n0_; have BK264 := n1_; have BK265 := n2_; have BK271 := n3_; have HB := n4_; clear n0_ n1_ n2_ n3_ n4_; (try clear hb); (try clear hb2); (try clear hk); (try clear hi)))
    go_meet
    case rel => exact ⟨_, (decide (t273 > 1)), zs, H', ⟨by first | omega | exact Nat.le_refl _⟩, ⟨by exact pk BK263.out⟩, ⟨by exact pk BK264.out⟩, ⟨by exact pk BK265.out⟩, ⟨by exact pk BK271.out⟩, ⟨zb⟩⟩
   ·replace c21 := Bool.eq_false_iff.mpr c21
    subst c21
    have H1 : (impl_Recover.j0 k true a0_0 a0_1 a0_2 a0_3 a0_4 t266 t267 t268 t269) = some (r1, r2, r3, r4, r5, r6, r7) := by rw [if_neg (show ¬ (false = true) by decide)] at H; exact H
    clear H
    have H := H1
    clear H1
    have H' := aM H
    clear H
    have hnb32 := NB263_264.out
    have hnc32 := NB264_263.out
    have hnb33 := NB263_265.out
    have hnc33 := NB265_263.out
    have hnb34 := NB263_271.out
    have hnc34 := NB271_263.out
    obtain ⟨hcz35_0, hcz35_1, hcz35_2, hcz35_3, hcz35_4, hfz35_0, hfz35_1, hfz35_2, hfz35_3, hfz35_4⟩ := cells5 BK263.out
    go_wp2_with (first | (go_at_call 54; (with_reducible refine (impl_isCut.calls k a0_0 a0_1 a0_2 a0_3 a0_4 false _ A20.out).mono ?_); rintro e w36 ⟨rfl, hb⟩; have n0_ := aM (blk_below (g := gb263) (o := .cells #[.int .i64 a0_0, .int .i64 a0_1, .bool a0_2, .bool a0_3, .bool a0_4] 24 (0, 0)) (by refine pq ?_; refine blk_far ?_ NB263_271.out _; refine pq ?_; refine blk_far ?_ NB263_271.out _; refine pq ?_; refine blk_far ?_ NB263_271.out _; refine pq ?_; refine blk_far ?_ NB263_271.out _; refine pq ?_; exact BK263.out) hb); have n1_ := aM (blk_below (g := gb264) (o := .cells #[.int .i64 a1_0, .int .i64 a1_1, .int .i64 a1_2, .int .i64 a1_3] 37 (0, 0)) (by refine pq ?_; refine blk_far ?_ NB264_271.out _; refine pq ?_; refine blk_far ?_ NB264_271.out _; refine pq ?_; refine blk_far ?_ NB264_271.out _; refine pq ?_; refine blk_far ?_ NB264_271.out _; refine pq ?_; exact BK264.out) hb); have n2_ := aM (blk_below (g := gb265) (o := .cells #[.int .i64 0, .int .i64 0, .bool false, .bool false, .bool false] 24 (0, 0)) (by refine pq ?_; refine blk_far ?_ NB265_271.out _; refine pq ?_; refine blk_far ?_ NB265_271.out _; refine pq ?_; refine blk_far ?_ NB265_271.out _; refine pq ?_; refine blk_far ?_ NB265_271.out _; refine pq ?_; exact BK265.out) hb); have n3_ := aM (blk_below (g := gb271) (o := .cells #[.bool t266, .bool t267, .bool t268, .bool t269] 50 (0, 0)) (by refine pq ?_; refine blk_put (cs := #[.bool t266, .bool t267, .bool t268, .bool false]) ?_ 3 _ rfl; refine pq ?_; refine blk_put (cs := #[.bool t266, .bool t267, .bool false, .bool false]) ?_ 2 _ rfl; refine pq ?_; refine blk_put (cs := #[.bool t266, .bool false, .bool false, .bool false]) ?_ 1 _ rfl; refine pq ?_; refine blk_put (cs := #[.bool false, .bool false, .bool false, .bool false]) ?_ 0 _ rfl; refine pq ?_; exact BK271.out) hb); have n4_ := aM (below_step (zb) hb); clear BK263; clear BK264; clear BK265; clear BK271; clear HB; have BK263 := n0_; have BK264 := n1_; have BK265 := n2_; have BK271 := n3_; have HB := n4_; clear n0_ n1_ n2_ n3_ n4_; (try clear hb); (try clear hb2); (try clear hk); (try clear hi)))
    go_meet
    case rel => exact ⟨_, (true), zs, H', ⟨by first | omega | exact Nat.le_refl _⟩, ⟨by exact pk BK263.out⟩, ⟨by exact pk BK264.out⟩, ⟨by exact pk BK265.out⟩, ⟨by exact pk BK271.out⟩, ⟨zb⟩⟩
  ·replace c19 := Bool.eq_false_iff.mpr c19
   subst c19
   have H1 : (impl_Recover.j0 k true a0_0 a0_1 a0_2 a0_3 a0_4 t266 t267 t268 t269) = some (r1, r2, r3, r4, r5, r6, r7) := by rw [if_neg (show ¬ (false = true) by decide)] at H; exact H
   clear H
   have H := H1
   clear H1
   have H' := aM H
   clear H
   go_wp2
   go_meet
   case rel => exact ⟨_, (true), zs, H', ⟨by first | omega | exact Nat.le_refl _⟩, ⟨by refine pq ?_; refine blk_far ?_ NB263_271.out _; refine pq ?_; refine blk_far ?_ NB263_271.out _; refine pq ?_; refine blk_far ?_ NB263_271.out _; refine pq ?_; refine blk_far ?_ NB263_271.out _; refine pq ?_; exact BK263.out⟩, ⟨by refine pq ?_; refine blk_far ?_ NB264_271.out _; refine pq ?_; refine blk_far ?_ NB264_271.out _; refine pq ?_; refine blk_far ?_ NB264_271.out _; refine pq ?_; refine blk_far ?_ NB264_271.out _; refine pq ?_; exact BK264.out⟩, ⟨by refine pq ?_; refine blk_far ?_ NB265_271.out _; refine pq ?_; refine blk_far ?_ NB265_271.out _; refine pq ?_; refine blk_far ?_ NB265_271.out _; refine pq ?_; refine blk_far ?_ NB265_271.out _; refine pq ?_; exact BK265.out⟩, ⟨by refine pq ?_; refine blk_put (cs := #[.bool t266, .bool t267, .bool t268, .bool false]) ?_ 3 _ rfl; refine pq ?_; refine blk_put (cs := #[.bool t266, .bool t267, .bool false, .bool false]) ?_ 2 _ rfl; refine pq ?_; refine blk_put (cs := #[.bool t266, .bool false, .bool false, .bool false]) ?_ 1 _ rfl; refine pq ?_; refine blk_put (cs := #[.bool false, .bool false, .bool false, .bool false]) ?_ 0 _ rfl; refine pq ?_; exact BK271.out⟩, ⟨zb⟩⟩
 case rest =>
  clear HC4
  try clear c1
  try clear c2
  try clear p2
  try clear c3
  try clear c8
  try clear c9
  try clear c11
  try clear c15
  try clear c16
  try clear c17
  try clear c19
  try clear c21
  try clear c23
  try clear c24
  try clear c25
  try clear c28
  try clear c29
  try clear c32
  try clear c33
  try clear c34
  try clear c36
  try clear hcz10_0 hcz10_1 hcz10_2 hcz10_3 hcz10_4 hfz10_0 hfz10_1 hfz10_2 hfz10_3 hfz10_4
  try clear hcz12_0 hcz12_1 hcz12_2 hcz12_3 hfz12_0 hfz12_1 hfz12_2 hfz12_3
  try clear hcz18_0 hcz18_1 hcz18_2 hcz18_3 hfz18_0 hfz18_1 hfz18_2 hfz18_3
  try clear hcz26_0 hcz26_1 hcz26_2 hcz26_3 hcz26_4 hfz26_0 hfz26_1 hfz26_2 hfz26_3 hfz26_4
  try clear hcz30_0 hcz30_1 hcz30_2 hcz30_3 hfz30_0 hfz30_1 hfz30_2 hfz30_3
  try clear hcz35_0 hcz35_1 hcz35_2 hcz35_3 hcz35_4 hfz35_0 hfz35_1 hfz35_2 hfz35_3 hfz35_4
  obtain ⟨kq, x27_3, rfl, HA, HJ3, BK263, BK264, BK265, BK271, HB⟩ := hcut
  cases kq with
  | zero => exact absurd HA.out (by simp [impl_Recover.j0])
  | succ kj3 =>
   have H := HA.out
   clear HA
   simp only [impl_Recover.j0] at H
   by_cases c37 : x27_3 = true
   ·subst c37
    have H1 : (some (a0_0, a0_1, a0_2, a0_3, a0_4, 0, false)) = some (r1, r2, r3, r4, r5, r6, r7) := by rw [if_pos rfl] at H; exact H
    clear H
    have H := H1
    clear H1
    simp only [Option.some.injEq, Prod.mk.injEq] at H
    obtain ⟨rfl, rfl, rfl, rfl, rfl, rfl, rfl⟩ := H
    have hnb38 := NB263_264.out
    have hnc38 := NB264_263.out
    have hnb39 := NB263_265.out
    have hnc39 := NB265_263.out
    have hnb40 := NB263_271.out
    have hnc40 := NB271_263.out
    obtain ⟨hcz41_0, hcz41_1, hcz41_2, hcz41_3, hcz41_4, hfz41_0, hfz41_1, hfz41_2, hfz41_3, hfz41_4⟩ := cells5 BK263.out
    have hnb42 := NB265_264.out
    have hnc42 := NB264_265.out
    have hnb43 := NB265_271.out
    have hnc43 := NB271_265.out
    obtain ⟨hcz44_0, hcz44_1, hcz44_2, hcz44_3, hcz44_4, hfz44_0, hfz44_1, hfz44_2, hfz44_3, hfz44_4⟩ := cells5 BK265.out
    go_wp2
    refine bodyPost_ret (results_ctt rfl _ _ gb265 24 #[.int .i64 a0_0, .int .i64 a0_1, .bool a0_2, .bool a0_3, .bool a0_4] (0, 0) _ rfl (by refine pq ?_; refine blk_put (cs := #[.int .i64 a0_0, .int .i64 a0_1, .bool a0_2, .bool a0_3, .bool false]) ?_ 4 _ rfl; refine pq ?_; refine blk_put (cs := #[.int .i64 a0_0, .int .i64 a0_1, .bool a0_2, .bool false, .bool false]) ?_ 3 _ rfl; refine pq ?_; refine blk_put (cs := #[.int .i64 a0_0, .int .i64 a0_1, .bool false, .bool false, .bool false]) ?_ 2 _ rfl; refine pq ?_; refine blk_put (cs := #[.int .i64 a0_0, .int .i64 0, .bool false, .bool false, .bool false]) ?_ 1 _ rfl; refine pq ?_; refine blk_put (cs := #[.int .i64 0, .int .i64 0, .bool false, .bool false, .bool false]) ?_ 0 _ rfl; refine pq ?_; exact BK265.out) Try.underlying24 rfl (by kernel_rfl)) rfl ?_
    exact ⟨zr, zb⟩
   ·replace c37 := Bool.eq_false_iff.mpr c37
    subst c37
    have H1 : ((impl_Verdict.f kj3 a0_0 t266 t267 t268 t269).bind fun t274 => (if t274 = 3 then (some (0, a0_1, false, a0_3, a0_4, t274, true)) else (if t274 = 4 then (some (0, a0_1, false, a0_3, a0_4, t274, true)) else (some (a0_0, a0_1, a0_2, a0_3, a0_4, t274, true))))) = some (r1, r2, r3, r4, r5, r6, r7) := by rw [if_neg (show ¬ (false = true) by decide)] at H; exact H
    clear H
    have H := H1
    clear H1
    replace H := Option.bind_eq_some_iff.mp H
    obtain ⟨t274, A450, H⟩ := H
    replace H : (if t274 = 3 then (some (0, a0_1, false, a0_3, a0_4, t274, true)) else (if t274 = 4 then (some (0, a0_1, false, a0_3, a0_4, t274, true)) else (some (a0_0, a0_1, a0_2, a0_3, a0_4, t274, true)))) = some (r1, r2, r3, r4, r5, r6, r7) := H
    have A45 := aM A450
    clear A450
    by_cases c46 : t274 = 3
    ·rw [if_pos c46] at H
     have c46b0 : (t274 == 3) = true := beq_iff_eq.mpr c46
     have c46b1 : (t274 != 3) = false := bne_eq_false_iff_eq.mpr c46
     clear c46
     simp only [Option.some.injEq, Prod.mk.injEq] at H
     obtain ⟨rfl, rfl, rfl, rfl, rfl, rfl, rfl⟩ := H
     have hnb47 := NB263_264.out
     have hnc47 := NB264_263.out
     have hnb48 := NB263_265.out
     have hnc48 := NB265_263.out
     have hnb49 := NB263_271.out
     have hnc49 := NB271_263.out
     obtain ⟨hcz50_0, hcz50_1, hcz50_2, hcz50_3, hcz50_4, hfz50_0, hfz50_1, hfz50_2, hfz50_3, hfz50_4⟩ := cells5 BK263.out
     have hnb51 := NB271_264.out
     have hnc51 := NB264_271.out
     have hnb52 := NB271_265.out
     have hnc52 := NB265_271.out
     obtain ⟨hcz53_0, hcz53_1, hcz53_2, hcz53_3, hfz53_0, hfz53_1, hfz53_2, hfz53_3⟩ := cells4 BK271.out
     go_wp2_with (first | ((with_reducible refine gate_callee (f := 37) rfl ?_); refine goesL_ (some 32) rfl rfl Try.func37 (by kernel_rfl) rfl #[.int .i64 a0_0, .agg #[.bool t266, .bool t267, .bool t268, .bool t269]] rfl za ?_; (with_reducible refine (impl_Verdict.calls kj3 a0_0 t266 t267 t268 t269 t274 _ A45.out).mono ?_); rintro e w54 ⟨rfl, hb⟩; refine ⟨_, rfl, ?_⟩; have n0_ := aM (bb BK263.out hb); have n1_ := aM (bb BK264.out hb); have n2_ := aM (bb BK265.out hb); have n3_ := aM (bb BK271.out hb); have n4_ := aM (below_step (zb) hb); clear BK263; clear BK264; clear BK265; clear BK271; clear HB; have BK263 := n0_; have BK264 := n1_; have BK265 := n2_; have BK271 := n3_; have HB := n4_; clear n0_ n1_ n2_ n3_ n4_; (try clear hb); (try clear hb2); (try clear hk); (try clear hi); obtain ⟨hcz55_0, hcz55_1, hcz55_2, hcz55_3, hcz55_4, hfz55_0, hfz55_1, hfz55_2, hfz55_3, hfz55_4⟩ := cells5 BK263.out; have hnb56 := NB265_264.out; have hnc56 := NB264_265.out; obtain ⟨hcz57_0, hcz57_1, hcz57_2, hcz57_3, hcz57_4, hfz57_0, hfz57_1, hfz57_2, hfz57_3, hfz57_4⟩ := cells5 BK265.out))
     refine bodyPost_ret (results_ctt rfl _ _ gb265 24 #[.int .i64 0, .int .i64 a0_1, .bool false, .bool a0_3, .bool a0_4] (0, 0) _ rfl (by refine pq ?_; refine blk_put (cs := #[.int .i64 0, .int .i64 a0_1, .bool false, .bool a0_3, .bool false]) ?_ 4 _ rfl; refine pq ?_; refine blk_put (cs := #[.int .i64 0, .int .i64 a0_1, .bool false, .bool false, .bool false]) ?_ 3 _ rfl; refine pq ?_; refine blk_put (cs := #[.int .i64 0, .int .i64 a0_1, .bool false, .bool false, .bool false]) ?_ 2 _ rfl; refine pq ?_; refine blk_put (cs := #[.int .i64 0, .int .i64 0, .bool false, .bool false, .bool false]) ?_ 1 _ rfl; refine pq ?_; refine blk_put (cs := #[.int .i64 0, .int .i64 0, .bool false, .bool false, .bool false]) ?_ 0 _ rfl; refine pq ?_; refine blk_far ?_ NB265_263.out _; refine pq ?_; refine blk_far ?_ NB265_263.out _; refine pq ?_; exact BK265.out) Try.underlying24 rfl (by kernel_rfl)) rfl ?_
     exact ⟨zr, zb⟩
    ·rw [if_neg c46] at H
     have c46b0 : (t274 == 3) = false := beq_eq_false_iff_ne.mpr c46
     have c46b1 : (t274 != 3) = true := bne_iff_ne.mpr c46
     by_cases c58 : t274 = 4
     ·rw [if_pos c58] at H
      have c58b0 : (t274 == 4) = true := beq_iff_eq.mpr c58
      have c58b1 : (t274 != 4) = false := bne_eq_false_iff_eq.mpr c58
      clear c58
      simp only [Option.some.injEq, Prod.mk.injEq] at H
      obtain ⟨rfl, rfl, rfl, rfl, rfl, rfl, rfl⟩ := H
      have hnb59 := NB263_264.out
      have hnc59 := NB264_263.out
      have hnb60 := NB263_265.out
      have hnc60 := NB265_263.out
      have hnb61 := NB263_271.out
      have hnc61 := NB271_263.out
      obtain ⟨hcz62_0, hcz62_1, hcz62_2, hcz62_3, hcz62_4, hfz62_0, hfz62_1, hfz62_2, hfz62_3, hfz62_4⟩ := cells5 BK263.out
      have hnb63 := NB271_264.out
      have hnc63 := NB264_271.out
      have hnb64 := NB271_265.out
      have hnc64 := NB265_271.out
      obtain ⟨hcz65_0, hcz65_1, hcz65_2, hcz65_3, hfz65_0, hfz65_1, hfz65_2, hfz65_3⟩ := cells4 BK271.out
      go_wp2_with (first | ((with_reducible refine gate_callee (f := 37) rfl ?_); refine goesL_ (some 32) rfl rfl Try.func37 (by kernel_rfl) rfl #[.int .i64 a0_0, .agg #[.bool t266, .bool t267, .bool t268, .bool t269]] rfl za ?_; (with_reducible refine (impl_Verdict.calls kj3 a0_0 t266 t267 t268 t269 t274 _ A45.out).mono ?_); rintro e w66 ⟨rfl, hb⟩; refine ⟨_, rfl, ?_⟩; have n0_ := aM (bb BK263.out hb); have n1_ := aM (bb BK264.out hb); have n2_ := aM (bb BK265.out hb); have n3_ := aM (bb BK271.out hb); have n4_ := aM (below_step (zb) hb); clear BK263; clear BK264; clear BK265; clear BK271; clear HB; have BK263 := n0_; have BK264 := n1_; have BK265 := n2_; have BK271 := n3_; have HB := n4_; clear n0_ n1_ n2_ n3_ n4_; (try clear hb); (try clear hb2); (try clear hk); (try clear hi); obtain ⟨hcz67_0, hcz67_1, hcz67_2, hcz67_3, hcz67_4, hfz67_0, hfz67_1, hfz67_2, hfz67_3, hfz67_4⟩ := cells5 BK263.out; have hnb68 := NB265_264.out; have hnc68 := NB264_265.out; obtain ⟨hcz69_0, hcz69_1, hcz69_2, hcz69_3, hcz69_4, hfz69_0, hfz69_1, hfz69_2, hfz69_3, hfz69_4⟩ := cells5 BK265.out))
      refine bodyPost_ret (results_ctt rfl _ _ gb265 24 #[.int .i64 0, .int .i64 a0_1, .bool false, .bool a0_3, .bool a0_4] (0, 0) _ rfl (by refine pq ?_; refine blk_put (cs := #[.int .i64 0, .int .i64 a0_1, .bool false, .bool a0_3, .bool false]) ?_ 4 _ rfl; refine pq ?_; refine blk_put (cs := #[.int .i64 0, .int .i64 a0_1, .bool false, .bool false, .bool false]) ?_ 3 _ rfl; refine pq ?_; refine blk_put (cs := #[.int .i64 0, .int .i64 a0_1, .bool false, .bool false, .bool false]) ?_ 2 _ rfl; refine pq ?_; refine blk_put (cs := #[.int .i64 0, .int .i64 0, .bool false, .bool false, .bool false]) ?_ 1 _ rfl; refine pq ?_; refine blk_put (cs := #[.int .i64 0, .int .i64 0, .bool false, .bool false, .bool false]) ?_ 0 _ rfl; refine pq ?_; refine blk_far ?_ NB265_263.out _; refine pq ?_; refine blk_far ?_ NB265_263.out _; refine pq ?_; exact BK265.out) Try.underlying24 rfl (by kernel_rfl)) rfl ?_
      exact ⟨zr, zb⟩
     ·rw [if_neg c58] at H
      have c58b0 : (t274 == 4) = false := beq_eq_false_iff_ne.mpr c58
      have c58b1 : (t274 != 4) = true := bne_iff_ne.mpr c58
      simp only [Option.some.injEq, Prod.mk.injEq] at H
      obtain ⟨rfl, rfl, rfl, rfl, rfl, rfl, rfl⟩ := H
      have hnb70 := NB263_264.out
      have hnc70 := NB264_263.out
      have hnb71 := NB263_265.out
      have hnc71 := NB265_263.out
      have hnb72 := NB263_271.out
      have hnc72 := NB271_263.out
      obtain ⟨hcz73_0, hcz73_1, hcz73_2, hcz73_3, hcz73_4, hfz73_0, hfz73_1, hfz73_2, hfz73_3, hfz73_4⟩ := cells5 BK263.out
      have hnb74 := NB271_264.out
      have hnc74 := NB264_271.out
      have hnb75 := NB271_265.out
      have hnc75 := NB265_271.out
      obtain ⟨hcz76_0, hcz76_1, hcz76_2, hcz76_3, hfz76_0, hfz76_1, hfz76_2, hfz76_3⟩ := cells4 BK271.out
      go_wp2_with (first | ((with_reducible refine gate_callee (f := 37) rfl ?_); refine goesL_ (some 32) rfl rfl Try.func37 (by kernel_rfl) rfl #[.int .i64 a0_0, .agg #[.bool t266, .bool t267, .bool t268, .bool t269]] rfl za ?_; (with_reducible refine (impl_Verdict.calls kj3 a0_0 t266 t267 t268 t269 t274 _ A45.out).mono ?_); rintro e w77 ⟨rfl, hb⟩; refine ⟨_, rfl, ?_⟩; have n0_ := aM (bb BK263.out hb); have n1_ := aM (bb BK264.out hb); have n2_ := aM (bb BK265.out hb); have n3_ := aM (bb BK271.out hb); have n4_ := aM (below_step (zb) hb); clear BK263; clear BK264; clear BK265; clear BK271; clear HB; have BK263 := n0_; have BK264 := n1_; have BK265 := n2_; have BK271 := n3_; have HB := n4_; clear n0_ n1_ n2_ n3_ n4_; (try clear hb); (try clear hb2); (try clear hk); (try clear hi); obtain ⟨hcz78_0, hcz78_1, hcz78_2, hcz78_3, hcz78_4, hfz78_0, hfz78_1, hfz78_2, hfz78_3, hfz78_4⟩ := cells5 BK263.out; have hnb79 := NB265_264.out; have hnc79 := NB264_265.out; obtain ⟨hcz80_0, hcz80_1, hcz80_2, hcz80_3, hcz80_4, hfz80_0, hfz80_1, hfz80_2, hfz80_3, hfz80_4⟩ := cells5 BK265.out))
      refine bodyPost_ret (results_ctt rfl _ _ gb265 24 #[.int .i64 a0_0, .int .i64 a0_1, .bool a0_2, .bool a0_3, .bool a0_4] (0, 0) _ rfl (by refine pq ?_; refine blk_put (cs := #[.int .i64 a0_0, .int .i64 a0_1, .bool a0_2, .bool a0_3, .bool false]) ?_ 4 _ rfl; refine pq ?_; refine blk_put (cs := #[.int .i64 a0_0, .int .i64 a0_1, .bool a0_2, .bool false, .bool false]) ?_ 3 _ rfl; refine pq ?_; refine blk_put (cs := #[.int .i64 a0_0, .int .i64 a0_1, .bool false, .bool false, .bool false]) ?_ 2 _ rfl; refine pq ?_; refine blk_put (cs := #[.int .i64 a0_0, .int .i64 0, .bool false, .bool false, .bool false]) ?_ 1 _ rfl; refine pq ?_; refine blk_put (cs := #[.int .i64 0, .int .i64 0, .bool false, .bool false, .bool false]) ?_ 0 _ rfl; refine pq ?_; exact BK265.out) Try.underlying24 rfl (by kernel_rfl)) rfl ?_
      exact ⟨zr, zb⟩

/-! ### impl_BeginDoor: function 28 -/
def impl_BeginDoor.j0 : Nat → Int → Bool → Int → Int → Bool → Bool → Bool → Option (Int × Int × Bool × Bool × Bool × Bool)
 | 0, _, _, _, _, _, _, _ => none
 | k + 1, x1, x31, x276000, x276001, x276002, x276003, x276004 => if x31 = true then (some (x276000, x276001, x276002, x276003, x276004, false)) else (some (x1, 1, x276002, x276003, x276004, true))
def impl_BeginDoor.f (k : Nat) (a0_0 : Int) (a0_1 : Int) (a0_2 : Bool) (a0_3 : Bool) (a0_4 : Bool) (a1 : Int) : Option (Int × Int × Bool × Bool × Bool × Bool) := (impl_DoorOk.f k a0_0 a0_1 a0_2 a0_3 a0_4).bind fun t277 => (if t277 = true then (if a0_0 = 0 then (if a1 = 1 then (if a0_4 = true then (if a1 = 2 then (impl_BeginDoor.j0 k a1 (!a0_4) a0_0 a0_1 a0_2 a0_3 a0_4) else (impl_BeginDoor.j0 k a1 (!false) a0_0 a0_1 a0_2 a0_3 a0_4)) else (impl_BeginDoor.j0 k a1 (!true) a0_0 a0_1 a0_2 a0_3 a0_4)) else (if a1 = 2 then (impl_BeginDoor.j0 k a1 (!a0_4) a0_0 a0_1 a0_2 a0_3 a0_4) else (impl_BeginDoor.j0 k a1 (!false) a0_0 a0_1 a0_2 a0_3 a0_4))) else (impl_BeginDoor.j0 k a1 true a0_0 a0_1 a0_2 a0_3 a0_4)) else (impl_BeginDoor.j0 k a1 true a0_0 a0_1 a0_2 a0_3 a0_4))
theorem impl_BeginDoor.mono_l : ∀ k, (∀ y0 y1 y2 y3 y4 y5 y6, LeO (impl_BeginDoor.j0 k y0 y1 y2 y3 y4 y5 y6) (impl_BeginDoor.j0 (k + 1) y0 y1 y2 y3 y4 y5 y6))
 | 0 => fun _ _ _ _ _ _ _ r h => by simp [impl_BeginDoor.j0] at h
 | k + 1 => by
  have ih0 := impl_BeginDoor.mono_l k
  ·intro y0 y1 y2 y3 y4 y5 y6
   unfold impl_BeginDoor.j0
   repeat' first
   | (with_reducible exact ih0 _ _ _ _ _ _ _)
   | (with_reducible exact impl_DoorOk.mono _ _ _ _ _ _)
   | (with_reducible exact LeO.refl _)
   | (with_reducible exact LeO.none _)
   | (with_reducible refine LeO.ite ?_ ?_)
   | (with_reducible refine LeO.bind ?_ (fun _ => ?_))
   | exact ih0 _ _ _ _ _ _ _
   | exact impl_DoorOk.mono _ _ _ _ _ _
   | exact LeO.none _
   | refine LeO.ite ?_ ?_
   | refine LeO.bind ?_ (fun _ => ?_)
theorem impl_BeginDoor.mono : ∀ a0 a1 a2 a3 a4 a5 k, LeO (impl_BeginDoor.f k a0 a1 a2 a3 a4 a5) (impl_BeginDoor.f (k + 1) a0 a1 a2 a3 a4 a5) := by
 intro a0 a1 a2 a3 a4 a5 k
 have ih0 := impl_BeginDoor.mono_l k
 unfold impl_BeginDoor.f
 repeat' first
   | (with_reducible exact ih0 _ _ _ _ _ _ _)
   | (with_reducible exact impl_DoorOk.mono _ _ _ _ _ _)
   | (with_reducible exact LeO.refl _)
   | (with_reducible exact LeO.none _)
   | (with_reducible refine LeO.ite ?_ ?_)
   | (with_reducible refine LeO.bind ?_ (fun _ => ?_))
   | exact ih0 _ _ _ _ _ _ _
   | exact impl_DoorOk.mono _ _ _ _ _ _
   | exact LeO.none _
   | refine LeO.ite ?_ ?_
   | refine LeO.bind ?_ (fun _ => ?_)
set_option maxHeartbeats 8000000 in
set_option maxRecDepth 100000 in
theorem impl_BeginDoor.calls (k : Nat) (a0_0 : Int) (a0_1 : Int) (a0_2 : Bool) (a0_3 : Bool) (a0_4 : Bool) (a1 : Int) (r1 : Int) (r2 : Int) (r3 : Bool) (r4 : Bool) (r5 : Bool) (r6 : Bool) (w : World) (h : impl_BeginDoor.f k a0_0 a0_1 a0_2 a0_3 a0_4 a1 = some (r1, r2, r3, r4, r5, r6)) :
  Calls Try.prog 28 #[.agg #[.int .i64 a0_0, .int .i64 a0_1, .bool a0_2, .bool a0_3, .bool a0_4], .int .i64 a1] w fun e w' => e = .returned (.tuple #[.agg #[.int .i64 r1, .int .i64 r2, .bool r3, .bool r4, .bool r5], .bool r6]) ∧ Below w.heap.size w w' := by
 have hu24 := Try.underlying24
 have HB := aM (Below.refl w.heap.size w)
 have H : ((impl_DoorOk.f k a0_0 a0_1 a0_2 a0_3 a0_4).bind fun t277 => (if t277 = true then (if a0_0 = 0 then (if a1 = 1 then (if a0_4 = true then (if a1 = 2 then (impl_BeginDoor.j0 k a1 (!a0_4) a0_0 a0_1 a0_2 a0_3 a0_4) else (impl_BeginDoor.j0 k a1 (!false) a0_0 a0_1 a0_2 a0_3 a0_4)) else (impl_BeginDoor.j0 k a1 (!true) a0_0 a0_1 a0_2 a0_3 a0_4)) else (if a1 = 2 then (impl_BeginDoor.j0 k a1 (!a0_4) a0_0 a0_1 a0_2 a0_3 a0_4) else (impl_BeginDoor.j0 k a1 (!false) a0_0 a0_1 a0_2 a0_3 a0_4))) else (impl_BeginDoor.j0 k a1 true a0_0 a0_1 a0_2 a0_3 a0_4)) else (impl_BeginDoor.j0 k a1 true a0_0 a0_1 a0_2 a0_3 a0_4))) = some (r1, r2, r3, r4, r5, r6) := h
 clear h
 have HC3 := aM H
 clear H
 go_enter Try.func28, Try.ntmps28
 go_upto_region 1 with (first | ((with_reducible refine gate_dst (N := 2) rfl ?_); refine box_event ?hg (N := 2) ?hd (cs := #[.int .i64 a0_0, .int .i64 a0_1, .bool a0_2, .bool a0_3, .bool a0_4]) (t := 24) ?hr ?_; (case hd => rfl); (case hg => rfl); (case hr => exact zg); intro gb275 hg w4 hbox hb; have n0_ := aM (below_step (zb) hb); have n1_ := aM (hbox); have n2_ := aM ((by rw [hg]; exact (below_size (zb)) : w.heap.size ≤ gb275)); have n3_ := aM ((by rw [hg]; exact (below_size (zb)) : w.heap.size ≤ gb275)); clear HB; have HB := n0_; have BK275 := n1_; have GW275 := n2_; have GE275 := n3_; clear n0_ n1_ n2_ n3_; clear hb hbox hg) | ((with_reducible refine gate_dst (N := 4) rfl ?_); refine box_event ?hg (N := 4) ?hd (cs := #[.int .i64 0, .int .i64 0, .bool false, .bool false, .bool false]) (t := 24) ?hr ?_; (case hd => rfl); (case hg => rfl); (case hr => exact zg); intro gb276 hg w5 hbox hb; have n0_ := aM (bb BK275.out hb); have n1_ := aM (below_step (zb) hb); have n2_ := aM (hbox); have n3_ := aM ((by rw [hg]; exact (below_size (zb)) : w.heap.size ≤ gb276)); have n4_ := aM ((by rw [hg]; exact (below_size (zb)) : w.heap.size ≤ gb276)); have n5_ := aM ((by rw [hg]; exact Nat.ne_of_lt (nl BK275.out) : gb275 ≠ gb276)); have n6_ := aM ((by rw [hg]; exact Nat.ne_of_gt (nl BK275.out) : gb276 ≠ gb275)); clear BK275; clear HB; have BK275 := n0_; have HB := n1_; have BK276 := n2_; have GW276 := n3_; have GE276 := n4_; have NB275_276 := n5_; have NB276_275 := n6_; clear n0_ n1_ n2_ n3_ n4_ n5_ n6_; clear hb hbox hg))
 (try simp only [Act.put, List.setIfInBounds_toArray, List.set_cons_zero, List.set_cons_succ])
 go_cut [31] (fun v31 wc => ∃ (kq : Nat) (x31_2 : Bool), v31 = .bool x31_2 ∧ Aside0 (impl_BeginDoor.j0 kq a1 x31_2 a0_0 a0_1 a0_2 a0_3 a0_4 = some (r1, r2, r3, r4, r5, r6)) ∧ Aside0 (kq ≤ k) ∧ Aside0 (wc.heap[gb275]? = some (.cells #[.int .i64 a0_0, .int .i64 a0_1, .bool a0_2, .bool a0_3, .bool a0_4] 24 (0, 0))) ∧ Aside0 (wc.heap[gb276]? = some (.cells #[.int .i64 0, .int .i64 0, .bool false, .bool false, .bool false] 24 (0, 0))) ∧ Aside0 (Below w.heap.size w wc))
 case first =>
  have H := HC3.out
  clear HC3
  replace H := Option.bind_eq_some_iff.mp H
  obtain ⟨t277, A60, H⟩ := H
  replace H : (if t277 = true then (if a0_0 = 0 then (if a1 = 1 then (if a0_4 = true then (if a1 = 2 then (impl_BeginDoor.j0 k a1 (!a0_4) a0_0 a0_1 a0_2 a0_3 a0_4) else (impl_BeginDoor.j0 k a1 (!false) a0_0 a0_1 a0_2 a0_3 a0_4)) else (impl_BeginDoor.j0 k a1 (!true) a0_0 a0_1 a0_2 a0_3 a0_4)) else (if a1 = 2 then (impl_BeginDoor.j0 k a1 (!a0_4) a0_0 a0_1 a0_2 a0_3 a0_4) else (impl_BeginDoor.j0 k a1 (!false) a0_0 a0_1 a0_2 a0_3 a0_4))) else (impl_BeginDoor.j0 k a1 true a0_0 a0_1 a0_2 a0_3 a0_4)) else (impl_BeginDoor.j0 k a1 true a0_0 a0_1 a0_2 a0_3 a0_4)) = some (r1, r2, r3, r4, r5, r6) := H
  have A6 := aM A60
  clear A60
  by_cases c7 : t277 = true
  ·subst c7
   have H1 : (if a0_0 = 0 then (if a1 = 1 then (if a0_4 = true then (if a1 = 2 then (impl_BeginDoor.j0 k a1 (!a0_4) a0_0 a0_1 a0_2 a0_3 a0_4) else (impl_BeginDoor.j0 k a1 (!false) a0_0 a0_1 a0_2 a0_3 a0_4)) else (impl_BeginDoor.j0 k a1 (!true) a0_0 a0_1 a0_2 a0_3 a0_4)) else (if a1 = 2 then (impl_BeginDoor.j0 k a1 (!a0_4) a0_0 a0_1 a0_2 a0_3 a0_4) else (impl_BeginDoor.j0 k a1 (!false) a0_0 a0_1 a0_2 a0_3 a0_4))) else (impl_BeginDoor.j0 k a1 true a0_0 a0_1 a0_2 a0_3 a0_4)) = some (r1, r2, r3, r4, r5, r6) := by rw [if_pos rfl] at H; exact H
   clear H
   have H := H1
   clear H1
   by_cases c8 : a0_0 = 0
   ·rw [if_pos c8] at H
    have c8b0 : (a0_0 == 0) = true := beq_iff_eq.mpr c8
    have c8b1 : (a0_0 != 0) = false := bne_eq_false_iff_eq.mpr c8
    clear c8
    (first | rw [c8b0] | (simp only [i64_w, i32_w]; rw [c8b0]) | skip)
    by_cases c9 : a1 = 1
    ·rw [if_pos c9] at H
     have c9b0 : (a1 == 1) = true := beq_iff_eq.mpr c9
     have c9b1 : (a1 != 1) = false := bne_eq_false_iff_eq.mpr c9
     clear c9
     by_cases c10 : a0_4 = true
     ·subst c10
      have H1 : (if a1 = 2 then (impl_BeginDoor.j0 k a1 (!true) a0_0 a0_1 a0_2 a0_3 true) else (impl_BeginDoor.j0 k a1 (!false) a0_0 a0_1 a0_2 a0_3 true)) = some (r1, r2, r3, r4, r5, r6) := by rw [if_pos rfl] at H; exact H
      clear H
      have H := H1
      clear H1
      by_cases c11 : a1 = 2
      ·rw [if_pos c11] at H
       have c11b0 : (a1 == 2) = true := beq_iff_eq.mpr c11
       have c11b1 : (a1 != 2) = false := bne_eq_false_iff_eq.mpr c11
       clear c11
       have H' := aM H
       clear H
       have hnb12 := NB275_276.out
       have hnc12 := NB276_275.out
       obtain ⟨hcz13_0, hcz13_1, hcz13_2, hcz13_3, hcz13_4, hfz13_0, hfz13_1, hfz13_2, hfz13_3, hfz13_4⟩ := cells5 BK275.out
       go_wp2_with (first | ((with_reducible refine gate_callee (f := 30) rfl ?_); refine goesL_ (some 7) rfl rfl Try.func30 (by kernel_rfl) rfl #[.agg #[.int .i64 a0_0, .int .i64 a0_1, .bool a0_2, .bool a0_3, .bool true]] rfl za ?_; (with_reducible refine (impl_DoorOk.calls k a0_0 a0_1 a0_2 a0_3 true true _ A6.out).mono ?_); rintro e w14 ⟨rfl, hb⟩; refine ⟨_, rfl, ?_⟩; have n0_ := aM (bb BK275.out hb); have n1_ := aM (bb BK276.out hb); have n2_ := aM (below_step (zb) hb); clear BK275; clear BK276; clear HB; have BK275 := n0_; have BK276 := n1_; have HB := n2_; clear n0_ n1_ n2_; (try clear hb); (try clear hb2); (try clear hk); (try clear hi); obtain ⟨hcz15_0, hcz15_1, hcz15_2, hcz15_3, hcz15_4, hfz15_0, hfz15_1, hfz15_2, hfz15_3, hfz15_4⟩ := cells5 BK275.out))
       go_meet
       case rel => exact ⟨_, (!true), zs, H', ⟨by first | omega | exact Nat.le_refl _⟩, ⟨by exact pk BK275.out⟩, ⟨by exact pk BK276.out⟩, ⟨zb⟩⟩
      ·rw [if_neg c11] at H
       have c11b0 : (a1 == 2) = false := beq_eq_false_iff_ne.mpr c11
       have c11b1 : (a1 != 2) = true := bne_iff_ne.mpr c11
       have H' := aM H
       clear H
       have hnb16 := NB275_276.out
       have hnc16 := NB276_275.out
       obtain ⟨hcz17_0, hcz17_1, hcz17_2, hcz17_3, hcz17_4, hfz17_0, hfz17_1, hfz17_2, hfz17_3, hfz17_4⟩ := cells5 BK275.out
       go_wp2_with (first | ((with_reducible refine gate_callee (f := 30) rfl ?_); refine goesL_ (some 7) rfl rfl Try.func30 (by kernel_rfl) rfl #[.agg #[.int .i64 a0_0, .int .i64 a0_1, .bool a0_2, .bool a0_3, .bool true]] rfl za ?_; (with_reducible refine (impl_DoorOk.calls k a0_0 a0_1 a0_2 a0_3 true true _ A6.out).mono ?_); rintro e w18 ⟨rfl, hb⟩; refine ⟨_, rfl, ?_⟩; have n0_ := aM (bb BK275.out hb); have n1_ := aM (bb BK276.out hb); have n2_ := aM (below_step (zb) hb); clear BK275; clear BK276; clear HB; have BK275 := n0_; have BK276 := n1_; have HB := n2_; clear n0_ n1_ n2_; (try clear hb); (try clear hb2); (try clear hk); (try clear hi); obtain ⟨hcz19_0, hcz19_1, hcz19_2, hcz19_3, hcz19_4, hfz19_0, hfz19_1, hfz19_2, hfz19_3, hfz19_4⟩ := cells5 BK275.out))
       go_meet
       case rel => exact ⟨_, (!false), zs, H', ⟨by first | omega | exact Nat.le_refl _⟩, ⟨by exact pk BK275.out⟩, ⟨by exact pk BK276.out⟩, ⟨zb⟩⟩
     ·replace c10 := Bool.eq_false_iff.mpr c10
      subst c10
      have H1 : (impl_BeginDoor.j0 k a1 (!true) a0_0 a0_1 a0_2 a0_3 false) = some (r1, r2, r3, r4, r5, r6) := by rw [if_neg (show ¬ (false = true) by decide)] at H; exact H
      clear H
      have H := H1
      clear H1
      have H' := aM H
      clear H
      have hnb20 := NB275_276.out
      have hnc20 := NB276_275.out
      obtain ⟨hcz21_0, hcz21_1, hcz21_2, hcz21_3, hcz21_4, hfz21_0, hfz21_1, hfz21_2, hfz21_3, hfz21_4⟩ := cells5 BK275.out
      go_wp2_with (first | ((with_reducible refine gate_callee (f := 30) rfl ?_); refine goesL_ (some 7) rfl rfl Try.func30 (by kernel_rfl) rfl #[.agg #[.int .i64 a0_0, .int .i64 a0_1, .bool a0_2, .bool a0_3, .bool false]] rfl za ?_; (with_reducible refine (impl_DoorOk.calls k a0_0 a0_1 a0_2 a0_3 false true _ A6.out).mono ?_); rintro e w22 ⟨rfl, hb⟩; refine ⟨_, rfl, ?_⟩; have n0_ := aM (bb BK275.out hb); have n1_ := aM (bb BK276.out hb); have n2_ := aM (below_step (zb) hb); clear BK275; clear BK276; clear HB; have BK275 := n0_; have BK276 := n1_; have HB := n2_; clear n0_ n1_ n2_; (try clear hb); (try clear hb2); (try clear hk); (try clear hi); obtain ⟨hcz23_0, hcz23_1, hcz23_2, hcz23_3, hcz23_4, hfz23_0, hfz23_1, hfz23_2, hfz23_3, hfz23_4⟩ := cells5 BK275.out))
      go_meet
      case rel => exact ⟨_, (!true), zs, H', ⟨by first | omega | exact Nat.le_refl _⟩, ⟨by exact pk BK275.out⟩, ⟨by exact pk BK276.out⟩, ⟨zb⟩⟩
    ·rw [if_neg c9] at H
     have c9b0 : (a1 == 1) = false := beq_eq_false_iff_ne.mpr c9
     have c9b1 : (a1 != 1) = true := bne_iff_ne.mpr c9
     by_cases c24 : a1 = 2
     ·rw [if_pos c24] at H
      have c24b0 : (a1 == 2) = true := beq_iff_eq.mpr c24
      have c24b1 : (a1 != 2) = false := bne_eq_false_iff_eq.mpr c24
      clear c24
      have H' := aM H
      clear H
      have hnb25 := NB275_276.out
      have hnc25 := NB276_275.out
      obtain ⟨hcz26_0, hcz26_1, hcz26_2, hcz26_3, hcz26_4, hfz26_0, hfz26_1, hfz26_2, hfz26_3, hfz26_4⟩ := cells5 BK275.out
      go_wp2_with (first | ((with_reducible refine gate_callee (f := 30) rfl ?_); refine goesL_ (some 7) rfl rfl Try.func30 (by kernel_rfl) rfl #[.agg #[.int .i64 a0_0, .int .i64 a0_1, .bool a0_2, .bool a0_3, .bool a0_4]] rfl za ?_; (with_reducible refine (impl_DoorOk.calls k a0_0 a0_1 a0_2 a0_3 a0_4 true _ A6.out).mono ?_); rintro e w27 ⟨rfl, hb⟩; refine ⟨_, rfl, ?_⟩; have n0_ := aM (bb BK275.out hb); have n1_ := aM (bb BK276.out hb); have n2_ := aM (below_step (zb) hb); clear BK275; clear BK276; clear HB; have BK275 := n0_; have BK276 := n1_; have HB := n2_; clear n0_ n1_ n2_; (try clear hb); (try clear hb2); (try clear hk); (try clear hi); obtain ⟨hcz28_0, hcz28_1, hcz28_2, hcz28_3, hcz28_4, hfz28_0, hfz28_1, hfz28_2, hfz28_3, hfz28_4⟩ := cells5 BK275.out))
      go_meet
      case rel => exact ⟨_, (!a0_4), zs, H', ⟨by first | omega | exact Nat.le_refl _⟩, ⟨by exact pk BK275.out⟩, ⟨by exact pk BK276.out⟩, ⟨zb⟩⟩
     ·rw [if_neg c24] at H
      have c24b0 : (a1 == 2) = false := beq_eq_false_iff_ne.mpr c24
      have c24b1 : (a1 != 2) = true := bne_iff_ne.mpr c24
      have H' := aM H
      clear H
      have hnb29 := NB275_276.out
      have hnc29 := NB276_275.out
      obtain ⟨hcz30_0, hcz30_1, hcz30_2, hcz30_3, hcz30_4, hfz30_0, hfz30_1, hfz30_2, hfz30_3, hfz30_4⟩ := cells5 BK275.out
      go_wp2_with (first | ((with_reducible refine gate_callee (f := 30) rfl ?_); refine goesL_ (some 7) rfl rfl Try.func30 (by kernel_rfl) rfl #[.agg #[.int .i64 a0_0, .int .i64 a0_1, .bool a0_2, .bool a0_3, .bool a0_4]] rfl za ?_; (with_reducible refine (impl_DoorOk.calls k a0_0 a0_1 a0_2 a0_3 a0_4 true _ A6.out).mono ?_); rintro e w31 ⟨rfl, hb⟩; refine ⟨_, rfl, ?_⟩; have n0_ := aM (bb BK275.out hb); have n1_ := aM (bb BK276.out hb); have n2_ := aM (below_step (zb) hb); clear BK275; clear BK276; clear HB; have BK275 := n0_; have BK276 := n1_; have HB := n2_; clear n0_ n1_ n2_; (try clear hb); (try clear hb2); (try clear hk); (try clear hi); obtain ⟨hcz32_0, hcz32_1, hcz32_2, hcz32_3, hcz32_4, hfz32_0, hfz32_1, hfz32_2, hfz32_3, hfz32_4⟩ := cells5 BK275.out))
      go_meet
      case rel => exact ⟨_, (!false), zs, H', ⟨by first | omega | exact Nat.le_refl _⟩, ⟨by exact pk BK275.out⟩, ⟨by exact pk BK276.out⟩, ⟨zb⟩⟩
   ·rw [if_neg c8] at H
    have c8b0 : (a0_0 == 0) = false := beq_eq_false_iff_ne.mpr c8
    have c8b1 : (a0_0 != 0) = true := bne_iff_ne.mpr c8
    (first | rw [c8b0] | (simp only [i64_w, i32_w]; rw [c8b0]) | skip)
    have H' := aM H
    clear H
    have hnb33 := NB275_276.out
    have hnc33 := NB276_275.out
    obtain ⟨hcz34_0, hcz34_1, hcz34_2, hcz34_3, hcz34_4, hfz34_0, hfz34_1, hfz34_2, hfz34_3, hfz34_4⟩ := cells5 BK275.out
    go_wp2_with (first | ((with_reducible refine gate_callee (f := 30) rfl ?_); refine goesL_ (some 7) rfl rfl Try.func30 (by kernel_rfl) rfl #[.agg #[.int .i64 a0_0, .int .i64 a0_1, .bool a0_2, .bool a0_3, .bool a0_4]] rfl za ?_; (with_reducible refine (impl_DoorOk.calls k a0_0 a0_1 a0_2 a0_3 a0_4 true _ A6.out).mono ?_); rintro e w35 ⟨rfl, hb⟩; refine ⟨_, rfl, ?_⟩; have n0_ := aM (bb BK275.out hb); have n1_ := aM (bb BK276.out hb); have n2_ := aM (below_step (zb) hb); clear BK275; clear BK276; clear HB; have BK275 := n0_; have BK276 := n1_; have HB := n2_; clear n0_ n1_ n2_; (try clear hb); (try clear hb2); (try clear hk); (try clear hi); obtain ⟨hcz36_0, hcz36_1, hcz36_2, hcz36_3, hcz36_4, hfz36_0, hfz36_1, hfz36_2, hfz36_3, hfz36_4⟩ := cells5 BK275.out))
    go_meet
    case rel => exact ⟨_, (true), zs, H', ⟨by first | omega | exact Nat.le_refl _⟩, ⟨by exact pk BK275.out⟩, ⟨by exact pk BK276.out⟩, ⟨zb⟩⟩
  ·replace c7 := Bool.eq_false_iff.mpr c7
   subst c7
   have H1 : (impl_BeginDoor.j0 k a1 true a0_0 a0_1 a0_2 a0_3 a0_4) = some (r1, r2, r3, r4, r5, r6) := by rw [if_neg (show ¬ (false = true) by decide)] at H; exact H
   clear H
   have H := H1
   clear H1
   have H' := aM H
   clear H
   have hnb37 := NB275_276.out
   have hnc37 := NB276_275.out
   obtain ⟨hcz38_0, hcz38_1, hcz38_2, hcz38_3, hcz38_4, hfz38_0, hfz38_1, hfz38_2, hfz38_3, hfz38_4⟩ := cells5 BK275.out
   go_wp2_with (first | ((with_reducible refine gate_callee (f := 30) rfl ?_); refine goesL_ (some 7) rfl rfl Try.func30 (by kernel_rfl) rfl #[.agg #[.int .i64 a0_0, .int .i64 a0_1, .bool a0_2, .bool a0_3, .bool a0_4]] rfl za ?_; (with_reducible refine (impl_DoorOk.calls k a0_0 a0_1 a0_2 a0_3 a0_4 false _ A6.out).mono ?_); rintro e w39 ⟨rfl, hb⟩; refine ⟨_, rfl, ?_⟩; have n0_ := aM (bb BK275.out hb); have n1_ := aM (bb BK276.out hb); have n2_ := aM (below_step (zb) hb); clear BK275; clear BK276; clear HB; have BK275 := n0_; have BK276 := n1_; have HB := n2_; clear n0_ n1_ n2_; (try clear hb); (try clear hb2); (try clear hk); (try clear hi)))
   go_meet
   case rel => exact ⟨_, (true), zs, H', ⟨by first | omega | exact Nat.le_refl _⟩, ⟨by exact pk BK275.out⟩, ⟨by exact pk BK276.out⟩, ⟨zb⟩⟩
 case rest =>
  clear HC3
  try clear c1
  try clear c2
  try clear p2
  try clear c3
  try clear c7
  try clear c8
  try clear c8b0
  try clear c8b1
  try clear c9
  try clear c9b0
  try clear c9b1
  try clear c10
  try clear c11
  try clear c11b0
  try clear c11b1
  try clear c12
  try clear c16
  try clear c20
  try clear c24
  try clear c24b0
  try clear c24b1
  try clear c25
  try clear c28
  try clear c29
  try clear c30
  try clear c33
  try clear c37
  try clear hcz13_0 hcz13_1 hcz13_2 hcz13_3 hcz13_4 hfz13_0 hfz13_1 hfz13_2 hfz13_3 hfz13_4
  try clear hcz15_0 hcz15_1 hcz15_2 hcz15_3 hcz15_4 hfz15_0 hfz15_1 hfz15_2 hfz15_3 hfz15_4
  try clear hcz17_0 hcz17_1 hcz17_2 hcz17_3 hcz17_4 hfz17_0 hfz17_1 hfz17_2 hfz17_3 hfz17_4
  try clear hcz19_0 hcz19_1 hcz19_2 hcz19_3 hcz19_4 hfz19_0 hfz19_1 hfz19_2 hfz19_3 hfz19_4
  try clear hcz21_0 hcz21_1 hcz21_2 hcz21_3 hcz21_4 hfz21_0 hfz21_1 hfz21_2 hfz21_3 hfz21_4
  try clear hcz23_0 hcz23_1 hcz23_2 hcz23_3 hcz23_4 hfz23_0 hfz23_1 hfz23_2 hfz23_3 hfz23_4
  try clear hcz26_0 hcz26_1 hcz26_2 hcz26_3 hcz26_4 hfz26_0 hfz26_1 hfz26_2 hfz26_3 hfz26_4
  try clear hcz28_0 hcz28_1 hcz28_2 hcz28_3 hcz28_4 hfz28_0 hfz28_1 hfz28_2 hfz28_3 hfz28_4
  try clear hcz30_0 hcz30_1 hcz30_2 hcz30_3 hcz30_4 hfz30_0 hfz30_1 hfz30_2 hfz30_3 hfz30_4
  try clear hcz32_0 hcz32_1 hcz32_2 hcz32_3 hcz32_4 hfz32_0 hfz32_1 hfz32_2 hfz32_3 hfz32_4
  try clear hcz34_0 hcz34_1 hcz34_2 hcz34_3 hcz34_4 hfz34_0 hfz34_1 hfz34_2 hfz34_3 hfz34_4
  try clear hcz36_0 hcz36_1 hcz36_2 hcz36_3 hcz36_4 hfz36_0 hfz36_1 hfz36_2 hfz36_3 hfz36_4
  try clear hcz38_0 hcz38_1 hcz38_2 hcz38_3 hcz38_4 hfz38_0 hfz38_1 hfz38_2 hfz38_3 hfz38_4
  obtain ⟨kq, x31_2, rfl, HA, HJ2, BK275, BK276, HB⟩ := hcut
  cases kq with
  | zero => exact absurd HA.out (by simp [impl_BeginDoor.j0])
  | succ kj2 =>
   have H := HA.out
   clear HA
   simp only [impl_BeginDoor.j0] at H
   by_cases c40 : x31_2 = true
   ·subst c40
    have H1 : (some (a0_0, a0_1, a0_2, a0_3, a0_4, false)) = some (r1, r2, r3, r4, r5, r6) := by rw [if_pos rfl] at H; exact H
    clear H
    have H := H1
    clear H1
    simp only [Option.some.injEq, Prod.mk.injEq] at H
    obtain ⟨rfl, rfl, rfl, rfl, rfl, rfl⟩ := H
    have hnb41 := NB275_276.out
    have hnc41 := NB276_275.out
    obtain ⟨hcz42_0, hcz42_1, hcz42_2, hcz42_3, hcz42_4, hfz42_0, hfz42_1, hfz42_2, hfz42_3, hfz42_4⟩ := cells5 BK275.out
    obtain ⟨hcz43_0, hcz43_1, hcz43_2, hcz43_3, hcz43_4, hfz43_0, hfz43_1, hfz43_2, hfz43_3, hfz43_4⟩ := cells5 BK276.out
    go_wp2
    refine bodyPost_ret (results_ct rfl _ _ gb276 24 #[.int .i64 a0_0, .int .i64 a0_1, .bool a0_2, .bool a0_3, .bool a0_4] (0, 0) _ rfl (by refine pq ?_; refine blk_put (cs := #[.int .i64 a0_0, .int .i64 a0_1, .bool a0_2, .bool a0_3, .bool false]) ?_ 4 _ rfl; refine pq ?_; refine blk_put (cs := #[.int .i64 a0_0, .int .i64 a0_1, .bool a0_2, .bool false, .bool false]) ?_ 3 _ rfl; refine pq ?_; refine blk_put (cs := #[.int .i64 a0_0, .int .i64 a0_1, .bool false, .bool false, .bool false]) ?_ 2 _ rfl; refine pq ?_; refine blk_put (cs := #[.int .i64 a0_0, .int .i64 0, .bool false, .bool false, .bool false]) ?_ 1 _ rfl; refine pq ?_; refine blk_put (cs := #[.int .i64 0, .int .i64 0, .bool false, .bool false, .bool false]) ?_ 0 _ rfl; refine pq ?_; exact BK276.out) Try.underlying24 rfl (by kernel_rfl)) rfl ?_
    exact ⟨zr, zb⟩
   ·replace c40 := Bool.eq_false_iff.mpr c40
    subst c40
    have H1 : (some (a1, 1, a0_2, a0_3, a0_4, true)) = some (r1, r2, r3, r4, r5, r6) := by rw [if_neg (show ¬ (false = true) by decide)] at H; exact H
    clear H
    have H := H1
    clear H1
    simp only [Option.some.injEq, Prod.mk.injEq] at H
    obtain ⟨rfl, rfl, rfl, rfl, rfl, rfl⟩ := H
    have hnb44 := NB275_276.out
    have hnc44 := NB276_275.out
    obtain ⟨hcz45_0, hcz45_1, hcz45_2, hcz45_3, hcz45_4, hfz45_0, hfz45_1, hfz45_2, hfz45_3, hfz45_4⟩ := cells5 BK275.out
    obtain ⟨hcz46_0, hcz46_1, hcz46_2, hcz46_3, hcz46_4, hfz46_0, hfz46_1, hfz46_2, hfz46_3, hfz46_4⟩ := cells5 BK276.out
    go_wp2
    refine bodyPost_ret (results_ct rfl _ _ gb276 24 #[.int .i64 a1, .int .i64 1, .bool a0_2, .bool a0_3, .bool a0_4] (0, 0) _ rfl (by refine pq ?_; refine blk_put (cs := #[.int .i64 a1, .int .i64 1, .bool a0_2, .bool a0_3, .bool false]) ?_ 4 _ rfl; refine pq ?_; refine blk_put (cs := #[.int .i64 a1, .int .i64 1, .bool a0_2, .bool false, .bool false]) ?_ 3 _ rfl; refine pq ?_; refine blk_put (cs := #[.int .i64 a1, .int .i64 1, .bool false, .bool false, .bool false]) ?_ 2 _ rfl; refine pq ?_; refine blk_put (cs := #[.int .i64 a1, .int .i64 0, .bool false, .bool false, .bool false]) ?_ 1 _ rfl; refine pq ?_; refine blk_put (cs := #[.int .i64 0, .int .i64 0, .bool false, .bool false, .bool false]) ?_ 0 _ rfl; refine pq ?_; refine blk_far ?_ NB276_275.out _; refine pq ?_; refine blk_far ?_ NB276_275.out _; refine pq ?_; exact BK276.out) Try.underlying24 rfl (by kernel_rfl)) rfl ?_
    exact ⟨zr, zb⟩

/-! ### impl_CutPower: function 79 -/
def impl_CutPower.f (k : Nat) (a0_0 : Int) (a0_1 : Int) (a0_2 : Bool) (a0_3 : Bool) (a0_4 : Bool) : Option (Int × Int × Bool × Bool × Bool) := (impl_DoorOk.f k a0_0 a0_1 a0_2 a0_3 a0_4).bind fun t280 => (if t280 = true then (some (a0_0, 0, a0_2, a0_3, a0_4)) else (some (a0_0, a0_1, a0_2, a0_3, a0_4)))
theorem impl_CutPower.mono : ∀ a0 a1 a2 a3 a4 k, LeO (impl_CutPower.f k a0 a1 a2 a3 a4) (impl_CutPower.f (k + 1) a0 a1 a2 a3 a4) := by
 intro a0 a1 a2 a3 a4 k
 unfold impl_CutPower.f
 repeat' first
   | (with_reducible exact impl_DoorOk.mono _ _ _ _ _ _)
   | (with_reducible exact LeO.refl _)
   | (with_reducible exact LeO.none _)
   | (with_reducible refine LeO.ite ?_ ?_)
   | (with_reducible refine LeO.bind ?_ (fun _ => ?_))
   | exact impl_DoorOk.mono _ _ _ _ _ _
   | exact LeO.none _
   | refine LeO.ite ?_ ?_
   | refine LeO.bind ?_ (fun _ => ?_)
set_option maxHeartbeats 8000000 in
set_option maxRecDepth 100000 in
theorem impl_CutPower.calls (k : Nat) (a0_0 : Int) (a0_1 : Int) (a0_2 : Bool) (a0_3 : Bool) (a0_4 : Bool) (r1 : Int) (r2 : Int) (r3 : Bool) (r4 : Bool) (r5 : Bool) (w : World) (h : impl_CutPower.f k a0_0 a0_1 a0_2 a0_3 a0_4 = some (r1, r2, r3, r4, r5)) :
  Calls Try.prog 79 #[.agg #[.int .i64 a0_0, .int .i64 a0_1, .bool a0_2, .bool a0_3, .bool a0_4]] w fun e w' => e = .returned (.agg #[.int .i64 r1, .int .i64 r2, .bool r3, .bool r4, .bool r5]) ∧ Below w.heap.size w w' := by
 have hu24 := Try.underlying24
 have HB := aM (Below.refl w.heap.size w)
 have H : ((impl_DoorOk.f k a0_0 a0_1 a0_2 a0_3 a0_4).bind fun t280 => (if t280 = true then (some (a0_0, 0, a0_2, a0_3, a0_4)) else (some (a0_0, a0_1, a0_2, a0_3, a0_4)))) = some (r1, r2, r3, r4, r5) := h
 clear h
 replace H := Option.bind_eq_some_iff.mp H
 obtain ⟨t280, A20, H⟩ := H
 replace H : (if t280 = true then (some (a0_0, 0, a0_2, a0_3, a0_4)) else (some (a0_0, a0_1, a0_2, a0_3, a0_4))) = some (r1, r2, r3, r4, r5) := H
 have A2 := aM A20
 clear A20
 by_cases c3 : t280 = true
 ·subst c3
  have H1 : (some (a0_0, 0, a0_2, a0_3, a0_4)) = some (r1, r2, r3, r4, r5) := by rw [if_pos rfl] at H; exact H
  clear H
  have H := H1
  clear H1
  simp only [Option.some.injEq, Prod.mk.injEq] at H
  obtain ⟨rfl, rfl, rfl, rfl, rfl⟩ := H
  go_enter Try.func79, Try.ntmps79
  go_wp2_with (first | ((with_reducible refine gate_dst (N := 1) rfl ?_); refine box_event ?hg (N := 1) ?hd (cs := #[.int .i64 a0_0, .int .i64 a0_1, .bool a0_2, .bool a0_3, .bool a0_4]) (t := 24) ?hr ?_; (case hd => rfl); (case hg => rfl); (case hr => exact zg); intro gb278 hg w4 hbox hb; have n0_ := aM (below_step (zb) hb); have n1_ := aM (hbox); have n2_ := aM ((by rw [hg]; exact (below_size (zb)) : w.heap.size ≤ gb278)); have n3_ := aM ((by rw [hg]; exact (below_size (zb)) : w.heap.size ≤ gb278)); clear HB; have HB := n0_; have BK278 := n1_; have GW278 := n2_; have GE278 := n3_; clear n0_ n1_ n2_ n3_; clear hb hbox hg) | ((with_reducible refine gate_dst (N := 2) rfl ?_); refine box_event ?hg (N := 2) ?hd (cs := #[.int .i64 0, .int .i64 0, .bool false, .bool false, .bool false]) (t := 24) ?hr ?_; (case hd => rfl); (case hg => rfl); (case hr => exact zg); intro gb279 hg w5 hbox hb; have n0_ := aM (bb BK278.out hb); have n1_ := aM (below_step (zb) hb); have n2_ := aM (hbox); have n3_ := aM ((by rw [hg]; exact (below_size (zb)) : w.heap.size ≤ gb279)); have n4_ := aM ((by rw [hg]; exact (below_size (zb)) : w.heap.size ≤ gb279)); have n5_ := aM ((by rw [hg]; exact Nat.ne_of_lt (nl BK278.out) : gb278 ≠ gb279)); have n6_ := aM ((by rw [hg]; exact Nat.ne_of_gt (nl BK278.out) : gb279 ≠ gb278)); clear BK278; clear HB; have BK278 := n0_; have HB := n1_; have BK279 := n2_; have GW279 := n3_; have GE279 := n4_; have NB278_279 := n5_; have NB279_278 := n6_; clear n0_ n1_ n2_ n3_ n4_ n5_ n6_; clear hb hbox hg; have hnb6 := NB278_279.out; have hnc6 := NB279_278.out; obtain ⟨hcz7_0, hcz7_1, hcz7_2, hcz7_3, hcz7_4, hfz7_0, hfz7_1, hfz7_2, hfz7_3, hfz7_4⟩ := cells5 BK278.out) | ((with_reducible refine gate_callee (f := 30) rfl ?_); refine goesL_ (some 4) rfl rfl Try.func30 (by kernel_rfl) rfl #[.agg #[.int .i64 a0_0, .int .i64 a0_1, .bool a0_2, .bool a0_3, .bool a0_4]] rfl za ?_; (with_reducible refine (impl_DoorOk.calls k a0_0 a0_1 a0_2 a0_3 a0_4 true _ A2.out).mono ?_); rintro e w8 ⟨rfl, hb⟩; refine ⟨_, rfl, ?_⟩; have n0_ := aM (bb BK278.out hb); have n1_ := aM (bb BK279.out hb); have n2_ := aM (below_step (zb) hb); clear BK278; clear BK279; clear HB; have BK278 := n0_; have BK279 := n1_; have HB := n2_; clear n0_ n1_ n2_; (try clear hb); (try clear hb2); (try clear hk); (try clear hi); obtain ⟨hcz9_0, hcz9_1, hcz9_2, hcz9_3, hcz9_4, hfz9_0, hfz9_1, hfz9_2, hfz9_3, hfz9_4⟩ := cells5 BK278.out; obtain ⟨hcz10_0, hcz10_1, hcz10_2, hcz10_3, hcz10_4, hfz10_0, hfz10_1, hfz10_2, hfz10_3, hfz10_4⟩ := cells5 BK279.out))
  refine bodyPost_ret (results_cell_row rfl _ _ gb279 24 #[.int .i64 a0_0, .int .i64 0, .bool a0_2, .bool a0_3, .bool a0_4] (0, 0) _ rfl (by refine pq ?_; refine blk_put (cs := #[.int .i64 a0_0, .int .i64 0, .bool a0_2, .bool a0_3, .bool false]) ?_ 4 _ rfl; refine pq ?_; refine blk_put (cs := #[.int .i64 a0_0, .int .i64 0, .bool a0_2, .bool false, .bool false]) ?_ 3 _ rfl; refine pq ?_; refine blk_put (cs := #[.int .i64 a0_0, .int .i64 0, .bool false, .bool false, .bool false]) ?_ 2 _ rfl; refine pq ?_; refine blk_put (cs := #[.int .i64 a0_0, .int .i64 0, .bool false, .bool false, .bool false]) ?_ 1 _ rfl; refine pq ?_; refine blk_put (cs := #[.int .i64 0, .int .i64 0, .bool false, .bool false, .bool false]) ?_ 0 _ rfl; refine pq ?_; refine blk_far ?_ NB279_278.out _; refine pq ?_; exact BK279.out) Try.underlying24 rfl (by kernel_rfl)) rfl ?_
  exact ⟨zr, zb⟩
 ·replace c3 := Bool.eq_false_iff.mpr c3
  subst c3
  have H1 : (some (a0_0, a0_1, a0_2, a0_3, a0_4)) = some (r1, r2, r3, r4, r5) := by rw [if_neg (show ¬ (false = true) by decide)] at H; exact H
  clear H
  have H := H1
  clear H1
  simp only [Option.some.injEq, Prod.mk.injEq] at H
  obtain ⟨rfl, rfl, rfl, rfl, rfl⟩ := H
  go_enter Try.func79, Try.ntmps79
  go_wp2_with (first | ((with_reducible refine gate_dst (N := 1) rfl ?_); refine box_event ?hg (N := 1) ?hd (cs := #[.int .i64 a0_0, .int .i64 a0_1, .bool a0_2, .bool a0_3, .bool a0_4]) (t := 24) ?hr ?_; (case hd => rfl); (case hg => rfl); (case hr => exact zg); intro gb278 hg w11 hbox hb; have n0_ := aM (below_step (zb) hb); have n1_ := aM (hbox); have n2_ := aM ((by rw [hg]; exact (below_size (zb)) : w.heap.size ≤ gb278)); have n3_ := aM ((by rw [hg]; exact (below_size (zb)) : w.heap.size ≤ gb278)); clear HB; have HB := n0_; have BK278 := n1_; have GW278 := n2_; have GE278 := n3_; clear n0_ n1_ n2_ n3_; clear hb hbox hg) | ((with_reducible refine gate_dst (N := 2) rfl ?_); refine box_event ?hg (N := 2) ?hd (cs := #[.int .i64 0, .int .i64 0, .bool false, .bool false, .bool false]) (t := 24) ?hr ?_; (case hd => rfl); (case hg => rfl); (case hr => exact zg); intro gb279 hg w12 hbox hb; have n0_ := aM (bb BK278.out hb); have n1_ := aM (below_step (zb) hb); have n2_ := aM (hbox); have n3_ := aM ((by rw [hg]; exact (below_size (zb)) : w.heap.size ≤ gb279)); have n4_ := aM ((by rw [hg]; exact (below_size (zb)) : w.heap.size ≤ gb279)); have n5_ := aM ((by rw [hg]; exact Nat.ne_of_lt (nl BK278.out) : gb278 ≠ gb279)); have n6_ := aM ((by rw [hg]; exact Nat.ne_of_gt (nl BK278.out) : gb279 ≠ gb278)); clear BK278; clear HB; have BK278 := n0_; have HB := n1_; have BK279 := n2_; have GW279 := n3_; have GE279 := n4_; have NB278_279 := n5_; have NB279_278 := n6_; clear n0_ n1_ n2_ n3_ n4_ n5_ n6_; clear hb hbox hg; have hnb13 := NB278_279.out; have hnc13 := NB279_278.out; obtain ⟨hcz14_0, hcz14_1, hcz14_2, hcz14_3, hcz14_4, hfz14_0, hfz14_1, hfz14_2, hfz14_3, hfz14_4⟩ := cells5 BK278.out) | ((with_reducible refine gate_callee (f := 30) rfl ?_); refine goesL_ (some 4) rfl rfl Try.func30 (by kernel_rfl) rfl #[.agg #[.int .i64 a0_0, .int .i64 a0_1, .bool a0_2, .bool a0_3, .bool a0_4]] rfl za ?_; (with_reducible refine (impl_DoorOk.calls k a0_0 a0_1 a0_2 a0_3 a0_4 false _ A2.out).mono ?_); rintro e w15 ⟨rfl, hb⟩; refine ⟨_, rfl, ?_⟩; have n0_ := aM (bb BK278.out hb); have n1_ := aM (bb BK279.out hb); have n2_ := aM (below_step (zb) hb); clear BK278; clear BK279; clear HB; have BK278 := n0_; have BK279 := n1_; have HB := n2_; clear n0_ n1_ n2_; (try clear hb); (try clear hb2); (try clear hk); (try clear hi); obtain ⟨hcz16_0, hcz16_1, hcz16_2, hcz16_3, hcz16_4, hfz16_0, hfz16_1, hfz16_2, hfz16_3, hfz16_4⟩ := cells5 BK278.out; obtain ⟨hcz17_0, hcz17_1, hcz17_2, hcz17_3, hcz17_4, hfz17_0, hfz17_1, hfz17_2, hfz17_3, hfz17_4⟩ := cells5 BK279.out))
  refine bodyPost_ret (results_cell_row rfl _ _ gb279 24 #[.int .i64 a0_0, .int .i64 a0_1, .bool a0_2, .bool a0_3, .bool a0_4] (0, 0) _ rfl (by refine pq ?_; refine blk_put (cs := #[.int .i64 a0_0, .int .i64 a0_1, .bool a0_2, .bool a0_3, .bool false]) ?_ 4 _ rfl; refine pq ?_; refine blk_put (cs := #[.int .i64 a0_0, .int .i64 a0_1, .bool a0_2, .bool false, .bool false]) ?_ 3 _ rfl; refine pq ?_; refine blk_put (cs := #[.int .i64 a0_0, .int .i64 a0_1, .bool false, .bool false, .bool false]) ?_ 2 _ rfl; refine pq ?_; refine blk_put (cs := #[.int .i64 a0_0, .int .i64 0, .bool false, .bool false, .bool false]) ?_ 1 _ rfl; refine pq ?_; refine blk_put (cs := #[.int .i64 0, .int .i64 0, .bool false, .bool false, .bool false]) ?_ 0 _ rfl; refine pq ?_; exact BK279.out) Try.underlying24 rfl (by kernel_rfl)) rfl ?_
  exact ⟨zr, zb⟩

end Go.Proofs.Ytglpkjcblpjnoab.QFnDoors
