-- Printed functions and their walks: by print.py, turned by wip/tools/myprint.py.
import Derived.Test.YtglpkjcblpjnoabQFnDoorsx0
import Derived.Test.YtglpkjcblpjnoabQFnDoorsx2
import Derived.Test.YtglpkjcblpjnoabQFnDoorsx3
import Derived.Test.YtglpkjcblpjnoabQFnDoorsx4
namespace Go.Proofs.Ytglpkjcblpjnoab.QFnDoors
open Go.RowKit Go.Proofs.YtglpkjcblpjnoabW.PrintWords Go.Proofs.YtglpkjcblpjnoabW.PrintLast Go.Proofs.YtglpkjcblpjnoabW.PrintMore
attribute [local go_sem] max2_int min2_int max_two min_two max_three min_three max_four min_four   -- for this text's walks alone
set_option linter.unusedVariables false
set_option linter.unusedSimpArgs false

/-! ### spec_Recover: function 23 -/
def spec_Recover.j0 : Nat → Bool → Int → Int → Bool → Bool → Bool → Bool → Bool → Bool → Bool → Option (Int × Int × Bool × Bool × Bool × Int × Bool)
 | 0, _, _, _, _, _, _, _, _, _, _ => none
 | k + 1, x27, x150000, x150001, x150002, x150003, x150004, x158000, x158001, x158002, x158003 => if x27 = true then (some (x150000, x150001, x150002, x150003, x150004, 0, false)) else ((spec_Verdict.f k x150000 x158000 x158001 x158002 x158003).bind fun t160 => (if t160 = 3 then (some (0, x150001, false, x150003, x150004, t160, true)) else (if t160 = 4 then (some (0, x150001, false, x150003, x150004, t160, true)) else (some (x150000, x150001, x150002, x150003, x150004, t160, true)))))
def spec_Recover.f (k : Nat) (a0_0 : Int) (a0_1 : Int) (a0_2 : Bool) (a0_3 : Bool) (a0_4 : Bool) (a1_0 : Int) (a1_1 : Int) (a1_2 : Int) (a1_3 : Int) : Option (Int × Int × Bool × Bool × Bool × Int × Bool) := (spec_SignsOf.f k a0_0 a0_1 a0_2 a0_3 a0_4 a1_0 a1_1 a1_2 a1_3).bind fun bt152 => (if bt152.2.2.2.2 = true then ((spec_l04Dark.f k a0_0 a0_1 a0_2 a0_3 a0_4).bind fun t158 => (if t158 = true then ((spec_CountFaults.f a1_0 a1_1 a1_2 a1_3).bind fun t159 => (spec_Recover.j0 k (decide (t159 > 1)) a0_0 a0_1 a0_2 a0_3 a0_4 bt152.1 bt152.2.1 bt152.2.2.1 bt152.2.2.2.1)) else (spec_Recover.j0 k true a0_0 a0_1 a0_2 a0_3 a0_4 bt152.1 bt152.2.1 bt152.2.2.1 bt152.2.2.2.1))) else (spec_Recover.j0 k true a0_0 a0_1 a0_2 a0_3 a0_4 bt152.1 bt152.2.1 bt152.2.2.1 bt152.2.2.2.1))
theorem spec_Recover.mono_l : ∀ k, (∀ y0 y1 y2 y3 y4 y5 y6 y7 y8 y9, LeO (spec_Recover.j0 k y0 y1 y2 y3 y4 y5 y6 y7 y8 y9) (spec_Recover.j0 (k + 1) y0 y1 y2 y3 y4 y5 y6 y7 y8 y9))
 | 0 => fun _ _ _ _ _ _ _ _ _ _ r h => by simp [spec_Recover.j0] at h
 | k + 1 => by
  have ih0 := spec_Recover.mono_l k
  ·intro y0 y1 y2 y3 y4 y5 y6 y7 y8 y9
   unfold spec_Recover.j0
   repeat' first
   | (with_reducible exact ih0 _ _ _ _ _ _ _ _ _ _)
   | (with_reducible exact spec_SignsOf.mono _ _ _ _ _ _ _ _ _ _)
   | (with_reducible exact spec_Verdict.mono _ _ _ _ _ _)
   | (with_reducible exact spec_l04Dark.mono _ _ _ _ _ _)
   | (with_reducible exact LeO.refl _)
   | (with_reducible exact LeO.none _)
   | (with_reducible refine LeO.ite ?_ ?_)
   | (with_reducible refine LeO.bind ?_ (fun _ => ?_))
   | exact ih0 _ _ _ _ _ _ _ _ _ _
   | exact spec_SignsOf.mono _ _ _ _ _ _ _ _ _ _
   | exact spec_Verdict.mono _ _ _ _ _ _
   | exact spec_l04Dark.mono _ _ _ _ _ _
   | exact LeO.none _
   | refine LeO.ite ?_ ?_
   | refine LeO.bind ?_ (fun _ => ?_)
theorem spec_Recover.mono : ∀ a0 a1 a2 a3 a4 a5 a6 a7 a8 k, LeO (spec_Recover.f k a0 a1 a2 a3 a4 a5 a6 a7 a8) (spec_Recover.f (k + 1) a0 a1 a2 a3 a4 a5 a6 a7 a8) := by
 intro a0 a1 a2 a3 a4 a5 a6 a7 a8 k
 have ih0 := spec_Recover.mono_l k
 unfold spec_Recover.f
 repeat' first
   | (with_reducible exact ih0 _ _ _ _ _ _ _ _ _ _)
   | (with_reducible exact spec_SignsOf.mono _ _ _ _ _ _ _ _ _ _)
   | (with_reducible exact spec_Verdict.mono _ _ _ _ _ _)
   | (with_reducible exact spec_l04Dark.mono _ _ _ _ _ _)
   | (with_reducible exact LeO.refl _)
   | (with_reducible exact LeO.none _)
   | (with_reducible refine LeO.ite ?_ ?_)
   | (with_reducible refine LeO.bind ?_ (fun _ => ?_))
   | exact ih0 _ _ _ _ _ _ _ _ _ _
   | exact spec_SignsOf.mono _ _ _ _ _ _ _ _ _ _
   | exact spec_Verdict.mono _ _ _ _ _ _
   | exact spec_l04Dark.mono _ _ _ _ _ _
   | exact LeO.none _
   | refine LeO.ite ?_ ?_
   | refine LeO.bind ?_ (fun _ => ?_)
set_option maxHeartbeats 8000000 in
set_option maxRecDepth 100000 in
theorem spec_Recover.calls (k : Nat) (a0_0 : Int) (a0_1 : Int) (a0_2 : Bool) (a0_3 : Bool) (a0_4 : Bool) (a1_0 : Int) (a1_1 : Int) (a1_2 : Int) (a1_3 : Int) (r1 : Int) (r2 : Int) (r3 : Bool) (r4 : Bool) (r5 : Bool) (r6 : Int) (r7 : Bool) (w : World) (h : spec_Recover.f k a0_0 a0_1 a0_2 a0_3 a0_4 a1_0 a1_1 a1_2 a1_3 = some (r1, r2, r3, r4, r5, r6, r7)) :
  Calls Try.prog 23 #[.agg #[.int .i64 a0_0, .int .i64 a0_1, .bool a0_2, .bool a0_3, .bool a0_4], .agg #[.int .i64 a1_0, .int .i64 a1_1, .int .i64 a1_2, .int .i64 a1_3]] w fun e w' => e = .returned (.tuple #[.agg #[.int .i64 r1, .int .i64 r2, .bool r3, .bool r4, .bool r5], .int .i64 r6, .bool r7]) ∧ Below w.heap.size w w' := by
 have hu24 := Try.underlying24
 have hu37 := Try.underlying37
 have hu50 := Try.underlying50
 have HB := aM (Below.refl w.heap.size w)
 have H : ((spec_SignsOf.f k a0_0 a0_1 a0_2 a0_3 a0_4 a1_0 a1_1 a1_2 a1_3).bind fun bt152 => (if bt152.2.2.2.2 = true then ((spec_l04Dark.f k a0_0 a0_1 a0_2 a0_3 a0_4).bind fun t158 => (if t158 = true then ((spec_CountFaults.f a1_0 a1_1 a1_2 a1_3).bind fun t159 => (spec_Recover.j0 k (decide (t159 > 1)) a0_0 a0_1 a0_2 a0_3 a0_4 bt152.1 bt152.2.1 bt152.2.2.1 bt152.2.2.2.1)) else (spec_Recover.j0 k true a0_0 a0_1 a0_2 a0_3 a0_4 bt152.1 bt152.2.1 bt152.2.2.1 bt152.2.2.2.1))) else (spec_Recover.j0 k true a0_0 a0_1 a0_2 a0_3 a0_4 bt152.1 bt152.2.1 bt152.2.2.1 bt152.2.2.2.1))) = some (r1, r2, r3, r4, r5, r6, r7) := h
 clear h
 replace H := Option.bind_eq_some_iff.mp H
 obtain ⟨⟨t152, t153, t154, t155, t156⟩, A30, H⟩ := H
 replace H : (if t156 = true then ((spec_l04Dark.f k a0_0 a0_1 a0_2 a0_3 a0_4).bind fun t158 => (if t158 = true then ((spec_CountFaults.f a1_0 a1_1 a1_2 a1_3).bind fun t159 => (spec_Recover.j0 k (decide (t159 > 1)) a0_0 a0_1 a0_2 a0_3 a0_4 t152 t153 t154 t155)) else (spec_Recover.j0 k true a0_0 a0_1 a0_2 a0_3 a0_4 t152 t153 t154 t155))) else (spec_Recover.j0 k true a0_0 a0_1 a0_2 a0_3 a0_4 t152 t153 t154 t155)) = some (r1, r2, r3, r4, r5, r6, r7) := H
 have A3 := aM A30
 clear A30
 have HC4 := aM H
 clear H
 go_enter Try.func23, Try.ntmps23
 go_upto_region 2 with (first | ((with_reducible refine gate_dst (N := 2) rfl ?_); refine box_event ?hg (N := 2) ?hd (cs := #[.int .i64 a0_0, .int .i64 a0_1, .bool a0_2, .bool a0_3, .bool a0_4]) (t := 24) ?hr ?_; (case hd => rfl); (case hg => rfl); (case hr => exact zg); intro gb149 hg w5 hbox hb; have n0_ := aM (below_step (zb) hb); have n1_ := aM (hbox); have n2_ := aM ((by rw [hg]; exact (below_size (zb)) : w.heap.size ≤ gb149)); have n3_ := aM ((by rw [hg]; exact (below_size (zb)) : w.heap.size ≤ gb149)); clear HB; have HB := n0_; have BK149 := n1_; have GW149 := n2_; have GE149 := n3_; clear n0_ n1_ n2_ n3_; clear hb hbox hg) | ((with_reducible refine gate_dst (N := 3) rfl ?_); refine box_event ?hg (N := 3) ?hd (cs := #[.int .i64 a1_0, .int .i64 a1_1, .int .i64 a1_2, .int .i64 a1_3]) (t := 37) ?hr ?_; (case hd => rfl); (case hg => rfl); (case hr => exact zg); intro gb150 hg w6 hbox hb; have n0_ := aM (bb BK149.out hb); have n1_ := aM (below_step (zb) hb); have n2_ := aM (hbox); have n3_ := aM ((by rw [hg]; exact (below_size (zb)) : w.heap.size ≤ gb150)); have n4_ := aM ((by rw [hg]; exact (below_size (zb)) : w.heap.size ≤ gb150)); have n5_ := aM ((by rw [hg]; exact Nat.ne_of_lt (nl BK149.out) : gb149 ≠ gb150)); have n6_ := aM ((by rw [hg]; exact Nat.ne_of_gt (nl BK149.out) : gb150 ≠ gb149)); clear BK149; clear HB; have BK149 := n0_; have HB := n1_; have BK150 := n2_; have GW150 := n3_; have GE150 := n4_; have NB149_150 := n5_; have NB150_149 := n6_; clear n0_ n1_ n2_ n3_ n4_ n5_ n6_; clear hb hbox hg) | ((with_reducible refine gate_dst (N := 4) rfl ?_); refine box_event ?hg (N := 4) ?hd (cs := #[.int .i64 0, .int .i64 0, .bool false, .bool false, .bool false]) (t := 24) ?hr ?_; (case hd => rfl); (case hg => rfl); (case hr => exact zg); intro gb151 hg w7 hbox hb; have n0_ := aM (bb BK149.out hb); have n1_ := aM (bb BK150.out hb); have n2_ := aM (below_step (zb) hb); have n3_ := aM (hbox); have n4_ := aM ((by rw [hg]; exact (below_size (zb)) : w.heap.size ≤ gb151)); have n5_ := aM ((by rw [hg]; exact (below_size (zb)) : w.heap.size ≤ gb151)); have n6_ := aM ((by rw [hg]; exact Nat.ne_of_lt (nl BK149.out) : gb149 ≠ gb151)); have n7_ := aM ((by rw [hg]; exact Nat.ne_of_gt (nl BK149.out) : gb151 ≠ gb149)); have n8_ := aM ((by rw [hg]; exact Nat.ne_of_lt (nl BK150.out) : gb150 ≠ gb151)); have n9_ := aM ((by rw [hg]; exact Nat.ne_of_gt (nl BK150.out) : gb151 ≠ gb150)); clear BK149; clear BK150; clear HB; have BK149 := n0_; have BK150 := n1_; have HB := n2_; have BK151 := n3_; have GW151 := n4_; have GE151 := n5_; have NB149_151 := n6_; have NB151_149 := n7_; have NB150_151 := n8_; have NB151_150 := n9_; clear n0_ n1_ n2_ n3_ n4_ n5_ n6_ n7_ n8_ n9_; clear hb hbox hg; have hnb8 := NB149_150.out; have hnc8 := NB150_149.out; have hnb9 := NB149_151.out; have hnc9 := NB151_149.out; obtain ⟨hcz10_0, hcz10_1, hcz10_2, hcz10_3, hcz10_4, hfz10_0, hfz10_1, hfz10_2, hfz10_3, hfz10_4⟩ := cells5 BK149.out; have hnb11 := NB150_151.out; have hnc11 := NB151_150.out; obtain ⟨hcz12_0, hcz12_1, hcz12_2, hcz12_3, hfz12_0, hfz12_1, hfz12_2, hfz12_3⟩ := cells4 BK150.out) | ((with_reducible refine gate_callee (f := 40) rfl ?_); refine goesL_ (some 13) rfl rfl Try.func40 (by kernel_rfl) rfl #[.agg #[.int .i64 a0_0, .int .i64 a0_1, .bool a0_2, .bool a0_3, .bool a0_4], .agg #[.int .i64 a1_0, .int .i64 a1_1, .int .i64 a1_2, .int .i64 a1_3]] rfl za ?_; (with_reducible refine (spec_SignsOf.calls k a0_0 a0_1 a0_2 a0_3 a0_4 a1_0 a1_1 a1_2 a1_3 t152 t153 t154 t155 t156 _ A3.out).mono ?_); rintro e w13 ⟨rfl, hb⟩; refine ⟨_, rfl, ?_⟩; have n0_ := aM (bb BK149.out hb); have n1_ := aM (bb BK150.out hb); have n2_ := aM (bb BK151.out hb); have n3_ := aM (below_step (zb) hb); clear BK149; clear BK150; clear BK151; clear HB; have BK149 := n0_; have BK150 := n1_; have BK151 := n2_; have HB := n3_; clear n0_ n1_ n2_ n3_; (try clear hb); (try clear hb2); (try clear hk); (try clear hi)) | ((with_reducible refine gate_dst (N := 7) rfl ?_); refine box_event ?hg (N := 7) ?hd (cs := #[.bool false, .bool false, .bool false, .bool false]) (t := 50) ?hr ?_; (case hd => rfl); (case hg => rfl); (case hr => exact zg); intro gb157 hg w14 hbox hb; have n0_ := aM (bb BK149.out hb); have n1_ := aM (bb BK150.out hb); have n2_ := aM (bb BK151.out hb); have n3_ := aM (below_step (zb) hb); have n4_ := aM (hbox); have n5_ := aM ((by rw [hg]; exact (below_size (zb)) : w.heap.size ≤ gb157)); have n6_ := aM ((by rw [hg]; exact (below_size (zb)) : w.heap.size ≤ gb157)); have n7_ := aM ((by rw [hg]; exact Nat.ne_of_lt (nl BK149.out) : gb149 ≠ gb157)); have n8_ := aM ((by rw [hg]; exact Nat.ne_of_gt (nl BK149.out) : gb157 ≠ gb149)); have n9_ := aM ((by rw [hg]; exact Nat.ne_of_lt (nl BK150.out) : gb150 ≠ gb157)); have n10_ := aM ((by rw [hg]; exact Nat.ne_of_gt (nl BK150.out) : gb157 ≠ gb150)); have n11_ := aM ((by rw [hg]; exact Nat.ne_of_lt (nl BK151.out) : gb151 ≠ gb157)); have n12_ := aM ((by rw [hg]; exact Nat.ne_of_gt (nl BK151.out) : gb157 ≠ gb151)); clear BK149; clear BK150; clear BK151; clear HB; have BK149 := n0_; have BK150 := n1_; have BK151 := n2_; have HB := n3_; have BK157 := n4_; have GW157 := n5_; have GE157 := n6_; have NB149_157 := n7_; have NB157_149 := n8_; have NB150_157 := n9_; have NB157_150 := n10_; have NB151_157 := n11_; have NB157_151 := n12_; clear n0_ n1_ n2_ n3_ n4_ n5_ n6_ n7_ n8_ n9_ n10_ n11_ n12_; clear hb hbox hg; have hnb15 := NB157_149.out; have hnc15 := NB149_157.out; have hnb16 := NB157_150.out; have hnc16 := NB150_157.out; have hnb17 := NB157_151.out; have hnc17 := NB151_157.out; obtain ⟨hcz18_0, hcz18_1, hcz18_2, hcz18_3, hfz18_0, hfz18_1, hfz18_2, hfz18_3⟩ := cells4 BK157.out))
 (try simp only [Act.put, List.setIfInBounds_toArray, List.set_cons_zero, List.set_cons_succ])
 go_cut [27] (fun v27 wc => ∃ (kq : Nat) (x27_3 : Bool), v27 = .bool x27_3 ∧ Aside0 (spec_Recover.j0 kq x27_3 a0_0 a0_1 a0_2 a0_3 a0_4 t152 t153 t154 t155 = some (r1, r2, r3, r4, r5, r6, r7)) ∧ Aside0 (kq ≤ k) ∧ Aside0 (wc.heap[gb149]? = some (.cells #[.int .i64 a0_0, .int .i64 a0_1, .bool a0_2, .bool a0_3, .bool a0_4] 24 (0, 0))) ∧ Aside0 (wc.heap[gb150]? = some (.cells #[.int .i64 a1_0, .int .i64 a1_1, .int .i64 a1_2, .int .i64 a1_3] 37 (0, 0))) ∧ Aside0 (wc.heap[gb151]? = some (.cells #[.int .i64 0, .int .i64 0, .bool false, .bool false, .bool false] 24 (0, 0))) ∧ Aside0 (wc.heap[gb157]? = some (.cells #[.bool t152, .bool t153, .bool t154, .bool t155] 50 (0, 0))) ∧ Aside0 (Below w.heap.size w wc))
 case first =>
  have H := HC4.out
  clear HC4
  by_cases c19 : t156 = true
  ·subst c19
   have H1 : ((spec_l04Dark.f k a0_0 a0_1 a0_2 a0_3 a0_4).bind fun t158 => (if t158 = true then ((spec_CountFaults.f a1_0 a1_1 a1_2 a1_3).bind fun t159 => (spec_Recover.j0 k (decide (t159 > 1)) a0_0 a0_1 a0_2 a0_3 a0_4 t152 t153 t154 t155)) else (spec_Recover.j0 k true a0_0 a0_1 a0_2 a0_3 a0_4 t152 t153 t154 t155))) = some (r1, r2, r3, r4, r5, r6, r7) := by rw [if_pos rfl] at H; exact H
   clear H
   have H := H1
   clear H1
   replace H := Option.bind_eq_some_iff.mp H
   obtain ⟨t158, A200, H⟩ := H
   replace H : (if t158 = true then ((spec_CountFaults.f a1_0 a1_1 a1_2 a1_3).bind fun t159 => (spec_Recover.j0 k (decide (t159 > 1)) a0_0 a0_1 a0_2 a0_3 a0_4 t152 t153 t154 t155)) else (spec_Recover.j0 k true a0_0 a0_1 a0_2 a0_3 a0_4 t152 t153 t154 t155)) = some (r1, r2, r3, r4, r5, r6, r7) := H
   have A20 := aM A200
   clear A200
   by_cases c21 : t158 = true
   ·subst c21
    have H1 : ((spec_CountFaults.f a1_0 a1_1 a1_2 a1_3).bind fun t159 => (spec_Recover.j0 k (decide (t159 > 1)) a0_0 a0_1 a0_2 a0_3 a0_4 t152 t153 t154 t155)) = some (r1, r2, r3, r4, r5, r6, r7) := by rw [if_pos rfl] at H; exact H
    clear H
    have H := H1
    clear H1
    replace H := Option.bind_eq_some_iff.mp H
    obtain ⟨t159, A220, H⟩ := H
    replace H : (spec_Recover.j0 k (decide (t159 > 1)) a0_0 a0_1 a0_2 a0_3 a0_4 t152 t153 t154 t155) = some (r1, r2, r3, r4, r5, r6, r7) := H
    have A22 := aM A220
    clear A220
    have H' := aM H
    clear H
    have hnb23 := NB149_150.out
    have hnc23 := NB150_149.out
    have hnb24 := NB149_151.out
    have hnc24 := NB151_149.out
    have hnb25 := NB149_157.out
    have hnc25 := NB157_149.out
    obtain ⟨hcz26_0, hcz26_1, hcz26_2, hcz26_3, hcz26_4, hfz26_0, hfz26_1, hfz26_2, hfz26_3, hfz26_4⟩ := cells5 BK149.out
    go_wp2_with (first | (go_at_call 52; (with_reducible refine (spec_l04Dark.calls k a0_0 a0_1 a0_2 a0_3 a0_4 true _ A20.out).mono ?_); rintro e w27 ⟨rfl, hb⟩; have n0_ := aM (blk_below (g := gb149) (o := .cells #[.int .i64 a0_0, .int .i64 a0_1, .bool a0_2, .bool a0_3, .bool a0_4] 24 (0, 0)) (by refine pq ?_; refine blk_far ?_ NB149_157.out _; refine pq ?_; refine blk_far ?_ NB149_157.out _; refine pq ?_; refine blk_far ?_ NB149_157.out _; refine pq ?_; refine blk_far ?_ NB149_157.out _; refine pq ?_; exact BK149.out) hb); have n1_ := aM (blk_below (g := gb150) (o := .cells #[.int .i64 a1_0, .int .i64 a1_1, .int .i64 a1_2, .int .i64 a1_3] 37 (0, 0)) (by refine pq ?_; refine blk_far ?_ NB150_157.out _; refine pq ?_; refine blk_far ?_ NB150_157.out _; refine pq ?_; refine blk_far ?_ NB150_157.out _; refine pq ?_; refine blk_far ?_ NB150_157.out _; refine pq ?_; exact BK150.out) hb); have n2_ := aM (blk_below (g := gb151) (o := .cells #[.int .i64 0, .int .i64 0, .bool false, .bool false, .bool false] 24 (0, 0)) (by refine pq ?_; refine blk_far ?_ NB151_157.out _; refine pq ?_; refine blk_far ?_ NB151_157.out _; refine pq ?_; refine blk_far ?_ NB151_157.out _; refine pq ?_; refine blk_far ?_ NB151_157.out _; refine pq ?_; exact BK151.out) hb); have n3_ := aM (blk_below (g := gb157) (o := .cells #[.bool t152, .bool t153, .bool t154, .bool t155] 50 (0, 0)) (by refine pq ?_; refine blk_put (cs := #[.bool t152, .bool t153, .bool t154, .bool false]) ?_ 3 _ rfl; refine pq ?_; refine blk_put (cs := #[.bool t152, .bool t153, .bool false, .bool false]) ?_ 2 _ rfl; refine pq ?_; refine blk_put (cs := #[.bool t152, .bool false, .bool false, .bool false]) ?_ 1 _ rfl; refine pq ?_; refine blk_put (cs := #[.bool false, .bool false, .bool false, .bool false]) ?_ 0 _ rfl; refine pq ?_; exact BK157.out) hb); have n4_ := aM (below_step (zb) hb); clear BK149; clear BK150; clear BK151; clear BK157; clear HB; have BK149 := n0_; have BK150 := n1_; have BK151 := n2_; have BK157 := n3_; have HB := n4_; clear n0_ n1_ n2_ n3_ n4_; (try clear hb); (try clear hb2); (try clear hk); (try clear hi); have hnb28 := NB150_151.out; have hnc28 := NB151_150.out; have hnb29 := NB150_157.out; have hnc29 := NB157_150.out; obtain ⟨hcz30_0, hcz30_1, hcz30_2, hcz30_3, hfz30_0, hfz30_1, hfz30_2, hfz30_3⟩ := cells4 BK150.out) | (go_at_call 57; (with_reducible refine (spec_CountFaults.calls a1_0 a1_1 a1_2 a1_3 t159 _ A22.out).mono ?_); rintro e w31 ⟨rfl, hb⟩; have n0_ := aM (bb BK149.out hb); have n1_ := aM (bb BK150.out hb); have n2_ := aM (bb BK151.out hb); have n3_ := aM (bb BK157.out hb); have n4_ := aM (below_step (zb) hb); clear BK149; clear BK150; clear BK151; clear BK157; clear HB; have BK149 := n0_; have BK150 := n1_; have BK151 := n2_; have BK157 := n3_; have HB := n4_; clear n0_ n1_ n2_ n3_ n4_; (try clear hb); (try clear hb2); (try clear hk); (try clear hi)))
    go_meet
    case rel => exact ⟨_, (decide (t159 > 1)), zs, H', ⟨by first | omega | exact Nat.le_refl _⟩, ⟨by exact pk BK149.out⟩, ⟨by exact pk BK150.out⟩, ⟨by exact pk BK151.out⟩, ⟨by exact pk BK157.out⟩, ⟨zb⟩⟩
   ·replace c21 := Bool.eq_false_iff.mpr c21
    subst c21
    have H1 : (spec_Recover.j0 k true a0_0 a0_1 a0_2 a0_3 a0_4 t152 t153 t154 t155) = some (r1, r2, r3, r4, r5, r6, r7) := by rw [if_neg (show ¬ (false = true) by decide)] at H; exact H
    clear H
    have H := H1
    clear H1
    have H' := aM H
    clear H
    have hnb32 := NB149_150.out
    have hnc32 := NB150_149.out
    have hnb33 := NB149_151.out
    have hnc33 := NB151_149.out
    have hnb34 := NB149_157.out
    have hnc34 := NB157_149.out
    obtain ⟨hcz35_0, hcz35_1, hcz35_2, hcz35_3, hcz35_4, hfz35_0, hfz35_1, hfz35_2, hfz35_3, hfz35_4⟩ := cells5 BK149.out
    go_wp2_with (first | (go_at_call 52; (with_reducible refine (spec_l04Dark.calls k a0_0 a0_1 a0_2 a0_3 a0_4 false _ A20.out).mono ?_); rintro e w36 ⟨rfl, hb⟩; have n0_ := aM (blk_below (g := gb149) (o := .cells #[.int .i64 a0_0, .int .i64 a0_1, .bool a0_2, .bool a0_3, .bool a0_4] 24 (0, 0)) (by refine pq ?_; refine blk_far ?_ NB149_157.out _; refine pq ?_; refine blk_far ?_ NB149_157.out _; refine pq ?_; refine blk_far ?_ NB149_157.out _; refine pq ?_; refine blk_far ?_ NB149_157.out _; refine pq ?_; exact BK149.out) hb); have n1_ := aM (blk_below (g := gb150) (o := .cells #[.int .i64 a1_0, .int .i64 a1_1, .int .i64 a1_2, .int .i64 a1_3] 37 (0, 0)) (by refine pq ?_; refine blk_far ?_ NB150_157.out _; refine pq ?_; refine blk_far ?_ NB150_157.out _; refine pq ?_; refine blk_far ?_ NB150_157.out _; refine pq ?_; refine blk_far ?_ NB150_157.out _; refine pq ?_; exact BK150.out) hb); have n2_ := aM (blk_below (g := gb151) (o := .cells #[.int .i64 0, .int .i64 0, .bool false, .bool false, .bool false] 24 (0, 0)) (by refine pq ?_; refine blk_far ?_ NB151_157.out _; refine pq ?_; refine blk_far ?_ NB151_157.out _; refine pq ?_; refine blk_far ?_ NB151_157.out _; refine pq ?_; refine blk_far ?_ NB151_157.out _; refine pq ?_; exact BK151.out) hb); have n3_ := aM (blk_below (g := gb157) (o := .cells #[.bool t152, .bool t153, .bool t154, .bool t155] 50 (0, 0)) (by refine pq ?_; refine blk_put (cs := #[.bool t152, .bool t153, .bool t154, .bool false]) ?_ 3 _ rfl; refine pq ?_; refine blk_put (cs := #[.bool t152, .bool t153, .bool false, .bool false]) ?_ 2 _ rfl; refine pq ?_; refine blk_put (cs := #[.bool t152, .bool false, .bool false, .bool false]) ?_ 1 _ rfl; refine pq ?_; refine blk_put (cs := #[.bool false, .bool false, .bool false, .bool false]) ?_ 0 _ rfl; refine pq ?_; exact BK157.out) hb); have n4_ := aM (below_step (zb) hb); clear BK149; clear BK150; clear BK151; clear BK157; clear HB; have BK149 := n0_; have BK150 := n1_; have BK151 := n2_; have BK157 := n3_; have HB := n4_; clear n0_ n1_ n2_ n3_ n4_; (try clear hb); (try clear hb2); (try clear hk); (try clear hi)))
    go_meet
    case rel => exact ⟨_, (true), zs, H', ⟨by first | omega | exact Nat.le_refl _⟩, ⟨by exact pk BK149.out⟩, ⟨by exact pk BK150.out⟩, ⟨by exact pk BK151.out⟩, ⟨by exact pk BK157.out⟩, ⟨zb⟩⟩
  ·replace c19 := Bool.eq_false_iff.mpr c19
   subst c19
   have H1 : (spec_Recover.j0 k true a0_0 a0_1 a0_2 a0_3 a0_4 t152 t153 t154 t155) = some (r1, r2, r3, r4, r5, r6, r7) := by rw [if_neg (show ¬ (false = true) by decide)] at H; exact H
   clear H
   have H := H1
   clear H1
   have H' := aM H
   clear H
   go_wp2
   go_meet
   case rel => exact ⟨_, (true), zs, H', ⟨by first | omega | exact Nat.le_refl _⟩, ⟨by refine pq ?_; refine blk_far ?_ NB149_157.out _; refine pq ?_; refine blk_far ?_ NB149_157.out _; refine pq ?_; refine blk_far ?_ NB149_157.out _; refine pq ?_; refine blk_far ?_ NB149_157.out _; refine pq ?_; exact BK149.out⟩, ⟨by refine pq ?_; refine blk_far ?_ NB150_157.out _; refine pq ?_; refine blk_far ?_ NB150_157.out _; refine pq ?_; refine blk_far ?_ NB150_157.out _; refine pq ?_; refine blk_far ?_ NB150_157.out _; refine pq ?_; exact BK150.out⟩, ⟨by refine pq ?_; refine blk_far ?_ NB151_157.out _; refine pq ?_; refine blk_far ?_ NB151_157.out _; refine pq ?_; refine blk_far ?_ NB151_157.out _; refine pq ?_; refine blk_far ?_ NB151_157.out _; refine pq ?_; exact BK151.out⟩, ⟨by refine pq ?_; refine blk_put (cs := #[.bool t152, .bool t153, .bool t154, .bool false]) ?_ 3 _ rfl; refine pq ?_; refine blk_put (cs := #[.bool t152, .bool t153, .bool false, .bool false]) ?_ 2 _ rfl; refine pq ?_; refine blk_put (cs := #[.bool t152, .bool false, .bool false, .bool false]) ?_ 1 _ rfl; refine pq ?_; refine blk_put (cs := #[.bool false, .bool false, .bool false, .bool false]) ?_ 0 _ rfl; refine pq ?_; exact BK157.out⟩, ⟨zb⟩⟩
 case rest =>
  clear HC4
  try clear c1
  try clear c2
  try clear p2
  try clear c3
  try clear c4
  try clear c8
  try clear c9
  try clear c11
  try clear c15
  try clear c16
  try clear c17
  try clear c19
  try clear c21
  try clear c23
  try clear c24
  try clear c25
  try clear c28
  try clear c29
  try clear c32
  try clear c33
  try clear c34
  try clear hcz10_0 hcz10_1 hcz10_2 hcz10_3 hcz10_4 hfz10_0 hfz10_1 hfz10_2 hfz10_3 hfz10_4
  try clear hcz12_0 hcz12_1 hcz12_2 hcz12_3 hfz12_0 hfz12_1 hfz12_2 hfz12_3
  try clear hcz18_0 hcz18_1 hcz18_2 hcz18_3 hfz18_0 hfz18_1 hfz18_2 hfz18_3
  try clear hcz26_0 hcz26_1 hcz26_2 hcz26_3 hcz26_4 hfz26_0 hfz26_1 hfz26_2 hfz26_3 hfz26_4
  try clear hcz30_0 hcz30_1 hcz30_2 hcz30_3 hfz30_0 hfz30_1 hfz30_2 hfz30_3
  try clear hcz35_0 hcz35_1 hcz35_2 hcz35_3 hcz35_4 hfz35_0 hfz35_1 hfz35_2 hfz35_3 hfz35_4
  obtain ⟨kq, x27_3, rfl, HA, HJ3, BK149, BK150, BK151, BK157, HB⟩ := hcut
  cases kq with
  | zero => exact absurd HA.out (by simp [spec_Recover.j0])
  | succ kj3 =>
   have H := HA.out
   clear HA
   simp only [spec_Recover.j0] at H
   by_cases c37 : x27_3 = true
   ·subst c37
    have H1 : (some (a0_0, a0_1, a0_2, a0_3, a0_4, 0, false)) = some (r1, r2, r3, r4, r5, r6, r7) := by rw [if_pos rfl] at H; exact H
    clear H
    have H := H1
    clear H1
    simp only [Option.some.injEq, Prod.mk.injEq] at H
    obtain ⟨rfl, rfl, rfl, rfl, rfl, rfl, rfl⟩ := H
    have hnb38 := NB149_150.out
    have hnc38 := NB150_149.out
    have hnb39 := NB149_151.out
    have hnc39 := NB151_149.out
    have hnb40 := NB149_157.out
    have hnc40 := NB157_149.out
    obtain ⟨hcz41_0, hcz41_1, hcz41_2, hcz41_3, hcz41_4, hfz41_0, hfz41_1, hfz41_2, hfz41_3, hfz41_4⟩ := cells5 BK149.out
    have hnb42 := NB151_150.out
    have hnc42 := NB150_151.out
    have hnb43 := NB151_157.out
    have hnc43 := NB157_151.out
    obtain ⟨hcz44_0, hcz44_1, hcz44_2, hcz44_3, hcz44_4, hfz44_0, hfz44_1, hfz44_2, hfz44_3, hfz44_4⟩ := cells5 BK151.out
    go_wp2
    refine bodyPost_ret (results_ctt rfl _ _ gb151 24 #[.int .i64 a0_0, .int .i64 a0_1, .bool a0_2, .bool a0_3, .bool a0_4] (0, 0) _ rfl (by refine pq ?_; refine blk_put (cs := #[.int .i64 a0_0, .int .i64 a0_1, .bool a0_2, .bool a0_3, .bool false]) ?_ 4 _ rfl; refine pq ?_; refine blk_put (cs := #[.int .i64 a0_0, .int .i64 a0_1, .bool a0_2, .bool false, .bool false]) ?_ 3 _ rfl; refine pq ?_; refine blk_put (cs := #[.int .i64 a0_0, .int .i64 a0_1, .bool false, .bool false, .bool false]) ?_ 2 _ rfl; refine pq ?_; refine blk_put (cs := #[.int .i64 a0_0, .int .i64 0, .bool false, .bool false, .bool false]) ?_ 1 _ rfl; refine pq ?_; refine blk_put (cs := #[.int .i64 0, .int .i64 0, .bool false, .bool false, .bool false]) ?_ 0 _ rfl; refine pq ?_; exact BK151.out) Try.underlying24 rfl (by kernel_rfl)) rfl ?_
    exact ⟨zr, zb⟩
   ·replace c37 := Bool.eq_false_iff.mpr c37
    subst c37
    have H1 : ((spec_Verdict.f kj3 a0_0 t152 t153 t154 t155).bind fun t160 => (if t160 = 3 then (some (0, a0_1, false, a0_3, a0_4, t160, true)) else (if t160 = 4 then (some (0, a0_1, false, a0_3, a0_4, t160, true)) else (some (a0_0, a0_1, a0_2, a0_3, a0_4, t160, true))))) = some (r1, r2, r3, r4, r5, r6, r7) := by rw [if_neg (show ¬ (false = true) by decide)] at H; exact H
    clear H
    have H := H1
    clear H1
    replace H := Option.bind_eq_some_iff.mp H
    obtain ⟨t160, A450, H⟩ := H
    replace H : (if t160 = 3 then (some (0, a0_1, false, a0_3, a0_4, t160, true)) else (if t160 = 4 then (some (0, a0_1, false, a0_3, a0_4, t160, true)) else (some (a0_0, a0_1, a0_2, a0_3, a0_4, t160, true)))) = some (r1, r2, r3, r4, r5, r6, r7) := H
    have A45 := aM A450
    clear A450
    by_cases c46 : t160 = 3
    ·rw [if_pos c46] at H
     have c46b0 : (t160 == 3) = true := beq_iff_eq.mpr c46
     have c46b1 : (t160 != 3) = false := bne_eq_false_iff_eq.mpr c46
     clear c46
     simp only [Option.some.injEq, Prod.mk.injEq] at H
     obtain ⟨rfl, rfl, rfl, rfl, rfl, rfl, rfl⟩ := H
     have hnb47 := NB149_150.out
     have hnc47 := NB150_149.out
     have hnb48 := NB149_151.out
     have hnc48 := NB151_149.out
     have hnb49 := NB149_157.out
     have hnc49 := NB157_149.out
     obtain ⟨hcz50_0, hcz50_1, hcz50_2, hcz50_3, hcz50_4, hfz50_0, hfz50_1, hfz50_2, hfz50_3, hfz50_4⟩ := cells5 BK149.out
     have hnb51 := NB157_150.out
     have hnc51 := NB150_157.out
     have hnb52 := NB157_151.out
     have hnc52 := NB151_157.out
     obtain ⟨hcz53_0, hcz53_1, hcz53_2, hcz53_3, hfz53_0, hfz53_1, hfz53_2, hfz53_3⟩ := cells4 BK157.out
     go_wp2_with (first | ((with_reducible refine gate_callee (f := 58) rfl ?_); refine goesL_ (some 32) rfl rfl Try.func58 (by kernel_rfl) rfl #[.int .i64 a0_0, .agg #[.bool t152, .bool t153, .bool t154, .bool t155]] rfl za ?_; (with_reducible refine (spec_Verdict.calls kj3 a0_0 t152 t153 t154 t155 t160 _ A45.out).mono ?_); rintro e w54 ⟨rfl, hb⟩; refine ⟨_, rfl, ?_⟩; have n0_ := aM (bb BK149.out hb); have n1_ := aM (bb BK150.out hb); have n2_ := aM (bb BK151.out hb); have n3_ := aM (bb BK157.out hb); have n4_ := aM (below_step (zb) hb); clear BK149; clear BK150; clear BK151; clear BK157; clear HB; have BK149 := n0_; have BK150 := n1_; have BK151 := n2_; have BK157 := n3_; have HB := n4_; clear n0_ n1_ n2_ n3_ n4_; (try clear hb); (try clear hb2); (try clear hk); (try clear hi); obtain ⟨hcz55_0, hcz55_1, hcz55_2, hcz55_3, hcz55_4, hfz55_0, hfz55_1, hfz55_2, hfz55_3, hfz55_4⟩ := cells5 BK149.out; have hnb56 := NB151_150.out; have hnc56 := NB150_151.out; obtain ⟨hcz57_0, hcz57_1, hcz57_2, hcz57_3, hcz57_4, hfz57_0, hfz57_1, hfz57_2, hfz57_3, hfz57_4⟩ := cells5 BK151.out))
     refine bodyPost_ret (results_ctt rfl _ _ gb151 24 #[.int .i64 0, .int .i64 a0_1, .bool false, .bool a0_3, .bool a0_4] (0, 0) _ rfl (by refine pq ?_; refine blk_put (cs := #[.int .i64 0, .int .i64 a0_1, .bool false, .bool a0_3, .bool false]) ?_ 4 _ rfl; refine pq ?_; refine blk_put (cs := #[.int .i64 0, .int .i64 a0_1, .bool false, .bool false, .bool false]) ?_ 3 _ rfl; refine pq ?_; refine blk_put (cs := #[.int .i64 0, .int .i64 a0_1, .bool false, .bool false, .bool false]) ?_ 2 _ rfl; refine pq ?_; refine blk_put (cs := #[.int .i64 0, .int .i64 0, .bool false, .bool false, .bool false]) ?_ 1 _ rfl; refine pq ?_; refine blk_put (cs := #[.int .i64 0, .int .i64 0, .bool false, .bool false, .bool false]) ?_ 0 _ rfl; refine pq ?_; refine blk_far ?_ NB151_149.out _; refine pq ?_; refine blk_far ?_ NB151_149.out _; refine pq ?_; exact BK151.out) Try.underlying24 rfl (by kernel_rfl)) rfl ?_
     exact ⟨zr, zb⟩
    ·rw [if_neg c46] at H
     have c46b0 : (t160 == 3) = false := beq_eq_false_iff_ne.mpr c46
     have c46b1 : (t160 != 3) = true := bne_iff_ne.mpr c46
     by_cases c58 : t160 = 4
     ·rw [if_pos c58] at H
      have c58b0 : (t160 == 4) = true := beq_iff_eq.mpr c58
      have c58b1 : (t160 != 4) = false := bne_eq_false_iff_eq.mpr c58
      clear c58
      simp only [Option.some.injEq, Prod.mk.injEq] at H
      obtain ⟨rfl, rfl, rfl, rfl, rfl, rfl, rfl⟩ := H
      have hnb59 := NB149_150.out
      have hnc59 := NB150_149.out
      have hnb60 := NB149_151.out
      have hnc60 := NB151_149.out
      have hnb61 := NB149_157.out
      have hnc61 := NB157_149.out
      obtain ⟨hcz62_0, hcz62_1, hcz62_2, hcz62_3, hcz62_4, hfz62_0, hfz62_1, hfz62_2, hfz62_3, hfz62_4⟩ := cells5 BK149.out
      have hnb63 := NB157_150.out
      have hnc63 := NB150_157.out
      have hnb64 := NB157_151.out
      have hnc64 := NB151_157.out
      obtain ⟨hcz65_0, hcz65_1, hcz65_2, hcz65_3, hfz65_0, hfz65_1, hfz65_2, hfz65_3⟩ := cells4 BK157.out
      go_wp2_with (first | ((with_reducible refine gate_callee (f := 58) rfl ?_); refine goesL_ (some 32) rfl rfl Try.func58 (by kernel_rfl) rfl #[.int .i64 a0_0, .agg #[.bool t152, .bool t153, .bool t154, .bool t155]] rfl za ?_; (with_reducible refine (spec_Verdict.calls kj3 a0_0 t152 t153 t154 t155 t160 _ A45.out).mono ?_); rintro e w66 ⟨rfl, hb⟩; refine ⟨_, rfl, ?_⟩; have n0_ := aM (bb BK149.out hb); have n1_ := aM (bb BK150.out hb); have n2_ := aM (bb BK151.out hb); have n3_ := aM (bb BK157.out hb); have n4_ := aM (below_step (zb) hb); clear BK149; clear BK150; clear BK151; clear BK157; clear HB; have BK149 := n0_; have BK150 := n1_; have BK151 := n2_; have BK157 := n3_; have HB := n4_; clear n0_ n1_ n2_ n3_ n4_; (try clear hb); (try clear hb2); (try clear hk); (try clear hi); obtain ⟨hcz67_0, hcz67_1, hcz67_2, hcz67_3, hcz67_4, hfz67_0, hfz67_1, hfz67_2, hfz67_3, hfz67_4⟩ := cells5 BK149.out; have hnb68 := NB151_150.out; have hnc68 := NB150_151.out; obtain ⟨hcz69_0, hcz69_1, hcz69_2, hcz69_3, hcz69_4, hfz69_0, hfz69_1, hfz69_2, hfz69_3, hfz69_4⟩ := cells5 BK151.out))
      refine bodyPost_ret (results_ctt rfl _ _ gb151 24 #[.int .i64 0, .int .i64 a0_1, .bool false, .bool a0_3, .bool a0_4] (0, 0) _ rfl (by refine pq ?_; refine blk_put (cs := #[.int .i64 0, .int .i64 a0_1, .bool false, .bool a0_3, .bool false]) ?_ 4 _ rfl; refine pq ?_; refine blk_put (cs := #[.int .i64 0, .int .i64 a0_1, .bool false, .bool false, .bool false]) ?_ 3 _ rfl; refine pq ?_; refine blk_put (cs := #[.int .i64 0, .int .i64 a0_1, .bool false, .bool false, .bool false]) ?_ 2 _ rfl; refine pq ?_; refine blk_put (cs := #[.int .i64 0, .int .i64 0, .bool false, .bool false, .bool false]) ?_ 1 _ rfl; refine pq ?_; refine blk_put (cs := #[.int .i64 0, .int .i64 0, .bool false, .bool false, .bool false]) ?_ 0 _ rfl; refine pq ?_; refine blk_far ?_ NB151_149.out _; refine pq ?_; refine blk_far ?_ NB151_149.out _; refine pq ?_; exact BK151.out) Try.underlying24 rfl (by kernel_rfl)) rfl ?_
      exact ⟨zr, zb⟩
     ·rw [if_neg c58] at H
      have c58b0 : (t160 == 4) = false := beq_eq_false_iff_ne.mpr c58
      have c58b1 : (t160 != 4) = true := bne_iff_ne.mpr c58
      simp only [Option.some.injEq, Prod.mk.injEq] at H
      obtain ⟨rfl, rfl, rfl, rfl, rfl, rfl, rfl⟩ := H
      have hnb70 := NB149_150.out
      have hnc70 := NB150_149.out
      have hnb71 := NB149_151.out
      have hnc71 := NB151_149.out
      have hnb72 := NB149_157.out
      have hnc72 := NB157_149.out
      obtain ⟨hcz73_0, hcz73_1, hcz73_2, hcz73_3, hcz73_4, hfz73_0, hfz73_1, hfz73_2, hfz73_3, hfz73_4⟩ := cells5 BK149.out
      have hnb74 := NB157_150.out
      have hnc74 := NB150_157.out
      have hnb75 := NB157_151.out
      have hnc75 := NB151_157.out
      obtain ⟨hcz76_0, hcz76_1, hcz76_2, hcz76_3, hfz76_0, hfz76_1, hfz76_2, hfz76_3⟩ := cells4 BK157.out
      go_wp2_with (first | ((with_reducible refine gate_callee (f := 58) rfl ?_); refine goesL_ (some 32) rfl rfl Try.func58 (by kernel_rfl) rfl #[.int .i64 a0_0, .agg #[.bool t152, .bool t153, .bool t154, .bool t155]] rfl za ?_; (with_reducible refine (spec_Verdict.calls kj3 a0_0 t152 t153 t154 t155 t160 _ A45.out).mono ?_); rintro e w77 ⟨rfl, hb⟩; refine ⟨_, rfl, ?_⟩; have n0_ := aM (bb BK149.out hb); have n1_ := aM (bb BK150.out hb); have n2_ := aM (bb BK151.out hb); have n3_ := aM (bb BK157.out hb); have n4_ := aM (below_step (zb) hb); clear BK149; clear BK150; clear BK151; clear BK157; clear HB; have BK149 := n0_; have BK150 := n1_; have BK151 := n2_; have BK157 := n3_; have HB := n4_; clear n0_ n1_ n2_ n3_ n4_; (try clear hb); (try clear hb2); (try clear hk); (try clear hi); obtain ⟨hcz78_0, hcz78_1, hcz78_2, hcz78_3, hcz78_4, hfz78_0, hfz78_1, hfz78_2, hfz78_3, hfz78_4⟩ := cells5 BK149.out; have hnb79 := NB151_150.out; have hnc79 := NB150_151.out; obtain ⟨hcz80_0, hcz80_1, hcz80_2, hcz80_3, hcz80_4, hfz80_0, hfz80_1, hfz80_2, hfz80_3, hfz80_4⟩ := cells5 BK151.out))
      refine bodyPost_ret (results_ctt rfl _ _ gb151 24 #[.int .i64 a0_0, .int .i64 a0_1, .bool a0_2, .bool a0_3, .bool a0_4] (0, 0) _ rfl (by refine pq ?_; refine blk_put (cs := #[.int .i64 a0_0, .int .i64 a0_1, .bool a0_2, .bool a0_3, .bool false]) ?_ 4 _ rfl; refine pq ?_; refine blk_put (cs := #[.int .i64 a0_0, .int .i64 a0_1, .bool a0_2, .bool false, .bool false]) ?_ 3 _ rfl; refine pq ?_; refine blk_put (cs := #[.int .i64 a0_0, .int .i64 a0_1, .bool false, .bool false, .bool false]) ?_ 2 _ rfl; refine pq ?_; refine blk_put (cs := #[.int .i64 a0_0, .int .i64 0, .bool false, .bool false, .bool false]) ?_ 1 _ rfl; refine pq ?_; refine blk_put (cs := #[.int .i64 0, .int .i64 0, .bool false, .bool false, .bool false]) ?_ 0 _ rfl; refine pq ?_; exact BK151.out) Try.underlying24 rfl (by kernel_rfl)) rfl ?_
      exact ⟨zr, zb⟩

/-! ### spec_CutPower: function 31 -/
def spec_CutPower.f (k : Nat) (a0_0 : Int) (a0_1 : Int) (a0_2 : Bool) (a0_3 : Bool) (a0_4 : Bool) : Option (Int × Int × Bool × Bool × Bool) := (spec_DoorOk.f k a0_0 a0_1 a0_2 a0_3 a0_4).bind fun t163 => (if t163 = true then (some (a0_0, 0, a0_2, a0_3, a0_4)) else (some (a0_0, a0_1, a0_2, a0_3, a0_4)))
theorem spec_CutPower.mono : ∀ a0 a1 a2 a3 a4 k, LeO (spec_CutPower.f k a0 a1 a2 a3 a4) (spec_CutPower.f (k + 1) a0 a1 a2 a3 a4) := by
 intro a0 a1 a2 a3 a4 k
 unfold spec_CutPower.f
 repeat' first
   | (with_reducible exact spec_DoorOk.mono _ _ _ _ _ _)
   | (with_reducible exact LeO.refl _)
   | (with_reducible exact LeO.none _)
   | (with_reducible refine LeO.ite ?_ ?_)
   | (with_reducible refine LeO.bind ?_ (fun _ => ?_))
   | exact spec_DoorOk.mono _ _ _ _ _ _
   | exact LeO.none _
   | refine LeO.ite ?_ ?_
   | refine LeO.bind ?_ (fun _ => ?_)
set_option maxHeartbeats 8000000 in
set_option maxRecDepth 100000 in
theorem spec_CutPower.calls (k : Nat) (a0_0 : Int) (a0_1 : Int) (a0_2 : Bool) (a0_3 : Bool) (a0_4 : Bool) (r1 : Int) (r2 : Int) (r3 : Bool) (r4 : Bool) (r5 : Bool) (w : World) (h : spec_CutPower.f k a0_0 a0_1 a0_2 a0_3 a0_4 = some (r1, r2, r3, r4, r5)) :
  Calls Try.prog 31 #[.agg #[.int .i64 a0_0, .int .i64 a0_1, .bool a0_2, .bool a0_3, .bool a0_4]] w fun e w' => e = .returned (.agg #[.int .i64 r1, .int .i64 r2, .bool r3, .bool r4, .bool r5]) ∧ Below w.heap.size w w' := by
 have hu24 := Try.underlying24
 have HB := aM (Below.refl w.heap.size w)
 have H : ((spec_DoorOk.f k a0_0 a0_1 a0_2 a0_3 a0_4).bind fun t163 => (if t163 = true then (some (a0_0, 0, a0_2, a0_3, a0_4)) else (some (a0_0, a0_1, a0_2, a0_3, a0_4)))) = some (r1, r2, r3, r4, r5) := h
 clear h
 replace H := Option.bind_eq_some_iff.mp H
 obtain ⟨t163, A20, H⟩ := H
 replace H : (if t163 = true then (some (a0_0, 0, a0_2, a0_3, a0_4)) else (some (a0_0, a0_1, a0_2, a0_3, a0_4))) = some (r1, r2, r3, r4, r5) := H
 have A2 := aM A20
 clear A20
 by_cases c3 : t163 = true
 ·subst c3
  have H1 : (some (a0_0, 0, a0_2, a0_3, a0_4)) = some (r1, r2, r3, r4, r5) := by rw [if_pos rfl] at H; exact H
  clear H
  have H := H1
  clear H1
  simp only [Option.some.injEq, Prod.mk.injEq] at H
  obtain ⟨rfl, rfl, rfl, rfl, rfl⟩ := H
  go_enter Try.func31, Try.ntmps31
  go_wp2_with (first | ((with_reducible refine gate_dst (N := 1) rfl ?_); refine box_event ?hg (N := 1) ?hd (cs := #[.int .i64 a0_0, .int .i64 a0_1, .bool a0_2, .bool a0_3, .bool a0_4]) (t := 24) ?hr ?_; (case hd => rfl); (case hg => rfl); (case hr => exact zg); intro gb161 hg w4 hbox hb; have n0_ := aM (below_step (zb) hb); have n1_ := aM (hbox); have n2_ := aM ((by rw [hg]; exact (below_size (zb)) : w.heap.size ≤ gb161)); have n3_ := aM ((by rw [hg]; exact (below_size (zb)) : w.heap.size ≤ gb161)); clear HB; have HB := n0_; have BK161 := n1_; have GW161 := n2_; have GE161 := n3_; clear n0_ n1_ n2_ n3_; clear hb hbox hg) | ((with_reducible refine gate_dst (N := 2) rfl ?_); refine box_event ?hg (N := 2) ?hd (cs := #[.int .i64 0, .int .i64 0, .bool false, .bool false, .bool false]) (t := 24) ?hr ?_; (case hd => rfl); (case hg => rfl); (case hr => exact zg); intro gb162 hg w5 hbox hb; have n0_ := aM (bb BK161.out hb); have n1_ := aM (below_step (zb) hb); have n2_ := aM (hbox); have n3_ := aM ((by rw [hg]; exact (below_size (zb)) : w.heap.size ≤ gb162)); have n4_ := aM ((by rw [hg]; exact (below_size (zb)) : w.heap.size ≤ gb162)); have n5_ := aM ((by rw [hg]; exact Nat.ne_of_lt (nl BK161.out) : gb161 ≠ gb162)); have n6_ := aM ((by rw [hg]; exact Nat.ne_of_gt (nl BK161.out) : gb162 ≠ gb161)); clear BK161; clear HB; have BK161 := n0_; have HB := n1_; have BK162 := n2_; have GW162 := n3_; have GE162 := n4_; have NB161_162 := n5_; have NB162_161 := n6_; clear n0_ n1_ n2_ n3_ n4_ n5_ n6_; clear hb hbox hg; have hnb6 := NB161_162.out; have hnc6 := NB162_161.out; obtain ⟨hcz7_0, hcz7_1, hcz7_2, hcz7_3, hcz7_4, hfz7_0, hfz7_1, hfz7_2, hfz7_3, hfz7_4⟩ := cells5 BK161.out) | ((with_reducible refine gate_callee (f := 51) rfl ?_); refine goesL_ (some 4) rfl rfl Try.func51 (by kernel_rfl) rfl #[.agg #[.int .i64 a0_0, .int .i64 a0_1, .bool a0_2, .bool a0_3, .bool a0_4]] rfl za ?_; (with_reducible refine (spec_DoorOk.calls k a0_0 a0_1 a0_2 a0_3 a0_4 true _ A2.out).mono ?_); rintro e w8 ⟨rfl, hb⟩; refine ⟨_, rfl, ?_⟩; have n0_ := aM (bb BK161.out hb); have n1_ := aM (bb BK162.out hb); have n2_ := aM (below_step (zb) hb); clear BK161; clear BK162; clear HB; have BK161 := n0_; have BK162 := n1_; have HB := n2_; clear n0_ n1_ n2_; (try clear hb); (try clear hb2); (try clear hk); (try clear hi); obtain ⟨hcz9_0, hcz9_1, hcz9_2, hcz9_3, hcz9_4, hfz9_0, hfz9_1, hfz9_2, hfz9_3, hfz9_4⟩ := cells5 BK161.out; obtain ⟨hcz10_0, hcz10_1, hcz10_2, hcz10_3, hcz10_4, hfz10_0, hfz10_1, hfz10_2, hfz10_3, hfz10_4⟩ := cells5 BK162.out))
  refine bodyPost_ret (results_cell_row rfl _ _ gb162 24 #[.int .i64 a0_0, .int .i64 0, .bool a0_2, .bool a0_3, .bool a0_4] (0, 0) _ rfl (by refine pq ?_; refine blk_put (cs := #[.int .i64 a0_0, .int .i64 0, .bool a0_2, .bool a0_3, .bool false]) ?_ 4 _ rfl; refine pq ?_; refine blk_put (cs := #[.int .i64 a0_0, .int .i64 0, .bool a0_2, .bool false, .bool false]) ?_ 3 _ rfl; refine pq ?_; refine blk_put (cs := #[.int .i64 a0_0, .int .i64 0, .bool false, .bool false, .bool false]) ?_ 2 _ rfl; refine pq ?_; refine blk_put (cs := #[.int .i64 a0_0, .int .i64 0, .bool false, .bool false, .bool false]) ?_ 1 _ rfl; refine pq ?_; refine blk_put (cs := #[.int .i64 0, .int .i64 0, .bool false, .bool false, .bool false]) ?_ 0 _ rfl; refine pq ?_; refine blk_far ?_ NB162_161.out _; refine pq ?_; exact BK162.out) Try.underlying24 rfl (by kernel_rfl)) rfl ?_
  exact ⟨zr, zb⟩
 ·replace c3 := Bool.eq_false_iff.mpr c3
  subst c3
  have H1 : (some (a0_0, a0_1, a0_2, a0_3, a0_4)) = some (r1, r2, r3, r4, r5) := by rw [if_neg (show ¬ (false = true) by decide)] at H; exact H
  clear H
  have H := H1
  clear H1
  simp only [Option.some.injEq, Prod.mk.injEq] at H
  obtain ⟨rfl, rfl, rfl, rfl, rfl⟩ := H
  go_enter Try.func31, Try.ntmps31
  go_wp2_with (first | ((with_reducible refine gate_dst (N := 1) rfl ?_); refine box_event ?hg (N := 1) ?hd (cs := #[.int .i64 a0_0, .int .i64 a0_1, .bool a0_2, .bool a0_3, .bool a0_4]) (t := 24) ?hr ?_; (case hd => rfl); (case hg => rfl); (case hr => exact zg); intro gb161 hg w11 hbox hb; have n0_ := aM (below_step (zb) hb); have n1_ := aM (hbox); have n2_ := aM ((by rw [hg]; exact (below_size (zb)) : w.heap.size ≤ gb161)); have n3_ := aM ((by rw [hg]; exact (below_size (zb)) : w.heap.size ≤ gb161)); clear HB; have HB := n0_; have BK161 := n1_; have GW161 := n2_; have GE161 := n3_; clear n0_ n1_ n2_ n3_; clear hb hbox hg) | ((with_reducible refine gate_dst (N := 2) rfl ?_); refine box_event ?hg (N := 2) ?hd (cs := #[.int .i64 0, .int .i64 0, .bool false, .bool false, .bool false]) (t := 24) ?hr ?_; (case hd => rfl); (case hg => rfl); (case hr => exact zg); intro gb162 hg w12 hbox hb; have n0_ := aM (bb BK161.out hb); have n1_ := aM (below_step (zb) hb); have n2_ := aM (hbox); have n3_ := aM ((by rw [hg]; exact (below_size (zb)) : w.heap.size ≤ gb162)); have n4_ := aM ((by rw [hg]; exact (below_size (zb)) : w.heap.size ≤ gb162)); have n5_ := aM ((by rw [hg]; exact Nat.ne_of_lt (nl BK161.out) : gb161 ≠ gb162)); have n6_ := aM ((by rw [hg]; exact Nat.ne_of_gt (nl BK161.out) : gb162 ≠ gb161)); clear BK161; clear HB; have BK161 := n0_; have HB := n1_; have BK162 := n2_; have GW162 := n3_; have GE162 := n4_; have NB161_162 := n5_; have NB162_161 := n6_; clear n0_ n1_ n2_ n3_ n4_ n5_ n6_; clear hb hbox hg; have hnb13 := NB161_162.out; have hnc13 := NB162_161.out; obtain ⟨hcz14_0, hcz14_1, hcz14_2, hcz14_3, hcz14_4, hfz14_0, hfz14_1, hfz14_2, hfz14_3, hfz14_4⟩ := cells5 BK161.out) | ((with_reducible refine gate_callee (f := 51) rfl ?_); refine goesL_ (some 4) rfl rfl Try.func51 (by kernel_rfl) rfl #[.agg #[.int .i64 a0_0, .int .i64 a0_1, .bool a0_2, .bool a0_3, .bool a0_4]] rfl za ?_; (with_reducible refine (spec_DoorOk.calls k a0_0 a0_1 a0_2 a0_3 a0_4 false _ A2.out).mono ?_); rintro e w15 ⟨rfl, hb⟩; refine ⟨_, rfl, ?_⟩; have n0_ := aM (bb BK161.out hb); have n1_ := aM (bb BK162.out hb); have n2_ := aM (below_step (zb) hb); clear BK161; clear BK162; clear HB; have BK161 := n0_; have BK162 := n1_; have HB := n2_; clear n0_ n1_ n2_; (try clear hb); (try clear hb2); (try clear hk); (try clear hi); obtain ⟨hcz16_0, hcz16_1, hcz16_2, hcz16_3, hcz16_4, hfz16_0, hfz16_1, hfz16_2, hfz16_3, hfz16_4⟩ := cells5 BK161.out; obtain ⟨hcz17_0, hcz17_1, hcz17_2, hcz17_3, hcz17_4, hfz17_0, hfz17_1, hfz17_2, hfz17_3, hfz17_4⟩ := cells5 BK162.out))
  refine bodyPost_ret (results_cell_row rfl _ _ gb162 24 #[.int .i64 a0_0, .int .i64 a0_1, .bool a0_2, .bool a0_3, .bool a0_4] (0, 0) _ rfl (by refine pq ?_; refine blk_put (cs := #[.int .i64 a0_0, .int .i64 a0_1, .bool a0_2, .bool a0_3, .bool false]) ?_ 4 _ rfl; refine pq ?_; refine blk_put (cs := #[.int .i64 a0_0, .int .i64 a0_1, .bool a0_2, .bool false, .bool false]) ?_ 3 _ rfl; refine pq ?_; refine blk_put (cs := #[.int .i64 a0_0, .int .i64 a0_1, .bool false, .bool false, .bool false]) ?_ 2 _ rfl; refine pq ?_; refine blk_put (cs := #[.int .i64 a0_0, .int .i64 0, .bool false, .bool false, .bool false]) ?_ 1 _ rfl; refine pq ?_; refine blk_put (cs := #[.int .i64 0, .int .i64 0, .bool false, .bool false, .bool false]) ?_ 0 _ rfl; refine pq ?_; exact BK162.out) Try.underlying24 rfl (by kernel_rfl)) rfl ?_
  exact ⟨zr, zb⟩

/-! ### spec_BeginDoor: function 77 -/
def spec_BeginDoor.j0 : Nat → Int → Bool → Int → Int → Bool → Bool → Bool → Option (Int × Int × Bool × Bool × Bool × Bool)
 | 0, _, _, _, _, _, _, _ => none
 | k + 1, x1, x28, x165000, x165001, x165002, x165003, x165004 => if x28 = true then (some (x165000, x165001, x165002, x165003, x165004, false)) else (some (x1, 1, x165002, x165003, x165004, true))
def spec_BeginDoor.f (k : Nat) (a0_0 : Int) (a0_1 : Int) (a0_2 : Bool) (a0_3 : Bool) (a0_4 : Bool) (a1 : Int) : Option (Int × Int × Bool × Bool × Bool × Bool) := (spec_DoorOk.f k a0_0 a0_1 a0_2 a0_3 a0_4).bind fun t166 => (if t166 = true then (if a0_0 = 0 then (if a1 = 1 then (spec_BeginDoor.j0 k a1 (a0_4 != (a1 == 2)) a0_0 a0_1 a0_2 a0_3 a0_4) else (if a1 = 2 then (spec_BeginDoor.j0 k a1 (a0_4 != (a1 == 2)) a0_0 a0_1 a0_2 a0_3 a0_4) else (spec_BeginDoor.j0 k a1 true a0_0 a0_1 a0_2 a0_3 a0_4))) else (spec_BeginDoor.j0 k a1 true a0_0 a0_1 a0_2 a0_3 a0_4)) else (spec_BeginDoor.j0 k a1 true a0_0 a0_1 a0_2 a0_3 a0_4))
theorem spec_BeginDoor.mono_l : ∀ k, (∀ y0 y1 y2 y3 y4 y5 y6, LeO (spec_BeginDoor.j0 k y0 y1 y2 y3 y4 y5 y6) (spec_BeginDoor.j0 (k + 1) y0 y1 y2 y3 y4 y5 y6))
 | 0 => fun _ _ _ _ _ _ _ r h => by simp [spec_BeginDoor.j0] at h
 | k + 1 => by
  have ih0 := spec_BeginDoor.mono_l k
  ·intro y0 y1 y2 y3 y4 y5 y6
   unfold spec_BeginDoor.j0
   repeat' first
   | (with_reducible exact ih0 _ _ _ _ _ _ _)
   | (with_reducible exact spec_DoorOk.mono _ _ _ _ _ _)
   | (with_reducible exact LeO.refl _)
   | (with_reducible exact LeO.none _)
   | (with_reducible refine LeO.ite ?_ ?_)
   | (with_reducible refine LeO.bind ?_ (fun _ => ?_))
   | exact ih0 _ _ _ _ _ _ _
   | exact spec_DoorOk.mono _ _ _ _ _ _
   | exact LeO.none _
   | refine LeO.ite ?_ ?_
   | refine LeO.bind ?_ (fun _ => ?_)
theorem spec_BeginDoor.mono : ∀ a0 a1 a2 a3 a4 a5 k, LeO (spec_BeginDoor.f k a0 a1 a2 a3 a4 a5) (spec_BeginDoor.f (k + 1) a0 a1 a2 a3 a4 a5) := by
 intro a0 a1 a2 a3 a4 a5 k
 have ih0 := spec_BeginDoor.mono_l k
 unfold spec_BeginDoor.f
 repeat' first
   | (with_reducible exact ih0 _ _ _ _ _ _ _)
   | (with_reducible exact spec_DoorOk.mono _ _ _ _ _ _)
   | (with_reducible exact LeO.refl _)
   | (with_reducible exact LeO.none _)
   | (with_reducible refine LeO.ite ?_ ?_)
   | (with_reducible refine LeO.bind ?_ (fun _ => ?_))
   | exact ih0 _ _ _ _ _ _ _
   | exact spec_DoorOk.mono _ _ _ _ _ _
   | exact LeO.none _
   | refine LeO.ite ?_ ?_
   | refine LeO.bind ?_ (fun _ => ?_)
set_option maxHeartbeats 8000000 in
set_option maxRecDepth 100000 in
theorem spec_BeginDoor.calls (k : Nat) (a0_0 : Int) (a0_1 : Int) (a0_2 : Bool) (a0_3 : Bool) (a0_4 : Bool) (a1 : Int) (r1 : Int) (r2 : Int) (r3 : Bool) (r4 : Bool) (r5 : Bool) (r6 : Bool) (w : World) (h : spec_BeginDoor.f k a0_0 a0_1 a0_2 a0_3 a0_4 a1 = some (r1, r2, r3, r4, r5, r6)) :
  Calls Try.prog 77 #[.agg #[.int .i64 a0_0, .int .i64 a0_1, .bool a0_2, .bool a0_3, .bool a0_4], .int .i64 a1] w fun e w' => e = .returned (.tuple #[.agg #[.int .i64 r1, .int .i64 r2, .bool r3, .bool r4, .bool r5], .bool r6]) ∧ Below w.heap.size w w' := by
 have hu24 := Try.underlying24
 have HB := aM (Below.refl w.heap.size w)
 have H : ((spec_DoorOk.f k a0_0 a0_1 a0_2 a0_3 a0_4).bind fun t166 => (if t166 = true then (if a0_0 = 0 then (if a1 = 1 then (spec_BeginDoor.j0 k a1 (a0_4 != (a1 == 2)) a0_0 a0_1 a0_2 a0_3 a0_4) else (if a1 = 2 then (spec_BeginDoor.j0 k a1 (a0_4 != (a1 == 2)) a0_0 a0_1 a0_2 a0_3 a0_4) else (spec_BeginDoor.j0 k a1 true a0_0 a0_1 a0_2 a0_3 a0_4))) else (spec_BeginDoor.j0 k a1 true a0_0 a0_1 a0_2 a0_3 a0_4)) else (spec_BeginDoor.j0 k a1 true a0_0 a0_1 a0_2 a0_3 a0_4))) = some (r1, r2, r3, r4, r5, r6) := h
 clear h
 have HC3 := aM H
 clear H
 go_enter Try.func77, Try.ntmps77
 go_upto_region 1 with (first | ((with_reducible refine gate_dst (N := 2) rfl ?_); refine box_event ?hg (N := 2) ?hd (cs := #[.int .i64 a0_0, .int .i64 a0_1, .bool a0_2, .bool a0_3, .bool a0_4]) (t := 24) ?hr ?_; (case hd => rfl); (case hg => rfl); (case hr => exact zg); intro gb164 hg w4 hbox hb; have n0_ := aM (below_step (zb) hb); have n1_ := aM (hbox); have n2_ := aM ((by rw [hg]; exact (below_size (zb)) : w.heap.size ≤ gb164)); have n3_ := aM ((by rw [hg]; exact (below_size (zb)) : w.heap.size ≤ gb164)); clear HB; have HB := n0_; have BK164 := n1_; have GW164 := n2_; have GE164 := n3_; clear n0_ n1_ n2_ n3_; clear hb hbox hg) | ((with_reducible refine gate_dst (N := 4) rfl ?_); refine box_event ?hg (N := 4) ?hd (cs := #[.int .i64 0, .int .i64 0, .bool false, .bool false, .bool false]) (t := 24) ?hr ?_; (case hd => rfl); (case hg => rfl); (case hr => exact zg); intro gb165 hg w5 hbox hb; have n0_ := aM (bb BK164.out hb); have n1_ := aM (below_step (zb) hb); have n2_ := aM (hbox); have n3_ := aM ((by rw [hg]; exact (below_size (zb)) : w.heap.size ≤ gb165)); have n4_ := aM ((by rw [hg]; exact (below_size (zb)) : w.heap.size ≤ gb165)); have n5_ := aM ((by rw [hg]; exact Nat.ne_of_lt (nl BK164.out) : gb164 ≠ gb165)); have n6_ := aM ((by rw [hg]; exact Nat.ne_of_gt (nl BK164.out) : gb165 ≠ gb164)); clear BK164; clear HB; have BK164 := n0_; have HB := n1_; have BK165 := n2_; have GW165 := n3_; have GE165 := n4_; have NB164_165 := n5_; have NB165_164 := n6_; clear n0_ n1_ n2_ n3_ n4_ n5_ n6_; clear hb hbox hg))
 (try simp only [Act.put, List.setIfInBounds_toArray, List.set_cons_zero, List.set_cons_succ])
 go_cut [28] (fun v28 wc => ∃ (kq : Nat) (x28_2 : Bool), v28 = .bool x28_2 ∧ Aside0 (spec_BeginDoor.j0 kq a1 x28_2 a0_0 a0_1 a0_2 a0_3 a0_4 = some (r1, r2, r3, r4, r5, r6)) ∧ Aside0 (kq ≤ k) ∧ Aside0 (wc.heap[gb164]? = some (.cells #[.int .i64 a0_0, .int .i64 a0_1, .bool a0_2, .bool a0_3, .bool a0_4] 24 (0, 0))) ∧ Aside0 (wc.heap[gb165]? = some (.cells #[.int .i64 0, .int .i64 0, .bool false, .bool false, .bool false] 24 (0, 0))) ∧ Aside0 (Below w.heap.size w wc))
 case first =>
  have H := HC3.out
  clear HC3
  replace H := Option.bind_eq_some_iff.mp H
  obtain ⟨t166, A60, H⟩ := H
  replace H : (if t166 = true then (if a0_0 = 0 then (if a1 = 1 then (spec_BeginDoor.j0 k a1 (a0_4 != (a1 == 2)) a0_0 a0_1 a0_2 a0_3 a0_4) else (if a1 = 2 then (spec_BeginDoor.j0 k a1 (a0_4 != (a1 == 2)) a0_0 a0_1 a0_2 a0_3 a0_4) else (spec_BeginDoor.j0 k a1 true a0_0 a0_1 a0_2 a0_3 a0_4))) else (spec_BeginDoor.j0 k a1 true a0_0 a0_1 a0_2 a0_3 a0_4)) else (spec_BeginDoor.j0 k a1 true a0_0 a0_1 a0_2 a0_3 a0_4)) = some (r1, r2, r3, r4, r5, r6) := H
  have A6 := aM A60
  clear A60
  by_cases c7 : t166 = true
  ·subst c7
   have H1 : (if a0_0 = 0 then (if a1 = 1 then (spec_BeginDoor.j0 k a1 (a0_4 != (a1 == 2)) a0_0 a0_1 a0_2 a0_3 a0_4) else (if a1 = 2 then (spec_BeginDoor.j0 k a1 (a0_4 != (a1 == 2)) a0_0 a0_1 a0_2 a0_3 a0_4) else (spec_BeginDoor.j0 k a1 true a0_0 a0_1 a0_2 a0_3 a0_4))) else (spec_BeginDoor.j0 k a1 true a0_0 a0_1 a0_2 a0_3 a0_4)) = some (r1, r2, r3, r4, r5, r6) := by rw [if_pos rfl] at H; exact H
   clear H
   have H := H1
   clear H1
   by_cases c8 : a0_0 = 0
   ·rw [if_pos c8] at H
    have c8b0 : (a0_0 == 0) = true := beq_iff_eq.mpr c8
    have c8b1 : (a0_0 != 0) = false := bne_eq_false_iff_eq.mpr c8
    clear c8
    (first | rw [c8b0] | (simp only [i64_w, i32_w]; rw [c8b0]) | skip)
    by_cases c9 : a1 = 1
    ·rw [if_pos c9] at H
     have c9b0 : (a1 == 1) = true := beq_iff_eq.mpr c9
     have c9b1 : (a1 != 1) = false := bne_eq_false_iff_eq.mpr c9
     clear c9
     have H' := aM H
     clear H
     have hnb10 := NB164_165.out
     have hnc10 := NB165_164.out
     obtain ⟨hcz11_0, hcz11_1, hcz11_2, hcz11_3, hcz11_4, hfz11_0, hfz11_1, hfz11_2, hfz11_3, hfz11_4⟩ := cells5 BK164.out
     go_wp2_with (first | ((with_reducible refine gate_callee (f := 51) rfl ?_); refine goesL_ (some 7) rfl rfl Try.func51 (by kernel_rfl) rfl #[.agg #[.int .i64 a0_0, .int .i64 a0_1, .bool a0_2, .bool a0_3, .bool a0_4]] rfl za ?_; (with_reducible refine (spec_DoorOk.calls k a0_0 a0_1 a0_2 a0_3 a0_4 true _ A6.out).mono ?_); rintro e w12 ⟨rfl, hb⟩; refine ⟨_, rfl, ?_⟩; have n0_ := aM (bb BK164.out hb); have n1_ := aM (bb BK165.out hb); have n2_ := aM (below_step (zb) hb); clear BK164; clear BK165; clear HB; have BK164 := n0_; have BK165 := n1_; have HB := n2_; clear n0_ n1_ n2_; (try clear hb); (try clear hb2); (try clear hk); (try clear hi); obtain ⟨hcz13_0, hcz13_1, hcz13_2, hcz13_3, hcz13_4, hfz13_0, hfz13_1, hfz13_2, hfz13_3, hfz13_4⟩ := cells5 BK164.out))
     go_meet
     case rel => exact ⟨_, ((a0_4 != (a1 == 2))), zs, H', ⟨by first | omega | exact Nat.le_refl _⟩, ⟨by exact pk BK164.out⟩, ⟨by exact pk BK165.out⟩, ⟨zb⟩⟩
    ·rw [if_neg c9] at H
     have c9b0 : (a1 == 1) = false := beq_eq_false_iff_ne.mpr c9
     have c9b1 : (a1 != 1) = true := bne_iff_ne.mpr c9
     by_cases c14 : a1 = 2
     ·rw [if_pos c14] at H
      have c14b0 : (a1 == 2) = true := beq_iff_eq.mpr c14
      have c14b1 : (a1 != 2) = false := bne_eq_false_iff_eq.mpr c14
      clear c14
      have H' := aM H
      clear H
      have hnb15 := NB164_165.out
      have hnc15 := NB165_164.out
      obtain ⟨hcz16_0, hcz16_1, hcz16_2, hcz16_3, hcz16_4, hfz16_0, hfz16_1, hfz16_2, hfz16_3, hfz16_4⟩ := cells5 BK164.out
      go_wp2_with (first | ((with_reducible refine gate_callee (f := 51) rfl ?_); refine goesL_ (some 7) rfl rfl Try.func51 (by kernel_rfl) rfl #[.agg #[.int .i64 a0_0, .int .i64 a0_1, .bool a0_2, .bool a0_3, .bool a0_4]] rfl za ?_; (with_reducible refine (spec_DoorOk.calls k a0_0 a0_1 a0_2 a0_3 a0_4 true _ A6.out).mono ?_); rintro e w17 ⟨rfl, hb⟩; refine ⟨_, rfl, ?_⟩; have n0_ := aM (bb BK164.out hb); have n1_ := aM (bb BK165.out hb); have n2_ := aM (below_step (zb) hb); clear BK164; clear BK165; clear HB; have BK164 := n0_; have BK165 := n1_; have HB := n2_; clear n0_ n1_ n2_; (try clear hb); (try clear hb2); (try clear hk); (try clear hi); obtain ⟨hcz18_0, hcz18_1, hcz18_2, hcz18_3, hcz18_4, hfz18_0, hfz18_1, hfz18_2, hfz18_3, hfz18_4⟩ := cells5 BK164.out))
      go_meet
      case rel => exact ⟨_, ((a0_4 != (a1 == 2))), zs, H', ⟨by first | omega | exact Nat.le_refl _⟩, ⟨by exact pk BK164.out⟩, ⟨by exact pk BK165.out⟩, ⟨zb⟩⟩
     ·rw [if_neg c14] at H
      have c14b0 : (a1 == 2) = false := beq_eq_false_iff_ne.mpr c14
      have c14b1 : (a1 != 2) = true := bne_iff_ne.mpr c14
      have H' := aM H
      clear H
      have hnb19 := NB164_165.out
      have hnc19 := NB165_164.out
      obtain ⟨hcz20_0, hcz20_1, hcz20_2, hcz20_3, hcz20_4, hfz20_0, hfz20_1, hfz20_2, hfz20_3, hfz20_4⟩ := cells5 BK164.out
      go_wp2_with (first | ((with_reducible refine gate_callee (f := 51) rfl ?_); refine goesL_ (some 7) rfl rfl Try.func51 (by kernel_rfl) rfl #[.agg #[.int .i64 a0_0, .int .i64 a0_1, .bool a0_2, .bool a0_3, .bool a0_4]] rfl za ?_; (with_reducible refine (spec_DoorOk.calls k a0_0 a0_1 a0_2 a0_3 a0_4 true _ A6.out).mono ?_); rintro e w21 ⟨rfl, hb⟩; refine ⟨_, rfl, ?_⟩; have n0_ := aM (bb BK164.out hb); have n1_ := aM (bb BK165.out hb); have n2_ := aM (below_step (zb) hb); clear BK164; clear BK165; clear HB; have BK164 := n0_; have BK165 := n1_; have HB := n2_; clear n0_ n1_ n2_; (try clear hb); (try clear hb2); (try clear hk); (try clear hi); obtain ⟨hcz22_0, hcz22_1, hcz22_2, hcz22_3, hcz22_4, hfz22_0, hfz22_1, hfz22_2, hfz22_3, hfz22_4⟩ := cells5 BK164.out))
      go_meet
      case rel => exact ⟨_, (true), zs, H', ⟨by first | omega | exact Nat.le_refl _⟩, ⟨by exact pk BK164.out⟩, ⟨by exact pk BK165.out⟩, ⟨zb⟩⟩
   ·rw [if_neg c8] at H
    have c8b0 : (a0_0 == 0) = false := beq_eq_false_iff_ne.mpr c8
    have c8b1 : (a0_0 != 0) = true := bne_iff_ne.mpr c8
    (first | rw [c8b0] | (simp only [i64_w, i32_w]; rw [c8b0]) | skip)
    have H' := aM H
    clear H
    have hnb23 := NB164_165.out
    have hnc23 := NB165_164.out
    obtain ⟨hcz24_0, hcz24_1, hcz24_2, hcz24_3, hcz24_4, hfz24_0, hfz24_1, hfz24_2, hfz24_3, hfz24_4⟩ := cells5 BK164.out
    go_wp2_with (first | ((with_reducible refine gate_callee (f := 51) rfl ?_); refine goesL_ (some 7) rfl rfl Try.func51 (by kernel_rfl) rfl #[.agg #[.int .i64 a0_0, .int .i64 a0_1, .bool a0_2, .bool a0_3, .bool a0_4]] rfl za ?_; (with_reducible refine (spec_DoorOk.calls k a0_0 a0_1 a0_2 a0_3 a0_4 true _ A6.out).mono ?_); rintro e w25 ⟨rfl, hb⟩; refine ⟨_, rfl, ?_⟩; have n0_ := aM (bb BK164.out hb); have n1_ := aM (bb BK165.out hb); have n2_ := aM (below_step (zb) hb); clear BK164; clear BK165; clear HB; have BK164 := n0_; have BK165 := n1_; have HB := n2_; clear n0_ n1_ n2_; (try clear hb); (try clear hb2); (try clear hk); (try clear hi); obtain ⟨hcz26_0, hcz26_1, hcz26_2, hcz26_3, hcz26_4, hfz26_0, hfz26_1, hfz26_2, hfz26_3, hfz26_4⟩ := cells5 BK164.out))
    go_meet
    case rel => exact ⟨_, (true), zs, H', ⟨by first | omega | exact Nat.le_refl _⟩, ⟨by exact pk BK164.out⟩, ⟨by exact pk BK165.out⟩, ⟨zb⟩⟩
  ·replace c7 := Bool.eq_false_iff.mpr c7
   subst c7
   have H1 : (spec_BeginDoor.j0 k a1 true a0_0 a0_1 a0_2 a0_3 a0_4) = some (r1, r2, r3, r4, r5, r6) := by rw [if_neg (show ¬ (false = true) by decide)] at H; exact H
   clear H
   have H := H1
   clear H1
   have H' := aM H
   clear H
   have hnb27 := NB164_165.out
   have hnc27 := NB165_164.out
   obtain ⟨hcz28_0, hcz28_1, hcz28_2, hcz28_3, hcz28_4, hfz28_0, hfz28_1, hfz28_2, hfz28_3, hfz28_4⟩ := cells5 BK164.out
   go_wp2_with (first | ((with_reducible refine gate_callee (f := 51) rfl ?_); refine goesL_ (some 7) rfl rfl Try.func51 (by kernel_rfl) rfl #[.agg #[.int .i64 a0_0, .int .i64 a0_1, .bool a0_2, .bool a0_3, .bool a0_4]] rfl za ?_; (with_reducible refine (spec_DoorOk.calls k a0_0 a0_1 a0_2 a0_3 a0_4 false _ A6.out).mono ?_); rintro e w29 ⟨rfl, hb⟩; refine ⟨_, rfl, ?_⟩; have n0_ := aM (bb BK164.out hb); have n1_ := aM (bb BK165.out hb); have n2_ := aM (below_step (zb) hb); clear BK164; clear BK165; clear HB; have BK164 := n0_; have BK165 := n1_; have HB := n2_; clear n0_ n1_ n2_; (try clear hb); (try clear hb2); (try clear hk); (try clear hi)))
   go_meet
   case rel => exact ⟨_, (true), zs, H', ⟨by first | omega | exact Nat.le_refl _⟩, ⟨by exact pk BK164.out⟩, ⟨by exact pk BK165.out⟩, ⟨zb⟩⟩
 case rest =>
  clear HC3
  try clear c1
  try clear c2
  try clear p2
  try clear c5
  try clear c7
  try clear c8
  try clear c8b0
  try clear c8b1
  try clear c9
  try clear c9b0
  try clear c9b1
  try clear c10
  try clear c14
  try clear c14b0
  try clear c14b1
  try clear c15
  try clear c19
  try clear c23
  try clear c27
  try clear hcz11_0 hcz11_1 hcz11_2 hcz11_3 hcz11_4 hfz11_0 hfz11_1 hfz11_2 hfz11_3 hfz11_4
  try clear hcz13_0 hcz13_1 hcz13_2 hcz13_3 hcz13_4 hfz13_0 hfz13_1 hfz13_2 hfz13_3 hfz13_4
  try clear hcz16_0 hcz16_1 hcz16_2 hcz16_3 hcz16_4 hfz16_0 hfz16_1 hfz16_2 hfz16_3 hfz16_4
  try clear hcz18_0 hcz18_1 hcz18_2 hcz18_3 hcz18_4 hfz18_0 hfz18_1 hfz18_2 hfz18_3 hfz18_4
  try clear hcz20_0 hcz20_1 hcz20_2 hcz20_3 hcz20_4 hfz20_0 hfz20_1 hfz20_2 hfz20_3 hfz20_4
  try clear hcz22_0 hcz22_1 hcz22_2 hcz22_3 hcz22_4 hfz22_0 hfz22_1 hfz22_2 hfz22_3 hfz22_4
  try clear hcz24_0 hcz24_1 hcz24_2 hcz24_3 hcz24_4 hfz24_0 hfz24_1 hfz24_2 hfz24_3 hfz24_4
  try clear hcz26_0 hcz26_1 hcz26_2 hcz26_3 hcz26_4 hfz26_0 hfz26_1 hfz26_2 hfz26_3 hfz26_4
  try clear hcz28_0 hcz28_1 hcz28_2 hcz28_3 hcz28_4 hfz28_0 hfz28_1 hfz28_2 hfz28_3 hfz28_4
  obtain ⟨kq, x28_2, rfl, HA, HJ2, BK164, BK165, HB⟩ := hcut
  cases kq with
  | zero => exact absurd HA.out (by simp [spec_BeginDoor.j0])
  | succ kj2 =>
   have H := HA.out
   clear HA
   simp only [spec_BeginDoor.j0] at H
   by_cases c30 : x28_2 = true
   ·subst c30
    have H1 : (some (a0_0, a0_1, a0_2, a0_3, a0_4, false)) = some (r1, r2, r3, r4, r5, r6) := by rw [if_pos rfl] at H; exact H
    clear H
    have H := H1
    clear H1
    simp only [Option.some.injEq, Prod.mk.injEq] at H
    obtain ⟨rfl, rfl, rfl, rfl, rfl, rfl⟩ := H
    have hnb31 := NB164_165.out
    have hnc31 := NB165_164.out
    obtain ⟨hcz32_0, hcz32_1, hcz32_2, hcz32_3, hcz32_4, hfz32_0, hfz32_1, hfz32_2, hfz32_3, hfz32_4⟩ := cells5 BK164.out
    obtain ⟨hcz33_0, hcz33_1, hcz33_2, hcz33_3, hcz33_4, hfz33_0, hfz33_1, hfz33_2, hfz33_3, hfz33_4⟩ := cells5 BK165.out
    go_wp2
    refine bodyPost_ret (results_ct rfl _ _ gb165 24 #[.int .i64 a0_0, .int .i64 a0_1, .bool a0_2, .bool a0_3, .bool a0_4] (0, 0) _ rfl (by refine pq ?_; refine blk_put (cs := #[.int .i64 a0_0, .int .i64 a0_1, .bool a0_2, .bool a0_3, .bool false]) ?_ 4 _ rfl; refine pq ?_; refine blk_put (cs := #[.int .i64 a0_0, .int .i64 a0_1, .bool a0_2, .bool false, .bool false]) ?_ 3 _ rfl; refine pq ?_; refine blk_put (cs := #[.int .i64 a0_0, .int .i64 a0_1, .bool false, .bool false, .bool false]) ?_ 2 _ rfl; refine pq ?_; refine blk_put (cs := #[.int .i64 a0_0, .int .i64 0, .bool false, .bool false, .bool false]) ?_ 1 _ rfl; refine pq ?_; refine blk_put (cs := #[.int .i64 0, .int .i64 0, .bool false, .bool false, .bool false]) ?_ 0 _ rfl; refine pq ?_; exact BK165.out) Try.underlying24 rfl (by kernel_rfl)) rfl ?_
    exact ⟨zr, zb⟩
   ·replace c30 := Bool.eq_false_iff.mpr c30
    subst c30
    have H1 : (some (a1, 1, a0_2, a0_3, a0_4, true)) = some (r1, r2, r3, r4, r5, r6) := by rw [if_neg (show ¬ (false = true) by decide)] at H; exact H
    clear H
    have H := H1
    clear H1
    simp only [Option.some.injEq, Prod.mk.injEq] at H
    obtain ⟨rfl, rfl, rfl, rfl, rfl, rfl⟩ := H
    have hnb34 := NB164_165.out
    have hnc34 := NB165_164.out
    obtain ⟨hcz35_0, hcz35_1, hcz35_2, hcz35_3, hcz35_4, hfz35_0, hfz35_1, hfz35_2, hfz35_3, hfz35_4⟩ := cells5 BK164.out
    obtain ⟨hcz36_0, hcz36_1, hcz36_2, hcz36_3, hcz36_4, hfz36_0, hfz36_1, hfz36_2, hfz36_3, hfz36_4⟩ := cells5 BK165.out
    go_wp2
    refine bodyPost_ret (results_ct rfl _ _ gb165 24 #[.int .i64 a1, .int .i64 1, .bool a0_2, .bool a0_3, .bool a0_4] (0, 0) _ rfl (by refine pq ?_; refine blk_put (cs := #[.int .i64 a1, .int .i64 1, .bool a0_2, .bool a0_3, .bool false]) ?_ 4 _ rfl; refine pq ?_; refine blk_put (cs := #[.int .i64 a1, .int .i64 1, .bool a0_2, .bool false, .bool false]) ?_ 3 _ rfl; refine pq ?_; refine blk_put (cs := #[.int .i64 a1, .int .i64 1, .bool false, .bool false, .bool false]) ?_ 2 _ rfl; refine pq ?_; refine blk_put (cs := #[.int .i64 a1, .int .i64 0, .bool false, .bool false, .bool false]) ?_ 1 _ rfl; refine pq ?_; refine blk_put (cs := #[.int .i64 0, .int .i64 0, .bool false, .bool false, .bool false]) ?_ 0 _ rfl; refine pq ?_; refine blk_far ?_ NB165_164.out _; refine pq ?_; refine blk_far ?_ NB165_164.out _; refine pq ?_; exact BK165.out) Try.underlying24 rfl (by kernel_rfl)) rfl ?_
    exact ⟨zr, zb⟩

/-! ### spec_l04Act: function 67 -/
def spec_l04Act.j0 : Nat → Int → Bool → Int → Int → Bool → Bool → Bool → Option (Int × Int × Bool × Bool × Bool)
 | 0, _, _, _, _, _, _, _ => none
 | k + 1, x1, x47, x168000, x168001, x168002, x168003, x168004 => if x47 = true then ((spec_BeginDoor.f k x168000 x168001 x168002 x168003 x168004 (wrap64 ((wrap64 (x1 - 8)) + 1))).bind fun bt196 => (some (bt196.1, bt196.2.1, bt196.2.2.1, bt196.2.2.2.1, bt196.2.2.2.2.1))) else ((spec_Hand.f k x168000 x168001 x168002 x168003 x168004 (wrap64 ((wrap64 (x1 - 4)) + 1))).bind fun bt203 => (some (bt203.1, bt203.2.1, bt203.2.2.1, bt203.2.2.2.1, bt203.2.2.2.2.1)))
def spec_l04Act.f (k : Nat) (a0_0 : Int) (a0_1 : Int) (a0_2 : Bool) (a0_3 : Bool) (a0_4 : Bool) (a1 : Int) : Option (Int × Int × Bool × Bool × Bool) := if a1 = 1 then ((spec_Advance.f k a0_0 a0_1 a0_2 a0_3 a0_4).bind fun bt169 => (some (bt169.1, bt169.2.1, bt169.2.2.1, bt169.2.2.2.1, bt169.2.2.2.2.1))) else (if a1 = 2 then ((spec_Relent.f k a0_0 a0_1 a0_2 a0_3 a0_4).bind fun bt176 => (some (bt176.1, bt176.2.1, bt176.2.2.1, bt176.2.2.2.1, bt176.2.2.2.2.1))) else (if a1 = 3 then ((spec_CutPower.f k a0_0 a0_1 a0_2 a0_3 a0_4).bind fun bt183 => (some (bt183.1, bt183.2.1, bt183.2.2.1, bt183.2.2.2.1, bt183.2.2.2.2))) else (if a1 = 7 then ((spec_Recover.f k a0_0 a0_1 a0_2 a0_3 a0_4 0 0 0 0).bind fun bt188 => (some (bt188.1, bt188.2.1, bt188.2.2.1, bt188.2.2.2.1, bt188.2.2.2.2.1))) else (if a1 = 8 then (spec_l04Act.j0 k a1 (a1 == 8) a0_0 a0_1 a0_2 a0_3 a0_4) else (spec_l04Act.j0 k a1 (a1 == 9) a0_0 a0_1 a0_2 a0_3 a0_4)))))
theorem spec_l04Act.mono_l : ∀ k, (∀ y0 y1 y2 y3 y4 y5 y6, LeO (spec_l04Act.j0 k y0 y1 y2 y3 y4 y5 y6) (spec_l04Act.j0 (k + 1) y0 y1 y2 y3 y4 y5 y6))
 | 0 => fun _ _ _ _ _ _ _ r h => by simp [spec_l04Act.j0] at h
 | k + 1 => by
  have ih0 := spec_l04Act.mono_l k
  ·intro y0 y1 y2 y3 y4 y5 y6
   unfold spec_l04Act.j0
   repeat' first
   | (with_reducible exact ih0 _ _ _ _ _ _ _)
   | (with_reducible exact spec_Advance.mono _ _ _ _ _ _)
   | (with_reducible exact spec_BeginDoor.mono _ _ _ _ _ _ _)
   | (with_reducible exact spec_CutPower.mono _ _ _ _ _ _)
   | (with_reducible exact spec_Hand.mono _ _ _ _ _ _ _)
   | (with_reducible exact spec_Recover.mono _ _ _ _ _ _ _ _ _ _)
   | (with_reducible exact spec_Relent.mono _ _ _ _ _ _)
   | (with_reducible exact LeO.refl _)
   | (with_reducible exact LeO.none _)
   | (with_reducible refine LeO.ite ?_ ?_)
   | (with_reducible refine LeO.bind ?_ (fun _ => ?_))
   | exact ih0 _ _ _ _ _ _ _
   | exact spec_Advance.mono _ _ _ _ _ _
   | exact spec_BeginDoor.mono _ _ _ _ _ _ _
   | exact spec_CutPower.mono _ _ _ _ _ _
   | exact spec_Hand.mono _ _ _ _ _ _ _
   | exact spec_Recover.mono _ _ _ _ _ _ _ _ _ _
   | exact spec_Relent.mono _ _ _ _ _ _
   | exact LeO.none _
   | refine LeO.ite ?_ ?_
   | refine LeO.bind ?_ (fun _ => ?_)
theorem spec_l04Act.mono : ∀ a0 a1 a2 a3 a4 a5 k, LeO (spec_l04Act.f k a0 a1 a2 a3 a4 a5) (spec_l04Act.f (k + 1) a0 a1 a2 a3 a4 a5) := by
 intro a0 a1 a2 a3 a4 a5 k
 have ih0 := spec_l04Act.mono_l k
 unfold spec_l04Act.f
 repeat' first
   | (with_reducible exact ih0 _ _ _ _ _ _ _)
   | (with_reducible exact spec_Advance.mono _ _ _ _ _ _)
   | (with_reducible exact spec_BeginDoor.mono _ _ _ _ _ _ _)
   | (with_reducible exact spec_CutPower.mono _ _ _ _ _ _)
   | (with_reducible exact spec_Hand.mono _ _ _ _ _ _ _)
   | (with_reducible exact spec_Recover.mono _ _ _ _ _ _ _ _ _ _)
   | (with_reducible exact spec_Relent.mono _ _ _ _ _ _)
   | (with_reducible exact LeO.refl _)
   | (with_reducible exact LeO.none _)
   | (with_reducible refine LeO.ite ?_ ?_)
   | (with_reducible refine LeO.bind ?_ (fun _ => ?_))
   | exact ih0 _ _ _ _ _ _ _
   | exact spec_Advance.mono _ _ _ _ _ _
   | exact spec_BeginDoor.mono _ _ _ _ _ _ _
   | exact spec_CutPower.mono _ _ _ _ _ _
   | exact spec_Hand.mono _ _ _ _ _ _ _
   | exact spec_Recover.mono _ _ _ _ _ _ _ _ _ _
   | exact spec_Relent.mono _ _ _ _ _ _
   | exact LeO.none _
   | refine LeO.ite ?_ ?_
   | refine LeO.bind ?_ (fun _ => ?_)
set_option maxHeartbeats 8000000 in
set_option maxRecDepth 100000 in
theorem spec_l04Act.calls (k : Nat) (a0_0 : Int) (a0_1 : Int) (a0_2 : Bool) (a0_3 : Bool) (a0_4 : Bool) (a1 : Int) (r1 : Int) (r2 : Int) (r3 : Bool) (r4 : Bool) (r5 : Bool) (w : World) (h : spec_l04Act.f k a0_0 a0_1 a0_2 a0_3 a0_4 a1 = some (r1, r2, r3, r4, r5)) :
  Calls Try.prog 67 #[.agg #[.int .i64 a0_0, .int .i64 a0_1, .bool a0_2, .bool a0_3, .bool a0_4], .int .i64 a1] w fun e w' => e = .returned (.agg #[.int .i64 r1, .int .i64 r2, .bool r3, .bool r4, .bool r5]) ∧ Below w.heap.size w w' := by
 have hu24 := Try.underlying24
 have hu37 := Try.underlying37
 have HB := aM (Below.refl w.heap.size w)
 have H : (if a1 = 1 then ((spec_Advance.f k a0_0 a0_1 a0_2 a0_3 a0_4).bind fun bt169 => (some (bt169.1, bt169.2.1, bt169.2.2.1, bt169.2.2.2.1, bt169.2.2.2.2.1))) else (if a1 = 2 then ((spec_Relent.f k a0_0 a0_1 a0_2 a0_3 a0_4).bind fun bt176 => (some (bt176.1, bt176.2.1, bt176.2.2.1, bt176.2.2.2.1, bt176.2.2.2.2.1))) else (if a1 = 3 then ((spec_CutPower.f k a0_0 a0_1 a0_2 a0_3 a0_4).bind fun bt183 => (some (bt183.1, bt183.2.1, bt183.2.2.1, bt183.2.2.2.1, bt183.2.2.2.2))) else (if a1 = 7 then ((spec_Recover.f k a0_0 a0_1 a0_2 a0_3 a0_4 0 0 0 0).bind fun bt188 => (some (bt188.1, bt188.2.1, bt188.2.2.1, bt188.2.2.2.1, bt188.2.2.2.2.1))) else (if a1 = 8 then (spec_l04Act.j0 k a1 (a1 == 8) a0_0 a0_1 a0_2 a0_3 a0_4) else (spec_l04Act.j0 k a1 (a1 == 9) a0_0 a0_1 a0_2 a0_3 a0_4)))))) = some (r1, r2, r3, r4, r5) := h
 clear h
 by_cases c3 : a1 = 1
 ·rw [if_pos c3] at H
  have c3b0 : (a1 == 1) = true := beq_iff_eq.mpr c3
  have c3b1 : (a1 != 1) = false := bne_eq_false_iff_eq.mpr c3
  clear c3
  replace H := Option.bind_eq_some_iff.mp H
  obtain ⟨⟨t169, t170, t171, t172, t173, t174⟩, A40, H⟩ := H
  replace H : (some (t169, t170, t171, t172, t173)) = some (r1, r2, r3, r4, r5) := H
  have A4 := aM A40
  clear A40
  simp only [Option.some.injEq, Prod.mk.injEq] at H
  obtain ⟨rfl, rfl, rfl, rfl, rfl⟩ := H
  go_enter Try.func67, Try.ntmps67
  go_wp2_with (first | ((with_reducible refine gate_dst (N := 2) rfl ?_); refine box_event ?hg (N := 2) ?hd (cs := #[.int .i64 a0_0, .int .i64 a0_1, .bool a0_2, .bool a0_3, .bool a0_4]) (t := 24) ?hr ?_; (case hd => rfl); (case hg => rfl); (case hr => exact zg); intro gb167 hg w5 hbox hb; have n0_ := aM (below_step (zb) hb); have n1_ := aM (hbox); have n2_ := aM ((by rw [hg]; exact (below_size (zb)) : w.heap.size ≤ gb167)); have n3_ := aM ((by rw [hg]; exact (below_size (zb)) : w.heap.size ≤ gb167)); clear HB; have HB := n0_; have BK167 := n1_; have GW167 := n2_; have GE167 := n3_; clear n0_ n1_ n2_ n3_; clear hb hbox hg) | ((with_reducible refine gate_dst (N := 4) rfl ?_); refine box_event ?hg (N := 4) ?hd (cs := #[.int .i64 0, .int .i64 0, .bool false, .bool false, .bool false]) (t := 24) ?hr ?_; (case hd => rfl); (case hg => rfl); (case hr => exact zg); intro gb168 hg w6 hbox hb; have n0_ := aM (bb BK167.out hb); have n1_ := aM (below_step (zb) hb); have n2_ := aM (hbox); have n3_ := aM ((by rw [hg]; exact (below_size (zb)) : w.heap.size ≤ gb168)); have n4_ := aM ((by rw [hg]; exact (below_size (zb)) : w.heap.size ≤ gb168)); have n5_ := aM ((by rw [hg]; exact Nat.ne_of_lt (nl BK167.out) : gb167 ≠ gb168)); have n6_ := aM ((by rw [hg]; exact Nat.ne_of_gt (nl BK167.out) : gb168 ≠ gb167)); clear BK167; clear HB; have BK167 := n0_; have HB := n1_; have BK168 := n2_; have GW168 := n3_; have GE168 := n4_; have NB167_168 := n5_; have NB168_167 := n6_; clear n0_ n1_ n2_ n3_ n4_ n5_ n6_; clear hb hbox hg; have hnb7 := NB167_168.out; have hnc7 := NB168_167.out; obtain ⟨hcz8_0, hcz8_1, hcz8_2, hcz8_3, hcz8_4, hfz8_0, hfz8_1, hfz8_2, hfz8_3, hfz8_4⟩ := cells5 BK167.out) | ((with_reducible refine gate_callee (f := 21) rfl ?_); refine goesL_ (some 21) rfl rfl Try.func21 (by kernel_rfl) rfl #[.agg #[.int .i64 a0_0, .int .i64 a0_1, .bool a0_2, .bool a0_3, .bool a0_4]] rfl za ?_; (with_reducible refine (spec_Advance.calls k a0_0 a0_1 a0_2 a0_3 a0_4 t169 t170 t171 t172 t173 t174 _ A4.out).mono ?_); rintro e w9 ⟨rfl, hb⟩; refine ⟨_, rfl, ?_⟩; have n0_ := aM (bb BK167.out hb); have n1_ := aM (bb BK168.out hb); have n2_ := aM (below_step (zb) hb); clear BK167; clear BK168; clear HB; have BK167 := n0_; have BK168 := n1_; have HB := n2_; clear n0_ n1_ n2_; (try clear hb); (try clear hb2); (try clear hk); (try clear hi)) | ((with_reducible refine gate_dst (N := 5) rfl ?_); refine box_event ?hg (N := 5) ?hd (cs := #[.int .i64 0, .int .i64 0, .bool false, .bool false, .bool false]) (t := 24) ?hr ?_; (case hd => rfl); (case hg => rfl); (case hr => exact zg); intro gb175 hg w10 hbox hb; have n0_ := aM (bb BK167.out hb); have n1_ := aM (bb BK168.out hb); have n2_ := aM (below_step (zb) hb); have n3_ := aM (hbox); have n4_ := aM ((by rw [hg]; exact (below_size (zb)) : w.heap.size ≤ gb175)); have n5_ := aM ((by rw [hg]; exact (below_size (zb)) : w.heap.size ≤ gb175)); have n6_ := aM ((by rw [hg]; exact Nat.ne_of_lt (nl BK167.out) : gb167 ≠ gb175)); have n7_ := aM ((by rw [hg]; exact Nat.ne_of_gt (nl BK167.out) : gb175 ≠ gb167)); have n8_ := aM ((by rw [hg]; exact Nat.ne_of_lt (nl BK168.out) : gb168 ≠ gb175)); have n9_ := aM ((by rw [hg]; exact Nat.ne_of_gt (nl BK168.out) : gb175 ≠ gb168)); clear BK167; clear BK168; clear HB; have BK167 := n0_; have BK168 := n1_; have HB := n2_; have BK175 := n3_; have GW175 := n4_; have GE175 := n5_; have NB167_175 := n6_; have NB175_167 := n7_; have NB168_175 := n8_; have NB175_168 := n9_; clear n0_ n1_ n2_ n3_ n4_ n5_ n6_ n7_ n8_ n9_; clear hb hbox hg; have hnb11 := NB175_167.out; have hnc11 := NB167_175.out; have hnb12 := NB175_168.out; have hnc12 := NB168_175.out; obtain ⟨hcz13_0, hcz13_1, hcz13_2, hcz13_3, hcz13_4, hfz13_0, hfz13_1, hfz13_2, hfz13_3, hfz13_4⟩ := cells5 BK175.out; obtain ⟨hcz14_0, hcz14_1, hcz14_2, hcz14_3, hcz14_4, hfz14_0, hfz14_1, hfz14_2, hfz14_3, hfz14_4⟩ := cells5 BK168.out))
  refine bodyPost_ret (results_cell_row rfl _ _ gb168 24 #[.int .i64 t169, .int .i64 t170, .bool t171, .bool t172, .bool t173] (0, 0) _ rfl (by refine pq ?_; refine blk_put (cs := #[.int .i64 t169, .int .i64 t170, .bool t171, .bool t172, .bool false]) ?_ 4 _ rfl; refine pq ?_; refine blk_put (cs := #[.int .i64 t169, .int .i64 t170, .bool t171, .bool false, .bool false]) ?_ 3 _ rfl; refine pq ?_; refine blk_put (cs := #[.int .i64 t169, .int .i64 t170, .bool false, .bool false, .bool false]) ?_ 2 _ rfl; refine pq ?_; refine blk_put (cs := #[.int .i64 t169, .int .i64 0, .bool false, .bool false, .bool false]) ?_ 1 _ rfl; refine pq ?_; refine blk_put (cs := #[.int .i64 0, .int .i64 0, .bool false, .bool false, .bool false]) ?_ 0 _ rfl; refine pq ?_; refine blk_far ?_ NB168_175.out _; refine pq ?_; refine blk_far ?_ NB168_175.out _; refine pq ?_; refine blk_far ?_ NB168_175.out _; refine pq ?_; refine blk_far ?_ NB168_175.out _; refine pq ?_; refine blk_far ?_ NB168_175.out _; refine pq ?_; exact BK168.out) Try.underlying24 rfl (by kernel_rfl)) rfl ?_
  exact ⟨zr, zb⟩
 ·rw [if_neg c3] at H
  have c3b0 : (a1 == 1) = false := beq_eq_false_iff_ne.mpr c3
  have c3b1 : (a1 != 1) = true := bne_iff_ne.mpr c3
  by_cases c15 : a1 = 2
  ·rw [if_pos c15] at H
   have c15b0 : (a1 == 2) = true := beq_iff_eq.mpr c15
   have c15b1 : (a1 != 2) = false := bne_eq_false_iff_eq.mpr c15
   clear c15
   replace H := Option.bind_eq_some_iff.mp H
   obtain ⟨⟨t176, t177, t178, t179, t180, t181⟩, A160, H⟩ := H
   replace H : (some (t176, t177, t178, t179, t180)) = some (r1, r2, r3, r4, r5) := H
   have A16 := aM A160
   clear A160
   simp only [Option.some.injEq, Prod.mk.injEq] at H
   obtain ⟨rfl, rfl, rfl, rfl, rfl⟩ := H
   go_enter Try.func67, Try.ntmps67
   go_wp2_with (first | ((with_reducible refine gate_dst (N := 2) rfl ?_); refine box_event ?hg (N := 2) ?hd (cs := #[.int .i64 a0_0, .int .i64 a0_1, .bool a0_2, .bool a0_3, .bool a0_4]) (t := 24) ?hr ?_; (case hd => rfl); (case hg => rfl); (case hr => exact zg); intro gb167 hg w17 hbox hb; have n0_ := aM (below_step (zb) hb); have n1_ := aM (hbox); have n2_ := aM ((by rw [hg]; exact (below_size (zb)) : w.heap.size ≤ gb167)); have n3_ := aM ((by rw [hg]; exact (below_size (zb)) : w.heap.size ≤ gb167)); clear HB; have HB := n0_; have BK167 := n1_; have GW167 := n2_; have GE167 := n3_; clear n0_ n1_ n2_ n3_; clear hb hbox hg) | ((with_reducible refine gate_dst (N := 4) rfl ?_); refine box_event ?hg (N := 4) ?hd (cs := #[.int .i64 0, .int .i64 0, .bool false, .bool false, .bool false]) (t := 24) ?hr ?_; (case hd => rfl); (case hg => rfl); (case hr => exact zg); intro gb168 hg w18 hbox hb; have n0_ := aM (bb BK167.out hb); have n1_ := aM (below_step (zb) hb); have n2_ := aM (hbox); have n3_ := aM ((by rw [hg]; exact (below_size (zb)) : w.heap.size ≤ gb168)); have n4_ := aM ((by rw [hg]; exact (below_size (zb)) : w.heap.size ≤ gb168)); have n5_ := aM ((by rw [hg]; exact Nat.ne_of_lt (nl BK167.out) : gb167 ≠ gb168)); have n6_ := aM ((by rw [hg]; exact Nat.ne_of_gt (nl BK167.out) : gb168 ≠ gb167)); clear BK167; clear HB; have BK167 := n0_; have HB := n1_; have BK168 := n2_; have GW168 := n3_; have GE168 := n4_; have NB167_168 := n5_; have NB168_167 := n6_; clear n0_ n1_ n2_ n3_ n4_ n5_ n6_; clear hb hbox hg; have hnb19 := NB167_168.out; have hnc19 := NB168_167.out; obtain ⟨hcz20_0, hcz20_1, hcz20_2, hcz20_3, hcz20_4, hfz20_0, hfz20_1, hfz20_2, hfz20_3, hfz20_4⟩ := cells5 BK167.out) | ((with_reducible refine gate_callee (f := 17) rfl ?_); refine goesL_ (some 29) rfl rfl Try.func17 (by kernel_rfl) rfl #[.agg #[.int .i64 a0_0, .int .i64 a0_1, .bool a0_2, .bool a0_3, .bool a0_4]] rfl za ?_; (with_reducible refine (spec_Relent.calls k a0_0 a0_1 a0_2 a0_3 a0_4 t176 t177 t178 t179 t180 t181 _ A16.out).mono ?_); rintro e w21 ⟨rfl, hb⟩; refine ⟨_, rfl, ?_⟩; have n0_ := aM (bb BK167.out hb); have n1_ := aM (bb BK168.out hb); have n2_ := aM (below_step (zb) hb); clear BK167; clear BK168; clear HB; have BK167 := n0_; have BK168 := n1_; have HB := n2_; clear n0_ n1_ n2_; (try clear hb); (try clear hb2); (try clear hk); (try clear hi)) | ((with_reducible refine gate_dst (N := 7) rfl ?_); refine box_event ?hg (N := 7) ?hd (cs := #[.int .i64 0, .int .i64 0, .bool false, .bool false, .bool false]) (t := 24) ?hr ?_; (case hd => rfl); (case hg => rfl); (case hr => exact zg); intro gb182 hg w22 hbox hb; have n0_ := aM (bb BK167.out hb); have n1_ := aM (bb BK168.out hb); have n2_ := aM (below_step (zb) hb); have n3_ := aM (hbox); have n4_ := aM ((by rw [hg]; exact (below_size (zb)) : w.heap.size ≤ gb182)); have n5_ := aM ((by rw [hg]; exact (below_size (zb)) : w.heap.size ≤ gb182)); have n6_ := aM ((by rw [hg]; exact Nat.ne_of_lt (nl BK167.out) : gb167 ≠ gb182)); have n7_ := aM ((by rw [hg]; exact Nat.ne_of_gt (nl BK167.out) : gb182 ≠ gb167)); have n8_ := aM ((by rw [hg]; exact Nat.ne_of_lt (nl BK168.out) : gb168 ≠ gb182)); have n9_ := aM ((by rw [hg]; exact Nat.ne_of_gt (nl BK168.out) : gb182 ≠ gb168)); clear BK167; clear BK168; clear HB; have BK167 := n0_; have BK168 := n1_; have HB := n2_; have BK182 := n3_; have GW182 := n4_; have GE182 := n5_; have NB167_182 := n6_; have NB182_167 := n7_; have NB168_182 := n8_; have NB182_168 := n9_; clear n0_ n1_ n2_ n3_ n4_ n5_ n6_ n7_ n8_ n9_; clear hb hbox hg; have hnb23 := NB182_167.out; have hnc23 := NB167_182.out; have hnb24 := NB182_168.out; have hnc24 := NB168_182.out; obtain ⟨hcz25_0, hcz25_1, hcz25_2, hcz25_3, hcz25_4, hfz25_0, hfz25_1, hfz25_2, hfz25_3, hfz25_4⟩ := cells5 BK182.out; obtain ⟨hcz26_0, hcz26_1, hcz26_2, hcz26_3, hcz26_4, hfz26_0, hfz26_1, hfz26_2, hfz26_3, hfz26_4⟩ := cells5 BK168.out))
   refine bodyPost_ret (results_cell_row rfl _ _ gb168 24 #[.int .i64 t176, .int .i64 t177, .bool t178, .bool t179, .bool t180] (0, 0) _ rfl (by refine pq ?_; refine blk_put (cs := #[.int .i64 t176, .int .i64 t177, .bool t178, .bool t179, .bool false]) ?_ 4 _ rfl; refine pq ?_; refine blk_put (cs := #[.int .i64 t176, .int .i64 t177, .bool t178, .bool false, .bool false]) ?_ 3 _ rfl; refine pq ?_; refine blk_put (cs := #[.int .i64 t176, .int .i64 t177, .bool false, .bool false, .bool false]) ?_ 2 _ rfl; refine pq ?_; refine blk_put (cs := #[.int .i64 t176, .int .i64 0, .bool false, .bool false, .bool false]) ?_ 1 _ rfl; refine pq ?_; refine blk_put (cs := #[.int .i64 0, .int .i64 0, .bool false, .bool false, .bool false]) ?_ 0 _ rfl; refine pq ?_; refine blk_far ?_ NB168_182.out _; refine pq ?_; refine blk_far ?_ NB168_182.out _; refine pq ?_; refine blk_far ?_ NB168_182.out _; refine pq ?_; refine blk_far ?_ NB168_182.out _; refine pq ?_; refine blk_far ?_ NB168_182.out _; refine pq ?_; exact BK168.out) Try.underlying24 rfl (by kernel_rfl)) rfl ?_
   exact ⟨zr, zb⟩
  ·rw [if_neg c15] at H
   have c15b0 : (a1 == 2) = false := beq_eq_false_iff_ne.mpr c15
   have c15b1 : (a1 != 2) = true := bne_iff_ne.mpr c15
   by_cases c27 : a1 = 3
   ·rw [if_pos c27] at H
    have c27b0 : (a1 == 3) = true := beq_iff_eq.mpr c27
    have c27b1 : (a1 != 3) = false := bne_eq_false_iff_eq.mpr c27
    clear c27
    replace H := Option.bind_eq_some_iff.mp H
    obtain ⟨⟨t183, t184, t185, t186, t187⟩, A280, H⟩ := H
    replace H : (some (t183, t184, t185, t186, t187)) = some (r1, r2, r3, r4, r5) := H
    have A28 := aM A280
    clear A280
    simp only [Option.some.injEq, Prod.mk.injEq] at H
    obtain ⟨rfl, rfl, rfl, rfl, rfl⟩ := H
    go_enter Try.func67, Try.ntmps67
    go_wp2_with (first | ((with_reducible refine gate_dst (N := 2) rfl ?_); refine box_event ?hg (N := 2) ?hd (cs := #[.int .i64 a0_0, .int .i64 a0_1, .bool a0_2, .bool a0_3, .bool a0_4]) (t := 24) ?hr ?_; (case hd => rfl); (case hg => rfl); (case hr => exact zg); intro gb167 hg w29 hbox hb; have n0_ := aM (below_step (zb) hb); have n1_ := aM (hbox); have n2_ := aM ((by rw [hg]; exact (below_size (zb)) : w.heap.size ≤ gb167)); have n3_ := aM ((by rw [hg]; exact (below_size (zb)) : w.heap.size ≤ gb167)); clear HB; have HB := n0_; have BK167 := n1_; have GW167 := n2_; have GE167 := n3_; clear n0_ n1_ n2_ n3_; clear hb hbox hg) | ((with_reducible refine gate_dst (N := 4) rfl ?_); refine box_event ?hg (N := 4) ?hd (cs := #[.int .i64 0, .int .i64 0, .bool false, .bool false, .bool false]) (t := 24) ?hr ?_; (case hd => rfl); (case hg => rfl); (case hr => exact zg); intro gb168 hg w30 hbox hb; have n0_ := aM (bb BK167.out hb); have n1_ := aM (below_step (zb) hb); have n2_ := aM (hbox); have n3_ := aM ((by rw [hg]; exact (below_size (zb)) : w.heap.size ≤ gb168)); have n4_ := aM ((by rw [hg]; exact (below_size (zb)) : w.heap.size ≤ gb168)); have n5_ := aM ((by rw [hg]; exact Nat.ne_of_lt (nl BK167.out) : gb167 ≠ gb168)); have n6_ := aM ((by rw [hg]; exact Nat.ne_of_gt (nl BK167.out) : gb168 ≠ gb167)); clear BK167; clear HB; have BK167 := n0_; have HB := n1_; have BK168 := n2_; have GW168 := n3_; have GE168 := n4_; have NB167_168 := n5_; have NB168_167 := n6_; clear n0_ n1_ n2_ n3_ n4_ n5_ n6_; clear hb hbox hg; have hnb31 := NB167_168.out; have hnc31 := NB168_167.out; obtain ⟨hcz32_0, hcz32_1, hcz32_2, hcz32_3, hcz32_4, hfz32_0, hfz32_1, hfz32_2, hfz32_3, hfz32_4⟩ := cells5 BK167.out) | ((with_reducible refine gate_callee (f := 31) rfl ?_); refine goesL_ (some 36) rfl rfl Try.func31 (by kernel_rfl) rfl #[.agg #[.int .i64 a0_0, .int .i64 a0_1, .bool a0_2, .bool a0_3, .bool a0_4]] rfl za ?_; (with_reducible refine (spec_CutPower.calls k a0_0 a0_1 a0_2 a0_3 a0_4 t183 t184 t185 t186 t187 _ A28.out).mono ?_); rintro e w33 ⟨rfl, hb⟩; refine ⟨_, rfl, ?_⟩; have n0_ := aM (bb BK167.out hb); have n1_ := aM (bb BK168.out hb); have n2_ := aM (below_step (zb) hb); clear BK167; clear BK168; clear HB; have BK167 := n0_; have BK168 := n1_; have HB := n2_; clear n0_ n1_ n2_; (try clear hb); (try clear hb2); (try clear hk); (try clear hi); obtain ⟨hcz34_0, hcz34_1, hcz34_2, hcz34_3, hcz34_4, hfz34_0, hfz34_1, hfz34_2, hfz34_3, hfz34_4⟩ := cells5 BK168.out))
    refine bodyPost_ret (results_cell_row rfl _ _ gb168 24 #[.int .i64 t183, .int .i64 t184, .bool t185, .bool t186, .bool t187] (0, 0) _ rfl (by refine pq ?_; refine blk_put (cs := #[.int .i64 t183, .int .i64 t184, .bool t185, .bool t186, .bool false]) ?_ 4 _ rfl; refine pq ?_; refine blk_put (cs := #[.int .i64 t183, .int .i64 t184, .bool t185, .bool false, .bool false]) ?_ 3 _ rfl; refine pq ?_; refine blk_put (cs := #[.int .i64 t183, .int .i64 t184, .bool false, .bool false, .bool false]) ?_ 2 _ rfl; refine pq ?_; refine blk_put (cs := #[.int .i64 t183, .int .i64 0, .bool false, .bool false, .bool false]) ?_ 1 _ rfl; refine pq ?_; refine blk_put (cs := #[.int .i64 0, .int .i64 0, .bool false, .bool false, .bool false]) ?_ 0 _ rfl; refine pq ?_; exact BK168.out) Try.underlying24 rfl (by kernel_rfl)) rfl ?_
    exact ⟨zr, zb⟩
   ·rw [if_neg c27] at H
    have c27b0 : (a1 == 3) = false := beq_eq_false_iff_ne.mpr c27
    have c27b1 : (a1 != 3) = true := bne_iff_ne.mpr c27
    by_cases c35 : a1 = 7
    ·rw [if_pos c35] at H
     have c35b0 : (a1 == 7) = true := beq_iff_eq.mpr c35
     have c35b1 : (a1 != 7) = false := bne_eq_false_iff_eq.mpr c35
     clear c35
     replace H := Option.bind_eq_some_iff.mp H
     obtain ⟨⟨t188, t189, t190, t191, t192, t193, t194⟩, A360, H⟩ := H
     replace H : (some (t188, t189, t190, t191, t192)) = some (r1, r2, r3, r4, r5) := H
     have A36 := aM A360
     clear A360
     simp only [Option.some.injEq, Prod.mk.injEq] at H
     obtain ⟨rfl, rfl, rfl, rfl, rfl⟩ := H
     go_enter Try.func67, Try.ntmps67
     go_wp2_with (first | ((with_reducible refine gate_dst (N := 2) rfl ?_); refine box_event ?hg (N := 2) ?hd (cs := #[.int .i64 a0_0, .int .i64 a0_1, .bool a0_2, .bool a0_3, .bool a0_4]) (t := 24) ?hr ?_; (case hd => rfl); (case hg => rfl); (case hr => exact zg); intro gb167 hg w37 hbox hb; have n0_ := aM (below_step (zb) hb); have n1_ := aM (hbox); have n2_ := aM ((by rw [hg]; exact (below_size (zb)) : w.heap.size ≤ gb167)); have n3_ := aM ((by rw [hg]; exact (below_size (zb)) : w.heap.size ≤ gb167)); clear HB; have HB := n0_; have BK167 := n1_; have GW167 := n2_; have GE167 := n3_; clear n0_ n1_ n2_ n3_; clear hb hbox hg) | ((with_reducible refine gate_dst (N := 4) rfl ?_); refine box_event ?hg (N := 4) ?hd (cs := #[.int .i64 0, .int .i64 0, .bool false, .bool false, .bool false]) (t := 24) ?hr ?_; (case hd => rfl); (case hg => rfl); (case hr => exact zg); intro gb168 hg w38 hbox hb; have n0_ := aM (bb BK167.out hb); have n1_ := aM (below_step (zb) hb); have n2_ := aM (hbox); have n3_ := aM ((by rw [hg]; exact (below_size (zb)) : w.heap.size ≤ gb168)); have n4_ := aM ((by rw [hg]; exact (below_size (zb)) : w.heap.size ≤ gb168)); have n5_ := aM ((by rw [hg]; exact Nat.ne_of_lt (nl BK167.out) : gb167 ≠ gb168)); have n6_ := aM ((by rw [hg]; exact Nat.ne_of_gt (nl BK167.out) : gb168 ≠ gb167)); clear BK167; clear HB; have BK167 := n0_; have HB := n1_; have BK168 := n2_; have GW168 := n3_; have GE168 := n4_; have NB167_168 := n5_; have NB168_167 := n6_; clear n0_ n1_ n2_ n3_ n4_ n5_ n6_; clear hb hbox hg; have hnb39 := NB167_168.out; have hnc39 := NB168_167.out; obtain ⟨hcz40_0, hcz40_1, hcz40_2, hcz40_3, hcz40_4, hfz40_0, hfz40_1, hfz40_2, hfz40_3, hfz40_4⟩ := cells5 BK167.out) | ((with_reducible refine gate_callee (f := 23) rfl ?_); refine goesL_ (some 42) rfl rfl Try.func23 (by kernel_rfl) rfl #[.agg #[.int .i64 a0_0, .int .i64 a0_1, .bool a0_2, .bool a0_3, .bool a0_4], .agg #[.int .i64 0, .int .i64 0, .int .i64 0, .int .i64 0]] rfl za ?_; (with_reducible refine (spec_Recover.calls k a0_0 a0_1 a0_2 a0_3 a0_4 0 0 0 0 t188 t189 t190 t191 t192 t193 t194 _ A36.out).mono ?_); rintro e w41 ⟨rfl, hb⟩; refine ⟨_, rfl, ?_⟩; have n0_ := aM (bb BK167.out hb); have n1_ := aM (bb BK168.out hb); have n2_ := aM (below_step (zb) hb); clear BK167; clear BK168; clear HB; have BK167 := n0_; have BK168 := n1_; have HB := n2_; clear n0_ n1_ n2_; (try clear hb); (try clear hb2); (try clear hk); (try clear hi)) | ((with_reducible refine gate_dst (N := 9) rfl ?_); refine box_event ?hg (N := 9) ?hd (cs := #[.int .i64 0, .int .i64 0, .bool false, .bool false, .bool false]) (t := 24) ?hr ?_; (case hd => rfl); (case hg => rfl); (case hr => exact zg); intro gb195 hg w42 hbox hb; have n0_ := aM (bb BK167.out hb); have n1_ := aM (bb BK168.out hb); have n2_ := aM (below_step (zb) hb); have n3_ := aM (hbox); have n4_ := aM ((by rw [hg]; exact (below_size (zb)) : w.heap.size ≤ gb195)); have n5_ := aM ((by rw [hg]; exact (below_size (zb)) : w.heap.size ≤ gb195)); have n6_ := aM ((by rw [hg]; exact Nat.ne_of_lt (nl BK167.out) : gb167 ≠ gb195)); have n7_ := aM ((by rw [hg]; exact Nat.ne_of_gt (nl BK167.out) : gb195 ≠ gb167)); have n8_ := aM ((by rw [hg]; exact Nat.ne_of_lt (nl BK168.out) : gb168 ≠ gb195)); have n9_ := aM ((by rw [hg]; exact Nat.ne_of_gt (nl BK168.out) : gb195 ≠ gb168)); clear BK167; clear BK168; clear HB; have BK167 := n0_; have BK168 := n1_; have HB := n2_; have BK195 := n3_; have GW195 := n4_; have GE195 := n5_; have NB167_195 := n6_; have NB195_167 := n7_; have NB168_195 := n8_; have NB195_168 := n9_; clear n0_ n1_ n2_ n3_ n4_ n5_ n6_ n7_ n8_ n9_; clear hb hbox hg; have hnb43 := NB195_167.out; have hnc43 := NB167_195.out; have hnb44 := NB195_168.out; have hnc44 := NB168_195.out; obtain ⟨hcz45_0, hcz45_1, hcz45_2, hcz45_3, hcz45_4, hfz45_0, hfz45_1, hfz45_2, hfz45_3, hfz45_4⟩ := cells5 BK195.out; obtain ⟨hcz46_0, hcz46_1, hcz46_2, hcz46_3, hcz46_4, hfz46_0, hfz46_1, hfz46_2, hfz46_3, hfz46_4⟩ := cells5 BK168.out))
     refine bodyPost_ret (results_cell_row rfl _ _ gb168 24 #[.int .i64 t188, .int .i64 t189, .bool t190, .bool t191, .bool t192] (0, 0) _ rfl (by refine pq ?_; refine blk_put (cs := #[.int .i64 t188, .int .i64 t189, .bool t190, .bool t191, .bool false]) ?_ 4 _ rfl; refine pq ?_; refine blk_put (cs := #[.int .i64 t188, .int .i64 t189, .bool t190, .bool false, .bool false]) ?_ 3 _ rfl; refine pq ?_; refine blk_put (cs := #[.int .i64 t188, .int .i64 t189, .bool false, .bool false, .bool false]) ?_ 2 _ rfl; refine pq ?_; refine blk_put (cs := #[.int .i64 t188, .int .i64 0, .bool false, .bool false, .bool false]) ?_ 1 _ rfl; refine pq ?_; refine blk_put (cs := #[.int .i64 0, .int .i64 0, .bool false, .bool false, .bool false]) ?_ 0 _ rfl; refine pq ?_; refine blk_far ?_ NB168_195.out _; refine pq ?_; refine blk_far ?_ NB168_195.out _; refine pq ?_; refine blk_far ?_ NB168_195.out _; refine pq ?_; refine blk_far ?_ NB168_195.out _; refine pq ?_; refine blk_far ?_ NB168_195.out _; refine pq ?_; exact BK168.out) Try.underlying24 rfl (by kernel_rfl)) rfl ?_
     exact ⟨zr, zb⟩
    ·rw [if_neg c35] at H
     have c35b0 : (a1 == 7) = false := beq_eq_false_iff_ne.mpr c35
     have c35b1 : (a1 != 7) = true := bne_iff_ne.mpr c35
     have HC47 := aM H
     clear H
     go_enter Try.func67, Try.ntmps67
     go_upto_if 47 with (first | ((with_reducible refine gate_dst (N := 2) rfl ?_); refine box_event ?hg (N := 2) ?hd (cs := #[.int .i64 a0_0, .int .i64 a0_1, .bool a0_2, .bool a0_3, .bool a0_4]) (t := 24) ?hr ?_; (case hd => rfl); (case hg => rfl); (case hr => exact zg); intro gb167 hg w48 hbox hb; have n0_ := aM (below_step (zb) hb); have n1_ := aM (hbox); have n2_ := aM ((by rw [hg]; exact (below_size (zb)) : w.heap.size ≤ gb167)); have n3_ := aM ((by rw [hg]; exact (below_size (zb)) : w.heap.size ≤ gb167)); clear HB; have HB := n0_; have BK167 := n1_; have GW167 := n2_; have GE167 := n3_; clear n0_ n1_ n2_ n3_; clear hb hbox hg) | ((with_reducible refine gate_dst (N := 4) rfl ?_); refine box_event ?hg (N := 4) ?hd (cs := #[.int .i64 0, .int .i64 0, .bool false, .bool false, .bool false]) (t := 24) ?hr ?_; (case hd => rfl); (case hg => rfl); (case hr => exact zg); intro gb168 hg w49 hbox hb; have n0_ := aM (bb BK167.out hb); have n1_ := aM (below_step (zb) hb); have n2_ := aM (hbox); have n3_ := aM ((by rw [hg]; exact (below_size (zb)) : w.heap.size ≤ gb168)); have n4_ := aM ((by rw [hg]; exact (below_size (zb)) : w.heap.size ≤ gb168)); have n5_ := aM ((by rw [hg]; exact Nat.ne_of_lt (nl BK167.out) : gb167 ≠ gb168)); have n6_ := aM ((by rw [hg]; exact Nat.ne_of_gt (nl BK167.out) : gb168 ≠ gb167)); clear BK167; clear HB; have BK167 := n0_; have HB := n1_; have BK168 := n2_; have GW168 := n3_; have GE168 := n4_; have NB167_168 := n5_; have NB168_167 := n6_; clear n0_ n1_ n2_ n3_ n4_ n5_ n6_; clear hb hbox hg))
     (try simp only [Act.put, List.setIfInBounds_toArray, List.set_cons_zero, List.set_cons_succ])
     go_cut [47] (fun v47 wc => ∃ (kq : Nat) (x47_46 : Bool), v47 = .bool x47_46 ∧ Aside0 (spec_l04Act.j0 kq a1 x47_46 a0_0 a0_1 a0_2 a0_3 a0_4 = some (r1, r2, r3, r4, r5)) ∧ Aside0 (kq ≤ k) ∧ Aside0 (wc.heap[gb167]? = some (.cells #[.int .i64 a0_0, .int .i64 a0_1, .bool a0_2, .bool a0_3, .bool a0_4] 24 (0, 0))) ∧ Aside0 (wc.heap[gb168]? = some (.cells #[.int .i64 0, .int .i64 0, .bool false, .bool false, .bool false] 24 (0, 0))) ∧ Aside0 (Below w.heap.size w wc))
     case first =>
      have H := HC47.out
      clear HC47
      by_cases c50 : a1 = 8
      ·rw [if_pos c50] at H
       have c50b0 : (a1 == 8) = true := beq_iff_eq.mpr c50
       have c50b1 : (a1 != 8) = false := bne_eq_false_iff_eq.mpr c50
       clear c50
       (first | rw [c50b0] | (simp only [i64_w, i32_w]; rw [c50b0]) | skip)
       have H' := aM H
       clear H
       go_wp2
       go_meet
       case rel => exact ⟨_, ((a1 == 8)), zs, H', ⟨by first | omega | exact Nat.le_refl _⟩, ⟨by exact pk BK167.out⟩, ⟨by exact pk BK168.out⟩, ⟨zb⟩⟩
      ·rw [if_neg c50] at H
       have c50b0 : (a1 == 8) = false := beq_eq_false_iff_ne.mpr c50
       have c50b1 : (a1 != 8) = true := bne_iff_ne.mpr c50
       (first | rw [c50b0] | (simp only [i64_w, i32_w]; rw [c50b0]) | skip)
       have H' := aM H
       clear H
       go_wp2
       go_meet
       case rel => exact ⟨_, ((a1 == 9)), zs, H', ⟨by first | omega | exact Nat.le_refl _⟩, ⟨by exact pk BK167.out⟩, ⟨by exact pk BK168.out⟩, ⟨zb⟩⟩
     case rest =>
      clear HC47
      try clear c1
      try clear c2
      try clear p2
      try clear c3
      try clear c3b0
      try clear c3b1
      try clear c4
      try clear c5
      try clear c6
      try clear c7
      try clear c11
      try clear c12
      try clear c15
      try clear c15b0
      try clear c15b1
      try clear c17
      try clear c19
      try clear c21
      try clear c23
      try clear c24
      try clear c27
      try clear c27b0
      try clear c27b1
      try clear c31
      try clear c35
      try clear c35b0
      try clear c35b1
      try clear c39
      try clear c43
      try clear c44
      try clear c50
      try clear c50b0
      try clear c50b1
      try clear hcz13_0 hcz13_1 hcz13_2 hcz13_3 hcz13_4 hfz13_0 hfz13_1 hfz13_2 hfz13_3 hfz13_4
      try clear hcz14_0 hcz14_1 hcz14_2 hcz14_3 hcz14_4 hfz14_0 hfz14_1 hfz14_2 hfz14_3 hfz14_4
      try clear hcz20_0 hcz20_1 hcz20_2 hcz20_3 hcz20_4 hfz20_0 hfz20_1 hfz20_2 hfz20_3 hfz20_4
      try clear hcz25_0 hcz25_1 hcz25_2 hcz25_3 hcz25_4 hfz25_0 hfz25_1 hfz25_2 hfz25_3 hfz25_4
      try clear hcz26_0 hcz26_1 hcz26_2 hcz26_3 hcz26_4 hfz26_0 hfz26_1 hfz26_2 hfz26_3 hfz26_4
      try clear hcz32_0 hcz32_1 hcz32_2 hcz32_3 hcz32_4 hfz32_0 hfz32_1 hfz32_2 hfz32_3 hfz32_4
      try clear hcz34_0 hcz34_1 hcz34_2 hcz34_3 hcz34_4 hfz34_0 hfz34_1 hfz34_2 hfz34_3 hfz34_4
      try clear hcz40_0 hcz40_1 hcz40_2 hcz40_3 hcz40_4 hfz40_0 hfz40_1 hfz40_2 hfz40_3 hfz40_4
      try clear hcz45_0 hcz45_1 hcz45_2 hcz45_3 hcz45_4 hfz45_0 hfz45_1 hfz45_2 hfz45_3 hfz45_4
      try clear hcz46_0 hcz46_1 hcz46_2 hcz46_3 hcz46_4 hfz46_0 hfz46_1 hfz46_2 hfz46_3 hfz46_4
      try clear hcz8_0 hcz8_1 hcz8_2 hcz8_3 hcz8_4 hfz8_0 hfz8_1 hfz8_2 hfz8_3 hfz8_4
      obtain ⟨kq, x47_46, rfl, HA, HJ46, BK167, BK168, HB⟩ := hcut
      cases kq with
      | zero => exact absurd HA.out (by simp [spec_l04Act.j0])
      | succ kj46 =>
       have H := HA.out
       clear HA
       simp only [spec_l04Act.j0] at H
       by_cases c51 : x47_46 = true
       ·subst c51
        have H1 : ((spec_BeginDoor.f kj46 a0_0 a0_1 a0_2 a0_3 a0_4 (wrap64 ((wrap64 (a1 - 8)) + 1))).bind fun bt196 => (some (bt196.1, bt196.2.1, bt196.2.2.1, bt196.2.2.2.1, bt196.2.2.2.2.1))) = some (r1, r2, r3, r4, r5) := by rw [if_pos rfl] at H; exact H
        clear H
        have H := H1
        clear H1
        replace H := Option.bind_eq_some_iff.mp H
        obtain ⟨⟨t196, t197, t198, t199, t200, t201⟩, A520, H⟩ := H
        replace H : (some (t196, t197, t198, t199, t200)) = some (r1, r2, r3, r4, r5) := H
        have A52 := aM A520
        clear A520
        simp only [Option.some.injEq, Prod.mk.injEq] at H
        obtain ⟨rfl, rfl, rfl, rfl, rfl⟩ := H
        have hnb53 := NB167_168.out
        have hnc53 := NB168_167.out
        obtain ⟨hcz54_0, hcz54_1, hcz54_2, hcz54_3, hcz54_4, hfz54_0, hfz54_1, hfz54_2, hfz54_3, hfz54_4⟩ := cells5 BK167.out
        go_wp2_with (first | ((with_reducible refine gate_callee (f := 77) rfl ?_); refine goesL_ (some 55) rfl rfl Try.func77 (by kernel_rfl) rfl #[.agg #[.int .i64 a0_0, .int .i64 a0_1, .bool a0_2, .bool a0_3, .bool a0_4], .int .i64 (wrap64 ((wrap64 (a1 - 8)) + 1))] rfl za ?_; (with_reducible refine (spec_BeginDoor.calls kj46 a0_0 a0_1 a0_2 a0_3 a0_4 (wrap64 ((wrap64 (a1 - 8)) + 1)) t196 t197 t198 t199 t200 t201 _ A52.out).mono ?_); rintro e w55 ⟨rfl, hb⟩; refine ⟨_, rfl, ?_⟩; have n0_ := aM (bb BK167.out hb); have n1_ := aM (bb BK168.out hb); have n2_ := aM (below_step (zb) hb); clear BK167; clear BK168; clear HB; have BK167 := n0_; have BK168 := n1_; have HB := n2_; clear n0_ n1_ n2_; (try clear hb); (try clear hb2); (try clear hk); (try clear hi)) | ((with_reducible refine gate_dst (N := 12) rfl ?_); refine box_event ?hg (N := 12) ?hd (cs := #[.int .i64 0, .int .i64 0, .bool false, .bool false, .bool false]) (t := 24) ?hr ?_; (case hd => rfl); (case hg => rfl); (case hr => exact zg); intro gb202 hg w56 hbox hb; have n0_ := aM (bb BK167.out hb); have n1_ := aM (bb BK168.out hb); have n2_ := aM (below_step (zb) hb); have n3_ := aM (hbox); have n4_ := aM ((by rw [hg]; exact (below_size (zb)) : w.heap.size ≤ gb202)); have n5_ := aM ((by rw [hg]; exact (below_size (zb)) : w.heap.size ≤ gb202)); have n6_ := aM ((by rw [hg]; exact Nat.ne_of_lt (nl BK167.out) : gb167 ≠ gb202)); have n7_ := aM ((by rw [hg]; exact Nat.ne_of_gt (nl BK167.out) : gb202 ≠ gb167)); have n8_ := aM ((by rw [hg]; exact Nat.ne_of_lt (nl BK168.out) : gb168 ≠ gb202)); have n9_ := aM ((by rw [hg]; exact Nat.ne_of_gt (nl BK168.out) : gb202 ≠ gb168)); clear BK167; clear BK168; clear HB; have BK167 := n0_; have BK168 := n1_; have HB := n2_; have BK202 := n3_; have GW202 := n4_; have GE202 := n5_; have NB167_202 := n6_; have NB202_167 := n7_; have NB168_202 := n8_; have NB202_168 := n9_; clear n0_ n1_ n2_ n3_ n4_ n5_ n6_ n7_ n8_ n9_; clear hb hbox hg; have hnb57 := NB202_167.out; have hnc57 := NB167_202.out; have hnb58 := NB202_168.out; have hnc58 := NB168_202.out; obtain ⟨hcz59_0, hcz59_1, hcz59_2, hcz59_3, hcz59_4, hfz59_0, hfz59_1, hfz59_2, hfz59_3, hfz59_4⟩ := cells5 BK202.out; obtain ⟨hcz60_0, hcz60_1, hcz60_2, hcz60_3, hcz60_4, hfz60_0, hfz60_1, hfz60_2, hfz60_3, hfz60_4⟩ := cells5 BK168.out))
        refine bodyPost_ret (results_cell_row rfl _ _ gb168 24 #[.int .i64 t196, .int .i64 t197, .bool t198, .bool t199, .bool t200] (0, 0) _ rfl (by refine pq ?_; refine blk_put (cs := #[.int .i64 t196, .int .i64 t197, .bool t198, .bool t199, .bool false]) ?_ 4 _ rfl; refine pq ?_; refine blk_put (cs := #[.int .i64 t196, .int .i64 t197, .bool t198, .bool false, .bool false]) ?_ 3 _ rfl; refine pq ?_; refine blk_put (cs := #[.int .i64 t196, .int .i64 t197, .bool false, .bool false, .bool false]) ?_ 2 _ rfl; refine pq ?_; refine blk_put (cs := #[.int .i64 t196, .int .i64 0, .bool false, .bool false, .bool false]) ?_ 1 _ rfl; refine pq ?_; refine blk_put (cs := #[.int .i64 0, .int .i64 0, .bool false, .bool false, .bool false]) ?_ 0 _ rfl; refine pq ?_; refine blk_far ?_ NB168_202.out _; refine pq ?_; refine blk_far ?_ NB168_202.out _; refine pq ?_; refine blk_far ?_ NB168_202.out _; refine pq ?_; refine blk_far ?_ NB168_202.out _; refine pq ?_; refine blk_far ?_ NB168_202.out _; refine pq ?_; exact BK168.out) Try.underlying24 rfl (by kernel_rfl)) rfl ?_
        exact ⟨zr, zb⟩
       ·replace c51 := Bool.eq_false_iff.mpr c51
        subst c51
        have H1 : ((spec_Hand.f kj46 a0_0 a0_1 a0_2 a0_3 a0_4 (wrap64 ((wrap64 (a1 - 4)) + 1))).bind fun bt203 => (some (bt203.1, bt203.2.1, bt203.2.2.1, bt203.2.2.2.1, bt203.2.2.2.2.1))) = some (r1, r2, r3, r4, r5) := by rw [if_neg (show ¬ (false = true) by decide)] at H; exact H
        clear H
        have H := H1
        clear H1
        replace H := Option.bind_eq_some_iff.mp H
        obtain ⟨⟨t203, t204, t205, t206, t207, t208⟩, A610, H⟩ := H
        replace H : (some (t203, t204, t205, t206, t207)) = some (r1, r2, r3, r4, r5) := H
        have A61 := aM A610
        clear A610
        simp only [Option.some.injEq, Prod.mk.injEq] at H
        obtain ⟨rfl, rfl, rfl, rfl, rfl⟩ := H
        have hnb62 := NB167_168.out
        have hnc62 := NB168_167.out
        obtain ⟨hcz63_0, hcz63_1, hcz63_2, hcz63_3, hcz63_4, hfz63_0, hfz63_1, hfz63_2, hfz63_3, hfz63_4⟩ := cells5 BK167.out
        go_wp2_with (first | ((with_reducible refine gate_callee (f := 19) rfl ?_); refine goesL_ (some 64) rfl rfl Try.func19 (by kernel_rfl) rfl #[.agg #[.int .i64 a0_0, .int .i64 a0_1, .bool a0_2, .bool a0_3, .bool a0_4], .int .i64 (wrap64 ((wrap64 (a1 - 4)) + 1))] rfl za ?_; (with_reducible refine (spec_Hand.calls kj46 a0_0 a0_1 a0_2 a0_3 a0_4 (wrap64 ((wrap64 (a1 - 4)) + 1)) t203 t204 t205 t206 t207 t208 _ A61.out).mono ?_); rintro e w64 ⟨rfl, hb⟩; refine ⟨_, rfl, ?_⟩; have n0_ := aM (bb BK167.out hb); have n1_ := aM (bb BK168.out hb); have n2_ := aM (below_step (zb) hb); clear BK167; clear BK168; clear HB; have BK167 := n0_; have BK168 := n1_; have HB := n2_; clear n0_ n1_ n2_; (try clear hb); (try clear hb2); (try clear hk); (try clear hi)) | ((with_reducible refine gate_dst (N := 14) rfl ?_); refine box_event ?hg (N := 14) ?hd (cs := #[.int .i64 0, .int .i64 0, .bool false, .bool false, .bool false]) (t := 24) ?hr ?_; (case hd => rfl); (case hg => rfl); (case hr => exact zg); intro gb209 hg w65 hbox hb; have n0_ := aM (bb BK167.out hb); have n1_ := aM (bb BK168.out hb); have n2_ := aM (below_step (zb) hb); have n3_ := aM (hbox); have n4_ := aM ((by rw [hg]; exact (below_size (zb)) : w.heap.size ≤ gb209)); have n5_ := aM ((by rw [hg]; exact (below_size (zb)) : w.heap.size ≤ gb209)); have n6_ := aM ((by rw [hg]; exact Nat.ne_of_lt (nl BK167.out) : gb167 ≠ gb209)); have n7_ := aM ((by rw [hg]; exact Nat.ne_of_gt (nl BK167.out) : gb209 ≠ gb167)); have n8_ := aM ((by rw [hg]; exact Nat.ne_of_lt (nl BK168.out) : gb168 ≠ gb209)); have n9_ := aM ((by rw [hg]; exact Nat.ne_of_gt (nl BK168.out) : gb209 ≠ gb168)); clear BK167; clear BK168; clear HB; have BK167 := n0_; have BK168 := n1_; have HB := n2_; have BK209 := n3_; have GW209 := n4_; have GE209 := n5_; have NB167_209 := n6_; have NB209_167 := n7_; have NB168_209 := n8_; have NB209_168 := n9_; clear n0_ n1_ n2_ n3_ n4_ n5_ n6_ n7_ n8_ n9_; clear hb hbox hg; have hnb66 := NB209_167.out; have hnc66 := NB167_209.out; have hnb67 := NB209_168.out; have hnc67 := NB168_209.out; obtain ⟨hcz68_0, hcz68_1, hcz68_2, hcz68_3, hcz68_4, hfz68_0, hfz68_1, hfz68_2, hfz68_3, hfz68_4⟩ := cells5 BK209.out; obtain ⟨hcz69_0, hcz69_1, hcz69_2, hcz69_3, hcz69_4, hfz69_0, hfz69_1, hfz69_2, hfz69_3, hfz69_4⟩ := cells5 BK168.out))
        refine bodyPost_ret (results_cell_row rfl _ _ gb168 24 #[.int .i64 t203, .int .i64 t204, .bool t205, .bool t206, .bool t207] (0, 0) _ rfl (by refine pq ?_; refine blk_put (cs := #[.int .i64 t203, .int .i64 t204, .bool t205, .bool t206, .bool false]) ?_ 4 _ rfl; refine pq ?_; refine blk_put (cs := #[.int .i64 t203, .int .i64 t204, .bool t205, .bool false, .bool false]) ?_ 3 _ rfl; refine pq ?_; refine blk_put (cs := #[.int .i64 t203, .int .i64 t204, .bool false, .bool false, .bool false]) ?_ 2 _ rfl; refine pq ?_; refine blk_put (cs := #[.int .i64 t203, .int .i64 0, .bool false, .bool false, .bool false]) ?_ 1 _ rfl; refine pq ?_; refine blk_put (cs := #[.int .i64 0, .int .i64 0, .bool false, .bool false, .bool false]) ?_ 0 _ rfl; refine pq ?_; refine blk_far ?_ NB168_209.out _; refine pq ?_; refine blk_far ?_ NB168_209.out _; refine pq ?_; refine blk_far ?_ NB168_209.out _; refine pq ?_; refine blk_far ?_ NB168_209.out _; refine pq ?_; refine blk_far ?_ NB168_209.out _; refine pq ?_; exact BK168.out) Try.underlying24 rfl (by kernel_rfl)) rfl ?_
        exact ⟨zr, zb⟩

end Go.Proofs.Ytglpkjcblpjnoab.QFnDoors
