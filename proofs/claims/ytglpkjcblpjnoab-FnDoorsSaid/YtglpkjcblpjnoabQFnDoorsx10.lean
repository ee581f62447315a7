-- Printed functions and their walks: by print.py, turned by wip/tools/myprint.py.
import Derived.Test.YtglpkjcblpjnoabQFnDoorsx0
import Derived.Test.YtglpkjcblpjnoabQFnDoorsx1
import Derived.Test.YtglpkjcblpjnoabQFnDoorsx2
import Derived.Test.YtglpkjcblpjnoabQFnDoorsx7
import Derived.Test.YtglpkjcblpjnoabQFnDoorsx9
namespace Go.Proofs.Ytglpkjcblpjnoab.QFnDoors
open Go.RowKit Go.Proofs.YtglpkjcblpjnoabW.PrintWords Go.Proofs.YtglpkjcblpjnoabW.PrintLast Go.Proofs.YtglpkjcblpjnoabW.PrintMore
attribute [local go_sem] max2_int min2_int max_two min_two max_three min_three max_four min_four   -- for this text's walks alone
set_option linter.unusedVariables false
set_option linter.unusedSimpArgs false

attribute [local go_sem high] eqA24
/-! ### impl_acted: function 70 -/
mutual
def impl_acted.j0 : Nat → Int → Int → Bool → Int → Int → Bool → Bool → Bool → Option (Int × Int × Bool × Bool × Bool)
 | 0, _, _, _, _, _, _, _, _ => none
 | k + 1, x1, x5, x24, x282000, x282001, x282002, x282003, x282004 => if x24 = true then ((impl_Hand.f k x282000 x282001 x282002 x282003 x282004 (wrap64 ((wrap64 (x1 - 4)) + 1))).bind fun bt300 => (some (bt300.1, bt300.2.1, bt300.2.2.1, bt300.2.2.2.1, bt300.2.2.2.2.1))) else (if x5 = 7 then ((impl_Recover.f k x282000 x282001 x282002 x282003 x282004 0 0 0 0).bind fun bt306 => (some (bt306.1, bt306.2.1, bt306.2.2.1, bt306.2.2.2.1, bt306.2.2.2.2.1))) else (if x5 = 8 then (impl_acted.j1 k x1 (x5 == 8) x282000 x282001 x282002 x282003 x282004) else (impl_acted.j1 k x1 (x5 == 9) x282000 x282001 x282002 x282003 x282004)))
def impl_acted.j1 : Nat → Int → Bool → Int → Int → Bool → Bool → Bool → Option (Int × Int × Bool × Bool × Bool)
 | 0, _, _, _, _, _, _, _ => none
 | k + 1, x1, x45, x282000, x282001, x282002, x282003, x282004 => if x45 = true then ((impl_BeginDoor.f k x282000 x282001 x282002 x282003 x282004 (wrap64 ((wrap64 (x1 - 8)) + 1))).bind fun bt313 => (some (bt313.1, bt313.2.1, bt313.2.2.1, bt313.2.2.2.1, bt313.2.2.2.2.1))) else (some (x282000, x282001, x282002, x282003, x282004))
end
def impl_acted.f (k : Nat) (a0_0 : Int) (a0_1 : Int) (a0_2 : Bool) (a0_3 : Bool) (a0_4 : Bool) (a1 : Int) : Option (Int × Int × Bool × Bool × Bool) := if a1 = 1 then ((impl_Advance.f k a0_0 a0_1 a0_2 a0_3 a0_4).bind fun bt283 => (some (bt283.1, bt283.2.1, bt283.2.2.1, bt283.2.2.2.1, bt283.2.2.2.2.1))) else (if a1 = 2 then ((impl_Relent.f k a0_0 a0_1 a0_2 a0_3 a0_4).bind fun bt289 => (some (bt289.1, bt289.2.1, bt289.2.2.1, bt289.2.2.2.1, bt289.2.2.2.2.1))) else (if a1 = 3 then ((impl_CutPower.f k a0_0 a0_1 a0_2 a0_3 a0_4).bind fun bt295 => (some (bt295.1, bt295.2.1, bt295.2.2.1, bt295.2.2.2.1, bt295.2.2.2.2))) else (if a1 = 4 then (impl_acted.j0 k a1 a1 (a1 == 4) a0_0 a0_1 a0_2 a0_3 a0_4) else (if a1 = 5 then (impl_acted.j0 k a1 a1 (a1 == 5) a0_0 a0_1 a0_2 a0_3 a0_4) else (impl_acted.j0 k a1 a1 (a1 == 6) a0_0 a0_1 a0_2 a0_3 a0_4)))))
theorem impl_acted.mono_l : ∀ k, (∀ y0 y1 y2 y3 y4 y5 y6 y7, LeO (impl_acted.j0 k y0 y1 y2 y3 y4 y5 y6 y7) (impl_acted.j0 (k + 1) y0 y1 y2 y3 y4 y5 y6 y7)) ∧ (∀ y0 y1 y2 y3 y4 y5 y6, LeO (impl_acted.j1 k y0 y1 y2 y3 y4 y5 y6) (impl_acted.j1 (k + 1) y0 y1 y2 y3 y4 y5 y6))
 | 0 => ⟨fun _ _ _ _ _ _ _ _ r h => by simp [impl_acted.j0] at h, fun _ _ _ _ _ _ _ r h => by simp [impl_acted.j1] at h⟩
 | k + 1 => by
  obtain ⟨ih0, ih1⟩ := impl_acted.mono_l k
  refine ⟨?_, ?_⟩
  ·intro y0 y1 y2 y3 y4 y5 y6 y7
   unfold impl_acted.j0
   repeat' first
   | (with_reducible exact ih0 _ _ _ _ _ _ _ _)
   | (with_reducible exact ih1 _ _ _ _ _ _ _)
   | (with_reducible exact impl_Advance.mono _ _ _ _ _ _)
   | (with_reducible exact impl_BeginDoor.mono _ _ _ _ _ _ _)
   | (with_reducible exact impl_CutPower.mono _ _ _ _ _ _)
   | (with_reducible exact impl_Hand.mono _ _ _ _ _ _ _)
   | (with_reducible exact impl_Recover.mono _ _ _ _ _ _ _ _ _ _)
   | (with_reducible exact impl_Relent.mono _ _ _ _ _ _)
   | (with_reducible exact LeO.refl _)
   | (with_reducible exact LeO.none _)
   | (with_reducible refine LeO.ite ?_ ?_)
   | (with_reducible refine LeO.bind ?_ (fun _ => ?_))
   | exact ih0 _ _ _ _ _ _ _ _
   | exact ih1 _ _ _ _ _ _ _
   | exact impl_Advance.mono _ _ _ _ _ _
   | exact impl_BeginDoor.mono _ _ _ _ _ _ _
   | exact impl_CutPower.mono _ _ _ _ _ _
   | exact impl_Hand.mono _ _ _ _ _ _ _
   | exact impl_Recover.mono _ _ _ _ _ _ _ _ _ _
   | exact impl_Relent.mono _ _ _ _ _ _
   | exact LeO.none _
   | refine LeO.ite ?_ ?_
   | refine LeO.bind ?_ (fun _ => ?_)
  ·intro y0 y1 y2 y3 y4 y5 y6
   unfold impl_acted.j1
   repeat' first
   | (with_reducible exact ih0 _ _ _ _ _ _ _ _)
   | (with_reducible exact ih1 _ _ _ _ _ _ _)
   | (with_reducible exact impl_Advance.mono _ _ _ _ _ _)
   | (with_reducible exact impl_BeginDoor.mono _ _ _ _ _ _ _)
   | (with_reducible exact impl_CutPower.mono _ _ _ _ _ _)
   | (with_reducible exact impl_Hand.mono _ _ _ _ _ _ _)
   | (with_reducible exact impl_Recover.mono _ _ _ _ _ _ _ _ _ _)
   | (with_reducible exact impl_Relent.mono _ _ _ _ _ _)
   | (with_reducible exact LeO.refl _)
   | (with_reducible exact LeO.none _)
   | (with_reducible refine LeO.ite ?_ ?_)
   | (with_reducible refine LeO.bind ?_ (fun _ => ?_))
   | exact ih0 _ _ _ _ _ _ _ _
   | exact ih1 _ _ _ _ _ _ _
   | exact impl_Advance.mono _ _ _ _ _ _
   | exact impl_BeginDoor.mono _ _ _ _ _ _ _
   | exact impl_CutPower.mono _ _ _ _ _ _
   | exact impl_Hand.mono _ _ _ _ _ _ _
   | exact impl_Recover.mono _ _ _ _ _ _ _ _ _ _
   | exact impl_Relent.mono _ _ _ _ _ _
   | exact LeO.none _
   | refine LeO.ite ?_ ?_
   | refine LeO.bind ?_ (fun _ => ?_)
theorem impl_acted.mono : ∀ a0 a1 a2 a3 a4 a5 k, LeO (impl_acted.f k a0 a1 a2 a3 a4 a5) (impl_acted.f (k + 1) a0 a1 a2 a3 a4 a5) := by
 intro a0 a1 a2 a3 a4 a5 k
 obtain ⟨ih0, ih1⟩ := impl_acted.mono_l k
 unfold impl_acted.f
 repeat' first
   | (with_reducible exact ih0 _ _ _ _ _ _ _ _)
   | (with_reducible exact ih1 _ _ _ _ _ _ _)
   | (with_reducible exact impl_Advance.mono _ _ _ _ _ _)
   | (with_reducible exact impl_BeginDoor.mono _ _ _ _ _ _ _)
   | (with_reducible exact impl_CutPower.mono _ _ _ _ _ _)
   | (with_reducible exact impl_Hand.mono _ _ _ _ _ _ _)
   | (with_reducible exact impl_Recover.mono _ _ _ _ _ _ _ _ _ _)
   | (with_reducible exact impl_Relent.mono _ _ _ _ _ _)
   | (with_reducible exact LeO.refl _)
   | (with_reducible exact LeO.none _)
   | (with_reducible refine LeO.ite ?_ ?_)
   | (with_reducible refine LeO.bind ?_ (fun _ => ?_))
   | exact ih0 _ _ _ _ _ _ _ _
   | exact ih1 _ _ _ _ _ _ _
   | exact impl_Advance.mono _ _ _ _ _ _
   | exact impl_BeginDoor.mono _ _ _ _ _ _ _
   | exact impl_CutPower.mono _ _ _ _ _ _
   | exact impl_Hand.mono _ _ _ _ _ _ _
   | exact impl_Recover.mono _ _ _ _ _ _ _ _ _ _
   | exact impl_Relent.mono _ _ _ _ _ _
   | exact LeO.none _
   | refine LeO.ite ?_ ?_
   | refine LeO.bind ?_ (fun _ => ?_)
set_option maxHeartbeats 8000000 in
set_option maxRecDepth 100000 in
theorem impl_acted.calls (k : Nat) (a0_0 : Int) (a0_1 : Int) (a0_2 : Bool) (a0_3 : Bool) (a0_4 : Bool) (a1 : Int) (r1 : Int) (r2 : Int) (r3 : Bool) (r4 : Bool) (r5 : Bool) (w : World) (h : impl_acted.f k a0_0 a0_1 a0_2 a0_3 a0_4 a1 = some (r1, r2, r3, r4, r5)) :
  Calls Try.prog 70 #[.agg #[.int .i64 a0_0, .int .i64 a0_1, .bool a0_2, .bool a0_3, .bool a0_4], .int .i64 a1] w fun e w' => e = .returned (.agg #[.int .i64 r1, .int .i64 r2, .bool r3, .bool r4, .bool r5]) ∧ Below w.heap.size w w' := by
 have hu24 := Try.underlying24
 have hu37 := Try.underlying37
 have HB := aM (Below.refl w.heap.size w)
 have H : (if a1 = 1 then ((impl_Advance.f k a0_0 a0_1 a0_2 a0_3 a0_4).bind fun bt283 => (some (bt283.1, bt283.2.1, bt283.2.2.1, bt283.2.2.2.1, bt283.2.2.2.2.1))) else (if a1 = 2 then ((impl_Relent.f k a0_0 a0_1 a0_2 a0_3 a0_4).bind fun bt289 => (some (bt289.1, bt289.2.1, bt289.2.2.1, bt289.2.2.2.1, bt289.2.2.2.2.1))) else (if a1 = 3 then ((impl_CutPower.f k a0_0 a0_1 a0_2 a0_3 a0_4).bind fun bt295 => (some (bt295.1, bt295.2.1, bt295.2.2.1, bt295.2.2.2.1, bt295.2.2.2.2))) else (if a1 = 4 then (impl_acted.j0 k a1 a1 (a1 == 4) a0_0 a0_1 a0_2 a0_3 a0_4) else (if a1 = 5 then (impl_acted.j0 k a1 a1 (a1 == 5) a0_0 a0_1 a0_2 a0_3 a0_4) else (impl_acted.j0 k a1 a1 (a1 == 6) a0_0 a0_1 a0_2 a0_3 a0_4)))))) = some (r1, r2, r3, r4, r5) := h
 clear h
 by_cases c3 : a1 = 1
 ·rw [if_pos c3] at H
  have c3b0 : (a1 == 1) = true := beq_iff_eq.mpr c3
  have c3b1 : (a1 != 1) = false := bne_eq_false_iff_eq.mpr c3
  clear c3
  replace H := Option.bind_eq_some_iff.mp H
  obtain ⟨⟨t283, t284, t285, t286, t287, t288⟩, A40, H⟩ := H
  replace H : (some (t283, t284, t285, t286, t287)) = some (r1, r2, r3, r4, r5) := H
  have A4 := aM A40
  clear A40
  simp only [Option.some.injEq, Prod.mk.injEq] at H
  obtain ⟨rfl, rfl, rfl, rfl, rfl⟩ := H
  go_enter Try.func70, Try.ntmps70
  go_wp2_with (first | ((with_reducible refine gate_dst (N := 2) rfl ?_); refine box_event ?hg (N := 2) ?hd (cs := #[.int .i64 a0_0, .int .i64 a0_1, .bool a0_2, .bool a0_3, .bool a0_4]) (t := 24) ?hr ?_; (case hd => rfl); (case hg => rfl); (case hr => exact zg); intro gb281 hg w5 hbox hb; have n0_ := aM (below_step (zb) hb); have n1_ := aM (hbox); have n2_ := aM ((by rw [hg]; exact (below_size (zb)) : w.heap.size ≤ gb281)); have n3_ := aM ((by rw [hg]; exact (below_size (zb)) : w.heap.size ≤ gb281)); clear HB; have HB := n0_; have BK281 := n1_; have GW281 := n2_; have GE281 := n3_; clear n0_ n1_ n2_ n3_; clear hb hbox hg) | ((with_reducible refine gate_dst (N := 4) rfl ?_); refine box_event ?hg (N := 4) ?hd (cs := #[.int .i64 0, .int .i64 0, .bool false, .bool false, .bool false]) (t := 24) ?hr ?_; (case hd => rfl); (case hg => rfl); (case hr => exact zg); intro gb282 hg w6 hbox hb; have n0_ := aM (bb BK281.out hb); have n1_ := aM (below_step (zb) hb); have n2_ := aM (hbox); have n3_ := aM ((by rw [hg]; exact (below_size (zb)) : w.heap.size ≤ gb282)); have n4_ := aM ((by rw [hg]; exact (below_size (zb)) : w.heap.size ≤ gb282)); have n5_ := aM ((by rw [hg]; exact Nat.ne_of_lt (nl BK281.out) : gb281 ≠ gb282)); have n6_ := aM ((by rw [hg]; exact Nat.ne_of_gt (nl BK281.out) : gb282 ≠ gb281)); clear BK281; clear HB; have BK281 := n0_; have HB := n1_; have BK282 := n2_; have GW282 := n3_; have GE282 := n4_; have NB281_282 := n5_; have NB282_281 := n6_; clear n0_ n1_ n2_ n3_ n4_ n5_ n6_; clear hb hbox hg; have hnb7 := NB281_282.out; have hnc7 := NB282_281.out; obtain ⟨hcz8_0, hcz8_1, hcz8_2, hcz8_3, hcz8_4, hfz8_0, hfz8_1, hfz8_2, hfz8_3, hfz8_4⟩ := cells5 BK281.out) | ((with_reducible refine gate_callee (f := 22) rfl ?_); refine goesL_ (some 10) rfl rfl Try.func22 (by kernel_rfl) rfl #[.agg #[.int .i64 a0_0, .int .i64 a0_1, .bool a0_2, .bool a0_3, .bool a0_4]] rfl za ?_; (with_reducible refine (impl_Advance.calls k a0_0 a0_1 a0_2 a0_3 a0_4 t283 t284 t285 t286 t287 t288 _ A4.out).mono ?_); rintro e w9 ⟨rfl, hb⟩; refine ⟨_, rfl, ?_⟩; have n0_ := aM (bb BK281.out hb); have n1_ := aM (bb BK282.out hb); have n2_ := aM (below_step (zb) hb); clear BK281; clear BK282; clear HB; have BK281 := n0_; have BK282 := n1_; have HB := n2_; clear n0_ n1_ n2_; (try clear hb); (try clear hb2); (try clear hk); (try clear hi); obtain ⟨hcz10_0, hcz10_1, hcz10_2, hcz10_3, hcz10_4, hfz10_0, hfz10_1, hfz10_2, hfz10_3, hfz10_4⟩ := cells5 BK281.out; obtain ⟨hcz11_0, hcz11_1, hcz11_2, hcz11_3, hcz11_4, hfz11_0, hfz11_1, hfz11_2, hfz11_3, hfz11_4⟩ := cells5 BK282.out))
  refine bodyPost_ret (results_cell_row rfl _ _ gb282 24 #[.int .i64 t283, .int .i64 t284, .bool t285, .bool t286, .bool t287] (0, 0) _ rfl (by refine pq ?_; refine blk_put (cs := #[.int .i64 t283, .int .i64 t284, .bool t285, .bool t286, .bool false]) ?_ 4 _ rfl; refine pq ?_; refine blk_put (cs := #[.int .i64 t283, .int .i64 t284, .bool t285, .bool false, .bool false]) ?_ 3 _ rfl; refine pq ?_; refine blk_put (cs := #[.int .i64 t283, .int .i64 t284, .bool false, .bool false, .bool false]) ?_ 2 _ rfl; refine pq ?_; refine blk_put (cs := #[.int .i64 t283, .int .i64 0, .bool false, .bool false, .bool false]) ?_ 1 _ rfl; refine pq ?_; refine blk_put (cs := #[.int .i64 0, .int .i64 0, .bool false, .bool false, .bool false]) ?_ 0 _ rfl; refine pq ?_; refine blk_far ?_ NB282_281.out _; refine pq ?_; refine blk_far ?_ NB282_281.out _; refine pq ?_; refine blk_far ?_ NB282_281.out _; refine pq ?_; refine blk_far ?_ NB282_281.out _; refine pq ?_; refine blk_far ?_ NB282_281.out _; refine pq ?_; exact BK282.out) Try.underlying24 rfl (by kernel_rfl)) rfl ?_
  exact ⟨zr, zb⟩
 ·rw [if_neg c3] at H
  have c3b0 : (a1 == 1) = false := beq_eq_false_iff_ne.mpr c3
  have c3b1 : (a1 != 1) = true := bne_iff_ne.mpr c3
  by_cases c12 : a1 = 2
  ·rw [if_pos c12] at H
   have c12b0 : (a1 == 2) = true := beq_iff_eq.mpr c12
   have c12b1 : (a1 != 2) = false := bne_eq_false_iff_eq.mpr c12
   clear c12
   replace H := Option.bind_eq_some_iff.mp H
   obtain ⟨⟨t289, t290, t291, t292, t293, t294⟩, A130, H⟩ := H
   replace H : (some (t289, t290, t291, t292, t293)) = some (r1, r2, r3, r4, r5) := H
   have A13 := aM A130
   clear A130
   simp only [Option.some.injEq, Prod.mk.injEq] at H
   obtain ⟨rfl, rfl, rfl, rfl, rfl⟩ := H
   go_enter Try.func70, Try.ntmps70
   go_wp2_with (first | ((with_reducible refine gate_dst (N := 2) rfl ?_); refine box_event ?hg (N := 2) ?hd (cs := #[.int .i64 a0_0, .int .i64 a0_1, .bool a0_2, .bool a0_3, .bool a0_4]) (t := 24) ?hr ?_; (case hd => rfl); (case hg => rfl); (case hr => exact zg); intro gb281 hg w14 hbox hb; have n0_ := aM (below_step (zb) hb); have n1_ := aM (hbox); have n2_ := aM ((by rw [hg]; exact (below_size (zb)) : w.heap.size ≤ gb281)); have n3_ := aM ((by rw [hg]; exact (below_size (zb)) : w.heap.size ≤ gb281)); clear HB; have HB := n0_; have BK281 := n1_; have GW281 := n2_; have GE281 := n3_; clear n0_ n1_ n2_ n3_; clear hb hbox hg) | ((with_reducible refine gate_dst (N := 4) rfl ?_); refine box_event ?hg (N := 4) ?hd (cs := #[.int .i64 0, .int .i64 0, .bool false, .bool false, .bool false]) (t := 24) ?hr ?_; (case hd => rfl); (case hg => rfl); (case hr => exact zg); intro gb282 hg w15 hbox hb; have n0_ := aM (bb BK281.out hb); have n1_ := aM (below_step (zb) hb); have n2_ := aM (hbox); have n3_ := aM ((by rw [hg]; exact (below_size (zb)) : w.heap.size ≤ gb282)); have n4_ := aM ((by rw [hg]; exact (below_size (zb)) : w.heap.size ≤ gb282)); have n5_ := aM ((by rw [hg]; exact Nat.ne_of_lt (nl BK281.out) : gb281 ≠ gb282)); have n6_ := aM ((by rw [hg]; exact Nat.ne_of_gt (nl BK281.out) : gb282 ≠ gb281)); clear BK281; clear HB; have BK281 := n0_; have HB := n1_; have BK282 := n2_; have GW282 := n3_; have GE282 := n4_; have NB281_282 := n5_; have NB282_281 := n6_; clear n0_ n1_ n2_ n3_ n4_ n5_ n6_; clear hb hbox hg; have hnb16 := NB281_282.out; have hnc16 := NB282_281.out; obtain ⟨hcz17_0, hcz17_1, hcz17_2, hcz17_3, hcz17_4, hfz17_0, hfz17_1, hfz17_2, hfz17_3, hfz17_4⟩ := cells5 BK281.out) | ((with_reducible refine gate_callee (f := 18) rfl ?_); refine goesL_ (some 17) rfl rfl Try.func18 (by kernel_rfl) rfl #[.agg #[.int .i64 a0_0, .int .i64 a0_1, .bool a0_2, .bool a0_3, .bool a0_4]] rfl za ?_; (with_reducible refine (impl_Relent.calls k a0_0 a0_1 a0_2 a0_3 a0_4 t289 t290 t291 t292 t293 t294 _ A13.out).mono ?_); rintro e w18 ⟨rfl, hb⟩; refine ⟨_, rfl, ?_⟩; have n0_ := aM (bb BK281.out hb); have n1_ := aM (bb BK282.out hb); have n2_ := aM (below_step (zb) hb); clear BK281; clear BK282; clear HB; have BK281 := n0_; have BK282 := n1_; have HB := n2_; clear n0_ n1_ n2_; (try clear hb); (try clear hb2); (try clear hk); (try clear hi); obtain ⟨hcz19_0, hcz19_1, hcz19_2, hcz19_3, hcz19_4, hfz19_0, hfz19_1, hfz19_2, hfz19_3, hfz19_4⟩ := cells5 BK281.out; obtain ⟨hcz20_0, hcz20_1, hcz20_2, hcz20_3, hcz20_4, hfz20_0, hfz20_1, hfz20_2, hfz20_3, hfz20_4⟩ := cells5 BK282.out))
   refine bodyPost_ret (results_cell_row rfl _ _ gb282 24 #[.int .i64 t289, .int .i64 t290, .bool t291, .bool t292, .bool t293] (0, 0) _ rfl (by refine pq ?_; refine blk_put (cs := #[.int .i64 t289, .int .i64 t290, .bool t291, .bool t292, .bool false]) ?_ 4 _ rfl; refine pq ?_; refine blk_put (cs := #[.int .i64 t289, .int .i64 t290, .bool t291, .bool false, .bool false]) ?_ 3 _ rfl; refine pq ?_; refine blk_put (cs := #[.int .i64 t289, .int .i64 t290, .bool false, .bool false, .bool false]) ?_ 2 _ rfl; refine pq ?_; refine blk_put (cs := #[.int .i64 t289, .int .i64 0, .bool false, .bool false, .bool false]) ?_ 1 _ rfl; refine pq ?_; refine blk_put (cs := #[.int .i64 0, .int .i64 0, .bool false, .bool false, .bool false]) ?_ 0 _ rfl; refine pq ?_; refine blk_far ?_ NB282_281.out _; refine pq ?_; refine blk_far ?_ NB282_281.out _; refine pq ?_; refine blk_far ?_ NB282_281.out _; refine pq ?_; refine blk_far ?_ NB282_281.out _; refine pq ?_; refine blk_far ?_ NB282_281.out _; refine pq ?_; exact BK282.out) Try.underlying24 rfl (by kernel_rfl)) rfl ?_
   exact ⟨zr, zb⟩
  ·rw [if_neg c12] at H
   have c12b0 : (a1 == 2) = false := beq_eq_false_iff_ne.mpr c12
   have c12b1 : (a1 != 2) = true := bne_iff_ne.mpr c12
   by_cases c21 : a1 = 3
   ·rw [if_pos c21] at H
    have c21b0 : (a1 == 3) = true := beq_iff_eq.mpr c21
    have c21b1 : (a1 != 3) = false := bne_eq_false_iff_eq.mpr c21
    clear c21
    replace H := Option.bind_eq_some_iff.mp H
    obtain ⟨⟨t295, t296, t297, t298, t299⟩, A220, H⟩ := H
    replace H : (some (t295, t296, t297, t298, t299)) = some (r1, r2, r3, r4, r5) := H
    have A22 := aM A220
    clear A220
    simp only [Option.some.injEq, Prod.mk.injEq] at H
    obtain ⟨rfl, rfl, rfl, rfl, rfl⟩ := H
    go_enter Try.func70, Try.ntmps70
    go_wp2_with (first | ((with_reducible refine gate_dst (N := 2) rfl ?_); refine box_event ?hg (N := 2) ?hd (cs := #[.int .i64 a0_0, .int .i64 a0_1, .bool a0_2, .bool a0_3, .bool a0_4]) (t := 24) ?hr ?_; (case hd => rfl); (case hg => rfl); (case hr => exact zg); intro gb281 hg w23 hbox hb; have n0_ := aM (below_step (zb) hb); have n1_ := aM (hbox); have n2_ := aM ((by rw [hg]; exact (below_size (zb)) : w.heap.size ≤ gb281)); have n3_ := aM ((by rw [hg]; exact (below_size (zb)) : w.heap.size ≤ gb281)); clear HB; have HB := n0_; have BK281 := n1_; have GW281 := n2_; have GE281 := n3_; clear n0_ n1_ n2_ n3_; clear hb hbox hg) | ((with_reducible refine gate_dst (N := 4) rfl ?_); refine box_event ?hg (N := 4) ?hd (cs := #[.int .i64 0, .int .i64 0, .bool false, .bool false, .bool false]) (t := 24) ?hr ?_; (case hd => rfl); (case hg => rfl); (case hr => exact zg); intro gb282 hg w24 hbox hb; have n0_ := aM (bb BK281.out hb); have n1_ := aM (below_step (zb) hb); have n2_ := aM (hbox); have n3_ := aM ((by rw [hg]; exact (below_size (zb)) : w.heap.size ≤ gb282)); have n4_ := aM ((by rw [hg]; exact (below_size (zb)) : w.heap.size ≤ gb282)); have n5_ := aM ((by rw [hg]; exact Nat.ne_of_lt (nl BK281.out) : gb281 ≠ gb282)); have n6_ := aM ((by rw [hg]; exact Nat.ne_of_gt (nl BK281.out) : gb282 ≠ gb281)); clear BK281; clear HB; have BK281 := n0_; have HB := n1_; have BK282 := n2_; have GW282 := n3_; have GE282 := n4_; have NB281_282 := n5_; have NB282_281 := n6_; clear n0_ n1_ n2_ n3_ n4_ n5_ n6_; clear hb hbox hg; have hnb25 := NB281_282.out; have hnc25 := NB282_281.out; obtain ⟨hcz26_0, hcz26_1, hcz26_2, hcz26_3, hcz26_4, hfz26_0, hfz26_1, hfz26_2, hfz26_3, hfz26_4⟩ := cells5 BK281.out) | ((with_reducible refine gate_callee (f := 79) rfl ?_); refine goesL_ (some 23) rfl rfl Try.func79 (by kernel_rfl) rfl #[.agg #[.int .i64 a0_0, .int .i64 a0_1, .bool a0_2, .bool a0_3, .bool a0_4]] rfl za ?_; (with_reducible refine (impl_CutPower.calls k a0_0 a0_1 a0_2 a0_3 a0_4 t295 t296 t297 t298 t299 _ A22.out).mono ?_); rintro e w27 ⟨rfl, hb⟩; refine ⟨_, rfl, ?_⟩; have n0_ := aM (bb BK281.out hb); have n1_ := aM (bb BK282.out hb); have n2_ := aM (below_step (zb) hb); clear BK281; clear BK282; clear HB; have BK281 := n0_; have BK282 := n1_; have HB := n2_; clear n0_ n1_ n2_; (try clear hb); (try clear hb2); (try clear hk); (try clear hi); obtain ⟨hcz28_0, hcz28_1, hcz28_2, hcz28_3, hcz28_4, hfz28_0, hfz28_1, hfz28_2, hfz28_3, hfz28_4⟩ := cells5 BK281.out; obtain ⟨hcz29_0, hcz29_1, hcz29_2, hcz29_3, hcz29_4, hfz29_0, hfz29_1, hfz29_2, hfz29_3, hfz29_4⟩ := cells5 BK282.out))
    refine bodyPost_ret (results_cell_row rfl _ _ gb282 24 #[.int .i64 t295, .int .i64 t296, .bool t297, .bool t298, .bool t299] (0, 0) _ rfl (by refine pq ?_; refine blk_put (cs := #[.int .i64 t295, .int .i64 t296, .bool t297, .bool t298, .bool false]) ?_ 4 _ rfl; refine pq ?_; refine blk_put (cs := #[.int .i64 t295, .int .i64 t296, .bool t297, .bool false, .bool false]) ?_ 3 _ rfl; refine pq ?_; refine blk_put (cs := #[.int .i64 t295, .int .i64 t296, .bool false, .bool false, .bool false]) ?_ 2 _ rfl; refine pq ?_; refine blk_put (cs := #[.int .i64 t295, .int .i64 0, .bool false, .bool false, .bool false]) ?_ 1 _ rfl; refine pq ?_; refine blk_put (cs := #[.int .i64 0, .int .i64 0, .bool false, .bool false, .bool false]) ?_ 0 _ rfl; refine pq ?_; refine blk_far ?_ NB282_281.out _; refine pq ?_; refine blk_far ?_ NB282_281.out _; refine pq ?_; refine blk_far ?_ NB282_281.out _; refine pq ?_; refine blk_far ?_ NB282_281.out _; refine pq ?_; refine blk_far ?_ NB282_281.out _; refine pq ?_; exact BK282.out) Try.underlying24 rfl (by kernel_rfl)) rfl ?_
    exact ⟨zr, zb⟩
   ·rw [if_neg c21] at H
    have c21b0 : (a1 == 3) = false := beq_eq_false_iff_ne.mpr c21
    have c21b1 : (a1 != 3) = true := bne_iff_ne.mpr c21
    have HC30 := aM H
    clear H
    go_enter Try.func70, Try.ntmps70
    go_upto_if 24 with (first | ((with_reducible refine gate_dst (N := 2) rfl ?_); refine box_event ?hg (N := 2) ?hd (cs := #[.int .i64 a0_0, .int .i64 a0_1, .bool a0_2, .bool a0_3, .bool a0_4]) (t := 24) ?hr ?_; (case hd => rfl); (case hg => rfl); (case hr => exact zg); intro gb281 hg w31 hbox hb; have n0_ := aM (below_step (zb) hb); have n1_ := aM (hbox); have n2_ := aM ((by rw [hg]; exact (below_size (zb)) : w.heap.size ≤ gb281)); have n3_ := aM ((by rw [hg]; exact (below_size (zb)) : w.heap.size ≤ gb281)); clear HB; have HB := n0_; have BK281 := n1_; have GW281 := n2_; have GE281 := n3_; clear n0_ n1_ n2_ n3_; clear hb hbox hg) | ((with_reducible refine gate_dst (N := 4) rfl ?_); refine box_event ?hg (N := 4) ?hd (cs := #[.int .i64 0, .int .i64 0, .bool false, .bool false, .bool false]) (t := 24) ?hr ?_; (case hd => rfl); (case hg => rfl); (case hr => exact zg); intro gb282 hg w32 hbox hb; have n0_ := aM (bb BK281.out hb); have n1_ := aM (below_step (zb) hb); have n2_ := aM (hbox); have n3_ := aM ((by rw [hg]; exact (below_size (zb)) : w.heap.size ≤ gb282)); have n4_ := aM ((by rw [hg]; exact (below_size (zb)) : w.heap.size ≤ gb282)); have n5_ := aM ((by rw [hg]; exact Nat.ne_of_lt (nl BK281.out) : gb281 ≠ gb282)); have n6_ := aM ((by rw [hg]; exact Nat.ne_of_gt (nl BK281.out) : gb282 ≠ gb281)); clear BK281; clear HB; have BK281 := n0_; have HB := n1_; have BK282 := n2_; have GW282 := n3_; have GE282 := n4_; have NB281_282 := n5_; have NB282_281 := n6_; clear n0_ n1_ n2_ n3_ n4_ n5_ n6_; clear hb hbox hg))
    (try simp only [Act.put, List.setIfInBounds_toArray, List.set_cons_zero, List.set_cons_succ])
    go_cut [24] (fun v24 wc => ∃ (kq : Nat) (x24_29 : Bool), v24 = .bool x24_29 ∧ Aside0 (impl_acted.j0 kq a1 a1 x24_29 a0_0 a0_1 a0_2 a0_3 a0_4 = some (r1, r2, r3, r4, r5)) ∧ Aside0 (kq ≤ k) ∧ Aside0 (wc.heap[gb281]? = some (.cells #[.int .i64 a0_0, .int .i64 a0_1, .bool a0_2, .bool a0_3, .bool a0_4] 24 (0, 0))) ∧ Aside0 (wc.heap[gb282]? = some (.cells #[.int .i64 0, .int .i64 0, .bool false, .bool false, .bool false] 24 (0, 0))) ∧ Aside0 (Below w.heap.size w wc))
    case first =>
     have H := HC30.out
     clear HC30
     by_cases c33 : a1 = 4
     ·rw [if_pos c33] at H
      have c33b0 : (a1 == 4) = true := beq_iff_eq.mpr c33
      have c33b1 : (a1 != 4) = false := bne_eq_false_iff_eq.mpr c33
      clear c33
      (first | rw [c33b0] | (simp only [i64_w, i32_w]; rw [c33b0]) | skip)
      have H' := aM H
      clear H
      go_wp2
      go_meet
      case rel => exact ⟨_, ((a1 == 4)), zs, H', ⟨by first | omega | exact Nat.le_refl _⟩, ⟨by exact pk BK281.out⟩, ⟨by exact pk BK282.out⟩, ⟨zb⟩⟩
     ·rw [if_neg c33] at H
      have c33b0 : (a1 == 4) = false := beq_eq_false_iff_ne.mpr c33
      have c33b1 : (a1 != 4) = true := bne_iff_ne.mpr c33
      (first | rw [c33b0] | (simp only [i64_w, i32_w]; rw [c33b0]) | skip)
      by_cases c34 : a1 = 5
      ·rw [if_pos c34] at H
       have c34b0 : (a1 == 5) = true := beq_iff_eq.mpr c34
       have c34b1 : (a1 != 5) = false := bne_eq_false_iff_eq.mpr c34
       clear c34
       have H' := aM H
       clear H
       go_wp2
       go_meet
       case rel => exact ⟨_, ((a1 == 5)), zs, H', ⟨by first | omega | exact Nat.le_refl _⟩, ⟨by exact pk BK281.out⟩, ⟨by exact pk BK282.out⟩, ⟨zb⟩⟩
      ·rw [if_neg c34] at H
       have c34b0 : (a1 == 5) = false := beq_eq_false_iff_ne.mpr c34
       have c34b1 : (a1 != 5) = true := bne_iff_ne.mpr c34
       have H' := aM H
       clear H
       go_wp2
       go_meet
       case rel => exact ⟨_, ((a1 == 6)), zs, H', ⟨by first | omega | exact Nat.le_refl _⟩, ⟨by exact pk BK281.out⟩, ⟨by exact pk BK282.out⟩, ⟨zb⟩⟩
    case rest =>
     clear HC30
     try clear c1
     try clear c2
     try clear p2
     try clear c3
     try clear c3b0
     try clear c3b1
     try clear c7
     try clear c12
     try clear c12b0
     try clear c12b1
     try clear c16
     try clear c18
     try clear c21
     try clear c21b0
     try clear c21b1
     try clear c22
     try clear c25
     try clear c33
     try clear c33b0
     try clear c33b1
     try clear c34
     try clear c34b0
     try clear c34b1
     try clear hcz10_0 hcz10_1 hcz10_2 hcz10_3 hcz10_4 hfz10_0 hfz10_1 hfz10_2 hfz10_3 hfz10_4
     try clear hcz11_0 hcz11_1 hcz11_2 hcz11_3 hcz11_4 hfz11_0 hfz11_1 hfz11_2 hfz11_3 hfz11_4
     try clear hcz17_0 hcz17_1 hcz17_2 hcz17_3 hcz17_4 hfz17_0 hfz17_1 hfz17_2 hfz17_3 hfz17_4
     try clear hcz19_0 hcz19_1 hcz19_2 hcz19_3 hcz19_4 hfz19_0 hfz19_1 hfz19_2 hfz19_3 hfz19_4
     try clear hcz20_0 hcz20_1 hcz20_2 hcz20_3 hcz20_4 hfz20_0 hfz20_1 hfz20_2 hfz20_3 hfz20_4
     try clear hcz26_0 hcz26_1 hcz26_2 hcz26_3 hcz26_4 hfz26_0 hfz26_1 hfz26_2 hfz26_3 hfz26_4
     try clear hcz28_0 hcz28_1 hcz28_2 hcz28_3 hcz28_4 hfz28_0 hfz28_1 hfz28_2 hfz28_3 hfz28_4
     try clear hcz29_0 hcz29_1 hcz29_2 hcz29_3 hcz29_4 hfz29_0 hfz29_1 hfz29_2 hfz29_3 hfz29_4
     try clear hcz8_0 hcz8_1 hcz8_2 hcz8_3 hcz8_4 hfz8_0 hfz8_1 hfz8_2 hfz8_3 hfz8_4
     obtain ⟨kq, x24_29, rfl, HA, HJ29, BK281, BK282, HB⟩ := hcut
     cases kq with
     | zero => exact absurd HA.out (by simp [impl_acted.j0])
     | succ kj29 =>
      have H := HA.out
      clear HA
      simp only [impl_acted.j0] at H
      by_cases c35 : x24_29 = true
      ·subst c35
       have H1 : ((impl_Hand.f kj29 a0_0 a0_1 a0_2 a0_3 a0_4 (wrap64 ((wrap64 (a1 - 4)) + 1))).bind fun bt300 => (some (bt300.1, bt300.2.1, bt300.2.2.1, bt300.2.2.2.1, bt300.2.2.2.2.1))) = some (r1, r2, r3, r4, r5) := by rw [if_pos rfl] at H; exact H
       clear H
       have H := H1
       clear H1
       replace H := Option.bind_eq_some_iff.mp H
       obtain ⟨⟨t300, t301, t302, t303, t304, t305⟩, A360, H⟩ := H
       replace H : (some (t300, t301, t302, t303, t304)) = some (r1, r2, r3, r4, r5) := H
       have A36 := aM A360
       clear A360
       simp only [Option.some.injEq, Prod.mk.injEq] at H
       obtain ⟨rfl, rfl, rfl, rfl, rfl⟩ := H
       have hnb37 := NB281_282.out
       have hnc37 := NB282_281.out
       obtain ⟨hcz38_0, hcz38_1, hcz38_2, hcz38_3, hcz38_4, hfz38_0, hfz38_1, hfz38_2, hfz38_3, hfz38_4⟩ := cells5 BK281.out
       go_wp2_with (first | ((with_reducible refine gate_callee (f := 20) rfl ?_); refine goesL_ (some 33) rfl rfl Try.func20 (by kernel_rfl) rfl #[.agg #[.int .i64 a0_0, .int .i64 a0_1, .bool a0_2, .bool a0_3, .bool a0_4], .int .i64 (wrap64 ((wrap64 (a1 - 4)) + 1))] rfl za ?_; (with_reducible refine (impl_Hand.calls kj29 a0_0 a0_1 a0_2 a0_3 a0_4 (wrap64 ((wrap64 (a1 - 4)) + 1)) t300 t301 t302 t303 t304 t305 _ A36.out).mono ?_); rintro e w39 ⟨rfl, hb⟩; refine ⟨_, rfl, ?_⟩; have n0_ := aM (bb BK281.out hb); have n1_ := aM (bb BK282.out hb); have n2_ := aM (below_step (zb) hb); clear BK281; clear BK282; clear HB; have BK281 := n0_; have BK282 := n1_; have HB := n2_; clear n0_ n1_ n2_; (try clear hb); (try clear hb2); (try clear hk); (try clear hi); obtain ⟨hcz40_0, hcz40_1, hcz40_2, hcz40_3, hcz40_4, hfz40_0, hfz40_1, hfz40_2, hfz40_3, hfz40_4⟩ := cells5 BK281.out; obtain ⟨hcz41_0, hcz41_1, hcz41_2, hcz41_3, hcz41_4, hfz41_0, hfz41_1, hfz41_2, hfz41_3, hfz41_4⟩ := cells5 BK282.out))
       refine bodyPost_ret (results_cell_row rfl _ _ gb282 24 #[.int .i64 t300, .int .i64 t301, .bool t302, .bool t303, .bool t304] (0, 0) _ rfl (by refine pq ?_; refine blk_put (cs := #[.int .i64 t300, .int .i64 t301, .bool t302, .bool t303, .bool false]) ?_ 4 _ rfl; refine pq ?_; refine blk_put (cs := #[.int .i64 t300, .int .i64 t301, .bool t302, .bool false, .bool false]) ?_ 3 _ rfl; refine pq ?_; refine blk_put (cs := #[.int .i64 t300, .int .i64 t301, .bool false, .bool false, .bool false]) ?_ 2 _ rfl; refine pq ?_; refine blk_put (cs := #[.int .i64 t300, .int .i64 0, .bool false, .bool false, .bool false]) ?_ 1 _ rfl; refine pq ?_; refine blk_put (cs := #[.int .i64 0, .int .i64 0, .bool false, .bool false, .bool false]) ?_ 0 _ rfl; refine pq ?_; refine blk_far ?_ NB282_281.out _; refine pq ?_; refine blk_far ?_ NB282_281.out _; refine pq ?_; refine blk_far ?_ NB282_281.out _; refine pq ?_; refine blk_far ?_ NB282_281.out _; refine pq ?_; refine blk_far ?_ NB282_281.out _; refine pq ?_; exact BK282.out) Try.underlying24 rfl (by kernel_rfl)) rfl ?_
       exact ⟨zr, zb⟩
      ·replace c35 := Bool.eq_false_iff.mpr c35
       subst c35
       have H1 : (if a1 = 7 then ((impl_Recover.f kj29 a0_0 a0_1 a0_2 a0_3 a0_4 0 0 0 0).bind fun bt306 => (some (bt306.1, bt306.2.1, bt306.2.2.1, bt306.2.2.2.1, bt306.2.2.2.2.1))) else (if a1 = 8 then (impl_acted.j1 kj29 a1 (a1 == 8) a0_0 a0_1 a0_2 a0_3 a0_4) else (impl_acted.j1 kj29 a1 (a1 == 9) a0_0 a0_1 a0_2 a0_3 a0_4))) = some (r1, r2, r3, r4, r5) := by rw [if_neg (show ¬ (false = true) by decide)] at H; exact H
       clear H
       have H := H1
       clear H1
       by_cases c42 : a1 = 7
       ·rw [if_pos c42] at H
        have c42b0 : (a1 == 7) = true := beq_iff_eq.mpr c42
        have c42b1 : (a1 != 7) = false := bne_eq_false_iff_eq.mpr c42
        clear c42
        replace H := Option.bind_eq_some_iff.mp H
        obtain ⟨⟨t306, t307, t308, t309, t310, t311, t312⟩, A430, H⟩ := H
        replace H : (some (t306, t307, t308, t309, t310)) = some (r1, r2, r3, r4, r5) := H
        have A43 := aM A430
        clear A430
        simp only [Option.some.injEq, Prod.mk.injEq] at H
        obtain ⟨rfl, rfl, rfl, rfl, rfl⟩ := H
        have hnb44 := NB281_282.out
        have hnc44 := NB282_281.out
        obtain ⟨hcz45_0, hcz45_1, hcz45_2, hcz45_3, hcz45_4, hfz45_0, hfz45_1, hfz45_2, hfz45_3, hfz45_4⟩ := cells5 BK281.out
        go_wp2_with (first | ((with_reducible refine gate_callee (f := 25) rfl ?_); refine goesL_ (some 41) rfl rfl Try.func25 (by kernel_rfl) rfl #[.agg #[.int .i64 a0_0, .int .i64 a0_1, .bool a0_2, .bool a0_3, .bool a0_4], .agg #[.int .i64 0, .int .i64 0, .int .i64 0, .int .i64 0]] rfl za ?_; (with_reducible refine (impl_Recover.calls kj29 a0_0 a0_1 a0_2 a0_3 a0_4 0 0 0 0 t306 t307 t308 t309 t310 t311 t312 _ A43.out).mono ?_); rintro e w46 ⟨rfl, hb⟩; refine ⟨_, rfl, ?_⟩; have n0_ := aM (bb BK281.out hb); have n1_ := aM (bb BK282.out hb); have n2_ := aM (below_step (zb) hb); clear BK281; clear BK282; clear HB; have BK281 := n0_; have BK282 := n1_; have HB := n2_; clear n0_ n1_ n2_; (try clear hb); (try clear hb2); (try clear hk); (try clear hi); obtain ⟨hcz47_0, hcz47_1, hcz47_2, hcz47_3, hcz47_4, hfz47_0, hfz47_1, hfz47_2, hfz47_3, hfz47_4⟩ := cells5 BK281.out; obtain ⟨hcz48_0, hcz48_1, hcz48_2, hcz48_3, hcz48_4, hfz48_0, hfz48_1, hfz48_2, hfz48_3, hfz48_4⟩ := cells5 BK282.out))
        refine bodyPost_ret (results_cell_row rfl _ _ gb282 24 #[.int .i64 t306, .int .i64 t307, .bool t308, .bool t309, .bool t310] (0, 0) _ rfl (by refine pq ?_; refine blk_put (cs := #[.int .i64 t306, .int .i64 t307, .bool t308, .bool t309, .bool false]) ?_ 4 _ rfl; refine pq ?_; refine blk_put (cs := #[.int .i64 t306, .int .i64 t307, .bool t308, .bool false, .bool false]) ?_ 3 _ rfl; refine pq ?_; refine blk_put (cs := #[.int .i64 t306, .int .i64 t307, .bool false, .bool false, .bool false]) ?_ 2 _ rfl; refine pq ?_; refine blk_put (cs := #[.int .i64 t306, .int .i64 0, .bool false, .bool false, .bool false]) ?_ 1 _ rfl; refine pq ?_; refine blk_put (cs := #[.int .i64 0, .int .i64 0, .bool false, .bool false, .bool false]) ?_ 0 _ rfl; refine pq ?_; refine blk_far ?_ NB282_281.out _; refine pq ?_; refine blk_far ?_ NB282_281.out _; refine pq ?_; refine blk_far ?_ NB282_281.out _; refine pq ?_; refine blk_far ?_ NB282_281.out _; refine pq ?_; refine blk_far ?_ NB282_281.out _; refine pq ?_; exact BK282.out) Try.underlying24 rfl (by kernel_rfl)) rfl ?_
        exact ⟨zr, zb⟩
       ·rw [if_neg c42] at H
        have c42b0 : (a1 == 7) = false := beq_eq_false_iff_ne.mpr c42
        have c42b1 : (a1 != 7) = true := bne_iff_ne.mpr c42
        have HC49 := aM H
        clear H
        go_upto_if 45 with (fail)
        go_cut [45] (fun v45 wc => ∃ (kq : Nat) (x45_48 : Bool), v45 = .bool x45_48 ∧ Aside0 (impl_acted.j1 kq a1 x45_48 a0_0 a0_1 a0_2 a0_3 a0_4 = some (r1, r2, r3, r4, r5)) ∧ Aside0 (kq ≤ kj29) ∧ Aside0 (wc.heap[gb281]? = some (.cells #[.int .i64 a0_0, .int .i64 a0_1, .bool a0_2, .bool a0_3, .bool a0_4] 24 (0, 0))) ∧ Aside0 (wc.heap[gb282]? = some (.cells #[.int .i64 0, .int .i64 0, .bool false, .bool false, .bool false] 24 (0, 0))) ∧ Aside0 (Below w.heap.size w wc))
        case first =>
         have H := HC49.out
         clear HC49
         by_cases c50 : a1 = 8
         ·rw [if_pos c50] at H
          have c50b0 : (a1 == 8) = true := beq_iff_eq.mpr c50
          have c50b1 : (a1 != 8) = false := bne_eq_false_iff_eq.mpr c50
          clear c50
          (first | rw [c50b0] | (simp only [i64_w, i32_w]; rw [c50b0]) | skip)
          have H' := aM H
          clear H
          go_wp2
          go_meet
          case rel => exact ⟨_, ((a1 == 8)), zs, H', ⟨by have := HJ29.out; first | omega | exact Nat.le_refl _⟩, ⟨by exact pk BK281.out⟩, ⟨by exact pk BK282.out⟩, ⟨zb⟩⟩
         ·rw [if_neg c50] at H
          have c50b0 : (a1 == 8) = false := beq_eq_false_iff_ne.mpr c50
          have c50b1 : (a1 != 8) = true := bne_iff_ne.mpr c50
          (first | rw [c50b0] | (simp only [i64_w, i32_w]; rw [c50b0]) | skip)
          have H' := aM H
          clear H
          go_wp2
          go_meet
          case rel => exact ⟨_, ((a1 == 9)), zs, H', ⟨by have := HJ29.out; first | omega | exact Nat.le_refl _⟩, ⟨by exact pk BK281.out⟩, ⟨by exact pk BK282.out⟩, ⟨zb⟩⟩
        case rest =>
         clear HC49
         try clear c1
         try clear c2
         try clear p2
         try clear c3
         try clear c3b0
         try clear c3b1
         try clear c4
         try clear c5
         try clear p6
         try clear c7
         try clear c12
         try clear c12b0
         try clear c12b1
         try clear c16
         try clear c18
         try clear c20
         try clear c21
         try clear c21b0
         try clear c21b1
         try clear c22
         try clear c25
         try clear c33
         try clear c33b0
         try clear c33b1
         try clear c34
         try clear c34b0
         try clear c34b1
         try clear c35
         try clear c37
         try clear c42
         try clear c42b0
         try clear c42b1
         try clear c44
         try clear c50
         try clear c50b0
         try clear c50b1
         try clear hcz10_0 hcz10_1 hcz10_2 hcz10_3 hcz10_4 hfz10_0 hfz10_1 hfz10_2 hfz10_3 hfz10_4
         try clear hcz11_0 hcz11_1 hcz11_2 hcz11_3 hcz11_4 hfz11_0 hfz11_1 hfz11_2 hfz11_3 hfz11_4
         try clear hcz17_0 hcz17_1 hcz17_2 hcz17_3 hcz17_4 hfz17_0 hfz17_1 hfz17_2 hfz17_3 hfz17_4
         try clear hcz19_0 hcz19_1 hcz19_2 hcz19_3 hcz19_4 hfz19_0 hfz19_1 hfz19_2 hfz19_3 hfz19_4
         try clear hcz20_0 hcz20_1 hcz20_2 hcz20_3 hcz20_4 hfz20_0 hfz20_1 hfz20_2 hfz20_3 hfz20_4
         try clear hcz26_0 hcz26_1 hcz26_2 hcz26_3 hcz26_4 hfz26_0 hfz26_1 hfz26_2 hfz26_3 hfz26_4
         try clear hcz28_0 hcz28_1 hcz28_2 hcz28_3 hcz28_4 hfz28_0 hfz28_1 hfz28_2 hfz28_3 hfz28_4
         try clear hcz29_0 hcz29_1 hcz29_2 hcz29_3 hcz29_4 hfz29_0 hfz29_1 hfz29_2 hfz29_3 hfz29_4
         try clear hcz38_0 hcz38_1 hcz38_2 hcz38_3 hcz38_4 hfz38_0 hfz38_1 hfz38_2 hfz38_3 hfz38_4
         try clear hcz40_0 hcz40_1 hcz40_2 hcz40_3 hcz40_4 hfz40_0 hfz40_1 hfz40_2 hfz40_3 hfz40_4
         try clear hcz41_0 hcz41_1 hcz41_2 hcz41_3 hcz41_4 hfz41_0 hfz41_1 hfz41_2 hfz41_3 hfz41_4
         try clear hcz45_0 hcz45_1 hcz45_2 hcz45_3 hcz45_4 hfz45_0 hfz45_1 hfz45_2 hfz45_3 hfz45_4
         try clear hcz47_0 hcz47_1 hcz47_2 hcz47_3 hcz47_4 hfz47_0 hfz47_1 hfz47_2 hfz47_3 hfz47_4
         try clear hcz48_0 hcz48_1 hcz48_2 hcz48_3 hcz48_4 hfz48_0 hfz48_1 hfz48_2 hfz48_3 hfz48_4
         try clear hcz8_0 hcz8_1 hcz8_2 hcz8_3 hcz8_4 hfz8_0 hfz8_1 hfz8_2 hfz8_3 hfz8_4
         try clear p2
         obtain ⟨kq, x45_48, rfl, HA, HJ48, BK281, BK282, HB⟩ := hcut
         cases kq with
         | zero => exact absurd HA.out (by simp [impl_acted.j1])
         | succ kj48 =>
          have H := HA.out
          clear HA
          simp only [impl_acted.j1] at H
          by_cases c51 : x45_48 = true
          ·subst c51
           have H1 : ((impl_BeginDoor.f kj48 a0_0 a0_1 a0_2 a0_3 a0_4 (wrap64 ((wrap64 (a1 - 8)) + 1))).bind fun bt313 => (some (bt313.1, bt313.2.1, bt313.2.2.1, bt313.2.2.2.1, bt313.2.2.2.2.1))) = some (r1, r2, r3, r4, r5) := by rw [if_pos rfl] at H; exact H
           clear H
           have H := H1
           clear H1
           replace H := Option.bind_eq_some_iff.mp H
           obtain ⟨⟨t313, t314, t315, t316, t317, t318⟩, A520, H⟩ := H
           replace H : (some (t313, t314, t315, t316, t317)) = some (r1, r2, r3, r4, r5) := H
           have A52 := aM A520
           clear A520
           simp only [Option.some.injEq, Prod.mk.injEq] at H
           obtain ⟨rfl, rfl, rfl, rfl, rfl⟩ := H
           have hnb53 := NB281_282.out
           have hnc53 := NB282_281.out
           obtain ⟨hcz54_0, hcz54_1, hcz54_2, hcz54_3, hcz54_4, hfz54_0, hfz54_1, hfz54_2, hfz54_3, hfz54_4⟩ := cells5 BK281.out
           go_wp2_with (first | ((with_reducible refine gate_callee (f := 28) rfl ?_); refine goesL_ (some 53) rfl rfl Try.func28 (by kernel_rfl) rfl #[.agg #[.int .i64 a0_0, .int .i64 a0_1, .bool a0_2, .bool a0_3, .bool a0_4], .int .i64 (wrap64 ((wrap64 (a1 - 8)) + 1))] rfl za ?_; (with_reducible refine (impl_BeginDoor.calls kj48 a0_0 a0_1 a0_2 a0_3 a0_4 (wrap64 ((wrap64 (a1 - 8)) + 1)) t313 t314 t315 t316 t317 t318 _ A52.out).mono ?_); rintro e w55 ⟨rfl, hb⟩; refine ⟨_, rfl, ?_⟩; have n0_ := aM (bb BK281.out hb); have n1_ := aM (bb BK282.out hb); have n2_ := aM (below_step (zb) hb); clear BK281; clear BK282; clear HB; have BK281 := n0_; have BK282 := n1_; have HB := n2_; clear n0_ n1_ n2_; (try clear hb); (try clear hb2); (try clear hk); (try clear hi); obtain ⟨hcz56_0, hcz56_1, hcz56_2, hcz56_3, hcz56_4, hfz56_0, hfz56_1, hfz56_2, hfz56_3, hfz56_4⟩ := cells5 BK281.out; obtain ⟨hcz57_0, hcz57_1, hcz57_2, hcz57_3, hcz57_4, hfz57_0, hfz57_1, hfz57_2, hfz57_3, hfz57_4⟩ := cells5 BK282.out))
           refine bodyPost_ret (results_cell_row rfl _ _ gb282 24 #[.int .i64 t313, .int .i64 t314, .bool t315, .bool t316, .bool t317] (0, 0) _ rfl (by refine pq ?_; refine blk_put (cs := #[.int .i64 t313, .int .i64 t314, .bool t315, .bool t316, .bool false]) ?_ 4 _ rfl; refine pq ?_; refine blk_put (cs := #[.int .i64 t313, .int .i64 t314, .bool t315, .bool false, .bool false]) ?_ 3 _ rfl; refine pq ?_; refine blk_put (cs := #[.int .i64 t313, .int .i64 t314, .bool false, .bool false, .bool false]) ?_ 2 _ rfl; refine pq ?_; refine blk_put (cs := #[.int .i64 t313, .int .i64 0, .bool false, .bool false, .bool false]) ?_ 1 _ rfl; refine pq ?_; refine blk_put (cs := #[.int .i64 0, .int .i64 0, .bool false, .bool false, .bool false]) ?_ 0 _ rfl; refine pq ?_; refine blk_far ?_ NB282_281.out _; refine pq ?_; refine blk_far ?_ NB282_281.out _; refine pq ?_; refine blk_far ?_ NB282_281.out _; refine pq ?_; refine blk_far ?_ NB282_281.out _; refine pq ?_; refine blk_far ?_ NB282_281.out _; refine pq ?_; exact BK282.out) Try.underlying24 rfl (by kernel_rfl)) rfl ?_
           exact ⟨zr, zb⟩
          ·replace c51 := Bool.eq_false_iff.mpr c51
           subst c51
           have H1 : (some (a0_0, a0_1, a0_2, a0_3, a0_4)) = some (r1, r2, r3, r4, r5) := by rw [if_neg (show ¬ (false = true) by decide)] at H; exact H
           clear H
           have H := H1
           clear H1
           simp only [Option.some.injEq, Prod.mk.injEq] at H
           obtain ⟨rfl, rfl, rfl, rfl, rfl⟩ := H
           have hnb58 := NB281_282.out
           have hnc58 := NB282_281.out
           obtain ⟨hcz59_0, hcz59_1, hcz59_2, hcz59_3, hcz59_4, hfz59_0, hfz59_1, hfz59_2, hfz59_3, hfz59_4⟩ := cells5 BK281.out
           obtain ⟨hcz60_0, hcz60_1, hcz60_2, hcz60_3, hcz60_4, hfz60_0, hfz60_1, hfz60_2, hfz60_3, hfz60_4⟩ := cells5 BK282.out
           go_wp2
           refine bodyPost_ret (results_cell_row rfl _ _ gb282 24 #[.int .i64 a0_0, .int .i64 a0_1, .bool a0_2, .bool a0_3, .bool a0_4] (0, 0) _ rfl (by refine pq ?_; refine blk_put (cs := #[.int .i64 a0_0, .int .i64 a0_1, .bool a0_2, .bool a0_3, .bool false]) ?_ 4 _ rfl; refine pq ?_; refine blk_put (cs := #[.int .i64 a0_0, .int .i64 a0_1, .bool a0_2, .bool false, .bool false]) ?_ 3 _ rfl; refine pq ?_; refine blk_put (cs := #[.int .i64 a0_0, .int .i64 a0_1, .bool false, .bool false, .bool false]) ?_ 2 _ rfl; refine pq ?_; refine blk_put (cs := #[.int .i64 a0_0, .int .i64 0, .bool false, .bool false, .bool false]) ?_ 1 _ rfl; refine pq ?_; refine blk_put (cs := #[.int .i64 0, .int .i64 0, .bool false, .bool false, .bool false]) ?_ 0 _ rfl; refine pq ?_; exact BK282.out) Try.underlying24 rfl (by kernel_rfl)) rfl ?_
           exact ⟨zr, zb⟩

/-! ### impl_DoActs: function 45 -/
mutual
def impl_DoActs.j0 : Nat → List Int → Bool → Int → Int → Bool → Bool → Bool → Option (Int × Int × Bool × Bool × Bool × List Int)
 | 0, _, _, _, _, _, _, _ => none
 | k + 1, x1, x21, x320000, x320001, x320002, x320003, x320004 => if x21 = true then (some (x320000, x320001, x320002, x320003, x320004, ([] : List Int))) else (impl_DoActs.l0 k ([] : List Int) x1 (x1.length : Int) 0 x320000 x320001 x320002 x320003 x320004)
def impl_DoActs.l0 : Nat → List Int → List Int → Int → Int → Int → Int → Bool → Bool → Bool → Option (Int × Int × Bool × Bool × Bool × List Int)
 | 0, _, _, _, _, _, _, _, _, _ => none
 | k + 1, x6, x23, x24, x25, x320000, x320001, x320002, x320003, x320004 => if x25 < x24 then (if 0 ≤ x25 then (if x25 < (x23.length : Int) then ((impl_acted.f k x320000 x320001 x320002 x320003 x320004 (rd x23 x25)).bind fun bt324 => (if (!(bt324.1 == x320000) || (!(bt324.2.1 == x320001) || (!(bt324.2.2.1 == x320002) || (!(bt324.2.2.2.1 == x320003) || (!(bt324.2.2.2.2 == x320004)))))) = true then (if x6.length < 17592186044416 then (impl_DoActs.l0 k (x6 ++ [x25]) x23 x24 (wrap64 (x25 + 1)) bt324.1 bt324.2.1 bt324.2.2.1 bt324.2.2.2.1 bt324.2.2.2.2) else (none)) else (impl_DoActs.l0 k x6 x23 x24 (wrap64 (x25 + 1)) bt324.1 bt324.2.1 bt324.2.2.1 bt324.2.2.2.1 bt324.2.2.2.2))) else (none)) else (none)) else (some (x320000, x320001, x320002, x320003, x320004, x6))
end
def impl_DoActs.f (k : Nat) (a0_0 : Int) (a0_1 : Int) (a0_2 : Bool) (a0_3 : Bool) (a0_4 : Bool) (l1 : List Int) : Option (Int × Int × Bool × Bool × Bool × List Int) := (impl_DoorOk.f k a0_0 a0_1 a0_2 a0_3 a0_4).bind fun t321 => (if t321 = true then (if (l1.length : Int) > 200 then (impl_DoActs.j0 k l1 true a0_0 a0_1 a0_2 a0_3 a0_4) else ((slices_ContainsFunc_int_int.f k l1).bind fun t322 => (impl_DoActs.j0 k l1 t322 a0_0 a0_1 a0_2 a0_3 a0_4))) else (impl_DoActs.j0 k l1 true a0_0 a0_1 a0_2 a0_3 a0_4))
theorem impl_DoActs.mono_l : ∀ k, (∀ y0 y1 y2 y3 y4 y5 y6, LeO (impl_DoActs.j0 k y0 y1 y2 y3 y4 y5 y6) (impl_DoActs.j0 (k + 1) y0 y1 y2 y3 y4 y5 y6)) ∧ (∀ y0 y1 y2 y3 y4 y5 y6 y7 y8, LeO (impl_DoActs.l0 k y0 y1 y2 y3 y4 y5 y6 y7 y8) (impl_DoActs.l0 (k + 1) y0 y1 y2 y3 y4 y5 y6 y7 y8))
 | 0 => ⟨fun _ _ _ _ _ _ _ r h => by simp [impl_DoActs.j0] at h, fun _ _ _ _ _ _ _ _ _ r h => by simp [impl_DoActs.l0] at h⟩
 | k + 1 => by
  obtain ⟨ih0, ih1⟩ := impl_DoActs.mono_l k
  refine ⟨?_, ?_⟩
  ·intro y0 y1 y2 y3 y4 y5 y6
   unfold impl_DoActs.j0
   repeat' first
   | (with_reducible exact ih0 _ _ _ _ _ _ _)
   | (with_reducible exact ih1 _ _ _ _ _ _ _ _ _)
   | (with_reducible exact impl_DoorOk.mono _ _ _ _ _ _)
   | (with_reducible exact impl_acted.mono _ _ _ _ _ _ _)
   | (with_reducible exact slices_ContainsFunc_int_int.mono _ _)
   | (with_reducible exact LeO.refl _)
   | (with_reducible exact LeO.none _)
   | (with_reducible refine LeO.ite ?_ ?_)
   | (with_reducible refine LeO.bind ?_ (fun _ => ?_))
   | exact ih0 _ _ _ _ _ _ _
   | exact ih1 _ _ _ _ _ _ _ _ _
   | exact impl_DoorOk.mono _ _ _ _ _ _
   | exact impl_acted.mono _ _ _ _ _ _ _
   | exact slices_ContainsFunc_int_int.mono _ _
   | exact LeO.none _
   | refine LeO.ite ?_ ?_
   | refine LeO.bind ?_ (fun _ => ?_)
  ·intro y0 y1 y2 y3 y4 y5 y6 y7 y8
   unfold impl_DoActs.l0
   repeat' first
   | (with_reducible exact ih0 _ _ _ _ _ _ _)
   | (with_reducible exact ih1 _ _ _ _ _ _ _ _ _)
   | (with_reducible exact impl_DoorOk.mono _ _ _ _ _ _)
   | (with_reducible exact impl_acted.mono _ _ _ _ _ _ _)
   | (with_reducible exact slices_ContainsFunc_int_int.mono _ _)
   | (with_reducible exact LeO.refl _)
   | (with_reducible exact LeO.none _)
   | (with_reducible refine LeO.ite ?_ ?_)
   | (with_reducible refine LeO.bind ?_ (fun _ => ?_))
   | exact ih0 _ _ _ _ _ _ _
   | exact ih1 _ _ _ _ _ _ _ _ _
   | exact impl_DoorOk.mono _ _ _ _ _ _
   | exact impl_acted.mono _ _ _ _ _ _ _
   | exact slices_ContainsFunc_int_int.mono _ _
   | exact LeO.none _
   | refine LeO.ite ?_ ?_
   | refine LeO.bind ?_ (fun _ => ?_)
theorem impl_DoActs.mono : ∀ a0 a1 a2 a3 a4 a5 k, LeO (impl_DoActs.f k a0 a1 a2 a3 a4 a5) (impl_DoActs.f (k + 1) a0 a1 a2 a3 a4 a5) := by
 intro a0 a1 a2 a3 a4 a5 k
 obtain ⟨ih0, ih1⟩ := impl_DoActs.mono_l k
 unfold impl_DoActs.f
 repeat' first
   | (with_reducible exact ih0 _ _ _ _ _ _ _)
   | (with_reducible exact ih1 _ _ _ _ _ _ _ _ _)
   | (with_reducible exact impl_DoorOk.mono _ _ _ _ _ _)
   | (with_reducible exact impl_acted.mono _ _ _ _ _ _ _)
   | (with_reducible exact slices_ContainsFunc_int_int.mono _ _)
   | (with_reducible exact LeO.refl _)
   | (with_reducible exact LeO.none _)
   | (with_reducible refine LeO.ite ?_ ?_)
   | (with_reducible refine LeO.bind ?_ (fun _ => ?_))
   | exact ih0 _ _ _ _ _ _ _
   | exact ih1 _ _ _ _ _ _ _ _ _
   | exact impl_DoorOk.mono _ _ _ _ _ _
   | exact impl_acted.mono _ _ _ _ _ _ _
   | exact slices_ContainsFunc_int_int.mono _ _
   | exact LeO.none _
   | refine LeO.ite ?_ ?_
   | refine LeO.bind ?_ (fun _ => ?_)
set_option maxHeartbeats 8000000 in
set_option maxRecDepth 100000 in
theorem impl_DoActs.calls (k : Nat) (a0_0 : Int) (a0_1 : Int) (a0_2 : Bool) (a0_3 : Bool) (a0_4 : Bool) (A1 : Option Addr) (c1 : Nat) (l1 : List Int) (r1 : Int) (r2 : Int) (r3 : Bool) (r4 : Bool) (r5 : Bool) (r6 : List Int) (w : World) (hr1 : Kd.C (Kd.int .i64) w A1 l1.length l1) (hc1 : l1.length ≤ c1) (h : impl_DoActs.f k a0_0 a0_1 a0_2 a0_3 a0_4 l1 = some (r1, r2, r3, r4, r5, r6)) :
  Calls Try.prog 45 #[.agg #[.int .i64 a0_0, .int .i64 a0_1, .bool a0_2, .bool a0_3, .bool a0_4], .slice A1 l1.length c1] w fun e w' => ∃ v5_ : Value, e = .returned (.tuple #[.agg #[.int .i64 r1, .int .i64 r2, .bool r3, .bool r4, .bool r5], v5_]) ∧ Kd.R (Kd.int .i64) 3 w' w.heap.size (fun _ => True) v5_ r6 ∧ Below w.heap.size w w' := by
 have hu24 := Try.underlying24
 have HR1 := aM hr1
 have HC1 := aM hc1
 clear hr1 hc1
 have HB := aM (Below.refl w.heap.size w)
 have H : ((impl_DoorOk.f k a0_0 a0_1 a0_2 a0_3 a0_4).bind fun t321 => (if t321 = true then (if (l1.length : Int) > 200 then (impl_DoActs.j0 k l1 true a0_0 a0_1 a0_2 a0_3 a0_4) else ((slices_ContainsFunc_int_int.f k l1).bind fun t322 => (impl_DoActs.j0 k l1 t322 a0_0 a0_1 a0_2 a0_3 a0_4))) else (impl_DoActs.j0 k l1 true a0_0 a0_1 a0_2 a0_3 a0_4))) = some (r1, r2, r3, r4, r5, r6) := h
 clear h
 have HC3 := aM H
 clear H
 go_enter Try.func45, Try.ntmps45
 go_upto_region 1 with (first | ((with_reducible refine gate_dst (N := 2) rfl ?_); (try (refine gate_guard (by rfl) ?_; dsimp only)); refine box_event ?hg (N := 2) ?hd (cs := #[.int .i64 a0_0, .int .i64 a0_1, .bool a0_2, .bool a0_3, .bool a0_4]) (t := 24) ?hr ?_; (case hd => rfl); (case hg => rfl); (case hr => exact zg); intro gb319 hg w4 hbox hb; have n0_ := aM (below_step (zb) hb); have n1_ := aM (hbox); have n2_ := aM ((by rw [hg]; exact (below_size (zb)) : w.heap.size ≤ gb319)); have n3_ := aM ((by rw [hg]; exact (below_size (zb)) : w.heap.size ≤ gb319)); clear HB; have HB := n0_; have BK319 := n1_; have GW319 := n2_; have GE319 := n3_; clear n0_ n1_ n2_ n3_; clear hb hbox hg) | ((with_reducible refine gate_dst (N := 4) rfl ?_); (try (refine gate_guard (by rfl) ?_; dsimp only)); refine box_event ?hg (N := 4) ?hd (cs := #[.int .i64 0, .int .i64 0, .bool false, .bool false, .bool false]) (t := 24) ?hr ?_; (case hd => rfl); (case hg => rfl); (case hr => exact zg); intro gb320 hg w5 hbox hb; have n0_ := aM (bb BK319.out hb); have n1_ := aM (below_step (zb) hb); have n2_ := aM (hbox); have n3_ := aM ((by rw [hg]; exact (below_size (zb)) : w.heap.size ≤ gb320)); have n4_ := aM ((by rw [hg]; exact (below_size (zb)) : w.heap.size ≤ gb320)); have n5_ := aM ((by rw [hg]; exact Nat.ne_of_lt (nl BK319.out) : gb319 ≠ gb320)); have n6_ := aM ((by rw [hg]; exact Nat.ne_of_gt (nl BK319.out) : gb320 ≠ gb319)); clear BK319; clear HB; have BK319 := n0_; have HB := n1_; have BK320 := n2_; have GW320 := n3_; have GE320 := n4_; have NB319_320 := n5_; have NB320_319 := n6_; clear n0_ n1_ n2_ n3_ n4_ n5_ n6_; clear hb hbox hg))
 (try simp only [Act.put, List.setIfInBounds_toArray, List.set_cons_zero, List.set_cons_succ])
 go_cut [21] (fun v21 wc => ∃ (kq : Nat) (x21_2 : Bool), v21 = .bool x21_2 ∧ Aside0 (impl_DoActs.j0 kq l1 x21_2 a0_0 a0_1 a0_2 a0_3 a0_4 = some (r1, r2, r3, r4, r5, r6)) ∧ Aside0 (kq ≤ k) ∧ Aside0 (wc.heap[gb319]? = some (.cells #[.int .i64 a0_0, .int .i64 a0_1, .bool a0_2, .bool a0_3, .bool a0_4] 24 (0, 0))) ∧ Aside0 (wc.heap[gb320]? = some (.cells #[.int .i64 0, .int .i64 0, .bool false, .bool false, .bool false] 24 (0, 0))) ∧ Aside0 (Below w.heap.size w wc))
 case first =>
  have H := HC3.out
  clear HC3
  replace H := Option.bind_eq_some_iff.mp H
  obtain ⟨t321, A60, H⟩ := H
  replace H : (if t321 = true then (if (l1.length : Int) > 200 then (impl_DoActs.j0 k l1 true a0_0 a0_1 a0_2 a0_3 a0_4) else ((slices_ContainsFunc_int_int.f k l1).bind fun t322 => (impl_DoActs.j0 k l1 t322 a0_0 a0_1 a0_2 a0_3 a0_4))) else (impl_DoActs.j0 k l1 true a0_0 a0_1 a0_2 a0_3 a0_4)) = some (r1, r2, r3, r4, r5, r6) := H
  have A6 := aM A60
  clear A60
  by_cases c7 : t321 = true
  ·subst c7
   have H1 : (if (l1.length : Int) > 200 then (impl_DoActs.j0 k l1 true a0_0 a0_1 a0_2 a0_3 a0_4) else ((slices_ContainsFunc_int_int.f k l1).bind fun t322 => (impl_DoActs.j0 k l1 t322 a0_0 a0_1 a0_2 a0_3 a0_4))) = some (r1, r2, r3, r4, r5, r6) := by rw [if_pos rfl] at H; exact H
   clear H
   have H := H1
   clear H1
   by_cases c8 : (l1.length : Int) > 200
   ·rw [if_pos c8] at H
    have c8b0 : decide (200 < (l1.length : Int)) = true := decide_eq_true c8
    have c8b1 : decide (200 < l1.length) = true := decide_eq_true (by omega)
    clear c8
    (first | rw [c8b0] | (simp only [i64_w, i32_w]; rw [c8b0]) | skip)
    have H' := aM H
    clear H
    have hnb9 := NB319_320.out
    have hnc9 := NB320_319.out
    obtain ⟨hcz10_0, hcz10_1, hcz10_2, hcz10_3, hcz10_4, hfz10_0, hfz10_1, hfz10_2, hfz10_3, hfz10_4⟩ := cells5 BK319.out
    go_wp2_with (first | ((with_reducible refine gate_callee (f := 30) rfl ?_); refine goesL_ (some 11) rfl rfl Try.func30 (by kernel_rfl) rfl #[.agg #[.int .i64 a0_0, .int .i64 a0_1, .bool a0_2, .bool a0_3, .bool a0_4]] rfl za ?_; (with_reducible refine (impl_DoorOk.calls k a0_0 a0_1 a0_2 a0_3 a0_4 true _ A6.out).mono ?_); rintro e w11 ⟨rfl, hb⟩; refine ⟨_, rfl, ?_⟩; have n0_ := aM (bb BK319.out hb); have n1_ := aM (bb BK320.out hb); have n2_ := aM (below_step (zb) hb); clear BK319; clear BK320; clear HB; have BK319 := n0_; have BK320 := n1_; have HB := n2_; clear n0_ n1_ n2_; (try clear hb); (try clear hb2); (try clear hk); (try clear hi)))
    go_meet
    case rel => exact ⟨_, (true), zs, H', ⟨by first | omega | exact Nat.le_refl _⟩, ⟨by exact pk BK319.out⟩, ⟨by exact pk BK320.out⟩, ⟨zb⟩⟩
   ·rw [if_neg c8] at H
    have c8b0 : decide (200 < (l1.length : Int)) = false := decide_eq_false c8
    have c8b1 : decide (200 < l1.length) = false := decide_eq_false (by omega)
    clear c8
    (first | rw [c8b0] | (simp only [i64_w, i32_w]; rw [c8b0]) | skip)
    replace H := Option.bind_eq_some_iff.mp H
    obtain ⟨t322, A120, H⟩ := H
    replace H : (impl_DoActs.j0 k l1 t322 a0_0 a0_1 a0_2 a0_3 a0_4) = some (r1, r2, r3, r4, r5, r6) := H
    have A12 := aM A120
    clear A120
    have H' := aM H
    clear H
    have hnb13 := NB319_320.out
    have hnc13 := NB320_319.out
    obtain ⟨hcz14_0, hcz14_1, hcz14_2, hcz14_3, hcz14_4, hfz14_0, hfz14_1, hfz14_2, hfz14_3, hfz14_4⟩ := cells5 BK319.out
    go_wp2_with (first | ((with_reducible refine gate_callee (f := 30) rfl ?_); refine goesL_ (some 11) rfl rfl Try.func30 (by kernel_rfl) rfl #[.agg #[.int .i64 a0_0, .int .i64 a0_1, .bool a0_2, .bool a0_3, .bool a0_4]] rfl za ?_; (with_reducible refine (impl_DoorOk.calls k a0_0 a0_1 a0_2 a0_3 a0_4 true _ A6.out).mono ?_); rintro e w15 ⟨rfl, hb⟩; refine ⟨_, rfl, ?_⟩; have n0_ := aM (bb BK319.out hb); have n1_ := aM (bb BK320.out hb); have n2_ := aM (below_step (zb) hb); clear BK319; clear BK320; clear HB; have BK319 := n0_; have BK320 := n1_; have HB := n2_; clear n0_ n1_ n2_; (try clear hb); (try clear hb2); (try clear hk); (try clear hi)) | (go_at_call 68; (with_reducible refine (slices_ContainsFunc_int_int.calls k _ _ l1 t322 _ ?side1 ?side2 A12.out).mono ?_); (case side1 => repeat (first | exact (Kd.C_below HR1.out HB.out) | (with_reducible refine Kd.C_alloc ?_ _) | (with_reducible refine Kd.C_drewN ?_ _) | (with_reducible refine Kd.C_drew ?_))); (case side2 => exact HC1.out); rintro e w' ⟨rfl, ⟨nd, rfl⟩⟩))
    go_meet
    case rel => exact ⟨_, (t322), zs, H', ⟨by first | omega | exact Nat.le_refl _⟩, ⟨by exact pk BK319.out⟩, ⟨by exact pk BK320.out⟩, ⟨zb⟩⟩
  ·replace c7 := Bool.eq_false_iff.mpr c7
   subst c7
   have H1 : (impl_DoActs.j0 k l1 true a0_0 a0_1 a0_2 a0_3 a0_4) = some (r1, r2, r3, r4, r5, r6) := by rw [if_neg (show ¬ (false = true) by decide)] at H; exact H
   clear H
   have H := H1
   clear H1
   have H' := aM H
   clear H
   have hnb16 := NB319_320.out
   have hnc16 := NB320_319.out
   obtain ⟨hcz17_0, hcz17_1, hcz17_2, hcz17_3, hcz17_4, hfz17_0, hfz17_1, hfz17_2, hfz17_3, hfz17_4⟩ := cells5 BK319.out
   go_wp2_with (first | ((with_reducible refine gate_callee (f := 30) rfl ?_); refine goesL_ (some 11) rfl rfl Try.func30 (by kernel_rfl) rfl #[.agg #[.int .i64 a0_0, .int .i64 a0_1, .bool a0_2, .bool a0_3, .bool a0_4]] rfl za ?_; (with_reducible refine (impl_DoorOk.calls k a0_0 a0_1 a0_2 a0_3 a0_4 false _ A6.out).mono ?_); rintro e w18 ⟨rfl, hb⟩; refine ⟨_, rfl, ?_⟩; have n0_ := aM (bb BK319.out hb); have n1_ := aM (bb BK320.out hb); have n2_ := aM (below_step (zb) hb); clear BK319; clear BK320; clear HB; have BK319 := n0_; have BK320 := n1_; have HB := n2_; clear n0_ n1_ n2_; (try clear hb); (try clear hb2); (try clear hk); (try clear hi)))
   go_meet
   case rel => exact ⟨_, (true), zs, H', ⟨by first | omega | exact Nat.le_refl _⟩, ⟨by exact pk BK319.out⟩, ⟨by exact pk BK320.out⟩, ⟨zb⟩⟩
 case rest =>
  clear HC3
  try clear c1
  try clear p2
  try clear c3
  try clear c4
  try clear c7
  try clear c8
  try clear c8b0
  try clear c8b1
  try clear c9
  try clear c13
  try clear c16
  try clear hcz10_0 hcz10_1 hcz10_2 hcz10_3 hcz10_4 hfz10_0 hfz10_1 hfz10_2 hfz10_3 hfz10_4
  try clear hcz14_0 hcz14_1 hcz14_2 hcz14_3 hcz14_4 hfz14_0 hfz14_1 hfz14_2 hfz14_3 hfz14_4
  try clear hcz17_0 hcz17_1 hcz17_2 hcz17_3 hcz17_4 hfz17_0 hfz17_1 hfz17_2 hfz17_3 hfz17_4
  obtain ⟨kq, x21_2, rfl, HA, HJ2, BK319, BK320, HB⟩ := hcut
  cases kq with
  | zero => exact absurd HA.out (by simp [impl_DoActs.j0])
  | succ kj2 =>
   have H := HA.out
   clear HA
   simp only [impl_DoActs.j0] at H
   by_cases c19 : x21_2 = true
   ·subst c19
    have H1 : (some (a0_0, a0_1, a0_2, a0_3, a0_4, ([] : List Int))) = some (r1, r2, r3, r4, r5, r6) := by rw [if_pos rfl] at H; exact H
    clear H
    have H := H1
    clear H1
    simp only [Option.some.injEq, Prod.mk.injEq] at H
    obtain ⟨rfl, rfl, rfl, rfl, rfl, rfl⟩ := H
    have hnb20 := NB319_320.out
    have hnc20 := NB320_319.out
    obtain ⟨hcz21_0, hcz21_1, hcz21_2, hcz21_3, hcz21_4, hfz21_0, hfz21_1, hfz21_2, hfz21_3, hfz21_4⟩ := cells5 BK319.out
    obtain ⟨hcz22_0, hcz22_1, hcz22_2, hcz22_3, hcz22_4, hfz22_0, hfz22_1, hfz22_2, hfz22_3, hfz22_4⟩ := cells5 BK320.out
    go_wp2
    refine bodyPost_ret (results_ct rfl _ _ gb320 24 #[.int .i64 a0_0, .int .i64 a0_1, .bool a0_2, .bool a0_3, .bool a0_4] (0, 0) _ rfl (by refine pq ?_; refine blk_put (cs := #[.int .i64 a0_0, .int .i64 a0_1, .bool a0_2, .bool a0_3, .bool false]) ?_ 4 _ rfl; refine pq ?_; refine blk_put (cs := #[.int .i64 a0_0, .int .i64 a0_1, .bool a0_2, .bool false, .bool false]) ?_ 3 _ rfl; refine pq ?_; refine blk_put (cs := #[.int .i64 a0_0, .int .i64 a0_1, .bool false, .bool false, .bool false]) ?_ 2 _ rfl; refine pq ?_; refine blk_put (cs := #[.int .i64 a0_0, .int .i64 0, .bool false, .bool false, .bool false]) ?_ 1 _ rfl; refine pq ?_; refine blk_put (cs := #[.int .i64 0, .int .i64 0, .bool false, .bool false, .bool false]) ?_ 0 _ rfl; refine pq ?_; exact BK320.out) Try.underlying24 rfl (by kernel_rfl)) rfl ?_
    exact ⟨_, zr, by first | exact Kd.R_nil _ _ _ _ _ | exact Kd.N_nil _ _ _ _ _ | exact Kd.V_nil _ _ _ _ _ | exact Kd.Q_nil _ _ _ _ _ | exact Kd.S_nil _ _ _ _ _, zb⟩
   ·replace c19 := Bool.eq_false_iff.mpr c19
    subst c19
    have H1 : (impl_DoActs.l0 kj2 ([] : List Int) l1 (l1.length : Int) 0 a0_0 a0_1 a0_2 a0_3 a0_4) = some (r1, r2, r3, r4, r5, r6) := by rw [if_neg (show ¬ (false = true) by decide)] at H; exact H
    clear H
    have H := H1
    clear H1
    have H' := aM H
    clear H
    go_wp2
    go_loopg [6, 25] kj2 (fun kq v6 v25 w' => ∃ (x6_2 : List Int) (x25_2 : Int) (x320000_2 : Int) (x320001_2 : Int) (x320002_2 : Bool) (x320003_2 : Bool) (x320004_2 : Bool), v25 = .int .i64 x25_2 ∧ Aside0 (impl_DoActs.l0 kq x6_2 l1 (l1.length : Int) x25_2 x320000_2 x320001_2 x320002_2 x320003_2 x320004_2 = some (r1, r2, r3, r4, r5, r6)) ∧ Aside0 (kq ≤ kj2) ∧ Aside0 (Kd.R (Kd.int .i64) 3 w' w.heap.size (fun _ => True) v6 x6_2) ∧ Aside0 (w'.heap[gb319]? = some (.cells #[.int .i64 x320000_2, .int .i64 x320001_2, .bool x320002_2, .bool x320003_2, .bool x320004_2] 24 (0, 0))) ∧ Aside0 (w'.heap[gb320]? = some (.cells #[.int .i64 0, .int .i64 0, .bool false, .bool false, .bool false] 24 (0, 0))) ∧ Aside0 (Below w.heap.size w w'))
    case atStart => exact ⟨(([] : List Int)), (0), (a0_0), (a0_1), (a0_2), (a0_3), (a0_4), zs, H', ⟨Nat.le_refl _⟩, ⟨by first | exact Kd.R_nil _ _ _ _ _ | exact Kd.N_nil _ _ _ _ _ | exact Kd.V_nil _ _ _ _ _ | exact Kd.Q_nil _ _ _ _ _ | exact Kd.S_nil _ _ _ _ _⟩, ⟨by exact pk BK319.out⟩, ⟨by exact pk BK320.out⟩, ⟨zb⟩⟩
    case round =>
     clear H'
     try clear c1
     try clear c2
     try clear p2
     try clear c3
     try clear c4
     try clear c7
     try clear c8
     try clear c8b0
     try clear c8b1
     try clear c9
     try clear c13
     try clear c16
     try clear c19
     try clear c20
     try clear hcz10_0 hcz10_1 hcz10_2 hcz10_3 hcz10_4 hfz10_0 hfz10_1 hfz10_2 hfz10_3 hfz10_4
     try clear hcz14_0 hcz14_1 hcz14_2 hcz14_3 hcz14_4 hfz14_0 hfz14_1 hfz14_2 hfz14_3 hfz14_4
     try clear hcz17_0 hcz17_1 hcz17_2 hcz17_3 hcz17_4 hfz17_0 hfz17_1 hfz17_2 hfz17_3 hfz17_4
     try clear hcz21_0 hcz21_1 hcz21_2 hcz21_3 hcz21_4 hfz21_0 hfz21_1 hfz21_2 hfz21_3 hfz21_4
     try clear hcz22_0 hcz22_1 hcz22_2 hcz22_3 hcz22_4 hfz22_0 hfz22_1 hfz22_2 hfz22_3 hfz22_4
     try clear p2
     obtain ⟨x6_2, x25_2, x320000_2, x320001_2, x320002_2, x320003_2, x320004_2, rfl, HA, HK2, HO_6, BK319, BK320, HB⟩ := hrel
     cases gk with
     | zero => exact absurd HA.out (by simp [impl_DoActs.l0])
     | succ k2 =>
      have H := HA.out
      clear HA
      simp only [impl_DoActs.l0] at H
      by_cases c23 : x25_2 < (l1.length : Int)
      ·rw [if_pos c23] at H
       have c23b0 : decide (x25_2 < (l1.length : Int)) = true := decide_eq_true c23
       clear c23
       by_cases c24 : 0 ≤ x25_2
       ·rw [if_pos c24] at H
        have c24b0 : decide (0 ≤ x25_2) = true := decide_eq_true c24
        clear c24
        by_cases c25 : x25_2 < (l1.length : Int)
        ·rw [if_pos c25] at H
         have c25b0 : decide (x25_2 < (l1.length : Int)) = true := decide_eq_true c25
         clear c25
         replace H := Option.bind_eq_some_iff.mp H
         obtain ⟨⟨t324, t325, t326, t327, t328⟩, A260, H⟩ := H
         replace H : (if (!(t324 == x320000_2) || (!(t325 == x320001_2) || (!(t326 == x320002_2) || (!(t327 == x320003_2) || (!(t328 == x320004_2)))))) = true then (if x6_2.length < 17592186044416 then (impl_DoActs.l0 k2 (x6_2 ++ [x25_2]) l1 (l1.length : Int) (wrap64 (x25_2 + 1)) t324 t325 t326 t327 t328) else (none)) else (impl_DoActs.l0 k2 x6_2 l1 (l1.length : Int) (wrap64 (x25_2 + 1)) t324 t325 t326 t327 t328)) = some (r1, r2, r3, r4, r5, r6) := H
         have A26 := aM A260
         clear A260
         by_cases c27 : (!(t324 == x320000_2) || (!(t325 == x320001_2) || (!(t326 == x320002_2) || (!(t327 == x320003_2) || (!(t328 == x320004_2)))))) = true
         ·rw [if_pos c27] at H
          have c27b0 : (!(t324 == x320000_2) || (!(t325 == x320001_2) || (!(t326 == x320002_2) || (!(t327 == x320003_2) || (!(t328 == x320004_2)))))) = true := c27
          clear c27
          by_cases c28 : x6_2.length < 17592186044416
          ·rw [if_pos c28] at H
           have LMc28 := aM c28
           clear c28
           obtain ⟨y330, hy330⟩ : ∃ y_ : List Int, y_ = (x6_2 ++ [x25_2]) := ⟨_, rfl⟩
           replace H : (impl_DoActs.l0 k2 y330 l1 (l1.length : Int) (wrap64 (x25_2 + 1)) t324 t325 t326 t327 t328) = some (r1, r2, r3, r4, r5, r6) := by first | (rw [hy330]; with_reducible exact H) | (have H2_ := (Option.bind_some _ _).symm.trans H; rw [hy330]; with_reducible exact H2_) | (have H2_ := (Option.bind_some _ _).symm.trans H; with_reducible exact H2_) | with_reducible exact H | (rw [hy330]; exact H) | exact H
           have Ny330 := aM hy330
           clear hy330
           have H' := aM H
           clear H
           have p323 : 0 ≤ (x25_2 : Int) := of_decide_eq_true (by first | (with_reducible assumption) | assumption)
           have q323 : x25_2 < (l1.length : Int) := of_decide_eq_true (by first | (with_reducible assumption) | assumption)
           obtain ⟨ad323, e323, hx323_0⟩ := Kd.at_int HR1.out x25_2 p323 q323
           cases e323
           replace hx323_0 := (HB.out.cell (World.block_lt_of_cell? w _ hx323_0)).trans hx323_0
           replace p323 := eq_true p323
           replace q323 := eq_true q323
           have hnb29 := NB319_320.out
           have hnc29 := NB320_319.out
           obtain ⟨hcz30_0, hcz30_1, hcz30_2, hcz30_3, hcz30_4, hfz30_0, hfz30_1, hfz30_2, hfz30_3, hfz30_4⟩ := cells5 BK319.out
           go_wp2_with (first | ((with_reducible refine gate_callee (f := 70) rfl ?_); refine goesL_ (some 32) rfl rfl Try.func70 (by kernel_rfl) rfl #[.agg #[.int .i64 x320000_2, .int .i64 x320001_2, .bool x320002_2, .bool x320003_2, .bool x320004_2], .int .i64 (rd l1 x25_2)] rfl za ?_; (with_reducible refine (impl_acted.calls k2 x320000_2 x320001_2 x320002_2 x320003_2 x320004_2 (rd l1 x25_2) t324 t325 t326 t327 t328 _ A26.out).mono ?_); rintro e w31 ⟨rfl, hb⟩; refine ⟨_, rfl, ?_⟩; have n0_ := aM (Kd.R_below (by (with_reducible repeat (first | apply Kd.R_alloc | apply Kd.R_drewN | apply Kd.R_drew)); exact HO_6.out) hb); have n1_ := aM (bb BK319.out hb); have n2_ := aM (bb BK320.out hb); have n3_ := aM (below_step (zb) hb); clear HO_6; clear BK319; clear BK320; clear HB; have HO_6 := n0_; have BK319 := n1_; have BK320 := n2_; have HB := n3_; clear n0_ n1_ n2_ n3_; (try clear hb); (try clear hb2); (try clear hk); (try clear hi)) | ((with_reducible refine gate_dst (N := 9) rfl ?_); (try (refine gate_guard (by rfl) ?_; dsimp only)); refine box_event ?hg (N := 9) ?hd (cs := #[.int .i64 0, .int .i64 0, .bool false, .bool false, .bool false]) (t := 24) ?hr ?_; (case hd => rfl); (case hg => rfl); (case hr => exact zg); intro gb329 hg w32 hbox hb; have n0_ := aM (Kd.R_below (by (with_reducible repeat (first | apply Kd.R_alloc | apply Kd.R_drewN | apply Kd.R_drew)); exact HO_6.out) hb); have n1_ := aM (bb BK319.out hb); have n2_ := aM (bb BK320.out hb); have n3_ := aM (below_step (zb) hb); have n4_ := aM (hbox); have n5_ := aM ((by rw [hg]; exact (below_size (zb)) : w.heap.size ≤ gb329)); have n6_ := aM ((by rw [hg]; exact (below_size (zb)) : w.heap.size ≤ gb329)); have n7_ := aM ((by rw [hg]; exact Nat.ne_of_lt (nl BK319.out) : gb319 ≠ gb329)); have n8_ := aM ((by rw [hg]; exact Nat.ne_of_gt (nl BK319.out) : gb329 ≠ gb319)); have n9_ := aM ((by rw [hg]; exact Nat.ne_of_lt (nl BK320.out) : gb320 ≠ gb329)); have n10_ := aM ((by rw [hg]; exact Nat.ne_of_gt (nl BK320.out) : gb329 ≠ gb320)); clear HO_6; clear BK319; clear BK320; clear HB; have HO_6 := n0_; have BK319 := n1_; have BK320 := n2_; have HB := n3_; have BK329 := n4_; have GW329 := n5_; have GE329 := n6_; have NB319_329 := n7_; have NB329_319 := n8_; have NB320_329 := n9_; have NB329_320 := n10_; clear n0_ n1_ n2_ n3_ n4_ n5_ n6_ n7_ n8_ n9_ n10_; clear hb hbox hg; have hnb33 := NB329_319.out; have hnc33 := NB319_329.out; have hnb34 := NB329_320.out; have hnc34 := NB320_329.out; obtain ⟨hcz35_0, hcz35_1, hcz35_2, hcz35_3, hcz35_4, hfz35_0, hfz35_1, hfz35_2, hfz35_3, hfz35_4⟩ := cells5 BK329.out; obtain ⟨hcz36_0, hcz36_1, hcz36_2, hcz36_3, hcz36_4, hfz36_0, hfz36_1, hfz36_2, hfz36_3, hfz36_4⟩ := cells5 BK319.out) | ((with_reducible refine gate_builtin (b := .append) (xs := #[.tmp 36, .tmp 38]) rfl ?_); (try (refine gate_guard (by rfl) ?_; dsimp only)); at_builtin; refine Kd.R_append (Kd.int .i64) (w0 := w) w.heap.size rfl (.tmp 36) (.tmp 38) 42 3 (.int .i64 0) 8 rfl Try.underlying42 info3 rfl (by decide) (by omega) u6 x6_2 x25_2 [.int .i64 x25_2] (fun _ => True) (fun _ => False) rfl (by first | (go_simp; done) | (go_simp; rfl)) ?aP (fun _ hk => hk.elim) ?aF ?aO ?aB ?aS ?aL ?_; (case aP => exact rfl); (case aB => exact (zb)); (case aF => exact (fun _ _ => trivial)); (case aO => exact (by (with_reducible repeat (first | apply Kd.R_alloc | apply Kd.R_drewN | apply Kd.R_drew)); exact Kd.R_mono (Kd.R_far (p := ⟨gb329, 4, none⟩) (Kd.R_far (p := ⟨gb329, 3, none⟩) (Kd.R_far (p := ⟨gb329, 2, none⟩) (Kd.R_far (p := ⟨gb329, 1, none⟩) (Kd.R_far (p := ⟨gb329, 0, none⟩) (Kd.R_types HO_6.out BK329.out (by decide)) (fun _ hk => hk.2) (.int .i64 t324)) (fun _ hk => hk.2) (.int .i64 t325)) (fun _ hk => hk.2) (.bool t326)) (fun _ hk => hk.2) (.bool t327)) (fun _ hk => hk.2) (.bool t328)) (fun _ hk => trivial))); (case aS => exact (below_size (zb))); (case aL => have := LMc28.out; omega); intro v331 w37 ho hb hg hat; rw [← Ny330.out] at ho; have n0_ := aM (blk_grown (g := gb319) (o := .cells #[.int .i64 x320000_2, .int .i64 x320001_2, .bool x320002_2, .bool x320003_2, .bool x320004_2] 24 (0, 0)) (by refine pq ?_; refine blk_far ?_ NB319_329.out _; refine pq ?_; refine blk_far ?_ NB319_329.out _; refine pq ?_; refine blk_far ?_ NB319_329.out _; refine pq ?_; refine blk_far ?_ NB319_329.out _; refine pq ?_; refine blk_far ?_ NB319_329.out _; refine pq ?_; exact BK319.out) hg (Kd.R_ne HO_6.out BK319.out (by decide))); have n1_ := aM (blk_grown (g := gb320) (o := .cells #[.int .i64 0, .int .i64 0, .bool false, .bool false, .bool false] 24 (0, 0)) (by refine pq ?_; refine blk_far ?_ NB320_329.out _; refine pq ?_; refine blk_far ?_ NB320_329.out _; refine pq ?_; refine blk_far ?_ NB320_329.out _; refine pq ?_; refine blk_far ?_ NB320_329.out _; refine pq ?_; refine blk_far ?_ NB320_329.out _; refine pq ?_; exact BK320.out) hg (Kd.R_ne HO_6.out BK320.out (by decide))); have n2_ := aM (blk_grown (g := gb329) (o := .cells #[.int .i64 t324, .int .i64 t325, .bool t326, .bool t327, .bool t328] 24 (0, 0)) (by refine pq ?_; refine blk_put (cs := #[.int .i64 t324, .int .i64 t325, .bool t326, .bool t327, .bool false]) ?_ 4 _ rfl; refine pq ?_; refine blk_put (cs := #[.int .i64 t324, .int .i64 t325, .bool t326, .bool false, .bool false]) ?_ 3 _ rfl; refine pq ?_; refine blk_put (cs := #[.int .i64 t324, .int .i64 t325, .bool false, .bool false, .bool false]) ?_ 2 _ rfl; refine pq ?_; refine blk_put (cs := #[.int .i64 t324, .int .i64 0, .bool false, .bool false, .bool false]) ?_ 1 _ rfl; refine pq ?_; refine blk_put (cs := #[.int .i64 0, .int .i64 0, .bool false, .bool false, .bool false]) ?_ 0 _ rfl; refine pq ?_; exact BK329.out) hg (Kd.R_ne HO_6.out BK329.out (by decide))); have n3_ := aM (hb); have n4_ := aM (ho); clear BK319; clear BK320; clear BK329; clear HB; clear HO_6; have BK319 := n0_; have BK320 := n1_; have BK329 := n2_; have HB := n3_; have HO332 := n4_; clear n0_ n1_ n2_ n3_ n4_; clear ho hb hg hat; obtain ⟨hcz38_0, hcz38_1, hcz38_2, hcz38_3, hcz38_4, hfz38_0, hfz38_1, hfz38_2, hfz38_3, hfz38_4⟩ := cells5 BK329.out; obtain ⟨hcz39_0, hcz39_1, hcz39_2, hcz39_3, hcz39_4, hfz39_0, hfz39_1, hfz39_2, hfz39_3, hfz39_4⟩ := cells5 BK319.out))
           go_roundg k2
           case measure => have := HJ2.out; have := HK2.out; omega
           case rel => exact ⟨(y330), (wrap64 (x25_2 + 1)), (t324), (t325), (t326), (t327), (t328), zs, H', ⟨by have := HJ2.out; have := HK2.out; omega⟩, ⟨by (with_reducible repeat (first | apply Kd.R_alloc | apply Kd.R_drewN | apply Kd.R_drew)); exact Kd.R_mono (Kd.R_far (p := ⟨gb319, 4, none⟩) (Kd.R_far (p := ⟨gb319, 3, none⟩) (Kd.R_far (p := ⟨gb319, 2, none⟩) (Kd.R_far (p := ⟨gb319, 1, none⟩) (Kd.R_far (p := ⟨gb319, 0, none⟩) (Kd.R_types HO332.out BK319.out (by decide)) (fun _ hk => hk.2) (.int .i64 t324)) (fun _ hk => hk.2) (.int .i64 t325)) (fun _ hk => hk.2) (.bool t326)) (fun _ hk => hk.2) (.bool t327)) (fun _ hk => hk.2) (.bool t328)) (fun _ hk => trivial)⟩, ⟨by refine pq ?_; refine blk_put (cs := #[.int .i64 t324, .int .i64 t325, .bool t326, .bool t327, .bool x320004_2]) ?_ 4 _ rfl; refine pq ?_; refine blk_put (cs := #[.int .i64 t324, .int .i64 t325, .bool t326, .bool x320003_2, .bool x320004_2]) ?_ 3 _ rfl; refine pq ?_; refine blk_put (cs := #[.int .i64 t324, .int .i64 t325, .bool x320002_2, .bool x320003_2, .bool x320004_2]) ?_ 2 _ rfl; refine pq ?_; refine blk_put (cs := #[.int .i64 t324, .int .i64 x320001_2, .bool x320002_2, .bool x320003_2, .bool x320004_2]) ?_ 1 _ rfl; refine pq ?_; refine blk_put (cs := #[.int .i64 x320000_2, .int .i64 x320001_2, .bool x320002_2, .bool x320003_2, .bool x320004_2]) ?_ 0 _ rfl; refine pq ?_; exact BK319.out⟩, ⟨by refine pq ?_; refine blk_far ?_ NB320_319.out _; refine pq ?_; refine blk_far ?_ NB320_319.out _; refine pq ?_; refine blk_far ?_ NB320_319.out _; refine pq ?_; refine blk_far ?_ NB320_319.out _; refine pq ?_; refine blk_far ?_ NB320_319.out _; refine pq ?_; exact BK320.out⟩, ⟨zb⟩⟩
          ·rw [if_neg c28] at H
           exact absurd H (by simp)
         ·rw [if_neg c27] at H
          have c27b0 : (!(t324 == x320000_2) || (!(t325 == x320001_2) || (!(t326 == x320002_2) || (!(t327 == x320003_2) || (!(t328 == x320004_2)))))) = false := by simpa using c27
          clear c27
          have H' := aM H
          clear H
          have p323 : 0 ≤ (x25_2 : Int) := of_decide_eq_true (by first | (with_reducible assumption) | assumption)
          have q323 : x25_2 < (l1.length : Int) := of_decide_eq_true (by first | (with_reducible assumption) | assumption)
          obtain ⟨ad323, e323, hx323_0⟩ := Kd.at_int HR1.out x25_2 p323 q323
          cases e323
          replace hx323_0 := (HB.out.cell (World.block_lt_of_cell? w _ hx323_0)).trans hx323_0
          replace p323 := eq_true p323
          replace q323 := eq_true q323
          have hnb40 := NB319_320.out
          have hnc40 := NB320_319.out
          obtain ⟨hcz41_0, hcz41_1, hcz41_2, hcz41_3, hcz41_4, hfz41_0, hfz41_1, hfz41_2, hfz41_3, hfz41_4⟩ := cells5 BK319.out
          go_wp2_with (first | ((with_reducible refine gate_callee (f := 70) rfl ?_); refine goesL_ (some 32) rfl rfl Try.func70 (by kernel_rfl) rfl #[.agg #[.int .i64 x320000_2, .int .i64 x320001_2, .bool x320002_2, .bool x320003_2, .bool x320004_2], .int .i64 (rd l1 x25_2)] rfl za ?_; (with_reducible refine (impl_acted.calls k2 x320000_2 x320001_2 x320002_2 x320003_2 x320004_2 (rd l1 x25_2) t324 t325 t326 t327 t328 _ A26.out).mono ?_); rintro e w42 ⟨rfl, hb⟩; refine ⟨_, rfl, ?_⟩; have n0_ := aM (Kd.R_below (by (with_reducible repeat (first | apply Kd.R_alloc | apply Kd.R_drewN | apply Kd.R_drew)); exact HO_6.out) hb); have n1_ := aM (bb BK319.out hb); have n2_ := aM (bb BK320.out hb); have n3_ := aM (below_step (zb) hb); clear HO_6; clear BK319; clear BK320; clear HB; have HO_6 := n0_; have BK319 := n1_; have BK320 := n2_; have HB := n3_; clear n0_ n1_ n2_ n3_; (try clear hb); (try clear hb2); (try clear hk); (try clear hi)) | ((with_reducible refine gate_dst (N := 9) rfl ?_); (try (refine gate_guard (by rfl) ?_; dsimp only)); refine box_event ?hg (N := 9) ?hd (cs := #[.int .i64 0, .int .i64 0, .bool false, .bool false, .bool false]) (t := 24) ?hr ?_; (case hd => rfl); (case hg => rfl); (case hr => exact zg); intro gb329 hg w43 hbox hb; have n0_ := aM (Kd.R_below (by (with_reducible repeat (first | apply Kd.R_alloc | apply Kd.R_drewN | apply Kd.R_drew)); exact HO_6.out) hb); have n1_ := aM (bb BK319.out hb); have n2_ := aM (bb BK320.out hb); have n3_ := aM (below_step (zb) hb); have n4_ := aM (hbox); have n5_ := aM ((by rw [hg]; exact (below_size (zb)) : w.heap.size ≤ gb329)); have n6_ := aM ((by rw [hg]; exact (below_size (zb)) : w.heap.size ≤ gb329)); have n7_ := aM ((by rw [hg]; exact Nat.ne_of_lt (nl BK319.out) : gb319 ≠ gb329)); have n8_ := aM ((by rw [hg]; exact Nat.ne_of_gt (nl BK319.out) : gb329 ≠ gb319)); have n9_ := aM ((by rw [hg]; exact Nat.ne_of_lt (nl BK320.out) : gb320 ≠ gb329)); have n10_ := aM ((by rw [hg]; exact Nat.ne_of_gt (nl BK320.out) : gb329 ≠ gb320)); clear HO_6; clear BK319; clear BK320; clear HB; have HO_6 := n0_; have BK319 := n1_; have BK320 := n2_; have HB := n3_; have BK329 := n4_; have GW329 := n5_; have GE329 := n6_; have NB319_329 := n7_; have NB329_319 := n8_; have NB320_329 := n9_; have NB329_320 := n10_; clear n0_ n1_ n2_ n3_ n4_ n5_ n6_ n7_ n8_ n9_ n10_; clear hb hbox hg; have hnb44 := NB329_319.out; have hnc44 := NB319_329.out; have hnb45 := NB329_320.out; have hnc45 := NB320_329.out; obtain ⟨hcz46_0, hcz46_1, hcz46_2, hcz46_3, hcz46_4, hfz46_0, hfz46_1, hfz46_2, hfz46_3, hfz46_4⟩ := cells5 BK329.out; obtain ⟨hcz47_0, hcz47_1, hcz47_2, hcz47_3, hcz47_4, hfz47_0, hfz47_1, hfz47_2, hfz47_3, hfz47_4⟩ := cells5 BK319.out))
          go_roundg k2
          case measure => have := HJ2.out; have := HK2.out; omega
          case rel => exact ⟨(x6_2), (wrap64 (x25_2 + 1)), (t324), (t325), (t326), (t327), (t328), zs, H', ⟨by have := HJ2.out; have := HK2.out; omega⟩, ⟨by (with_reducible repeat (first | apply Kd.R_alloc | apply Kd.R_drewN | apply Kd.R_drew)); exact Kd.R_mono (Kd.R_far (p := ⟨gb319, 4, none⟩) (Kd.R_far (p := ⟨gb319, 3, none⟩) (Kd.R_far (p := ⟨gb319, 2, none⟩) (Kd.R_far (p := ⟨gb319, 1, none⟩) (Kd.R_far (p := ⟨gb319, 0, none⟩) (Kd.R_far (p := ⟨gb329, 4, none⟩) (Kd.R_far (p := ⟨gb329, 3, none⟩) (Kd.R_far (p := ⟨gb329, 2, none⟩) (Kd.R_far (p := ⟨gb329, 1, none⟩) (Kd.R_far (p := ⟨gb329, 0, none⟩) (Kd.R_types (Kd.R_types HO_6.out BK329.out (by decide)) BK319.out (by decide)) (fun _ hk => hk.1.2) (.int .i64 t324)) (fun _ hk => hk.1.2) (.int .i64 t325)) (fun _ hk => hk.1.2) (.bool t326)) (fun _ hk => hk.1.2) (.bool t327)) (fun _ hk => hk.1.2) (.bool t328)) (fun _ hk => hk.2) (.int .i64 t324)) (fun _ hk => hk.2) (.int .i64 t325)) (fun _ hk => hk.2) (.bool t326)) (fun _ hk => hk.2) (.bool t327)) (fun _ hk => hk.2) (.bool t328)) (fun _ hk => trivial)⟩, ⟨by refine pq ?_; refine blk_put (cs := #[.int .i64 t324, .int .i64 t325, .bool t326, .bool t327, .bool x320004_2]) ?_ 4 _ rfl; refine pq ?_; refine blk_put (cs := #[.int .i64 t324, .int .i64 t325, .bool t326, .bool x320003_2, .bool x320004_2]) ?_ 3 _ rfl; refine pq ?_; refine blk_put (cs := #[.int .i64 t324, .int .i64 t325, .bool x320002_2, .bool x320003_2, .bool x320004_2]) ?_ 2 _ rfl; refine pq ?_; refine blk_put (cs := #[.int .i64 t324, .int .i64 x320001_2, .bool x320002_2, .bool x320003_2, .bool x320004_2]) ?_ 1 _ rfl; refine pq ?_; refine blk_put (cs := #[.int .i64 x320000_2, .int .i64 x320001_2, .bool x320002_2, .bool x320003_2, .bool x320004_2]) ?_ 0 _ rfl; refine pq ?_; refine blk_far ?_ NB319_329.out _; refine pq ?_; refine blk_far ?_ NB319_329.out _; refine pq ?_; refine blk_far ?_ NB319_329.out _; refine pq ?_; refine blk_far ?_ NB319_329.out _; refine pq ?_; refine blk_far ?_ NB319_329.out _; refine pq ?_; exact BK319.out⟩, ⟨by refine pq ?_; refine blk_far ?_ NB320_319.out _; refine pq ?_; refine blk_far ?_ NB320_319.out _; refine pq ?_; refine blk_far ?_ NB320_319.out _; refine pq ?_; refine blk_far ?_ NB320_319.out _; refine pq ?_; refine blk_far ?_ NB320_319.out _; refine pq ?_; refine blk_far ?_ NB320_329.out _; refine pq ?_; refine blk_far ?_ NB320_329.out _; refine pq ?_; refine blk_far ?_ NB320_329.out _; refine pq ?_; refine blk_far ?_ NB320_329.out _; refine pq ?_; refine blk_far ?_ NB320_329.out _; refine pq ?_; exact BK320.out⟩, ⟨zb⟩⟩
        ·rw [if_neg c25] at H
         exact absurd H (by simp)
       ·rw [if_neg c24] at H
        exact absurd H (by simp)
      ·rw [if_neg c23] at H
       have c23b0 : decide (x25_2 < (l1.length : Int)) = false := decide_eq_false c23
       clear c23
       simp only [Option.some.injEq, Prod.mk.injEq] at H
       obtain ⟨rfl, rfl, rfl, rfl, rfl, rfl⟩ := H
       have hnb48 := NB319_320.out
       have hnc48 := NB320_319.out
       obtain ⟨hcz49_0, hcz49_1, hcz49_2, hcz49_3, hcz49_4, hfz49_0, hfz49_1, hfz49_2, hfz49_3, hfz49_4⟩ := cells5 BK319.out
       obtain ⟨hcz50_0, hcz50_1, hcz50_2, hcz50_3, hcz50_4, hfz50_0, hfz50_1, hfz50_2, hfz50_3, hfz50_4⟩ := cells5 BK320.out
       go_wp2
       refine bodyPost_ret (results_ct rfl _ _ gb320 24 #[.int .i64 x320000_2, .int .i64 x320001_2, .bool x320002_2, .bool x320003_2, .bool x320004_2] (0, 0) _ rfl (by refine pq ?_; refine blk_put (cs := #[.int .i64 x320000_2, .int .i64 x320001_2, .bool x320002_2, .bool x320003_2, .bool false]) ?_ 4 _ rfl; refine pq ?_; refine blk_put (cs := #[.int .i64 x320000_2, .int .i64 x320001_2, .bool x320002_2, .bool false, .bool false]) ?_ 3 _ rfl; refine pq ?_; refine blk_put (cs := #[.int .i64 x320000_2, .int .i64 x320001_2, .bool false, .bool false, .bool false]) ?_ 2 _ rfl; refine pq ?_; refine blk_put (cs := #[.int .i64 x320000_2, .int .i64 0, .bool false, .bool false, .bool false]) ?_ 1 _ rfl; refine pq ?_; refine blk_put (cs := #[.int .i64 0, .int .i64 0, .bool false, .bool false, .bool false]) ?_ 0 _ rfl; refine pq ?_; exact BK320.out) Try.underlying24 rfl (by kernel_rfl)) rfl ?_
       exact ⟨_, zr, by (with_reducible repeat (first | apply Kd.R_alloc | apply Kd.R_drewN | apply Kd.R_drew)); exact Kd.R_mono (Kd.R_far (p := ⟨gb320, 4, none⟩) (Kd.R_far (p := ⟨gb320, 3, none⟩) (Kd.R_far (p := ⟨gb320, 2, none⟩) (Kd.R_far (p := ⟨gb320, 1, none⟩) (Kd.R_far (p := ⟨gb320, 0, none⟩) (Kd.R_types HO_6.out BK320.out (by decide)) (fun _ hk => hk.2) (.int .i64 x320000_2)) (fun _ hk => hk.2) (.int .i64 x320001_2)) (fun _ hk => hk.2) (.bool x320002_2)) (fun _ hk => hk.2) (.bool x320003_2)) (fun _ hk => hk.2) (.bool x320004_2)) (fun _ hk => trivial), zb⟩

/-- A state of type 81 at block g of W; what its slices lead to came in by w0. -/
def IsS81 (w0 W : World) (g : Nat) (f0 : List Int) (f1 : Int) (f2 : Int) : Prop := ∃ A0 c0, W.heap[g]? = some (.cells #[.slice A0 f0.length c0, .int .i64 f1, .int .i64 f2] 81 (0, 0)) ∧ w0.heap.size ≤ g ∧ Kd.C (Kd.int .u8) w0 A0 f0.length f0
theorem IsS81.grown {w0 W : World} {g : Nat} {f0 : List Int} {f1 : Int} {f2 : Int} {W1 : World} {row : Option Nat} (h : IsS81 w0 W g f0 f1 f2) (hw : W.grownBy W1 row) (hne : some g ≠ row) : IsS81 w0 W1 g f0 f1 f2 := by
 obtain ⟨A0, c0, hb, hg, hr0⟩ := h
 exact ⟨A0, c0, blk_grown hb hw hne, hg, hr0⟩
theorem IsS81.own_neN {w0 W : World} {g : Nat} {f0 : List Int} {f1 : Int} {f2 : Int} {α : Type} {d : Kd α} {e : Nat} {base : Nat} {ok : Nat → Prop} {v : Value} {xs : List α} (h : IsS81 w0 W g f0 f1 f2) (ho : Kd.N d e W base ok v xs) (ht : e ≠ 81) : some g ≠ v.ownBlock := by
 obtain ⟨A0, c0, hb, hg, hr0⟩ := h
 exact Kd.N_ne ho hb ht
theorem IsS81.fresh {w0 W : World} {g : Nat} {f0 : List Int} {f1 : Int} {f2 : Int} (h : IsS81 w0 W g f0 f1 f2) : ∀ k, W.heap.size ≤ k → k ≠ g := by
 obtain ⟨A0, c0, hb, hg, hr0⟩ := h
 exact Kd.freshB hb
theorem IsS81.kept {w0 W : World} {g : Nat} {f0 : List Int} {f1 : Int} {f2 : Int} {W1 : World} {S : Nat → Prop} (h : IsS81 w0 W g f0 f1 f2) (hk : Kept W W1 S) (hne : ¬ S g) : IsS81 w0 W1 g f0 f1 f2 := by
 obtain ⟨A0, c0, hb, hg, hr0⟩ := h
 exact ⟨A0, c0, blk_kept hb hk hne, hg, hr0⟩
theorem IsS81.below {w0 W : World} {g : Nat} {f0 : List Int} {f1 : Int} {f2 : Int} {W1 : World} (h : IsS81 w0 W g f0 f1 f2) (hw : Below W.heap.size W W1) : IsS81 w0 W1 g f0 f1 f2 := h.grown (grown_of_below hw none) (by simp)
theorem IsS81.alloc {w0 W : World} {g : Nat} {f0 : List Int} {f1 : Int} {f2 : Int} (h : IsS81 w0 W g f0 f1 f2) (o : Obj) : IsS81 w0 (W.alloc o) g f0 f1 f2 := h.below (below_alloc (Below.refl _ _) o)
theorem IsS81.drewN {w0 W : World} {g : Nat} {f0 : List Int} {f1 : Int} {f2 : Int} (h : IsS81 w0 W g f0 f1 f2) (m : Nat) : IsS81 w0 (W.drewN m) g f0 f1 f2 := h
theorem IsS81.drew {w0 W : World} {g : Nat} {f0 : List Int} {f1 : Int} {f2 : Int} (h : IsS81 w0 W g f0 f1 f2) : IsS81 w0 W.drew g f0 f1 f2 := h
theorem IsS81.at_ {w0 W : World} {g : Nat} {f0 : List Int} {f1 : Int} {f2 : Int} {w' : World} {m : Nat} (hq : W.drewN m = w') (h : IsS81 w0 W g f0 f1 f2) : IsS81 w0 w' g f0 f1 f2 := by subst hq; exact IsS81.drewN h m
theorem IsS81.apart {w0 W : World} {g : Nat} {f0 : List Int} {f1 : Int} {f2 : Int} {α : Type} {d : Kd α} {e : Nat} {base : Nat} {ok : Nat → Prop} {v : Value} {xs : List α} (h : IsS81 w0 W g f0 f1 f2) (ho : d.R e W base ok v xs) (ht : ∀ q, q ∈ e :: d.E → q ≠ 81) : d.R e W base (fun k => ok k ∧ k ≠ g) v xs := by
 obtain ⟨A0, c0, hb, hg, hr0⟩ := h
 exact Kd.R_types ho hb ht
theorem IsS81.own_ne {w0 W : World} {g : Nat} {f0 : List Int} {f1 : Int} {f2 : Int} {α : Type} {d : Kd α} {e : Nat} {base : Nat} {ok : Nat → Prop} {v : Value} {xs : List α} (h : IsS81 w0 W g f0 f1 f2) (ho : d.R e W base ok v xs) (ht : e ≠ 81) : some g ≠ v.ownBlock := by
 obtain ⟨A0, c0, hb, hg, hr0⟩ := h
 exact Kd.R_ne ho hb ht
theorem IsS81.apartQ {w0 W : World} {g : Nat} {f0 : List Int} {f1 : Int} {f2 : Int} {α : Type} {d : Kd α} {e : Nat} {base : Nat} {ok : Nat → Prop} {v : Value} {xs : List α} (h : IsS81 w0 W g f0 f1 f2) (ho : d.Q e W base ok v xs) (ht : ∀ q, q ∈ e :: d.E → q ≠ 81) : d.Q e W base (fun k => ok k ∧ k ≠ g) v xs := by
 obtain ⟨A0, c0, hb, hg, hr0⟩ := h
 exact Kd.Q_types ho hb ht
theorem IsS81.own_neQ {w0 W : World} {g : Nat} {f0 : List Int} {f1 : Int} {f2 : Int} {α : Type} {d : Kd α} {e : Nat} {base : Nat} {ok : Nat → Prop} {v : Value} {xs : List α} (h : IsS81 w0 W g f0 f1 f2) (ho : d.Q e W base ok v xs) (ht : e ≠ 81) : some g ≠ v.ownBlock := by
 obtain ⟨A0, c0, hb, hg, hr0⟩ := h
 exact Kd.Q_ne ho hb ht
theorem IsS81.apartS {w0 W : World} {g : Nat} {f0 : List Int} {f1 : Int} {f2 : Int} {α : Type} {d : Kd α} {e : Nat} {base : Nat} {ok : Nat → Prop} {v : Value} {xs : List α} (h : IsS81 w0 W g f0 f1 f2) (ho : d.S e W base ok v xs) (ht : ∀ q, q ∈ e :: d.E → q ≠ 81) : d.S e W base (fun k => ok k ∧ k ≠ g) v xs := by
 obtain ⟨A0, c0, hb, hg, hr0⟩ := h
 exact Kd.S_types ho hb ht
theorem IsS81.own_neS {w0 W : World} {g : Nat} {f0 : List Int} {f1 : Int} {f2 : Int} {α : Type} {d : Kd α} {e : Nat} {base : Nat} {ok : Nat → Prop} {v : Value} {xs : List α} (h : IsS81 w0 W g f0 f1 f2) (ho : d.S e W base ok v xs) (ht : e ≠ 81) : some g ≠ v.ownBlock := by
 obtain ⟨A0, c0, hb, hg, hr0⟩ := h
 exact Kd.S_ne ho hb ht
theorem IsS81.lt {w0 W : World} {g : Nat} {f0 : List Int} {f1 : Int} {f2 : Int} (h : IsS81 w0 W g f0 f1 f2) : g < W.heap.size := by
 obtain ⟨A0, c0, hb, hg, hr0⟩ := h
 exact blk_lt hb
theorem IsS81.ge {w0 W : World} {g : Nat} {f0 : List Int} {f1 : Int} {f2 : Int} (h : IsS81 w0 W g f0 f1 f2) : w0.heap.size ≤ g := by
 obtain ⟨A0, c0, hb, hg, hr0⟩ := h
 exact hg
theorem IsS81.ne_blk {w0 W : World} {g : Nat} {f0 : List Int} {f1 : Int} {f2 : Int} {a : Nat} {cs : Array Value} {t : TypeId} {fr : Nat × Nat} (h : IsS81 w0 W g f0 f1 f2) (hb2 : W.heap[a]? = some (.cells cs t fr)) (ht : t ≠ 81) : g ≠ a := by
 obtain ⟨A0, c0, hb, hg, hr0⟩ := h
 rintro rfl
 rw [hb] at hb2
 injection hb2 with hb2
 injection hb2 with _ ht2
 exact ht ht2.symm
theorem IsS81.far {w0 W : World} {g : Nat} {f0 : List Int} {f1 : Int} {f2 : Int} {p : Addr} (h : IsS81 w0 W g f0 f1 f2) (hne : g ≠ p.block) (u : Value) : IsS81 w0 (W.setCell p u) g f0 f1 f2 := by
 obtain ⟨A0, c0, hb, hg, hr0⟩ := h
 exact ⟨A0, c0, blk_far hb hne u, hg, hr0⟩
theorem cellS81_0 {W : World} {g : Nat} {A0 : Option Addr} {c0 : Nat} {f0 : List Int} {f1 : Int} {f2 : Int} (h : W.heap[g]? = some (.cells #[.slice A0 f0.length c0, .int .i64 f1, .int .i64 f2] 81 (0, 0))) : W.cell? ⟨g, 0, none⟩ = some (.slice A0 f0.length c0) := (blk_cell h 0).trans rfl
theorem cellS81_1 {W : World} {g : Nat} {A0 : Option Addr} {c0 : Nat} {f0 : List Int} {f1 : Int} {f2 : Int} (h : W.heap[g]? = some (.cells #[.slice A0 f0.length c0, .int .i64 f1, .int .i64 f2] 81 (0, 0))) : W.cell? ⟨g, 1, none⟩ = some (.int .i64 f1) := (blk_cell h 1).trans rfl
theorem IsS81.set_1 {w0 W : World} {g : Nat} {f0 : List Int} {f1 : Int} {f2 : Int} (h : IsS81 w0 W g f0 f1 f2) (x : Int) : IsS81 w0 (W.setCell ⟨g, 1, none⟩ (.int .i64 x)) g f0 x f2 := by
 obtain ⟨A0, c0, hb, hg, hr0⟩ := h
 exact ⟨A0, c0, by simpa using blk_set hb 1 (.int .i64 x), hg, hr0⟩
theorem cellS81_2 {W : World} {g : Nat} {A0 : Option Addr} {c0 : Nat} {f0 : List Int} {f1 : Int} {f2 : Int} (h : W.heap[g]? = some (.cells #[.slice A0 f0.length c0, .int .i64 f1, .int .i64 f2] 81 (0, 0))) : W.cell? ⟨g, 2, none⟩ = some (.int .i64 f2) := (blk_cell h 2).trans rfl
theorem IsS81.set_2 {w0 W : World} {g : Nat} {f0 : List Int} {f1 : Int} {f2 : Int} (h : IsS81 w0 W g f0 f1 f2) (x : Int) : IsS81 w0 (W.setCell ⟨g, 2, none⟩ (.int .i64 x)) g f0 f1 x := by
 obtain ⟨A0, c0, hb, hg, hr0⟩ := h
 exact ⟨A0, c0, by simpa using blk_set hb 2 (.int .i64 x), hg, hr0⟩
theorem IsS81.new (w0 W : World) (A0 : Option Addr) (c0 : Nat) (f0 : List Int) (f1 : Int) (f2 : Int) (hB : Below w0.heap.size w0 W) (hr0 : Kd.C (Kd.int .u8) w0 A0 f0.length f0) : IsS81 w0 (W.alloc (.cells #[.slice A0 f0.length c0, .int .i64 f1, .int .i64 f2] 81)) W.heap.size f0 f1 f2 := ⟨A0, c0, by simpa using heap_alloc_new W _, hB.size, hr0⟩

/-! ### spec_l01New: function 59 -/
def spec_l01New.l0 : Nat → List Int → Int → Int → Option (List Int × Int × Int)
 | 0, _, _, _ => none
 | k + 1, x0, x3, x4 => if x4 < (x0.length : Int) then (if x4 < 4000 then (if 0 ≤ x4 then (spec_l01New.l0 k x0 (Go.bits .and .i64 (wrap64 ((wrap64 ((wrap64 (x3 * 131)) + (wrap64 (rd x0 x4)))) + 7)) 1073741823) (wrap64 (x4 + 1))) else (none)) else (some (x0, 0, x3))) else (some (x0, 0, x3))
def spec_l01New.f (k : Nat) (l0 : List Int) : Option (List Int × Int × Int) := spec_l01New.l0 k l0 (wrap64 (33183 + (l0.length : Int))) 0
theorem spec_l01New.mono_l : ∀ k, (∀ y0 y1 y2, LeO (spec_l01New.l0 k y0 y1 y2) (spec_l01New.l0 (k + 1) y0 y1 y2))
 | 0 => fun _ _ _ r h => by simp [spec_l01New.l0] at h
 | k + 1 => by
  have ih0 := spec_l01New.mono_l k
  ·intro y0 y1 y2
   unfold spec_l01New.l0
   repeat' first
   | (with_reducible exact ih0 _ _ _)
   | (with_reducible exact LeO.refl _)
   | (with_reducible exact LeO.none _)
   | (with_reducible refine LeO.ite ?_ ?_)
   | (with_reducible refine LeO.bind ?_ (fun _ => ?_))
   | exact ih0 _ _ _
   | exact LeO.none _
   | refine LeO.ite ?_ ?_
   | refine LeO.bind ?_ (fun _ => ?_)
theorem spec_l01New.mono : ∀ a0 k, LeO (spec_l01New.f k a0) (spec_l01New.f (k + 1) a0) := by
 intro a0 k
 have ih0 := spec_l01New.mono_l k
 unfold spec_l01New.f
 repeat' first
   | (with_reducible exact ih0 _ _ _)
   | (with_reducible exact LeO.refl _)
   | (with_reducible exact LeO.none _)
   | (with_reducible refine LeO.ite ?_ ?_)
   | (with_reducible refine LeO.bind ?_ (fun _ => ?_))
   | exact ih0 _ _ _
   | exact LeO.none _
   | refine LeO.ite ?_ ?_
   | refine LeO.bind ?_ (fun _ => ?_)
set_option maxHeartbeats 8000000 in
set_option maxRecDepth 100000 in
theorem spec_l01New.calls (k : Nat) (A0 : Option Addr) (c0 : Nat) (l0 : List Int) (r1 : List Int) (r2 : Int) (r3 : Int) (w0 w : World) (hB : Below w0.heap.size w0 w) (hr0 : Kd.C (Kd.int .u8) w0 A0 l0.length l0) (hc0 : l0.length ≤ c0) (h : spec_l01New.f k l0 = some (r1, r2, r3)) :
  Calls Try.prog 59 #[.slice A0 l0.length c0] w fun e w' => ∃ g_ : Nat, e = .returned (.pointer (some ⟨g_, 0, none⟩)) ∧ IsS81 w0 w' g_ r1 r2 r3 ∧ Below w0.heap.size w0 w' ∧ Below w.heap.size w w' := by
 have hu81 := Try.underlying81
 have HR0 := aM hr0
 have HC0 := aM hc0
 clear hr0 hc0
 have HBW := aM (Below.refl w.heap.size w)
 have HW0 := aM hB.size
 have HB := aM hB
 clear hB
 have H : (spec_l01New.l0 k l0 (wrap64 (33183 + (l0.length : Int))) 0) = some (r1, r2, r3) := h
 clear h
 have H' := aM H
 clear H
 go_enter Try.func59, Try.ntmps59
 go_wp2
 go_loopg [3, 4] k (fun kq v3 v4 w' => ∃ (x3_1 : Int) (x4_1 : Int), v3 = .int .i64 x3_1 ∧ v4 = .int .i64 x4_1 ∧ Aside0 (spec_l01New.l0 kq l0 x3_1 x4_1 = some (r1, r2, r3)) ∧ Aside0 (kq ≤ k) ∧ Aside0 (Below w0.heap.size w0 w') ∧ Aside0 (Below w.heap.size w w'))
 case atStart => exact ⟨(wrap64 (33183 + (l0.length : Int))), (0), zs, zs, H', ⟨Nat.le_refl _⟩, ⟨zb⟩, ⟨zw⟩⟩
 case round =>
  clear H'
  obtain ⟨x3_1, x4_1, rfl, rfl, HA, HK1, HB, HBW⟩ := hrel
  cases gk with
  | zero => exact absurd HA.out (by simp [spec_l01New.l0])
  | succ k1 =>
   have H := HA.out
   clear HA
   simp only [spec_l01New.l0] at H
   by_cases c2 : x4_1 < (l0.length : Int)
   ·rw [if_pos c2] at H
    have c2b0 : decide (x4_1 < (l0.length : Int)) = true := decide_eq_true c2
    clear c2
    by_cases c3 : x4_1 < 4000
    ·rw [if_pos c3] at H
     have c3b0 : decide (x4_1 < 4000) = true := decide_eq_true c3
     clear c3
     by_cases c4 : 0 ≤ x4_1
     ·rw [if_pos c4] at H
      have c4b0 : decide (0 ≤ x4_1) = true := decide_eq_true c4
      clear c4
      have H' := aM H
      clear H
      have p333 : 0 ≤ (x4_1 : Int) := of_decide_eq_true (by first | (with_reducible assumption) | assumption)
      have q333 : x4_1 < (l0.length : Int) := of_decide_eq_true (by first | (with_reducible assumption) | assumption)
      obtain ⟨ad333, e333, hx333_0⟩ := Kd.at_int HR0.out x4_1 p333 q333
      cases e333
      replace hx333_0 := pw_cell_below HB.out hx333_0
      replace p333 := eq_true p333
      replace q333 := eq_true q333
      go_wp2
      go_roundg k1
      case measure => have := HK1.out; omega
      case rel => exact ⟨(Go.bits .and .i64 (wrap64 ((wrap64 ((wrap64 (x3_1 * 131)) + (wrap64 (rd l0 x4_1)))) + 7)) 1073741823), (wrap64 (x4_1 + 1)), zs, zs, H', ⟨by have := HK1.out; omega⟩, ⟨zb⟩, ⟨zw⟩⟩
     ·rw [if_neg c4] at H
      exact absurd H (by simp)
    ·rw [if_neg c3] at H
     have c3b0 : decide (x4_1 < 4000) = false := decide_eq_false c3
     clear c3
     simp only [Option.some.injEq, Prod.mk.injEq] at H
     obtain ⟨rfl, rfl, rfl⟩ := H
     go_wp2_with (first | ((with_reducible refine gate_dst (N := 31) rfl ?_); refine box_event ?hg (N := 31) ?hd (cs := #[.slice A0 l0.length c0, .int .i64 0, .int .i64 x3_1]) (t := 81) ?hr ?_; (case hd => rfl); (case hg => rfl); (case hr => exact zg); intro gb334 hg w5 hbox hb; have n0_ := aM (below_step HBW.out hb); have n1_ := aM (below_step (zb) hb); have n2_ := aM (hbox); have n3_ := aM ((by rw [hg]; exact (below_size (zw)) : w.heap.size ≤ gb334)); have n4_ := aM ((Nat.le_trans HW0.out (by rw [hg]; exact (below_size (zw)) : w.heap.size ≤ gb334) : w0.heap.size ≤ gb334)); clear HBW; clear HB; have HBW := n0_; have HB := n1_; have BK334 := n2_; have GW334 := n3_; have GE334 := n4_; clear n0_ n1_ n2_ n3_ n4_; clear hb hbox hg))
     go_ret
     exact ⟨_, rfl, (show IsS81 w0 _ gb334 l0 0 x3_1 from ⟨_, _, by refine pq ?_; exact BK334.out, GE334.out, HR0.out⟩), zb, zw⟩
   ·rw [if_neg c2] at H
    have c2b0 : decide (x4_1 < (l0.length : Int)) = false := decide_eq_false c2
    clear c2
    simp only [Option.some.injEq, Prod.mk.injEq] at H
    obtain ⟨rfl, rfl, rfl⟩ := H
    go_wp2_with (first | ((with_reducible refine gate_dst (N := 31) rfl ?_); refine box_event ?hg (N := 31) ?hd (cs := #[.slice A0 l0.length c0, .int .i64 0, .int .i64 x3_1]) (t := 81) ?hr ?_; (case hd => rfl); (case hg => rfl); (case hr => exact zg); intro gb335 hg w6 hbox hb; have n0_ := aM (below_step HBW.out hb); have n1_ := aM (below_step (zb) hb); have n2_ := aM (hbox); have n3_ := aM ((by rw [hg]; exact (below_size (zw)) : w.heap.size ≤ gb335)); have n4_ := aM ((Nat.le_trans HW0.out (by rw [hg]; exact (below_size (zw)) : w.heap.size ≤ gb335) : w0.heap.size ≤ gb335)); clear HBW; clear HB; have HBW := n0_; have HB := n1_; have BK335 := n2_; have GW335 := n3_; have GE335 := n4_; clear n0_ n1_ n2_ n3_ n4_; clear hb hbox hg))
    go_ret
    exact ⟨_, rfl, (show IsS81 w0 _ gb335 l0 0 x3_1 from ⟨_, _, by refine pq ?_; exact BK335.out, GE335.out, HR0.out⟩), zb, zw⟩

end Go.Proofs.Ytglpkjcblpjnoab.QFnDoors
