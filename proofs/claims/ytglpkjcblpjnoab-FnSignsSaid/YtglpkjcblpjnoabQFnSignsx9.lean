-- Printed functions and their walks: by print.py, turned by wip/tools/myprint.py.
import Derived.Test.YtglpkjcblpjnoabQFnSignsx0
import Derived.Test.YtglpkjcblpjnoabQFnSignsx6
import Derived.Test.YtglpkjcblpjnoabQFnSignsx7
import Derived.Test.YtglpkjcblpjnoabQFnSignsx8
namespace Go.Proofs.Ytglpkjcblpjnoab.QFnSigns
open Go.RowKit Go.Proofs.YtglpkjcblpjnoabW.PrintWords Go.Proofs.YtglpkjcblpjnoabW.PrintLast Go.Proofs.YtglpkjcblpjnoabW.PrintMore
attribute [local go_sem] max2_int min2_int max_two min_two max_three min_three max_four min_four   -- for this text's walks alone
set_option linter.unusedVariables false
set_option linter.unusedSimpArgs false

/-! ### spec_l04Act: function 67 -/
def spec_l04Act.j0 : Nat → Int → Bool → Int → Int → Bool → Bool → Bool → Option (Int × Int × Bool × Bool × Bool)
 | 0, _, _, _, _, _, _, _ => none
 | k + 1, x1, x47, x221000, x221001, x221002, x221003, x221004 => if x47 = true then ((spec_BeginDoor.f k x221000 x221001 x221002 x221003 x221004 (wrap64 ((wrap64 (x1 - 8)) + 1))).bind fun bt249 => (some (bt249.1, bt249.2.1, bt249.2.2.1, bt249.2.2.2.1, bt249.2.2.2.2.1))) else ((spec_Hand.f k x221000 x221001 x221002 x221003 x221004 (wrap64 ((wrap64 (x1 - 4)) + 1))).bind fun bt256 => (some (bt256.1, bt256.2.1, bt256.2.2.1, bt256.2.2.2.1, bt256.2.2.2.2.1)))
def spec_l04Act.f (k : Nat) (a0_0 : Int) (a0_1 : Int) (a0_2 : Bool) (a0_3 : Bool) (a0_4 : Bool) (a1 : Int) : Option (Int × Int × Bool × Bool × Bool) := if a1 = 1 then ((spec_Advance.f k a0_0 a0_1 a0_2 a0_3 a0_4).bind fun bt222 => (some (bt222.1, bt222.2.1, bt222.2.2.1, bt222.2.2.2.1, bt222.2.2.2.2.1))) else (if a1 = 2 then ((spec_Relent.f k a0_0 a0_1 a0_2 a0_3 a0_4).bind fun bt229 => (some (bt229.1, bt229.2.1, bt229.2.2.1, bt229.2.2.2.1, bt229.2.2.2.2.1))) else (if a1 = 3 then ((spec_CutPower.f k a0_0 a0_1 a0_2 a0_3 a0_4).bind fun bt236 => (some (bt236.1, bt236.2.1, bt236.2.2.1, bt236.2.2.2.1, bt236.2.2.2.2))) else (if a1 = 7 then ((spec_Recover.f k a0_0 a0_1 a0_2 a0_3 a0_4 0 0 0 0).bind fun bt241 => (some (bt241.1, bt241.2.1, bt241.2.2.1, bt241.2.2.2.1, bt241.2.2.2.2.1))) else (if a1 = 8 then (spec_l04Act.j0 k a1 (a1 == 8) a0_0 a0_1 a0_2 a0_3 a0_4) else (spec_l04Act.j0 k a1 (a1 == 9) a0_0 a0_1 a0_2 a0_3 a0_4)))))
theorem spec_l04Act.mono_l : ∀ k, (∀ y0 y1 y2 y3 y4 y5 y6, LeO (spec_l04Act.j0 k y0 y1 y2 y3 y4 y5 y6) (spec_l04Act.j0 (k + 1) y0 y1 y2 y3 y4 y5 y6))
 | 0 => fun _ _ _ _ _ _ _ r h => by simp [spec_l04Act.j0] at h
 | k + 1 => by
  have ih0 := spec_l04Act.mono_l k
  ·intro y0 y1 y2 y3 y4 y5 y6
   unfold spec_l04Act.j0
   repeat' first
   | (with_reducible exact ih0 _ _ _ _ _ _ _)
   | (with_reducible exact spec_Advance.mono _ _ _ _ _ _)
   | (with_reducible exact spec_BeginDoor.mono _ _ _ _ _ _ _)
   | (with_reducible exact spec_CutPower.mono _ _ _ _ _ _)
   | (with_reducible exact spec_Hand.mono _ _ _ _ _ _ _)
   | (with_reducible exact spec_Recover.mono _ _ _ _ _ _ _ _ _ _)
   | (with_reducible exact spec_Relent.mono _ _ _ _ _ _)
   | (with_reducible exact LeO.refl _)
   | (with_reducible exact LeO.none _)
   | (with_reducible refine LeO.ite ?_ ?_)
   | (with_reducible refine LeO.bind ?_ (fun _ => ?_))
   | exact ih0 _ _ _ _ _ _ _
   | exact spec_Advance.mono _ _ _ _ _ _
   | exact spec_BeginDoor.mono _ _ _ _ _ _ _
   | exact spec_CutPower.mono _ _ _ _ _ _
   | exact spec_Hand.mono _ _ _ _ _ _ _
   | exact spec_Recover.mono _ _ _ _ _ _ _ _ _ _
   | exact spec_Relent.mono _ _ _ _ _ _
   | exact LeO.none _
   | refine LeO.ite ?_ ?_
   | refine LeO.bind ?_ (fun _ => ?_)
theorem spec_l04Act.mono : ∀ a0 a1 a2 a3 a4 a5 k, LeO (spec_l04Act.f k a0 a1 a2 a3 a4 a5) (spec_l04Act.f (k + 1) a0 a1 a2 a3 a4 a5) := by
 intro a0 a1 a2 a3 a4 a5 k
 have ih0 := spec_l04Act.mono_l k
 unfold spec_l04Act.f
 repeat' first
   | (with_reducible exact ih0 _ _ _ _ _ _ _)
   | (with_reducible exact spec_Advance.mono _ _ _ _ _ _)
   | (with_reducible exact spec_BeginDoor.mono _ _ _ _ _ _ _)
   | (with_reducible exact spec_CutPower.mono _ _ _ _ _ _)
   | (with_reducible exact spec_Hand.mono _ _ _ _ _ _ _)
   | (with_reducible exact spec_Recover.mono _ _ _ _ _ _ _ _ _ _)
   | (with_reducible exact spec_Relent.mono _ _ _ _ _ _)
   | (with_reducible exact LeO.refl _)
   | (with_reducible exact LeO.none _)
   | (with_reducible refine LeO.ite ?_ ?_)
   | (with_reducible refine LeO.bind ?_ (fun _ => ?_))
   | exact ih0 _ _ _ _ _ _ _
   | exact spec_Advance.mono _ _ _ _ _ _
   | exact spec_BeginDoor.mono _ _ _ _ _ _ _
   | exact spec_CutPower.mono _ _ _ _ _ _
   | exact spec_Hand.mono _ _ _ _ _ _ _
   | exact spec_Recover.mono _ _ _ _ _ _ _ _ _ _
   | exact spec_Relent.mono _ _ _ _ _ _
   | exact LeO.none _
   | refine LeO.ite ?_ ?_
   | refine LeO.bind ?_ (fun _ => ?_)
set_option maxHeartbeats 8000000 in
set_option maxRecDepth 100000 in
theorem spec_l04Act.calls (k : Nat) (a0_0 : Int) (a0_1 : Int) (a0_2 : Bool) (a0_3 : Bool) (a0_4 : Bool) (a1 : Int) (r1 : Int) (r2 : Int) (r3 : Bool) (r4 : Bool) (r5 : Bool) (w : World) (h : spec_l04Act.f k a0_0 a0_1 a0_2 a0_3 a0_4 a1 = some (r1, r2, r3, r4, r5)) :
  Calls Try.prog 67 #[.agg #[.int .i64 a0_0, .int .i64 a0_1, .bool a0_2, .bool a0_3, .bool a0_4], .int .i64 a1] w fun e w' => e = .returned (.agg #[.int .i64 r1, .int .i64 r2, .bool r3, .bool r4, .bool r5]) ∧ Below w.heap.size w w' := by
 have hu24 := Try.underlying24
 have hu37 := Try.underlying37
 have HB := aM (Below.refl w.heap.size w)
 have H : (if a1 = 1 then ((spec_Advance.f k a0_0 a0_1 a0_2 a0_3 a0_4).bind fun bt222 => (some (bt222.1, bt222.2.1, bt222.2.2.1, bt222.2.2.2.1, bt222.2.2.2.2.1))) else (if a1 = 2 then ((spec_Relent.f k a0_0 a0_1 a0_2 a0_3 a0_4).bind fun bt229 => (some (bt229.1, bt229.2.1, bt229.2.2.1, bt229.2.2.2.1, bt229.2.2.2.2.1))) else (if a1 = 3 then ((spec_CutPower.f k a0_0 a0_1 a0_2 a0_3 a0_4).bind fun bt236 => (some (bt236.1, bt236.2.1, bt236.2.2.1, bt236.2.2.2.1, bt236.2.2.2.2))) else (if a1 = 7 then ((spec_Recover.f k a0_0 a0_1 a0_2 a0_3 a0_4 0 0 0 0).bind fun bt241 => (some (bt241.1, bt241.2.1, bt241.2.2.1, bt241.2.2.2.1, bt241.2.2.2.2.1))) else (if a1 = 8 then (spec_l04Act.j0 k a1 (a1 == 8) a0_0 a0_1 a0_2 a0_3 a0_4) else (spec_l04Act.j0 k a1 (a1 == 9) a0_0 a0_1 a0_2 a0_3 a0_4)))))) = some (r1, r2, r3, r4, r5) := h
 clear h
 by_cases c3 : a1 = 1
 ·rw [if_pos c3] at H
  have c3b0 : (a1 == 1) = true := beq_iff_eq.mpr c3
  have c3b1 : (a1 != 1) = false := bne_eq_false_iff_eq.mpr c3
  clear c3
  replace H := Option.bind_eq_some_iff.mp H
  obtain ⟨⟨t222, t223, t224, t225, t226, t227⟩, A40, H⟩ := H
  replace H : (some (t222, t223, t224, t225, t226)) = some (r1, r2, r3, r4, r5) := H
  have A4 := aM A40
  clear A40
  simp only [Option.some.injEq, Prod.mk.injEq] at H
  obtain ⟨rfl, rfl, rfl, rfl, rfl⟩ := H
  go_enter Try.func67, Try.ntmps67
  go_wp2_with (first | ((with_reducible refine gate_dst (N := 2) rfl ?_); refine box_event ?hg (N := 2) ?hd (cs := #[.int .i64 a0_0, .int .i64 a0_1, .bool a0_2, .bool a0_3, .bool a0_4]) (t := 24) ?hr ?_; (case hd => rfl); (case hg => rfl); (case hr => exact zg); intro gb220 hg w5 hbox hb; have n0_ := aM (below_step (zb) hb); have n1_ := aM (hbox); have n2_ := aM ((by rw [hg]; exact (below_size (zb)) : w.heap.size ≤ gb220)); have n3_ := aM ((by rw [hg]; exact (below_size (zb)) : w.heap.size ≤ gb220)); clear HB; have HB := n0_; have BK220 := n1_; have GW220 := n2_; have GE220 := n3_; clear n0_ n1_ n2_ n3_; clear hb hbox hg) | ((with_reducible refine gate_dst (N := 4) rfl ?_); refine box_event ?hg (N := 4) ?hd (cs := #[.int .i64 0, .int .i64 0, .bool false, .bool false, .bool false]) (t := 24) ?hr ?_; (case hd => rfl); (case hg => rfl); (case hr => exact zg); intro gb221 hg w6 hbox hb; have n0_ := aM (bb BK220.out hb); have n1_ := aM (below_step (zb) hb); have n2_ := aM (hbox); have n3_ := aM ((by rw [hg]; exact (below_size (zb)) : w.heap.size ≤ gb221)); have n4_ := aM ((by rw [hg]; exact (below_size (zb)) : w.heap.size ≤ gb221)); have n5_ := aM ((by rw [hg]; exact Nat.ne_of_lt (nl BK220.out) : gb220 ≠ gb221)); have n6_ := aM ((by rw [hg]; exact Nat.ne_of_gt (nl BK220.out) : gb221 ≠ gb220)); clear BK220; clear HB; have BK220 := n0_; have HB := n1_; have BK221 := n2_; have GW221 := n3_; have GE221 := n4_; have NB220_221 := n5_; have NB221_220 := n6_; clear n0_ n1_ n2_ n3_ n4_ n5_ n6_; clear hb hbox hg; have hnb7 := NB220_221.out; have hnc7 := NB221_220.out; obtain ⟨hcz8_0, hcz8_1, hcz8_2, hcz8_3, hcz8_4, hfz8_0, hfz8_1, hfz8_2, hfz8_3, hfz8_4⟩ := cells5 BK220.out) | ((with_reducible refine gate_callee (f := 21) rfl ?_); refine goesL_ (some 21) rfl rfl Try.func21 (by kernel_rfl) rfl #[.agg #[.int .i64 a0_0, .int .i64 a0_1, .bool a0_2, .bool a0_3, .bool a0_4]] rfl za ?_; (with_reducible refine (spec_Advance.calls k a0_0 a0_1 a0_2 a0_3 a0_4 t222 t223 t224 t225 t226 t227 _ A4.out).mono ?_); rintro e w9 ⟨rfl, hb⟩; refine ⟨_, rfl, ?_⟩; have n0_ := aM (bb BK220.out hb); have n1_ := aM (bb BK221.out hb); have n2_ := aM (below_step (zb) hb); clear BK220; clear BK221; clear HB; have BK220 := n0_; have BK221 := n1_; have HB := n2_; clear n0_ n1_ n2_; (try clear hb); (try clear hb2); (try clear hk); (try clear hi)) | ((with_reducible refine gate_dst (N := 5) rfl ?_); refine box_event ?hg (N := 5) ?hd (cs := #[.int .i64 0, .int .i64 0, .bool false, .bool false, .bool false]) (t := 24) ?hr ?_; (case hd => rfl); (case hg => rfl); (case hr => exact zg); intro gb228 hg w10 hbox hb; have n0_ := aM (bb BK220.out hb); have n1_ := aM (bb BK221.out hb); have n2_ := aM (below_step (zb) hb); have n3_ := aM (hbox); have n4_ := aM ((by rw [hg]; exact (below_size (zb)) : w.heap.size ≤ gb228)); have n5_ := aM ((by rw [hg]; exact (below_size (zb)) : w.heap.size ≤ gb228)); have n6_ := aM ((by rw [hg]; exact Nat.ne_of_lt (nl BK220.out) : gb220 ≠ gb228)); have n7_ := aM ((by rw [hg]; exact Nat.ne_of_gt (nl BK220.out) : gb228 ≠ gb220)); have n8_ := aM ((by rw [hg]; exact Nat.ne_of_lt (nl BK221.out) : gb221 ≠ gb228)); have n9_ := aM ((by rw [hg]; exact Nat.ne_of_gt (nl BK221.out) : gb228 ≠ gb221)); clear BK220; clear BK221; clear HB; have BK220 := n0_; have BK221 := n1_; have HB := n2_; have BK228 := n3_; have GW228 := n4_; have GE228 := n5_; have NB220_228 := n6_; have NB228_220 := n7_; have NB221_228 := n8_; have NB228_221 := n9_; clear n0_ n1_ n2_ n3_ n4_ n5_ n6_ n7_ n8_ n9_; clear hb hbox hg; have hnb11 := NB228_220.out; have hnc11 := NB220_228.out; have hnb12 := NB228_221.out; have hnc12 := NB221_228.out; obtain ⟨hcz13_0, hcz13_1, hcz13_2, hcz13_3, hcz13_4, hfz13_0, hfz13_1, hfz13_2, hfz13_3, hfz13_4⟩ := cells5 BK228.out; obtain ⟨hcz14_0, hcz14_1, hcz14_2, hcz14_3, hcz14_4, hfz14_0, hfz14_1, hfz14_2, hfz14_3, hfz14_4⟩ := cells5 BK221.out))
  refine bodyPost_ret (results_cell_row rfl _ _ gb221 24 #[.int .i64 t222, .int .i64 t223, .bool t224, .bool t225, .bool t226] (0, 0) _ rfl (by refine pq ?_; refine blk_put (cs := #[.int .i64 t222, .int .i64 t223, .bool t224, .bool t225, .bool false]) ?_ 4 _ rfl; refine pq ?_; refine blk_put (cs := #[.int .i64 t222, .int .i64 t223, .bool t224, .bool false, .bool false]) ?_ 3 _ rfl; refine pq ?_; refine blk_put (cs := #[.int .i64 t222, .int .i64 t223, .bool false, .bool false, .bool false]) ?_ 2 _ rfl; refine pq ?_; refine blk_put (cs := #[.int .i64 t222, .int .i64 0, .bool false, .bool false, .bool false]) ?_ 1 _ rfl; refine pq ?_; refine blk_put (cs := #[.int .i64 0, .int .i64 0, .bool false, .bool false, .bool false]) ?_ 0 _ rfl; refine pq ?_; refine blk_far ?_ NB221_228.out _; refine pq ?_; refine blk_far ?_ NB221_228.out _; refine pq ?_; refine blk_far ?_ NB221_228.out _; refine pq ?_; refine blk_far ?_ NB221_228.out _; refine pq ?_; refine blk_far ?_ NB221_228.out _; refine pq ?_; exact BK221.out) Try.underlying24 rfl (by kernel_rfl)) rfl ?_
  exact ⟨zr, zb⟩
 ·rw [if_neg c3] at H
  have c3b0 : (a1 == 1) = false := beq_eq_false_iff_ne.mpr c3
  have c3b1 : (a1 != 1) = true := bne_iff_ne.mpr c3
  by_cases c15 : a1 = 2
  ·rw [if_pos c15] at H
   have c15b0 : (a1 == 2) = true := beq_iff_eq.mpr c15
   have c15b1 : (a1 != 2) = false := bne_eq_false_iff_eq.mpr c15
   clear c15
   replace H := Option.bind_eq_some_iff.mp H
   obtain ⟨⟨t229, t230, t231, t232, t233, t234⟩, A160, H⟩ := H
   replace H : (some (t229, t230, t231, t232, t233)) = some (r1, r2, r3, r4, r5) := H
   have A16 := aM A160
   clear A160
   simp only [Option.some.injEq, Prod.mk.injEq] at H
   obtain ⟨rfl, rfl, rfl, rfl, rfl⟩ := H
   go_enter Try.func67, Try.ntmps67
   go_wp2_with (first | ((with_reducible refine gate_dst (N := 2) rfl ?_); refine box_event ?hg (N := 2) ?hd (cs := #[.int .i64 a0_0, .int .i64 a0_1, .bool a0_2, .bool a0_3, .bool a0_4]) (t := 24) ?hr ?_; (case hd => rfl); (case hg => rfl); (case hr => exact zg); intro gb220 hg w17 hbox hb; have n0_ := aM (below_step (zb) hb); have n1_ := aM (hbox); have n2_ := aM ((by rw [hg]; exact (below_size (zb)) : w.heap.size ≤ gb220)); have n3_ := aM ((by rw [hg]; exact (below_size (zb)) : w.heap.size ≤ gb220)); clear HB; have HB := n0_; have BK220 := n1_; have GW220 := n2_; have GE220 := n3_; clear n0_ n1_ n2_ n3_; clear hb hbox hg) | ((with_reducible refine gate_dst (N := 4) rfl ?_); refine box_event ?hg (N := 4) ?hd (cs := #[.int .i64 0, .int .i64 0, .bool false, .bool false, .bool false]) (t := 24) ?hr ?_; (case hd => rfl); (case hg => rfl); (case hr => exact zg); intro gb221 hg w18 hbox hb; have n0_ := aM (bb BK220.out hb); have n1_ := aM (below_step (zb) hb); have n2_ := aM (hbox); have n3_ := aM ((by rw [hg]; exact (below_size (zb)) : w.heap.size ≤ gb221)); have n4_ := aM ((by rw [hg]; exact (below_size (zb)) : w.heap.size ≤ gb221)); have n5_ := aM ((by rw [hg]; exact Nat.ne_of_lt (nl BK220.out) : gb220 ≠ gb221)); have n6_ := aM ((by rw [hg]; exact Nat.ne_of_gt (nl BK220.out) : gb221 ≠ gb220)); clear BK220; clear HB; have BK220 := n0_; have HB := n1_; have BK221 := n2_; have GW221 := n3_; have GE221 := n4_; have NB220_221 := n5_; have NB221_220 := n6_; clear n0_ n1_ n2_ n3_ n4_ n5_ n6_; clear hb hbox hg; have hnb19 := NB220_221.out; have hnc19 := NB221_220.out; obtain ⟨hcz20_0, hcz20_1, hcz20_2, hcz20_3, hcz20_4, hfz20_0, hfz20_1, hfz20_2, hfz20_3, hfz20_4⟩ := cells5 BK220.out) | ((with_reducible refine gate_callee (f := 17) rfl ?_); refine goesL_ (some 29) rfl rfl Try.func17 (by kernel_rfl) rfl #[.agg #[.int .i64 a0_0, .int .i64 a0_1, .bool a0_2, .bool a0_3, .bool a0_4]] rfl za ?_; (with_reducible refine (spec_Relent.calls k a0_0 a0_1 a0_2 a0_3 a0_4 t229 t230 t231 t232 t233 t234 _ A16.out).mono ?_); rintro e w21 ⟨rfl, hb⟩; refine ⟨_, rfl, ?_⟩; have n0_ := aM (bb BK220.out hb); have n1_ := aM (bb BK221.out hb); have n2_ := aM (below_step (zb) hb); clear BK220; clear BK221; clear HB; have BK220 := n0_; have BK221 := n1_; have HB := n2_; clear n0_ n1_ n2_; (try clear hb); (try clear hb2); (try clear hk); (try clear hi)) | ((with_reducible refine gate_dst (N := 7) rfl ?_); refine box_event ?hg (N := 7) ?hd (cs := #[.int .i64 0, .int .i64 0, .bool false, .bool false, .bool false]) (t := 24) ?hr ?_; (case hd => rfl); (case hg => rfl); (case hr => exact zg); intro gb235 hg w22 hbox hb; have n0_ := aM (bb BK220.out hb); have n1_ := aM (bb BK221.out hb); have n2_ := aM (below_step (zb) hb); have n3_ := aM (hbox); have n4_ := aM ((by rw [hg]; exact (below_size (zb)) : w.heap.size ≤ gb235)); have n5_ := aM ((by rw [hg]; exact (below_size (zb)) : w.heap.size ≤ gb235)); have n6_ := aM ((by rw [hg]; exact Nat.ne_of_lt (nl BK220.out) : gb220 ≠ gb235)); have n7_ := aM ((by rw [hg]; exact Nat.ne_of_gt (nl BK220.out) : gb235 ≠ gb220)); have n8_ := aM ((by rw [hg]; exact Nat.ne_of_lt (nl BK221.out) : gb221 ≠ gb235)); have n9_ := aM ((by rw [hg]; exact Nat.ne_of_gt (nl BK221.out) : gb235 ≠ gb221)); clear BK220; clear BK221; clear HB; have BK220 := n0_; have BK221 := n1_; have HB := n2_; have BK235 := n3_; have GW235 := n4_; have GE235 := n5_; have NB220_235 := n6_; have NB235_220 := n7_; have NB221_235 := n8_; have NB235_221 := n9_; clear n0_ n1_ n2_ n3_ n4_ n5_ n6_ n7_ n8_ n9_; clear hb hbox hg; have hnb23 := NB235_220.out; have hnc23 := NB220_235.out; have hnb24 := NB235_221.out; have hnc24 := NB221_235.out; obtain ⟨hcz25_0, hcz25_1, hcz25_2, hcz25_3, hcz25_4, hfz25_0, hfz25_1, hfz25_2, hfz25_3, hfz25_4⟩ := cells5 BK235.out; obtain ⟨hcz26_0, hcz26_1, hcz26_2, hcz26_3, hcz26_4, hfz26_0, hfz26_1, hfz26_2, hfz26_3, hfz26_4⟩ := cells5 BK221.out))
   refine bodyPost_ret (results_cell_row rfl _ _ gb221 24 #[.int .i64 t229, .int .i64 t230, .bool t231, .bool t232, .bool t233] (0, 0) _ rfl (by refine pq ?_; refine blk_put (cs := #[.int .i64 t229, .int .i64 t230, .bool t231, .bool t232, .bool false]) ?_ 4 _ rfl; refine pq ?_; refine blk_put (cs := #[.int .i64 t229, .int .i64 t230, .bool t231, .bool false, .bool false]) ?_ 3 _ rfl; refine pq ?_; refine blk_put (cs := #[.int .i64 t229, .int .i64 t230, .bool false, .bool false, .bool false]) ?_ 2 _ rfl; refine pq ?_; refine blk_put (cs := #[.int .i64 t229, .int .i64 0, .bool false, .bool false, .bool false]) ?_ 1 _ rfl; refine pq ?_; refine blk_put (cs := #[.int .i64 0, .int .i64 0, .bool false, .bool false, .bool false]) ?_ 0 _ rfl; refine pq ?_; refine blk_far ?_ NB221_235.out _; refine pq ?_; refine blk_far ?_ NB221_235.out _; refine pq ?_; refine blk_far ?_ NB221_235.out _; refine pq ?_; refine blk_far ?_ NB221_235.out _; refine pq ?_; refine blk_far ?_ NB221_235.out _; refine pq ?_; exact BK221.out) Try.underlying24 rfl (by kernel_rfl)) rfl ?_
   exact ⟨zr, zb⟩
  ·rw [if_neg c15] at H
   have c15b0 : (a1 == 2) = false := beq_eq_false_iff_ne.mpr c15
   have c15b1 : (a1 != 2) = true := bne_iff_ne.mpr c15
   by_cases c27 : a1 = 3
   ·rw [if_pos c27] at H
    have c27b0 : (a1 == 3) = true := beq_iff_eq.mpr c27
    have c27b1 : (a1 != 3) = false := bne_eq_false_iff_eq.mpr c27
    clear c27
    replace H := Option.bind_eq_some_iff.mp H
    obtain ⟨⟨t236, t237, t238, t239, t240⟩, A280, H⟩ := H
    replace H : (some (t236, t237, t238, t239, t240)) = some (r1, r2, r3, r4, r5) := H
    have A28 := aM A280
    clear A280
    simp only [Option.some.injEq, Prod.mk.injEq] at H
    obtain ⟨rfl, rfl, rfl, rfl, rfl⟩ := H
    go_enter Try.func67, Try.ntmps67
    go_wp2_with (first | ((with_reducible refine gate_dst (N := 2) rfl ?_); refine box_event ?hg (N := 2) ?hd (cs := #[.int .i64 a0_0, .int .i64 a0_1, .bool a0_2, .bool a0_3, .bool a0_4]) (t := 24) ?hr ?_; (case hd => rfl); (case hg => rfl); (case hr => exact zg); intro gb220 hg w29 hbox hb; have n0_ := aM (below_step (zb) hb); have n1_ := aM (hbox); have n2_ := aM ((by rw [hg]; exact (below_size (zb)) : w.heap.size ≤ gb220)); have n3_ := aM ((by rw [hg]; exact (below_size (zb)) : w.heap.size ≤ gb220)); clear HB; have HB := n0_; have BK220 := n1_; have GW220 := n2_; have GE220 := n3_; clear n0_ n1_ n2_ n3_; clear hb hbox hg) | ((with_reducible refine gate_dst (N := 4) rfl ?_); refine box_event ?hg (N := 4) ?hd (cs := #[.int .i64 0, .int .i64 0, .bool false, .bool false, .bool false]) (t := 24) ?hr ?_; (case hd => rfl); (case hg => rfl); (case hr => exact zg); intro gb221 hg w30 hbox hb; have n0_ := aM (bb BK220.out hb); have n1_ := aM (below_step (zb) hb); have n2_ := aM (hbox); have n3_ := aM ((by rw [hg]; exact (below_size (zb)) : w.heap.size ≤ gb221)); have n4_ := aM ((by rw [hg]; exact (below_size (zb)) : w.heap.size ≤ gb221)); have n5_ := aM ((by rw [hg]; exact Nat.ne_of_lt (nl BK220.out) : gb220 ≠ gb221)); have n6_ := aM ((by rw [hg]; exact Nat.ne_of_gt (nl BK220.out) : gb221 ≠ gb220)); clear BK220; clear HB; have BK220 := n0_; have HB := n1_; have BK221 := n2_; have GW221 := n3_; have GE221 := n4_; have NB220_221 := n5_; have NB221_220 := n6_; clear n0_ n1_ n2_ n3_ n4_ n5_ n6_; clear hb hbox hg; have hnb31 := NB220_221.out; have hnc31 := NB221_220.out; obtain ⟨hcz32_0, hcz32_1, hcz32_2, hcz32_3, hcz32_4, hfz32_0, hfz32_1, hfz32_2, hfz32_3, hfz32_4⟩ := cells5 BK220.out) | ((with_reducible refine gate_callee (f := 31) rfl ?_); refine goesL_ (some 36) rfl rfl Try.func31 (by kernel_rfl) rfl #[.agg #[.int .i64 a0_0, .int .i64 a0_1, .bool a0_2, .bool a0_3, .bool a0_4]] rfl za ?_; (with_reducible refine (spec_CutPower.calls k a0_0 a0_1 a0_2 a0_3 a0_4 t236 t237 t238 t239 t240 _ A28.out).mono ?_); rintro e w33 ⟨rfl, hb⟩; refine ⟨_, rfl, ?_⟩; have n0_ := aM (bb BK220.out hb); have n1_ := aM (bb BK221.out hb); have n2_ := aM (below_step (zb) hb); clear BK220; clear BK221; clear HB; have BK220 := n0_; have BK221 := n1_; have HB := n2_; clear n0_ n1_ n2_; (try clear hb); (try clear hb2); (try clear hk); (try clear hi); obtain ⟨hcz34_0, hcz34_1, hcz34_2, hcz34_3, hcz34_4, hfz34_0, hfz34_1, hfz34_2, hfz34_3, hfz34_4⟩ := cells5 BK221.out))
    refine bodyPost_ret (results_cell_row rfl _ _ gb221 24 #[.int .i64 t236, .int .i64 t237, .bool t238, .bool t239, .bool t240] (0, 0) _ rfl (by refine pq ?_; refine blk_put (cs := #[.int .i64 t236, .int .i64 t237, .bool t238, .bool t239, .bool false]) ?_ 4 _ rfl; refine pq ?_; refine blk_put (cs := #[.int .i64 t236, .int .i64 t237, .bool t238, .bool false, .bool false]) ?_ 3 _ rfl; refine pq ?_; refine blk_put (cs := #[.int .i64 t236, .int .i64 t237, .bool false, .bool false, .bool false]) ?_ 2 _ rfl; refine pq ?_; refine blk_put (cs := #[.int .i64 t236, .int .i64 0, .bool false, .bool false, .bool false]) ?_ 1 _ rfl; refine pq ?_; refine blk_put (cs := #[.int .i64 0, .int .i64 0, .bool false, .bool false, .bool false]) ?_ 0 _ rfl; refine pq ?_; exact BK221.out) Try.underlying24 rfl (by kernel_rfl)) rfl ?_
    exact ⟨zr, zb⟩
   ·rw [if_neg c27] at H
    have c27b0 : (a1 == 3) = false := beq_eq_false_iff_ne.mpr c27
    have c27b1 : (a1 != 3) = true := bne_iff_ne.mpr c27
    by_cases c35 : a1 = 7
    ·rw [if_pos c35] at H
     have c35b0 : (a1 == 7) = true := beq_iff_eq.mpr c35
     have c35b1 : (a1 != 7) = false := bne_eq_false_iff_eq.mpr c35
     clear c35
     replace H := Option.bind_eq_some_iff.mp H
     obtain ⟨⟨t241, t242, t243, t244, t245, t246, t247⟩, A360, H⟩ := H
     replace H : (some (t241, t242, t243, t244, t245)) = some (r1, r2, r3, r4, r5) := H
     have A36 := aM A360
     clear A360
     simp only [Option.some.injEq, Prod.mk.injEq] at H
     obtain ⟨rfl, rfl, rfl, rfl, rfl⟩ := H
     go_enter Try.func67, Try.ntmps67
     go_wp2_with (first | ((with_reducible refine gate_dst (N := 2) rfl ?_); refine box_event ?hg (N := 2) ?hd (cs := #[.int .i64 a0_0, .int .i64 a0_1, .bool a0_2, .bool a0_3, .bool a0_4]) (t := 24) ?hr ?_; (case hd => rfl); (case hg => rfl); (case hr => exact zg); intro gb220 hg w37 hbox hb; have n0_ := aM (below_step (zb) hb); have n1_ := aM (hbox); have n2_ := aM ((by rw [hg]; exact (below_size (zb)) : w.heap.size ≤ gb220)); have n3_ := aM ((by rw [hg]; exact (below_size (zb)) : w.heap.size ≤ gb220)); clear HB; have HB := n0_; have BK220 := n1_; have GW220 := n2_; have GE220 := n3_; clear n0_ n1_ n2_ n3_; clear hb hbox hg) | ((with_reducible refine gate_dst (N := 4) rfl ?_); refine box_event ?hg (N := 4) ?hd (cs := #[.int .i64 0, .int .i64 0, .bool false, .bool false, .bool false]) (t := 24) ?hr ?_; (case hd => rfl); (case hg => rfl); (case hr => exact zg); intro gb221 hg w38 hbox hb; have n0_ := aM (bb BK220.out hb); have n1_ := aM (below_step (zb) hb); have n2_ := aM (hbox); have n3_ := aM ((by rw [hg]; exact (below_size (zb)) : w.heap.size ≤ gb221)); have n4_ := aM ((by rw [hg]; exact (below_size (zb)) : w.heap.size ≤ gb221)); have n5_ := aM ((by rw [hg]; exact Nat.ne_of_lt (nl BK220.out) : gb220 ≠ gb221)); have n6_ := aM ((by rw [hg]; exact Nat.ne_of_gt (nl BK220.out) : gb221 ≠ gb220)); clear BK220; clear HB; have BK220 := n0_; have HB := n1_; have BK221 := n2_; have GW221 := n3_; have GE221 := n4_; have NB220_221 := n5_; have NB221_220 := n6_; clear n0_ n1_ n2_ n3_ n4_ n5_ n6_; clear hb hbox hg; have hnb39 := NB220_221.out; have hnc39 := NB221_220.out; obtain ⟨hcz40_0, hcz40_1, hcz40_2, hcz40_3, hcz40_4, hfz40_0, hfz40_1, hfz40_2, hfz40_3, hfz40_4⟩ := cells5 BK220.out) | ((with_reducible refine gate_callee (f := 23) rfl ?_); refine goesL_ (some 42) rfl rfl Try.func23 (by kernel_rfl) rfl #[.agg #[.int .i64 a0_0, .int .i64 a0_1, .bool a0_2, .bool a0_3, .bool a0_4], .agg #[.int .i64 0, .int .i64 0, .int .i64 0, .int .i64 0]] rfl za ?_; (with_reducible refine (spec_Recover.calls k a0_0 a0_1 a0_2 a0_3 a0_4 0 0 0 0 t241 t242 t243 t244 t245 t246 t247 _ A36.out).mono ?_); rintro e w41 ⟨rfl, hb⟩; refine ⟨_, rfl, ?_⟩; have n0_ := aM (bb BK220.out hb); have n1_ := aM (bb BK221.out hb); have n2_ := aM (below_step (zb) hb); clear BK220; clear BK221; clear HB; have BK220 := n0_; have BK221 := n1_; have HB := n2_; clear n0_ n1_ n2_; (try clear hb); (try clear hb2); (try clear hk); (try clear hi)) | ((with_reducible refine gate_dst (N := 9) rfl ?_); refine box_event ?hg (N := 9) ?hd (cs := #[.int .i64 0, .int .i64 0, .bool false, .bool false, .bool false]) (t := 24) ?hr ?_; (case hd => rfl); (case hg => rfl); (case hr => exact zg); intro gb248 hg w42 hbox hb; have n0_ := aM (bb BK220.out hb); have n1_ := aM (bb BK221.out hb); have n2_ := aM (below_step (zb) hb); have n3_ := aM (hbox); have n4_ := aM ((by rw [hg]; exact (below_size (zb)) : w.heap.size ≤ gb248)); have n5_ := aM ((by rw [hg]; exact (below_size (zb)) : w.heap.size ≤ gb248)); have n6_ := aM ((by rw [hg]; exact Nat.ne_of_lt (nl BK220.out) : gb220 ≠ gb248)); have n7_ := aM ((by rw [hg]; exact Nat.ne_of_gt (nl BK220.out) : gb248 ≠ gb220)); have n8_ := aM ((by rw [hg]; exact Nat.ne_of_lt (nl BK221.out) : gb221 ≠ gb248)); have n9_ := aM ((by rw [hg]; exact Nat.ne_of_gt (nl BK221.out) : gb248 ≠ gb221)); clear BK220; clear BK221; clear HB; have BK220 := n0_; have BK221 := n1_; have HB := n2_; have BK248 := n3_; have GW248 := n4_; have GE248 := n5_; have NB220_248 := n6_; have NB248_220 := n7_; have NB221_248 := n8_; have NB248_221 := n9_; clear n0_ n1_ n2_ n3_ n4_ n5_ n6_ n7_ n8_ n9_; clear hb hbox hg; have hnb43 := NB248_220.out; have hnc43 := NB220_248.out; have hnb44 := NB248_221.out; have hnc44 := NB221_248.out; obtain ⟨hcz45_0, hcz45_1, hcz45_2, hcz45_3, hcz45_4, hfz45_0, hfz45_1, hfz45_2, hfz45_3, hfz45_4⟩ := cells5 BK248.out; obtain ⟨hcz46_0, hcz46_1, hcz46_2, hcz46_3, hcz46_4, hfz46_0, hfz46_1, hfz46_2, hfz46_3, hfz46_4⟩ := cells5 BK221.out))
     refine bodyPost_ret (results_cell_row rfl _ _ gb221 24 #[.int .i64 t241, .int .i64 t242, .bool t243, .bool t244, .bool t245] (0, 0) _ rfl (by refine pq ?_; refine blk_put (cs := #[.int .i64 t241, .int .i64 t242, .bool t243, .bool t244, .bool false]) ?_ 4 _ rfl; refine pq ?_; refine blk_put (cs := #[.int .i64 t241, .int .i64 t242, .bool t243, .bool false, .bool false]) ?_ 3 _ rfl; refine pq ?_; refine blk_put (cs := #[.int .i64 t241, .int .i64 t242, .bool false, .bool false, .bool false]) ?_ 2 _ rfl; refine pq ?_; refine blk_put (cs := #[.int .i64 t241, .int .i64 0, .bool false, .bool false, .bool false]) ?_ 1 _ rfl; refine pq ?_; refine blk_put (cs := #[.int .i64 0, .int .i64 0, .bool false, .bool false, .bool false]) ?_ 0 _ rfl; refine pq ?_; refine blk_far ?_ NB221_248.out _; refine pq ?_; refine blk_far ?_ NB221_248.out _; refine pq ?_; refine blk_far ?_ NB221_248.out _; refine pq ?_; refine blk_far ?_ NB221_248.out _; refine pq ?_; refine blk_far ?_ NB221_248.out _; refine pq ?_; exact BK221.out) Try.underlying24 rfl (by kernel_rfl)) rfl ?_
     exact ⟨zr, zb⟩
    ·rw [if_neg c35] at H
     have c35b0 : (a1 == 7) = false := beq_eq_false_iff_ne.mpr c35
     have c35b1 : (a1 != 7) = true := bne_iff_ne.mpr c35
     have HC47 := aM H
     clear H
     go_enter Try.func67, Try.ntmps67
     go_upto_if 47 with (first | ((with_reducible refine gate_dst (N := 2) rfl ?_); refine box_event ?hg (N := 2) ?hd (cs := #[.int .i64 a0_0, .int .i64 a0_1, .bool a0_2, .bool a0_3, .bool a0_4]) (t := 24) ?hr ?_; (case hd => rfl); (case hg => rfl); (case hr => exact zg); intro gb220 hg w48 hbox hb; have n0_ := aM (below_step (zb) hb); have n1_ := aM (hbox); have n2_ := aM ((by rw [hg]; exact (below_size (zb)) : w.heap.size ≤ gb220)); have n3_ := aM ((by rw [hg]; exact (below_size (zb)) : w.heap.size ≤ gb220)); clear HB; have HB := n0_; have BK220 := n1_; have GW220 := n2_; have GE220 := n3_; clear n0_ n1_ n2_ n3_; clear hb hbox hg) | ((with_reducible refine gate_dst (N := 4) rfl ?_); refine box_event ?hg (N := 4) ?hd (cs := #[.int .i64 0, .int .i64 0, .bool false, .bool false, .bool false]) (t := 24) ?hr ?_; (case hd => rfl); (case hg => rfl); (case hr => exact zg); intro gb221 hg w49 hbox hb; have n0_ := aM (bb BK220.out hb); have n1_ := aM (below_step (zb) hb); have n2_ := aM (hbox); have n3_ := aM ((by rw [hg]; exact (below_size (zb)) : w.heap.size ≤ gb221)); have n4_ := aM ((by rw [hg]; exact (below_size (zb)) : w.heap.size ≤ gb221)); have n5_ := aM ((by rw [hg]; exact Nat.ne_of_lt (nl BK220.out) : gb220 ≠ gb221)); have n6_ := aM ((by rw [hg]; exact Nat.ne_of_gt (nl BK220.out) : gb221 ≠ gb220)); clear BK220; clear HB; have BK220 := n0_; have HB := n1_; have BK221 := n2_; have GW221 := n3_; have GE221 := n4_; have NB220_221 := n5_; have NB221_220 := n6_; clear n0_ n1_ n2_ n3_ n4_ n5_ n6_; clear hb hbox hg))
     (try simp only [Act.put, List.setIfInBounds_toArray, List.set_cons_zero, List.set_cons_succ])
     go_cut [47] (fun v47 wc => ∃ (kq : Nat) (x47_46 : Bool), v47 = .bool x47_46 ∧ Aside0 (spec_l04Act.j0 kq a1 x47_46 a0_0 a0_1 a0_2 a0_3 a0_4 = some (r1, r2, r3, r4, r5)) ∧ Aside0 (kq ≤ k) ∧ Aside0 (wc.heap[gb220]? = some (.cells #[.int .i64 a0_0, .int .i64 a0_1, .bool a0_2, .bool a0_3, .bool a0_4] 24 (0, 0))) ∧ Aside0 (wc.heap[gb221]? = some (.cells #[.int .i64 0, .int .i64 0, .bool false, .bool false, .bool false] 24 (0, 0))) ∧ Aside0 (Below w.heap.size w wc))
     case first =>
      have H := HC47.out
      clear HC47
      by_cases c50 : a1 = 8
      ·rw [if_pos c50] at H
       have c50b0 : (a1 == 8) = true := beq_iff_eq.mpr c50
       have c50b1 : (a1 != 8) = false := bne_eq_false_iff_eq.mpr c50
       clear c50
       (first | rw [c50b0] | (simp only [i64_w, i32_w]; rw [c50b0]) | skip)
       have H' := aM H
       clear H
       go_wp2
       go_meet
       case rel => exact ⟨_, ((a1 == 8)), zs, H', ⟨by first | omega | exact Nat.le_refl _⟩, ⟨by exact pk BK220.out⟩, ⟨by exact pk BK221.out⟩, ⟨zb⟩⟩
      ·rw [if_neg c50] at H
       have c50b0 : (a1 == 8) = false := beq_eq_false_iff_ne.mpr c50
       have c50b1 : (a1 != 8) = true := bne_iff_ne.mpr c50
       (first | rw [c50b0] | (simp only [i64_w, i32_w]; rw [c50b0]) | skip)
       have H' := aM H
       clear H
       go_wp2
       go_meet
       case rel => exact ⟨_, ((a1 == 9)), zs, H', ⟨by first | omega | exact Nat.le_refl _⟩, ⟨by exact pk BK220.out⟩, ⟨by exact pk BK221.out⟩, ⟨zb⟩⟩
     case rest =>
      clear HC47
      try clear c1
      try clear c2
      try clear p2
      try clear c3
      try clear c3b0
      try clear c3b1
      try clear c4
      try clear c5
      try clear c6
      try clear c7
      try clear c11
      try clear c12
      try clear c15
      try clear c15b0
      try clear c15b1
      try clear c17
      try clear c19
      try clear c21
      try clear c23
      try clear c24
      try clear c27
      try clear c27b0
      try clear c27b1
      try clear c31
      try clear c35
      try clear c35b0
      try clear c35b1
      try clear c39
      try clear c43
      try clear c44
      try clear c50
      try clear c50b0
      try clear c50b1
      try clear hcz13_0 hcz13_1 hcz13_2 hcz13_3 hcz13_4 hfz13_0 hfz13_1 hfz13_2 hfz13_3 hfz13_4
      try clear hcz14_0 hcz14_1 hcz14_2 hcz14_3 hcz14_4 hfz14_0 hfz14_1 hfz14_2 hfz14_3 hfz14_4
      try clear hcz20_0 hcz20_1 hcz20_2 hcz20_3 hcz20_4 hfz20_0 hfz20_1 hfz20_2 hfz20_3 hfz20_4
      try clear hcz25_0 hcz25_1 hcz25_2 hcz25_3 hcz25_4 hfz25_0 hfz25_1 hfz25_2 hfz25_3 hfz25_4
      try clear hcz26_0 hcz26_1 hcz26_2 hcz26_3 hcz26_4 hfz26_0 hfz26_1 hfz26_2 hfz26_3 hfz26_4
      try clear hcz32_0 hcz32_1 hcz32_2 hcz32_3 hcz32_4 hfz32_0 hfz32_1 hfz32_2 hfz32_3 hfz32_4
      try clear hcz34_0 hcz34_1 hcz34_2 hcz34_3 hcz34_4 hfz34_0 hfz34_1 hfz34_2 hfz34_3 hfz34_4
      try clear hcz40_0 hcz40_1 hcz40_2 hcz40_3 hcz40_4 hfz40_0 hfz40_1 hfz40_2 hfz40_3 hfz40_4
      try clear hcz45_0 hcz45_1 hcz45_2 hcz45_3 hcz45_4 hfz45_0 hfz45_1 hfz45_2 hfz45_3 hfz45_4
      try clear hcz46_0 hcz46_1 hcz46_2 hcz46_3 hcz46_4 hfz46_0 hfz46_1 hfz46_2 hfz46_3 hfz46_4
      try clear hcz8_0 hcz8_1 hcz8_2 hcz8_3 hcz8_4 hfz8_0 hfz8_1 hfz8_2 hfz8_3 hfz8_4
      obtain ⟨kq, x47_46, rfl, HA, HJ46, BK220, BK221, HB⟩ := hcut
      cases kq with
      | zero => exact absurd HA.out (by simp [spec_l04Act.j0])
      | succ kj46 =>
       have H := HA.out
       clear HA
       simp only [spec_l04Act.j0] at H
       by_cases c51 : x47_46 = true
       ·subst c51
        have H1 : ((spec_BeginDoor.f kj46 a0_0 a0_1 a0_2 a0_3 a0_4 (wrap64 ((wrap64 (a1 - 8)) + 1))).bind fun bt249 => (some (bt249.1, bt249.2.1, bt249.2.2.1, bt249.2.2.2.1, bt249.2.2.2.2.1))) = some (r1, r2, r3, r4, r5) := by rw [if_pos rfl] at H; exact H
        clear H
        have H := H1
        clear H1
        replace H := Option.bind_eq_some_iff.mp H
        obtain ⟨⟨t249, t250, t251, t252, t253, t254⟩, A520, H⟩ := H
        replace H : (some (t249, t250, t251, t252, t253)) = some (r1, r2, r3, r4, r5) := H
        have A52 := aM A520
        clear A520
        simp only [Option.some.injEq, Prod.mk.injEq] at H
        obtain ⟨rfl, rfl, rfl, rfl, rfl⟩ := H
        have hnb53 := NB220_221.out
        have hnc53 := NB221_220.out
        obtain ⟨hcz54_0, hcz54_1, hcz54_2, hcz54_3, hcz54_4, hfz54_0, hfz54_1, hfz54_2, hfz54_3, hfz54_4⟩ := cells5 BK220.out
        go_wp2_with (first | ((with_reducible refine gate_callee (f := 77) rfl ?_); refine goesL_ (some 55) rfl rfl Try.func77 (by kernel_rfl) rfl #[.agg #[.int .i64 a0_0, .int .i64 a0_1, .bool a0_2, .bool a0_3, .bool a0_4], .int .i64 (wrap64 ((wrap64 (a1 - 8)) + 1))] rfl za ?_; (with_reducible refine (spec_BeginDoor.calls kj46 a0_0 a0_1 a0_2 a0_3 a0_4 (wrap64 ((wrap64 (a1 - 8)) + 1)) t249 t250 t251 t252 t253 t254 _ A52.out).mono ?_); rintro e w55 ⟨rfl, hb⟩; refine ⟨_, rfl, ?_⟩; have n0_ := aM (bb BK220.out hb); have n1_ := aM (bb BK221.out hb); have n2_ := aM (below_step (zb) hb); clear BK220; clear BK221; clear HB; have BK220 := n0_; have BK221 := n1_; have HB := n2_; clear n0_ n1_ n2_; (try clear hb); (try clear hb2); (try clear hk); (try clear hi)) | ((with_reducible refine gate_dst (N := 12) rfl ?_); refine box_event ?hg (N := 12) ?hd (cs := #[.int .i64 0, .int .i64 0, .bool false, .bool false, .bool false]) (t := 24) ?hr ?_; (case hd => rfl); (case hg => rfl); (case hr => exact zg); intro gb255 hg w56 hbox hb; have n0_ := aM (bb BK220.out hb); have n1_ := aM (bb BK221.out hb); have n2_ := aM (below_step (zb) hb); have n3_ := aM (hbox); have n4_ := aM ((by rw [hg]; exact (below_size (zb)) : w.heap.size ≤ gb255)); have n5_ := aM ((by rw [hg]; exact (below_size (zb)) : w.heap.size ≤ gb255)); have n6_ := aM ((by rw [hg]; exact Nat.ne_of_lt (nl BK220.out) : gb220 ≠ gb255)); have n7_ := aM ((by rw [hg]; exact Nat.ne_of_gt (nl BK220.out) : gb255 ≠ gb220)); have n8_ := aM ((by rw [hg]; exact Nat.ne_of_lt (nl BK221.out) : gb221 ≠ gb255)); have n9_ := aM ((by rw [hg]; exact Nat.ne_of_gt (nl BK221.out) : gb255 ≠ gb221)); clear BK220; clear BK221; clear HB; have BK220 := n0_; have BK221 := n1_; have HB := n2_; have BK255 := n3_; have GW255 := n4_; have GE255 := n5_; have NB220_255 := n6_; have NB255_220 := n7_; have NB221_255 := n8_; have NB255_221 := n9_; clear n0_ n1_ n2_ n3_ n4_ n5_ n6_ n7_ n8_ n9_; clear hb hbox hg; have hnb57 := NB255_220.out; have hnc57 := NB220_255.out; have hnb58 := NB255_221.out; have hnc58 := NB221_255.out; obtain ⟨hcz59_0, hcz59_1, hcz59_2, hcz59_3, hcz59_4, hfz59_0, hfz59_1, hfz59_2, hfz59_3, hfz59_4⟩ := cells5 BK255.out; obtain ⟨hcz60_0, hcz60_1, hcz60_2, hcz60_3, hcz60_4, hfz60_0, hfz60_1, hfz60_2, hfz60_3, hfz60_4⟩ := cells5 BK221.out))
        refine bodyPost_ret (results_cell_row rfl _ _ gb221 24 #[.int .i64 t249, .int .i64 t250, .bool t251, .bool t252, .bool t253] (0, 0) _ rfl (by refine pq ?_; refine blk_put (cs := #[.int .i64 t249, .int .i64 t250, .bool t251, .bool t252, .bool false]) ?_ 4 _ rfl; refine pq ?_; refine blk_put (cs := #[.int .i64 t249, .int .i64 t250, .bool t251, .bool false, .bool false]) ?_ 3 _ rfl; refine pq ?_; refine blk_put (cs := #[.int .i64 t249, .int .i64 t250, .bool false, .bool false, .bool false]) ?_ 2 _ rfl; refine pq ?_; refine blk_put (cs := #[.int .i64 t249, .int .i64 0, .bool false, .bool false, .bool false]) ?_ 1 _ rfl; refine pq ?_; refine blk_put (cs := #[.int .i64 0, .int .i64 0, .bool false, .bool false, .bool false]) ?_ 0 _ rfl; refine pq ?_; refine blk_far ?_ NB221_255.out _; refine pq ?_; refine blk_far ?_ NB221_255.out _; refine pq ?_; refine blk_far ?_ NB221_255.out _; refine pq ?_; refine blk_far ?_ NB221_255.out _; refine pq ?_; refine blk_far ?_ NB221_255.out _; refine pq ?_; exact BK221.out) Try.underlying24 rfl (by kernel_rfl)) rfl ?_
        exact ⟨zr, zb⟩
       ·replace c51 := Bool.eq_false_iff.mpr c51
        subst c51
        have H1 : ((spec_Hand.f kj46 a0_0 a0_1 a0_2 a0_3 a0_4 (wrap64 ((wrap64 (a1 - 4)) + 1))).bind fun bt256 => (some (bt256.1, bt256.2.1, bt256.2.2.1, bt256.2.2.2.1, bt256.2.2.2.2.1))) = some (r1, r2, r3, r4, r5) := by rw [if_neg (show ¬ (false = true) by decide)] at H; exact H
        clear H
        have H := H1
        clear H1
        replace H := Option.bind_eq_some_iff.mp H
        obtain ⟨⟨t256, t257, t258, t259, t260, t261⟩, A610, H⟩ := H
        replace H : (some (t256, t257, t258, t259, t260)) = some (r1, r2, r3, r4, r5) := H
        have A61 := aM A610
        clear A610
        simp only [Option.some.injEq, Prod.mk.injEq] at H
        obtain ⟨rfl, rfl, rfl, rfl, rfl⟩ := H
        have hnb62 := NB220_221.out
        have hnc62 := NB221_220.out
        obtain ⟨hcz63_0, hcz63_1, hcz63_2, hcz63_3, hcz63_4, hfz63_0, hfz63_1, hfz63_2, hfz63_3, hfz63_4⟩ := cells5 BK220.out
        go_wp2_with (first | ((with_reducible refine gate_callee (f := 19) rfl ?_); refine goesL_ (some 64) rfl rfl Try.func19 (by kernel_rfl) rfl #[.agg #[.int .i64 a0_0, .int .i64 a0_1, .bool a0_2, .bool a0_3, .bool a0_4], .int .i64 (wrap64 ((wrap64 (a1 - 4)) + 1))] rfl za ?_; (with_reducible refine (spec_Hand.calls kj46 a0_0 a0_1 a0_2 a0_3 a0_4 (wrap64 ((wrap64 (a1 - 4)) + 1)) t256 t257 t258 t259 t260 t261 _ A61.out).mono ?_); rintro e w64 ⟨rfl, hb⟩; refine ⟨_, rfl, ?_⟩; have n0_ := aM (bb BK220.out hb); have n1_ := aM (bb BK221.out hb); have n2_ := aM (below_step (zb) hb); clear BK220; clear BK221; clear HB; have BK220 := n0_; have BK221 := n1_; have HB := n2_; clear n0_ n1_ n2_; (try clear hb); (try clear hb2); (try clear hk); (try clear hi)) | ((with_reducible refine gate_dst (N := 14) rfl ?_); refine box_event ?hg (N := 14) ?hd (cs := #[.int .i64 0, .int .i64 0, .bool false, .bool false, .bool false]) (t := 24) ?hr ?_; (case hd => rfl); (case hg => rfl); (case hr => exact zg); intro gb262 hg w65 hbox hb; have n0_ := aM (bb BK220.out hb); have n1_ := aM (bb BK221.out hb); have n2_ := aM (below_step (zb) hb); have n3_ := aM (hbox); have n4_ := aM ((by rw [hg]; exact (below_size (zb)) : w.heap.size ≤ gb262)); have n5_ := aM ((by rw [hg]; exact (below_size (zb)) : w.heap.size ≤ gb262)); have n6_ := aM ((by rw [hg]; exact Nat.ne_of_lt (nl BK220.out) : gb220 ≠ gb262)); have n7_ := aM ((by rw [hg]; exact Nat.ne_of_gt (nl BK220.out) : gb262 ≠ gb220)); have n8_ := aM ((by rw [hg]; exact Nat.ne_of_lt (nl BK221.out) : gb221 ≠ gb262)); have n9_ := aM ((by rw [hg]; exact Nat.ne_of_gt (nl BK221.out) : gb262 ≠ gb221)); clear BK220; clear BK221; clear HB; have BK220 := n0_; have BK221 := n1_; have HB := n2_; have BK262 := n3_; have GW262 := n4_; have GE262 := n5_; have NB220_262 := n6_; have NB262_220 := n7_; have NB221_262 := n8_; have NB262_221 := n9_; clear n0_ n1_ n2_ n3_ n4_ n5_ n6_ n7_ n8_ n9_; clear hb hbox hg; have hnb66 := NB262_220.out; have hnc66 := NB220_262.out; have hnb67 := NB262_221.out; have hnc67 := NB221_262.out; obtain ⟨hcz68_0, hcz68_1, hcz68_2, hcz68_3, hcz68_4, hfz68_0, hfz68_1, hfz68_2, hfz68_3, hfz68_4⟩ := cells5 BK262.out; obtain ⟨hcz69_0, hcz69_1, hcz69_2, hcz69_3, hcz69_4, hfz69_0, hfz69_1, hfz69_2, hfz69_3, hfz69_4⟩ := cells5 BK221.out))
        refine bodyPost_ret (results_cell_row rfl _ _ gb221 24 #[.int .i64 t256, .int .i64 t257, .bool t258, .bool t259, .bool t260] (0, 0) _ rfl (by refine pq ?_; refine blk_put (cs := #[.int .i64 t256, .int .i64 t257, .bool t258, .bool t259, .bool false]) ?_ 4 _ rfl; refine pq ?_; refine blk_put (cs := #[.int .i64 t256, .int .i64 t257, .bool t258, .bool false, .bool false]) ?_ 3 _ rfl; refine pq ?_; refine blk_put (cs := #[.int .i64 t256, .int .i64 t257, .bool false, .bool false, .bool false]) ?_ 2 _ rfl; refine pq ?_; refine blk_put (cs := #[.int .i64 t256, .int .i64 0, .bool false, .bool false, .bool false]) ?_ 1 _ rfl; refine pq ?_; refine blk_put (cs := #[.int .i64 0, .int .i64 0, .bool false, .bool false, .bool false]) ?_ 0 _ rfl; refine pq ?_; refine blk_far ?_ NB221_262.out _; refine pq ?_; refine blk_far ?_ NB221_262.out _; refine pq ?_; refine blk_far ?_ NB221_262.out _; refine pq ?_; refine blk_far ?_ NB221_262.out _; refine pq ?_; refine blk_far ?_ NB221_262.out _; refine pq ?_; exact BK221.out) Try.underlying24 rfl (by kernel_rfl)) rfl ?_
        exact ⟨zr, zb⟩

end Go.Proofs.Ytglpkjcblpjnoab.QFnSigns
