-- Printed functions and their walks: by print.py, turned by wip/tools/myprint.py.
import Derived.Test.YtdhinnolfpacgaaDoorQFnExactResyncx0
import Derived.Test.YtdhinnolfpacgaaDoorQFnExactResyncx1
import Derived.Test.YtdhinnolfpacgaaDoorQFnExactResyncx2
import Derived.Test.YtdhinnolfpacgaaDoorQFnExactResyncx3
namespace Go.Proofs.YtdhinnolfpacgaaDoor.QFnExactResync
open Go.RowKit Go.Proofs.YtdhinnolfpacgaaDoorW.PrintWords Go.Proofs.YtdhinnolfpacgaaDoorW.PrintLast Go.Proofs.YtdhinnolfpacgaaDoorW.PrintMore
attribute [local go_sem] max2_int min2_int max_two min_two max_three min_three max_four min_four   -- for this text's walks alone
set_option linter.unusedVariables false
set_option linter.unusedSimpArgs false

/-! ### laws_FnExactResync: function 5 -/
def laws_FnExactResync.f (k : Nat) (a0_0 : Int) (a0_1 : Int) (a0_2 : Int) (a0_3 : Int) (a0_4 : Int) (a1 : ByteArray) (a2 : ByteArray) (a3 : Int) : Option (Bool) := if (a1.size : Int) > 1048576 then (some true) else (if (a2.size : Int) > 1048576 then (some true) else ((laws_toLock.f a0_0 a0_1 a0_2 a0_3 a0_4).bind fun bt162 => ((spec_Resync.f k bt162.1 bt162.2.1 bt162.2.2.1 bt162.2.2.2.1 bt162.2.2.2.2 a1 a2 a3).bind fun bt167 => ((laws_toLock.f a0_0 a0_1 a0_2 a0_3 a0_4).bind fun bt174 => ((impl_Resync.f k bt174.1 bt174.2.1 bt174.2.2.1 bt174.2.2.2.1 bt174.2.2.2.2 a1 a2 a3).bind fun bt179 => ((laws_eqLock.f bt179.1 bt179.2.1 bt179.2.2.1 bt179.2.2.2.1 bt179.2.2.2.2.1 bt167.1 bt167.2.1 bt167.2.2.1 bt167.2.2.2.1 bt167.2.2.2.2.1).bind fun t186 => (if t186 = true then (if bt179.2.2.2.2.2 = bt167.2.2.2.2.2 then (some true) else (none)) else (none))))))))
theorem laws_FnExactResync.mono : ∀ a0 a1 a2 a3 a4 a5 a6 a7 k, LeO (laws_FnExactResync.f k a0 a1 a2 a3 a4 a5 a6 a7) (laws_FnExactResync.f (k + 1) a0 a1 a2 a3 a4 a5 a6 a7) := by
 intro a0 a1 a2 a3 a4 a5 a6 a7 k
 unfold laws_FnExactResync.f
 repeat' first
   | (with_reducible exact impl_Resync.mono _ _ _ _ _ _ _ _ _)
   | (with_reducible exact spec_Resync.mono _ _ _ _ _ _ _ _ _)
   | (with_reducible exact LeO.refl _)
   | (with_reducible exact LeO.none _)
   | (with_reducible refine LeO.ite ?_ ?_)
   | (with_reducible refine LeO.bind ?_ (fun _ => ?_))
   | exact impl_Resync.mono _ _ _ _ _ _ _ _ _
   | exact spec_Resync.mono _ _ _ _ _ _ _ _ _
   | exact LeO.none _
   | refine LeO.ite ?_ ?_
   | refine LeO.bind ?_ (fun _ => ?_)
set_option maxHeartbeats 8000000 in
set_option maxRecDepth 100000 in
theorem laws_FnExactResync.calls (k : Nat) (a0_0 : Int) (a0_1 : Int) (a0_2 : Int) (a0_3 : Int) (a0_4 : Int) (a1 : ByteArray) (a2 : ByteArray) (a3 : Int) (r : Bool) (w : World) (h : laws_FnExactResync.f k a0_0 a0_1 a0_2 a0_3 a0_4 a1 a2 a3 = some r) (HTAB : Sh.TabH w := by exact Sh.tabH HTAB (by repeat (first | (with_reducible first | exact HB.out | exact HBW.out | apply eA | apply eN | apply eD | refine eS ?_ (Aside0.out ‹_›)) | exact HB.out))) :
  Calls Tryd.prog 5 #[.agg #[.int .i64 a0_0, .int .i64 a0_1, .int .i64 a0_2, .int .i64 a0_3, .int .i64 a0_4], .string a1, .string a2, .int .i64 a3] w fun e w' => e = .returned (.bool r) ∧ Below w.heap.size w w' := by
 have hu23 := Tryd.underlying23
 have hu25 := Tryd.underlying25
 have HB := aM (Below.refl w.heap.size w)
 have H : (if (a1.size : Int) > 1048576 then (some true) else (if (a2.size : Int) > 1048576 then (some true) else ((laws_toLock.f a0_0 a0_1 a0_2 a0_3 a0_4).bind fun bt162 => ((spec_Resync.f k bt162.1 bt162.2.1 bt162.2.2.1 bt162.2.2.2.1 bt162.2.2.2.2 a1 a2 a3).bind fun bt167 => ((laws_toLock.f a0_0 a0_1 a0_2 a0_3 a0_4).bind fun bt174 => ((impl_Resync.f k bt174.1 bt174.2.1 bt174.2.2.1 bt174.2.2.2.1 bt174.2.2.2.2 a1 a2 a3).bind fun bt179 => ((laws_eqLock.f bt179.1 bt179.2.1 bt179.2.2.1 bt179.2.2.2.1 bt179.2.2.2.2.1 bt167.1 bt167.2.1 bt167.2.2.1 bt167.2.2.2.1 bt167.2.2.2.2.1).bind fun t186 => (if t186 = true then (if bt179.2.2.2.2.2 = bt167.2.2.2.2.2 then (some true) else (none)) else (none))))))))) = some r := h
 clear h
 by_cases c5 : (a1.size : Int) > 1048576
 ·rw [if_pos c5] at H
  have c5b0 : decide (1048576 < (a1.size : Int)) = true := decide_eq_true c5
  have c5b1 : decide (1048576 < a1.size) = true := decide_eq_true (by omega)
  clear c5
  obtain rfl := Option.some.inj H
  go_enter Tryd.func5, Tryd.ntmps5
  go_wp2_with (first | ((with_reducible refine gate_dst (N := 4) rfl ?_); refine box_event ?hg (N := 4) ?hd (cs := #[.int .i64 a0_0, .int .i64 a0_1, .int .i64 a0_2, .int .i64 a0_3, .int .i64 a0_4]) (t := 23) ?hr ?_; (case hd => rfl); (case hg => rfl); (case hr => exact zg); intro gb161 hg w6 hbox hb; have n0_ := aM (below_step (zb) hb); have n1_ := aM (hbox); have n2_ := aM ((by rw [hg]; exact (below_size (zb)) : w.heap.size ≤ gb161)); have n3_ := aM ((by rw [hg]; exact (below_size (zb)) : w.heap.size ≤ gb161)); clear HB; have HB := n0_; have BK161 := n1_; have GW161 := n2_; have GE161 := n3_; clear n0_ n1_ n2_ n3_; clear hb hbox hg))
  go_ret
  exact ⟨zr, zb⟩
 ·rw [if_neg c5] at H
  have c5b0 : decide (1048576 < (a1.size : Int)) = false := decide_eq_false c5
  have c5b1 : decide (1048576 < a1.size) = false := decide_eq_false (by omega)
  clear c5
  by_cases c7 : (a2.size : Int) > 1048576
  ·rw [if_pos c7] at H
   have c7b0 : decide (1048576 < (a2.size : Int)) = true := decide_eq_true c7
   have c7b1 : decide (1048576 < a2.size) = true := decide_eq_true (by omega)
   clear c7
   obtain rfl := Option.some.inj H
   go_enter Tryd.func5, Tryd.ntmps5
   go_wp2_with (first | ((with_reducible refine gate_dst (N := 4) rfl ?_); refine box_event ?hg (N := 4) ?hd (cs := #[.int .i64 a0_0, .int .i64 a0_1, .int .i64 a0_2, .int .i64 a0_3, .int .i64 a0_4]) (t := 23) ?hr ?_; (case hd => rfl); (case hg => rfl); (case hr => exact zg); intro gb161 hg w8 hbox hb; have n0_ := aM (below_step (zb) hb); have n1_ := aM (hbox); have n2_ := aM ((by rw [hg]; exact (below_size (zb)) : w.heap.size ≤ gb161)); have n3_ := aM ((by rw [hg]; exact (below_size (zb)) : w.heap.size ≤ gb161)); clear HB; have HB := n0_; have BK161 := n1_; have GW161 := n2_; have GE161 := n3_; clear n0_ n1_ n2_ n3_; clear hb hbox hg))
   go_ret
   exact ⟨zr, zb⟩
  ·rw [if_neg c7] at H
   have c7b0 : decide (1048576 < (a2.size : Int)) = false := decide_eq_false c7
   have c7b1 : decide (1048576 < a2.size) = false := decide_eq_false (by omega)
   clear c7
   replace H := Option.bind_eq_some_iff.mp H
   obtain ⟨⟨t162, t163, t164, t165, t166⟩, A90, H⟩ := H
   replace H : ((spec_Resync.f k t162 t163 t164 t165 t166 a1 a2 a3).bind fun bt167 => ((laws_toLock.f a0_0 a0_1 a0_2 a0_3 a0_4).bind fun bt174 => ((impl_Resync.f k bt174.1 bt174.2.1 bt174.2.2.1 bt174.2.2.2.1 bt174.2.2.2.2 a1 a2 a3).bind fun bt179 => ((laws_eqLock.f bt179.1 bt179.2.1 bt179.2.2.1 bt179.2.2.2.1 bt179.2.2.2.2.1 bt167.1 bt167.2.1 bt167.2.2.1 bt167.2.2.2.1 bt167.2.2.2.2.1).bind fun t186 => (if t186 = true then (if bt179.2.2.2.2.2 = bt167.2.2.2.2.2 then (some true) else (none)) else (none)))))) = some r := H
   have A9 := aM A90
   clear A90
   replace H := Option.bind_eq_some_iff.mp H
   obtain ⟨⟨t167, t168, t169, t170, t171, t172⟩, A100, H⟩ := H
   replace H : ((laws_toLock.f a0_0 a0_1 a0_2 a0_3 a0_4).bind fun bt174 => ((impl_Resync.f k bt174.1 bt174.2.1 bt174.2.2.1 bt174.2.2.2.1 bt174.2.2.2.2 a1 a2 a3).bind fun bt179 => ((laws_eqLock.f bt179.1 bt179.2.1 bt179.2.2.1 bt179.2.2.2.1 bt179.2.2.2.2.1 t167 t168 t169 t170 t171).bind fun t186 => (if t186 = true then (if bt179.2.2.2.2.2 = t172 then (some true) else (none)) else (none))))) = some r := H
   have A10 := aM A100
   clear A100
   replace H := Option.bind_eq_some_iff.mp H
   obtain ⟨⟨t174, t175, t176, t177, t178⟩, A110, H⟩ := H
   replace H : ((impl_Resync.f k t174 t175 t176 t177 t178 a1 a2 a3).bind fun bt179 => ((laws_eqLock.f bt179.1 bt179.2.1 bt179.2.2.1 bt179.2.2.2.1 bt179.2.2.2.2.1 t167 t168 t169 t170 t171).bind fun t186 => (if t186 = true then (if bt179.2.2.2.2.2 = t172 then (some true) else (none)) else (none)))) = some r := H
   have A11 := aM A110
   clear A110
   replace H := Option.bind_eq_some_iff.mp H
   obtain ⟨⟨t179, t180, t181, t182, t183, t184⟩, A120, H⟩ := H
   replace H : ((laws_eqLock.f t179 t180 t181 t182 t183 t167 t168 t169 t170 t171).bind fun t186 => (if t186 = true then (if t184 = t172 then (some true) else (none)) else (none))) = some r := H
   have A12 := aM A120
   clear A120
   replace H := Option.bind_eq_some_iff.mp H
   obtain ⟨t186, A130, H⟩ := H
   replace H : (if t186 = true then (if t184 = t172 then (some true) else (none)) else (none)) = some r := H
   have A13 := aM A130
   clear A130
   by_cases c14 : t186 = true
   ·subst c14
    have H1 : (if t184 = t172 then (some true) else (none)) = some r := by rw [if_pos rfl] at H; exact H
    clear H
    have H := H1
    clear H1
    by_cases c15 : t184 = t172
    ·rw [if_pos c15] at H
     have c15b0 : (t184 == t172) = true := beq_iff_eq.mpr c15
     have c15b1 : (t184 != t172) = false := bne_eq_false_iff_eq.mpr c15
     clear c15
     obtain rfl := Option.some.inj H
     go_enter Tryd.func5, Tryd.ntmps5
     go_wp2_with (first | ((with_reducible refine gate_dst (N := 4) rfl ?_); refine box_event ?hg (N := 4) ?hd (cs := #[.int .i64 a0_0, .int .i64 a0_1, .int .i64 a0_2, .int .i64 a0_3, .int .i64 a0_4]) (t := 23) ?hr ?_; (case hd => rfl); (case hg => rfl); (case hr => exact zg); intro gb161 hg w16 hbox hb; have n0_ := aM (below_step (zb) hb); have n1_ := aM (hbox); have n2_ := aM ((by rw [hg]; exact (below_size (zb)) : w.heap.size ≤ gb161)); have n3_ := aM ((by rw [hg]; exact (below_size (zb)) : w.heap.size ≤ gb161)); clear HB; have HB := n0_; have BK161 := n1_; have GW161 := n2_; have GE161 := n3_; clear n0_ n1_ n2_ n3_; clear hb hbox hg; obtain ⟨hcz17_0, hcz17_1, hcz17_2, hcz17_3, hcz17_4, hfz17_0, hfz17_1, hfz17_2, hfz17_3, hfz17_4⟩ := cells5 BK161.out) | ((with_reducible refine gate_callee (f := 10) rfl ?_); refine goesL_ (some 21) rfl rfl Tryd.func10 (by kernel_rfl) rfl #[.agg #[.int .i64 a0_0, .int .i64 a0_1, .int .i64 a0_2, .int .i64 a0_3, .int .i64 a0_4]] rfl za ?_; (with_reducible refine (laws_toLock.calls a0_0 a0_1 a0_2 a0_3 a0_4 t162 t163 t164 t165 t166 _ A9.out).mono ?_); rintro e w18 ⟨rfl, hb⟩; refine ⟨_, rfl, ?_⟩; have n0_ := aM (bb BK161.out hb); have n1_ := aM (below_step (zb) hb); clear BK161; clear HB; have BK161 := n0_; have HB := n1_; clear n0_ n1_; (try clear hb); (try clear hb2); (try clear hk); (try clear hi)) | ((with_reducible refine gate_callee (f := 15) rfl ?_); refine goesL_ (some 25) rfl rfl Tryd.func15 (by kernel_rfl) rfl #[.agg #[.int .i64 t162, .int .i64 t163, .int .i64 t164, .int .i64 t165, .int .i64 t166], .string a1, .string a2, .int .i64 a3] rfl za ?_; (with_reducible refine (spec_Resync.calls k t162 t163 t164 t165 t166 a1 a2 a3 t167 t168 t169 t170 t171 t172 _ A10.out).mono ?_); rintro e w19 ⟨rfl, hb⟩; refine ⟨_, rfl, ?_⟩; have n0_ := aM (bb BK161.out hb); have n1_ := aM (below_step (zb) hb); clear BK161; clear HB; have BK161 := n0_; have HB := n1_; clear n0_ n1_; (try clear hb); (try clear hb2); (try clear hk); (try clear hi)) | ((with_reducible refine gate_dst (N := 9) rfl ?_); refine box_event ?hg (N := 9) ?hd (cs := #[.int .i64 0, .int .i64 0, .int .i64 0, .int .i64 0, .int .i64 0]) (t := 25) ?hr ?_; (case hd => rfl); (case hg => rfl); (case hr => exact zg); intro gb173 hg w20 hbox hb; have n0_ := aM (bb BK161.out hb); have n1_ := aM (below_step (zb) hb); have n2_ := aM (hbox); have n3_ := aM ((by rw [hg]; exact (below_size (zb)) : w.heap.size ≤ gb173)); have n4_ := aM ((by rw [hg]; exact (below_size (zb)) : w.heap.size ≤ gb173)); have n5_ := aM ((by rw [hg]; exact Nat.ne_of_lt (nl BK161.out) : gb161 ≠ gb173)); have n6_ := aM ((by rw [hg]; exact Nat.ne_of_gt (nl BK161.out) : gb173 ≠ gb161)); clear BK161; clear HB; have BK161 := n0_; have HB := n1_; have BK173 := n2_; have GW173 := n3_; have GE173 := n4_; have NB161_173 := n5_; have NB173_161 := n6_; clear n0_ n1_ n2_ n3_ n4_ n5_ n6_; clear hb hbox hg; have hnb21 := NB173_161.out; have hnc21 := NB161_173.out; obtain ⟨hcz22_0, hcz22_1, hcz22_2, hcz22_3, hcz22_4, hfz22_0, hfz22_1, hfz22_2, hfz22_3, hfz22_4⟩ := cells5 BK173.out; obtain ⟨hcz23_0, hcz23_1, hcz23_2, hcz23_3, hcz23_4, hfz23_0, hfz23_1, hfz23_2, hfz23_3, hfz23_4⟩ := cells5 BK161.out) | ((with_reducible refine gate_callee (f := 10) rfl ?_); refine goesL_ (some 30) rfl rfl Tryd.func10 (by kernel_rfl) rfl #[.agg #[.int .i64 a0_0, .int .i64 a0_1, .int .i64 a0_2, .int .i64 a0_3, .int .i64 a0_4]] rfl za ?_; (with_reducible refine (laws_toLock.calls a0_0 a0_1 a0_2 a0_3 a0_4 t174 t175 t176 t177 t178 _ A11.out).mono ?_); rintro e w24 ⟨rfl, hb⟩; refine ⟨_, rfl, ?_⟩; have n0_ := aM (blk_below (g := gb161) (o := .cells #[.int .i64 a0_0, .int .i64 a0_1, .int .i64 a0_2, .int .i64 a0_3, .int .i64 a0_4] 23 (0, 0)) (by refine pq ?_; refine blk_far ?_ NB161_173.out _; refine pq ?_; refine blk_far ?_ NB161_173.out _; refine pq ?_; refine blk_far ?_ NB161_173.out _; refine pq ?_; refine blk_far ?_ NB161_173.out _; refine pq ?_; refine blk_far ?_ NB161_173.out _; refine pq ?_; exact BK161.out) hb); have n1_ := aM (blk_below (g := gb173) (o := .cells #[.int .i64 t167, .int .i64 t168, .int .i64 t169, .int .i64 t170, .int .i64 t171] 25 (0, 0)) (by refine pq ?_; refine blk_put (cs := #[.int .i64 t167, .int .i64 t168, .int .i64 t169, .int .i64 t170, .int .i64 0]) ?_ 4 _ rfl; refine pq ?_; refine blk_put (cs := #[.int .i64 t167, .int .i64 t168, .int .i64 t169, .int .i64 0, .int .i64 0]) ?_ 3 _ rfl; refine pq ?_; refine blk_put (cs := #[.int .i64 t167, .int .i64 t168, .int .i64 0, .int .i64 0, .int .i64 0]) ?_ 2 _ rfl; refine pq ?_; refine blk_put (cs := #[.int .i64 t167, .int .i64 0, .int .i64 0, .int .i64 0, .int .i64 0]) ?_ 1 _ rfl; refine pq ?_; refine blk_put (cs := #[.int .i64 0, .int .i64 0, .int .i64 0, .int .i64 0, .int .i64 0]) ?_ 0 _ rfl; refine pq ?_; exact BK173.out) hb); have n2_ := aM (below_step (zb) hb); clear BK161; clear BK173; clear HB; have BK161 := n0_; have BK173 := n1_; have HB := n2_; clear n0_ n1_ n2_; (try clear hb); (try clear hb2); (try clear hk); (try clear hi)) | ((with_reducible refine gate_callee (f := 16) rfl ?_); refine goesL_ (some 34) rfl rfl Tryd.func16 (by kernel_rfl) rfl #[.agg #[.int .i64 t174, .int .i64 t175, .int .i64 t176, .int .i64 t177, .int .i64 t178], .string a1, .string a2, .int .i64 a3] rfl za ?_; (with_reducible refine (impl_Resync.calls k t174 t175 t176 t177 t178 a1 a2 a3 t179 t180 t181 t182 t183 t184 _ A12.out).mono ?_); rintro e w25 ⟨rfl, hb⟩; refine ⟨_, rfl, ?_⟩; have n0_ := aM (bb BK161.out hb); have n1_ := aM (bb BK173.out hb); have n2_ := aM (below_step (zb) hb); clear BK161; clear BK173; clear HB; have BK161 := n0_; have BK173 := n1_; have HB := n2_; clear n0_ n1_ n2_; (try clear hb); (try clear hb2); (try clear hk); (try clear hi)) | ((with_reducible refine gate_dst (N := 11) rfl ?_); refine box_event ?hg (N := 11) ?hd (cs := #[.int .i64 0, .int .i64 0, .int .i64 0, .int .i64 0, .int .i64 0]) (t := 25) ?hr ?_; (case hd => rfl); (case hg => rfl); (case hr => exact zg); intro gb185 hg w26 hbox hb; have n0_ := aM (bb BK161.out hb); have n1_ := aM (bb BK173.out hb); have n2_ := aM (below_step (zb) hb); have n3_ := aM (hbox); have n4_ := aM ((by rw [hg]; exact (below_size (zb)) : w.heap.size ≤ gb185)); have n5_ := aM ((by rw [hg]; exact (below_size (zb)) : w.heap.size ≤ gb185)); have n6_ := aM ((by rw [hg]; exact Nat.ne_of_lt (nl BK161.out) : gb161 ≠ gb185)); have n7_ := aM ((by rw [hg]; exact Nat.ne_of_gt (nl BK161.out) : gb185 ≠ gb161)); have n8_ := aM ((by rw [hg]; exact Nat.ne_of_lt (nl BK173.out) : gb173 ≠ gb185)); have n9_ := aM ((by rw [hg]; exact Nat.ne_of_gt (nl BK173.out) : gb185 ≠ gb173)); clear BK161; clear BK173; clear HB; have BK161 := n0_; have BK173 := n1_; have HB := n2_; have BK185 := n3_; have GW185 := n4_; have GE185 := n5_; have NB161_185 := n6_; have NB185_161 := n7_; have NB173_185 := n8_; have NB185_173 := n9_; clear n0_ n1_ n2_ n3_ n4_ n5_ n6_ n7_ n8_ n9_; clear hb hbox hg; have hnb27 := NB185_161.out; have hnc27 := NB161_185.out; have hnb28 := NB185_173.out; have hnc28 := NB173_185.out; obtain ⟨hcz29_0, hcz29_1, hcz29_2, hcz29_3, hcz29_4, hfz29_0, hfz29_1, hfz29_2, hfz29_3, hfz29_4⟩ := cells5 BK185.out; obtain ⟨hcz30_0, hcz30_1, hcz30_2, hcz30_3, hcz30_4, hfz30_0, hfz30_1, hfz30_2, hfz30_3, hfz30_4⟩ := cells5 BK173.out) | ((with_reducible refine gate_callee (f := 14) rfl ?_); refine goesL_ (some 39) rfl rfl Tryd.func14 (by kernel_rfl) rfl #[.agg #[.int .i64 t179, .int .i64 t180, .int .i64 t181, .int .i64 t182, .int .i64 t183], .agg #[.int .i64 t167, .int .i64 t168, .int .i64 t169, .int .i64 t170, .int .i64 t171]] rfl za ?_; (with_reducible refine (laws_eqLock.calls t179 t180 t181 t182 t183 t167 t168 t169 t170 t171 true _ A13.out).mono ?_); rintro e w31 ⟨rfl, hb⟩; refine ⟨_, rfl, ?_⟩; have n0_ := aM (blk_below (g := gb161) (o := .cells #[.int .i64 a0_0, .int .i64 a0_1, .int .i64 a0_2, .int .i64 a0_3, .int .i64 a0_4] 23 (0, 0)) (by refine pq ?_; refine blk_far ?_ NB161_185.out _; refine pq ?_; refine blk_far ?_ NB161_185.out _; refine pq ?_; refine blk_far ?_ NB161_185.out _; refine pq ?_; refine blk_far ?_ NB161_185.out _; refine pq ?_; refine blk_far ?_ NB161_185.out _; refine pq ?_; exact BK161.out) hb); have n1_ := aM (blk_below (g := gb173) (o := .cells #[.int .i64 t167, .int .i64 t168, .int .i64 t169, .int .i64 t170, .int .i64 t171] 25 (0, 0)) (by refine pq ?_; refine blk_far ?_ NB173_185.out _; refine pq ?_; refine blk_far ?_ NB173_185.out _; refine pq ?_; refine blk_far ?_ NB173_185.out _; refine pq ?_; refine blk_far ?_ NB173_185.out _; refine pq ?_; refine blk_far ?_ NB173_185.out _; refine pq ?_; exact BK173.out) hb); have n2_ := aM (blk_below (g := gb185) (o := .cells #[.int .i64 t179, .int .i64 t180, .int .i64 t181, .int .i64 t182, .int .i64 t183] 25 (0, 0)) (by refine pq ?_; refine blk_put (cs := #[.int .i64 t179, .int .i64 t180, .int .i64 t181, .int .i64 t182, .int .i64 0]) ?_ 4 _ rfl; refine pq ?_; refine blk_put (cs := #[.int .i64 t179, .int .i64 t180, .int .i64 t181, .int .i64 0, .int .i64 0]) ?_ 3 _ rfl; refine pq ?_; refine blk_put (cs := #[.int .i64 t179, .int .i64 t180, .int .i64 0, .int .i64 0, .int .i64 0]) ?_ 2 _ rfl; refine pq ?_; refine blk_put (cs := #[.int .i64 t179, .int .i64 0, .int .i64 0, .int .i64 0, .int .i64 0]) ?_ 1 _ rfl; refine pq ?_; refine blk_put (cs := #[.int .i64 0, .int .i64 0, .int .i64 0, .int .i64 0, .int .i64 0]) ?_ 0 _ rfl; refine pq ?_; exact BK185.out) hb); have n3_ := aM (below_step (zb) hb); clear BK161; clear BK173; clear BK185; clear HB; have BK161 := n0_; have BK173 := n1_; have BK185 := n2_; have HB := n3_; clear n0_ n1_ n2_ n3_; (try clear hb); (try clear hb2); (try clear hk); (try clear hi)))
     go_ret
     exact ⟨zr, zb⟩
    ·rw [if_neg c15] at H
     exact absurd H (by simp)
   ·replace c14 := Bool.eq_false_iff.mpr c14
    subst c14
    have H1 : (none) = some r := by rw [if_neg (show ¬ (false = true) by decide)] at H; exact H
    clear H
    have H := H1
    clear H1
    exact absurd H (by simp)

end Go.Proofs.YtdhinnolfpacgaaDoor.QFnExactResync
