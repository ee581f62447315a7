-- Printed functions and their walks: by print.py, turned by wip/tools/myprint.py.
import Derived.Test.YtglpkjcblpjnoabQFnVerdictsx0
import Derived.Test.YtglpkjcblpjnoabQFnVerdictsx2
import Derived.Test.YtglpkjcblpjnoabQFnVerdictsx3
namespace Go.Proofs.Ytglpkjcblpjnoab.QFnVerdicts
open Go.RowKit Go.Proofs.YtglpkjcblpjnoabW.PrintWords Go.Proofs.YtglpkjcblpjnoabW.PrintLast Go.Proofs.YtglpkjcblpjnoabW.PrintMore
attribute [local go_sem] max2_int min2_int max_two min_two max_three min_three max_four min_four   -- for this text's walks alone
set_option linter.unusedVariables false
set_option linter.unusedSimpArgs false

/-! ### impl_Recover: function 25 -/
def impl_Recover.j0 : Nat → Bool → Int → Int → Bool → Bool → Bool → Bool → Bool → Bool → Bool → Option (Int × Int × Bool × Bool × Bool × Int × Bool)
 | 0, _, _, _, _, _, _, _, _, _, _ => none
 | k + 1, x27, x136000, x136001, x136002, x136003, x136004, x144000, x144001, x144002, x144003 => if x27 = true then (some (x136000, x136001, x136002, x136003, x136004, 0, false)) else ((impl_Verdict.f k x136000 x144000 x144001 x144002 x144003).bind fun t146 => (if t146 = 3 then (some (0, x136001, false, x136003, x136004, t146, true)) else (if t146 = 4 then (some (0, x136001, false, x136003, x136004, t146, true)) else (some (x136000, x136001, x136002, x136003, x136004, t146, true)))))
def impl_Recover.f (k : Nat) (a0_0 : Int) (a0_1 : Int) (a0_2 : Bool) (a0_3 : Bool) (a0_4 : Bool) (a1_0 : Int) (a1_1 : Int) (a1_2 : Int) (a1_3 : Int) : Option (Int × Int × Bool × Bool × Bool × Int × Bool) := (impl_SignsOf.f k a0_0 a0_1 a0_2 a0_3 a0_4 a1_0 a1_1 a1_2 a1_3).bind fun bt138 => (if bt138.2.2.2.2 = true then ((impl_isCut.f k a0_0 a0_1 a0_2 a0_3 a0_4).bind fun t144 => (if t144 = true then ((impl_CountFaults.f k a1_0 a1_1 a1_2 a1_3).bind fun t145 => (impl_Recover.j0 k (decide (t145 > 1)) a0_0 a0_1 a0_2 a0_3 a0_4 bt138.1 bt138.2.1 bt138.2.2.1 bt138.2.2.2.1)) else (impl_Recover.j0 k true a0_0 a0_1 a0_2 a0_3 a0_4 bt138.1 bt138.2.1 bt138.2.2.1 bt138.2.2.2.1))) else (impl_Recover.j0 k true a0_0 a0_1 a0_2 a0_3 a0_4 bt138.1 bt138.2.1 bt138.2.2.1 bt138.2.2.2.1))
theorem impl_Recover.mono_l : ∀ k, (∀ y0 y1 y2 y3 y4 y5 y6 y7 y8 y9, LeO (impl_Recover.j0 k y0 y1 y2 y3 y4 y5 y6 y7 y8 y9) (impl_Recover.j0 (k + 1) y0 y1 y2 y3 y4 y5 y6 y7 y8 y9))
 | 0 => fun _ _ _ _ _ _ _ _ _ _ r h => by simp [impl_Recover.j0] at h
 | k + 1 => by
  have ih0 := impl_Recover.mono_l k
  ·intro y0 y1 y2 y3 y4 y5 y6 y7 y8 y9
   unfold impl_Recover.j0
   repeat' first
   | (with_reducible exact ih0 _ _ _ _ _ _ _ _ _ _)
   | (with_reducible exact impl_CountFaults.mono _ _ _ _ _)
   | (with_reducible exact impl_SignsOf.mono _ _ _ _ _ _ _ _ _ _)
   | (with_reducible exact impl_Verdict.mono _ _ _ _ _ _)
   | (with_reducible exact impl_isCut.mono _ _ _ _ _ _)
   | (with_reducible exact LeO.refl _)
   | (with_reducible exact LeO.none _)
   | (with_reducible refine LeO.ite ?_ ?_)
   | (with_reducible refine LeO.bind ?_ (fun _ => ?_))
   | exact ih0 _ _ _ _ _ _ _ _ _ _
   | exact impl_CountFaults.mono _ _ _ _ _
   | exact impl_SignsOf.mono _ _ _ _ _ _ _ _ _ _
   | exact impl_Verdict.mono _ _ _ _ _ _
   | exact impl_isCut.mono _ _ _ _ _ _
   | exact LeO.none _
   | refine LeO.ite ?_ ?_
   | refine LeO.bind ?_ (fun _ => ?_)
theorem impl_Recover.mono : ∀ a0 a1 a2 a3 a4 a5 a6 a7 a8 k, LeO (impl_Recover.f k a0 a1 a2 a3 a4 a5 a6 a7 a8) (impl_Recover.f (k + 1) a0 a1 a2 a3 a4 a5 a6 a7 a8) := by
 intro a0 a1 a2 a3 a4 a5 a6 a7 a8 k
 have ih0 := impl_Recover.mono_l k
 unfold impl_Recover.f
 repeat' first
   | (with_reducible exact ih0 _ _ _ _ _ _ _ _ _ _)
   | (with_reducible exact impl_CountFaults.mono _ _ _ _ _)
   | (with_reducible exact impl_SignsOf.mono _ _ _ _ _ _ _ _ _ _)
   | (with_reducible exact impl_Verdict.mono _ _ _ _ _ _)
   | (with_reducible exact impl_isCut.mono _ _ _ _ _ _)
   | (with_reducible exact LeO.refl _)
   | (with_reducible exact LeO.none _)
   | (with_reducible refine LeO.ite ?_ ?_)
   | (with_reducible refine LeO.bind ?_ (fun _ => ?_))
   | exact ih0 _ _ _ _ _ _ _ _ _ _
   | exact impl_CountFaults.mono _ _ _ _ _
   | exact impl_SignsOf.mono _ _ _ _ _ _ _ _ _ _
   | exact impl_Verdict.mono _ _ _ _ _ _
   | exact impl_isCut.mono _ _ _ _ _ _
   | exact LeO.none _
   | refine LeO.ite ?_ ?_
   | refine LeO.bind ?_ (fun _ => ?_)
set_option maxHeartbeats 8000000 in
set_option maxRecDepth 100000 in
theorem impl_Recover.calls (k : Nat) (a0_0 : Int) (a0_1 : Int) (a0_2 : Bool) (a0_3 : Bool) (a0_4 : Bool) (a1_0 : Int) (a1_1 : Int) (a1_2 : Int) (a1_3 : Int) (r1 : Int) (r2 : Int) (r3 : Bool) (r4 : Bool) (r5 : Bool) (r6 : Int) (r7 : Bool) (w : World) (h : impl_Recover.f k a0_0 a0_1 a0_2 a0_3 a0_4 a1_0 a1_1 a1_2 a1_3 = some (r1, r2, r3, r4, r5, r6, r7)) :
  Calls Try.prog 25 #[.agg #[.int .i64 a0_0, .int .i64 a0_1, .bool a0_2, .bool a0_3, .bool a0_4], .agg #[.int .i64 a1_0, .int .i64 a1_1, .int .i64 a1_2, .int .i64 a1_3]] w fun e w' => e = .returned (.tuple #[.agg #[.int .i64 r1, .int .i64 r2, .bool r3, .bool r4, .bool r5], .int .i64 r6, .bool r7]) ∧ Below w.heap.size w w' := by
 have hu24 := Try.underlying24
 have hu37 := Try.underlying37
 have hu50 := Try.underlying50
 have HB := aM (Below.refl w.heap.size w)
 have H : ((impl_SignsOf.f k a0_0 a0_1 a0_2 a0_3 a0_4 a1_0 a1_1 a1_2 a1_3).bind fun bt138 => (if bt138.2.2.2.2 = true then ((impl_isCut.f k a0_0 a0_1 a0_2 a0_3 a0_4).bind fun t144 => (if t144 = true then ((impl_CountFaults.f k a1_0 a1_1 a1_2 a1_3).bind fun t145 => (impl_Recover.j0 k (decide (t145 > 1)) a0_0 a0_1 a0_2 a0_3 a0_4 bt138.1 bt138.2.1 bt138.2.2.1 bt138.2.2.2.1)) else (impl_Recover.j0 k true a0_0 a0_1 a0_2 a0_3 a0_4 bt138.1 bt138.2.1 bt138.2.2.1 bt138.2.2.2.1))) else (impl_Recover.j0 k true a0_0 a0_1 a0_2 a0_3 a0_4 bt138.1 bt138.2.1 bt138.2.2.1 bt138.2.2.2.1))) = some (r1, r2, r3, r4, r5, r6, r7) := h
 clear h
 replace H := Option.bind_eq_some_iff.mp H
 obtain ⟨⟨t138, t139, t140, t141, t142⟩, A30, H⟩ := H
 replace H : (if t142 = true then ((impl_isCut.f k a0_0 a0_1 a0_2 a0_3 a0_4).bind fun t144 => (if t144 = true then ((impl_CountFaults.f k a1_0 a1_1 a1_2 a1_3).bind fun t145 => (impl_Recover.j0 k (decide (t145 > 1)) a0_0 a0_1 a0_2 a0_3 a0_4 t138 t139 t140 t141)) else (impl_Recover.j0 k true a0_0 a0_1 a0_2 a0_3 a0_4 t138 t139 t140 t141))) else (impl_Recover.j0 k true a0_0 a0_1 a0_2 a0_3 a0_4 t138 t139 t140 t141)) = some (r1, r2, r3, r4, r5, r6, r7) := H
 have A3 := aM A30
 clear A30
 have HC4 := aM H
 clear H
 go_enter Try.func25, Try.ntmps25
 go_upto_region 2 with (first | ((with_reducible refine gate_dst (N := 2) rfl ?_); refine box_event ?hg (N := 2) ?hd (cs := #[.int .i64 a0_0, .int .i64 a0_1, .bool a0_2, .bool a0_3, .bool a0_4]) (t := 24) ?hr ?_; (case hd => rfl); (case hg => rfl); (case hr => exact zg); intro gb135 hg w5 hbox hb; have n0_ := aM (below_step (zb) hb); have n1_ := aM (hbox); have n2_ := aM ((by rw [hg]; exact (below_size (zb)) : w.heap.size ≤ gb135)); have n3_ := aM ((by rw [hg]; exact (below_size (zb)) : w.heap.size ≤ gb135)); clear HB; have HB := n0_; have BK135 := n1_; have GW135 := n2_; have GE135 := n3_; clear n0_ n1_ n2_ n3_; clear hb hbox hg) | ((with_reducible refine gate_dst (N := 3) rfl ?_); refine box_event ?hg (N := 3) ?hd (cs := #[.int .i64 a1_0, .int .i64 a1_1, .int .i64 a1_2, .int .i64 a1_3]) (t := 37) ?hr ?_; (case hd => rfl); (case hg => rfl); (case hr => exact zg); intro gb136 hg w6 hbox hb; have n0_ := aM (bb BK135.out hb); have n1_ := aM (below_step (zb) hb); have n2_ := aM (hbox); have n3_ := aM ((by rw [hg]; exact (below_size (zb)) : w.heap.size ≤ gb136)); have n4_ := aM ((by rw [hg]; exact (below_size (zb)) : w.heap.size ≤ gb136)); have n5_ := aM ((by rw [hg]; exact Nat.ne_of_lt (nl BK135.out) : gb135 ≠ gb136)); have n6_ := aM ((by rw [hg]; exact Nat.ne_of_gt (nl BK135.out) : gb136 ≠ gb135)); clear BK135; clear HB; have BK135 := n0_; have HB := n1_; have BK136 := n2_; have GW136 := n3_; have GE136 := n4_; have NB135_136 := n5_; have NB136_135 := n6_; clear n0_ n1_ n2_ n3_ n4_ n5_ n6_; clear hb hbox hg) | ((with_reducible refine gate_dst (N := 4) rfl ?_); refine box_event ?hg (N := 4) ?hd (cs := #[.int .i64 0, .int .i64 0, .bool false, .bool false, .bool false]) (t := 24) ?hr ?_; (case hd => rfl); (case hg => rfl); (case hr => exact zg); intro gb137 hg w7 hbox hb; have n0_ := aM (bb BK135.out hb); have n1_ := aM (bb BK136.out hb); have n2_ := aM (below_step (zb) hb); have n3_ := aM (hbox); have n4_ := aM ((by rw [hg]; exact (below_size (zb)) : w.heap.size ≤ gb137)); have n5_ := aM ((by rw [hg]; exact (below_size (zb)) : w.heap.size ≤ gb137)); have n6_ := aM ((by rw [hg]; exact Nat.ne_of_lt (nl BK135.out) : gb135 ≠ gb137)); have n7_ := aM ((by rw [hg]; exact Nat.ne_of_gt (nl BK135.out) : gb137 ≠ gb135)); have n8_ := aM ((by rw [hg]; exact Nat.ne_of_lt (nl BK136.out) : gb136 ≠ gb137)); have n9_ := aM ((by rw [hg]; exact Nat.ne_of_gt (nl BK136.out) : gb137 ≠ gb136)); clear BK135; clear BK136; clear HB; have BK135 := n0_; have BK136 := n1_; have HB := n2_; have BK137 := n3_; have GW137 := n4_; have GE137 := n5_; have NB135_137 := n6_; have NB137_135 := n7_; have NB136_137 := n8_; have NB137_136 := n9_; clear n0_ n1_ n2_ n3_ n4_ n5_ n6_ n7_ n8_ n9_; clear hb hbox hg; have hnb8 := NB135_136.out; have hnc8 := NB136_135.out; have hnb9 := NB135_137.out; have hnc9 := NB137_135.out; obtain ⟨hcz10_0, hcz10_1, hcz10_2, hcz10_3, hcz10_4, hfz10_0, hfz10_1, hfz10_2, hfz10_3, hfz10_4⟩ := cells5 BK135.out; have hnb11 := NB136_137.out; have hnc11 := NB137_136.out; obtain ⟨hcz12_0, hcz12_1, hcz12_2, hcz12_3, hfz12_0, hfz12_1, hfz12_2, hfz12_3⟩ := cells4 BK136.out) | ((with_reducible refine gate_callee (f := 36) rfl ?_); refine goesL_ (some 13) rfl rfl Try.func36 (by kernel_rfl) rfl #[.agg #[.int .i64 a0_0, .int .i64 a0_1, .bool a0_2, .bool a0_3, .bool a0_4], .agg #[.int .i64 a1_0, .int .i64 a1_1, .int .i64 a1_2, .int .i64 a1_3]] rfl za ?_; (with_reducible refine (impl_SignsOf.calls k a0_0 a0_1 a0_2 a0_3 a0_4 a1_0 a1_1 a1_2 a1_3 t138 t139 t140 t141 t142 _ A3.out).mono ?_); rintro e w13 ⟨rfl, hb⟩; refine ⟨_, rfl, ?_⟩; have n0_ := aM (bb BK135.out hb); have n1_ := aM (bb BK136.out hb); have n2_ := aM (bb BK137.out hb); have n3_ := aM (below_step (zb) hb); clear BK135; clear BK136; clear BK137; clear HB; have BK135 := n0_; have BK136 := n1_; have BK137 := n2_; have HB := n3_; clear n0_ n1_ n2_ n3_; (try clear hb); (try clear hb2); (try clear hk); (try clear hi)) | ((with_reducible refine gate_dst (N := 7) rfl ?_); refine box_event ?hg (N := 7) ?hd (cs := #[.bool false, .bool false, .bool false, .bool false]) (t := 50) ?hr ?_; (case hd => rfl); (case hg => rfl); (case hr => exact zg); intro gb143 hg w14 hbox hb; have n0_ := aM (bb BK135.out hb); have n1_ := aM (bb BK136.out hb); have n2_ := aM (bb BK137.out hb); have n3_ := aM (below_step (zb) hb); have n4_ := aM (hbox); have n5_ := aM ((by rw [hg]; exact (below_size (zb)) : w.heap.size ≤ gb143)); have n6_ := aM ((by rw [hg]; exact (below_size (zb)) : w.heap.size ≤ gb143)); have n7_ := aM ((by rw [hg]; exact Nat.ne_of_lt (nl BK135.out) : gb135 ≠ gb143)); have n8_ := aM ((by rw [hg]; exact Nat.ne_of_gt (nl BK135.out) : gb143 ≠ gb135)); have n9_ := aM ((by rw [hg]; exact Nat.ne_of_lt (nl BK136.out) : gb136 ≠ gb143)); have n10_ := aM ((by rw [hg]; exact Nat.ne_of_gt (nl BK136.out) : gb143 ≠ gb136)); have n11_ := aM ((by rw [hg]; exact Nat.ne_of_lt (nl BK137.out) : gb137 ≠ gb143)); have n12_ := aM ((by rw [hg]; exact Nat.ne_of_gt (nl BK137.out) : gb143 ≠ gb137)); clear BK135; clear BK136; clear BK137; clear HB; have BK135 := n0_; have BK136 := n1_; have BK137 := n2_; have HB := n3_; have BK143 := n4_; have GW143 := n5_; have GE143 := n6_; have NB135_143 := n7_; have NB143_135 := n8_; have NB136_143 := n9_; have NB143_136 := n10_; have NB137_143 := n11_; have NB143_137 := n12_; clear n0_ n1_ n2_ n3_ n4_ n5_ n6_ n7_ n8_ n9_ n10_ n11_ n12_; clear hb hbox hg; have hnb15 := NB143_135.out; have hnc15 := NB135_143.out; have hnb16 := NB143_136.out; have hnc16 := NB136_143.out; have hnb17 := NB143_137.out; have hnc17 := NB137_143.out; obtain ⟨hcz18_0, hcz18_1, hcz18_2, hcz18_3, hfz18_0, hfz18_1, hfz18_2, hfz18_3⟩ := cells4 BK143.out))
 (try simp only [Act.put, List.setIfInBounds_toArray, List.set_cons_zero, List.set_cons_succ])
 go_cut [27] (fun v27 wc => ∃ (kq : Nat) (x27_3 : Bool), v27 = .bool x27_3 ∧ Aside0 (impl_Recover.j0 kq x27_3 a0_0 a0_1 a0_2 a0_3 a0_4 t138 t139 t140 t141 = some (r1, r2, r3, r4, r5, r6, r7)) ∧ Aside0 (kq ≤ k) ∧ Aside0 (wc.heap[gb135]? = some (.cells #[.int .i64 a0_0, .int .i64 a0_1, .bool a0_2, .bool a0_3, .bool a0_4] 24 (0, 0))) ∧ Aside0 (wc.heap[gb136]? = some (.cells #[.int .i64 a1_0, .int .i64 a1_1, .int .i64 a1_2, .int .i64 a1_3] 37 (0, 0))) ∧ Aside0 (wc.heap[gb137]? = some (.cells #[.int .i64 0, .int .i64 0, .bool false, .bool false, .bool false] 24 (0, 0))) ∧ Aside0 (wc.heap[gb143]? = some (.cells #[.bool t138, .bool t139, .bool t140, .bool t141] 50 (0, 0))) ∧ Aside0 (Below w.heap.size w wc))
 case first =>
  have H := HC4.out
  clear HC4
  by_cases c19 : t142 = true
  ·subst c19
   have H1 : ((impl_isCut.f k a0_0 a0_1 a0_2 a0_3 a0_4).bind fun t144 => (if t144 = true then ((impl_CountFaults.f k a1_0 a1_1 a1_2 a1_3).bind fun t145 => (impl_Recover.j0 k (decide (t145 > 1)) a0_0 a0_1 a0_2 a0_3 a0_4 t138 t139 t140 t141)) else (impl_Recover.j0 k true a0_0 a0_1 a0_2 a0_3 a0_4 t138 t139 t140 t141))) = some (r1, r2, r3, r4, r5, r6, r7) := by rw [if_pos rfl] at H; exact H
   clear H
   have H := H1
   clear H1
   replace H := Option.bind_eq_some_iff.mp H
   obtain ⟨t144, A200, H⟩ := H
   replace H : (if t144 = true then ((impl_CountFaults.f k a1_0 a1_1 a1_2 a1_3).bind fun t145 => (impl_Recover.j0 k (decide (t145 > 1)) a0_0 a0_1 a0_2 a0_3 a0_4 t138 t139 t140 t141)) else (impl_Recover.j0 k true a0_0 a0_1 a0_2 a0_3 a0_4 t138 t139 t140 t141)) = some (r1, r2, r3, r4, r5, r6, r7) := H
   have A20 := aM A200
   clear A200
   by_cases c21 : t144 = true
   ·subst c21
    have H1 : ((impl_CountFaults.f k a1_0 a1_1 a1_2 a1_3).bind fun t145 => (impl_Recover.j0 k (decide (t145 > 1)) a0_0 a0_1 a0_2 a0_3 a0_4 t138 t139 t140 t141)) = some (r1, r2, r3, r4, r5, r6, r7) := by rw [if_pos rfl] at H; exact H
    clear H
    have H := H1
    clear H1
    replace H := Option.bind_eq_some_iff.mp H
    obtain ⟨t145, A220, H⟩ := H
    replace H : (impl_Recover.j0 k (decide (t145 > 1)) a0_0 a0_1 a0_2 a0_3 a0_4 t138 t139 t140 t141) = some (r1, r2, r3, r4, r5, r6, r7) := H
    have A22 := aM A220
    clear A220
    have H' := aM H
    clear H
    have hnb23 := NB135_136.out
    have hnc23 := NB136_135.out
    have hnb24 := NB135_137.out
    have hnc24 := NB137_135.out
    have hnb25 := NB135_143.out
    have hnc25 := NB143_135.out
    obtain ⟨hcz26_0, hcz26_1, hcz26_2, hcz26_3, hcz26_4, hfz26_0, hfz26_1, hfz26_2, hfz26_3, hfz26_4⟩ := cells5 BK135.out
    go_wp2_with (first | (go_at_call 54; (with_reducible refine (impl_isCut.calls k a0_0 a0_1 a0_2 a0_3 a0_4 true _ A20.out).mono ?_); rintro e w27 ⟨rfl, hb⟩; have n0_ := aM (blk_below (g := gb135) (o := .cells #[.int .i64 a0_0, .int .i64 a0_1, .bool a0_2, .bool a0_3, .bool a0_4] 24 (0, 0)) (by refine pq ?_; refine blk_far ?_ NB135_143.out _; refine pq ?_; refine blk_far ?_ NB135_143.out _; refine pq ?_; refine blk_far ?_ NB135_143.out _; refine pq ?_; refine blk_far ?_ NB135_143.out _; refine pq ?_; exact BK135.out) hb); have n1_ := aM (blk_below (g := gb136) (o := .cells #[.int .i64 a1_0, .int .i64 a1_1, .int .i64 a1_2, .int .i64 a1_3] 37 (0, 0)) (by refine pq ?_; refine blk_far ?_ NB136_143.out _; refine pq ?_; refine blk_far ?_ NB136_143.out _; refine pq ?_; refine blk_far ?_ NB136_143.out _; refine pq ?_; refine blk_far ?_ NB136_143.out _; refine pq ?_; exact BK136.out) hb); have n2_ := aM (blk_below (g := gb137) (o := .cells #[.int .i64 0, .int .i64 0, .bool false, .bool false, .bool false] 24 (0, 0)) (by refine pq ?_; refine blk_far ?_ NB137_143.out _; refine pq ?_; refine blk_far ?_ NB137_143.out _; refine pq ?_; refine blk_far ?_ NB137_143.out _; refine pq ?_; refine blk_far ?_ NB137_143.out _; refine pq ?_; exact BK137.out) hb); have n3_ := aM (blk_below (g := gb143) (o := .cells #[.bool t138, .bool t139, .bool t140, .bool t141] 50 (0, 0)) (by refine pq ?_; refine blk_put (cs := #[.bool t138, .bool t139, .bool t140, .bool false]) ?_ 3 _ rfl; refine pq ?_; refine blk_put (cs := #[.bool t138, .bool t139, .bool false, .bool false]) ?_ 2 _ rfl; refine pq ?_; refine blk_put (cs := #[.bool t138, .bool false, .bool false, .bool false]) ?_ 1 _ rfl; refine pq ?_; refine blk_put (cs := #[.bool false, .bool false, .bool false, .bool false]) ?_ 0 _ rfl; refine pq ?_; exact BK143.out) hb); have n4_ := aM (below_step (zb) hb); clear BK135; clear BK136; clear BK137; clear BK143; clear HB; have BK135 := n0_; have BK136 := n1_; have BK137 := n2_; have BK143 := n3_; have HB := n4_; clear n0_ n1_ n2_ n3_ n4_; (try clear hb); (try clear hb2); (try clear hk); (try clear hi); have hnb28 := NB136_137.out; have hnc28 := NB137_136.out; have hnb29 := NB136_143.out; have hnc29 := NB143_136.out; obtain ⟨hcz30_0, hcz30_1, hcz30_2, hcz30_3, hfz30_0, hfz30_1, hfz30_2, hfz30_3⟩ := cells4 BK136.out) | (go_at_call 38; (with_reducible refine (impl_CountFaults.calls k a1_0 a1_1 a1_2 a1_3 t145 _ A22.out).mono ?_); rintro e w31 ⟨rfl, hb⟩; have n0_ := aM (bb BK135.out hb); have n1_ := aM (bb BK136.out hb); have n2_ := aM (bb BK137.out hb); have n3_ := aM (bb BK143.out hb); have n4_ := aM (below_step (zb) hb); clear BK135; clear BK136; clear BK137; clear BK143; clear HB; have BK135 := n0_; have BK136 := n1_; have BK137 := n2_; have BK143 := n3_; have HB := n4_; clear n0_ n1_ n2_ n3_ n4_; (try clear hb); (try clear hb2); (try clear hk); (try clear hi)))
    go_meet
    case rel => exact ⟨_, (decide (t145 > 1)), zs, H', ⟨by first | omega | exact Nat.le_refl _⟩, ⟨by exact pk BK135.out⟩, ⟨by exact pk BK136.out⟩, ⟨by exact pk BK137.out⟩, ⟨by exact pk BK143.out⟩, ⟨zb⟩⟩
   ·replace c21 := Bool.eq_false_iff.mpr c21
    subst c21
    have H1 : (impl_Recover.j0 k true a0_0 a0_1 a0_2 a0_3 a0_4 t138 t139 t140 t141) = some (r1, r2, r3, r4, r5, r6, r7) := by rw [if_neg (show ¬ (false = true) by decide)] at H; exact H
    clear H
    have H := H1
    clear H1
    have H' := aM H
    clear H
    have hnb32 := NB135_136.out
    have hnc32 := NB136_135.out
    have hnb33 := NB135_137.out
    have hnc33 := NB137_135.out
    have hnb34 := NB135_143.out
    have hnc34 := NB143_135.out
    obtain ⟨hcz35_0, hcz35_1, hcz35_2, hcz35_3, hcz35_4, hfz35_0, hfz35_1, hfz35_2, hfz35_3, hfz35_4⟩ := cells5 BK135.out
    go_wp2_with (first | (go_at_call 54; (with_reducible refine (impl_isCut.calls k a0_0 a0_1 a0_2 a0_3 a0_4 false _ A20.out).mono ?_); rintro e w36 ⟨rfl, hb⟩; have n0_ := aM (blk_below (g := gb135) (o := .cells #[.int .i64 a0_0, .int .i64 a0_1, .bool a0_2, .bool a0_3, .bool a0_4] 24 (0, 0)) (by refine pq ?_; refine blk_far ?_ NB135_143.out _; refine pq ?_; refine blk_far ?_ NB135_143.out _; refine pq ?_; refine blk_far ?_ NB135_143.out _; refine pq ?_; refine blk_far ?_ NB135_143.out _; refine pq ?_; exact BK135.out) hb); have n1_ := aM (blk_below (g := gb136) (o := .cells #[.int .i64 a1_0, .int .i64 a1_1, .int .i64 a1_2, .int .i64 a1_3] 37 (0, 0)) (by refine pq ?_; refine blk_far ?_ NB136_143.out _; refine pq ?_; refine blk_far ?_ NB136_143.out _; refine pq ?_; refine blk_far ?_ NB136_143.out _; refine pq ?_; refine blk_far ?_ NB136_143.out _; refine pq ?_; exact BK136.out) hb); have n2_ := aM (blk_below (g := gb137) (o := .cells #[.int .i64 0, .int .i64 0, .bool false, .bool false, .bool false] 24 (0, 0)) (by refine pq ?_; refine blk_far ?_ NB137_143.out _; refine pq ?_; refine blk_far ?_ NB137_143.out _; refine pq ?_; refine blk_far ?_ NB137_143.out _; refine pq ?_; refine blk_far ?_ NB137_143.out _; refine pq ?_; exact BK137.out) hb); have n3_ := aM (blk_below (g := gb143) (o := .cells #[.bool t138, .bool t139, .bool t140, .bool t141] 50 (0, 0)) (by refine pq ?_; refine blk_put (cs := #[.bool t138, .bool t139, .bool t140, .bool false]) ?_ 3 _ rfl; refine pq ?_; refine blk_put (cs := #[.bool t138, .bool t139, .bool false, .bool false]) ?_ 2 _ rfl; refine pq ?_; refine blk_put (cs := #[.bool t138, .bool false, .bool false, .bool false]) ?_ 1 _ rfl; refine pq ?_; refine blk_put (cs := #[.bool false, .bool false, .bool false, .bool false]) ?_ 0 _ rfl; refine pq ?_; exact BK143.out) hb); have n4_ := aM (below_step (zb) hb); clear BK135; clear BK136; clear BK137; clear BK143; clear HB; have BK135 := n0_; have BK136 := n1_; have BK137 := n2_; have BK143 := n3_; have HB := n4_; clear n0_ n1_ n2_ n3_ n4_; (try clear hb); (try clear hb2); (try clear hk); (try clear hi)))
    go_meet
    case rel => exact ⟨_, (true), zs, H', ⟨by first | omega | exact Nat.le_refl _⟩, ⟨by exact pk BK135.out⟩, ⟨by exact pk BK136.out⟩, ⟨by exact pk BK137.out⟩, ⟨by exact pk BK143.out⟩, ⟨zb⟩⟩
  ·replace c19 := Bool.eq_false_iff.mpr c19
   subst c19
   have H1 : (impl_Recover.j0 k true a0_0 a0_1 a0_2 a0_3 a0_4 t138 t139 t140 t141) = some (r1, r2, r3, r4, r5, r6, r7) := by rw [if_neg (show ¬ (false = true) by decide)] at H; exact H
   clear H
   have H := H1
   clear H1
   have H' := aM H
   clear H
   go_wp2
   go_meet
   case rel => exact ⟨_, (true), zs, H', ⟨by first | omega | exact Nat.le_refl _⟩, ⟨by refine pq ?_; refine blk_far ?_ NB135_143.out _; refine pq ?_; refine blk_far ?_ NB135_143.out _; refine pq ?_; refine blk_far ?_ NB135_143.out _; refine pq ?_; refine blk_far ?_ NB135_143.out _; refine pq ?_; exact BK135.out⟩, ⟨by refine pq ?_; refine blk_far ?_ NB136_143.out _; refine pq ?_; refine blk_far ?_ NB136_143.out _; refine pq ?_; refine blk_far ?_ NB136_143.out _; refine pq ?_; refine blk_far ?_ NB136_143.out _; refine pq ?_; exact BK136.out⟩, ⟨by refine pq ?_; refine blk_far ?_ NB137_143.out _; refine pq ?_; refine blk_far ?_ NB137_143.out _; refine pq ?_; refine blk_far ?_ NB137_143.out _; refine pq ?_; refine blk_far ?_ NB137_143.out _; refine pq ?_; exact BK137.out⟩, ⟨by refine pq ?_; refine blk_put (cs := #[.bool t138, .bool t139, .bool t140, .bool false]) ?_ 3 _ rfl; refine pq ?_; refine blk_put (cs := #[.bool t138, .bool t139, .bool false, .bool false]) ?_ 2 _ rfl; refine pq ?_; refine blk_put (cs := #[.bool t138, .bool false, .bool false, .bool false]) ?_ 1 _ rfl; refine pq ?_; refine blk_put (cs := #[.bool false, .bool false, .bool false, .bool false]) ?_ 0 _ rfl; refine pq ?_; exact BK143.out⟩, ⟨zb⟩⟩
 case rest =>
  clear HC4
  try clear c1
  try clear c2
  try clear p2
  try clear c3
  try clear c8
  try clear c9
  try clear c11
  try clear c15
  try clear c16
  try clear c17
  try clear c19
  try clear c21
  try clear c23
  try clear c24
  try clear c25
  try clear c28
  try clear c29
  try clear c32
  try clear c33
  try clear c34
  try clear c36
  try clear hcz10_0 hcz10_1 hcz10_2 hcz10_3 hcz10_4 hfz10_0 hfz10_1 hfz10_2 hfz10_3 hfz10_4
  try clear hcz12_0 hcz12_1 hcz12_2 hcz12_3 hfz12_0 hfz12_1 hfz12_2 hfz12_3
  try clear hcz18_0 hcz18_1 hcz18_2 hcz18_3 hfz18_0 hfz18_1 hfz18_2 hfz18_3
  try clear hcz26_0 hcz26_1 hcz26_2 hcz26_3 hcz26_4 hfz26_0 hfz26_1 hfz26_2 hfz26_3 hfz26_4
  try clear hcz30_0 hcz30_1 hcz30_2 hcz30_3 hfz30_0 hfz30_1 hfz30_2 hfz30_3
  try clear hcz35_0 hcz35_1 hcz35_2 hcz35_3 hcz35_4 hfz35_0 hfz35_1 hfz35_2 hfz35_3 hfz35_4
  obtain ⟨kq, x27_3, rfl, HA, HJ3, BK135, BK136, BK137, BK143, HB⟩ := hcut
  cases kq with
  | zero => exact absurd HA.out (by simp [impl_Recover.j0])
  | succ kj3 =>
   have H := HA.out
   clear HA
   simp only [impl_Recover.j0] at H
   by_cases c37 : x27_3 = true
   ·subst c37
    have H1 : (some (a0_0, a0_1, a0_2, a0_3, a0_4, 0, false)) = some (r1, r2, r3, r4, r5, r6, r7) := by rw [if_pos rfl] at H; exact H
    clear H
    have H := H1
    clear H1
    simp only [Option.some.injEq, Prod.mk.injEq] at H
    obtain ⟨rfl, rfl, rfl, rfl, rfl, rfl, rfl⟩ := H
    have hnb38 := NB135_136.out
    have hnc38 := NB136_135.out
    have hnb39 := NB135_137.out
    have hnc39 := NB137_135.out
    have hnb40 := NB135_143.out
    have hnc40 := NB143_135.out
    obtain ⟨hcz41_0, hcz41_1, hcz41_2, hcz41_3, hcz41_4, hfz41_0, hfz41_1, hfz41_2, hfz41_3, hfz41_4⟩ := cells5 BK135.out
    have hnb42 := NB137_136.out
    have hnc42 := NB136_137.out
    have hnb43 := NB137_143.out
    have hnc43 := NB143_137.out
    obtain ⟨hcz44_0, hcz44_1, hcz44_2, hcz44_3, hcz44_4, hfz44_0, hfz44_1, hfz44_2, hfz44_3, hfz44_4⟩ := cells5 BK137.out
    go_wp2
    refine bodyPost_ret (results_ctt rfl _ _ gb137 24 #[.int .i64 a0_0, .int .i64 a0_1, .bool a0_2, .bool a0_3, .bool a0_4] (0, 0) _ rfl (by refine pq ?_; refine blk_put (cs := #[.int .i64 a0_0, .int .i64 a0_1, .bool a0_2, .bool a0_3, .bool false]) ?_ 4 _ rfl; refine pq ?_; refine blk_put (cs := #[.int .i64 a0_0, .int .i64 a0_1, .bool a0_2, .bool false, .bool false]) ?_ 3 _ rfl; refine pq ?_; refine blk_put (cs := #[.int .i64 a0_0, .int .i64 a0_1, .bool false, .bool false, .bool false]) ?_ 2 _ rfl; refine pq ?_; refine blk_put (cs := #[.int .i64 a0_0, .int .i64 0, .bool false, .bool false, .bool false]) ?_ 1 _ rfl; refine pq ?_; refine blk_put (cs := #[.int .i64 0, .int .i64 0, .bool false, .bool false, .bool false]) ?_ 0 _ rfl; refine pq ?_; exact BK137.out) Try.underlying24 rfl (by kernel_rfl)) rfl ?_
    exact ⟨zr, zb⟩
   ·replace c37 := Bool.eq_false_iff.mpr c37
    subst c37
    have H1 : ((impl_Verdict.f kj3 a0_0 t138 t139 t140 t141).bind fun t146 => (if t146 = 3 then (some (0, a0_1, false, a0_3, a0_4, t146, true)) else (if t146 = 4 then (some (0, a0_1, false, a0_3, a0_4, t146, true)) else (some (a0_0, a0_1, a0_2, a0_3, a0_4, t146, true))))) = some (r1, r2, r3, r4, r5, r6, r7) := by rw [if_neg (show ¬ (false = true) by decide)] at H; exact H
    clear H
    have H := H1
    clear H1
    replace H := Option.bind_eq_some_iff.mp H
    obtain ⟨t146, A450, H⟩ := H
    replace H : (if t146 = 3 then (some (0, a0_1, false, a0_3, a0_4, t146, true)) else (if t146 = 4 then (some (0, a0_1, false, a0_3, a0_4, t146, true)) else (some (a0_0, a0_1, a0_2, a0_3, a0_4, t146, true)))) = some (r1, r2, r3, r4, r5, r6, r7) := H
    have A45 := aM A450
    clear A450
    by_cases c46 : t146 = 3
    ·rw [if_pos c46] at H
     have c46b0 : (t146 == 3) = true := beq_iff_eq.mpr c46
     have c46b1 : (t146 != 3) = false := bne_eq_false_iff_eq.mpr c46
     clear c46
     simp only [Option.some.injEq, Prod.mk.injEq] at H
     obtain ⟨rfl, rfl, rfl, rfl, rfl, rfl, rfl⟩ := H
     have hnb47 := NB135_136.out
     have hnc47 := NB136_135.out
     have hnb48 := NB135_137.out
     have hnc48 := NB137_135.out
     have hnb49 := NB135_143.out
     have hnc49 := NB143_135.out
     obtain ⟨hcz50_0, hcz50_1, hcz50_2, hcz50_3, hcz50_4, hfz50_0, hfz50_1, hfz50_2, hfz50_3, hfz50_4⟩ := cells5 BK135.out
     have hnb51 := NB143_136.out
     have hnc51 := NB136_143.out
     have hnb52 := NB143_137.out
     have hnc52 := NB137_143.out
     obtain ⟨hcz53_0, hcz53_1, hcz53_2, hcz53_3, hfz53_0, hfz53_1, hfz53_2, hfz53_3⟩ := cells4 BK143.out
     go_wp2_with (first | ((with_reducible refine gate_callee (f := 37) rfl ?_); refine goesL_ (some 32) rfl rfl Try.func37 (by kernel_rfl) rfl #[.int .i64 a0_0, .agg #[.bool t138, .bool t139, .bool t140, .bool t141]] rfl za ?_; (with_reducible refine (impl_Verdict.calls kj3 a0_0 t138 t139 t140 t141 t146 _ A45.out).mono ?_); rintro e w54 ⟨rfl, hb⟩; refine ⟨_, rfl, ?_⟩; have n0_ := aM (bb BK135.out hb); have n1_ := aM (bb BK136.out hb); have n2_ := aM (bb BK137.out hb); have n3_ := aM (bb BK143.out hb); have n4_ := aM (below_step (zb) hb); clear BK135; clear BK136; clear BK137; clear BK143; clear HB; have BK135 := n0_; have BK136 := n1_; have BK137 := n2_; have BK143 := n3_; have HB := n4_; clear n0_ n1_ n2_ n3_ n4_; (try clear hb); (try clear hb2); (try clear hk); (try clear hi); obtain ⟨hcz55_0, hcz55_1, hcz55_2, hcz55_3, hcz55_4, hfz55_0, hfz55_1, hfz55_2, hfz55_3, hfz55_4⟩ := cells5 BK135.out; have hnb56 := NB137_136.out; have hnc56 := NB136_137.out; obtain ⟨hcz57_0, hcz57_1, hcz57_2, hcz57_3, hcz57_4, hfz57_0, hfz57_1, hfz57_2, hfz57_3, hfz57_4⟩ := cells5 BK137.out))
     refine bodyPost_ret (results_ctt rfl _ _ gb137 24 #[.int .i64 0, .int .i64 a0_1, .bool false, .bool a0_3, .bool a0_4] (0, 0) _ rfl (by refine pq ?_; refine blk_put (cs := #[.int .i64 0, .int .i64 a0_1, .bool false, .bool a0_3, .bool false]) ?_ 4 _ rfl; refine pq ?_; refine blk_put (cs := #[.int .i64 0, .int .i64 a0_1, .bool false, .bool false, .bool false]) ?_ 3 _ rfl; refine pq ?_; refine blk_put (cs := #[.int .i64 0, .int .i64 a0_1, .bool false, .bool false, .bool false]) ?_ 2 _ rfl; refine pq ?_; refine blk_put (cs := #[.int .i64 0, .int .i64 0, .bool false, .bool false, .bool false]) ?_ 1 _ rfl; refine pq ?_; refine blk_put (cs := #[.int .i64 0, .int .i64 0, .bool false, .bool false, .bool false]) ?_ 0 _ rfl; refine pq ?_; refine blk_far ?_ NB137_135.out _; refine pq ?_; refine blk_far ?_ NB137_135.out _; refine pq ?_; exact BK137.out) Try.underlying24 rfl (by kernel_rfl)) rfl ?_
     exact ⟨zr, zb⟩
    ·rw [if_neg c46] at H
     have c46b0 : (t146 == 3) = false := beq_eq_false_iff_ne.mpr c46
     have c46b1 : (t146 != 3) = true := bne_iff_ne.mpr c46
     by_cases c58 : t146 = 4
     ·rw [if_pos c58] at H
      have c58b0 : (t146 == 4) = true := beq_iff_eq.mpr c58
      have c58b1 : (t146 != 4) = false := bne_eq_false_iff_eq.mpr c58
      clear c58
      simp only [Option.some.injEq, Prod.mk.injEq] at H
      obtain ⟨rfl, rfl, rfl, rfl, rfl, rfl, rfl⟩ := H
      have hnb59 := NB135_136.out
      have hnc59 := NB136_135.out
      have hnb60 := NB135_137.out
      have hnc60 := NB137_135.out
      have hnb61 := NB135_143.out
      have hnc61 := NB143_135.out
      obtain ⟨hcz62_0, hcz62_1, hcz62_2, hcz62_3, hcz62_4, hfz62_0, hfz62_1, hfz62_2, hfz62_3, hfz62_4⟩ := cells5 BK135.out
      have hnb63 := NB143_136.out
      have hnc63 := NB136_143.out
      have hnb64 := NB143_137.out
      have hnc64 := NB137_143.out
      obtain ⟨hcz65_0, hcz65_1, hcz65_2, hcz65_3, hfz65_0, hfz65_1, hfz65_2, hfz65_3⟩ := cells4 BK143.out
      go_wp2_with (first | ((with_reducible refine gate_callee (f := 37) rfl ?_); refine goesL_ (some 32) rfl rfl Try.func37 (by kernel_rfl) rfl #[.int .i64 a0_0, .agg #[.bool t138, .bool t139, .bool t140, .bool t141]] rfl za ?_; (with_reducible refine (impl_Verdict.calls kj3 a0_0 t138 t139 t140 t141 t146 _ A45.out).mono ?_); rintro e w66 ⟨rfl, hb⟩; refine ⟨_, rfl, ?_⟩; have n0_ := aM (bb BK135.out hb); have n1_ := aM (bb BK136.out hb); have n2_ := aM (bb BK137.out hb); have n3_ := aM (bb BK143.out hb); have n4_ := aM (below_step (zb) hb); clear BK135; clear BK136; clear BK137; clear BK143; clear HB; have BK135 := n0_; have BK136 := n1_; have BK137 := n2_; have BK143 := n3_; have HB := n4_; clear n0_ n1_ n2_ n3_ n4_; (try clear hb); (try clear hb2); (try clear hk); (try clear hi); obtain ⟨hcz67_0, hcz67_1, hcz67_2, hcz67_3, hcz67_4, hfz67_0, hfz67_1, hfz67_2, hfz67_3, hfz67_4⟩ := cells5 BK135.out; have hnb68 := NB137_136.out; have hnc68 := NB136_137.out; obtain ⟨hcz69_0, hcz69_1, hcz69_2, hcz69_3, hcz69_4, hfz69_0, hfz69_1, hfz69_2, hfz69_3, hfz69_4⟩ := cells5 BK137.out))
      refine bodyPost_ret (results_ctt rfl _ _ gb137 24 #[.int .i64 0, .int .i64 a0_1, .bool false, .bool a0_3, .bool a0_4] (0, 0) _ rfl (by refine pq ?_; refine blk_put (cs := #[.int .i64 0, .int .i64 a0_1, .bool false, .bool a0_3, .bool false]) ?_ 4 _ rfl; refine pq ?_; refine blk_put (cs := #[.int .i64 0, .int .i64 a0_1, .bool false, .bool false, .bool false]) ?_ 3 _ rfl; refine pq ?_; refine blk_put (cs := #[.int .i64 0, .int .i64 a0_1, .bool false, .bool false, .bool false]) ?_ 2 _ rfl; refine pq ?_; refine blk_put (cs := #[.int .i64 0, .int .i64 0, .bool false, .bool false, .bool false]) ?_ 1 _ rfl; refine pq ?_; refine blk_put (cs := #[.int .i64 0, .int .i64 0, .bool false, .bool false, .bool false]) ?_ 0 _ rfl; refine pq ?_; refine blk_far ?_ NB137_135.out _; refine pq ?_; refine blk_far ?_ NB137_135.out _; refine pq ?_; exact BK137.out) Try.underlying24 rfl (by kernel_rfl)) rfl ?_
      exact ⟨zr, zb⟩
     ·rw [if_neg c58] at H
      have c58b0 : (t146 == 4) = false := beq_eq_false_iff_ne.mpr c58
      have c58b1 : (t146 != 4) = true := bne_iff_ne.mpr c58
      simp only [Option.some.injEq, Prod.mk.injEq] at H
      obtain ⟨rfl, rfl, rfl, rfl, rfl, rfl, rfl⟩ := H
      have hnb70 := NB135_136.out
      have hnc70 := NB136_135.out
      have hnb71 := NB135_137.out
      have hnc71 := NB137_135.out
      have hnb72 := NB135_143.out
      have hnc72 := NB143_135.out
      obtain ⟨hcz73_0, hcz73_1, hcz73_2, hcz73_3, hcz73_4, hfz73_0, hfz73_1, hfz73_2, hfz73_3, hfz73_4⟩ := cells5 BK135.out
      have hnb74 := NB143_136.out
      have hnc74 := NB136_143.out
      have hnb75 := NB143_137.out
      have hnc75 := NB137_143.out
      obtain ⟨hcz76_0, hcz76_1, hcz76_2, hcz76_3, hfz76_0, hfz76_1, hfz76_2, hfz76_3⟩ := cells4 BK143.out
      go_wp2_with (first | ((with_reducible refine gate_callee (f := 37) rfl ?_); refine goesL_ (some 32) rfl rfl Try.func37 (by kernel_rfl) rfl #[.int .i64 a0_0, .agg #[.bool t138, .bool t139, .bool t140, .bool t141]] rfl za ?_; (with_reducible refine (impl_Verdict.calls kj3 a0_0 t138 t139 t140 t141 t146 _ A45.out).mono ?_); rintro e w77 ⟨rfl, hb⟩; refine ⟨_, rfl, ?_⟩; have n0_ := aM (bb BK135.out hb); have n1_ := aM (bb BK136.out hb); have n2_ := aM (bb BK137.out hb); have n3_ := aM (bb BK143.out hb); have n4_ := aM (below_step (zb) hb); clear BK135; clear BK136; clear BK137; clear BK143; clear HB; have BK135 := n0_; have BK136 := n1_; have BK137 := n2_; have BK143 := n3_; have HB := n4_; clear n0_ n1_ n2_ n3_ n4_; (try clear hb); (try clear hb2); (try clear hk); (try clear hi); obtain ⟨hcz78_0, hcz78_1, hcz78_2, hcz78_3, hcz78_4, hfz78_0, hfz78_1, hfz78_2, hfz78_3, hfz78_4⟩ := cells5 BK135.out; have hnb79 := NB137_136.out; have hnc79 := NB136_137.out; obtain ⟨hcz80_0, hcz80_1, hcz80_2, hcz80_3, hcz80_4, hfz80_0, hfz80_1, hfz80_2, hfz80_3, hfz80_4⟩ := cells5 BK137.out))
      refine bodyPost_ret (results_ctt rfl _ _ gb137 24 #[.int .i64 a0_0, .int .i64 a0_1, .bool a0_2, .bool a0_3, .bool a0_4] (0, 0) _ rfl (by refine pq ?_; refine blk_put (cs := #[.int .i64 a0_0, .int .i64 a0_1, .bool a0_2, .bool a0_3, .bool false]) ?_ 4 _ rfl; refine pq ?_; refine blk_put (cs := #[.int .i64 a0_0, .int .i64 a0_1, .bool a0_2, .bool false, .bool false]) ?_ 3 _ rfl; refine pq ?_; refine blk_put (cs := #[.int .i64 a0_0, .int .i64 a0_1, .bool false, .bool false, .bool false]) ?_ 2 _ rfl; refine pq ?_; refine blk_put (cs := #[.int .i64 a0_0, .int .i64 0, .bool false, .bool false, .bool false]) ?_ 1 _ rfl; refine pq ?_; refine blk_put (cs := #[.int .i64 0, .int .i64 0, .bool false, .bool false, .bool false]) ?_ 0 _ rfl; refine pq ?_; exact BK137.out) Try.underlying24 rfl (by kernel_rfl)) rfl ?_
      exact ⟨zr, zb⟩

/-! ### laws_big: function 26 -/
def laws_big.f (l0 : List Int) : Option (Bool) := some (decide ((l0.length : Int) > 1048576))
set_option maxHeartbeats 8000000 in
set_option maxRecDepth 100000 in
theorem laws_big.calls (A0 : Option Addr) (c0 : Nat) (l0 : List Int) (r : Bool) (w : World) (hr0 : Kd.C (Kd.int .u8) w A0 l0.length l0) (hc0 : l0.length ≤ c0) (h : laws_big.f l0 = some r) :
  Calls Try.prog 26 #[.slice A0 l0.length c0] w fun e w' => e = .returned (.bool r) ∧ Drawn0 w w' := by
 have HR0 := aM hr0
 have HC0 := aM hc0
 clear hr0 hc0
 have H : (some (decide ((l0.length : Int) > 1048576))) = some r := h
 clear h
 obtain rfl := Option.some.inj H
 go_enter Try.func26, Try.ntmps26
 go_wp2
 go_ret
 exact ⟨by first | rfl | (simp; done) | (simp [*]; done), by repeat (first | exact Drawn0.refl _ | apply Drawn0.step)⟩

/-! ### spec_l04Before: function 53 -/
def spec_l04Before.f (a0_0 : Int) (a0_1 : Int) (a0_2 : Bool) (a0_3 : Bool) (a0_4 : Bool) : Option (Bool) := some (a0_4 == (a0_0 == 2))
set_option maxHeartbeats 8000000 in
set_option maxRecDepth 100000 in
theorem spec_l04Before.calls (a0_0 : Int) (a0_1 : Int) (a0_2 : Bool) (a0_3 : Bool) (a0_4 : Bool) (r : Bool) (w : World) (h : spec_l04Before.f a0_0 a0_1 a0_2 a0_3 a0_4 = some r) :
  Calls Try.prog 53 #[.agg #[.int .i64 a0_0, .int .i64 a0_1, .bool a0_2, .bool a0_3, .bool a0_4]] w fun e w' => e = .returned (.bool r) ∧ Below w.heap.size w w' := by
 have hu24 := Try.underlying24
 have HB := aM (Below.refl w.heap.size w)
 have H : (some (a0_4 == (a0_0 == 2))) = some r := h
 clear h
 obtain rfl := Option.some.inj H
 go_enter Try.func53, Try.ntmps53
 go_wp2_with (first | ((with_reducible refine gate_dst (N := 1) rfl ?_); refine box_event ?hg (N := 1) ?hd (cs := #[.int .i64 a0_0, .int .i64 a0_1, .bool a0_2, .bool a0_3, .bool a0_4]) (t := 24) ?hr ?_; (case hd => rfl); (case hg => rfl); (case hr => exact zg); intro gb147 hg w2 hbox hb; have n0_ := aM (below_step (zb) hb); have n1_ := aM (hbox); have n2_ := aM ((by rw [hg]; exact (below_size (zb)) : w.heap.size ≤ gb147)); have n3_ := aM ((by rw [hg]; exact (below_size (zb)) : w.heap.size ≤ gb147)); clear HB; have HB := n0_; have BK147 := n1_; have GW147 := n2_; have GE147 := n3_; clear n0_ n1_ n2_ n3_; clear hb hbox hg; obtain ⟨hcz3_0, hcz3_1, hcz3_2, hcz3_3, hcz3_4, hfz3_0, hfz3_1, hfz3_2, hfz3_3, hfz3_4⟩ := cells5 BK147.out))
 go_ret
 exact ⟨zr, zb⟩

/-! ### spec_l01In: function 56 -/
def spec_l01In.f (a0 : Int) (a1 : Int) (a2 : Int) : Option (Bool) := if a0 ≥ a1 then (some (decide (a0 ≤ a2))) else (some false)
set_option maxHeartbeats 8000000 in
set_option maxRecDepth 100000 in
theorem spec_l01In.calls (a0 : Int) (a1 : Int) (a2 : Int) (r : Bool) (w : World) (h : spec_l01In.f a0 a1 a2 = some r) :
  Calls Try.prog 56 #[.int .i64 a0, .int .i64 a1, .int .i64 a2] w fun e w' => e = .returned (.bool r) ∧ Drawn0 w w' := by
 have H : (if a0 ≥ a1 then (some (decide (a0 ≤ a2))) else (some false)) = some r := h
 clear h
 by_cases c4 : a0 ≥ a1
 ·rw [if_pos c4] at H
  have c4b0 : decide (a1 ≤ a0) = true := decide_eq_true c4
  clear c4
  obtain rfl := Option.some.inj H
  go_enter Try.func56, Try.ntmps56
  go_wp2
  go_ret
  exact ⟨by first | rfl | (simp; done) | (simp [*]; done), by repeat (first | exact Drawn0.refl _ | apply Drawn0.step)⟩
 ·rw [if_neg c4] at H
  have c4b0 : decide (a1 ≤ a0) = false := decide_eq_false c4
  clear c4
  obtain rfl := Option.some.inj H
  go_enter Try.func56, Try.ntmps56
  go_wp2
  go_ret
  exact ⟨by first | rfl | (simp; done) | (simp [*]; done), by repeat (first | exact Drawn0.refl _ | apply Drawn0.step)⟩

/-! ### spec_DoorOk: function 51 -/
def spec_DoorOk.j0 : Nat → Bool → Int → Int → Bool → Bool → Bool → Option (Bool)
 | 0, _, _, _, _, _, _ => none
 | k + 1, x21, x149000, x149001, x149002, x149003, x149004 => if x21 = true then (some false) else (if x149000 = 0 then (if x149001 = 0 then (some (!x149002)) else (some false)) else (if x149001 = 1 then ((spec_l04Before.f x149000 x149001 x149002 x149003 x149004).bind fun t151 => (if t151 = true then (some (!x149002)) else (some false))) else (if x149001 = 2 then ((spec_l04Before.f x149000 x149001 x149002 x149003 x149004).bind fun t152 => (if t152 = true then (if x149002 = true then (some (!x149003)) else (some false)) else (some false))) else (if x149001 = 3 then ((spec_l04Before.f x149000 x149001 x149002 x149003 x149004).bind fun t153 => (if t153 = true then (some x149003) else (some false))) else (if x149001 = 4 then ((spec_l04Before.f x149000 x149001 x149002 x149003 x149004).bind fun t154 => (if t154 = true then (some false) else (some x149003))) else (if x149001 = 5 then (if x149002 = true then (some (!x149003)) else (some false)) else (if x149001 = 6 then (some (!x149002)) else (some true))))))))
def spec_DoorOk.f (k : Nat) (a0_0 : Int) (a0_1 : Int) (a0_2 : Bool) (a0_3 : Bool) (a0_4 : Bool) : Option (Bool) := (spec_l01In.f a0_0 0 2).bind fun t149 => (if t149 = true then ((spec_l01In.f a0_1 0 6).bind fun t150 => (if t150 = true then (if a0_3 = true then (spec_DoorOk.j0 k (!a0_2) a0_0 a0_1 a0_2 a0_3 a0_4) else (spec_DoorOk.j0 k false a0_0 a0_1 a0_2 a0_3 a0_4)) else (spec_DoorOk.j0 k true a0_0 a0_1 a0_2 a0_3 a0_4))) else (spec_DoorOk.j0 k true a0_0 a0_1 a0_2 a0_3 a0_4))
theorem spec_DoorOk.mono_l : ∀ k, (∀ y0 y1 y2 y3 y4 y5, LeO (spec_DoorOk.j0 k y0 y1 y2 y3 y4 y5) (spec_DoorOk.j0 (k + 1) y0 y1 y2 y3 y4 y5))
 | 0 => fun _ _ _ _ _ _ r h => by simp [spec_DoorOk.j0] at h
 | k + 1 => by
  have ih0 := spec_DoorOk.mono_l k
  ·intro y0 y1 y2 y3 y4 y5
   unfold spec_DoorOk.j0
   repeat' first
   | (with_reducible exact ih0 _ _ _ _ _ _)
   | (with_reducible exact LeO.refl _)
   | (with_reducible exact LeO.none _)
   | (with_reducible refine LeO.ite ?_ ?_)
   | (with_reducible refine LeO.bind ?_ (fun _ => ?_))
   | exact ih0 _ _ _ _ _ _
   | exact LeO.none _
   | refine LeO.ite ?_ ?_
   | refine LeO.bind ?_ (fun _ => ?_)
theorem spec_DoorOk.mono : ∀ a0 a1 a2 a3 a4 k, LeO (spec_DoorOk.f k a0 a1 a2 a3 a4) (spec_DoorOk.f (k + 1) a0 a1 a2 a3 a4) := by
 intro a0 a1 a2 a3 a4 k
 have ih0 := spec_DoorOk.mono_l k
 unfold spec_DoorOk.f
 repeat' first
   | (with_reducible exact ih0 _ _ _ _ _ _)
   | (with_reducible exact LeO.refl _)
   | (with_reducible exact LeO.none _)
   | (with_reducible refine LeO.ite ?_ ?_)
   | (with_reducible refine LeO.bind ?_ (fun _ => ?_))
   | exact ih0 _ _ _ _ _ _
   | exact LeO.none _
   | refine LeO.ite ?_ ?_
   | refine LeO.bind ?_ (fun _ => ?_)
set_option maxHeartbeats 8000000 in
set_option maxRecDepth 100000 in
theorem spec_DoorOk.calls (k : Nat) (a0_0 : Int) (a0_1 : Int) (a0_2 : Bool) (a0_3 : Bool) (a0_4 : Bool) (r : Bool) (w : World) (h : spec_DoorOk.f k a0_0 a0_1 a0_2 a0_3 a0_4 = some r) :
  Calls Try.prog 51 #[.agg #[.int .i64 a0_0, .int .i64 a0_1, .bool a0_2, .bool a0_3, .bool a0_4]] w fun e w' => e = .returned (.bool r) ∧ Below w.heap.size w w' := by
 have hu24 := Try.underlying24
 have HB := aM (Below.refl w.heap.size w)
 have H : ((spec_l01In.f a0_0 0 2).bind fun t149 => (if t149 = true then ((spec_l01In.f a0_1 0 6).bind fun t150 => (if t150 = true then (if a0_3 = true then (spec_DoorOk.j0 k (!a0_2) a0_0 a0_1 a0_2 a0_3 a0_4) else (spec_DoorOk.j0 k false a0_0 a0_1 a0_2 a0_3 a0_4)) else (spec_DoorOk.j0 k true a0_0 a0_1 a0_2 a0_3 a0_4))) else (spec_DoorOk.j0 k true a0_0 a0_1 a0_2 a0_3 a0_4))) = some r := h
 clear h
 have HC2 := aM H
 clear H
 go_enter Try.func51, Try.ntmps51
 go_upto_region 1 with (first | ((with_reducible refine gate_dst (N := 1) rfl ?_); refine box_event ?hg (N := 1) ?hd (cs := #[.int .i64 a0_0, .int .i64 a0_1, .bool a0_2, .bool a0_3, .bool a0_4]) (t := 24) ?hr ?_; (case hd => rfl); (case hg => rfl); (case hr => exact zg); intro gb148 hg w3 hbox hb; have n0_ := aM (below_step (zb) hb); have n1_ := aM (hbox); have n2_ := aM ((by rw [hg]; exact (below_size (zb)) : w.heap.size ≤ gb148)); have n3_ := aM ((by rw [hg]; exact (below_size (zb)) : w.heap.size ≤ gb148)); clear HB; have HB := n0_; have BK148 := n1_; have GW148 := n2_; have GE148 := n3_; clear n0_ n1_ n2_ n3_; clear hb hbox hg))
 (try simp only [Act.put, List.setIfInBounds_toArray, List.set_cons_zero, List.set_cons_succ])
 go_cut [21] (fun v21 wc => ∃ (kq : Nat) (x21_1 : Bool), v21 = .bool x21_1 ∧ Aside0 (spec_DoorOk.j0 kq x21_1 a0_0 a0_1 a0_2 a0_3 a0_4 = some r) ∧ Aside0 (kq ≤ k) ∧ Aside0 (wc.heap[gb148]? = some (.cells #[.int .i64 a0_0, .int .i64 a0_1, .bool a0_2, .bool a0_3, .bool a0_4] 24 (0, 0))) ∧ Aside0 (Below w.heap.size w wc))
 case first =>
  have H := HC2.out
  clear HC2
  replace H := Option.bind_eq_some_iff.mp H
  obtain ⟨t149, A40, H⟩ := H
  replace H : (if t149 = true then ((spec_l01In.f a0_1 0 6).bind fun t150 => (if t150 = true then (if a0_3 = true then (spec_DoorOk.j0 k (!a0_2) a0_0 a0_1 a0_2 a0_3 a0_4) else (spec_DoorOk.j0 k false a0_0 a0_1 a0_2 a0_3 a0_4)) else (spec_DoorOk.j0 k true a0_0 a0_1 a0_2 a0_3 a0_4))) else (spec_DoorOk.j0 k true a0_0 a0_1 a0_2 a0_3 a0_4)) = some r := H
  have A4 := aM A40
  clear A40
  by_cases c5 : t149 = true
  ·subst c5
   have H1 : ((spec_l01In.f a0_1 0 6).bind fun t150 => (if t150 = true then (if a0_3 = true then (spec_DoorOk.j0 k (!a0_2) a0_0 a0_1 a0_2 a0_3 a0_4) else (spec_DoorOk.j0 k false a0_0 a0_1 a0_2 a0_3 a0_4)) else (spec_DoorOk.j0 k true a0_0 a0_1 a0_2 a0_3 a0_4))) = some r := by rw [if_pos rfl] at H; exact H
   clear H
   have H := H1
   clear H1
   replace H := Option.bind_eq_some_iff.mp H
   obtain ⟨t150, A60, H⟩ := H
   replace H : (if t150 = true then (if a0_3 = true then (spec_DoorOk.j0 k (!a0_2) a0_0 a0_1 a0_2 a0_3 a0_4) else (spec_DoorOk.j0 k false a0_0 a0_1 a0_2 a0_3 a0_4)) else (spec_DoorOk.j0 k true a0_0 a0_1 a0_2 a0_3 a0_4)) = some r := H
   have A6 := aM A60
   clear A60
   by_cases c7 : t150 = true
   ·subst c7
    have H1 : (if a0_3 = true then (spec_DoorOk.j0 k (!a0_2) a0_0 a0_1 a0_2 a0_3 a0_4) else (spec_DoorOk.j0 k false a0_0 a0_1 a0_2 a0_3 a0_4)) = some r := by rw [if_pos rfl] at H; exact H
    clear H
    have H := H1
    clear H1
    by_cases c8 : a0_3 = true
    ·subst c8
     have H1 : (spec_DoorOk.j0 k (!a0_2) a0_0 a0_1 a0_2 true a0_4) = some r := by rw [if_pos rfl] at H; exact H
     clear H
     have H := H1
     clear H1
     have H' := aM H
     clear H
     obtain ⟨hcz9_0, hcz9_1, hcz9_2, hcz9_3, hcz9_4, hfz9_0, hfz9_1, hfz9_2, hfz9_3, hfz9_4⟩ := cells5 BK148.out
     go_wp2_with (first | ((with_reducible refine gate_callee (f := 56) rfl ?_); refine goesL_ (some 5) rfl rfl Try.func56 (by kernel_rfl) rfl #[.int .i64 a0_0, .int .i64 0, .int .i64 2] rfl za ?_; (with_reducible refine (spec_l01In.calls a0_0 0 2 true _ A4.out).mono ?_); rintro e w' ⟨rfl, ⟨nd, rfl⟩⟩; refine ⟨_, rfl, ?_⟩) | (go_at_call 56; (with_reducible refine (spec_l01In.calls a0_1 0 6 true _ A6.out).mono ?_); rintro e w' ⟨rfl, ⟨nd, rfl⟩⟩))
     go_meet
     case rel => exact ⟨_, (!a0_2), zs, H', ⟨by first | omega | exact Nat.le_refl _⟩, ⟨by exact pk BK148.out⟩, ⟨zb⟩⟩
    ·replace c8 := Bool.eq_false_iff.mpr c8
     subst c8
     have H1 : (spec_DoorOk.j0 k false a0_0 a0_1 a0_2 false a0_4) = some r := by rw [if_neg (show ¬ (false = true) by decide)] at H; exact H
     clear H
     have H := H1
     clear H1
     have H' := aM H
     clear H
     obtain ⟨hcz10_0, hcz10_1, hcz10_2, hcz10_3, hcz10_4, hfz10_0, hfz10_1, hfz10_2, hfz10_3, hfz10_4⟩ := cells5 BK148.out
     go_wp2_with (first | ((with_reducible refine gate_callee (f := 56) rfl ?_); refine goesL_ (some 5) rfl rfl Try.func56 (by kernel_rfl) rfl #[.int .i64 a0_0, .int .i64 0, .int .i64 2] rfl za ?_; (with_reducible refine (spec_l01In.calls a0_0 0 2 true _ A4.out).mono ?_); rintro e w' ⟨rfl, ⟨nd, rfl⟩⟩; refine ⟨_, rfl, ?_⟩) | (go_at_call 56; (with_reducible refine (spec_l01In.calls a0_1 0 6 true _ A6.out).mono ?_); rintro e w' ⟨rfl, ⟨nd, rfl⟩⟩))
     go_meet
     case rel => exact ⟨_, (false), zs, H', ⟨by first | omega | exact Nat.le_refl _⟩, ⟨by exact pk BK148.out⟩, ⟨zb⟩⟩
   ·replace c7 := Bool.eq_false_iff.mpr c7
    subst c7
    have H1 : (spec_DoorOk.j0 k true a0_0 a0_1 a0_2 a0_3 a0_4) = some r := by rw [if_neg (show ¬ (false = true) by decide)] at H; exact H
    clear H
    have H := H1
    clear H1
    have H' := aM H
    clear H
    obtain ⟨hcz11_0, hcz11_1, hcz11_2, hcz11_3, hcz11_4, hfz11_0, hfz11_1, hfz11_2, hfz11_3, hfz11_4⟩ := cells5 BK148.out
    go_wp2_with (first | ((with_reducible refine gate_callee (f := 56) rfl ?_); refine goesL_ (some 5) rfl rfl Try.func56 (by kernel_rfl) rfl #[.int .i64 a0_0, .int .i64 0, .int .i64 2] rfl za ?_; (with_reducible refine (spec_l01In.calls a0_0 0 2 true _ A4.out).mono ?_); rintro e w' ⟨rfl, ⟨nd, rfl⟩⟩; refine ⟨_, rfl, ?_⟩) | (go_at_call 56; (with_reducible refine (spec_l01In.calls a0_1 0 6 false _ A6.out).mono ?_); rintro e w' ⟨rfl, ⟨nd, rfl⟩⟩))
    go_meet
    case rel => exact ⟨_, (true), zs, H', ⟨by first | omega | exact Nat.le_refl _⟩, ⟨by exact pk BK148.out⟩, ⟨zb⟩⟩
  ·replace c5 := Bool.eq_false_iff.mpr c5
   subst c5
   have H1 : (spec_DoorOk.j0 k true a0_0 a0_1 a0_2 a0_3 a0_4) = some r := by rw [if_neg (show ¬ (false = true) by decide)] at H; exact H
   clear H
   have H := H1
   clear H1
   have H' := aM H
   clear H
   obtain ⟨hcz12_0, hcz12_1, hcz12_2, hcz12_3, hcz12_4, hfz12_0, hfz12_1, hfz12_2, hfz12_3, hfz12_4⟩ := cells5 BK148.out
   go_wp2_with (first | ((with_reducible refine gate_callee (f := 56) rfl ?_); refine goesL_ (some 5) rfl rfl Try.func56 (by kernel_rfl) rfl #[.int .i64 a0_0, .int .i64 0, .int .i64 2] rfl za ?_; (with_reducible refine (spec_l01In.calls a0_0 0 2 false _ A4.out).mono ?_); rintro e w' ⟨rfl, ⟨nd, rfl⟩⟩; refine ⟨_, rfl, ?_⟩))
   go_meet
   case rel => exact ⟨_, (true), zs, H', ⟨by first | omega | exact Nat.le_refl _⟩, ⟨by exact pk BK148.out⟩, ⟨zb⟩⟩
 case rest =>
  clear HC2
  try clear p2
  try clear c5
  try clear c7
  try clear c8
  try clear hcz10_0 hcz10_1 hcz10_2 hcz10_3 hcz10_4 hfz10_0 hfz10_1 hfz10_2 hfz10_3 hfz10_4
  try clear hcz11_0 hcz11_1 hcz11_2 hcz11_3 hcz11_4 hfz11_0 hfz11_1 hfz11_2 hfz11_3 hfz11_4
  try clear hcz12_0 hcz12_1 hcz12_2 hcz12_3 hcz12_4 hfz12_0 hfz12_1 hfz12_2 hfz12_3 hfz12_4
  try clear hcz9_0 hcz9_1 hcz9_2 hcz9_3 hcz9_4 hfz9_0 hfz9_1 hfz9_2 hfz9_3 hfz9_4
  obtain ⟨kq, x21_1, rfl, HA, HJ1, BK148, HB⟩ := hcut
  cases kq with
  | zero => exact absurd HA.out (by simp [spec_DoorOk.j0])
  | succ kj1 =>
   have H := HA.out
   clear HA
   simp only [spec_DoorOk.j0] at H
   by_cases c13 : x21_1 = true
   ·subst c13
    have H1 : (some false) = some r := by rw [if_pos rfl] at H; exact H
    clear H
    have H := H1
    clear H1
    obtain rfl := Option.some.inj H
    go_wp2
    go_ret
    exact ⟨zr, zb⟩
   ·replace c13 := Bool.eq_false_iff.mpr c13
    subst c13
    have H1 : (if a0_0 = 0 then (if a0_1 = 0 then (some (!a0_2)) else (some false)) else (if a0_1 = 1 then ((spec_l04Before.f a0_0 a0_1 a0_2 a0_3 a0_4).bind fun t151 => (if t151 = true then (some (!a0_2)) else (some false))) else (if a0_1 = 2 then ((spec_l04Before.f a0_0 a0_1 a0_2 a0_3 a0_4).bind fun t152 => (if t152 = true then (if a0_2 = true then (some (!a0_3)) else (some false)) else (some false))) else (if a0_1 = 3 then ((spec_l04Before.f a0_0 a0_1 a0_2 a0_3 a0_4).bind fun t153 => (if t153 = true then (some a0_3) else (some false))) else (if a0_1 = 4 then ((spec_l04Before.f a0_0 a0_1 a0_2 a0_3 a0_4).bind fun t154 => (if t154 = true then (some false) else (some a0_3))) else (if a0_1 = 5 then (if a0_2 = true then (some (!a0_3)) else (some false)) else (if a0_1 = 6 then (some (!a0_2)) else (some true)))))))) = some r := by rw [if_neg (show ¬ (false = true) by decide)] at H; exact H
    clear H
    have H := H1
    clear H1
    by_cases c14 : a0_0 = 0
    ·rw [if_pos c14] at H
     have c14b0 : (a0_0 == 0) = true := beq_iff_eq.mpr c14
     have c14b1 : (a0_0 != 0) = false := bne_eq_false_iff_eq.mpr c14
     clear c14
     by_cases c15 : a0_1 = 0
     ·rw [if_pos c15] at H
      have c15b0 : (a0_1 == 0) = true := beq_iff_eq.mpr c15
      have c15b1 : (a0_1 != 0) = false := bne_eq_false_iff_eq.mpr c15
      clear c15
      obtain rfl := Option.some.inj H
      obtain ⟨hcz16_0, hcz16_1, hcz16_2, hcz16_3, hcz16_4, hfz16_0, hfz16_1, hfz16_2, hfz16_3, hfz16_4⟩ := cells5 BK148.out
      go_wp2
      go_ret
      exact ⟨zr, zb⟩
     ·rw [if_neg c15] at H
      have c15b0 : (a0_1 == 0) = false := beq_eq_false_iff_ne.mpr c15
      have c15b1 : (a0_1 != 0) = true := bne_iff_ne.mpr c15
      obtain rfl := Option.some.inj H
      obtain ⟨hcz17_0, hcz17_1, hcz17_2, hcz17_3, hcz17_4, hfz17_0, hfz17_1, hfz17_2, hfz17_3, hfz17_4⟩ := cells5 BK148.out
      go_wp2
      go_ret
      exact ⟨zr, zb⟩
    ·rw [if_neg c14] at H
     have c14b0 : (a0_0 == 0) = false := beq_eq_false_iff_ne.mpr c14
     have c14b1 : (a0_0 != 0) = true := bne_iff_ne.mpr c14
     by_cases c18 : a0_1 = 1
     ·rw [if_pos c18] at H
      have c18b0 : (a0_1 == 1) = true := beq_iff_eq.mpr c18
      have c18b1 : (a0_1 != 1) = false := bne_eq_false_iff_eq.mpr c18
      clear c18
      replace H := Option.bind_eq_some_iff.mp H
      obtain ⟨t151, A190, H⟩ := H
      replace H : (if t151 = true then (some (!a0_2)) else (some false)) = some r := H
      have A19 := aM A190
      clear A190
      by_cases c20 : t151 = true
      ·subst c20
       have H1 : (some (!a0_2)) = some r := by rw [if_pos rfl] at H; exact H
       clear H
       have H := H1
       clear H1
       obtain rfl := Option.some.inj H
       obtain ⟨hcz21_0, hcz21_1, hcz21_2, hcz21_3, hcz21_4, hfz21_0, hfz21_1, hfz21_2, hfz21_3, hfz21_4⟩ := cells5 BK148.out
       go_wp2_with (first | ((with_reducible refine gate_callee (f := 53) rfl ?_); refine goesL_ (some 38) rfl rfl Try.func53 (by kernel_rfl) rfl #[.agg #[.int .i64 a0_0, .int .i64 a0_1, .bool a0_2, .bool a0_3, .bool a0_4]] rfl za ?_; (with_reducible refine (spec_l04Before.calls a0_0 a0_1 a0_2 a0_3 a0_4 true _ A19.out).mono ?_); rintro e w22 ⟨rfl, hb⟩; refine ⟨_, rfl, ?_⟩; have n0_ := aM (bb BK148.out hb); have n1_ := aM (below_step (zb) hb); clear BK148; clear HB; have BK148 := n0_; have HB := n1_; clear n0_ n1_; (try clear hb); (try clear hb2); (try clear hk); (try clear hi); obtain ⟨hcz23_0, hcz23_1, hcz23_2, hcz23_3, hcz23_4, hfz23_0, hfz23_1, hfz23_2, hfz23_3, hfz23_4⟩ := cells5 BK148.out))
       go_ret
       exact ⟨zr, zb⟩
      ·replace c20 := Bool.eq_false_iff.mpr c20
       subst c20
       have H1 : (some false) = some r := by rw [if_neg (show ¬ (false = true) by decide)] at H; exact H
       clear H
       have H := H1
       clear H1
       obtain rfl := Option.some.inj H
       obtain ⟨hcz24_0, hcz24_1, hcz24_2, hcz24_3, hcz24_4, hfz24_0, hfz24_1, hfz24_2, hfz24_3, hfz24_4⟩ := cells5 BK148.out
       go_wp2_with (first | ((with_reducible refine gate_callee (f := 53) rfl ?_); refine goesL_ (some 38) rfl rfl Try.func53 (by kernel_rfl) rfl #[.agg #[.int .i64 a0_0, .int .i64 a0_1, .bool a0_2, .bool a0_3, .bool a0_4]] rfl za ?_; (with_reducible refine (spec_l04Before.calls a0_0 a0_1 a0_2 a0_3 a0_4 false _ A19.out).mono ?_); rintro e w25 ⟨rfl, hb⟩; refine ⟨_, rfl, ?_⟩; have n0_ := aM (bb BK148.out hb); have n1_ := aM (below_step (zb) hb); clear BK148; clear HB; have BK148 := n0_; have HB := n1_; clear n0_ n1_; (try clear hb); (try clear hb2); (try clear hk); (try clear hi)))
       go_ret
       exact ⟨zr, zb⟩
     ·rw [if_neg c18] at H
      have c18b0 : (a0_1 == 1) = false := beq_eq_false_iff_ne.mpr c18
      have c18b1 : (a0_1 != 1) = true := bne_iff_ne.mpr c18
      by_cases c26 : a0_1 = 2
      ·rw [if_pos c26] at H
       have c26b0 : (a0_1 == 2) = true := beq_iff_eq.mpr c26
       have c26b1 : (a0_1 != 2) = false := bne_eq_false_iff_eq.mpr c26
       clear c26
       replace H := Option.bind_eq_some_iff.mp H
       obtain ⟨t152, A270, H⟩ := H
       replace H : (if t152 = true then (if a0_2 = true then (some (!a0_3)) else (some false)) else (some false)) = some r := H
       have A27 := aM A270
       clear A270
       by_cases c28 : t152 = true
       ·subst c28
        have H1 : (if a0_2 = true then (some (!a0_3)) else (some false)) = some r := by rw [if_pos rfl] at H; exact H
        clear H
        have H := H1
        clear H1
        by_cases c29 : a0_2 = true
        ·subst c29
         have H1 : (some (!a0_3)) = some r := by rw [if_pos rfl] at H; exact H
         clear H
         have H := H1
         clear H1
         obtain rfl := Option.some.inj H
         obtain ⟨hcz30_0, hcz30_1, hcz30_2, hcz30_3, hcz30_4, hfz30_0, hfz30_1, hfz30_2, hfz30_3, hfz30_4⟩ := cells5 BK148.out
         go_wp2_with (first | ((with_reducible refine gate_callee (f := 53) rfl ?_); refine goesL_ (some 47) rfl rfl Try.func53 (by kernel_rfl) rfl #[.agg #[.int .i64 a0_0, .int .i64 a0_1, .bool true, .bool a0_3, .bool a0_4]] rfl za ?_; (with_reducible refine (spec_l04Before.calls a0_0 a0_1 true a0_3 a0_4 true _ A27.out).mono ?_); rintro e w31 ⟨rfl, hb⟩; refine ⟨_, rfl, ?_⟩; have n0_ := aM (bb BK148.out hb); have n1_ := aM (below_step (zb) hb); clear BK148; clear HB; have BK148 := n0_; have HB := n1_; clear n0_ n1_; (try clear hb); (try clear hb2); (try clear hk); (try clear hi); obtain ⟨hcz32_0, hcz32_1, hcz32_2, hcz32_3, hcz32_4, hfz32_0, hfz32_1, hfz32_2, hfz32_3, hfz32_4⟩ := cells5 BK148.out))
         go_ret
         exact ⟨zr, zb⟩
        ·replace c29 := Bool.eq_false_iff.mpr c29
         subst c29
         have H1 : (some false) = some r := by rw [if_neg (show ¬ (false = true) by decide)] at H; exact H
         clear H
         have H := H1
         clear H1
         obtain rfl := Option.some.inj H
         obtain ⟨hcz33_0, hcz33_1, hcz33_2, hcz33_3, hcz33_4, hfz33_0, hfz33_1, hfz33_2, hfz33_3, hfz33_4⟩ := cells5 BK148.out
         go_wp2_with (first | ((with_reducible refine gate_callee (f := 53) rfl ?_); refine goesL_ (some 47) rfl rfl Try.func53 (by kernel_rfl) rfl #[.agg #[.int .i64 a0_0, .int .i64 a0_1, .bool false, .bool a0_3, .bool a0_4]] rfl za ?_; (with_reducible refine (spec_l04Before.calls a0_0 a0_1 false a0_3 a0_4 true _ A27.out).mono ?_); rintro e w34 ⟨rfl, hb⟩; refine ⟨_, rfl, ?_⟩; have n0_ := aM (bb BK148.out hb); have n1_ := aM (below_step (zb) hb); clear BK148; clear HB; have BK148 := n0_; have HB := n1_; clear n0_ n1_; (try clear hb); (try clear hb2); (try clear hk); (try clear hi); obtain ⟨hcz35_0, hcz35_1, hcz35_2, hcz35_3, hcz35_4, hfz35_0, hfz35_1, hfz35_2, hfz35_3, hfz35_4⟩ := cells5 BK148.out))
         go_ret
         exact ⟨zr, zb⟩
       ·replace c28 := Bool.eq_false_iff.mpr c28
        subst c28
        have H1 : (some false) = some r := by rw [if_neg (show ¬ (false = true) by decide)] at H; exact H
        clear H
        have H := H1
        clear H1
        obtain rfl := Option.some.inj H
        obtain ⟨hcz36_0, hcz36_1, hcz36_2, hcz36_3, hcz36_4, hfz36_0, hfz36_1, hfz36_2, hfz36_3, hfz36_4⟩ := cells5 BK148.out
        go_wp2_with (first | ((with_reducible refine gate_callee (f := 53) rfl ?_); refine goesL_ (some 47) rfl rfl Try.func53 (by kernel_rfl) rfl #[.agg #[.int .i64 a0_0, .int .i64 a0_1, .bool a0_2, .bool a0_3, .bool a0_4]] rfl za ?_; (with_reducible refine (spec_l04Before.calls a0_0 a0_1 a0_2 a0_3 a0_4 false _ A27.out).mono ?_); rintro e w37 ⟨rfl, hb⟩; refine ⟨_, rfl, ?_⟩; have n0_ := aM (bb BK148.out hb); have n1_ := aM (below_step (zb) hb); clear BK148; clear HB; have BK148 := n0_; have HB := n1_; clear n0_ n1_; (try clear hb); (try clear hb2); (try clear hk); (try clear hi)))
        go_ret
        exact ⟨zr, zb⟩
      ·rw [if_neg c26] at H
       have c26b0 : (a0_1 == 2) = false := beq_eq_false_iff_ne.mpr c26
       have c26b1 : (a0_1 != 2) = true := bne_iff_ne.mpr c26
       by_cases c38 : a0_1 = 3
       ·rw [if_pos c38] at H
        have c38b0 : (a0_1 == 3) = true := beq_iff_eq.mpr c38
        have c38b1 : (a0_1 != 3) = false := bne_eq_false_iff_eq.mpr c38
        clear c38
        replace H := Option.bind_eq_some_iff.mp H
        obtain ⟨t153, A390, H⟩ := H
        replace H : (if t153 = true then (some a0_3) else (some false)) = some r := H
        have A39 := aM A390
        clear A390
        by_cases c40 : t153 = true
        ·subst c40
         have H1 : (some a0_3) = some r := by rw [if_pos rfl] at H; exact H
         clear H
         have H := H1
         clear H1
         obtain rfl := Option.some.inj H
         obtain ⟨hcz41_0, hcz41_1, hcz41_2, hcz41_3, hcz41_4, hfz41_0, hfz41_1, hfz41_2, hfz41_3, hfz41_4⟩ := cells5 BK148.out
         go_wp2_with (first | ((with_reducible refine gate_callee (f := 53) rfl ?_); refine goesL_ (some 60) rfl rfl Try.func53 (by kernel_rfl) rfl #[.agg #[.int .i64 a0_0, .int .i64 a0_1, .bool a0_2, .bool a0_3, .bool a0_4]] rfl za ?_; (with_reducible refine (spec_l04Before.calls a0_0 a0_1 a0_2 a0_3 a0_4 true _ A39.out).mono ?_); rintro e w42 ⟨rfl, hb⟩; refine ⟨_, rfl, ?_⟩; have n0_ := aM (bb BK148.out hb); have n1_ := aM (below_step (zb) hb); clear BK148; clear HB; have BK148 := n0_; have HB := n1_; clear n0_ n1_; (try clear hb); (try clear hb2); (try clear hk); (try clear hi); obtain ⟨hcz43_0, hcz43_1, hcz43_2, hcz43_3, hcz43_4, hfz43_0, hfz43_1, hfz43_2, hfz43_3, hfz43_4⟩ := cells5 BK148.out))
         go_ret
         exact ⟨zr, zb⟩
        ·replace c40 := Bool.eq_false_iff.mpr c40
         subst c40
         have H1 : (some false) = some r := by rw [if_neg (show ¬ (false = true) by decide)] at H; exact H
         clear H
         have H := H1
         clear H1
         obtain rfl := Option.some.inj H
         obtain ⟨hcz44_0, hcz44_1, hcz44_2, hcz44_3, hcz44_4, hfz44_0, hfz44_1, hfz44_2, hfz44_3, hfz44_4⟩ := cells5 BK148.out
         go_wp2_with (first | ((with_reducible refine gate_callee (f := 53) rfl ?_); refine goesL_ (some 60) rfl rfl Try.func53 (by kernel_rfl) rfl #[.agg #[.int .i64 a0_0, .int .i64 a0_1, .bool a0_2, .bool a0_3, .bool a0_4]] rfl za ?_; (with_reducible refine (spec_l04Before.calls a0_0 a0_1 a0_2 a0_3 a0_4 false _ A39.out).mono ?_); rintro e w45 ⟨rfl, hb⟩; refine ⟨_, rfl, ?_⟩; have n0_ := aM (bb BK148.out hb); have n1_ := aM (below_step (zb) hb); clear BK148; clear HB; have BK148 := n0_; have HB := n1_; clear n0_ n1_; (try clear hb); (try clear hb2); (try clear hk); (try clear hi)))
         go_ret
         exact ⟨zr, zb⟩
       ·rw [if_neg c38] at H
        have c38b0 : (a0_1 == 3) = false := beq_eq_false_iff_ne.mpr c38
        have c38b1 : (a0_1 != 3) = true := bne_iff_ne.mpr c38
        by_cases c46 : a0_1 = 4
        ·rw [if_pos c46] at H
         have c46b0 : (a0_1 == 4) = true := beq_iff_eq.mpr c46
         have c46b1 : (a0_1 != 4) = false := bne_eq_false_iff_eq.mpr c46
         clear c46
         replace H := Option.bind_eq_some_iff.mp H
         obtain ⟨t154, A470, H⟩ := H
         replace H : (if t154 = true then (some false) else (some a0_3)) = some r := H
         have A47 := aM A470
         clear A470
         by_cases c48 : t154 = true
         ·subst c48
          have H1 : (some false) = some r := by rw [if_pos rfl] at H; exact H
          clear H
          have H := H1
          clear H1
          obtain rfl := Option.some.inj H
          obtain ⟨hcz49_0, hcz49_1, hcz49_2, hcz49_3, hcz49_4, hfz49_0, hfz49_1, hfz49_2, hfz49_3, hfz49_4⟩ := cells5 BK148.out
          go_wp2_with (first | ((with_reducible refine gate_callee (f := 53) rfl ?_); refine goesL_ (some 68) rfl rfl Try.func53 (by kernel_rfl) rfl #[.agg #[.int .i64 a0_0, .int .i64 a0_1, .bool a0_2, .bool a0_3, .bool a0_4]] rfl za ?_; (with_reducible refine (spec_l04Before.calls a0_0 a0_1 a0_2 a0_3 a0_4 true _ A47.out).mono ?_); rintro e w50 ⟨rfl, hb⟩; refine ⟨_, rfl, ?_⟩; have n0_ := aM (bb BK148.out hb); have n1_ := aM (below_step (zb) hb); clear BK148; clear HB; have BK148 := n0_; have HB := n1_; clear n0_ n1_; (try clear hb); (try clear hb2); (try clear hk); (try clear hi)))
          go_ret
          exact ⟨zr, zb⟩
         ·replace c48 := Bool.eq_false_iff.mpr c48
          subst c48
          have H1 : (some a0_3) = some r := by rw [if_neg (show ¬ (false = true) by decide)] at H; exact H
          clear H
          have H := H1
          clear H1
          obtain rfl := Option.some.inj H
          obtain ⟨hcz51_0, hcz51_1, hcz51_2, hcz51_3, hcz51_4, hfz51_0, hfz51_1, hfz51_2, hfz51_3, hfz51_4⟩ := cells5 BK148.out
          go_wp2_with (first | ((with_reducible refine gate_callee (f := 53) rfl ?_); refine goesL_ (some 68) rfl rfl Try.func53 (by kernel_rfl) rfl #[.agg #[.int .i64 a0_0, .int .i64 a0_1, .bool a0_2, .bool a0_3, .bool a0_4]] rfl za ?_; (with_reducible refine (spec_l04Before.calls a0_0 a0_1 a0_2 a0_3 a0_4 false _ A47.out).mono ?_); rintro e w52 ⟨rfl, hb⟩; refine ⟨_, rfl, ?_⟩; have n0_ := aM (bb BK148.out hb); have n1_ := aM (below_step (zb) hb); clear BK148; clear HB; have BK148 := n0_; have HB := n1_; clear n0_ n1_; (try clear hb); (try clear hb2); (try clear hk); (try clear hi); obtain ⟨hcz53_0, hcz53_1, hcz53_2, hcz53_3, hcz53_4, hfz53_0, hfz53_1, hfz53_2, hfz53_3, hfz53_4⟩ := cells5 BK148.out))
          go_ret
          exact ⟨zr, zb⟩
        ·rw [if_neg c46] at H
         have c46b0 : (a0_1 == 4) = false := beq_eq_false_iff_ne.mpr c46
         have c46b1 : (a0_1 != 4) = true := bne_iff_ne.mpr c46
         by_cases c54 : a0_1 = 5
         ·rw [if_pos c54] at H
          have c54b0 : (a0_1 == 5) = true := beq_iff_eq.mpr c54
          have c54b1 : (a0_1 != 5) = false := bne_eq_false_iff_eq.mpr c54
          clear c54
          by_cases c55 : a0_2 = true
          ·subst c55
           have H1 : (some (!a0_3)) = some r := by rw [if_pos rfl] at H; exact H
           clear H
           have H := H1
           clear H1
           obtain rfl := Option.some.inj H
           obtain ⟨hcz56_0, hcz56_1, hcz56_2, hcz56_3, hcz56_4, hfz56_0, hfz56_1, hfz56_2, hfz56_3, hfz56_4⟩ := cells5 BK148.out
           go_wp2
           go_ret
           exact ⟨zr, zb⟩
          ·replace c55 := Bool.eq_false_iff.mpr c55
           subst c55
           have H1 : (some false) = some r := by rw [if_neg (show ¬ (false = true) by decide)] at H; exact H
           clear H
           have H := H1
           clear H1
           obtain rfl := Option.some.inj H
           obtain ⟨hcz57_0, hcz57_1, hcz57_2, hcz57_3, hcz57_4, hfz57_0, hfz57_1, hfz57_2, hfz57_3, hfz57_4⟩ := cells5 BK148.out
           go_wp2
           go_ret
           exact ⟨zr, zb⟩
         ·rw [if_neg c54] at H
          have c54b0 : (a0_1 == 5) = false := beq_eq_false_iff_ne.mpr c54
          have c54b1 : (a0_1 != 5) = true := bne_iff_ne.mpr c54
          by_cases c58 : a0_1 = 6
          ·rw [if_pos c58] at H
           have c58b0 : (a0_1 == 6) = true := beq_iff_eq.mpr c58
           have c58b1 : (a0_1 != 6) = false := bne_eq_false_iff_eq.mpr c58
           clear c58
           obtain rfl := Option.some.inj H
           obtain ⟨hcz59_0, hcz59_1, hcz59_2, hcz59_3, hcz59_4, hfz59_0, hfz59_1, hfz59_2, hfz59_3, hfz59_4⟩ := cells5 BK148.out
           go_wp2
           go_ret
           exact ⟨zr, zb⟩
          ·rw [if_neg c58] at H
           have c58b0 : (a0_1 == 6) = false := beq_eq_false_iff_ne.mpr c58
           have c58b1 : (a0_1 != 6) = true := bne_iff_ne.mpr c58
           obtain rfl := Option.some.inj H
           obtain ⟨hcz60_0, hcz60_1, hcz60_2, hcz60_3, hcz60_4, hfz60_0, hfz60_1, hfz60_2, hfz60_3, hfz60_4⟩ := cells5 BK148.out
           go_wp2
           go_ret
           exact ⟨zr, zb⟩

/-! ### spec_CutPower: function 31 -/
def spec_CutPower.f (k : Nat) (a0_0 : Int) (a0_1 : Int) (a0_2 : Bool) (a0_3 : Bool) (a0_4 : Bool) : Option (Int × Int × Bool × Bool × Bool) := (spec_DoorOk.f k a0_0 a0_1 a0_2 a0_3 a0_4).bind fun t157 => (if t157 = true then (some (a0_0, 0, a0_2, a0_3, a0_4)) else (some (a0_0, a0_1, a0_2, a0_3, a0_4)))
theorem spec_CutPower.mono : ∀ a0 a1 a2 a3 a4 k, LeO (spec_CutPower.f k a0 a1 a2 a3 a4) (spec_CutPower.f (k + 1) a0 a1 a2 a3 a4) := by
 intro a0 a1 a2 a3 a4 k
 unfold spec_CutPower.f
 repeat' first
   | (with_reducible exact spec_DoorOk.mono _ _ _ _ _ _)
   | (with_reducible exact LeO.refl _)
   | (with_reducible exact LeO.none _)
   | (with_reducible refine LeO.ite ?_ ?_)
   | (with_reducible refine LeO.bind ?_ (fun _ => ?_))
   | exact spec_DoorOk.mono _ _ _ _ _ _
   | exact LeO.none _
   | refine LeO.ite ?_ ?_
   | refine LeO.bind ?_ (fun _ => ?_)
set_option maxHeartbeats 8000000 in
set_option maxRecDepth 100000 in
theorem spec_CutPower.calls (k : Nat) (a0_0 : Int) (a0_1 : Int) (a0_2 : Bool) (a0_3 : Bool) (a0_4 : Bool) (r1 : Int) (r2 : Int) (r3 : Bool) (r4 : Bool) (r5 : Bool) (w : World) (h : spec_CutPower.f k a0_0 a0_1 a0_2 a0_3 a0_4 = some (r1, r2, r3, r4, r5)) :
  Calls Try.prog 31 #[.agg #[.int .i64 a0_0, .int .i64 a0_1, .bool a0_2, .bool a0_3, .bool a0_4]] w fun e w' => e = .returned (.agg #[.int .i64 r1, .int .i64 r2, .bool r3, .bool r4, .bool r5]) ∧ Below w.heap.size w w' := by
 have hu24 := Try.underlying24
 have HB := aM (Below.refl w.heap.size w)
 have H : ((spec_DoorOk.f k a0_0 a0_1 a0_2 a0_3 a0_4).bind fun t157 => (if t157 = true then (some (a0_0, 0, a0_2, a0_3, a0_4)) else (some (a0_0, a0_1, a0_2, a0_3, a0_4)))) = some (r1, r2, r3, r4, r5) := h
 clear h
 replace H := Option.bind_eq_some_iff.mp H
 obtain ⟨t157, A20, H⟩ := H
 replace H : (if t157 = true then (some (a0_0, 0, a0_2, a0_3, a0_4)) else (some (a0_0, a0_1, a0_2, a0_3, a0_4))) = some (r1, r2, r3, r4, r5) := H
 have A2 := aM A20
 clear A20
 by_cases c3 : t157 = true
 ·subst c3
  have H1 : (some (a0_0, 0, a0_2, a0_3, a0_4)) = some (r1, r2, r3, r4, r5) := by rw [if_pos rfl] at H; exact H
  clear H
  have H := H1
  clear H1
  simp only [Option.some.injEq, Prod.mk.injEq] at H
  obtain ⟨rfl, rfl, rfl, rfl, rfl⟩ := H
  go_enter Try.func31, Try.ntmps31
  go_wp2_with (first | ((with_reducible refine gate_dst (N := 1) rfl ?_); refine box_event ?hg (N := 1) ?hd (cs := #[.int .i64 a0_0, .int .i64 a0_1, .bool a0_2, .bool a0_3, .bool a0_4]) (t := 24) ?hr ?_; (case hd => rfl); (case hg => rfl); (case hr => exact zg); intro gb155 hg w4 hbox hb; have n0_ := aM (below_step (zb) hb); have n1_ := aM (hbox); have n2_ := aM ((by rw [hg]; exact (below_size (zb)) : w.heap.size ≤ gb155)); have n3_ := aM ((by rw [hg]; exact (below_size (zb)) : w.heap.size ≤ gb155)); clear HB; have HB := n0_; have BK155 := n1_; have GW155 := n2_; have GE155 := n3_; clear n0_ n1_ n2_ n3_; clear hb hbox hg) | ((with_reducible refine gate_dst (N := 2) rfl ?_); refine box_event ?hg (N := 2) ?hd (cs := #[.int .i64 0, .int .i64 0, .bool false, .bool false, .bool false]) (t := 24) ?hr ?_; (case hd => rfl); (case hg => rfl); (case hr => exact zg); intro gb156 hg w5 hbox hb; have n0_ := aM (bb BK155.out hb); have n1_ := aM (below_step (zb) hb); have n2_ := aM (hbox); have n3_ := aM ((by rw [hg]; exact (below_size (zb)) : w.heap.size ≤ gb156)); have n4_ := aM ((by rw [hg]; exact (below_size (zb)) : w.heap.size ≤ gb156)); have n5_ := aM ((by rw [hg]; exact Nat.ne_of_lt (nl BK155.out) : gb155 ≠ gb156)); have n6_ := aM ((by rw [hg]; exact Nat.ne_of_gt (nl BK155.out) : gb156 ≠ gb155)); clear BK155; clear HB; have BK155 := n0_; have HB := n1_; have BK156 := n2_; have GW156 := n3_; have GE156 := n4_; have NB155_156 := n5_; have NB156_155 := n6_; clear n0_ n1_ n2_ n3_ n4_ n5_ n6_; clear hb hbox hg; have hnb6 := NB155_156.out; have hnc6 := NB156_155.out; obtain ⟨hcz7_0, hcz7_1, hcz7_2, hcz7_3, hcz7_4, hfz7_0, hfz7_1, hfz7_2, hfz7_3, hfz7_4⟩ := cells5 BK155.out) | ((with_reducible refine gate_callee (f := 51) rfl ?_); refine goesL_ (some 4) rfl rfl Try.func51 (by kernel_rfl) rfl #[.agg #[.int .i64 a0_0, .int .i64 a0_1, .bool a0_2, .bool a0_3, .bool a0_4]] rfl za ?_; (with_reducible refine (spec_DoorOk.calls k a0_0 a0_1 a0_2 a0_3 a0_4 true _ A2.out).mono ?_); rintro e w8 ⟨rfl, hb⟩; refine ⟨_, rfl, ?_⟩; have n0_ := aM (bb BK155.out hb); have n1_ := aM (bb BK156.out hb); have n2_ := aM (below_step (zb) hb); clear BK155; clear BK156; clear HB; have BK155 := n0_; have BK156 := n1_; have HB := n2_; clear n0_ n1_ n2_; (try clear hb); (try clear hb2); (try clear hk); (try clear hi); obtain ⟨hcz9_0, hcz9_1, hcz9_2, hcz9_3, hcz9_4, hfz9_0, hfz9_1, hfz9_2, hfz9_3, hfz9_4⟩ := cells5 BK155.out; obtain ⟨hcz10_0, hcz10_1, hcz10_2, hcz10_3, hcz10_4, hfz10_0, hfz10_1, hfz10_2, hfz10_3, hfz10_4⟩ := cells5 BK156.out))
  refine bodyPost_ret (results_cell_row rfl _ _ gb156 24 #[.int .i64 a0_0, .int .i64 0, .bool a0_2, .bool a0_3, .bool a0_4] (0, 0) _ rfl (by refine pq ?_; refine blk_put (cs := #[.int .i64 a0_0, .int .i64 0, .bool a0_2, .bool a0_3, .bool false]) ?_ 4 _ rfl; refine pq ?_; refine blk_put (cs := #[.int .i64 a0_0, .int .i64 0, .bool a0_2, .bool false, .bool false]) ?_ 3 _ rfl; refine pq ?_; refine blk_put (cs := #[.int .i64 a0_0, .int .i64 0, .bool false, .bool false, .bool false]) ?_ 2 _ rfl; refine pq ?_; refine blk_put (cs := #[.int .i64 a0_0, .int .i64 0, .bool false, .bool false, .bool false]) ?_ 1 _ rfl; refine pq ?_; refine blk_put (cs := #[.int .i64 0, .int .i64 0, .bool false, .bool false, .bool false]) ?_ 0 _ rfl; refine pq ?_; refine blk_far ?_ NB156_155.out _; refine pq ?_; exact BK156.out) Try.underlying24 rfl (by kernel_rfl)) rfl ?_
  exact ⟨zr, zb⟩
 ·replace c3 := Bool.eq_false_iff.mpr c3
  subst c3
  have H1 : (some (a0_0, a0_1, a0_2, a0_3, a0_4)) = some (r1, r2, r3, r4, r5) := by rw [if_neg (show ¬ (false = true) by decide)] at H; exact H
  clear H
  have H := H1
  clear H1
  simp only [Option.some.injEq, Prod.mk.injEq] at H
  obtain ⟨rfl, rfl, rfl, rfl, rfl⟩ := H
  go_enter Try.func31, Try.ntmps31
  go_wp2_with (first | ((with_reducible refine gate_dst (N := 1) rfl ?_); refine box_event ?hg (N := 1) ?hd (cs := #[.int .i64 a0_0, .int .i64 a0_1, .bool a0_2, .bool a0_3, .bool a0_4]) (t := 24) ?hr ?_; (case hd => rfl); (case hg => rfl); (case hr => exact zg); intro gb155 hg w11 hbox hb; have n0_ := aM (below_step (zb) hb); have n1_ := aM (hbox); have n2_ := aM ((by rw [hg]; exact (below_size (zb)) : w.heap.size ≤ gb155)); have n3_ := aM ((by rw [hg]; exact (below_size (zb)) : w.heap.size ≤ gb155)); clear HB; have HB := n0_; have BK155 := n1_; have GW155 := n2_; have GE155 := n3_; clear n0_ n1_ n2_ n3_; clear hb hbox hg) | ((with_reducible refine gate_dst (N := 2) rfl ?_); refine box_event ?hg (N := 2) ?hd (cs := #[.int .i64 0, .int .i64 0, .bool false, .bool false, .bool false]) (t := 24) ?hr ?_; (case hd => rfl); (case hg => rfl); (case hr => exact zg); intro gb156 hg w12 hbox hb; have n0_ := aM (bb BK155.out hb); have n1_ := aM (below_step (zb) hb); have n2_ := aM (hbox); have n3_ := aM ((by rw [hg]; exact (below_size (zb)) : w.heap.size ≤ gb156)); have n4_ := aM ((by rw [hg]; exact (below_size (zb)) : w.heap.size ≤ gb156)); have n5_ := aM ((by rw [hg]; exact Nat.ne_of_lt (nl BK155.out) : gb155 ≠ gb156)); have n6_ := aM ((by rw [hg]; exact Nat.ne_of_gt (nl BK155.out) : gb156 ≠ gb155)); clear BK155; clear HB; have BK155 := n0_; have HB := n1_; have BK156 := n2_; have GW156 := n3_; have GE156 := n4_; have NB155_156 := n5_; have NB156_155 := n6_; clear n0_ n1_ n2_ n3_ n4_ n5_ n6_; clear hb hbox hg; have hnb13 := NB155_156.out; have hnc13 := NB156_155.out; obtain ⟨hcz14_0, hcz14_1, hcz14_2, hcz14_3, hcz14_4, hfz14_0, hfz14_1, hfz14_2, hfz14_3, hfz14_4⟩ := cells5 BK155.out) | ((with_reducible refine gate_callee (f := 51) rfl ?_); refine goesL_ (some 4) rfl rfl Try.func51 (by kernel_rfl) rfl #[.agg #[.int .i64 a0_0, .int .i64 a0_1, .bool a0_2, .bool a0_3, .bool a0_4]] rfl za ?_; (with_reducible refine (spec_DoorOk.calls k a0_0 a0_1 a0_2 a0_3 a0_4 false _ A2.out).mono ?_); rintro e w15 ⟨rfl, hb⟩; refine ⟨_, rfl, ?_⟩; have n0_ := aM (bb BK155.out hb); have n1_ := aM (bb BK156.out hb); have n2_ := aM (below_step (zb) hb); clear BK155; clear BK156; clear HB; have BK155 := n0_; have BK156 := n1_; have HB := n2_; clear n0_ n1_ n2_; (try clear hb); (try clear hb2); (try clear hk); (try clear hi); obtain ⟨hcz16_0, hcz16_1, hcz16_2, hcz16_3, hcz16_4, hfz16_0, hfz16_1, hfz16_2, hfz16_3, hfz16_4⟩ := cells5 BK155.out; obtain ⟨hcz17_0, hcz17_1, hcz17_2, hcz17_3, hcz17_4, hfz17_0, hfz17_1, hfz17_2, hfz17_3, hfz17_4⟩ := cells5 BK156.out))
  refine bodyPost_ret (results_cell_row rfl _ _ gb156 24 #[.int .i64 a0_0, .int .i64 a0_1, .bool a0_2, .bool a0_3, .bool a0_4] (0, 0) _ rfl (by refine pq ?_; refine blk_put (cs := #[.int .i64 a0_0, .int .i64 a0_1, .bool a0_2, .bool a0_3, .bool false]) ?_ 4 _ rfl; refine pq ?_; refine blk_put (cs := #[.int .i64 a0_0, .int .i64 a0_1, .bool a0_2, .bool false, .bool false]) ?_ 3 _ rfl; refine pq ?_; refine blk_put (cs := #[.int .i64 a0_0, .int .i64 a0_1, .bool false, .bool false, .bool false]) ?_ 2 _ rfl; refine pq ?_; refine blk_put (cs := #[.int .i64 a0_0, .int .i64 0, .bool false, .bool false, .bool false]) ?_ 1 _ rfl; refine pq ?_; refine blk_put (cs := #[.int .i64 0, .int .i64 0, .bool false, .bool false, .bool false]) ?_ 0 _ rfl; refine pq ?_; exact BK156.out) Try.underlying24 rfl (by kernel_rfl)) rfl ?_
  exact ⟨zr, zb⟩

end Go.Proofs.Ytglpkjcblpjnoab.QFnVerdicts
