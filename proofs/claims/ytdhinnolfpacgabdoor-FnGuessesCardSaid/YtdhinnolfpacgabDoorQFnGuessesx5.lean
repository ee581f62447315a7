-- Printed functions and their walks: by print.py, turned by wip/tools/myprint.py.
import Derived.Test.YtdhinnolfpacgabDoorQFnGuessesx0
import Derived.Test.YtdhinnolfpacgabDoorQFnGuessesx2
import Derived.Test.YtdhinnolfpacgabDoorQFnGuessesx3
import Derived.Test.YtdhinnolfpacgabDoorQFnGuessesx4
namespace Go.Proofs.YtdhinnolfpacgabDoor.QFnGuesses
open Go.RowKit Go.Proofs.YtdhinnolfpacgabDoorW.PrintWords Go.Proofs.YtdhinnolfpacgabDoorW.PrintLast Go.Proofs.YtdhinnolfpacgabDoorW.PrintMore
attribute [local go_sem] max2_int min2_int max_two min_two max_three min_three max_four min_four   -- for this text's walks alone
set_option linter.unusedVariables false
set_option linter.unusedSimpArgs false

/-! ### spec_Try: function 9 -/
def spec_Try.j0 : Nat → ByteArray → Int → Bool → Int → Int → Int → Int → Int → Option (Int × Int × Int × Int × Int × Int)
 | 0, _, _, _, _, _, _, _, _ => none
 | k + 1, x1, x2, x19, x179000, x179001, x179002, x179003, x179004 => if x19 = true then (some (x179000, x179001, x179002, x179003, x179004, 4)) else (if x2 < x179004 then (some (x179000, x179001, x179002, x179003, x179004, 1)) else ((spec_MatchOf.f k x179000 x179001 x179002 x179003 x179004 x1).bind fun t182 => (if t182 ≥ 0 then ((spec_l03Enter.f k x179000 x179001 x179002 x179003 x179004 (wrap64 (t182 + 1)) x2).bind fun bt183 => (some (bt183.1, bt183.2.1, bt183.2.2.1, bt183.2.2.2.1, bt183.2.2.2.2.1, bt183.2.2.2.2.2))) else ((spec_l03Enter.f k x179000 x179001 x179002 x179003 x179004 (-1) x2).bind fun bt190 => (some (bt190.1, bt190.2.1, bt190.2.2.1, bt190.2.2.2.1, bt190.2.2.2.2.1, bt190.2.2.2.2.2))))))
def spec_Try.f (k : Nat) (a0_0 : Int) (a0_1 : Int) (a0_2 : Int) (a0_3 : Int) (a0_4 : Int) (a1 : ByteArray) (a2 : Int) : Option (Int × Int × Int × Int × Int × Int) := (spec_LockOk.f a0_0 a0_1 a0_2 a0_3 a0_4).bind fun t180 => (if t180 = true then ((spec_l01In.f a2 0 20000).bind fun t181 => (spec_Try.j0 k a1 a2 (!t181) a0_0 a0_1 a0_2 a0_3 a0_4)) else (spec_Try.j0 k a1 a2 true a0_0 a0_1 a0_2 a0_3 a0_4))
theorem spec_Try.mono_l : ∀ k, (∀ y0 y1 y2 y3 y4 y5 y6 y7, LeO (spec_Try.j0 k y0 y1 y2 y3 y4 y5 y6 y7) (spec_Try.j0 (k + 1) y0 y1 y2 y3 y4 y5 y6 y7))
 | 0 => fun _ _ _ _ _ _ _ _ r h => by simp [spec_Try.j0] at h
 | k + 1 => by
  have ih0 := spec_Try.mono_l k
  ·intro y0 y1 y2 y3 y4 y5 y6 y7
   unfold spec_Try.j0
   repeat' first
   | (with_reducible exact ih0 _ _ _ _ _ _ _ _)
   | (with_reducible exact spec_MatchOf.mono _ _ _ _ _ _ _)
   | (with_reducible exact spec_l03Enter.mono _ _ _ _ _ _ _ _)
   | (with_reducible exact LeO.refl _)
   | (with_reducible exact LeO.none _)
   | (with_reducible refine LeO.ite ?_ ?_)
   | (with_reducible refine LeO.bind ?_ (fun _ => ?_))
   | exact ih0 _ _ _ _ _ _ _ _
   | exact spec_MatchOf.mono _ _ _ _ _ _ _
   | exact spec_l03Enter.mono _ _ _ _ _ _ _ _
   | exact LeO.none _
   | refine LeO.ite ?_ ?_
   | refine LeO.bind ?_ (fun _ => ?_)
theorem spec_Try.mono : ∀ a0 a1 a2 a3 a4 a5 a6 k, LeO (spec_Try.f k a0 a1 a2 a3 a4 a5 a6) (spec_Try.f (k + 1) a0 a1 a2 a3 a4 a5 a6) := by
 intro a0 a1 a2 a3 a4 a5 a6 k
 have ih0 := spec_Try.mono_l k
 unfold spec_Try.f
 repeat' first
   | (with_reducible exact ih0 _ _ _ _ _ _ _ _)
   | (with_reducible exact spec_MatchOf.mono _ _ _ _ _ _ _)
   | (with_reducible exact spec_l03Enter.mono _ _ _ _ _ _ _ _)
   | (with_reducible exact LeO.refl _)
   | (with_reducible exact LeO.none _)
   | (with_reducible refine LeO.ite ?_ ?_)
   | (with_reducible refine LeO.bind ?_ (fun _ => ?_))
   | exact ih0 _ _ _ _ _ _ _ _
   | exact spec_MatchOf.mono _ _ _ _ _ _ _
   | exact spec_l03Enter.mono _ _ _ _ _ _ _ _
   | exact LeO.none _
   | refine LeO.ite ?_ ?_
   | refine LeO.bind ?_ (fun _ => ?_)
set_option maxHeartbeats 8000000 in
set_option maxRecDepth 100000 in
theorem spec_Try.calls (k : Nat) (a0_0 : Int) (a0_1 : Int) (a0_2 : Int) (a0_3 : Int) (a0_4 : Int) (a1 : ByteArray) (a2 : Int) (r1 : Int) (r2 : Int) (r3 : Int) (r4 : Int) (r5 : Int) (r6 : Int) (w : World) (h : spec_Try.f k a0_0 a0_1 a0_2 a0_3 a0_4 a1 a2 = some (r1, r2, r3, r4, r5, r6)) :
  Calls Tryd.prog 9 #[.agg #[.int .i64 a0_0, .int .i64 a0_1, .int .i64 a0_2, .int .i64 a0_3, .int .i64 a0_4], .string a1, .int .i64 a2] w fun e w' => e = .returned (.tuple #[.agg #[.int .i64 r1, .int .i64 r2, .int .i64 r3, .int .i64 r4, .int .i64 r5], .int .i64 r6]) ∧ Below w.heap.size w w' := by
 have hu25 := Tryd.underlying25
 have HB := aM (Below.refl w.heap.size w)
 have H : ((spec_LockOk.f a0_0 a0_1 a0_2 a0_3 a0_4).bind fun t180 => (if t180 = true then ((spec_l01In.f a2 0 20000).bind fun t181 => (spec_Try.j0 k a1 a2 (!t181) a0_0 a0_1 a0_2 a0_3 a0_4)) else (spec_Try.j0 k a1 a2 true a0_0 a0_1 a0_2 a0_3 a0_4))) = some (r1, r2, r3, r4, r5, r6) := h
 clear h
 have HC4 := aM H
 clear H
 go_enter Tryd.func9, Tryd.ntmps9
 go_upto_region 1 with (first | ((with_reducible refine gate_dst (N := 3) rfl ?_); refine box_event ?hg (N := 3) ?hd (cs := #[.int .i64 a0_0, .int .i64 a0_1, .int .i64 a0_2, .int .i64 a0_3, .int .i64 a0_4]) (t := 25) ?hr ?_; (case hd => rfl); (case hg => rfl); (case hr => exact zg); intro gb178 hg w5 hbox hb; have n0_ := aM (below_step (zb) hb); have n1_ := aM (hbox); have n2_ := aM ((by rw [hg]; exact (below_size (zb)) : w.heap.size ≤ gb178)); have n3_ := aM ((by rw [hg]; exact (below_size (zb)) : w.heap.size ≤ gb178)); clear HB; have HB := n0_; have BK178 := n1_; have GW178 := n2_; have GE178 := n3_; clear n0_ n1_ n2_ n3_; clear hb hbox hg) | ((with_reducible refine gate_dst (N := 6) rfl ?_); refine box_event ?hg (N := 6) ?hd (cs := #[.int .i64 0, .int .i64 0, .int .i64 0, .int .i64 0, .int .i64 0]) (t := 25) ?hr ?_; (case hd => rfl); (case hg => rfl); (case hr => exact zg); intro gb179 hg w6 hbox hb; have n0_ := aM (bb BK178.out hb); have n1_ := aM (below_step (zb) hb); have n2_ := aM (hbox); have n3_ := aM ((by rw [hg]; exact (below_size (zb)) : w.heap.size ≤ gb179)); have n4_ := aM ((by rw [hg]; exact (below_size (zb)) : w.heap.size ≤ gb179)); have n5_ := aM ((by rw [hg]; exact Nat.ne_of_lt (nl BK178.out) : gb178 ≠ gb179)); have n6_ := aM ((by rw [hg]; exact Nat.ne_of_gt (nl BK178.out) : gb179 ≠ gb178)); clear BK178; clear HB; have BK178 := n0_; have HB := n1_; have BK179 := n2_; have GW179 := n3_; have GE179 := n4_; have NB178_179 := n5_; have NB179_178 := n6_; clear n0_ n1_ n2_ n3_ n4_ n5_ n6_; clear hb hbox hg))
 (try simp only [Act.put, List.setIfInBounds_toArray, List.set_cons_zero, List.set_cons_succ])
 go_cut [19] (fun v19 wc => ∃ (kq : Nat) (x19_3 : Bool), v19 = .bool x19_3 ∧ Aside0 (spec_Try.j0 kq a1 a2 x19_3 a0_0 a0_1 a0_2 a0_3 a0_4 = some (r1, r2, r3, r4, r5, r6)) ∧ Aside0 (kq ≤ k) ∧ Aside0 (wc.heap[gb178]? = some (.cells #[.int .i64 a0_0, .int .i64 a0_1, .int .i64 a0_2, .int .i64 a0_3, .int .i64 a0_4] 25 (0, 0))) ∧ Aside0 (wc.heap[gb179]? = some (.cells #[.int .i64 0, .int .i64 0, .int .i64 0, .int .i64 0, .int .i64 0] 25 (0, 0))) ∧ Aside0 (Below w.heap.size w wc))
 case first =>
  have H := HC4.out
  clear HC4
  replace H := Option.bind_eq_some_iff.mp H
  obtain ⟨t180, A70, H⟩ := H
  replace H : (if t180 = true then ((spec_l01In.f a2 0 20000).bind fun t181 => (spec_Try.j0 k a1 a2 (!t181) a0_0 a0_1 a0_2 a0_3 a0_4)) else (spec_Try.j0 k a1 a2 true a0_0 a0_1 a0_2 a0_3 a0_4)) = some (r1, r2, r3, r4, r5, r6) := H
  have A7 := aM A70
  clear A70
  by_cases c8 : t180 = true
  ·subst c8
   have H1 : ((spec_l01In.f a2 0 20000).bind fun t181 => (spec_Try.j0 k a1 a2 (!t181) a0_0 a0_1 a0_2 a0_3 a0_4)) = some (r1, r2, r3, r4, r5, r6) := by rw [if_pos rfl] at H; exact H
   clear H
   have H := H1
   clear H1
   replace H := Option.bind_eq_some_iff.mp H
   obtain ⟨t181, A90, H⟩ := H
   replace H : (spec_Try.j0 k a1 a2 (!t181) a0_0 a0_1 a0_2 a0_3 a0_4) = some (r1, r2, r3, r4, r5, r6) := H
   have A9 := aM A90
   clear A90
   have H' := aM H
   clear H
   have hnb10 := NB178_179.out
   have hnc10 := NB179_178.out
   obtain ⟨hcz11_0, hcz11_1, hcz11_2, hcz11_3, hcz11_4, hfz11_0, hfz11_1, hfz11_2, hfz11_3, hfz11_4⟩ := cells5 BK178.out
   go_wp2_with (first | ((with_reducible refine gate_callee (f := 18) rfl ?_); refine goesL_ (some 13) rfl rfl Tryd.func18 (by kernel_rfl) rfl #[.agg #[.int .i64 a0_0, .int .i64 a0_1, .int .i64 a0_2, .int .i64 a0_3, .int .i64 a0_4]] rfl za ?_; (with_reducible refine (spec_LockOk.calls a0_0 a0_1 a0_2 a0_3 a0_4 true _ A7.out).mono ?_); rintro e w12 ⟨rfl, hb⟩; refine ⟨_, rfl, ?_⟩; have n0_ := aM (bb BK178.out hb); have n1_ := aM (bb BK179.out hb); have n2_ := aM (below_step (zb) hb); clear BK178; clear BK179; clear HB; have BK178 := n0_; have BK179 := n1_; have HB := n2_; clear n0_ n1_ n2_; (try clear hb); (try clear hb2); (try clear hk); (try clear hi)) | (go_at_call 19; (with_reducible refine (spec_l01In.calls a2 0 20000 t181 _ A9.out).mono ?_); rintro e w' ⟨rfl, ⟨nd, rfl⟩⟩))
   go_meet
   case rel => exact ⟨_, (!t181), zs, H', ⟨by first | omega | exact Nat.le_refl _⟩, ⟨by exact pk BK178.out⟩, ⟨by exact pk BK179.out⟩, ⟨zb⟩⟩
  ·replace c8 := Bool.eq_false_iff.mpr c8
   subst c8
   have H1 : (spec_Try.j0 k a1 a2 true a0_0 a0_1 a0_2 a0_3 a0_4) = some (r1, r2, r3, r4, r5, r6) := by rw [if_neg (show ¬ (false = true) by decide)] at H; exact H
   clear H
   have H := H1
   clear H1
   have H' := aM H
   clear H
   have hnb13 := NB178_179.out
   have hnc13 := NB179_178.out
   obtain ⟨hcz14_0, hcz14_1, hcz14_2, hcz14_3, hcz14_4, hfz14_0, hfz14_1, hfz14_2, hfz14_3, hfz14_4⟩ := cells5 BK178.out
   go_wp2_with (first | ((with_reducible refine gate_callee (f := 18) rfl ?_); refine goesL_ (some 13) rfl rfl Tryd.func18 (by kernel_rfl) rfl #[.agg #[.int .i64 a0_0, .int .i64 a0_1, .int .i64 a0_2, .int .i64 a0_3, .int .i64 a0_4]] rfl za ?_; (with_reducible refine (spec_LockOk.calls a0_0 a0_1 a0_2 a0_3 a0_4 false _ A7.out).mono ?_); rintro e w15 ⟨rfl, hb⟩; refine ⟨_, rfl, ?_⟩; have n0_ := aM (bb BK178.out hb); have n1_ := aM (bb BK179.out hb); have n2_ := aM (below_step (zb) hb); clear BK178; clear BK179; clear HB; have BK178 := n0_; have BK179 := n1_; have HB := n2_; clear n0_ n1_ n2_; (try clear hb); (try clear hb2); (try clear hk); (try clear hi)))
   go_meet
   case rel => exact ⟨_, (true), zs, H', ⟨by first | omega | exact Nat.le_refl _⟩, ⟨by exact pk BK178.out⟩, ⟨by exact pk BK179.out⟩, ⟨zb⟩⟩
 case rest =>
  clear HC4
  try clear c1
  try clear p2
  try clear c8
  try clear c9
  try clear c10
  try clear c13
  try clear hcz11_0 hcz11_1 hcz11_2 hcz11_3 hcz11_4 hfz11_0 hfz11_1 hfz11_2 hfz11_3 hfz11_4
  try clear hcz14_0 hcz14_1 hcz14_2 hcz14_3 hcz14_4 hfz14_0 hfz14_1 hfz14_2 hfz14_3 hfz14_4
  obtain ⟨kq, x19_3, rfl, HA, HJ3, BK178, BK179, HB⟩ := hcut
  cases kq with
  | zero => exact absurd HA.out (by simp [spec_Try.j0])
  | succ kj3 =>
   have H := HA.out
   clear HA
   simp only [spec_Try.j0] at H
   by_cases c16 : x19_3 = true
   ·subst c16
    have H1 : (some (a0_0, a0_1, a0_2, a0_3, a0_4, 4)) = some (r1, r2, r3, r4, r5, r6) := by rw [if_pos rfl] at H; exact H
    clear H
    have H := H1
    clear H1
    simp only [Option.some.injEq, Prod.mk.injEq] at H
    obtain ⟨rfl, rfl, rfl, rfl, rfl, rfl⟩ := H
    have hnb17 := NB178_179.out
    have hnc17 := NB179_178.out
    obtain ⟨hcz18_0, hcz18_1, hcz18_2, hcz18_3, hcz18_4, hfz18_0, hfz18_1, hfz18_2, hfz18_3, hfz18_4⟩ := cells5 BK178.out
    obtain ⟨hcz19_0, hcz19_1, hcz19_2, hcz19_3, hcz19_4, hfz19_0, hfz19_1, hfz19_2, hfz19_3, hfz19_4⟩ := cells5 BK179.out
    go_wp2
    refine bodyPost_ret (results_ct rfl _ _ gb179 25 #[.int .i64 a0_0, .int .i64 a0_1, .int .i64 a0_2, .int .i64 a0_3, .int .i64 a0_4] (0, 0) _ rfl (by refine pq ?_; refine blk_put (cs := #[.int .i64 a0_0, .int .i64 a0_1, .int .i64 a0_2, .int .i64 a0_3, .int .i64 0]) ?_ 4 _ rfl; refine pq ?_; refine blk_put (cs := #[.int .i64 a0_0, .int .i64 a0_1, .int .i64 a0_2, .int .i64 0, .int .i64 0]) ?_ 3 _ rfl; refine pq ?_; refine blk_put (cs := #[.int .i64 a0_0, .int .i64 a0_1, .int .i64 0, .int .i64 0, .int .i64 0]) ?_ 2 _ rfl; refine pq ?_; refine blk_put (cs := #[.int .i64 a0_0, .int .i64 0, .int .i64 0, .int .i64 0, .int .i64 0]) ?_ 1 _ rfl; refine pq ?_; refine blk_put (cs := #[.int .i64 0, .int .i64 0, .int .i64 0, .int .i64 0, .int .i64 0]) ?_ 0 _ rfl; refine pq ?_; exact BK179.out) Tryd.underlying25 rfl (by kernel_rfl)) rfl ?_
    exact ⟨zr, zb⟩
   ·replace c16 := Bool.eq_false_iff.mpr c16
    subst c16
    have H1 : (if a2 < a0_4 then (some (a0_0, a0_1, a0_2, a0_3, a0_4, 1)) else ((spec_MatchOf.f kj3 a0_0 a0_1 a0_2 a0_3 a0_4 a1).bind fun t182 => (if t182 ≥ 0 then ((spec_l03Enter.f kj3 a0_0 a0_1 a0_2 a0_3 a0_4 (wrap64 (t182 + 1)) a2).bind fun bt183 => (some (bt183.1, bt183.2.1, bt183.2.2.1, bt183.2.2.2.1, bt183.2.2.2.2.1, bt183.2.2.2.2.2))) else ((spec_l03Enter.f kj3 a0_0 a0_1 a0_2 a0_3 a0_4 (-1) a2).bind fun bt190 => (some (bt190.1, bt190.2.1, bt190.2.2.1, bt190.2.2.2.1, bt190.2.2.2.2.1, bt190.2.2.2.2.2)))))) = some (r1, r2, r3, r4, r5, r6) := by rw [if_neg (show ¬ (false = true) by decide)] at H; exact H
    clear H
    have H := H1
    clear H1
    by_cases c20 : a2 < a0_4
    ·rw [if_pos c20] at H
     have c20b0 : decide (a2 < a0_4) = true := decide_eq_true c20
     clear c20
     simp only [Option.some.injEq, Prod.mk.injEq] at H
     obtain ⟨rfl, rfl, rfl, rfl, rfl, rfl⟩ := H
     have hnb21 := NB178_179.out
     have hnc21 := NB179_178.out
     obtain ⟨hcz22_0, hcz22_1, hcz22_2, hcz22_3, hcz22_4, hfz22_0, hfz22_1, hfz22_2, hfz22_3, hfz22_4⟩ := cells5 BK178.out
     obtain ⟨hcz23_0, hcz23_1, hcz23_2, hcz23_3, hcz23_4, hfz23_0, hfz23_1, hfz23_2, hfz23_3, hfz23_4⟩ := cells5 BK179.out
     go_wp2
     refine bodyPost_ret (results_ct rfl _ _ gb179 25 #[.int .i64 a0_0, .int .i64 a0_1, .int .i64 a0_2, .int .i64 a0_3, .int .i64 a0_4] (0, 0) _ rfl (by refine pq ?_; refine blk_put (cs := #[.int .i64 a0_0, .int .i64 a0_1, .int .i64 a0_2, .int .i64 a0_3, .int .i64 0]) ?_ 4 _ rfl; refine pq ?_; refine blk_put (cs := #[.int .i64 a0_0, .int .i64 a0_1, .int .i64 a0_2, .int .i64 0, .int .i64 0]) ?_ 3 _ rfl; refine pq ?_; refine blk_put (cs := #[.int .i64 a0_0, .int .i64 a0_1, .int .i64 0, .int .i64 0, .int .i64 0]) ?_ 2 _ rfl; refine pq ?_; refine blk_put (cs := #[.int .i64 a0_0, .int .i64 0, .int .i64 0, .int .i64 0, .int .i64 0]) ?_ 1 _ rfl; refine pq ?_; refine blk_put (cs := #[.int .i64 0, .int .i64 0, .int .i64 0, .int .i64 0, .int .i64 0]) ?_ 0 _ rfl; refine pq ?_; exact BK179.out) Tryd.underlying25 rfl (by kernel_rfl)) rfl ?_
     exact ⟨zr, zb⟩
    ·rw [if_neg c20] at H
     have c20b0 : decide (a2 < a0_4) = false := decide_eq_false c20
     clear c20
     replace H := Option.bind_eq_some_iff.mp H
     obtain ⟨t182, A240, H⟩ := H
     replace H : (if t182 ≥ 0 then ((spec_l03Enter.f kj3 a0_0 a0_1 a0_2 a0_3 a0_4 (wrap64 (t182 + 1)) a2).bind fun bt183 => (some (bt183.1, bt183.2.1, bt183.2.2.1, bt183.2.2.2.1, bt183.2.2.2.2.1, bt183.2.2.2.2.2))) else ((spec_l03Enter.f kj3 a0_0 a0_1 a0_2 a0_3 a0_4 (-1) a2).bind fun bt190 => (some (bt190.1, bt190.2.1, bt190.2.2.1, bt190.2.2.2.1, bt190.2.2.2.2.1, bt190.2.2.2.2.2)))) = some (r1, r2, r3, r4, r5, r6) := H
     have A24 := aM A240
     clear A240
     by_cases c25 : t182 ≥ 0
     ·rw [if_pos c25] at H
      have c25b0 : decide (0 ≤ t182) = true := decide_eq_true c25
      clear c25
      replace H := Option.bind_eq_some_iff.mp H
      obtain ⟨⟨t183, t184, t185, t186, t187, t188⟩, A260, H⟩ := H
      replace H : (some (t183, t184, t185, t186, t187, t188)) = some (r1, r2, r3, r4, r5, r6) := H
      have A26 := aM A260
      clear A260
      simp only [Option.some.injEq, Prod.mk.injEq] at H
      obtain ⟨rfl, rfl, rfl, rfl, rfl, rfl⟩ := H
      have hnb27 := NB178_179.out
      have hnc27 := NB179_178.out
      obtain ⟨hcz28_0, hcz28_1, hcz28_2, hcz28_3, hcz28_4, hfz28_0, hfz28_1, hfz28_2, hfz28_3, hfz28_4⟩ := cells5 BK178.out
      go_wp2_with (first | ((with_reducible refine gate_callee (f := 20) rfl ?_); refine goesL_ (some 28) rfl rfl Tryd.func20 (by kernel_rfl) rfl #[.agg #[.int .i64 a0_0, .int .i64 a0_1, .int .i64 a0_2, .int .i64 a0_3, .int .i64 a0_4], .string a1] rfl za ?_; (with_reducible refine (spec_MatchOf.calls kj3 a0_0 a0_1 a0_2 a0_3 a0_4 a1 t182 _ A24.out).mono ?_); rintro e w29 ⟨rfl, hb⟩; refine ⟨_, rfl, ?_⟩; have n0_ := aM (bb BK178.out hb); have n1_ := aM (bb BK179.out hb); have n2_ := aM (below_step (zb) hb); clear BK178; clear BK179; clear HB; have BK178 := n0_; have BK179 := n1_; have HB := n2_; clear n0_ n1_ n2_; (try clear hb); (try clear hb2); (try clear hk); (try clear hi); obtain ⟨hcz30_0, hcz30_1, hcz30_2, hcz30_3, hcz30_4, hfz30_0, hfz30_1, hfz30_2, hfz30_3, hfz30_4⟩ := cells5 BK178.out) | ((with_reducible refine gate_callee (f := 21) rfl ?_); refine goesL_ (some 37) rfl rfl Tryd.func21 (by kernel_rfl) rfl #[.agg #[.int .i64 a0_0, .int .i64 a0_1, .int .i64 a0_2, .int .i64 a0_3, .int .i64 a0_4], .int .i64 (wrap64 (t182 + 1)), .int .i64 a2] rfl za ?_; (with_reducible refine (spec_l03Enter.calls kj3 a0_0 a0_1 a0_2 a0_3 a0_4 (wrap64 (t182 + 1)) a2 t183 t184 t185 t186 t187 t188 _ A26.out).mono ?_); rintro e w31 ⟨rfl, hb⟩; refine ⟨_, rfl, ?_⟩; have n0_ := aM (bb BK178.out hb); have n1_ := aM (bb BK179.out hb); have n2_ := aM (below_step (zb) hb); clear BK178; clear BK179; clear HB; have BK178 := n0_; have BK179 := n1_; have HB := n2_; clear n0_ n1_ n2_; (try clear hb); (try clear hb2); (try clear hk); (try clear hi)) | ((with_reducible refine gate_dst (N := 10) rfl ?_); refine box_event ?hg (N := 10) ?hd (cs := #[.int .i64 0, .int .i64 0, .int .i64 0, .int .i64 0, .int .i64 0]) (t := 25) ?hr ?_; (case hd => rfl); (case hg => rfl); (case hr => exact zg); intro gb189 hg w32 hbox hb; have n0_ := aM (bb BK178.out hb); have n1_ := aM (bb BK179.out hb); have n2_ := aM (below_step (zb) hb); have n3_ := aM (hbox); have n4_ := aM ((by rw [hg]; exact (below_size (zb)) : w.heap.size ≤ gb189)); have n5_ := aM ((by rw [hg]; exact (below_size (zb)) : w.heap.size ≤ gb189)); have n6_ := aM ((by rw [hg]; exact Nat.ne_of_lt (nl BK178.out) : gb178 ≠ gb189)); have n7_ := aM ((by rw [hg]; exact Nat.ne_of_gt (nl BK178.out) : gb189 ≠ gb178)); have n8_ := aM ((by rw [hg]; exact Nat.ne_of_lt (nl BK179.out) : gb179 ≠ gb189)); have n9_ := aM ((by rw [hg]; exact Nat.ne_of_gt (nl BK179.out) : gb189 ≠ gb179)); clear BK178; clear BK179; clear HB; have BK178 := n0_; have BK179 := n1_; have HB := n2_; have BK189 := n3_; have GW189 := n4_; have GE189 := n5_; have NB178_189 := n6_; have NB189_178 := n7_; have NB179_189 := n8_; have NB189_179 := n9_; clear n0_ n1_ n2_ n3_ n4_ n5_ n6_ n7_ n8_ n9_; clear hb hbox hg; have hnb33 := NB189_178.out; have hnc33 := NB178_189.out; have hnb34 := NB189_179.out; have hnc34 := NB179_189.out; obtain ⟨hcz35_0, hcz35_1, hcz35_2, hcz35_3, hcz35_4, hfz35_0, hfz35_1, hfz35_2, hfz35_3, hfz35_4⟩ := cells5 BK189.out; obtain ⟨hcz36_0, hcz36_1, hcz36_2, hcz36_3, hcz36_4, hfz36_0, hfz36_1, hfz36_2, hfz36_3, hfz36_4⟩ := cells5 BK179.out))
      refine bodyPost_ret (results_ct rfl _ _ gb179 25 #[.int .i64 t183, .int .i64 t184, .int .i64 t185, .int .i64 t186, .int .i64 t187] (0, 0) _ rfl (by refine pq ?_; refine blk_put (cs := #[.int .i64 t183, .int .i64 t184, .int .i64 t185, .int .i64 t186, .int .i64 0]) ?_ 4 _ rfl; refine pq ?_; refine blk_put (cs := #[.int .i64 t183, .int .i64 t184, .int .i64 t185, .int .i64 0, .int .i64 0]) ?_ 3 _ rfl; refine pq ?_; refine blk_put (cs := #[.int .i64 t183, .int .i64 t184, .int .i64 0, .int .i64 0, .int .i64 0]) ?_ 2 _ rfl; refine pq ?_; refine blk_put (cs := #[.int .i64 t183, .int .i64 0, .int .i64 0, .int .i64 0, .int .i64 0]) ?_ 1 _ rfl; refine pq ?_; refine blk_put (cs := #[.int .i64 0, .int .i64 0, .int .i64 0, .int .i64 0, .int .i64 0]) ?_ 0 _ rfl; refine pq ?_; refine blk_far ?_ NB179_189.out _; refine pq ?_; refine blk_far ?_ NB179_189.out _; refine pq ?_; refine blk_far ?_ NB179_189.out _; refine pq ?_; refine blk_far ?_ NB179_189.out _; refine pq ?_; refine blk_far ?_ NB179_189.out _; refine pq ?_; exact BK179.out) Tryd.underlying25 rfl (by kernel_rfl)) rfl ?_
      exact ⟨zr, zb⟩
     ·rw [if_neg c25] at H
      have c25b0 : decide (0 ≤ t182) = false := decide_eq_false c25
      clear c25
      replace H := Option.bind_eq_some_iff.mp H
      obtain ⟨⟨t190, t191, t192, t193, t194, t195⟩, A370, H⟩ := H
      replace H : (some (t190, t191, t192, t193, t194, t195)) = some (r1, r2, r3, r4, r5, r6) := H
      have A37 := aM A370
      clear A370
      simp only [Option.some.injEq, Prod.mk.injEq] at H
      obtain ⟨rfl, rfl, rfl, rfl, rfl, rfl⟩ := H
      have hnb38 := NB178_179.out
      have hnc38 := NB179_178.out
      obtain ⟨hcz39_0, hcz39_1, hcz39_2, hcz39_3, hcz39_4, hfz39_0, hfz39_1, hfz39_2, hfz39_3, hfz39_4⟩ := cells5 BK178.out
      go_wp2_with (first | ((with_reducible refine gate_callee (f := 20) rfl ?_); refine goesL_ (some 28) rfl rfl Tryd.func20 (by kernel_rfl) rfl #[.agg #[.int .i64 a0_0, .int .i64 a0_1, .int .i64 a0_2, .int .i64 a0_3, .int .i64 a0_4], .string a1] rfl za ?_; (with_reducible refine (spec_MatchOf.calls kj3 a0_0 a0_1 a0_2 a0_3 a0_4 a1 t182 _ A24.out).mono ?_); rintro e w40 ⟨rfl, hb⟩; refine ⟨_, rfl, ?_⟩; have n0_ := aM (bb BK178.out hb); have n1_ := aM (bb BK179.out hb); have n2_ := aM (below_step (zb) hb); clear BK178; clear BK179; clear HB; have BK178 := n0_; have BK179 := n1_; have HB := n2_; clear n0_ n1_ n2_; (try clear hb); (try clear hb2); (try clear hk); (try clear hi); obtain ⟨hcz41_0, hcz41_1, hcz41_2, hcz41_3, hcz41_4, hfz41_0, hfz41_1, hfz41_2, hfz41_3, hfz41_4⟩ := cells5 BK178.out) | ((with_reducible refine gate_callee (f := 21) rfl ?_); refine goesL_ (some 37) rfl rfl Tryd.func21 (by kernel_rfl) rfl #[.agg #[.int .i64 a0_0, .int .i64 a0_1, .int .i64 a0_2, .int .i64 a0_3, .int .i64 a0_4], .int .i64 (-1), .int .i64 a2] rfl za ?_; (with_reducible refine (spec_l03Enter.calls kj3 a0_0 a0_1 a0_2 a0_3 a0_4 (-1) a2 t190 t191 t192 t193 t194 t195 _ A37.out).mono ?_); rintro e w42 ⟨rfl, hb⟩; refine ⟨_, rfl, ?_⟩; have n0_ := aM (bb BK178.out hb); have n1_ := aM (bb BK179.out hb); have n2_ := aM (below_step (zb) hb); clear BK178; clear BK179; clear HB; have BK178 := n0_; have BK179 := n1_; have HB := n2_; clear n0_ n1_ n2_; (try clear hb); (try clear hb2); (try clear hk); (try clear hi)) | ((with_reducible refine gate_dst (N := 10) rfl ?_); refine box_event ?hg (N := 10) ?hd (cs := #[.int .i64 0, .int .i64 0, .int .i64 0, .int .i64 0, .int .i64 0]) (t := 25) ?hr ?_; (case hd => rfl); (case hg => rfl); (case hr => exact zg); intro gb196 hg w43 hbox hb; have n0_ := aM (bb BK178.out hb); have n1_ := aM (bb BK179.out hb); have n2_ := aM (below_step (zb) hb); have n3_ := aM (hbox); have n4_ := aM ((by rw [hg]; exact (below_size (zb)) : w.heap.size ≤ gb196)); have n5_ := aM ((by rw [hg]; exact (below_size (zb)) : w.heap.size ≤ gb196)); have n6_ := aM ((by rw [hg]; exact Nat.ne_of_lt (nl BK178.out) : gb178 ≠ gb196)); have n7_ := aM ((by rw [hg]; exact Nat.ne_of_gt (nl BK178.out) : gb196 ≠ gb178)); have n8_ := aM ((by rw [hg]; exact Nat.ne_of_lt (nl BK179.out) : gb179 ≠ gb196)); have n9_ := aM ((by rw [hg]; exact Nat.ne_of_gt (nl BK179.out) : gb196 ≠ gb179)); clear BK178; clear BK179; clear HB; have BK178 := n0_; have BK179 := n1_; have HB := n2_; have BK196 := n3_; have GW196 := n4_; have GE196 := n5_; have NB178_196 := n6_; have NB196_178 := n7_; have NB179_196 := n8_; have NB196_179 := n9_; clear n0_ n1_ n2_ n3_ n4_ n5_ n6_ n7_ n8_ n9_; clear hb hbox hg; have hnb44 := NB196_178.out; have hnc44 := NB178_196.out; have hnb45 := NB196_179.out; have hnc45 := NB179_196.out; obtain ⟨hcz46_0, hcz46_1, hcz46_2, hcz46_3, hcz46_4, hfz46_0, hfz46_1, hfz46_2, hfz46_3, hfz46_4⟩ := cells5 BK196.out; obtain ⟨hcz47_0, hcz47_1, hcz47_2, hcz47_3, hcz47_4, hfz47_0, hfz47_1, hfz47_2, hfz47_3, hfz47_4⟩ := cells5 BK179.out))
      refine bodyPost_ret (results_ct rfl _ _ gb179 25 #[.int .i64 t190, .int .i64 t191, .int .i64 t192, .int .i64 t193, .int .i64 t194] (0, 0) _ rfl (by refine pq ?_; refine blk_put (cs := #[.int .i64 t190, .int .i64 t191, .int .i64 t192, .int .i64 t193, .int .i64 0]) ?_ 4 _ rfl; refine pq ?_; refine blk_put (cs := #[.int .i64 t190, .int .i64 t191, .int .i64 t192, .int .i64 0, .int .i64 0]) ?_ 3 _ rfl; refine pq ?_; refine blk_put (cs := #[.int .i64 t190, .int .i64 t191, .int .i64 0, .int .i64 0, .int .i64 0]) ?_ 2 _ rfl; refine pq ?_; refine blk_put (cs := #[.int .i64 t190, .int .i64 0, .int .i64 0, .int .i64 0, .int .i64 0]) ?_ 1 _ rfl; refine pq ?_; refine blk_put (cs := #[.int .i64 0, .int .i64 0, .int .i64 0, .int .i64 0, .int .i64 0]) ?_ 0 _ rfl; refine pq ?_; refine blk_far ?_ NB179_196.out _; refine pq ?_; refine blk_far ?_ NB179_196.out _; refine pq ?_; refine blk_far ?_ NB179_196.out _; refine pq ?_; refine blk_far ?_ NB179_196.out _; refine pq ?_; refine blk_far ?_ NB179_196.out _; refine pq ?_; exact BK179.out) Tryd.underlying25 rfl (by kernel_rfl)) rfl ?_
      exact ⟨zr, zb⟩

/-! ### impl_MostWrong: function 10 -/
def impl_MostWrong.l0 : Nat → Int → Int → Int → Int → Option (Int)
 | 0, _, _, _, _ => none
 | k + 1, x0, x3, x4, x5 => if x4 ≤ x0 then (if 0 ≤ x5 then (impl_MostWrong.l0 k x0 (wrap64 (x3 + 3)) (wrap64 (x4 + (shl .i64 1 x5))) (mn 6 (wrap64 (x5 + 1)))) else (none)) else (some x3)
def impl_MostWrong.f (k : Nat) (a0 : Int) : Option (Int) := (impl_timeOk.f a0).bind fun t197 => (if t197 = true then (impl_MostWrong.l0 k a0 0 0 0) else (some 0))
theorem impl_MostWrong.mono_l : ∀ k, (∀ y0 y1 y2 y3, LeO (impl_MostWrong.l0 k y0 y1 y2 y3) (impl_MostWrong.l0 (k + 1) y0 y1 y2 y3))
 | 0 => fun _ _ _ _ r h => by simp [impl_MostWrong.l0] at h
 | k + 1 => by
  have ih0 := impl_MostWrong.mono_l k
  ·intro y0 y1 y2 y3
   unfold impl_MostWrong.l0
   repeat' first
   | (with_reducible exact ih0 _ _ _ _)
   | (with_reducible exact LeO.refl _)
   | (with_reducible exact LeO.none _)
   | (with_reducible refine LeO.ite ?_ ?_)
   | (with_reducible refine LeO.bind ?_ (fun _ => ?_))
   | exact ih0 _ _ _ _
   | exact LeO.none _
   | refine LeO.ite ?_ ?_
   | refine LeO.bind ?_ (fun _ => ?_)
theorem impl_MostWrong.mono : ∀ a0 k, LeO (impl_MostWrong.f k a0) (impl_MostWrong.f (k + 1) a0) := by
 intro a0 k
 have ih0 := impl_MostWrong.mono_l k
 unfold impl_MostWrong.f
 repeat' first
   | (with_reducible exact ih0 _ _ _ _)
   | (with_reducible exact LeO.refl _)
   | (with_reducible exact LeO.none _)
   | (with_reducible refine LeO.ite ?_ ?_)
   | (with_reducible refine LeO.bind ?_ (fun _ => ?_))
   | exact ih0 _ _ _ _
   | exact LeO.none _
   | refine LeO.ite ?_ ?_
   | refine LeO.bind ?_ (fun _ => ?_)
set_option maxHeartbeats 8000000 in
set_option maxRecDepth 100000 in
theorem impl_MostWrong.calls (k : Nat) (a0 : Int) (r : Int) (w : World) (h : impl_MostWrong.f k a0 = some r) :
  Calls Tryd.prog 10 #[.int .i64 a0] w fun e w' => e = .returned (.int .i64 r) ∧ Below w.heap.size w w' := by
 have HB := aM (Below.refl w.heap.size w)
 have H : ((impl_timeOk.f a0).bind fun t197 => (if t197 = true then (impl_MostWrong.l0 k a0 0 0 0) else (some 0))) = some r := h
 clear h
 replace H := Option.bind_eq_some_iff.mp H
 obtain ⟨t197, A20, H⟩ := H
 replace H : (if t197 = true then (impl_MostWrong.l0 k a0 0 0 0) else (some 0)) = some r := H
 have A2 := aM A20
 clear A20
 by_cases c3 : t197 = true
 ·subst c3
  have H1 : (impl_MostWrong.l0 k a0 0 0 0) = some r := by rw [if_pos rfl] at H; exact H
  clear H
  have H := H1
  clear H1
  have H' := aM H
  clear H
  go_enter Tryd.func10, Tryd.ntmps10
  go_wp2_with (first | ((with_reducible refine gate_callee (f := 22) rfl ?_); refine goesL_ (some 7) rfl rfl Tryd.func22 (by kernel_rfl) rfl #[.int .i64 a0] rfl za ?_; (with_reducible refine (impl_timeOk.calls a0 true _ A2.out).mono ?_); rintro e w' ⟨rfl, ⟨nd, rfl⟩⟩; refine ⟨_, rfl, ?_⟩))
  go_loopg [3, 4, 5] k (fun kq v3 v4 v5 w' => ∃ (x3_1 : Int) (x4_1 : Int) (x5_1 : Int), v3 = .int .i64 x3_1 ∧ v4 = .int .i64 x4_1 ∧ v5 = .int .i64 x5_1 ∧ Aside0 (impl_MostWrong.l0 kq a0 x3_1 x4_1 x5_1 = some r) ∧ Aside0 (kq ≤ k) ∧ Aside0 (Below w.heap.size w w'))
  case atStart => exact ⟨(0), (0), (0), zs, zs, zs, H', ⟨Nat.le_refl _⟩, ⟨zb⟩⟩
  case round =>
   clear H'
   try clear c1
   try clear c2
   try clear p2
   try clear c3
   obtain ⟨x3_1, x4_1, x5_1, rfl, rfl, rfl, HA, HK1, HB⟩ := hrel
   cases gk with
   | zero => exact absurd HA.out (by simp [impl_MostWrong.l0])
   | succ k1 =>
    have H := HA.out
    clear HA
    simp only [impl_MostWrong.l0] at H
    by_cases c4 : x4_1 ≤ a0
    ·rw [if_pos c4] at H
     have c4b0 : decide (x4_1 ≤ a0) = true := decide_eq_true c4
     clear c4
     by_cases c5 : 0 ≤ x5_1
     ·rw [if_pos c5] at H
      have c5b0 := eq_true c5
      have c5b1 : decide (0 ≤ x5_1) = true := decide_eq_true c5
      clear c5
      obtain ⟨ji6, hji6⟩ : ∃ j_ : Int, (shl .i64 1 x5_1) = j_ := ⟨_, rfl⟩
      replace H : (impl_MostWrong.l0 k1 a0 (wrap64 (x3_1 + 3)) (wrap64 (x4_1 + (ji6))) (mn 6 (wrap64 (x5_1 + 1)))) = some r := by first | (rw [hji6] at H; exact H) | (simp only [hji6] at H ⊢; exact H)
      have hji6_ : (IntKind.i64.wrap (1 * 2 ^ min x5_1.toNat 64)) = ji6 := hji6
      have hji6z : x5_1 ≤ 64 → (IntKind.i64.wrap (1 * 2 ^ x5_1.toNat)) = ji6 := shl_small hji6
      have hji6u : (IntKind.i64.wrap (2 ^ min x5_1.toNat 64)) = ji6 := by have h_ := hji6_; rw [Int.one_mul] at h_; exact h_
      have hji6v : x5_1 ≤ 64 → (IntKind.i64.wrap (2 ^ x5_1.toNat)) = ji6 := fun hle_ => by have h_ := hji6z hle_; rw [Int.one_mul] at h_; exact h_
      have hji6y : (wrap64 (1 * 2 ^ min x5_1.toNat 64)) = ji6 := (i64_w _).symm.trans hji6_
      have hji6x : x5_1 ≤ 64 → (wrap64 (1 * 2 ^ x5_1.toNat)) = ji6 := fun h_ => (i64_w _).symm.trans (hji6z h_)
      obtain ⟨ji7, hji7⟩ : ∃ j_ : Int, (mn 6 (wrap64 (x5_1 + 1))) = j_ := ⟨_, rfl⟩
      replace H : (impl_MostWrong.l0 k1 a0 (wrap64 (x3_1 + 3)) (wrap64 (x4_1 + (ji6))) ji7) = some r := by first | (rw [hji7] at H; exact H) | (simp only [hji7] at H ⊢; exact H)
      have hji7_ : (if (wrap64 (x5_1 + 1)) < 6 then (wrap64 (x5_1 + 1)) else 6) = ji7 := hji7
      have H' := aM H
      clear H
      go_wp2
      go_roundg k1
      case measure => have := HK1.out; omega
      case rel => exact ⟨(wrap64 (x3_1 + 3)), (wrap64 (x4_1 + (ji6))), (ji7), zs, (by first | rfl | (simp; done) | (simp only [← hji6] <;> (first | rfl | simp)) | (simp [*]; done)), (by first | rfl | (simp; done) | (simp only [← hji7] <;> (first | rfl | simp)) | (simp [*]; done)), H', ⟨by have := HK1.out; omega⟩, ⟨zb⟩⟩
     ·rw [if_neg c5] at H
      exact absurd H (by simp)
    ·rw [if_neg c4] at H
     have c4b0 : decide (x4_1 ≤ a0) = false := decide_eq_false c4
     clear c4
     obtain rfl := Option.some.inj H
     go_wp2
     go_ret
     exact ⟨zr, zb⟩
 ·replace c3 := Bool.eq_false_iff.mpr c3
  subst c3
  have H1 : (some 0) = some r := by rw [if_neg (show ¬ (false = true) by decide)] at H; exact H
  clear H
  have H := H1
  clear H1
  obtain rfl := Option.some.inj H
  go_enter Tryd.func10, Tryd.ntmps10
  go_wp2_with (first | ((with_reducible refine gate_callee (f := 22) rfl ?_); refine goesL_ (some 7) rfl rfl Tryd.func22 (by kernel_rfl) rfl #[.int .i64 a0] rfl za ?_; (with_reducible refine (impl_timeOk.calls a0 false _ A2.out).mono ?_); rintro e w' ⟨rfl, ⟨nd, rfl⟩⟩; refine ⟨_, rfl, ?_⟩))
  go_ret
  exact ⟨zr, zb⟩

end Go.Proofs.YtdhinnolfpacgabDoor.QFnGuesses
