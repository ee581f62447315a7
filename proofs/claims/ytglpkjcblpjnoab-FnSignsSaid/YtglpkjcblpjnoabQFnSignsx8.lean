-- Printed functions and their walks: by print.py, turned by wip/tools/myprint.py.
import Derived.Test.YtglpkjcblpjnoabQFnSignsx0
import Derived.Test.YtglpkjcblpjnoabQFnSignsx5
import Derived.Test.YtglpkjcblpjnoabQFnSignsx6
import Derived.Test.YtglpkjcblpjnoabQFnSignsx7
namespace Go.Proofs.Ytglpkjcblpjnoab.QFnSigns
open Go.RowKit Go.Proofs.YtglpkjcblpjnoabW.PrintWords Go.Proofs.YtglpkjcblpjnoabW.PrintLast Go.Proofs.YtglpkjcblpjnoabW.PrintMore
attribute [local go_sem] max2_int min2_int max_two min_two max_three min_three max_four min_four   -- for this text's walks alone
set_option linter.unusedVariables false
set_option linter.unusedSimpArgs false

/-! ### spec_Verdict: function 58 -/
def spec_Verdict.j0 : Nat → Int → Bool → Bool → Bool → Bool → Bool → Option (Int)
 | 0, _, _, _, _, _, _ => none
 | k + 1, x0, x5, x205000, x205001, x205002, x205003 => if x5 = true then (some 0) else (if (x205000 != x205001) = true then (some 1) else (if x205000 = true then (if (x205002 != x205003) = true then (some 1) else (if (x205002 == (x0 == 1)) = true then (some 3) else (some 4))) else (some 2)))
def spec_Verdict.f (k : Nat) (a0 : Int) (a1_0 : Bool) (a1_1 : Bool) (a1_2 : Bool) (a1_3 : Bool) : Option (Int) := if a0 = 1 then (spec_Verdict.j0 k a0 false a1_0 a1_1 a1_2 a1_3) else (spec_Verdict.j0 k a0 (a0 != 2) a1_0 a1_1 a1_2 a1_3)
theorem spec_Verdict.mono_l : ∀ k, (∀ y0 y1 y2 y3 y4 y5, LeO (spec_Verdict.j0 k y0 y1 y2 y3 y4 y5) (spec_Verdict.j0 (k + 1) y0 y1 y2 y3 y4 y5))
 | 0 => fun _ _ _ _ _ _ r h => by simp [spec_Verdict.j0] at h
 | k + 1 => by
  have ih0 := spec_Verdict.mono_l k
  ·intro y0 y1 y2 y3 y4 y5
   unfold spec_Verdict.j0
   repeat' first
   | (with_reducible exact ih0 _ _ _ _ _ _)
   | (with_reducible exact LeO.refl _)
   | (with_reducible exact LeO.none _)
   | (with_reducible refine LeO.ite ?_ ?_)
   | (with_reducible refine LeO.bind ?_ (fun _ => ?_))
   | exact ih0 _ _ _ _ _ _
   | exact LeO.none _
   | refine LeO.ite ?_ ?_
   | refine LeO.bind ?_ (fun _ => ?_)
theorem spec_Verdict.mono : ∀ a0 a1 a2 a3 a4 k, LeO (spec_Verdict.f k a0 a1 a2 a3 a4) (spec_Verdict.f (k + 1) a0 a1 a2 a3 a4) := by
 intro a0 a1 a2 a3 a4 k
 have ih0 := spec_Verdict.mono_l k
 unfold spec_Verdict.f
 repeat' first
   | (with_reducible exact ih0 _ _ _ _ _ _)
   | (with_reducible exact LeO.refl _)
   | (with_reducible exact LeO.none _)
   | (with_reducible refine LeO.ite ?_ ?_)
   | (with_reducible refine LeO.bind ?_ (fun _ => ?_))
   | exact ih0 _ _ _ _ _ _
   | exact LeO.none _
   | refine LeO.ite ?_ ?_
   | refine LeO.bind ?_ (fun _ => ?_)
set_option maxHeartbeats 8000000 in
set_option maxRecDepth 100000 in
theorem spec_Verdict.calls (k : Nat) (a0 : Int) (a1_0 : Bool) (a1_1 : Bool) (a1_2 : Bool) (a1_3 : Bool) (r : Int) (w : World) (h : spec_Verdict.f k a0 a1_0 a1_1 a1_2 a1_3 = some r) :
  Calls Try.prog 58 #[.int .i64 a0, .agg #[.bool a1_0, .bool a1_1, .bool a1_2, .bool a1_3]] w fun e w' => e = .returned (.int .i64 r) ∧ Below w.heap.size w w' := by
 have hu50 := Try.underlying50
 have HB := aM (Below.refl w.heap.size w)
 have H : (if a0 = 1 then (spec_Verdict.j0 k a0 false a1_0 a1_1 a1_2 a1_3) else (spec_Verdict.j0 k a0 (a0 != 2) a1_0 a1_1 a1_2 a1_3)) = some r := h
 clear h
 have HC3 := aM H
 clear H
 go_enter Try.func58, Try.ntmps58
 go_upto_region 1 with (first | ((with_reducible refine gate_dst (N := 3) rfl ?_); refine box_event ?hg (N := 3) ?hd (cs := #[.bool a1_0, .bool a1_1, .bool a1_2, .bool a1_3]) (t := 50) ?hr ?_; (case hd => rfl); (case hg => rfl); (case hr => exact zg); intro gb204 hg w4 hbox hb; have n0_ := aM (below_step (zb) hb); have n1_ := aM (hbox); have n2_ := aM ((by rw [hg]; exact (below_size (zb)) : w.heap.size ≤ gb204)); have n3_ := aM ((by rw [hg]; exact (below_size (zb)) : w.heap.size ≤ gb204)); clear HB; have HB := n0_; have BK204 := n1_; have GW204 := n2_; have GE204 := n3_; clear n0_ n1_ n2_ n3_; clear hb hbox hg))
 (try simp only [Act.put, List.setIfInBounds_toArray, List.set_cons_zero, List.set_cons_succ])
 go_cut [5] (fun v5 wc => ∃ (kq : Nat) (x5_2 : Bool), v5 = .bool x5_2 ∧ Aside0 (spec_Verdict.j0 kq a0 x5_2 a1_0 a1_1 a1_2 a1_3 = some r) ∧ Aside0 (kq ≤ k) ∧ Aside0 (wc.heap[gb204]? = some (.cells #[.bool a1_0, .bool a1_1, .bool a1_2, .bool a1_3] 50 (0, 0))) ∧ Aside0 (Below w.heap.size w wc))
 case first =>
  have H := HC3.out
  clear HC3
  by_cases c5 : a0 = 1
  ·rw [if_pos c5] at H
   have c5b0 : (a0 == 1) = true := beq_iff_eq.mpr c5
   have c5b1 : (a0 != 1) = false := bne_eq_false_iff_eq.mpr c5
   clear c5
   (first | rw [c5b0] | (simp only [i64_w, i32_w]; rw [c5b0]) | skip)
   have H' := aM H
   clear H
   go_wp2
   go_meet
   case rel => exact ⟨_, (false), zs, H', ⟨by first | omega | exact Nat.le_refl _⟩, ⟨by exact pk BK204.out⟩, ⟨zb⟩⟩
  ·rw [if_neg c5] at H
   have c5b0 : (a0 == 1) = false := beq_eq_false_iff_ne.mpr c5
   have c5b1 : (a0 != 1) = true := bne_iff_ne.mpr c5
   (first | rw [c5b0] | (simp only [i64_w, i32_w]; rw [c5b0]) | skip)
   have H' := aM H
   clear H
   go_wp2
   go_meet
   case rel => exact ⟨_, ((a0 != 2)), zs, H', ⟨by first | omega | exact Nat.le_refl _⟩, ⟨by exact pk BK204.out⟩, ⟨zb⟩⟩
 case rest =>
  clear HC3
  try clear p2
  try clear c5
  try clear c5b0
  try clear c5b1
  obtain ⟨kq, x5_2, rfl, HA, HJ2, BK204, HB⟩ := hcut
  cases kq with
  | zero => exact absurd HA.out (by simp [spec_Verdict.j0])
  | succ kj2 =>
   have H := HA.out
   clear HA
   simp only [spec_Verdict.j0] at H
   by_cases c6 : x5_2 = true
   ·subst c6
    have H1 : (some 0) = some r := by rw [if_pos rfl] at H; exact H
    clear H
    have H := H1
    clear H1
    obtain rfl := Option.some.inj H
    go_wp2
    go_ret
    exact ⟨zr, zb⟩
   ·replace c6 := Bool.eq_false_iff.mpr c6
    subst c6
    have H1 : (if (a1_0 != a1_1) = true then (some 1) else (if a1_0 = true then (if (a1_2 != a1_3) = true then (some 1) else (if (a1_2 == (a0 == 1)) = true then (some 3) else (some 4))) else (some 2))) = some r := by rw [if_neg (show ¬ (false = true) by decide)] at H; exact H
    clear H
    have H := H1
    clear H1
    by_cases c7 : (a1_0 != a1_1) = true
    ·rw [if_pos c7] at H
     have c7b0 : (a1_0 != a1_1) = true := c7
     (try (have c7b1 : decide (a1_0 = a1_1) = false := by simpa using c7))
     (try (have c7b2 : (a1_0 == a1_1) = false := by simpa using c7))
     (try (have c7b3 : ¬ (a1_0 = a1_1) := by simpa using c7))
     clear c7
     obtain rfl := Option.some.inj H
     obtain ⟨hcz8_0, hcz8_1, hcz8_2, hcz8_3, hfz8_0, hfz8_1, hfz8_2, hfz8_3⟩ := cells4 BK204.out
     go_wp2
     go_ret
     exact ⟨zr, zb⟩
    ·rw [if_neg c7] at H
     have c7b0 : (a1_0 != a1_1) = false := by simpa using c7
     (try (have c7b1 : decide (a1_0 = a1_1) = true := by simpa using c7))
     (try (have c7b2 : (a1_0 == a1_1) = true := by simpa using c7))
     clear c7
     by_cases c9 : a1_0 = true
     ·subst c9
      have H1 : (if (a1_2 != a1_3) = true then (some 1) else (if (a1_2 == (a0 == 1)) = true then (some 3) else (some 4))) = some r := by rw [if_pos rfl] at H; exact H
      clear H
      have H := H1
      clear H1
      by_cases c10 : (a1_2 != a1_3) = true
      ·rw [if_pos c10] at H
       have c10b0 : (a1_2 != a1_3) = true := c10
       (try (have c10b1 : decide (a1_2 = a1_3) = false := by simpa using c10))
       (try (have c10b2 : (a1_2 == a1_3) = false := by simpa using c10))
       (try (have c10b3 : ¬ (a1_2 = a1_3) := by simpa using c10))
       clear c10
       obtain rfl := Option.some.inj H
       obtain ⟨hcz11_0, hcz11_1, hcz11_2, hcz11_3, hfz11_0, hfz11_1, hfz11_2, hfz11_3⟩ := cells4 BK204.out
       go_wp2
       go_ret
       exact ⟨zr, zb⟩
      ·rw [if_neg c10] at H
       have c10b0 : (a1_2 != a1_3) = false := by simpa using c10
       (try (have c10b1 : decide (a1_2 = a1_3) = true := by simpa using c10))
       (try (have c10b2 : (a1_2 == a1_3) = true := by simpa using c10))
       clear c10
       by_cases c12 : (a1_2 == (a0 == 1)) = true
       ·rw [if_pos c12] at H
        have c12b0 : (a1_2 == (a0 == 1)) = true := c12
        (try (have c12b1 : decide (a1_2 = (a0 == 1)) = true := by simpa using c12))
        (try (have c12b2 : (a1_2 == (a0 == 1)) = true := by simpa using c12))
        try clear c5b0
        clear c12
        obtain rfl := Option.some.inj H
        obtain ⟨hcz13_0, hcz13_1, hcz13_2, hcz13_3, hfz13_0, hfz13_1, hfz13_2, hfz13_3⟩ := cells4 BK204.out
        go_wp2
        go_ret
        exact ⟨zr, zb⟩
       ·rw [if_neg c12] at H
        have c12b0 : (a1_2 == (a0 == 1)) = false := by simpa using c12
        (try (have c12b1 : decide (a1_2 = (a0 == 1)) = false := by simpa using c12))
        (try (have c12b2 : (a1_2 == (a0 == 1)) = false := by simpa using c12))
        (try (have c12b3 : ¬ (a1_2 = (a0 == 1)) := by simpa using c12))
        try clear c5b0
        clear c12
        obtain rfl := Option.some.inj H
        obtain ⟨hcz14_0, hcz14_1, hcz14_2, hcz14_3, hfz14_0, hfz14_1, hfz14_2, hfz14_3⟩ := cells4 BK204.out
        go_wp2
        go_ret
        exact ⟨zr, zb⟩
     ·replace c9 := Bool.eq_false_iff.mpr c9
      subst c9
      have H1 : (some 2) = some r := by rw [if_neg (show ¬ (false = true) by decide)] at H; exact H
      clear H
      have H := H1
      clear H1
      obtain rfl := Option.some.inj H
      obtain ⟨hcz15_0, hcz15_1, hcz15_2, hcz15_3, hfz15_0, hfz15_1, hfz15_2, hfz15_3⟩ := cells4 BK204.out
      go_wp2
      go_ret
      exact ⟨zr, zb⟩

/-! ### spec_Recover: function 23 -/
def spec_Recover.j0 : Nat → Bool → Int → Int → Bool → Bool → Bool → Bool → Bool → Bool → Bool → Option (Int × Int × Bool × Bool × Bool × Int × Bool)
 | 0, _, _, _, _, _, _, _, _, _, _ => none
 | k + 1, x27, x206000, x206001, x206002, x206003, x206004, x214000, x214001, x214002, x214003 => if x27 = true then (some (x206000, x206001, x206002, x206003, x206004, 0, false)) else ((spec_Verdict.f k x206000 x214000 x214001 x214002 x214003).bind fun t216 => (if t216 = 3 then (some (0, x206001, false, x206003, x206004, t216, true)) else (if t216 = 4 then (some (0, x206001, false, x206003, x206004, t216, true)) else (some (x206000, x206001, x206002, x206003, x206004, t216, true)))))
def spec_Recover.f (k : Nat) (a0_0 : Int) (a0_1 : Int) (a0_2 : Bool) (a0_3 : Bool) (a0_4 : Bool) (a1_0 : Int) (a1_1 : Int) (a1_2 : Int) (a1_3 : Int) : Option (Int × Int × Bool × Bool × Bool × Int × Bool) := (spec_SignsOf.f k a0_0 a0_1 a0_2 a0_3 a0_4 a1_0 a1_1 a1_2 a1_3).bind fun bt208 => (if bt208.2.2.2.2 = true then ((spec_l04Dark.f k a0_0 a0_1 a0_2 a0_3 a0_4).bind fun t214 => (if t214 = true then ((spec_CountFaults.f a1_0 a1_1 a1_2 a1_3).bind fun t215 => (spec_Recover.j0 k (decide (t215 > 1)) a0_0 a0_1 a0_2 a0_3 a0_4 bt208.1 bt208.2.1 bt208.2.2.1 bt208.2.2.2.1)) else (spec_Recover.j0 k true a0_0 a0_1 a0_2 a0_3 a0_4 bt208.1 bt208.2.1 bt208.2.2.1 bt208.2.2.2.1))) else (spec_Recover.j0 k true a0_0 a0_1 a0_2 a0_3 a0_4 bt208.1 bt208.2.1 bt208.2.2.1 bt208.2.2.2.1))
theorem spec_Recover.mono_l : ∀ k, (∀ y0 y1 y2 y3 y4 y5 y6 y7 y8 y9, LeO (spec_Recover.j0 k y0 y1 y2 y3 y4 y5 y6 y7 y8 y9) (spec_Recover.j0 (k + 1) y0 y1 y2 y3 y4 y5 y6 y7 y8 y9))
 | 0 => fun _ _ _ _ _ _ _ _ _ _ r h => by simp [spec_Recover.j0] at h
 | k + 1 => by
  have ih0 := spec_Recover.mono_l k
  ·intro y0 y1 y2 y3 y4 y5 y6 y7 y8 y9
   unfold spec_Recover.j0
   repeat' first
   | (with_reducible exact ih0 _ _ _ _ _ _ _ _ _ _)
   | (with_reducible exact spec_SignsOf.mono _ _ _ _ _ _ _ _ _ _)
   | (with_reducible exact spec_Verdict.mono _ _ _ _ _ _)
   | (with_reducible exact spec_l04Dark.mono _ _ _ _ _ _)
   | (with_reducible exact LeO.refl _)
   | (with_reducible exact LeO.none _)
   | (with_reducible refine LeO.ite ?_ ?_)
   | (with_reducible refine LeO.bind ?_ (fun _ => ?_))
   | exact ih0 _ _ _ _ _ _ _ _ _ _
   | exact spec_SignsOf.mono _ _ _ _ _ _ _ _ _ _
   | exact spec_Verdict.mono _ _ _ _ _ _
   | exact spec_l04Dark.mono _ _ _ _ _ _
   | exact LeO.none _
   | refine LeO.ite ?_ ?_
   | refine LeO.bind ?_ (fun _ => ?_)
theorem spec_Recover.mono : ∀ a0 a1 a2 a3 a4 a5 a6 a7 a8 k, LeO (spec_Recover.f k a0 a1 a2 a3 a4 a5 a6 a7 a8) (spec_Recover.f (k + 1) a0 a1 a2 a3 a4 a5 a6 a7 a8) := by
 intro a0 a1 a2 a3 a4 a5 a6 a7 a8 k
 have ih0 := spec_Recover.mono_l k
 unfold spec_Recover.f
 repeat' first
   | (with_reducible exact ih0 _ _ _ _ _ _ _ _ _ _)
   | (with_reducible exact spec_SignsOf.mono _ _ _ _ _ _ _ _ _ _)
   | (with_reducible exact spec_Verdict.mono _ _ _ _ _ _)
   | (with_reducible exact spec_l04Dark.mono _ _ _ _ _ _)
   | (with_reducible exact LeO.refl _)
   | (with_reducible exact LeO.none _)
   | (with_reducible refine LeO.ite ?_ ?_)
   | (with_reducible refine LeO.bind ?_ (fun _ => ?_))
   | exact ih0 _ _ _ _ _ _ _ _ _ _
   | exact spec_SignsOf.mono _ _ _ _ _ _ _ _ _ _
   | exact spec_Verdict.mono _ _ _ _ _ _
   | exact spec_l04Dark.mono _ _ _ _ _ _
   | exact LeO.none _
   | refine LeO.ite ?_ ?_
   | refine LeO.bind ?_ (fun _ => ?_)
set_option maxHeartbeats 8000000 in
set_option maxRecDepth 100000 in
theorem spec_Recover.calls (k : Nat) (a0_0 : Int) (a0_1 : Int) (a0_2 : Bool) (a0_3 : Bool) (a0_4 : Bool) (a1_0 : Int) (a1_1 : Int) (a1_2 : Int) (a1_3 : Int) (r1 : Int) (r2 : Int) (r3 : Bool) (r4 : Bool) (r5 : Bool) (r6 : Int) (r7 : Bool) (w : World) (h : spec_Recover.f k a0_0 a0_1 a0_2 a0_3 a0_4 a1_0 a1_1 a1_2 a1_3 = some (r1, r2, r3, r4, r5, r6, r7)) :
  Calls Try.prog 23 #[.agg #[.int .i64 a0_0, .int .i64 a0_1, .bool a0_2, .bool a0_3, .bool a0_4], .agg #[.int .i64 a1_0, .int .i64 a1_1, .int .i64 a1_2, .int .i64 a1_3]] w fun e w' => e = .returned (.tuple #[.agg #[.int .i64 r1, .int .i64 r2, .bool r3, .bool r4, .bool r5], .int .i64 r6, .bool r7]) ∧ Below w.heap.size w w' := by
 have hu24 := Try.underlying24
 have hu37 := Try.underlying37
 have hu50 := Try.underlying50
 have HB := aM (Below.refl w.heap.size w)
 have H : ((spec_SignsOf.f k a0_0 a0_1 a0_2 a0_3 a0_4 a1_0 a1_1 a1_2 a1_3).bind fun bt208 => (if bt208.2.2.2.2 = true then ((spec_l04Dark.f k a0_0 a0_1 a0_2 a0_3 a0_4).bind fun t214 => (if t214 = true then ((spec_CountFaults.f a1_0 a1_1 a1_2 a1_3).bind fun t215 => (spec_Recover.j0 k (decide (t215 > 1)) a0_0 a0_1 a0_2 a0_3 a0_4 bt208.1 bt208.2.1 bt208.2.2.1 bt208.2.2.2.1)) else (spec_Recover.j0 k true a0_0 a0_1 a0_2 a0_3 a0_4 bt208.1 bt208.2.1 bt208.2.2.1 bt208.2.2.2.1))) else (spec_Recover.j0 k true a0_0 a0_1 a0_2 a0_3 a0_4 bt208.1 bt208.2.1 bt208.2.2.1 bt208.2.2.2.1))) = some (r1, r2, r3, r4, r5, r6, r7) := h
 clear h
 replace H := Option.bind_eq_some_iff.mp H
 obtain ⟨⟨t208, t209, t210, t211, t212⟩, A30, H⟩ := H
 replace H : (if t212 = true then ((spec_l04Dark.f k a0_0 a0_1 a0_2 a0_3 a0_4).bind fun t214 => (if t214 = true then ((spec_CountFaults.f a1_0 a1_1 a1_2 a1_3).bind fun t215 => (spec_Recover.j0 k (decide (t215 > 1)) a0_0 a0_1 a0_2 a0_3 a0_4 t208 t209 t210 t211)) else (spec_Recover.j0 k true a0_0 a0_1 a0_2 a0_3 a0_4 t208 t209 t210 t211))) else (spec_Recover.j0 k true a0_0 a0_1 a0_2 a0_3 a0_4 t208 t209 t210 t211)) = some (r1, r2, r3, r4, r5, r6, r7) := H
 have A3 := aM A30
 clear A30
 have HC4 := aM H
 clear H
 go_enter Try.func23, Try.ntmps23
 go_upto_region 2 with (first | ((with_reducible refine gate_dst (N := 2) rfl ?_); refine box_event ?hg (N := 2) ?hd (cs := #[.int .i64 a0_0, .int .i64 a0_1, .bool a0_2, .bool a0_3, .bool a0_4]) (t := 24) ?hr ?_; (case hd => rfl); (case hg => rfl); (case hr => exact zg); intro gb205 hg w5 hbox hb; have n0_ := aM (below_step (zb) hb); have n1_ := aM (hbox); have n2_ := aM ((by rw [hg]; exact (below_size (zb)) : w.heap.size ≤ gb205)); have n3_ := aM ((by rw [hg]; exact (below_size (zb)) : w.heap.size ≤ gb205)); clear HB; have HB := n0_; have BK205 := n1_; have GW205 := n2_; have GE205 := n3_; clear n0_ n1_ n2_ n3_; clear hb hbox hg) | ((with_reducible refine gate_dst (N := 3) rfl ?_); refine box_event ?hg (N := 3) ?hd (cs := #[.int .i64 a1_0, .int .i64 a1_1, .int .i64 a1_2, .int .i64 a1_3]) (t := 37) ?hr ?_; (case hd => rfl); (case hg => rfl); (case hr => exact zg); intro gb206 hg w6 hbox hb; have n0_ := aM (bb BK205.out hb); have n1_ := aM (below_step (zb) hb); have n2_ := aM (hbox); have n3_ := aM ((by rw [hg]; exact (below_size (zb)) : w.heap.size ≤ gb206)); have n4_ := aM ((by rw [hg]; exact (below_size (zb)) : w.heap.size ≤ gb206)); have n5_ := aM ((by rw [hg]; exact Nat.ne_of_lt (nl BK205.out) : gb205 ≠ gb206)); have n6_ := aM ((by rw [hg]; exact Nat.ne_of_gt (nl BK205.out) : gb206 ≠ gb205)); clear BK205; clear HB; have BK205 := n0_; have HB := n1_; have BK206 := n2_; have GW206 := n3_; have GE206 := n4_; have NB205_206 := n5_; have NB206_205 := n6_; clear n0_ n1_ n2_ n3_ n4_ n5_ n6_; clear hb hbox hg) | ((with_reducible refine gate_dst (N := 4) rfl ?_); refine box_event ?hg (N := 4) ?hd (cs := #[.int .i64 0, .int .i64 0, .bool false, .bool false, .bool false]) (t := 24) ?hr ?_; (case hd => rfl); (case hg => rfl); (case hr => exact zg); intro gb207 hg w7 hbox hb; have n0_ := aM (bb BK205.out hb); have n1_ := aM (bb BK206.out hb); have n2_ := aM (below_step (zb) hb); have n3_ := aM (hbox); have n4_ := aM ((by rw [hg]; exact (below_size (zb)) : w.heap.size ≤ gb207)); have n5_ := aM ((by rw [hg]; exact (below_size (zb)) : w.heap.size ≤ gb207)); have n6_ := aM ((by rw [hg]; exact Nat.ne_of_lt (nl BK205.out) : gb205 ≠ gb207)); have n7_ := aM ((by rw [hg]; exact Nat.ne_of_gt (nl BK205.out) : gb207 ≠ gb205)); have n8_ := aM ((by rw [hg]; exact Nat.ne_of_lt (nl BK206.out) : gb206 ≠ gb207)); have n9_ := aM ((by rw [hg]; exact Nat.ne_of_gt (nl BK206.out) : gb207 ≠ gb206)); clear BK205; clear BK206; clear HB; have BK205 := n0_; have BK206 := n1_; have HB := n2_; have BK207 := n3_; have GW207 := n4_; have GE207 := n5_; have NB205_207 := n6_; have NB207_205 := n7_; have NB206_207 := n8_; have NB207_206 := n9_; clear n0_ n1_ n2_ n3_ n4_ n5_ n6_ n7_ n8_ n9_; clear hb hbox hg; have hnb8 := NB205_206.out; have hnc8 := NB206_205.out; have hnb9 := NB205_207.out; have hnc9 := NB207_205.out; obtain ⟨hcz10_0, hcz10_1, hcz10_2, hcz10_3, hcz10_4, hfz10_0, hfz10_1, hfz10_2, hfz10_3, hfz10_4⟩ := cells5 BK205.out; have hnb11 := NB206_207.out; have hnc11 := NB207_206.out; obtain ⟨hcz12_0, hcz12_1, hcz12_2, hcz12_3, hfz12_0, hfz12_1, hfz12_2, hfz12_3⟩ := cells4 BK206.out) | ((with_reducible refine gate_callee (f := 40) rfl ?_); refine goesL_ (some 13) rfl rfl Try.func40 (by kernel_rfl) rfl #[.agg #[.int .i64 a0_0, .int .i64 a0_1, .bool a0_2, .bool a0_3, .bool a0_4], .agg #[.int .i64 a1_0, .int .i64 a1_1, .int .i64 a1_2, .int .i64 a1_3]] rfl za ?_; (with_reducible refine (spec_SignsOf.calls k a0_0 a0_1 a0_2 a0_3 a0_4 a1_0 a1_1 a1_2 a1_3 t208 t209 t210 t211 t212 _ A3.out).mono ?_); rintro e w13 ⟨rfl, hb⟩; refine ⟨_, rfl, ?_⟩; have n0_ := aM (bb BK205.out hb); have n1_ := aM (bb BK206.out hb); have n2_ := aM (bb BK207.out hb); have n3_ := aM (below_step (zb) hb); clear BK205; clear BK206; clear BK207; clear HB; have BK205 := n0_; have BK206 := n1_; have BK207 := n2_; have HB := n3_; clear n0_ n1_ n2_ n3_; (try clear hb); (try clear hb2); (try clear hk); (try clear hi)) | ((with_reducible refine gate_dst (N := 7) rfl ?_); refine box_event ?hg (N := 7) ?hd (cs := #[.bool false, .bool false, .bool false, .bool false]) (t := 50) ?hr ?_; (case hd => rfl); (case hg => rfl); (case hr => exact zg); intro gb213 hg w14 hbox hb; have n0_ := aM (bb BK205.out hb); have n1_ := aM (bb BK206.out hb); have n2_ := aM (bb BK207.out hb); have n3_ := aM (below_step (zb) hb); have n4_ := aM (hbox); have n5_ := aM ((by rw [hg]; exact (below_size (zb)) : w.heap.size ≤ gb213)); have n6_ := aM ((by rw [hg]; exact (below_size (zb)) : w.heap.size ≤ gb213)); have n7_ := aM ((by rw [hg]; exact Nat.ne_of_lt (nl BK205.out) : gb205 ≠ gb213)); have n8_ := aM ((by rw [hg]; exact Nat.ne_of_gt (nl BK205.out) : gb213 ≠ gb205)); have n9_ := aM ((by rw [hg]; exact Nat.ne_of_lt (nl BK206.out) : gb206 ≠ gb213)); have n10_ := aM ((by rw [hg]; exact Nat.ne_of_gt (nl BK206.out) : gb213 ≠ gb206)); have n11_ := aM ((by rw [hg]; exact Nat.ne_of_lt (nl BK207.out) : gb207 ≠ gb213)); have n12_ := aM ((by rw [hg]; exact Nat.ne_of_gt (nl BK207.out) : gb213 ≠ gb207)); clear BK205; clear BK206; clear BK207; clear HB; have BK205 := n0_; have BK206 := n1_; have BK207 := n2_; have HB := n3_; have BK213 := n4_; have GW213 := n5_; have GE213 := n6_; have NB205_213 := n7_; have NB213_205 := n8_; have NB206_213 := n9_; have NB213_206 := n10_; have NB207_213 := n11_; have NB213_207 := n12_; clear n0_ n1_ n2_ n3_ n4_ n5_ n6_ n7_ n8_ n9_ n10_ n11_ n12_; clear hb hbox hg; have hnb15 := NB213_205.out; have hnc15 := NB205_213.out; have hnb16 := NB213_206.out; have hnc16 := NB206_213.out; have hnb17 := NB213_207.out; have hnc17 := NB207_213.out; obtain ⟨hcz18_0, hcz18_1, hcz18_2, hcz18_3, hfz18_0, hfz18_1, hfz18_2, hfz18_3⟩ := cells4 BK213.out))
 (try simp only [Act.put, List.setIfInBounds_toArray, List.set_cons_zero, List.set_cons_succ])
 go_cut [27] (fun v27 wc => ∃ (kq : Nat) (x27_3 : Bool), v27 = .bool x27_3 ∧ Aside0 (spec_Recover.j0 kq x27_3 a0_0 a0_1 a0_2 a0_3 a0_4 t208 t209 t210 t211 = some (r1, r2, r3, r4, r5, r6, r7)) ∧ Aside0 (kq ≤ k) ∧ Aside0 (wc.heap[gb205]? = some (.cells #[.int .i64 a0_0, .int .i64 a0_1, .bool a0_2, .bool a0_3, .bool a0_4] 24 (0, 0))) ∧ Aside0 (wc.heap[gb206]? = some (.cells #[.int .i64 a1_0, .int .i64 a1_1, .int .i64 a1_2, .int .i64 a1_3] 37 (0, 0))) ∧ Aside0 (wc.heap[gb207]? = some (.cells #[.int .i64 0, .int .i64 0, .bool false, .bool false, .bool false] 24 (0, 0))) ∧ Aside0 (wc.heap[gb213]? = some (.cells #[.bool t208, .bool t209, .bool t210, .bool t211] 50 (0, 0))) ∧ Aside0 (Below w.heap.size w wc))
 case first =>
  have H := HC4.out
  clear HC4
  by_cases c19 : t212 = true
  ·subst c19
   have H1 : ((spec_l04Dark.f k a0_0 a0_1 a0_2 a0_3 a0_4).bind fun t214 => (if t214 = true then ((spec_CountFaults.f a1_0 a1_1 a1_2 a1_3).bind fun t215 => (spec_Recover.j0 k (decide (t215 > 1)) a0_0 a0_1 a0_2 a0_3 a0_4 t208 t209 t210 t211)) else (spec_Recover.j0 k true a0_0 a0_1 a0_2 a0_3 a0_4 t208 t209 t210 t211))) = some (r1, r2, r3, r4, r5, r6, r7) := by rw [if_pos rfl] at H; exact H
   clear H
   have H := H1
   clear H1
   replace H := Option.bind_eq_some_iff.mp H
   obtain ⟨t214, A200, H⟩ := H
   replace H : (if t214 = true then ((spec_CountFaults.f a1_0 a1_1 a1_2 a1_3).bind fun t215 => (spec_Recover.j0 k (decide (t215 > 1)) a0_0 a0_1 a0_2 a0_3 a0_4 t208 t209 t210 t211)) else (spec_Recover.j0 k true a0_0 a0_1 a0_2 a0_3 a0_4 t208 t209 t210 t211)) = some (r1, r2, r3, r4, r5, r6, r7) := H
   have A20 := aM A200
   clear A200
   by_cases c21 : t214 = true
   ·subst c21
    have H1 : ((spec_CountFaults.f a1_0 a1_1 a1_2 a1_3).bind fun t215 => (spec_Recover.j0 k (decide (t215 > 1)) a0_0 a0_1 a0_2 a0_3 a0_4 t208 t209 t210 t211)) = some (r1, r2, r3, r4, r5, r6, r7) := by rw [if_pos rfl] at H; exact H
    clear H
    have H := H1
    clear H1
    replace H := Option.bind_eq_some_iff.mp H
    obtain ⟨t215, A220, H⟩ := H
    replace H : (spec_Recover.j0 k (decide (t215 > 1)) a0_0 a0_1 a0_2 a0_3 a0_4 t208 t209 t210 t211) = some (r1, r2, r3, r4, r5, r6, r7) := H
    have A22 := aM A220
    clear A220
    have H' := aM H
    clear H
    have hnb23 := NB205_206.out
    have hnc23 := NB206_205.out
    have hnb24 := NB205_207.out
    have hnc24 := NB207_205.out
    have hnb25 := NB205_213.out
    have hnc25 := NB213_205.out
    obtain ⟨hcz26_0, hcz26_1, hcz26_2, hcz26_3, hcz26_4, hfz26_0, hfz26_1, hfz26_2, hfz26_3, hfz26_4⟩ := cells5 BK205.out
    go_wp2_with (first | (go_at_call 52; (with_reducible refine (spec_l04Dark.calls k a0_0 a0_1 a0_2 a0_3 a0_4 true _ A20.out).mono ?_); rintro e w27 ⟨rfl, hb⟩; have n0_ := aM (blk_below (g := gb205) (o := .cells #[.int .i64 a0_0, .int .i64 a0_1, .bool a0_2, .bool a0_3, .bool a0_4] 24 (0, 0)) (by refine pq ?_; refine blk_far ?_ NB205_213.out _; refine pq ?_; refine blk_far ?_ NB205_213.out _; refine pq ?_; refine blk_far ?_ NB205_213.out _; refine pq ?_; refine blk_far ?_ NB205_213.out _; refine pq ?_; exact BK205.out) hb); have n1_ := aM (blk_below (g := gb206) (o := .cells #[.int .i64 a1_0, .int .i64 a1_1, .int .i64 a1_2, .int .i64 a1_3] 37 (0, 0)) (by refine pq ?_; refine blk_far ?_ NB206_213.out _; refine pq ?_; refine blk_far ?_ NB206_213.out _; refine pq ?_; refine blk_far ?_ NB206_213.out _; refine pq ?_; refine blk_far ?_ NB206_213.out _; refine pq ?_; exact BK206.out) hb); have n2_ := aM (blk_below (g := gb207) (o := .cells #[.int .i64 0, .int .i64 0, .bool false, .bool false, .bool false] 24 (0, 0)) (by refine pq ?_; refine blk_far ?_ NB207_213.out _; refine pq ?_; refine blk_far ?_ NB207_213.out _; refine pq ?_; refine blk_far ?_ NB207_213.out _; refine pq ?_; refine blk_far ?_ NB207_213.out _; refine pq ?_; exact BK207.out) hb); have n3_ := aM (blk_below (g := gb213) (o := .cells #[.bool t208, .bool t209, .bool t210, .bool t211] 50 (0, 0)) (by refine pq ?_; refine blk_put (cs := #[.bool t208, .bool t209, .bool t210, .bool false]) ?_ 3 _ rfl; refine pq ?_; refine blk_put (cs := #[.bool t208, .bool t209, .bool false, .bool false]) ?_ 2 _ rfl; refine pq ?_; refine blk_put (cs := #[.bool t208, .bool false, .bool false, .bool false]) ?_ 1 _ rfl; refine pq ?_; refine blk_put (cs := #[.bool false, .bool false, .bool false, .bool false]) ?_ 0 _ rfl; refine pq ?_; exact BK213.out) hb); have n4_ := aM (below_step (zb) hb); clear BK205; clear BK206; clear BK207; clear BK213; clear HB; have BK205 := n0_; have BK206 := n1_; have BK207 := n2_; have BK213 := n3_; have HB := n4_; clear n0_ n1_ n2_ n3_ n4_; (try clear hb); (try clear hb2); (try clear hk); (try clear hi); have hnb28 := NB206_207.out; have hnc28 := NB207_206.out; have hnb29 := NB206_213.out; have hnc29 := NB213_206.out; obtain ⟨hcz30_0, hcz30_1, hcz30_2, hcz30_3, hfz30_0, hfz30_1, hfz30_2, hfz30_3⟩ := cells4 BK206.out) | (go_at_call 57; (with_reducible refine (spec_CountFaults.calls a1_0 a1_1 a1_2 a1_3 t215 _ A22.out).mono ?_); rintro e w31 ⟨rfl, hb⟩; have n0_ := aM (bb BK205.out hb); have n1_ := aM (bb BK206.out hb); have n2_ := aM (bb BK207.out hb); have n3_ := aM (bb BK213.out hb); have n4_ := aM (below_step (zb) hb); clear BK205; clear BK206; clear BK207; clear BK213; clear HB; have BK205 := n0_; have BK206 := n1_; have BK207 := n2_; have BK213 := n3_; have HB := n4_; clear n0_ n1_ n2_ n3_ n4_; (try clear hb); (try clear hb2); (try clear hk); (try clear hi)))
    go_meet
    case rel => exact ⟨_, (decide (t215 > 1)), zs, H', ⟨by first | omega | exact Nat.le_refl _⟩, ⟨by exact pk BK205.out⟩, ⟨by exact pk BK206.out⟩, ⟨by exact pk BK207.out⟩, ⟨by exact pk BK213.out⟩, ⟨zb⟩⟩
   ·replace c21 := Bool.eq_false_iff.mpr c21
    subst c21
    have H1 : (spec_Recover.j0 k true a0_0 a0_1 a0_2 a0_3 a0_4 t208 t209 t210 t211) = some (r1, r2, r3, r4, r5, r6, r7) := by rw [if_neg (show ¬ (false = true) by decide)] at H; exact H
    clear H
    have H := H1
    clear H1
    have H' := aM H
    clear H
    have hnb32 := NB205_206.out
    have hnc32 := NB206_205.out
    have hnb33 := NB205_207.out
    have hnc33 := NB207_205.out
    have hnb34 := NB205_213.out
    have hnc34 := NB213_205.out
    obtain ⟨hcz35_0, hcz35_1, hcz35_2, hcz35_3, hcz35_4, hfz35_0, hfz35_1, hfz35_2, hfz35_3, hfz35_4⟩ := cells5 BK205.out
    go_wp2_with (first | (go_at_call 52; (with_reducible refine (spec_l04Dark.calls k a0_0 a0_1 a0_2 a0_3 a0_4 false _ A20.out).mono ?_); rintro e w36 ⟨rfl, hb⟩; have n0_ := aM (blk_below (g := gb205) (o := .cells #[.int .i64 a0_0, .int .i64 a0_1, .bool a0_2, .bool a0_3, .bool a0_4] 24 (0, 0)) (by refine pq ?_; refine blk_far ?_ NB205_213.out _; refine pq ?_; refine blk_far ?_ NB205_213.out _; refine pq ?_; refine blk_far ?_ NB205_213.out _; refine pq ?_; refine blk_far ?_ NB205_213.out _; refine pq ?_; exact BK205.out) hb); have n1_ := aM (blk_below (g := gb206) (o := .cells #[.int .i64 a1_0, .int .i64 a1_1, .int .i64 a1_2, .int .i64 a1_3] 37 (0, 0)) (by refine pq ?_; refine blk_far ?_ NB206_213.out _; refine pq ?_; refine blk_far ?_ NB206_213.out _; refine pq ?_; refine blk_far ?_ NB206_213.out _; refine pq ?_; refine blk_far ?_ NB206_213.out _; refine pq ?_; exact BK206.out) hb); have n2_ := aM (blk_below (g := gb207) (o := .cells #[.int .i64 0, .int .i64 0, .bool false, .bool false, .bool false] 24 (0, 0)) (by refine pq ?_; refine blk_far ?_ NB207_213.out _; refine pq ?_; refine blk_far ?_ NB207_213.out _; refine pq ?_; refine blk_far ?_ NB207_213.out _; refine pq ?_; refine blk_far ?_ NB207_213.out _; refine pq ?_; exact BK207.out) hb); have n3_ := aM (blk_below (g := gb213) (o := .cells #[.bool t208, .bool t209, .bool t210, .bool t211] 50 (0, 0)) (by refine pq ?_; refine blk_put (cs := #[.bool t208, .bool t209, .bool t210, .bool false]) ?_ 3 _ rfl; refine pq ?_; refine blk_put (cs := #[.bool t208, .bool t209, .bool false, .bool false]) ?_ 2 _ rfl; refine pq ?_; refine blk_put (cs := #[.bool t208, .bool false, .bool false, .bool false]) ?_ 1 _ rfl; refine pq ?_; refine blk_put (cs := #[.bool false, .bool false, .bool false, .bool false]) ?_ 0 _ rfl; refine pq ?_; exact BK213.out) hb); have n4_ := aM (below_step (zb) hb); clear BK205; clear BK206; clear BK207; clear BK213; clear HB; have BK205 := n0_; have BK206 := n1_; have BK207 := n2_; have BK213 := n3_; have HB := n4_; clear n0_ n1_ n2_ n3_ n4_; (try clear hb); (try clear hb2); (try clear hk); (try clear hi)))
    go_meet
    case rel => exact ⟨_, (true), zs, H', ⟨by first | omega | exact Nat.le_refl _⟩, ⟨by exact pk BK205.out⟩, ⟨by exact pk BK206.out⟩, ⟨by exact pk BK207.out⟩, ⟨by exact pk BK213.out⟩, ⟨zb⟩⟩
  ·replace c19 := Bool.eq_false_iff.mpr c19
   subst c19
   have H1 : (spec_Recover.j0 k true a0_0 a0_1 a0_2 a0_3 a0_4 t208 t209 t210 t211) = some (r1, r2, r3, r4, r5, r6, r7) := by rw [if_neg (show ¬ (false = true) by decide)] at H; exact H
   clear H
   have H := H1
   clear H1
   have H' := aM H
   clear H
   go_wp2
   go_meet
   case rel => exact ⟨_, (true), zs, H', ⟨by first | omega | exact Nat.le_refl _⟩, ⟨by refine pq ?_; refine blk_far ?_ NB205_213.out _; refine pq ?_; refine blk_far ?_ NB205_213.out _; refine pq ?_; refine blk_far ?_ NB205_213.out _; refine pq ?_; refine blk_far ?_ NB205_213.out _; refine pq ?_; exact BK205.out⟩, ⟨by refine pq ?_; refine blk_far ?_ NB206_213.out _; refine pq ?_; refine blk_far ?_ NB206_213.out _; refine pq ?_; refine blk_far ?_ NB206_213.out _; refine pq ?_; refine blk_far ?_ NB206_213.out _; refine pq ?_; exact BK206.out⟩, ⟨by refine pq ?_; refine blk_far ?_ NB207_213.out _; refine pq ?_; refine blk_far ?_ NB207_213.out _; refine pq ?_; refine blk_far ?_ NB207_213.out _; refine pq ?_; refine blk_far ?_ NB207_213.out _; refine pq ?_; exact BK207.out⟩, ⟨by refine pq ?_; refine blk_put (cs := #[.bool t208, .bool t209, .bool t210, .bool false]) ?_ 3 _ rfl; refine pq ?_; refine blk_put (cs := #[.bool t208, .bool t209, .bool false, .bool false]) ?_ 2 _ rfl; refine pq ?_; refine blk_put (cs := #[.bool t208, .bool false, .bool false, .bool false]) ?_ 1 _ rfl; refine pq ?_; refine blk_put (cs := #[.bool false, .bool false, .bool false, .bool false]) ?_ 0 _ rfl; refine pq ?_; exact BK213.out⟩, ⟨zb⟩⟩
 case rest =>
  clear HC4
  try clear c1
  try clear c2
  try clear p2
  try clear c3
  try clear c4
  try clear c8
  try clear c9
  try clear c11
  try clear c15
  try clear c16
  try clear c17
  try clear c19
  try clear c21
  try clear c23
  try clear c24
  try clear c25
  try clear c28
  try clear c29
  try clear c32
  try clear c33
  try clear c34
  try clear hcz10_0 hcz10_1 hcz10_2 hcz10_3 hcz10_4 hfz10_0 hfz10_1 hfz10_2 hfz10_3 hfz10_4
  try clear hcz12_0 hcz12_1 hcz12_2 hcz12_3 hfz12_0 hfz12_1 hfz12_2 hfz12_3
  try clear hcz18_0 hcz18_1 hcz18_2 hcz18_3 hfz18_0 hfz18_1 hfz18_2 hfz18_3
  try clear hcz26_0 hcz26_1 hcz26_2 hcz26_3 hcz26_4 hfz26_0 hfz26_1 hfz26_2 hfz26_3 hfz26_4
  try clear hcz30_0 hcz30_1 hcz30_2 hcz30_3 hfz30_0 hfz30_1 hfz30_2 hfz30_3
  try clear hcz35_0 hcz35_1 hcz35_2 hcz35_3 hcz35_4 hfz35_0 hfz35_1 hfz35_2 hfz35_3 hfz35_4
  obtain ⟨kq, x27_3, rfl, HA, HJ3, BK205, BK206, BK207, BK213, HB⟩ := hcut
  cases kq with
  | zero => exact absurd HA.out (by simp [spec_Recover.j0])
  | succ kj3 =>
   have H := HA.out
   clear HA
   simp only [spec_Recover.j0] at H
   by_cases c37 : x27_3 = true
   ·subst c37
    have H1 : (some (a0_0, a0_1, a0_2, a0_3, a0_4, 0, false)) = some (r1, r2, r3, r4, r5, r6, r7) := by rw [if_pos rfl] at H; exact H
    clear H
    have H := H1
    clear H1
    simp only [Option.some.injEq, Prod.mk.injEq] at H
    obtain ⟨rfl, rfl, rfl, rfl, rfl, rfl, rfl⟩ := H
    have hnb38 := NB205_206.out
    have hnc38 := NB206_205.out
    have hnb39 := NB205_207.out
    have hnc39 := NB207_205.out
    have hnb40 := NB205_213.out
    have hnc40 := NB213_205.out
    obtain ⟨hcz41_0, hcz41_1, hcz41_2, hcz41_3, hcz41_4, hfz41_0, hfz41_1, hfz41_2, hfz41_3, hfz41_4⟩ := cells5 BK205.out
    have hnb42 := NB207_206.out
    have hnc42 := NB206_207.out
    have hnb43 := NB207_213.out
    have hnc43 := NB213_207.out
    obtain ⟨hcz44_0, hcz44_1, hcz44_2, hcz44_3, hcz44_4, hfz44_0, hfz44_1, hfz44_2, hfz44_3, hfz44_4⟩ := cells5 BK207.out
    go_wp2
    refine bodyPost_ret (results_ctt rfl _ _ gb207 24 #[.int .i64 a0_0, .int .i64 a0_1, .bool a0_2, .bool a0_3, .bool a0_4] (0, 0) _ rfl (by refine pq ?_; refine blk_put (cs := #[.int .i64 a0_0, .int .i64 a0_1, .bool a0_2, .bool a0_3, .bool false]) ?_ 4 _ rfl; refine pq ?_; refine blk_put (cs := #[.int .i64 a0_0, .int .i64 a0_1, .bool a0_2, .bool false, .bool false]) ?_ 3 _ rfl; refine pq ?_; refine blk_put (cs := #[.int .i64 a0_0, .int .i64 a0_1, .bool false, .bool false, .bool false]) ?_ 2 _ rfl; refine pq ?_; refine blk_put (cs := #[.int .i64 a0_0, .int .i64 0, .bool false, .bool false, .bool false]) ?_ 1 _ rfl; refine pq ?_; refine blk_put (cs := #[.int .i64 0, .int .i64 0, .bool false, .bool false, .bool false]) ?_ 0 _ rfl; refine pq ?_; exact BK207.out) Try.underlying24 rfl (by kernel_rfl)) rfl ?_
    exact ⟨zr, zb⟩
   ·replace c37 := Bool.eq_false_iff.mpr c37
    subst c37
    have H1 : ((spec_Verdict.f kj3 a0_0 t208 t209 t210 t211).bind fun t216 => (if t216 = 3 then (some (0, a0_1, false, a0_3, a0_4, t216, true)) else (if t216 = 4 then (some (0, a0_1, false, a0_3, a0_4, t216, true)) else (some (a0_0, a0_1, a0_2, a0_3, a0_4, t216, true))))) = some (r1, r2, r3, r4, r5, r6, r7) := by rw [if_neg (show ¬ (false = true) by decide)] at H; exact H
    clear H
    have H := H1
    clear H1
    replace H := Option.bind_eq_some_iff.mp H
    obtain ⟨t216, A450, H⟩ := H
    replace H : (if t216 = 3 then (some (0, a0_1, false, a0_3, a0_4, t216, true)) else (if t216 = 4 then (some (0, a0_1, false, a0_3, a0_4, t216, true)) else (some (a0_0, a0_1, a0_2, a0_3, a0_4, t216, true)))) = some (r1, r2, r3, r4, r5, r6, r7) := H
    have A45 := aM A450
    clear A450
    by_cases c46 : t216 = 3
    ·rw [if_pos c46] at H
     have c46b0 : (t216 == 3) = true := beq_iff_eq.mpr c46
     have c46b1 : (t216 != 3) = false := bne_eq_false_iff_eq.mpr c46
     clear c46
     simp only [Option.some.injEq, Prod.mk.injEq] at H
     obtain ⟨rfl, rfl, rfl, rfl, rfl, rfl, rfl⟩ := H
     have hnb47 := NB205_206.out
     have hnc47 := NB206_205.out
     have hnb48 := NB205_207.out
     have hnc48 := NB207_205.out
     have hnb49 := NB205_213.out
     have hnc49 := NB213_205.out
     obtain ⟨hcz50_0, hcz50_1, hcz50_2, hcz50_3, hcz50_4, hfz50_0, hfz50_1, hfz50_2, hfz50_3, hfz50_4⟩ := cells5 BK205.out
     have hnb51 := NB213_206.out
     have hnc51 := NB206_213.out
     have hnb52 := NB213_207.out
     have hnc52 := NB207_213.out
     obtain ⟨hcz53_0, hcz53_1, hcz53_2, hcz53_3, hfz53_0, hfz53_1, hfz53_2, hfz53_3⟩ := cells4 BK213.out
     go_wp2_with (first | ((with_reducible refine gate_callee (f := 58) rfl ?_); refine goesL_ (some 32) rfl rfl Try.func58 (by kernel_rfl) rfl #[.int .i64 a0_0, .agg #[.bool t208, .bool t209, .bool t210, .bool t211]] rfl za ?_; (with_reducible refine (spec_Verdict.calls kj3 a0_0 t208 t209 t210 t211 t216 _ A45.out).mono ?_); rintro e w54 ⟨rfl, hb⟩; refine ⟨_, rfl, ?_⟩; have n0_ := aM (bb BK205.out hb); have n1_ := aM (bb BK206.out hb); have n2_ := aM (bb BK207.out hb); have n3_ := aM (bb BK213.out hb); have n4_ := aM (below_step (zb) hb); clear BK205; clear BK206; clear BK207; clear BK213; clear HB; have BK205 := n0_; have BK206 := n1_; have BK207 := n2_; have BK213 := n3_; have HB := n4_; clear n0_ n1_ n2_ n3_ n4_; (try clear hb); (try clear hb2); (try clear hk); (try clear hi); obtain ⟨hcz55_0, hcz55_1, hcz55_2, hcz55_3, hcz55_4, hfz55_0, hfz55_1, hfz55_2, hfz55_3, hfz55_4⟩ := cells5 BK205.out; have hnb56 := NB207_206.out; have hnc56 := NB206_207.out; obtain ⟨hcz57_0, hcz57_1, hcz57_2, hcz57_3, hcz57_4, hfz57_0, hfz57_1, hfz57_2, hfz57_3, hfz57_4⟩ := cells5 BK207.out))
     refine bodyPost_ret (results_ctt rfl _ _ gb207 24 #[.int .i64 0, .int .i64 a0_1, .bool false, .bool a0_3, .bool a0_4] (0, 0) _ rfl (by refine pq ?_; refine blk_put (cs := #[.int .i64 0, .int .i64 a0_1, .bool false, .bool a0_3, .bool false]) ?_ 4 _ rfl; refine pq ?_; refine blk_put (cs := #[.int .i64 0, .int .i64 a0_1, .bool false, .bool false, .bool false]) ?_ 3 _ rfl; refine pq ?_; refine blk_put (cs := #[.int .i64 0, .int .i64 a0_1, .bool false, .bool false, .bool false]) ?_ 2 _ rfl; refine pq ?_; refine blk_put (cs := #[.int .i64 0, .int .i64 0, .bool false, .bool false, .bool false]) ?_ 1 _ rfl; refine pq ?_; refine blk_put (cs := #[.int .i64 0, .int .i64 0, .bool false, .bool false, .bool false]) ?_ 0 _ rfl; refine pq ?_; refine blk_far ?_ NB207_205.out _; refine pq ?_; refine blk_far ?_ NB207_205.out _; refine pq ?_; exact BK207.out) Try.underlying24 rfl (by kernel_rfl)) rfl ?_
     exact ⟨zr, zb⟩
    ·rw [if_neg c46] at H
     have c46b0 : (t216 == 3) = false := beq_eq_false_iff_ne.mpr c46
     have c46b1 : (t216 != 3) = true := bne_iff_ne.mpr c46
     by_cases c58 : t216 = 4
     ·rw [if_pos c58] at H
      have c58b0 : (t216 == 4) = true := beq_iff_eq.mpr c58
      have c58b1 : (t216 != 4) = false := bne_eq_false_iff_eq.mpr c58
      clear c58
      simp only [Option.some.injEq, Prod.mk.injEq] at H
      obtain ⟨rfl, rfl, rfl, rfl, rfl, rfl, rfl⟩ := H
      have hnb59 := NB205_206.out
      have hnc59 := NB206_205.out
      have hnb60 := NB205_207.out
      have hnc60 := NB207_205.out
      have hnb61 := NB205_213.out
      have hnc61 := NB213_205.out
      obtain ⟨hcz62_0, hcz62_1, hcz62_2, hcz62_3, hcz62_4, hfz62_0, hfz62_1, hfz62_2, hfz62_3, hfz62_4⟩ := cells5 BK205.out
      have hnb63 := NB213_206.out
      have hnc63 := NB206_213.out
      have hnb64 := NB213_207.out
      have hnc64 := NB207_213.out
      obtain ⟨hcz65_0, hcz65_1, hcz65_2, hcz65_3, hfz65_0, hfz65_1, hfz65_2, hfz65_3⟩ := cells4 BK213.out
      go_wp2_with (first | ((with_reducible refine gate_callee (f := 58) rfl ?_); refine goesL_ (some 32) rfl rfl Try.func58 (by kernel_rfl) rfl #[.int .i64 a0_0, .agg #[.bool t208, .bool t209, .bool t210, .bool t211]] rfl za ?_; (with_reducible refine (spec_Verdict.calls kj3 a0_0 t208 t209 t210 t211 t216 _ A45.out).mono ?_); rintro e w66 ⟨rfl, hb⟩; refine ⟨_, rfl, ?_⟩; have n0_ := aM (bb BK205.out hb); have n1_ := aM (bb BK206.out hb); have n2_ := aM (bb BK207.out hb); have n3_ := aM (bb BK213.out hb); have n4_ := aM (below_step (zb) hb); clear BK205; clear BK206; clear BK207; clear BK213; clear HB; have BK205 := n0_; have BK206 := n1_; have BK207 := n2_; have BK213 := n3_; have HB := n4_; clear n0_ n1_ n2_ n3_ n4_; (try clear hb); (try clear hb2); (try clear hk); (try clear hi); obtain ⟨hcz67_0, hcz67_1, hcz67_2, hcz67_3, hcz67_4, hfz67_0, hfz67_1, hfz67_2, hfz67_3, hfz67_4⟩ := cells5 BK205.out; have hnb68 := NB207_206.out; have hnc68 := NB206_207.out; obtain ⟨hcz69_0, hcz69_1, hcz69_2, hcz69_3, hcz69_4, hfz69_0, hfz69_1, hfz69_2, hfz69_3, hfz69_4⟩ := cells5 BK207.out))
      refine bodyPost_ret (results_ctt rfl _ _ gb207 24 #[.int .i64 0, .int .i64 a0_1, .bool false, .bool a0_3, .bool a0_4] (0, 0) _ rfl (by refine pq ?_; refine blk_put (cs := #[.int .i64 0, .int .i64 a0_1, .bool false, .bool a0_3, .bool false]) ?_ 4 _ rfl; refine pq ?_; refine blk_put (cs := #[.int .i64 0, .int .i64 a0_1, .bool false, .bool false, .bool false]) ?_ 3 _ rfl; refine pq ?_; refine blk_put (cs := #[.int .i64 0, .int .i64 a0_1, .bool false, .bool false, .bool false]) ?_ 2 _ rfl; refine pq ?_; refine blk_put (cs := #[.int .i64 0, .int .i64 0, .bool false, .bool false, .bool false]) ?_ 1 _ rfl; refine pq ?_; refine blk_put (cs := #[.int .i64 0, .int .i64 0, .bool false, .bool false, .bool false]) ?_ 0 _ rfl; refine pq ?_; refine blk_far ?_ NB207_205.out _; refine pq ?_; refine blk_far ?_ NB207_205.out _; refine pq ?_; exact BK207.out) Try.underlying24 rfl (by kernel_rfl)) rfl ?_
      exact ⟨zr, zb⟩
     ·rw [if_neg c58] at H
      have c58b0 : (t216 == 4) = false := beq_eq_false_iff_ne.mpr c58
      have c58b1 : (t216 != 4) = true := bne_iff_ne.mpr c58
      simp only [Option.some.injEq, Prod.mk.injEq] at H
      obtain ⟨rfl, rfl, rfl, rfl, rfl, rfl, rfl⟩ := H
      have hnb70 := NB205_206.out
      have hnc70 := NB206_205.out
      have hnb71 := NB205_207.out
      have hnc71 := NB207_205.out
      have hnb72 := NB205_213.out
      have hnc72 := NB213_205.out
      obtain ⟨hcz73_0, hcz73_1, hcz73_2, hcz73_3, hcz73_4, hfz73_0, hfz73_1, hfz73_2, hfz73_3, hfz73_4⟩ := cells5 BK205.out
      have hnb74 := NB213_206.out
      have hnc74 := NB206_213.out
      have hnb75 := NB213_207.out
      have hnc75 := NB207_213.out
      obtain ⟨hcz76_0, hcz76_1, hcz76_2, hcz76_3, hfz76_0, hfz76_1, hfz76_2, hfz76_3⟩ := cells4 BK213.out
      go_wp2_with (first | ((with_reducible refine gate_callee (f := 58) rfl ?_); refine goesL_ (some 32) rfl rfl Try.func58 (by kernel_rfl) rfl #[.int .i64 a0_0, .agg #[.bool t208, .bool t209, .bool t210, .bool t211]] rfl za ?_; (with_reducible refine (spec_Verdict.calls kj3 a0_0 t208 t209 t210 t211 t216 _ A45.out).mono ?_); rintro e w77 ⟨rfl, hb⟩; refine ⟨_, rfl, ?_⟩; have n0_ := aM (bb BK205.out hb); have n1_ := aM (bb BK206.out hb); have n2_ := aM (bb BK207.out hb); have n3_ := aM (bb BK213.out hb); have n4_ := aM (below_step (zb) hb); clear BK205; clear BK206; clear BK207; clear BK213; clear HB; have BK205 := n0_; have BK206 := n1_; have BK207 := n2_; have BK213 := n3_; have HB := n4_; clear n0_ n1_ n2_ n3_ n4_; (try clear hb); (try clear hb2); (try clear hk); (try clear hi); obtain ⟨hcz78_0, hcz78_1, hcz78_2, hcz78_3, hcz78_4, hfz78_0, hfz78_1, hfz78_2, hfz78_3, hfz78_4⟩ := cells5 BK205.out; have hnb79 := NB207_206.out; have hnc79 := NB206_207.out; obtain ⟨hcz80_0, hcz80_1, hcz80_2, hcz80_3, hcz80_4, hfz80_0, hfz80_1, hfz80_2, hfz80_3, hfz80_4⟩ := cells5 BK207.out))
      refine bodyPost_ret (results_ctt rfl _ _ gb207 24 #[.int .i64 a0_0, .int .i64 a0_1, .bool a0_2, .bool a0_3, .bool a0_4] (0, 0) _ rfl (by refine pq ?_; refine blk_put (cs := #[.int .i64 a0_0, .int .i64 a0_1, .bool a0_2, .bool a0_3, .bool false]) ?_ 4 _ rfl; refine pq ?_; refine blk_put (cs := #[.int .i64 a0_0, .int .i64 a0_1, .bool a0_2, .bool false, .bool false]) ?_ 3 _ rfl; refine pq ?_; refine blk_put (cs := #[.int .i64 a0_0, .int .i64 a0_1, .bool false, .bool false, .bool false]) ?_ 2 _ rfl; refine pq ?_; refine blk_put (cs := #[.int .i64 a0_0, .int .i64 0, .bool false, .bool false, .bool false]) ?_ 1 _ rfl; refine pq ?_; refine blk_put (cs := #[.int .i64 0, .int .i64 0, .bool false, .bool false, .bool false]) ?_ 0 _ rfl; refine pq ?_; exact BK207.out) Try.underlying24 rfl (by kernel_rfl)) rfl ?_
      exact ⟨zr, zb⟩

/-! ### spec_BeginDoor: function 77 -/
def spec_BeginDoor.j0 : Nat → Int → Bool → Int → Int → Bool → Bool → Bool → Option (Int × Int × Bool × Bool × Bool × Bool)
 | 0, _, _, _, _, _, _, _ => none
 | k + 1, x1, x28, x218000, x218001, x218002, x218003, x218004 => if x28 = true then (some (x218000, x218001, x218002, x218003, x218004, false)) else (some (x1, 1, x218002, x218003, x218004, true))
def spec_BeginDoor.f (k : Nat) (a0_0 : Int) (a0_1 : Int) (a0_2 : Bool) (a0_3 : Bool) (a0_4 : Bool) (a1 : Int) : Option (Int × Int × Bool × Bool × Bool × Bool) := (spec_DoorOk.f k a0_0 a0_1 a0_2 a0_3 a0_4).bind fun t219 => (if t219 = true then (if a0_0 = 0 then (if a1 = 1 then (spec_BeginDoor.j0 k a1 (a0_4 != (a1 == 2)) a0_0 a0_1 a0_2 a0_3 a0_4) else (if a1 = 2 then (spec_BeginDoor.j0 k a1 (a0_4 != (a1 == 2)) a0_0 a0_1 a0_2 a0_3 a0_4) else (spec_BeginDoor.j0 k a1 true a0_0 a0_1 a0_2 a0_3 a0_4))) else (spec_BeginDoor.j0 k a1 true a0_0 a0_1 a0_2 a0_3 a0_4)) else (spec_BeginDoor.j0 k a1 true a0_0 a0_1 a0_2 a0_3 a0_4))
theorem spec_BeginDoor.mono_l : ∀ k, (∀ y0 y1 y2 y3 y4 y5 y6, LeO (spec_BeginDoor.j0 k y0 y1 y2 y3 y4 y5 y6) (spec_BeginDoor.j0 (k + 1) y0 y1 y2 y3 y4 y5 y6))
 | 0 => fun _ _ _ _ _ _ _ r h => by simp [spec_BeginDoor.j0] at h
 | k + 1 => by
  have ih0 := spec_BeginDoor.mono_l k
  ·intro y0 y1 y2 y3 y4 y5 y6
   unfold spec_BeginDoor.j0
   repeat' first
   | (with_reducible exact ih0 _ _ _ _ _ _ _)
   | (with_reducible exact spec_DoorOk.mono _ _ _ _ _ _)
   | (with_reducible exact LeO.refl _)
   | (with_reducible exact LeO.none _)
   | (with_reducible refine LeO.ite ?_ ?_)
   | (with_reducible refine LeO.bind ?_ (fun _ => ?_))
   | exact ih0 _ _ _ _ _ _ _
   | exact spec_DoorOk.mono _ _ _ _ _ _
   | exact LeO.none _
   | refine LeO.ite ?_ ?_
   | refine LeO.bind ?_ (fun _ => ?_)
theorem spec_BeginDoor.mono : ∀ a0 a1 a2 a3 a4 a5 k, LeO (spec_BeginDoor.f k a0 a1 a2 a3 a4 a5) (spec_BeginDoor.f (k + 1) a0 a1 a2 a3 a4 a5) := by
 intro a0 a1 a2 a3 a4 a5 k
 have ih0 := spec_BeginDoor.mono_l k
 unfold spec_BeginDoor.f
 repeat' first
   | (with_reducible exact ih0 _ _ _ _ _ _ _)
   | (with_reducible exact spec_DoorOk.mono _ _ _ _ _ _)
   | (with_reducible exact LeO.refl _)
   | (with_reducible exact LeO.none _)
   | (with_reducible refine LeO.ite ?_ ?_)
   | (with_reducible refine LeO.bind ?_ (fun _ => ?_))
   | exact ih0 _ _ _ _ _ _ _
   | exact spec_DoorOk.mono _ _ _ _ _ _
   | exact LeO.none _
   | refine LeO.ite ?_ ?_
   | refine LeO.bind ?_ (fun _ => ?_)
set_option maxHeartbeats 8000000 in
set_option maxRecDepth 100000 in
theorem spec_BeginDoor.calls (k : Nat) (a0_0 : Int) (a0_1 : Int) (a0_2 : Bool) (a0_3 : Bool) (a0_4 : Bool) (a1 : Int) (r1 : Int) (r2 : Int) (r3 : Bool) (r4 : Bool) (r5 : Bool) (r6 : Bool) (w : World) (h : spec_BeginDoor.f k a0_0 a0_1 a0_2 a0_3 a0_4 a1 = some (r1, r2, r3, r4, r5, r6)) :
  Calls Try.prog 77 #[.agg #[.int .i64 a0_0, .int .i64 a0_1, .bool a0_2, .bool a0_3, .bool a0_4], .int .i64 a1] w fun e w' => e = .returned (.tuple #[.agg #[.int .i64 r1, .int .i64 r2, .bool r3, .bool r4, .bool r5], .bool r6]) ∧ Below w.heap.size w w' := by
 have hu24 := Try.underlying24
 have HB := aM (Below.refl w.heap.size w)
 have H : ((spec_DoorOk.f k a0_0 a0_1 a0_2 a0_3 a0_4).bind fun t219 => (if t219 = true then (if a0_0 = 0 then (if a1 = 1 then (spec_BeginDoor.j0 k a1 (a0_4 != (a1 == 2)) a0_0 a0_1 a0_2 a0_3 a0_4) else (if a1 = 2 then (spec_BeginDoor.j0 k a1 (a0_4 != (a1 == 2)) a0_0 a0_1 a0_2 a0_3 a0_4) else (spec_BeginDoor.j0 k a1 true a0_0 a0_1 a0_2 a0_3 a0_4))) else (spec_BeginDoor.j0 k a1 true a0_0 a0_1 a0_2 a0_3 a0_4)) else (spec_BeginDoor.j0 k a1 true a0_0 a0_1 a0_2 a0_3 a0_4))) = some (r1, r2, r3, r4, r5, r6) := h
 clear h
 have HC3 := aM H
 clear H
 go_enter Try.func77, Try.ntmps77
 go_upto_region 1 with (first | ((with_reducible refine gate_dst (N := 2) rfl ?_); refine box_event ?hg (N := 2) ?hd (cs := #[.int .i64 a0_0, .int .i64 a0_1, .bool a0_2, .bool a0_3, .bool a0_4]) (t := 24) ?hr ?_; (case hd => rfl); (case hg => rfl); (case hr => exact zg); intro gb217 hg w4 hbox hb; have n0_ := aM (below_step (zb) hb); have n1_ := aM (hbox); have n2_ := aM ((by rw [hg]; exact (below_size (zb)) : w.heap.size ≤ gb217)); have n3_ := aM ((by rw [hg]; exact (below_size (zb)) : w.heap.size ≤ gb217)); clear HB; have HB := n0_; have BK217 := n1_; have GW217 := n2_; have GE217 := n3_; clear n0_ n1_ n2_ n3_; clear hb hbox hg) | ((with_reducible refine gate_dst (N := 4) rfl ?_); refine box_event ?hg (N := 4) ?hd (cs := #[.int .i64 0, .int .i64 0, .bool false, .bool false, .bool false]) (t := 24) ?hr ?_; (case hd => rfl); (case hg => rfl); (case hr => exact zg); intro gb218 hg w5 hbox hb; have n0_ := aM (bb BK217.out hb); have n1_ := aM (below_step (zb) hb); have n2_ := aM (hbox); have n3_ := aM ((by rw [hg]; exact (below_size (zb)) : w.heap.size ≤ gb218)); have n4_ := aM ((by rw [hg]; exact (below_size (zb)) : w.heap.size ≤ gb218)); have n5_ := aM ((by rw [hg]; exact Nat.ne_of_lt (nl BK217.out) : gb217 ≠ gb218)); have n6_ := aM ((by rw [hg]; exact Nat.ne_of_gt (nl BK217.out) : gb218 ≠ gb217)); clear BK217; clear HB; have BK217 := n0_; have HB := n1_; have BK218 := n2_; have GW218 := n3_; have GE218 := n4_; have NB217_218 := n5_; have NB218_217 := n6_; clear n0_ n1_ n2_ n3_ n4_ n5_ n6_; clear hb hbox hg))
 (try simp only [Act.put, List.setIfInBounds_toArray, List.set_cons_zero, List.set_cons_succ])
 go_cut [28] (fun v28 wc => ∃ (kq : Nat) (x28_2 : Bool), v28 = .bool x28_2 ∧ Aside0 (spec_BeginDoor.j0 kq a1 x28_2 a0_0 a0_1 a0_2 a0_3 a0_4 = some (r1, r2, r3, r4, r5, r6)) ∧ Aside0 (kq ≤ k) ∧ Aside0 (wc.heap[gb217]? = some (.cells #[.int .i64 a0_0, .int .i64 a0_1, .bool a0_2, .bool a0_3, .bool a0_4] 24 (0, 0))) ∧ Aside0 (wc.heap[gb218]? = some (.cells #[.int .i64 0, .int .i64 0, .bool false, .bool false, .bool false] 24 (0, 0))) ∧ Aside0 (Below w.heap.size w wc))
 case first =>
  have H := HC3.out
  clear HC3
  replace H := Option.bind_eq_some_iff.mp H
  obtain ⟨t219, A60, H⟩ := H
  replace H : (if t219 = true then (if a0_0 = 0 then (if a1 = 1 then (spec_BeginDoor.j0 k a1 (a0_4 != (a1 == 2)) a0_0 a0_1 a0_2 a0_3 a0_4) else (if a1 = 2 then (spec_BeginDoor.j0 k a1 (a0_4 != (a1 == 2)) a0_0 a0_1 a0_2 a0_3 a0_4) else (spec_BeginDoor.j0 k a1 true a0_0 a0_1 a0_2 a0_3 a0_4))) else (spec_BeginDoor.j0 k a1 true a0_0 a0_1 a0_2 a0_3 a0_4)) else (spec_BeginDoor.j0 k a1 true a0_0 a0_1 a0_2 a0_3 a0_4)) = some (r1, r2, r3, r4, r5, r6) := H
  have A6 := aM A60
  clear A60
  by_cases c7 : t219 = true
  ·subst c7
   have H1 : (if a0_0 = 0 then (if a1 = 1 then (spec_BeginDoor.j0 k a1 (a0_4 != (a1 == 2)) a0_0 a0_1 a0_2 a0_3 a0_4) else (if a1 = 2 then (spec_BeginDoor.j0 k a1 (a0_4 != (a1 == 2)) a0_0 a0_1 a0_2 a0_3 a0_4) else (spec_BeginDoor.j0 k a1 true a0_0 a0_1 a0_2 a0_3 a0_4))) else (spec_BeginDoor.j0 k a1 true a0_0 a0_1 a0_2 a0_3 a0_4)) = some (r1, r2, r3, r4, r5, r6) := by rw [if_pos rfl] at H; exact H
   clear H
   have H := H1
   clear H1
   by_cases c8 : a0_0 = 0
   ·rw [if_pos c8] at H
    have c8b0 : (a0_0 == 0) = true := beq_iff_eq.mpr c8
    have c8b1 : (a0_0 != 0) = false := bne_eq_false_iff_eq.mpr c8
    clear c8
    (first | rw [c8b0] | (simp only [i64_w, i32_w]; rw [c8b0]) | skip)
    by_cases c9 : a1 = 1
    ·rw [if_pos c9] at H
     have c9b0 : (a1 == 1) = true := beq_iff_eq.mpr c9
     have c9b1 : (a1 != 1) = false := bne_eq_false_iff_eq.mpr c9
     clear c9
     have H' := aM H
     clear H
     have hnb10 := NB217_218.out
     have hnc10 := NB218_217.out
     obtain ⟨hcz11_0, hcz11_1, hcz11_2, hcz11_3, hcz11_4, hfz11_0, hfz11_1, hfz11_2, hfz11_3, hfz11_4⟩ := cells5 BK217.out
     go_wp2_with (first | ((with_reducible refine gate_callee (f := 51) rfl ?_); refine goesL_ (some 7) rfl rfl Try.func51 (by kernel_rfl) rfl #[.agg #[.int .i64 a0_0, .int .i64 a0_1, .bool a0_2, .bool a0_3, .bool a0_4]] rfl za ?_; (with_reducible refine (spec_DoorOk.calls k a0_0 a0_1 a0_2 a0_3 a0_4 true _ A6.out).mono ?_); rintro e w12 ⟨rfl, hb⟩; refine ⟨_, rfl, ?_⟩; have n0_ := aM (bb BK217.out hb); have n1_ := aM (bb BK218.out hb); have n2_ := aM (below_step (zb) hb); clear BK217; clear BK218; clear HB; have BK217 := n0_; have BK218 := n1_; have HB := n2_; clear n0_ n1_ n2_; (try clear hb); (try clear hb2); (try clear hk); (try clear hi); obtain ⟨hcz13_0, hcz13_1, hcz13_2, hcz13_3, hcz13_4, hfz13_0, hfz13_1, hfz13_2, hfz13_3, hfz13_4⟩ := cells5 BK217.out))
     go_meet
     case rel => exact ⟨_, ((a0_4 != (a1 == 2))), zs, H', ⟨by first | omega | exact Nat.le_refl _⟩, ⟨by exact pk BK217.out⟩, ⟨by exact pk BK218.out⟩, ⟨zb⟩⟩
    ·rw [if_neg c9] at H
     have c9b0 : (a1 == 1) = false := beq_eq_false_iff_ne.mpr c9
     have c9b1 : (a1 != 1) = true := bne_iff_ne.mpr c9
     by_cases c14 : a1 = 2
     ·rw [if_pos c14] at H
      have c14b0 : (a1 == 2) = true := beq_iff_eq.mpr c14
      have c14b1 : (a1 != 2) = false := bne_eq_false_iff_eq.mpr c14
      clear c14
      have H' := aM H
      clear H
      have hnb15 := NB217_218.out
      have hnc15 := NB218_217.out
      obtain ⟨hcz16_0, hcz16_1, hcz16_2, hcz16_3, hcz16_4, hfz16_0, hfz16_1, hfz16_2, hfz16_3, hfz16_4⟩ := cells5 BK217.out
      go_wp2_with (first | ((with_reducible refine gate_callee (f := 51) rfl ?_); refine goesL_ (some 7) rfl rfl Try.func51 (by kernel_rfl) rfl #[.agg #[.int .i64 a0_0, .int .i64 a0_1, .bool a0_2, .bool a0_3, .bool a0_4]] rfl za ?_; (with_reducible refine (spec_DoorOk.calls k a0_0 a0_1 a0_2 a0_3 a0_4 true _ A6.out).mono ?_); rintro e w17 ⟨rfl, hb⟩; refine ⟨_, rfl, ?_⟩; have n0_ := aM (bb BK217.out hb); have n1_ := aM (bb BK218.out hb); have n2_ := aM (below_step (zb) hb); clear BK217; clear BK218; clear HB; have BK217 := n0_; have BK218 := n1_; have HB := n2_; clear n0_ n1_ n2_; (try clear hb); (try clear hb2); (try clear hk); (try clear hi); obtain ⟨hcz18_0, hcz18_1, hcz18_2, hcz18_3, hcz18_4, hfz18_0, hfz18_1, hfz18_2, hfz18_3, hfz18_4⟩ := cells5 BK217.out))
      go_meet
      case rel => exact ⟨_, ((a0_4 != (a1 == 2))), zs, H', ⟨by first | omega | exact Nat.le_refl _⟩, ⟨by exact pk BK217.out⟩, ⟨by exact pk BK218.out⟩, ⟨zb⟩⟩
     ·rw [if_neg c14] at H
      have c14b0 : (a1 == 2) = false := beq_eq_false_iff_ne.mpr c14
      have c14b1 : (a1 != 2) = true := bne_iff_ne.mpr c14
      have H' := aM H
      clear H
      have hnb19 := NB217_218.out
      have hnc19 := NB218_217.out
      obtain ⟨hcz20_0, hcz20_1, hcz20_2, hcz20_3, hcz20_4, hfz20_0, hfz20_1, hfz20_2, hfz20_3, hfz20_4⟩ := cells5 BK217.out
      go_wp2_with (first | ((with_reducible refine gate_callee (f := 51) rfl ?_); refine goesL_ (some 7) rfl rfl Try.func51 (by kernel_rfl) rfl #[.agg #[.int .i64 a0_0, .int .i64 a0_1, .bool a0_2, .bool a0_3, .bool a0_4]] rfl za ?_; (with_reducible refine (spec_DoorOk.calls k a0_0 a0_1 a0_2 a0_3 a0_4 true _ A6.out).mono ?_); rintro e w21 ⟨rfl, hb⟩; refine ⟨_, rfl, ?_⟩; have n0_ := aM (bb BK217.out hb); have n1_ := aM (bb BK218.out hb); have n2_ := aM (below_step (zb) hb); clear BK217; clear BK218; clear HB; have BK217 := n0_; have BK218 := n1_; have HB := n2_; clear n0_ n1_ n2_; (try clear hb); (try clear hb2); (try clear hk); (try clear hi); obtain ⟨hcz22_0, hcz22_1, hcz22_2, hcz22_3, hcz22_4, hfz22_0, hfz22_1, hfz22_2, hfz22_3, hfz22_4⟩ := cells5 BK217.out))
      go_meet
      case rel => exact ⟨_, (true), zs, H', ⟨by first | omega | exact Nat.le_refl _⟩, ⟨by exact pk BK217.out⟩, ⟨by exact pk BK218.out⟩, ⟨zb⟩⟩
   ·rw [if_neg c8] at H
    have c8b0 : (a0_0 == 0) = false := beq_eq_false_iff_ne.mpr c8
    have c8b1 : (a0_0 != 0) = true := bne_iff_ne.mpr c8
    (first | rw [c8b0] | (simp only [i64_w, i32_w]; rw [c8b0]) | skip)
    have H' := aM H
    clear H
    have hnb23 := NB217_218.out
    have hnc23 := NB218_217.out
    obtain ⟨hcz24_0, hcz24_1, hcz24_2, hcz24_3, hcz24_4, hfz24_0, hfz24_1, hfz24_2, hfz24_3, hfz24_4⟩ := cells5 BK217.out
    go_wp2_with (first | ((with_reducible refine gate_callee (f := 51) rfl ?_); refine goesL_ (some 7) rfl rfl Try.func51 (by kernel_rfl) rfl #[.agg #[.int .i64 a0_0, .int .i64 a0_1, .bool a0_2, .bool a0_3, .bool a0_4]] rfl za ?_; (with_reducible refine (spec_DoorOk.calls k a0_0 a0_1 a0_2 a0_3 a0_4 true _ A6.out).mono ?_); rintro e w25 ⟨rfl, hb⟩; refine ⟨_, rfl, ?_⟩; have n0_ := aM (bb BK217.out hb); have n1_ := aM (bb BK218.out hb); have n2_ := aM (below_step (zb) hb); clear BK217; clear BK218; clear HB; have BK217 := n0_; have BK218 := n1_; have HB := n2_; clear n0_ n1_ n2_; (try clear hb); (try clear hb2); (try clear hk); (try clear hi); obtain ⟨hcz26_0, hcz26_1, hcz26_2, hcz26_3, hcz26_4, hfz26_0, hfz26_1, hfz26_2, hfz26_3, hfz26_4⟩ := cells5 BK217.out))
    go_meet
    case rel => exact ⟨_, (true), zs, H', ⟨by first | omega | exact Nat.le_refl _⟩, ⟨by exact pk BK217.out⟩, ⟨by exact pk BK218.out⟩, ⟨zb⟩⟩
  ·replace c7 := Bool.eq_false_iff.mpr c7
   subst c7
   have H1 : (spec_BeginDoor.j0 k a1 true a0_0 a0_1 a0_2 a0_3 a0_4) = some (r1, r2, r3, r4, r5, r6) := by rw [if_neg (show ¬ (false = true) by decide)] at H; exact H
   clear H
   have H := H1
   clear H1
   have H' := aM H
   clear H
   have hnb27 := NB217_218.out
   have hnc27 := NB218_217.out
   obtain ⟨hcz28_0, hcz28_1, hcz28_2, hcz28_3, hcz28_4, hfz28_0, hfz28_1, hfz28_2, hfz28_3, hfz28_4⟩ := cells5 BK217.out
   go_wp2_with (first | ((with_reducible refine gate_callee (f := 51) rfl ?_); refine goesL_ (some 7) rfl rfl Try.func51 (by kernel_rfl) rfl #[.agg #[.int .i64 a0_0, .int .i64 a0_1, .bool a0_2, .bool a0_3, .bool a0_4]] rfl za ?_; (with_reducible refine (spec_DoorOk.calls k a0_0 a0_1 a0_2 a0_3 a0_4 false _ A6.out).mono ?_); rintro e w29 ⟨rfl, hb⟩; refine ⟨_, rfl, ?_⟩; have n0_ := aM (bb BK217.out hb); have n1_ := aM (bb BK218.out hb); have n2_ := aM (below_step (zb) hb); clear BK217; clear BK218; clear HB; have BK217 := n0_; have BK218 := n1_; have HB := n2_; clear n0_ n1_ n2_; (try clear hb); (try clear hb2); (try clear hk); (try clear hi)))
   go_meet
   case rel => exact ⟨_, (true), zs, H', ⟨by first | omega | exact Nat.le_refl _⟩, ⟨by exact pk BK217.out⟩, ⟨by exact pk BK218.out⟩, ⟨zb⟩⟩
 case rest =>
  clear HC3
  try clear c1
  try clear c2
  try clear p2
  try clear c5
  try clear c7
  try clear c8
  try clear c8b0
  try clear c8b1
  try clear c9
  try clear c9b0
  try clear c9b1
  try clear c10
  try clear c14
  try clear c14b0
  try clear c14b1
  try clear c15
  try clear c19
  try clear c23
  try clear c27
  try clear hcz11_0 hcz11_1 hcz11_2 hcz11_3 hcz11_4 hfz11_0 hfz11_1 hfz11_2 hfz11_3 hfz11_4
  try clear hcz13_0 hcz13_1 hcz13_2 hcz13_3 hcz13_4 hfz13_0 hfz13_1 hfz13_2 hfz13_3 hfz13_4
  try clear hcz16_0 hcz16_1 hcz16_2 hcz16_3 hcz16_4 hfz16_0 hfz16_1 hfz16_2 hfz16_3 hfz16_4
  try clear hcz18_0 hcz18_1 hcz18_2 hcz18_3 hcz18_4 hfz18_0 hfz18_1 hfz18_2 hfz18_3 hfz18_4
  try clear hcz20_0 hcz20_1 hcz20_2 hcz20_3 hcz20_4 hfz20_0 hfz20_1 hfz20_2 hfz20_3 hfz20_4
  try clear hcz22_0 hcz22_1 hcz22_2 hcz22_3 hcz22_4 hfz22_0 hfz22_1 hfz22_2 hfz22_3 hfz22_4
  try clear hcz24_0 hcz24_1 hcz24_2 hcz24_3 hcz24_4 hfz24_0 hfz24_1 hfz24_2 hfz24_3 hfz24_4
  try clear hcz26_0 hcz26_1 hcz26_2 hcz26_3 hcz26_4 hfz26_0 hfz26_1 hfz26_2 hfz26_3 hfz26_4
  try clear hcz28_0 hcz28_1 hcz28_2 hcz28_3 hcz28_4 hfz28_0 hfz28_1 hfz28_2 hfz28_3 hfz28_4
  obtain ⟨kq, x28_2, rfl, HA, HJ2, BK217, BK218, HB⟩ := hcut
  cases kq with
  | zero => exact absurd HA.out (by simp [spec_BeginDoor.j0])
  | succ kj2 =>
   have H := HA.out
   clear HA
   simp only [spec_BeginDoor.j0] at H
   by_cases c30 : x28_2 = true
   ·subst c30
    have H1 : (some (a0_0, a0_1, a0_2, a0_3, a0_4, false)) = some (r1, r2, r3, r4, r5, r6) := by rw [if_pos rfl] at H; exact H
    clear H
    have H := H1
    clear H1
    simp only [Option.some.injEq, Prod.mk.injEq] at H
    obtain ⟨rfl, rfl, rfl, rfl, rfl, rfl⟩ := H
    have hnb31 := NB217_218.out
    have hnc31 := NB218_217.out
    obtain ⟨hcz32_0, hcz32_1, hcz32_2, hcz32_3, hcz32_4, hfz32_0, hfz32_1, hfz32_2, hfz32_3, hfz32_4⟩ := cells5 BK217.out
    obtain ⟨hcz33_0, hcz33_1, hcz33_2, hcz33_3, hcz33_4, hfz33_0, hfz33_1, hfz33_2, hfz33_3, hfz33_4⟩ := cells5 BK218.out
    go_wp2
    refine bodyPost_ret (results_ct rfl _ _ gb218 24 #[.int .i64 a0_0, .int .i64 a0_1, .bool a0_2, .bool a0_3, .bool a0_4] (0, 0) _ rfl (by refine pq ?_; refine blk_put (cs := #[.int .i64 a0_0, .int .i64 a0_1, .bool a0_2, .bool a0_3, .bool false]) ?_ 4 _ rfl; refine pq ?_; refine blk_put (cs := #[.int .i64 a0_0, .int .i64 a0_1, .bool a0_2, .bool false, .bool false]) ?_ 3 _ rfl; refine pq ?_; refine blk_put (cs := #[.int .i64 a0_0, .int .i64 a0_1, .bool false, .bool false, .bool false]) ?_ 2 _ rfl; refine pq ?_; refine blk_put (cs := #[.int .i64 a0_0, .int .i64 0, .bool false, .bool false, .bool false]) ?_ 1 _ rfl; refine pq ?_; refine blk_put (cs := #[.int .i64 0, .int .i64 0, .bool false, .bool false, .bool false]) ?_ 0 _ rfl; refine pq ?_; exact BK218.out) Try.underlying24 rfl (by kernel_rfl)) rfl ?_
    exact ⟨zr, zb⟩
   ·replace c30 := Bool.eq_false_iff.mpr c30
    subst c30
    have H1 : (some (a1, 1, a0_2, a0_3, a0_4, true)) = some (r1, r2, r3, r4, r5, r6) := by rw [if_neg (show ¬ (false = true) by decide)] at H; exact H
    clear H
    have H := H1
    clear H1
    simp only [Option.some.injEq, Prod.mk.injEq] at H
    obtain ⟨rfl, rfl, rfl, rfl, rfl, rfl⟩ := H
    have hnb34 := NB217_218.out
    have hnc34 := NB218_217.out
    obtain ⟨hcz35_0, hcz35_1, hcz35_2, hcz35_3, hcz35_4, hfz35_0, hfz35_1, hfz35_2, hfz35_3, hfz35_4⟩ := cells5 BK217.out
    obtain ⟨hcz36_0, hcz36_1, hcz36_2, hcz36_3, hcz36_4, hfz36_0, hfz36_1, hfz36_2, hfz36_3, hfz36_4⟩ := cells5 BK218.out
    go_wp2
    refine bodyPost_ret (results_ct rfl _ _ gb218 24 #[.int .i64 a1, .int .i64 1, .bool a0_2, .bool a0_3, .bool a0_4] (0, 0) _ rfl (by refine pq ?_; refine blk_put (cs := #[.int .i64 a1, .int .i64 1, .bool a0_2, .bool a0_3, .bool false]) ?_ 4 _ rfl; refine pq ?_; refine blk_put (cs := #[.int .i64 a1, .int .i64 1, .bool a0_2, .bool false, .bool false]) ?_ 3 _ rfl; refine pq ?_; refine blk_put (cs := #[.int .i64 a1, .int .i64 1, .bool false, .bool false, .bool false]) ?_ 2 _ rfl; refine pq ?_; refine blk_put (cs := #[.int .i64 a1, .int .i64 0, .bool false, .bool false, .bool false]) ?_ 1 _ rfl; refine pq ?_; refine blk_put (cs := #[.int .i64 0, .int .i64 0, .bool false, .bool false, .bool false]) ?_ 0 _ rfl; refine pq ?_; refine blk_far ?_ NB218_217.out _; refine pq ?_; refine blk_far ?_ NB218_217.out _; refine pq ?_; exact BK218.out) Try.underlying24 rfl (by kernel_rfl)) rfl ?_
    exact ⟨zr, zb⟩

end Go.Proofs.Ytglpkjcblpjnoab.QFnSigns
