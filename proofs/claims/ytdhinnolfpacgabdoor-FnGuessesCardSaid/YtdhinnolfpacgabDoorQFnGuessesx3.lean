-- Printed functions and their walks: by print.py, turned by wip/tools/myprint.py.
import Derived.Test.YtdhinnolfpacgabDoorQFnGuessesx0
import Derived.Test.YtdhinnolfpacgabDoorQFnGuessesx2
namespace Go.Proofs.YtdhinnolfpacgabDoor.QFnGuesses
open Go.RowKit Go.Proofs.YtdhinnolfpacgabDoorW.PrintWords Go.Proofs.YtdhinnolfpacgabDoorW.PrintLast Go.Proofs.YtdhinnolfpacgabDoorW.PrintMore
attribute [local go_sem] max2_int min2_int max_two min_two max_three min_three max_four min_four   -- for this text's walks alone
set_option linter.unusedVariables false
set_option linter.unusedSimpArgs false

/-! ### impl_CodeOf: function 27 -/
mutual
def impl_CodeOf.j0 : Nat → Int → Int → Bool → Option (ByteArray)
 | 0, _, _, _ => none
 | k + 1, x0, x1, x15 => if x15 = true then (some (⟨#[]⟩ : ByteArray)) else (impl_CodeOf.l0 k (Int.tmod (wrap64 (x0 + (wrap64 (65537 * x1)))) 2147483647) 0)
def impl_CodeOf.l0 : Nat → Int → Int → Option (ByteArray)
 | 0, _, _ => none
 | k + 1, x5, x6 => if x6 < 3 then (impl_CodeOf.l0 k (Int.tmod (wrap64 (48271 * x5)) 2147483647) (wrap64 (x6 + 1))) else ((impl_FormatInt.f (Int.tmod x5 1000000)).bind fun t150 => (impl_CodeOf.l1 k t150))
def impl_CodeOf.l1 : Nat → ByteArray → Option (ByteArray)
 | 0, _ => none
 | k + 1, x7 => if (x7.size : Int) < 6 then (if 1 + x7.size ≤ 9223372036854775807 then (impl_CodeOf.l1 k ((⟨#[48]⟩ : ByteArray) ++ x7)) else (none)) else (some x7)
end
def impl_CodeOf.f (k : Nat) (a0 : Int) (a1 : Int) : Option (ByteArray) := (impl_secretOk.f a0).bind fun t148 => (if t148 = true then ((impl_countOk.f a1).bind fun t149 => (impl_CodeOf.j0 k a0 a1 (!t149))) else (impl_CodeOf.j0 k a0 a1 true))
theorem impl_CodeOf.mono_l : ∀ k, (∀ y0 y1 y2, LeO (impl_CodeOf.j0 k y0 y1 y2) (impl_CodeOf.j0 (k + 1) y0 y1 y2)) ∧ (∀ y0 y1, LeO (impl_CodeOf.l0 k y0 y1) (impl_CodeOf.l0 (k + 1) y0 y1)) ∧ (∀ y0, LeO (impl_CodeOf.l1 k y0) (impl_CodeOf.l1 (k + 1) y0))
 | 0 => ⟨fun _ _ _ r h => by simp [impl_CodeOf.j0] at h, fun _ _ r h => by simp [impl_CodeOf.l0] at h, fun _ r h => by simp [impl_CodeOf.l1] at h⟩
 | k + 1 => by
  obtain ⟨ih0, ih1, ih2⟩ := impl_CodeOf.mono_l k
  refine ⟨?_, ?_, ?_⟩
  ·intro y0 y1 y2
   unfold impl_CodeOf.j0
   repeat' first
   | (with_reducible exact ih0 _ _ _)
   | (with_reducible exact ih1 _ _)
   | (with_reducible exact ih2 _)
   | (with_reducible exact LeO.refl _)
   | (with_reducible exact LeO.none _)
   | (with_reducible refine LeO.ite ?_ ?_)
   | (with_reducible refine LeO.bind ?_ (fun _ => ?_))
   | exact ih0 _ _ _
   | exact ih1 _ _
   | exact ih2 _
   | exact LeO.none _
   | refine LeO.ite ?_ ?_
   | refine LeO.bind ?_ (fun _ => ?_)
  ·intro y0 y1
   unfold impl_CodeOf.l0
   repeat' first
   | (with_reducible exact ih0 _ _ _)
   | (with_reducible exact ih1 _ _)
   | (with_reducible exact ih2 _)
   | (with_reducible exact LeO.refl _)
   | (with_reducible exact LeO.none _)
   | (with_reducible refine LeO.ite ?_ ?_)
   | (with_reducible refine LeO.bind ?_ (fun _ => ?_))
   | exact ih0 _ _ _
   | exact ih1 _ _
   | exact ih2 _
   | exact LeO.none _
   | refine LeO.ite ?_ ?_
   | refine LeO.bind ?_ (fun _ => ?_)
  ·intro y0
   unfold impl_CodeOf.l1
   repeat' first
   | (with_reducible exact ih0 _ _ _)
   | (with_reducible exact ih1 _ _)
   | (with_reducible exact ih2 _)
   | (with_reducible exact LeO.refl _)
   | (with_reducible exact LeO.none _)
   | (with_reducible refine LeO.ite ?_ ?_)
   | (with_reducible refine LeO.bind ?_ (fun _ => ?_))
   | exact ih0 _ _ _
   | exact ih1 _ _
   | exact ih2 _
   | exact LeO.none _
   | refine LeO.ite ?_ ?_
   | refine LeO.bind ?_ (fun _ => ?_)
theorem impl_CodeOf.mono : ∀ a0 a1 k, LeO (impl_CodeOf.f k a0 a1) (impl_CodeOf.f (k + 1) a0 a1) := by
 intro a0 a1 k
 obtain ⟨ih0, ih1, ih2⟩ := impl_CodeOf.mono_l k
 unfold impl_CodeOf.f
 repeat' first
   | (with_reducible exact ih0 _ _ _)
   | (with_reducible exact ih1 _ _)
   | (with_reducible exact ih2 _)
   | (with_reducible exact LeO.refl _)
   | (with_reducible exact LeO.none _)
   | (with_reducible refine LeO.ite ?_ ?_)
   | (with_reducible refine LeO.bind ?_ (fun _ => ?_))
   | exact ih0 _ _ _
   | exact ih1 _ _
   | exact ih2 _
   | exact LeO.none _
   | refine LeO.ite ?_ ?_
   | refine LeO.bind ?_ (fun _ => ?_)
set_option maxHeartbeats 8000000 in
set_option maxRecDepth 100000 in
theorem impl_CodeOf.calls (k : Nat) (a0 : Int) (a1 : Int) (r : ByteArray) (w : World) (h : impl_CodeOf.f k a0 a1 = some r) (HTAB : Sh.TabH w := by exact Sh.tabH HTAB (by repeat (first | (with_reducible first | exact HB.out | exact HBW.out | apply eA | apply eN | apply eD | refine eS ?_ (Aside0.out ‹_›)) | exact HB.out))) :
  Calls Tryd.prog 27 #[.int .i64 a0, .int .i64 a1] w fun e w' => e = .returned (.string r) ∧ Below w.heap.size w w' := by
 have HB := aM (Below.refl w.heap.size w)
 have H : ((impl_secretOk.f a0).bind fun t148 => (if t148 = true then ((impl_countOk.f a1).bind fun t149 => (impl_CodeOf.j0 k a0 a1 (!t149))) else (impl_CodeOf.j0 k a0 a1 true))) = some r := h
 clear h
 have HC3 := aM H
 clear H
 go_enter Tryd.func27, Tryd.ntmps27
 go_upto_region 1 with (fail)
 go_cut [15] (fun v15 wc => ∃ (kq : Nat) (x15_2 : Bool), v15 = .bool x15_2 ∧ Aside0 (impl_CodeOf.j0 kq a0 a1 x15_2 = some r) ∧ Aside0 (kq ≤ k) ∧ Aside0 (Below w.heap.size w wc))
 case first =>
  have H := HC3.out
  clear HC3
  replace H := Option.bind_eq_some_iff.mp H
  obtain ⟨t148, A40, H⟩ := H
  replace H : (if t148 = true then ((impl_countOk.f a1).bind fun t149 => (impl_CodeOf.j0 k a0 a1 (!t149))) else (impl_CodeOf.j0 k a0 a1 true)) = some r := H
  have A4 := aM A40
  clear A40
  by_cases c5 : t148 = true
  ·subst c5
   have H1 : ((impl_countOk.f a1).bind fun t149 => (impl_CodeOf.j0 k a0 a1 (!t149))) = some r := by rw [if_pos rfl] at H; exact H
   clear H
   have H := H1
   clear H1
   replace H := Option.bind_eq_some_iff.mp H
   obtain ⟨t149, A60, H⟩ := H
   replace H : (impl_CodeOf.j0 k a0 a1 (!t149)) = some r := H
   have A6 := aM A60
   clear A60
   have H' := aM H
   clear H
   go_wp2_with (first | ((with_reducible refine gate_callee (f := 23) rfl ?_); refine goesL_ (some 9) rfl rfl Tryd.func23 (by kernel_rfl) rfl #[.int .i64 a0] rfl za ?_; (with_reducible refine (impl_secretOk.calls a0 true _ A4.out).mono ?_); rintro e w' ⟨rfl, ⟨nd, rfl⟩⟩; refine ⟨_, rfl, ?_⟩) | (go_at_call 26; (with_reducible refine (impl_countOk.calls a1 t149 _ A6.out).mono ?_); rintro e w' ⟨rfl, ⟨nd, rfl⟩⟩))
   go_meet
   case rel => exact ⟨_, (!t149), zs, H', ⟨by first | omega | exact Nat.le_refl _⟩, ⟨zb⟩⟩
  ·replace c5 := Bool.eq_false_iff.mpr c5
   subst c5
   have H1 : (impl_CodeOf.j0 k a0 a1 true) = some r := by rw [if_neg (show ¬ (false = true) by decide)] at H; exact H
   clear H
   have H := H1
   clear H1
   have H' := aM H
   clear H
   go_wp2_with (first | ((with_reducible refine gate_callee (f := 23) rfl ?_); refine goesL_ (some 9) rfl rfl Tryd.func23 (by kernel_rfl) rfl #[.int .i64 a0] rfl za ?_; (with_reducible refine (impl_secretOk.calls a0 false _ A4.out).mono ?_); rintro e w' ⟨rfl, ⟨nd, rfl⟩⟩; refine ⟨_, rfl, ?_⟩))
   go_meet
   case rel => exact ⟨_, (true), zs, H', ⟨by first | omega | exact Nat.le_refl _⟩, ⟨zb⟩⟩
 case rest =>
  clear HC3
  try clear c2
  try clear p2
  try clear c5
  obtain ⟨kq, x15_2, rfl, HA, HJ2, HB⟩ := hcut
  cases kq with
  | zero => exact absurd HA.out (by simp [impl_CodeOf.j0])
  | succ kj2 =>
   have H := HA.out
   clear HA
   simp only [impl_CodeOf.j0] at H
   by_cases c7 : x15_2 = true
   ·subst c7
    have H1 : (some (⟨#[]⟩ : ByteArray)) = some r := by rw [if_pos rfl] at H; exact H
    clear H
    have H := H1
    clear H1
    obtain rfl := Option.some.inj H
    go_wp2
    go_ret
    exact ⟨zr, zb⟩
   ·replace c7 := Bool.eq_false_iff.mpr c7
    subst c7
    have H1 : (impl_CodeOf.l0 kj2 (Int.tmod (wrap64 (a0 + (wrap64 (65537 * a1)))) 2147483647) 0) = some r := by rw [if_neg (show ¬ (false = true) by decide)] at H; exact H
    clear H
    have H := H1
    clear H1
    have H' := aM H
    clear H
    go_wp2
    go_loopg [5, 6] kj2 (fun kq v5 v6 w' => ∃ (x5_2 : Int) (x6_2 : Int), v5 = .int .i64 x5_2 ∧ v6 = .int .i64 x6_2 ∧ Aside0 (impl_CodeOf.l0 kq x5_2 x6_2 = some r) ∧ Aside0 (kq ≤ kj2) ∧ Aside0 (Below w.heap.size w w'))
    case atStart => exact ⟨(Int.tmod (wrap64 (a0 + (wrap64 (65537 * a1)))) 2147483647), (0), zs, zs, H', ⟨Nat.le_refl _⟩, ⟨zb⟩⟩
    case round =>
     clear H'
     try clear c2
     try clear p2
     try clear c5
     try clear p6
     try clear c7
     try clear p2
     obtain ⟨x5_2, x6_2, rfl, rfl, HA, HK2, HB⟩ := hrel
     cases gk with
     | zero => exact absurd HA.out (by simp [impl_CodeOf.l0])
     | succ k2 =>
      have H := HA.out
      clear HA
      simp only [impl_CodeOf.l0] at H
      by_cases c8 : x6_2 < 3
      ·rw [if_pos c8] at H
       have c8b0 : decide (x6_2 < 3) = true := decide_eq_true c8
       clear c8
       have H' := aM H
       clear H
       go_wp2
       go_roundg k2
       case measure => have := HJ2.out; have := HK2.out; omega
       case rel => exact ⟨(Int.tmod (wrap64 (48271 * x5_2)) 2147483647), (wrap64 (x6_2 + 1)), zs, zs, H', ⟨by have := HJ2.out; have := HK2.out; omega⟩, ⟨zb⟩⟩
      ·rw [if_neg c8] at H
       have c8b0 : decide (x6_2 < 3) = false := decide_eq_false c8
       clear c8
       replace H := Option.bind_eq_some_iff.mp H
       obtain ⟨t150, A90, H⟩ := H
       replace H : (impl_CodeOf.l1 k2 t150) = some r := H
       have A9 := aM A90
       clear A90
       have H' := aM H
       clear H
       go_wp2_with (first | ((with_reducible refine gate_callee (f := 30) rfl ?_); refine goesL_ (some 30) rfl rfl Tryd.func30 (by kernel_rfl) rfl #[.int .i64 (Int.tmod x5_2 1000000)] rfl za ?_; (with_reducible refine (impl_FormatInt.calls (Int.tmod x5_2 1000000) t150 _ A9.out).mono ?_); rintro e w10 ⟨rfl, hb⟩; refine ⟨_, rfl, ?_⟩; have n0_ := aM (below_step (zb) hb); clear HB; have HB := n0_; clear n0_; (try clear hb); (try clear hb2); (try clear hk); (try clear hi)))
       go_loopg [7] k2 (fun kq v7 w' => ∃ (x7_3 : ByteArray), v7 = .string x7_3 ∧ Aside0 (impl_CodeOf.l1 kq x7_3 = some r) ∧ Aside0 (kq ≤ k2) ∧ Aside0 (Below w.heap.size w w'))
       case atStart => exact ⟨(t150), zs, H', ⟨Nat.le_refl _⟩, ⟨zb⟩⟩
       case round =>
        clear H'
        try clear c2
        try clear p2
        try clear c3
        try clear c5
        try clear p6
        try clear c7
        try clear c8
        try clear c8b0
        try clear p2
        try clear p6
        obtain ⟨x7_3, rfl, HA, HK3, HB⟩ := hrel
        cases gk with
        | zero => exact absurd HA.out (by simp [impl_CodeOf.l1])
        | succ k3 =>
         have H := HA.out
         clear HA
         simp only [impl_CodeOf.l1] at H
         by_cases c11 : (x7_3.size : Int) < 6
         ·rw [if_pos c11] at H
          have c11b0 : decide ((x7_3.size : Int) < 6) = true := decide_eq_true c11
          have c11b1 : decide (x7_3.size < 6) = true := decide_eq_true (by omega)
          clear c11
          by_cases c12 : 1 + x7_3.size ≤ 9223372036854775807
          ·rw [if_pos c12] at H
           have c12b0 := eq_true c12
           have c12b1 : decide (1 + x7_3.size ≤ 9223372036854775807) = true := decide_eq_true c12
           try have c12b2 : (9223372036854775807 < 1 + x7_3.size) = False := eq_false (Nat.not_lt.2 c12)
           have H' := aM H
           clear H
           go_wp2
           go_roundg k3
           case measure => have := HJ2.out; have := HK2.out; have := HK3.out; omega
           case rel => exact ⟨((⟨#[48]⟩ : ByteArray) ++ x7_3), zs, H', ⟨by have := HJ2.out; have := HK2.out; have := HK3.out; omega⟩, ⟨zb⟩⟩
          ·rw [if_neg c12] at H
           exact absurd H (by simp)
         ·rw [if_neg c11] at H
          have c11b0 : decide ((x7_3.size : Int) < 6) = false := decide_eq_false c11
          have c11b1 : decide (x7_3.size < 6) = false := decide_eq_false (by omega)
          clear c11
          obtain rfl := Option.some.inj H
          go_wp2
          go_ret
          exact ⟨zr, zb⟩

/-! ### impl_MatchOf: function 17 -/
mutual
def impl_MatchOf.l0 : Nat → ByteArray → Int → Int → Int → Int → Int → Int → Option (Int)
 | 0, _, _, _, _, _, _, _ => none
 | k + 1, x1, x5, x152000, x152001, x152002, x152003, x152004 => if x5 < (wrap64 (x152001 + 5)) then ((impl_countOk.f x5).bind fun t153 => (impl_MatchOf.j1 k x1 x5 t153 x152000 x152001 x152002 x152003 x152004)) else (impl_MatchOf.j1 k x1 x5 false x152000 x152001 x152002 x152003 x152004)
def impl_MatchOf.j1 : Nat → ByteArray → Int → Bool → Int → Int → Int → Int → Int → Option (Int)
 | 0, _, _, _, _, _, _, _, _ => none
 | k + 1, x1, x5, x19, x152000, x152001, x152002, x152003, x152004 => if x19 = true then ((impl_CodeOf.f k x152000 x5).bind fun t154 => (if t154.toList = x1.toList then (some x5) else (impl_MatchOf.l0 k x1 (wrap64 (x5 + 1)) x152000 x152001 x152002 x152003 x152004))) else (some (-1))
end
def impl_MatchOf.f (k : Nat) (a0_0 : Int) (a0_1 : Int) (a0_2 : Int) (a0_3 : Int) (a0_4 : Int) (a1 : ByteArray) : Option (Int) := (impl_LockOk.f a0_0 a0_1 a0_2 a0_3 a0_4).bind fun t152 => (if t152 = true then (impl_MatchOf.l0 k a1 a0_1 a0_0 a0_1 a0_2 a0_3 a0_4) else (some (-1)))
theorem impl_MatchOf.mono_l : ∀ k, (∀ y0 y1 y2 y3 y4 y5 y6, LeO (impl_MatchOf.l0 k y0 y1 y2 y3 y4 y5 y6) (impl_MatchOf.l0 (k + 1) y0 y1 y2 y3 y4 y5 y6)) ∧ (∀ y0 y1 y2 y3 y4 y5 y6 y7, LeO (impl_MatchOf.j1 k y0 y1 y2 y3 y4 y5 y6 y7) (impl_MatchOf.j1 (k + 1) y0 y1 y2 y3 y4 y5 y6 y7))
 | 0 => ⟨fun _ _ _ _ _ _ _ r h => by simp [impl_MatchOf.l0] at h, fun _ _ _ _ _ _ _ _ r h => by simp [impl_MatchOf.j1] at h⟩
 | k + 1 => by
  obtain ⟨ih0, ih1⟩ := impl_MatchOf.mono_l k
  refine ⟨?_, ?_⟩
  ·intro y0 y1 y2 y3 y4 y5 y6
   unfold impl_MatchOf.l0
   repeat' first
   | (with_reducible exact ih0 _ _ _ _ _ _ _)
   | (with_reducible exact ih1 _ _ _ _ _ _ _ _)
   | (with_reducible exact impl_CodeOf.mono _ _ _)
   | (with_reducible exact LeO.refl _)
   | (with_reducible exact LeO.none _)
   | (with_reducible refine LeO.ite ?_ ?_)
   | (with_reducible refine LeO.bind ?_ (fun _ => ?_))
   | exact ih0 _ _ _ _ _ _ _
   | exact ih1 _ _ _ _ _ _ _ _
   | exact impl_CodeOf.mono _ _ _
   | exact LeO.none _
   | refine LeO.ite ?_ ?_
   | refine LeO.bind ?_ (fun _ => ?_)
  ·intro y0 y1 y2 y3 y4 y5 y6 y7
   unfold impl_MatchOf.j1
   repeat' first
   | (with_reducible exact ih0 _ _ _ _ _ _ _)
   | (with_reducible exact ih1 _ _ _ _ _ _ _ _)
   | (with_reducible exact impl_CodeOf.mono _ _ _)
   | (with_reducible exact LeO.refl _)
   | (with_reducible exact LeO.none _)
   | (with_reducible refine LeO.ite ?_ ?_)
   | (with_reducible refine LeO.bind ?_ (fun _ => ?_))
   | exact ih0 _ _ _ _ _ _ _
   | exact ih1 _ _ _ _ _ _ _ _
   | exact impl_CodeOf.mono _ _ _
   | exact LeO.none _
   | refine LeO.ite ?_ ?_
   | refine LeO.bind ?_ (fun _ => ?_)
theorem impl_MatchOf.mono : ∀ a0 a1 a2 a3 a4 a5 k, LeO (impl_MatchOf.f k a0 a1 a2 a3 a4 a5) (impl_MatchOf.f (k + 1) a0 a1 a2 a3 a4 a5) := by
 intro a0 a1 a2 a3 a4 a5 k
 obtain ⟨ih0, ih1⟩ := impl_MatchOf.mono_l k
 unfold impl_MatchOf.f
 repeat' first
   | (with_reducible exact ih0 _ _ _ _ _ _ _)
   | (with_reducible exact ih1 _ _ _ _ _ _ _ _)
   | (with_reducible exact impl_CodeOf.mono _ _ _)
   | (with_reducible exact LeO.refl _)
   | (with_reducible exact LeO.none _)
   | (with_reducible refine LeO.ite ?_ ?_)
   | (with_reducible refine LeO.bind ?_ (fun _ => ?_))
   | exact ih0 _ _ _ _ _ _ _
   | exact ih1 _ _ _ _ _ _ _ _
   | exact impl_CodeOf.mono _ _ _
   | exact LeO.none _
   | refine LeO.ite ?_ ?_
   | refine LeO.bind ?_ (fun _ => ?_)
set_option maxHeartbeats 8000000 in
set_option maxRecDepth 100000 in
theorem impl_MatchOf.calls (k : Nat) (a0_0 : Int) (a0_1 : Int) (a0_2 : Int) (a0_3 : Int) (a0_4 : Int) (a1 : ByteArray) (r : Int) (w : World) (h : impl_MatchOf.f k a0_0 a0_1 a0_2 a0_3 a0_4 a1 = some r) (HTAB : Sh.TabH w := by exact Sh.tabH HTAB (by repeat (first | (with_reducible first | exact HB.out | exact HBW.out | apply eA | apply eN | apply eD | refine eS ?_ (Aside0.out ‹_›)) | exact HB.out))) :
  Calls Tryd.prog 17 #[.agg #[.int .i64 a0_0, .int .i64 a0_1, .int .i64 a0_2, .int .i64 a0_3, .int .i64 a0_4], .string a1] w fun e w' => e = .returned (.int .i64 r) ∧ Below w.heap.size w w' := by
 have hu25 := Tryd.underlying25
 have HB := aM (Below.refl w.heap.size w)
 have H : ((impl_LockOk.f a0_0 a0_1 a0_2 a0_3 a0_4).bind fun t152 => (if t152 = true then (impl_MatchOf.l0 k a1 a0_1 a0_0 a0_1 a0_2 a0_3 a0_4) else (some (-1)))) = some r := h
 clear h
 replace H := Option.bind_eq_some_iff.mp H
 obtain ⟨t152, A30, H⟩ := H
 replace H : (if t152 = true then (impl_MatchOf.l0 k a1 a0_1 a0_0 a0_1 a0_2 a0_3 a0_4) else (some (-1))) = some r := H
 have A3 := aM A30
 clear A30
 by_cases c4 : t152 = true
 ·subst c4
  have H1 : (impl_MatchOf.l0 k a1 a0_1 a0_0 a0_1 a0_2 a0_3 a0_4) = some r := by rw [if_pos rfl] at H; exact H
  clear H
  have H := H1
  clear H1
  have H' := aM H
  clear H
  go_enter Tryd.func17, Tryd.ntmps17
  go_wp2_with (first | ((with_reducible refine gate_dst (N := 2) rfl ?_); refine box_event ?hg (N := 2) ?hd (cs := #[.int .i64 a0_0, .int .i64 a0_1, .int .i64 a0_2, .int .i64 a0_3, .int .i64 a0_4]) (t := 25) ?hr ?_; (case hd => rfl); (case hg => rfl); (case hr => exact zg); intro gb151 hg w5 hbox hb; have n0_ := aM (below_step (zb) hb); have n1_ := aM (hbox); have n2_ := aM ((by rw [hg]; exact (below_size (zb)) : w.heap.size ≤ gb151)); have n3_ := aM ((by rw [hg]; exact (below_size (zb)) : w.heap.size ≤ gb151)); clear HB; have HB := n0_; have BK151 := n1_; have GW151 := n2_; have GE151 := n3_; clear n0_ n1_ n2_ n3_; clear hb hbox hg; obtain ⟨hcz6_0, hcz6_1, hcz6_2, hcz6_3, hcz6_4, hfz6_0, hfz6_1, hfz6_2, hfz6_3, hfz6_4⟩ := cells5 BK151.out) | ((with_reducible refine gate_callee (f := 11) rfl ?_); refine goesL_ (some 7) rfl rfl Tryd.func11 (by kernel_rfl) rfl #[.agg #[.int .i64 a0_0, .int .i64 a0_1, .int .i64 a0_2, .int .i64 a0_3, .int .i64 a0_4]] rfl za ?_; (with_reducible refine (impl_LockOk.calls a0_0 a0_1 a0_2 a0_3 a0_4 true _ A3.out).mono ?_); rintro e w7 ⟨rfl, hb⟩; refine ⟨_, rfl, ?_⟩; have n0_ := aM (bb BK151.out hb); have n1_ := aM (below_step (zb) hb); clear BK151; clear HB; have BK151 := n0_; have HB := n1_; clear n0_ n1_; (try clear hb); (try clear hb2); (try clear hk); (try clear hi); obtain ⟨hcz8_0, hcz8_1, hcz8_2, hcz8_3, hcz8_4, hfz8_0, hfz8_1, hfz8_2, hfz8_3, hfz8_4⟩ := cells5 BK151.out))
  go_loopg [5] k (fun kq v5 w' => ∃ (x5_1 : Int), v5 = .int .i64 x5_1 ∧ Aside0 (impl_MatchOf.l0 kq a1 x5_1 a0_0 a0_1 a0_2 a0_3 a0_4 = some r) ∧ Aside0 (kq ≤ k) ∧ Aside0 (w'.heap[gb151]? = some (.cells #[.int .i64 a0_0, .int .i64 a0_1, .int .i64 a0_2, .int .i64 a0_3, .int .i64 a0_4] 25 (0, 0))) ∧ Aside0 (Below w.heap.size w w'))
  case atStart => exact ⟨(a0_1), zs, H', ⟨Nat.le_refl _⟩, ⟨by exact pk BK151.out⟩, ⟨zb⟩⟩
  case round =>
   clear H'
   try clear c1
   try clear p2
   try clear c4
   try clear hcz6_0 hcz6_1 hcz6_2 hcz6_3 hcz6_4 hfz6_0 hfz6_1 hfz6_2 hfz6_3 hfz6_4
   try clear hcz8_0 hcz8_1 hcz8_2 hcz8_3 hcz8_4 hfz8_0 hfz8_1 hfz8_2 hfz8_3 hfz8_4
   obtain ⟨x5_1, rfl, HA, HK1, BK151, HB⟩ := hrel
   cases gk with
   | zero => exact absurd HA.out (by simp [impl_MatchOf.l0])
   | succ k1 =>
    have H := HA.out
    clear HA
    simp only [impl_MatchOf.l0] at H
    have HC9 := aM H
    clear H
    go_upto_region 4 with (fail)
    go_cut [19] (fun v19 wc => ∃ (kq : Nat) (x19_8 : Bool), v19 = .bool x19_8 ∧ Aside0 (impl_MatchOf.j1 kq a1 x5_1 x19_8 a0_0 a0_1 a0_2 a0_3 a0_4 = some r) ∧ Aside0 (kq ≤ k1) ∧ Aside0 (wc.heap[gb151]? = some (.cells #[.int .i64 a0_0, .int .i64 a0_1, .int .i64 a0_2, .int .i64 a0_3, .int .i64 a0_4] 25 (0, 0))) ∧ Aside0 (Below w.heap.size w wc))
    case first =>
     have H := HC9.out
     clear HC9
     by_cases c10 : x5_1 < (wrap64 (a0_1 + 5))
     ·rw [if_pos c10] at H
      have c10b0 : decide (x5_1 < (wrap64 (a0_1 + 5))) = true := decide_eq_true c10
      clear c10
      (first | rw [c10b0] | (simp only [i64_w, i32_w]; rw [c10b0]) | skip)
      replace H := Option.bind_eq_some_iff.mp H
      obtain ⟨t153, A110, H⟩ := H
      replace H : (impl_MatchOf.j1 k1 a1 x5_1 t153 a0_0 a0_1 a0_2 a0_3 a0_4) = some r := H
      have A11 := aM A110
      clear A110
      have H' := aM H
      clear H
      obtain ⟨hcz12_0, hcz12_1, hcz12_2, hcz12_3, hcz12_4, hfz12_0, hfz12_1, hfz12_2, hfz12_3, hfz12_4⟩ := cells5 BK151.out
      go_wp2_with (first | (go_at_call 26; (with_reducible refine (impl_countOk.calls x5_1 t153 _ A11.out).mono ?_); rintro e w' ⟨rfl, ⟨nd, rfl⟩⟩))
      go_meet
      case rel => exact ⟨_, (t153), zs, H', ⟨by have := HK1.out; first | omega | exact Nat.le_refl _⟩, ⟨by exact pk BK151.out⟩, ⟨zb⟩⟩
     ·rw [if_neg c10] at H
      have c10b0 : decide (x5_1 < (wrap64 (a0_1 + 5))) = false := decide_eq_false c10
      clear c10
      (first | rw [c10b0] | (simp only [i64_w, i32_w]; rw [c10b0]) | skip)
      have H' := aM H
      clear H
      obtain ⟨hcz13_0, hcz13_1, hcz13_2, hcz13_3, hcz13_4, hfz13_0, hfz13_1, hfz13_2, hfz13_3, hfz13_4⟩ := cells5 BK151.out
      go_wp2
      go_meet
      case rel => exact ⟨_, (false), zs, H', ⟨by have := HK1.out; first | omega | exact Nat.le_refl _⟩, ⟨by exact pk BK151.out⟩, ⟨zb⟩⟩
    case rest =>
     clear HC9
     try clear c1
     try clear p2
     try clear c4
     try clear p6
     try clear c10
     try clear c10b0
     try clear c11
     try clear hcz12_0 hcz12_1 hcz12_2 hcz12_3 hcz12_4 hfz12_0 hfz12_1 hfz12_2 hfz12_3 hfz12_4
     try clear hcz13_0 hcz13_1 hcz13_2 hcz13_3 hcz13_4 hfz13_0 hfz13_1 hfz13_2 hfz13_3 hfz13_4
     try clear hcz6_0 hcz6_1 hcz6_2 hcz6_3 hcz6_4 hfz6_0 hfz6_1 hfz6_2 hfz6_3 hfz6_4
     try clear hcz8_0 hcz8_1 hcz8_2 hcz8_3 hcz8_4 hfz8_0 hfz8_1 hfz8_2 hfz8_3 hfz8_4
     try clear p2
     obtain ⟨kq, x19_8, rfl, HA, HJ8, BK151, HB⟩ := hcut
     cases kq with
     | zero => exact absurd HA.out (by simp [impl_MatchOf.j1])
     | succ kj8 =>
      have H := HA.out
      clear HA
      simp only [impl_MatchOf.j1] at H
      by_cases c14 : x19_8 = true
      ·subst c14
       have H1 : ((impl_CodeOf.f kj8 a0_0 x5_1).bind fun t154 => (if t154.toList = a1.toList then (some x5_1) else (impl_MatchOf.l0 kj8 a1 (wrap64 (x5_1 + 1)) a0_0 a0_1 a0_2 a0_3 a0_4))) = some r := by rw [if_pos rfl] at H; exact H
       clear H
       have H := H1
       clear H1
       replace H := Option.bind_eq_some_iff.mp H
       obtain ⟨t154, A150, H⟩ := H
       replace H : (if t154.toList = a1.toList then (some x5_1) else (impl_MatchOf.l0 kj8 a1 (wrap64 (x5_1 + 1)) a0_0 a0_1 a0_2 a0_3 a0_4)) = some r := H
       have A15 := aM A150
       clear A150
       by_cases c16 : t154.toList = a1.toList
       ·rw [if_pos c16] at H
        have c16b0 : (t154.toList == a1.toList) = true := beq_iff_eq.mpr c16
        have c16b1 : (t154.toList != a1.toList) = false := bne_eq_false_iff_eq.mpr c16
        clear c16
        obtain rfl := Option.some.inj H
        obtain ⟨hcz17_0, hcz17_1, hcz17_2, hcz17_3, hcz17_4, hfz17_0, hfz17_1, hfz17_2, hfz17_3, hfz17_4⟩ := cells5 BK151.out
        go_wp2_with (first | ((with_reducible refine gate_callee (f := 27) rfl ?_); refine goesL_ (some 25) rfl rfl Tryd.func27 (by kernel_rfl) rfl #[.int .i64 a0_0, .int .i64 x5_1] rfl za ?_; (with_reducible refine (impl_CodeOf.calls kj8 a0_0 x5_1 t154 _ A15.out).mono ?_); rintro e w18 ⟨rfl, hb⟩; refine ⟨_, rfl, ?_⟩; have n0_ := aM (bb BK151.out hb); have n1_ := aM (below_step (zb) hb); clear BK151; clear HB; have BK151 := n0_; have HB := n1_; clear n0_ n1_; (try clear hb); (try clear hb2); (try clear hk); (try clear hi)))
        go_ret
        exact ⟨zr, zb⟩
       ·rw [if_neg c16] at H
        have c16b0 : (t154.toList == a1.toList) = false := beq_eq_false_iff_ne.mpr c16
        have c16b1 : (t154.toList != a1.toList) = true := bne_iff_ne.mpr c16
        have H' := aM H
        clear H
        obtain ⟨hcz19_0, hcz19_1, hcz19_2, hcz19_3, hcz19_4, hfz19_0, hfz19_1, hfz19_2, hfz19_3, hfz19_4⟩ := cells5 BK151.out
        go_wp2_with (first | ((with_reducible refine gate_callee (f := 27) rfl ?_); refine goesL_ (some 25) rfl rfl Tryd.func27 (by kernel_rfl) rfl #[.int .i64 a0_0, .int .i64 x5_1] rfl za ?_; (with_reducible refine (impl_CodeOf.calls kj8 a0_0 x5_1 t154 _ A15.out).mono ?_); rintro e w20 ⟨rfl, hb⟩; refine ⟨_, rfl, ?_⟩; have n0_ := aM (bb BK151.out hb); have n1_ := aM (below_step (zb) hb); clear BK151; clear HB; have BK151 := n0_; have HB := n1_; clear n0_ n1_; (try clear hb); (try clear hb2); (try clear hk); (try clear hi)))
        go_roundg kj8
        case measure => have := HK1.out; have := HJ8.out; omega
        case rel => exact ⟨(wrap64 (x5_1 + 1)), zs, H', ⟨by have := HK1.out; have := HJ8.out; omega⟩, ⟨by exact pk BK151.out⟩, ⟨zb⟩⟩
      ·replace c14 := Bool.eq_false_iff.mpr c14
       subst c14
       have H1 : (some (-1)) = some r := by rw [if_neg (show ¬ (false = true) by decide)] at H; exact H
       clear H
       have H := H1
       clear H1
       obtain rfl := Option.some.inj H
       go_wp2
       go_ret
       exact ⟨zr, zb⟩
 ·replace c4 := Bool.eq_false_iff.mpr c4
  subst c4
  have H1 : (some (-1)) = some r := by rw [if_neg (show ¬ (false = true) by decide)] at H; exact H
  clear H
  have H := H1
  clear H1
  obtain rfl := Option.some.inj H
  go_enter Tryd.func17, Tryd.ntmps17
  go_wp2_with (first | ((with_reducible refine gate_dst (N := 2) rfl ?_); refine box_event ?hg (N := 2) ?hd (cs := #[.int .i64 a0_0, .int .i64 a0_1, .int .i64 a0_2, .int .i64 a0_3, .int .i64 a0_4]) (t := 25) ?hr ?_; (case hd => rfl); (case hg => rfl); (case hr => exact zg); intro gb151 hg w21 hbox hb; have n0_ := aM (below_step (zb) hb); have n1_ := aM (hbox); have n2_ := aM ((by rw [hg]; exact (below_size (zb)) : w.heap.size ≤ gb151)); have n3_ := aM ((by rw [hg]; exact (below_size (zb)) : w.heap.size ≤ gb151)); clear HB; have HB := n0_; have BK151 := n1_; have GW151 := n2_; have GE151 := n3_; clear n0_ n1_ n2_ n3_; clear hb hbox hg; obtain ⟨hcz22_0, hcz22_1, hcz22_2, hcz22_3, hcz22_4, hfz22_0, hfz22_1, hfz22_2, hfz22_3, hfz22_4⟩ := cells5 BK151.out) | ((with_reducible refine gate_callee (f := 11) rfl ?_); refine goesL_ (some 7) rfl rfl Tryd.func11 (by kernel_rfl) rfl #[.agg #[.int .i64 a0_0, .int .i64 a0_1, .int .i64 a0_2, .int .i64 a0_3, .int .i64 a0_4]] rfl za ?_; (with_reducible refine (impl_LockOk.calls a0_0 a0_1 a0_2 a0_3 a0_4 false _ A3.out).mono ?_); rintro e w23 ⟨rfl, hb⟩; refine ⟨_, rfl, ?_⟩; have n0_ := aM (bb BK151.out hb); have n1_ := aM (below_step (zb) hb); clear BK151; clear HB; have BK151 := n0_; have HB := n1_; clear n0_ n1_; (try clear hb); (try clear hb2); (try clear hk); (try clear hi)))
  go_ret
  exact ⟨zr, zb⟩

/-! ### impl_Try: function 8, walked by hand -/
-- NEEDS loop.example/g03318/impl.MatchOf loop.example/g03318/impl.LockOk loop.example/g03318/impl.timeOk
def impl_Try.cf (k : Nat) (a0_0 : Int) (a0_1 : Int) (a0_2 : Int) (a0_3 : Int) (a0_4 : Int) (a1 : ByteArray) : Option (Int) := (impl_MatchOf.f k a0_0 a0_1 a0_2 a0_3 a0_4 a1).bind fun t161 => (if t161 < 0 then (some (-1)) else (some (wrap64 (t161 + 1))))
theorem impl_Try.cmono : ∀ a0 a1 a2 a3 a4 a5 k, LeO (impl_Try.cf k a0 a1 a2 a3 a4 a5) (impl_Try.cf (k + 1) a0 a1 a2 a3 a4 a5) := by
 intro a0 a1 a2 a3 a4 a5 k
 unfold impl_Try.cf
 repeat' first
   | (with_reducible exact impl_MatchOf.mono _ _ _ _ _ _ _)
   | (with_reducible exact LeO.refl _)
   | (with_reducible exact LeO.none _)
   | (with_reducible refine LeO.ite ?_ ?_)
   | (with_reducible refine LeO.bind ?_ (fun _ => ?_))
   | exact impl_MatchOf.mono _ _ _ _ _ _ _
   | exact LeO.none _
   | refine LeO.ite ?_ ?_
   | refine LeO.bind ?_ (fun _ => ?_)
set_option maxHeartbeats 8000000 in
set_option maxRecDepth 100000 in
theorem impl_Try.clo (k : Nat) (a0_0 : Int) (a0_1 : Int) (a0_2 : Int) (a0_3 : Int) (a0_4 : Int) (a1 : ByteArray) (r : Int) (gl gc : Nat) (w : World) (HL : w.heap[gl]? = some (.cells #[.int .i64 a0_0, .int .i64 a0_1, .int .i64 a0_2, .int .i64 a0_3, .int .i64 a0_4] 25 (0, 0))) (HC : w.heap[gc]? = some (.cells #[.string a1] 9 (0, 0))) (h : impl_Try.cf k a0_0 a0_1 a0_2 a0_3 a0_4 a1 = some r) (HTAB : Sh.TabH w := by exact Sh.tabH HTAB (by repeat (first | (with_reducible first | exact HB.out | exact HBW.out | apply eA | apply eN | apply eD | refine eS ?_ (Aside0.out ‹_›)) | exact HB.out))) :
  Calls Tryd.prog 16 #[.pointer (some ⟨gl, 0, none⟩), .pointer (some ⟨gc, 0, none⟩)] w fun e w' => e = .returned (.int .i64 r) ∧ Below w.heap.size w w' := by
 have hu25 := Tryd.underlying25
 have HB := aM (Below.refl w.heap.size w)
 have H : ((impl_MatchOf.f k a0_0 a0_1 a0_2 a0_3 a0_4 a1).bind fun t161 => (if t161 < 0 then (some (-1)) else (some (wrap64 (t161 + 1))))) = some r := h
 clear h
 replace H := Option.bind_eq_some_iff.mp H
 obtain ⟨t161, A30, H⟩ := H
 replace H : (if t161 < 0 then (some (-1)) else (some (wrap64 (t161 + 1)))) = some r := H
 have A3 := aM A30
 clear A30
 by_cases c4 : t161 < 0
 ·rw [if_pos c4] at H
  have c4b0 : decide (t161 < 0) = true := decide_eq_true c4
  clear c4
  obtain rfl := Option.some.inj H
  have BK160 := aM HL
  obtain ⟨hcz6_0, hcz6_1, hcz6_2, hcz6_3, hcz6_4, hfz6_0, hfz6_1, hfz6_2, hfz6_3, hfz6_4⟩ := cells5 BK160.out
  obtain ⟨hcs, hfs⟩ := cells1 HC
  go_enter Tryd.func16, Tryd.ntmps16
  go_wp2_with (first | ((with_reducible refine gate_callee (f := 17) rfl ?_); refine goesL_ (some 6) rfl rfl Tryd.func17 (by kernel_rfl) rfl #[.agg #[.int .i64 a0_0, .int .i64 a0_1, .int .i64 a0_2, .int .i64 a0_3, .int .i64 a0_4], .string a1] rfl za ?_; (with_reducible refine (impl_MatchOf.calls k a0_0 a0_1 a0_2 a0_3 a0_4 a1 t161 _ A3.out).mono ?_); rintro e w7 ⟨rfl, hb⟩; refine ⟨_, rfl, ?_⟩; have n0_ := aM (bb BK160.out hb); have n1_ := aM (below_step (zb) hb); clear BK160; clear HB; have BK160 := n0_; have HB := n1_; clear n0_ n1_; (try clear hb); (try clear hb2); (try clear hk); (try clear hi)))
  go_ret
  exact ⟨zr, zb⟩
 ·rw [if_neg c4] at H
  have c4b0 : decide (t161 < 0) = false := decide_eq_false c4
  clear c4
  obtain rfl := Option.some.inj H
  have BK160 := aM HL
  obtain ⟨hcz9_0, hcz9_1, hcz9_2, hcz9_3, hcz9_4, hfz9_0, hfz9_1, hfz9_2, hfz9_3, hfz9_4⟩ := cells5 BK160.out
  obtain ⟨hcs, hfs⟩ := cells1 HC
  go_enter Tryd.func16, Tryd.ntmps16
  go_wp2_with (first | ((with_reducible refine gate_callee (f := 17) rfl ?_); refine goesL_ (some 6) rfl rfl Tryd.func17 (by kernel_rfl) rfl #[.agg #[.int .i64 a0_0, .int .i64 a0_1, .int .i64 a0_2, .int .i64 a0_3, .int .i64 a0_4], .string a1] rfl za ?_; (with_reducible refine (impl_MatchOf.calls k a0_0 a0_1 a0_2 a0_3 a0_4 a1 t161 _ A3.out).mono ?_); rintro e w10 ⟨rfl, hb⟩; refine ⟨_, rfl, ?_⟩; have n0_ := aM (bb BK160.out hb); have n1_ := aM (below_step (zb) hb); clear BK160; clear HB; have BK160 := n0_; have HB := n1_; clear n0_ n1_; (try clear hb); (try clear hb2); (try clear hk); (try clear hi)))
  go_ret
  exact ⟨zr, zb⟩

def impl_Try.j0 (nx : Nat → Option Int) : Nat → Int → Bool → Int → Int → Int → Int → Int → Option (Int × Int × Int × Int × Int × Int)
 | 0, _, _, _, _, _, _, _ => none
 | k + 1, x1, x16, x156000, x156001, x156002, x156003, x156004 => if x16 = true then (some (x156000, x156001, x156002, x156003, x156004, 4)) else (if x1 < x156004 then (some (x156000, x156001, x156002, x156003, x156004, 1)) else ((nx k).bind fun t159 => (if t159 ≥ 0 then (some (x156000, t159, 0, 0, x156004, 0)) else (if x156002 < 2 then (some (x156000, x156001, wrap64 (x156002 + 1), x156003, x156004, 2)) else (if 0 ≤ x156003 then (some (x156000, x156001, 0, mn 6 (wrap64 (x156003 + 1)), wrap64 (x1 + (shl .i64 1 x156003)), 3)) else (none))))))
def impl_Try.tf (nx : Nat → Option Int) (k : Nat) (a0_0 : Int) (a0_1 : Int) (a0_2 : Int) (a0_3 : Int) (a0_4 : Int) (a1 : Int) : Option (Int × Int × Int × Int × Int × Int) := (impl_LockOk.f a0_0 a0_1 a0_2 a0_3 a0_4).bind fun t157 => (if t157 = true then ((impl_timeOk.f a1).bind fun t158 => (impl_Try.j0 nx k a1 (!t158) a0_0 a0_1 a0_2 a0_3 a0_4)) else (impl_Try.j0 nx k a1 true a0_0 a0_1 a0_2 a0_3 a0_4))
theorem impl_Try.tmono_l (nx : Nat → Option Int) (hnx : ∀ k, LeO (nx k) (nx (k + 1))) : ∀ k, (∀ y0 y1 y2 y3 y4 y5 y6, LeO (impl_Try.j0 nx k y0 y1 y2 y3 y4 y5 y6) (impl_Try.j0 nx (k + 1) y0 y1 y2 y3 y4 y5 y6))
 | 0 => fun _ _ _ _ _ _ _ r h => by simp [impl_Try.j0] at h
 | k + 1 => by
  have ih0 := impl_Try.tmono_l nx hnx k
  ·intro y0 y1 y2 y3 y4 y5 y6
   unfold impl_Try.j0
   repeat' first
   | (with_reducible exact ih0 _ _ _ _ _ _ _)
   | (with_reducible exact hnx _)
   | (with_reducible exact LeO.refl _)
   | (with_reducible exact LeO.none _)
   | (with_reducible refine LeO.ite ?_ ?_)
   | (with_reducible refine LeO.bind ?_ (fun _ => ?_))
   | exact ih0 _ _ _ _ _ _ _
   | exact hnx _
   | exact LeO.none _
   | refine LeO.ite ?_ ?_
   | refine LeO.bind ?_ (fun _ => ?_)
theorem impl_Try.tmono (nx : Nat → Option Int) (hnx : ∀ k, LeO (nx k) (nx (k + 1))) : ∀ a0 a1 a2 a3 a4 a5 k, LeO (impl_Try.tf nx k a0 a1 a2 a3 a4 a5) (impl_Try.tf nx (k + 1) a0 a1 a2 a3 a4 a5) := by
 intro a0 a1 a2 a3 a4 a5 k
 have ih0 := impl_Try.tmono_l nx hnx k
 unfold impl_Try.tf
 repeat' first
   | (with_reducible exact ih0 _ _ _ _ _ _ _)
   | (with_reducible exact hnx _)
   | (with_reducible exact LeO.refl _)
   | (with_reducible exact LeO.none _)
   | (with_reducible refine LeO.ite ?_ ?_)
   | (with_reducible refine LeO.bind ?_ (fun _ => ?_))
   | exact ih0 _ _ _ _ _ _ _
   | exact hnx _
   | exact LeO.none _
   | refine LeO.ite ?_ ?_
   | refine LeO.bind ?_ (fun _ => ?_)
set_option maxHeartbeats 8000000 in
set_option maxRecDepth 100000 in
theorem impl_Try.tried (nx : Nat → Option Int) (gl gc : Nat) (k : Nat) (a0_0 : Int) (a0_1 : Int) (a0_2 : Int) (a0_3 : Int) (a0_4 : Int) (a1 : Int) (r1 : Int) (r2 : Int) (r3 : Int) (r4 : Int) (r5 : Int) (r6 : Int) (w : World) (h : impl_Try.tf nx k a0_0 a0_1 a0_2 a0_3 a0_4 a1 = some (r1, r2, r3, r4, r5, r6))
  (HNX : ∀ (k_ : Nat) (r_ : Int), nx k_ = some r_ → ∀ W, Below w.heap.size w W → Calls Tryd.prog 16 #[.pointer (some ⟨gl, 0, none⟩), .pointer (some ⟨gc, 0, none⟩)] W fun e w' => e = .returned (.int .i64 r_) ∧ Below W.heap.size W w') :
  Calls Tryd.prog 15 #[.agg #[.int .i64 a0_0, .int .i64 a0_1, .int .i64 a0_2, .int .i64 a0_3, .int .i64 a0_4], .int .i64 a1, .func (.func 16) #[] #[.pointer (some ⟨gl, 0, none⟩), .pointer (some ⟨gc, 0, none⟩)]] w fun e w' => e = .returned (.tuple #[.agg #[.int .i64 r1, .int .i64 r2, .int .i64 r3, .int .i64 r4, .int .i64 r5], .int .i64 r6]) ∧ Below w.heap.size w w' := by
 have hu25 := Tryd.underlying25
 have HB := aM (Below.refl w.heap.size w)
 have H : ((impl_LockOk.f a0_0 a0_1 a0_2 a0_3 a0_4).bind fun t157 => (if t157 = true then ((impl_timeOk.f a1).bind fun t158 => (impl_Try.j0 nx k a1 (!t158) a0_0 a0_1 a0_2 a0_3 a0_4)) else (impl_Try.j0 nx k a1 true a0_0 a0_1 a0_2 a0_3 a0_4))) = some (r1, r2, r3, r4, r5, r6) := h
 clear h
 have HC4 := aM H
 clear H
 go_enter Tryd.func15, Tryd.ntmps15
 go_upto_region 1 with (first | ((with_reducible refine gate_dst (N := 3) rfl ?_); refine box_event ?hg (N := 3) ?hd (cs := #[.int .i64 a0_0, .int .i64 a0_1, .int .i64 a0_2, .int .i64 a0_3, .int .i64 a0_4]) (t := 25) ?hr ?_; (case hd => rfl); (case hg => rfl); (case hr => exact zg); intro gb155 hg w5 hbox hb; have n0_ := aM (below_step (zb) hb); have n1_ := aM (hbox); have n2_ := aM ((by rw [hg]; exact (below_size (zb)) : w.heap.size ≤ gb155)); have n3_ := aM ((by rw [hg]; exact (below_size (zb)) : w.heap.size ≤ gb155)); clear HB; have HB := n0_; have BK155 := n1_; have GW155 := n2_; have GE155 := n3_; clear n0_ n1_ n2_ n3_; clear hb hbox hg) | ((with_reducible refine gate_dst (N := 6) rfl ?_); refine box_event ?hg (N := 6) ?hd (cs := #[.int .i64 0, .int .i64 0, .int .i64 0, .int .i64 0, .int .i64 0]) (t := 25) ?hr ?_; (case hd => rfl); (case hg => rfl); (case hr => exact zg); intro gb156 hg w6 hbox hb; have n0_ := aM (bb BK155.out hb); have n1_ := aM (below_step (zb) hb); have n2_ := aM (hbox); have n3_ := aM ((by rw [hg]; exact (below_size (zb)) : w.heap.size ≤ gb156)); have n4_ := aM ((by rw [hg]; exact (below_size (zb)) : w.heap.size ≤ gb156)); have n5_ := aM ((by rw [hg]; exact Nat.ne_of_lt (nl BK155.out) : gb155 ≠ gb156)); have n6_ := aM ((by rw [hg]; exact Nat.ne_of_gt (nl BK155.out) : gb156 ≠ gb155)); clear BK155; clear HB; have BK155 := n0_; have HB := n1_; have BK156 := n2_; have GW156 := n3_; have GE156 := n4_; have NB155_156 := n5_; have NB156_155 := n6_; clear n0_ n1_ n2_ n3_ n4_ n5_ n6_; clear hb hbox hg))
 (try simp only [Act.put, List.setIfInBounds_toArray, List.set_cons_zero, List.set_cons_succ])
 go_cut [16] (fun v16 wc => ∃ (kq : Nat) (x16_3 : Bool), v16 = .bool x16_3 ∧ Aside0 (impl_Try.j0 nx kq a1 x16_3 a0_0 a0_1 a0_2 a0_3 a0_4 = some (r1, r2, r3, r4, r5, r6)) ∧ Aside0 (kq ≤ k) ∧ Aside0 (wc.heap[gb155]? = some (.cells #[.int .i64 a0_0, .int .i64 a0_1, .int .i64 a0_2, .int .i64 a0_3, .int .i64 a0_4] 25 (0, 0))) ∧ Aside0 (wc.heap[gb156]? = some (.cells #[.int .i64 0, .int .i64 0, .int .i64 0, .int .i64 0, .int .i64 0] 25 (0, 0))) ∧ Aside0 (Below w.heap.size w wc))
 case first =>
  have H := HC4.out
  clear HC4
  replace H := Option.bind_eq_some_iff.mp H
  obtain ⟨t157, A70, H⟩ := H
  replace H : (if t157 = true then ((impl_timeOk.f a1).bind fun t158 => (impl_Try.j0 nx k a1 (!t158) a0_0 a0_1 a0_2 a0_3 a0_4)) else (impl_Try.j0 nx k a1 true a0_0 a0_1 a0_2 a0_3 a0_4)) = some (r1, r2, r3, r4, r5, r6) := H
  have A7 := aM A70
  clear A70
  by_cases c8 : t157 = true
  ·subst c8
   have H1 : ((impl_timeOk.f a1).bind fun t158 => (impl_Try.j0 nx k a1 (!t158) a0_0 a0_1 a0_2 a0_3 a0_4)) = some (r1, r2, r3, r4, r5, r6) := by rw [if_pos rfl] at H; exact H
   clear H
   have H := H1
   clear H1
   replace H := Option.bind_eq_some_iff.mp H
   obtain ⟨t158, A90, H⟩ := H
   replace H : (impl_Try.j0 nx k a1 (!t158) a0_0 a0_1 a0_2 a0_3 a0_4) = some (r1, r2, r3, r4, r5, r6) := H
   have A9 := aM A90
   clear A90
   have H' := aM H
   clear H
   have hnb10 := NB155_156.out
   have hnc10 := NB156_155.out
   obtain ⟨hcz11_0, hcz11_1, hcz11_2, hcz11_3, hcz11_4, hfz11_0, hfz11_1, hfz11_2, hfz11_3, hfz11_4⟩ := cells5 BK155.out
   go_wp2_with (first | ((with_reducible refine gate_callee (f := 11) rfl ?_); refine goesL_ (some 10) rfl rfl Tryd.func11 (by kernel_rfl) rfl #[.agg #[.int .i64 a0_0, .int .i64 a0_1, .int .i64 a0_2, .int .i64 a0_3, .int .i64 a0_4]] rfl za ?_; (with_reducible refine (impl_LockOk.calls a0_0 a0_1 a0_2 a0_3 a0_4 true _ A7.out).mono ?_); rintro e w12 ⟨rfl, hb⟩; refine ⟨_, rfl, ?_⟩; have n0_ := aM (bb BK155.out hb); have n1_ := aM (bb BK156.out hb); have n2_ := aM (below_step (zb) hb); clear BK155; clear BK156; clear HB; have BK155 := n0_; have BK156 := n1_; have HB := n2_; clear n0_ n1_ n2_; (try clear hb); (try clear hb2); (try clear hk); (try clear hi)) | (go_at_call 22; (with_reducible refine (impl_timeOk.calls a1 t158 _ A9.out).mono ?_); rintro e w' ⟨rfl, ⟨nd, rfl⟩⟩))
   go_meet
   case rel => exact ⟨_, (!t158), zs, H', ⟨by first | omega | exact Nat.le_refl _⟩, ⟨by exact pk BK155.out⟩, ⟨by exact pk BK156.out⟩, ⟨zb⟩⟩
  ·replace c8 := Bool.eq_false_iff.mpr c8
   subst c8
   have H1 : (impl_Try.j0 nx k a1 true a0_0 a0_1 a0_2 a0_3 a0_4) = some (r1, r2, r3, r4, r5, r6) := by rw [if_neg (show ¬ (false = true) by decide)] at H; exact H
   clear H
   have H := H1
   clear H1
   have H' := aM H
   clear H
   have hnb13 := NB155_156.out
   have hnc13 := NB156_155.out
   obtain ⟨hcz14_0, hcz14_1, hcz14_2, hcz14_3, hcz14_4, hfz14_0, hfz14_1, hfz14_2, hfz14_3, hfz14_4⟩ := cells5 BK155.out
   go_wp2_with (first | ((with_reducible refine gate_callee (f := 11) rfl ?_); refine goesL_ (some 10) rfl rfl Tryd.func11 (by kernel_rfl) rfl #[.agg #[.int .i64 a0_0, .int .i64 a0_1, .int .i64 a0_2, .int .i64 a0_3, .int .i64 a0_4]] rfl za ?_; (with_reducible refine (impl_LockOk.calls a0_0 a0_1 a0_2 a0_3 a0_4 false _ A7.out).mono ?_); rintro e w15 ⟨rfl, hb⟩; refine ⟨_, rfl, ?_⟩; have n0_ := aM (bb BK155.out hb); have n1_ := aM (bb BK156.out hb); have n2_ := aM (below_step (zb) hb); clear BK155; clear BK156; clear HB; have BK155 := n0_; have BK156 := n1_; have HB := n2_; clear n0_ n1_ n2_; (try clear hb); (try clear hb2); (try clear hk); (try clear hi)))
   go_meet
   case rel => exact ⟨_, (true), zs, H', ⟨by first | omega | exact Nat.le_refl _⟩, ⟨by exact pk BK155.out⟩, ⟨by exact pk BK156.out⟩, ⟨zb⟩⟩
 case rest =>
  clear HC4
  try clear c1
  try clear p2
  try clear c8
  try clear c10
  try clear c11
  try clear c13
  try clear c15
  try clear hcz11_0 hcz11_1 hcz11_2 hcz11_3 hcz11_4 hfz11_0 hfz11_1 hfz11_2 hfz11_3 hfz11_4
  try clear hcz14_0 hcz14_1 hcz14_2 hcz14_3 hcz14_4 hfz14_0 hfz14_1 hfz14_2 hfz14_3 hfz14_4
  obtain ⟨kq, x16_3, rfl, HA, HJ3, BK155, BK156, HB⟩ := hcut
  cases kq with
  | zero => exact absurd HA.out (by simp [impl_Try.j0])
  | succ kj3 =>
   have H := HA.out
   clear HA
   simp only [impl_Try.j0] at H
   by_cases c16 : x16_3 = true
   ·subst c16
    have H1 : (some (a0_0, a0_1, a0_2, a0_3, a0_4, 4)) = some (r1, r2, r3, r4, r5, r6) := by rw [if_pos rfl] at H; exact H
    clear H
    have H := H1
    clear H1
    simp only [Option.some.injEq, Prod.mk.injEq] at H
    obtain ⟨rfl, rfl, rfl, rfl, rfl, rfl⟩ := H
    have hnb17 := NB155_156.out
    have hnc17 := NB156_155.out
    obtain ⟨hcz18_0, hcz18_1, hcz18_2, hcz18_3, hcz18_4, hfz18_0, hfz18_1, hfz18_2, hfz18_3, hfz18_4⟩ := cells5 BK155.out
    obtain ⟨hcz19_0, hcz19_1, hcz19_2, hcz19_3, hcz19_4, hfz19_0, hfz19_1, hfz19_2, hfz19_3, hfz19_4⟩ := cells5 BK156.out
    go_wp2
    refine bodyPost_ret (results_ct rfl _ _ gb156 25 #[.int .i64 a0_0, .int .i64 a0_1, .int .i64 a0_2, .int .i64 a0_3, .int .i64 a0_4] (0, 0) _ rfl (by refine pq ?_; refine blk_put (cs := #[.int .i64 a0_0, .int .i64 a0_1, .int .i64 a0_2, .int .i64 a0_3, .int .i64 0]) ?_ 4 _ rfl; refine pq ?_; refine blk_put (cs := #[.int .i64 a0_0, .int .i64 a0_1, .int .i64 a0_2, .int .i64 0, .int .i64 0]) ?_ 3 _ rfl; refine pq ?_; refine blk_put (cs := #[.int .i64 a0_0, .int .i64 a0_1, .int .i64 0, .int .i64 0, .int .i64 0]) ?_ 2 _ rfl; refine pq ?_; refine blk_put (cs := #[.int .i64 a0_0, .int .i64 0, .int .i64 0, .int .i64 0, .int .i64 0]) ?_ 1 _ rfl; refine pq ?_; refine blk_put (cs := #[.int .i64 0, .int .i64 0, .int .i64 0, .int .i64 0, .int .i64 0]) ?_ 0 _ rfl; refine pq ?_; exact BK156.out) Tryd.underlying25 rfl (by kernel_rfl)) rfl ?_
    exact ⟨zr, zb⟩
   ·replace c16 := Bool.eq_false_iff.mpr c16
    subst c16
    have H1 : (if a1 < a0_4 then (some (a0_0, a0_1, a0_2, a0_3, a0_4, 1)) else ((nx kj3).bind fun t159 => (if t159 ≥ 0 then (some (a0_0, t159, 0, 0, a0_4, 0)) else (if a0_2 < 2 then (some (a0_0, a0_1, wrap64 (a0_2 + 1), a0_3, a0_4, 2)) else (if 0 ≤ a0_3 then (some (a0_0, a0_1, 0, mn 6 (wrap64 (a0_3 + 1)), wrap64 (a1 + (shl .i64 1 a0_3)), 3)) else (none)))))) = some (r1, r2, r3, r4, r5, r6) := by rw [if_neg (show ¬ (false = true) by decide)] at H; exact H
    clear H
    have H := H1
    clear H1
    by_cases c20 : a1 < a0_4
    ·rw [if_pos c20] at H
     have c20b0 : decide (a1 < a0_4) = true := decide_eq_true c20
     clear c20
     simp only [Option.some.injEq, Prod.mk.injEq] at H
     obtain ⟨rfl, rfl, rfl, rfl, rfl, rfl⟩ := H
     have hnb21 := NB155_156.out
     have hnc21 := NB156_155.out
     obtain ⟨hcz22_0, hcz22_1, hcz22_2, hcz22_3, hcz22_4, hfz22_0, hfz22_1, hfz22_2, hfz22_3, hfz22_4⟩ := cells5 BK155.out
     obtain ⟨hcz23_0, hcz23_1, hcz23_2, hcz23_3, hcz23_4, hfz23_0, hfz23_1, hfz23_2, hfz23_3, hfz23_4⟩ := cells5 BK156.out
     go_wp2
     refine bodyPost_ret (results_ct rfl _ _ gb156 25 #[.int .i64 a0_0, .int .i64 a0_1, .int .i64 a0_2, .int .i64 a0_3, .int .i64 a0_4] (0, 0) _ rfl (by refine pq ?_; refine blk_put (cs := #[.int .i64 a0_0, .int .i64 a0_1, .int .i64 a0_2, .int .i64 a0_3, .int .i64 0]) ?_ 4 _ rfl; refine pq ?_; refine blk_put (cs := #[.int .i64 a0_0, .int .i64 a0_1, .int .i64 a0_2, .int .i64 0, .int .i64 0]) ?_ 3 _ rfl; refine pq ?_; refine blk_put (cs := #[.int .i64 a0_0, .int .i64 a0_1, .int .i64 0, .int .i64 0, .int .i64 0]) ?_ 2 _ rfl; refine pq ?_; refine blk_put (cs := #[.int .i64 a0_0, .int .i64 0, .int .i64 0, .int .i64 0, .int .i64 0]) ?_ 1 _ rfl; refine pq ?_; refine blk_put (cs := #[.int .i64 0, .int .i64 0, .int .i64 0, .int .i64 0, .int .i64 0]) ?_ 0 _ rfl; refine pq ?_; exact BK156.out) Tryd.underlying25 rfl (by kernel_rfl)) rfl ?_
     exact ⟨zr, zb⟩
    ·rw [if_neg c20] at H
     have c20b0 : decide (a1 < a0_4) = false := decide_eq_false c20
     clear c20
     replace H := Option.bind_eq_some_iff.mp H
     obtain ⟨t159, A240, H⟩ := H
     replace H : (if t159 ≥ 0 then (some (a0_0, t159, 0, 0, a0_4, 0)) else (if a0_2 < 2 then (some (a0_0, a0_1, wrap64 (a0_2 + 1), a0_3, a0_4, 2)) else (if 0 ≤ a0_3 then (some (a0_0, a0_1, 0, mn 6 (wrap64 (a0_3 + 1)), wrap64 (a1 + (shl .i64 1 a0_3)), 3)) else (none)))) = some (r1, r2, r3, r4, r5, r6) := H
     have A24 := aM A240
     clear A240
     by_cases c25 : t159 ≥ 0
     ·rw [if_pos c25] at H
      have c25b0 : decide (0 ≤ t159) = true := decide_eq_true c25
      clear c25
      simp only [Option.some.injEq, Prod.mk.injEq] at H
      obtain ⟨rfl, rfl, rfl, rfl, rfl, rfl⟩ := H
      have hnb26 := NB155_156.out
      have hnc26 := NB156_155.out
      obtain ⟨hcz27_0, hcz27_1, hcz27_2, hcz27_3, hcz27_4, hfz27_0, hfz27_1, hfz27_2, hfz27_3, hfz27_4⟩ := cells5 BK155.out
      go_wp2_with (first | (go_at_call 16; (with_reducible refine (HNX kj3 t159 A24.out _ zb).mono ?_); rintro e w28 ⟨rfl, hb⟩; have n0_ := aM (bb BK155.out hb); have n1_ := aM (bb BK156.out hb); have n2_ := aM (below_step (zb) hb); clear BK155; clear BK156; clear HB; have BK155 := n0_; have BK156 := n1_; have HB := n2_; clear n0_ n1_ n2_; (try clear hb); (try clear hb2); (try clear hk); (try clear hi); obtain ⟨hcz29_0, hcz29_1, hcz29_2, hcz29_3, hcz29_4, hfz29_0, hfz29_1, hfz29_2, hfz29_3, hfz29_4⟩ := cells5 BK155.out; obtain ⟨hcz30_0, hcz30_1, hcz30_2, hcz30_3, hcz30_4, hfz30_0, hfz30_1, hfz30_2, hfz30_3, hfz30_4⟩ := cells5 BK156.out))
      refine bodyPost_ret (results_ct rfl _ _ gb156 25 #[.int .i64 a0_0, .int .i64 t159, .int .i64 0, .int .i64 0, .int .i64 a0_4] (0, 0) _ rfl (by refine pq ?_; refine blk_put (cs := #[.int .i64 a0_0, .int .i64 t159, .int .i64 0, .int .i64 0, .int .i64 0]) ?_ 4 _ rfl; refine pq ?_; refine blk_put (cs := #[.int .i64 a0_0, .int .i64 t159, .int .i64 0, .int .i64 0, .int .i64 0]) ?_ 3 _ rfl; refine pq ?_; refine blk_put (cs := #[.int .i64 a0_0, .int .i64 t159, .int .i64 0, .int .i64 0, .int .i64 0]) ?_ 2 _ rfl; refine pq ?_; refine blk_put (cs := #[.int .i64 a0_0, .int .i64 0, .int .i64 0, .int .i64 0, .int .i64 0]) ?_ 1 _ rfl; refine pq ?_; refine blk_put (cs := #[.int .i64 0, .int .i64 0, .int .i64 0, .int .i64 0, .int .i64 0]) ?_ 0 _ rfl; refine pq ?_; refine blk_far ?_ NB156_155.out _; refine pq ?_; refine blk_far ?_ NB156_155.out _; refine pq ?_; refine blk_far ?_ NB156_155.out _; refine pq ?_; exact BK156.out) Tryd.underlying25 rfl (by kernel_rfl)) rfl ?_
      exact ⟨zr, zb⟩
     ·rw [if_neg c25] at H
      have c25b0 : decide (0 ≤ t159) = false := decide_eq_false c25
      clear c25
      by_cases c31 : a0_2 < 2
      ·rw [if_pos c31] at H
       have c31b0 : decide (a0_2 < 2) = true := decide_eq_true c31
       clear c31
       simp only [Option.some.injEq, Prod.mk.injEq] at H
       obtain ⟨rfl, rfl, rfl, rfl, rfl, rfl⟩ := H
       have hnb32 := NB155_156.out
       have hnc32 := NB156_155.out
       obtain ⟨hcz33_0, hcz33_1, hcz33_2, hcz33_3, hcz33_4, hfz33_0, hfz33_1, hfz33_2, hfz33_3, hfz33_4⟩ := cells5 BK155.out
       go_wp2_with (first | (go_at_call 16; (with_reducible refine (HNX kj3 t159 A24.out _ zb).mono ?_); rintro e w34 ⟨rfl, hb⟩; have n0_ := aM (bb BK155.out hb); have n1_ := aM (bb BK156.out hb); have n2_ := aM (below_step (zb) hb); clear BK155; clear BK156; clear HB; have BK155 := n0_; have BK156 := n1_; have HB := n2_; clear n0_ n1_ n2_; (try clear hb); (try clear hb2); (try clear hk); (try clear hi); obtain ⟨hcz35_0, hcz35_1, hcz35_2, hcz35_3, hcz35_4, hfz35_0, hfz35_1, hfz35_2, hfz35_3, hfz35_4⟩ := cells5 BK155.out; obtain ⟨hcz36_0, hcz36_1, hcz36_2, hcz36_3, hcz36_4, hfz36_0, hfz36_1, hfz36_2, hfz36_3, hfz36_4⟩ := cells5 BK156.out))
       refine bodyPost_ret (results_ct rfl _ _ gb156 25 #[.int .i64 a0_0, .int .i64 a0_1, .int .i64 (wrap64 (a0_2 + 1)), .int .i64 a0_3, .int .i64 a0_4] (0, 0) _ rfl (by refine pq ?_; refine blk_put (cs := #[.int .i64 a0_0, .int .i64 a0_1, .int .i64 (wrap64 (a0_2 + 1)), .int .i64 a0_3, .int .i64 0]) ?_ 4 _ rfl; refine pq ?_; refine blk_put (cs := #[.int .i64 a0_0, .int .i64 a0_1, .int .i64 (wrap64 (a0_2 + 1)), .int .i64 0, .int .i64 0]) ?_ 3 _ rfl; refine pq ?_; refine blk_put (cs := #[.int .i64 a0_0, .int .i64 a0_1, .int .i64 0, .int .i64 0, .int .i64 0]) ?_ 2 _ rfl; refine pq ?_; refine blk_put (cs := #[.int .i64 a0_0, .int .i64 0, .int .i64 0, .int .i64 0, .int .i64 0]) ?_ 1 _ rfl; refine pq ?_; refine blk_put (cs := #[.int .i64 0, .int .i64 0, .int .i64 0, .int .i64 0, .int .i64 0]) ?_ 0 _ rfl; refine pq ?_; refine blk_far ?_ NB156_155.out _; refine pq ?_; exact BK156.out) Tryd.underlying25 rfl (by kernel_rfl)) rfl ?_
       exact ⟨zr, zb⟩
      ·rw [if_neg c31] at H
       have c31b0 : decide (a0_2 < 2) = false := decide_eq_false c31
       clear c31
       by_cases c37 : 0 ≤ a0_3
       ·rw [if_pos c37] at H
        have c37b0 := eq_true c37
        have c37b1 : decide (0 ≤ a0_3) = true := decide_eq_true c37
        clear c37
        obtain ⟨ji38, hji38⟩ : ∃ j_ : Int, (shl .i64 1 a0_3) = j_ := ⟨_, rfl⟩
        replace H : (some (a0_0, a0_1, 0, mn 6 (wrap64 (a0_3 + 1)), wrap64 (a1 + (ji38)), 3)) = some (r1, r2, r3, r4, r5, r6) := by first | (rw [hji38] at H; exact H) | (simp only [hji38] at H ⊢; exact H)
        (try rw [hji38] at A24)
        have hji38_ : (IntKind.i64.wrap (1 * 2 ^ min a0_3.toNat 64)) = ji38 := hji38
        have hji38z : a0_3 ≤ 64 → (IntKind.i64.wrap (1 * 2 ^ a0_3.toNat)) = ji38 := shl_small hji38
        have hji38u : (IntKind.i64.wrap (2 ^ min a0_3.toNat 64)) = ji38 := by have h_ := hji38_; rw [Int.one_mul] at h_; exact h_
        have hji38v : a0_3 ≤ 64 → (IntKind.i64.wrap (2 ^ a0_3.toNat)) = ji38 := fun hle_ => by have h_ := hji38z hle_; rw [Int.one_mul] at h_; exact h_
        have hji38y : (wrap64 (1 * 2 ^ min a0_3.toNat 64)) = ji38 := (i64_w _).symm.trans hji38_
        have hji38x : a0_3 ≤ 64 → (wrap64 (1 * 2 ^ a0_3.toNat)) = ji38 := fun h_ => (i64_w _).symm.trans (hji38z h_)
        obtain ⟨ji39, hji39⟩ : ∃ j_ : Int, (mn 6 (wrap64 (a0_3 + 1))) = j_ := ⟨_, rfl⟩
        replace H : (some (a0_0, a0_1, 0, ji39, wrap64 (a1 + (ji38)), 3)) = some (r1, r2, r3, r4, r5, r6) := by first | (rw [hji39] at H; exact H) | (simp only [hji39] at H ⊢; exact H)
        (try rw [hji39] at A24)
        have hji39_ : (if (wrap64 (a0_3 + 1)) < 6 then (wrap64 (a0_3 + 1)) else 6) = ji39 := hji39
        simp only [Option.some.injEq, Prod.mk.injEq] at H
        obtain ⟨rfl, rfl, rfl, rfl, rfl, rfl⟩ := H
        have hnb40 := NB155_156.out
        have hnc40 := NB156_155.out
        obtain ⟨hcz41_0, hcz41_1, hcz41_2, hcz41_3, hcz41_4, hfz41_0, hfz41_1, hfz41_2, hfz41_3, hfz41_4⟩ := cells5 BK155.out
        go_wp2_with (first | (go_at_call 16; (with_reducible refine (HNX kj3 t159 A24.out _ zb).mono ?_); rintro e w42 ⟨rfl, hb⟩; have n0_ := aM (bb BK155.out hb); have n1_ := aM (bb BK156.out hb); have n2_ := aM (below_step (zb) hb); clear BK155; clear BK156; clear HB; have BK155 := n0_; have BK156 := n1_; have HB := n2_; clear n0_ n1_ n2_; (try clear hb); (try clear hb2); (try clear hk); (try clear hi); obtain ⟨hcz43_0, hcz43_1, hcz43_2, hcz43_3, hcz43_4, hfz43_0, hfz43_1, hfz43_2, hfz43_3, hfz43_4⟩ := cells5 BK155.out; obtain ⟨hcz44_0, hcz44_1, hcz44_2, hcz44_3, hcz44_4, hfz44_0, hfz44_1, hfz44_2, hfz44_3, hfz44_4⟩ := cells5 BK156.out))
        refine bodyPost_ret (results_ct rfl _ _ gb156 25 #[.int .i64 a0_0, .int .i64 a0_1, .int .i64 0, .int .i64 ji39, .int .i64 (wrap64 (a1 + (ji38)))] (0, 0) _ rfl (by refine pq ?_; refine blk_put (cs := #[.int .i64 a0_0, .int .i64 a0_1, .int .i64 0, .int .i64 ji39, .int .i64 0]) ?_ 4 _ rfl; refine pq ?_; refine blk_put (cs := #[.int .i64 a0_0, .int .i64 a0_1, .int .i64 0, .int .i64 0, .int .i64 0]) ?_ 3 _ rfl; refine pq ?_; refine blk_put (cs := #[.int .i64 a0_0, .int .i64 a0_1, .int .i64 0, .int .i64 0, .int .i64 0]) ?_ 2 _ rfl; refine pq ?_; refine blk_put (cs := #[.int .i64 a0_0, .int .i64 0, .int .i64 0, .int .i64 0, .int .i64 0]) ?_ 1 _ rfl; refine pq ?_; refine blk_put (cs := #[.int .i64 0, .int .i64 0, .int .i64 0, .int .i64 0, .int .i64 0]) ?_ 0 _ rfl; refine pq ?_; refine blk_far ?_ NB156_155.out _; refine pq ?_; refine blk_far ?_ NB156_155.out _; refine pq ?_; refine blk_far ?_ NB156_155.out _; refine pq ?_; exact BK156.out) Tryd.underlying25 rfl (by kernel_rfl)) rfl ?_
        exact ⟨by first | rfl | (simp [errW_none, errW_some] <;> rfl) | (simp only [← hji38, ← hji39]; first | rfl | (simp [errW_none, errW_some] <;> rfl)) | (simp [*, errW_none, errW_some] <;> rfl), zb⟩
       ·rw [if_neg c37] at H
        exact absurd H (by simp)

def impl_Try.f (k : Nat) (a0_0 : Int) (a0_1 : Int) (a0_2 : Int) (a0_3 : Int) (a0_4 : Int) (a1 : ByteArray) (a2 : Int) : Option (Int × Int × Int × Int × Int × Int) := (impl_Try.tf (fun k_ => impl_Try.cf k_ a0_0 a0_1 a0_2 a0_3 a0_4 a1) k a0_0 a0_1 a0_2 a0_3 a0_4 a2).bind fun bt164 => (some (bt164.1, bt164.2.1, bt164.2.2.1, bt164.2.2.2.1, bt164.2.2.2.2.1, bt164.2.2.2.2.2))
theorem impl_Try.mono : ∀ a0 a1 a2 a3 a4 a5 a6 k, LeO (impl_Try.f k a0 a1 a2 a3 a4 a5 a6) (impl_Try.f (k + 1) a0 a1 a2 a3 a4 a5 a6) := by
 intro a0 a1 a2 a3 a4 a5 a6 k
 unfold impl_Try.f
 repeat' first
   | (with_reducible exact impl_Try.tmono _ (fun k_ => impl_Try.cmono _ _ _ _ _ _ k_) _ _ _ _ _ _ _)
   | (with_reducible exact LeO.refl _)
   | (with_reducible exact LeO.none _)
   | (with_reducible refine LeO.ite ?_ ?_)
   | (with_reducible refine LeO.bind ?_ (fun _ => ?_))
   | exact impl_Try.tmono _ (fun k_ => impl_Try.cmono _ _ _ _ _ _ k_) _ _ _ _ _ _ _
   | exact LeO.none _
   | refine LeO.ite ?_ ?_
   | refine LeO.bind ?_ (fun _ => ?_)
set_option maxHeartbeats 8000000 in
set_option maxRecDepth 100000 in
theorem impl_Try.calls (k : Nat) (a0_0 : Int) (a0_1 : Int) (a0_2 : Int) (a0_3 : Int) (a0_4 : Int) (a1 : ByteArray) (a2 : Int) (r1 : Int) (r2 : Int) (r3 : Int) (r4 : Int) (r5 : Int) (r6 : Int) (w : World) (h : impl_Try.f k a0_0 a0_1 a0_2 a0_3 a0_4 a1 a2 = some (r1, r2, r3, r4, r5, r6)) (HTAB : Sh.TabH w := by exact Sh.tabH HTAB (by repeat (first | (with_reducible first | exact HB.out | exact HBW.out | apply eA | apply eN | apply eD | refine eS ?_ (Aside0.out ‹_›)) | exact HB.out))) :
  Calls Tryd.prog 8 #[.agg #[.int .i64 a0_0, .int .i64 a0_1, .int .i64 a0_2, .int .i64 a0_3, .int .i64 a0_4], .string a1, .int .i64 a2] w fun e w' => e = .returned (.tuple #[.agg #[.int .i64 r1, .int .i64 r2, .int .i64 r3, .int .i64 r4, .int .i64 r5], .int .i64 r6]) ∧ Below w.heap.size w w' := by
 have hu25 := Tryd.underlying25
 have HB := aM (Below.refl w.heap.size w)
 have H : ((impl_Try.tf (fun k_ => impl_Try.cf k_ a0_0 a0_1 a0_2 a0_3 a0_4 a1) k a0_0 a0_1 a0_2 a0_3 a0_4 a2).bind fun bt164 => (some (bt164.1, bt164.2.1, bt164.2.2.1, bt164.2.2.2.1, bt164.2.2.2.2.1, bt164.2.2.2.2.2))) = some (r1, r2, r3, r4, r5, r6) := h
 clear h
 replace H := Option.bind_eq_some_iff.mp H
 obtain ⟨⟨t164, t165, t166, t167, t168, t169⟩, A40, H⟩ := H
 replace H : (some (t164, t165, t166, t167, t168, t169)) = some (r1, r2, r3, r4, r5, r6) := H
 have A4 := aM A40
 clear A40
 simp only [Option.some.injEq, Prod.mk.injEq] at H
 obtain ⟨rfl, rfl, rfl, rfl, rfl, rfl⟩ := H
 go_enter Tryd.func8, Tryd.ntmps8
 go_wp2_with (first | ((with_reducible refine gate_dst (N := 3) rfl ?_); refine box_event ?hg (N := 3) ?hd (cs := #[.int .i64 a0_0, .int .i64 a0_1, .int .i64 a0_2, .int .i64 a0_3, .int .i64 a0_4]) (t := 25) ?hr ?_; (case hd => rfl); (case hg => rfl); (case hr => exact zg); intro gb162 hg w5 hbox hb; have n0_ := aM (below_step (zb) hb); have n1_ := aM (hbox); have n2_ := aM ((by rw [hg]; exact (below_size (zb)) : w.heap.size ≤ gb162)); have n3_ := aM ((by rw [hg]; exact (below_size (zb)) : w.heap.size ≤ gb162)); clear HB; have HB := n0_; have BK162 := n1_; have GW162 := n2_; have GE162 := n3_; clear n0_ n1_ n2_ n3_; clear hb hbox hg) | ((with_reducible refine gate_dst (N := 4) rfl ?_); refine box_event ?hg (N := 4) ?hd (cs := #[.string a1]) (t := 9) ?hr ?_; (case hd => rfl); (case hg => rfl); (case hr => exact zg); intro gbs hg ws hbox hb; have n0_ := aM (bb BK162.out hb); have n1_ := aM (below_step (zb) hb); have n2_ := aM (hbox); clear BK162; clear HB; have BK162 := n0_; have HB := n1_; have BKS := n2_; clear n0_ n1_ n2_; clear hb hbox hg) | ((with_reducible refine gate_dst (N := 6) rfl ?_); refine box_event ?hg (N := 6) ?hd (cs := #[.int .i64 0, .int .i64 0, .int .i64 0, .int .i64 0, .int .i64 0]) (t := 25) ?hr ?_; (case hd => rfl); (case hg => rfl); (case hr => exact zg); intro gb163 hg w6 hbox hb; have n0_ := aM (bb BK162.out hb); have n1_ := aM (below_step (zb) hb); have n2_ := aM (hbox); have n3_ := aM ((by rw [hg]; exact (below_size (zb)) : w.heap.size ≤ gb163)); have n4_ := aM ((by rw [hg]; exact (below_size (zb)) : w.heap.size ≤ gb163)); have n5_ := aM ((by rw [hg]; exact Nat.ne_of_lt (nl BK162.out) : gb162 ≠ gb163)); have n6_ := aM ((by rw [hg]; exact Nat.ne_of_gt (nl BK162.out) : gb163 ≠ gb162)); clear BK162; clear HB; have BK162 := n0_; have HB := n1_; have BK163 := n2_; have GW163 := n3_; have GE163 := n4_; have NB162_163 := n5_; have NB163_162 := n6_; clear n0_ n1_ n2_ n3_ n4_ n5_ n6_; have ns_ := aM (bb BKS.out hb); clear BKS; have BKS := ns_; clear ns_; clear hb hbox hg; have hnb7 := NB162_163.out; have hnc7 := NB163_162.out; obtain ⟨hcz8_0, hcz8_1, hcz8_2, hcz8_3, hcz8_4, hfz8_0, hfz8_1, hfz8_2, hfz8_3, hfz8_4⟩ := cells5 BK162.out) | ((with_reducible refine gate_callee (f := 15) rfl ?_); refine goesL_ (some 11) rfl rfl Tryd.func15 (by kernel_rfl) rfl #[.agg #[.int .i64 a0_0, .int .i64 a0_1, .int .i64 a0_2, .int .i64 a0_3, .int .i64 a0_4], .int .i64 a2, .func (.func 16) #[] #[.pointer (some ⟨gb162, 0, none⟩), .pointer (some ⟨gbs, 0, none⟩)]] rfl za ?_; (with_reducible refine (impl_Try.tried _ gb162 gbs k a0_0 a0_1 a0_2 a0_3 a0_4 a2 t164 t165 t166 t167 t168 t169 _ A4.out (fun k_ r_ hr_ W_ hW_ => impl_Try.clo k_ a0_0 a0_1 a0_2 a0_3 a0_4 a1 r_ gb162 gbs W_ (bb BK162.out hW_) (bb BKS.out hW_) hr_ (Sh.tabH (Sh.tabH HTAB zb) hW_))).mono ?_); rintro e w9 ⟨rfl, hb⟩; refine ⟨_, rfl, ?_⟩; have n0_ := aM (bb BK162.out hb); have n1_ := aM (bb BK163.out hb); have n2_ := aM (below_step (zb) hb); clear BK162; clear BK163; clear HB; have BK162 := n0_; have BK163 := n1_; have HB := n2_; clear n0_ n1_ n2_; (try clear hb); (try clear hb2); (try clear hk); (try clear hi); obtain ⟨hcz10_0, hcz10_1, hcz10_2, hcz10_3, hcz10_4, hfz10_0, hfz10_1, hfz10_2, hfz10_3, hfz10_4⟩ := cells5 BK163.out))
 refine bodyPost_ret (results_ct rfl _ _ gb163 25 #[.int .i64 t164, .int .i64 t165, .int .i64 t166, .int .i64 t167, .int .i64 t168] (0, 0) _ rfl (by refine pq ?_; refine blk_put (cs := #[.int .i64 t164, .int .i64 t165, .int .i64 t166, .int .i64 t167, .int .i64 0]) ?_ 4 _ rfl; refine pq ?_; refine blk_put (cs := #[.int .i64 t164, .int .i64 t165, .int .i64 t166, .int .i64 0, .int .i64 0]) ?_ 3 _ rfl; refine pq ?_; refine blk_put (cs := #[.int .i64 t164, .int .i64 t165, .int .i64 0, .int .i64 0, .int .i64 0]) ?_ 2 _ rfl; refine pq ?_; refine blk_put (cs := #[.int .i64 t164, .int .i64 0, .int .i64 0, .int .i64 0, .int .i64 0]) ?_ 1 _ rfl; refine pq ?_; refine blk_put (cs := #[.int .i64 0, .int .i64 0, .int .i64 0, .int .i64 0, .int .i64 0]) ?_ 0 _ rfl; refine pq ?_; exact BK163.out) Tryd.underlying25 rfl (by kernel_rfl)) rfl ?_
 exact ⟨zr, zb⟩


/-! ### spec_LockOk: function 18 -/
def spec_LockOk.f (a0_0 : Int) (a0_1 : Int) (a0_2 : Int) (a0_3 : Int) (a0_4 : Int) : Option (Bool) := (spec_l03Secret.f a0_0).bind fun t156 => (if t156 = true then ((spec_l01In.f a0_1 0 1000001).bind fun t157 => (if t157 = true then ((spec_l01In.f a0_2 0 2).bind fun t158 => (if t158 = true then ((spec_l01In.f a0_3 0 6).bind fun t159 => (if t159 = true then ((spec_l01In.f a0_4 0 20064).bind fun t160 => (some t160)) else (some false))) else (some false))) else (some false))) else (some false))
set_option maxHeartbeats 8000000 in
set_option maxRecDepth 100000 in
theorem spec_LockOk.calls (a0_0 : Int) (a0_1 : Int) (a0_2 : Int) (a0_3 : Int) (a0_4 : Int) (r : Bool) (w : World) (h : spec_LockOk.f a0_0 a0_1 a0_2 a0_3 a0_4 = some r) :
  Calls Tryd.prog 18 #[.agg #[.int .i64 a0_0, .int .i64 a0_1, .int .i64 a0_2, .int .i64 a0_3, .int .i64 a0_4]] w fun e w' => e = .returned (.bool r) ∧ Below w.heap.size w w' := by
 have hu25 := Tryd.underlying25
 have HB := aM (Below.refl w.heap.size w)
 have H : ((spec_l03Secret.f a0_0).bind fun t156 => (if t156 = true then ((spec_l01In.f a0_1 0 1000001).bind fun t157 => (if t157 = true then ((spec_l01In.f a0_2 0 2).bind fun t158 => (if t158 = true then ((spec_l01In.f a0_3 0 6).bind fun t159 => (if t159 = true then ((spec_l01In.f a0_4 0 20064).bind fun t160 => (some t160)) else (some false))) else (some false))) else (some false))) else (some false))) = some r := h
 clear h
 replace H := Option.bind_eq_some_iff.mp H
 obtain ⟨t156, A20, H⟩ := H
 replace H : (if t156 = true then ((spec_l01In.f a0_1 0 1000001).bind fun t157 => (if t157 = true then ((spec_l01In.f a0_2 0 2).bind fun t158 => (if t158 = true then ((spec_l01In.f a0_3 0 6).bind fun t159 => (if t159 = true then ((spec_l01In.f a0_4 0 20064).bind fun t160 => (some t160)) else (some false))) else (some false))) else (some false))) else (some false)) = some r := H
 have A2 := aM A20
 clear A20
 by_cases c3 : t156 = true
 ·subst c3
  have H1 : ((spec_l01In.f a0_1 0 1000001).bind fun t157 => (if t157 = true then ((spec_l01In.f a0_2 0 2).bind fun t158 => (if t158 = true then ((spec_l01In.f a0_3 0 6).bind fun t159 => (if t159 = true then ((spec_l01In.f a0_4 0 20064).bind fun t160 => (some t160)) else (some false))) else (some false))) else (some false))) = some r := by rw [if_pos rfl] at H; exact H
  clear H
  have H := H1
  clear H1
  replace H := Option.bind_eq_some_iff.mp H
  obtain ⟨t157, A40, H⟩ := H
  replace H : (if t157 = true then ((spec_l01In.f a0_2 0 2).bind fun t158 => (if t158 = true then ((spec_l01In.f a0_3 0 6).bind fun t159 => (if t159 = true then ((spec_l01In.f a0_4 0 20064).bind fun t160 => (some t160)) else (some false))) else (some false))) else (some false)) = some r := H
  have A4 := aM A40
  clear A40
  by_cases c5 : t157 = true
  ·subst c5
   have H1 : ((spec_l01In.f a0_2 0 2).bind fun t158 => (if t158 = true then ((spec_l01In.f a0_3 0 6).bind fun t159 => (if t159 = true then ((spec_l01In.f a0_4 0 20064).bind fun t160 => (some t160)) else (some false))) else (some false))) = some r := by rw [if_pos rfl] at H; exact H
   clear H
   have H := H1
   clear H1
   replace H := Option.bind_eq_some_iff.mp H
   obtain ⟨t158, A60, H⟩ := H
   replace H : (if t158 = true then ((spec_l01In.f a0_3 0 6).bind fun t159 => (if t159 = true then ((spec_l01In.f a0_4 0 20064).bind fun t160 => (some t160)) else (some false))) else (some false)) = some r := H
   have A6 := aM A60
   clear A60
   by_cases c7 : t158 = true
   ·subst c7
    have H1 : ((spec_l01In.f a0_3 0 6).bind fun t159 => (if t159 = true then ((spec_l01In.f a0_4 0 20064).bind fun t160 => (some t160)) else (some false))) = some r := by rw [if_pos rfl] at H; exact H
    clear H
    have H := H1
    clear H1
    replace H := Option.bind_eq_some_iff.mp H
    obtain ⟨t159, A80, H⟩ := H
    replace H : (if t159 = true then ((spec_l01In.f a0_4 0 20064).bind fun t160 => (some t160)) else (some false)) = some r := H
    have A8 := aM A80
    clear A80
    by_cases c9 : t159 = true
    ·subst c9
     have H1 : ((spec_l01In.f a0_4 0 20064).bind fun t160 => (some t160)) = some r := by rw [if_pos rfl] at H; exact H
     clear H
     have H := H1
     clear H1
     replace H := Option.bind_eq_some_iff.mp H
     obtain ⟨t160, A100, H⟩ := H
     replace H : (some t160) = some r := H
     have A10 := aM A100
     clear A100
     obtain rfl := Option.some.inj H
     go_enter Tryd.func18, Tryd.ntmps18
     go_wp2_with (first | ((with_reducible refine gate_dst (N := 1) rfl ?_); refine box_event ?hg (N := 1) ?hd (cs := #[.int .i64 a0_0, .int .i64 a0_1, .int .i64 a0_2, .int .i64 a0_3, .int .i64 a0_4]) (t := 25) ?hr ?_; (case hd => rfl); (case hg => rfl); (case hr => exact zg); intro gb155 hg w11 hbox hb; have n0_ := aM (below_step (zb) hb); have n1_ := aM (hbox); have n2_ := aM ((by rw [hg]; exact (below_size (zb)) : w.heap.size ≤ gb155)); have n3_ := aM ((by rw [hg]; exact (below_size (zb)) : w.heap.size ≤ gb155)); clear HB; have HB := n0_; have BK155 := n1_; have GW155 := n2_; have GE155 := n3_; clear n0_ n1_ n2_ n3_; clear hb hbox hg; obtain ⟨hcz12_0, hcz12_1, hcz12_2, hcz12_3, hcz12_4, hfz12_0, hfz12_1, hfz12_2, hfz12_3, hfz12_4⟩ := cells5 BK155.out) | ((with_reducible refine gate_callee (f := 14) rfl ?_); refine goesL_ (some 5) rfl rfl Tryd.func14 (by kernel_rfl) rfl #[.int .i64 a0_0] rfl za ?_; (with_reducible refine (spec_l03Secret.calls a0_0 true _ A2.out).mono ?_); rintro e w' ⟨rfl, ⟨nd, rfl⟩⟩; refine ⟨_, rfl, ?_⟩) | (go_at_call 19; (with_reducible refine (spec_l01In.calls a0_1 0 1000001 true _ A4.out).mono ?_); rintro e w' ⟨rfl, ⟨nd, rfl⟩⟩) | (go_at_call 19; (with_reducible refine (spec_l01In.calls a0_2 0 2 true _ A6.out).mono ?_); rintro e w' ⟨rfl, ⟨nd, rfl⟩⟩) | (go_at_call 19; (with_reducible refine (spec_l01In.calls a0_3 0 6 true _ A8.out).mono ?_); rintro e w' ⟨rfl, ⟨nd, rfl⟩⟩) | (go_at_call 19; (with_reducible refine (spec_l01In.calls a0_4 0 20064 t160 _ A10.out).mono ?_); rintro e w' ⟨rfl, ⟨nd, rfl⟩⟩))
     go_ret
     exact ⟨zr, zb⟩
    ·replace c9 := Bool.eq_false_iff.mpr c9
     subst c9
     have H1 : (some false) = some r := by rw [if_neg (show ¬ (false = true) by decide)] at H; exact H
     clear H
     have H := H1
     clear H1
     obtain rfl := Option.some.inj H
     go_enter Tryd.func18, Tryd.ntmps18
     go_wp2_with (first | ((with_reducible refine gate_dst (N := 1) rfl ?_); refine box_event ?hg (N := 1) ?hd (cs := #[.int .i64 a0_0, .int .i64 a0_1, .int .i64 a0_2, .int .i64 a0_3, .int .i64 a0_4]) (t := 25) ?hr ?_; (case hd => rfl); (case hg => rfl); (case hr => exact zg); intro gb155 hg w13 hbox hb; have n0_ := aM (below_step (zb) hb); have n1_ := aM (hbox); have n2_ := aM ((by rw [hg]; exact (below_size (zb)) : w.heap.size ≤ gb155)); have n3_ := aM ((by rw [hg]; exact (below_size (zb)) : w.heap.size ≤ gb155)); clear HB; have HB := n0_; have BK155 := n1_; have GW155 := n2_; have GE155 := n3_; clear n0_ n1_ n2_ n3_; clear hb hbox hg; obtain ⟨hcz14_0, hcz14_1, hcz14_2, hcz14_3, hcz14_4, hfz14_0, hfz14_1, hfz14_2, hfz14_3, hfz14_4⟩ := cells5 BK155.out) | ((with_reducible refine gate_callee (f := 14) rfl ?_); refine goesL_ (some 5) rfl rfl Tryd.func14 (by kernel_rfl) rfl #[.int .i64 a0_0] rfl za ?_; (with_reducible refine (spec_l03Secret.calls a0_0 true _ A2.out).mono ?_); rintro e w' ⟨rfl, ⟨nd, rfl⟩⟩; refine ⟨_, rfl, ?_⟩) | (go_at_call 19; (with_reducible refine (spec_l01In.calls a0_1 0 1000001 true _ A4.out).mono ?_); rintro e w' ⟨rfl, ⟨nd, rfl⟩⟩) | (go_at_call 19; (with_reducible refine (spec_l01In.calls a0_2 0 2 true _ A6.out).mono ?_); rintro e w' ⟨rfl, ⟨nd, rfl⟩⟩) | (go_at_call 19; (with_reducible refine (spec_l01In.calls a0_3 0 6 false _ A8.out).mono ?_); rintro e w' ⟨rfl, ⟨nd, rfl⟩⟩))
     go_ret
     exact ⟨zr, zb⟩
   ·replace c7 := Bool.eq_false_iff.mpr c7
    subst c7
    have H1 : (some false) = some r := by rw [if_neg (show ¬ (false = true) by decide)] at H; exact H
    clear H
    have H := H1
    clear H1
    obtain rfl := Option.some.inj H
    go_enter Tryd.func18, Tryd.ntmps18
    go_wp2_with (first | ((with_reducible refine gate_dst (N := 1) rfl ?_); refine box_event ?hg (N := 1) ?hd (cs := #[.int .i64 a0_0, .int .i64 a0_1, .int .i64 a0_2, .int .i64 a0_3, .int .i64 a0_4]) (t := 25) ?hr ?_; (case hd => rfl); (case hg => rfl); (case hr => exact zg); intro gb155 hg w15 hbox hb; have n0_ := aM (below_step (zb) hb); have n1_ := aM (hbox); have n2_ := aM ((by rw [hg]; exact (below_size (zb)) : w.heap.size ≤ gb155)); have n3_ := aM ((by rw [hg]; exact (below_size (zb)) : w.heap.size ≤ gb155)); clear HB; have HB := n0_; have BK155 := n1_; have GW155 := n2_; have GE155 := n3_; clear n0_ n1_ n2_ n3_; clear hb hbox hg; obtain ⟨hcz16_0, hcz16_1, hcz16_2, hcz16_3, hcz16_4, hfz16_0, hfz16_1, hfz16_2, hfz16_3, hfz16_4⟩ := cells5 BK155.out) | ((with_reducible refine gate_callee (f := 14) rfl ?_); refine goesL_ (some 5) rfl rfl Tryd.func14 (by kernel_rfl) rfl #[.int .i64 a0_0] rfl za ?_; (with_reducible refine (spec_l03Secret.calls a0_0 true _ A2.out).mono ?_); rintro e w' ⟨rfl, ⟨nd, rfl⟩⟩; refine ⟨_, rfl, ?_⟩) | (go_at_call 19; (with_reducible refine (spec_l01In.calls a0_1 0 1000001 true _ A4.out).mono ?_); rintro e w' ⟨rfl, ⟨nd, rfl⟩⟩) | (go_at_call 19; (with_reducible refine (spec_l01In.calls a0_2 0 2 false _ A6.out).mono ?_); rintro e w' ⟨rfl, ⟨nd, rfl⟩⟩))
    go_ret
    exact ⟨zr, zb⟩
  ·replace c5 := Bool.eq_false_iff.mpr c5
   subst c5
   have H1 : (some false) = some r := by rw [if_neg (show ¬ (false = true) by decide)] at H; exact H
   clear H
   have H := H1
   clear H1
   obtain rfl := Option.some.inj H
   go_enter Tryd.func18, Tryd.ntmps18
   go_wp2_with (first | ((with_reducible refine gate_dst (N := 1) rfl ?_); refine box_event ?hg (N := 1) ?hd (cs := #[.int .i64 a0_0, .int .i64 a0_1, .int .i64 a0_2, .int .i64 a0_3, .int .i64 a0_4]) (t := 25) ?hr ?_; (case hd => rfl); (case hg => rfl); (case hr => exact zg); intro gb155 hg w17 hbox hb; have n0_ := aM (below_step (zb) hb); have n1_ := aM (hbox); have n2_ := aM ((by rw [hg]; exact (below_size (zb)) : w.heap.size ≤ gb155)); have n3_ := aM ((by rw [hg]; exact (below_size (zb)) : w.heap.size ≤ gb155)); clear HB; have HB := n0_; have BK155 := n1_; have GW155 := n2_; have GE155 := n3_; clear n0_ n1_ n2_ n3_; clear hb hbox hg; obtain ⟨hcz18_0, hcz18_1, hcz18_2, hcz18_3, hcz18_4, hfz18_0, hfz18_1, hfz18_2, hfz18_3, hfz18_4⟩ := cells5 BK155.out) | ((with_reducible refine gate_callee (f := 14) rfl ?_); refine goesL_ (some 5) rfl rfl Tryd.func14 (by kernel_rfl) rfl #[.int .i64 a0_0] rfl za ?_; (with_reducible refine (spec_l03Secret.calls a0_0 true _ A2.out).mono ?_); rintro e w' ⟨rfl, ⟨nd, rfl⟩⟩; refine ⟨_, rfl, ?_⟩) | (go_at_call 19; (with_reducible refine (spec_l01In.calls a0_1 0 1000001 false _ A4.out).mono ?_); rintro e w' ⟨rfl, ⟨nd, rfl⟩⟩))
   go_ret
   exact ⟨zr, zb⟩
 ·replace c3 := Bool.eq_false_iff.mpr c3
  subst c3
  have H1 : (some false) = some r := by rw [if_neg (show ¬ (false = true) by decide)] at H; exact H
  clear H
  have H := H1
  clear H1
  obtain rfl := Option.some.inj H
  go_enter Tryd.func18, Tryd.ntmps18
  go_wp2_with (first | ((with_reducible refine gate_dst (N := 1) rfl ?_); refine box_event ?hg (N := 1) ?hd (cs := #[.int .i64 a0_0, .int .i64 a0_1, .int .i64 a0_2, .int .i64 a0_3, .int .i64 a0_4]) (t := 25) ?hr ?_; (case hd => rfl); (case hg => rfl); (case hr => exact zg); intro gb155 hg w19 hbox hb; have n0_ := aM (below_step (zb) hb); have n1_ := aM (hbox); have n2_ := aM ((by rw [hg]; exact (below_size (zb)) : w.heap.size ≤ gb155)); have n3_ := aM ((by rw [hg]; exact (below_size (zb)) : w.heap.size ≤ gb155)); clear HB; have HB := n0_; have BK155 := n1_; have GW155 := n2_; have GE155 := n3_; clear n0_ n1_ n2_ n3_; clear hb hbox hg; obtain ⟨hcz20_0, hcz20_1, hcz20_2, hcz20_3, hcz20_4, hfz20_0, hfz20_1, hfz20_2, hfz20_3, hfz20_4⟩ := cells5 BK155.out) | ((with_reducible refine gate_callee (f := 14) rfl ?_); refine goesL_ (some 5) rfl rfl Tryd.func14 (by kernel_rfl) rfl #[.int .i64 a0_0] rfl za ?_; (with_reducible refine (spec_l03Secret.calls a0_0 false _ A2.out).mono ?_); rintro e w' ⟨rfl, ⟨nd, rfl⟩⟩; refine ⟨_, rfl, ?_⟩))
  go_ret
  exact ⟨zr, zb⟩

/-! ### spec_l01Figure: function 33 -/
def spec_l01Figure.f (a0 : Int) : Option (Int) := if a0 < 10 then (some ((wrap64 (48 + a0)) % 256)) else (some ((wrap64 ((wrap64 (97 + a0)) - 10)) % 256))
set_option maxHeartbeats 8000000 in
set_option maxRecDepth 100000 in
theorem spec_l01Figure.calls (a0 : Int) (r : Int) (w : World) (h : spec_l01Figure.f a0 = some r) :
  Calls Tryd.prog 33 #[.int .i64 a0] w fun e w' => e = .returned (.int .u8 r) ∧ Drawn0 w w' := by
 have H : (if a0 < 10 then (some ((wrap64 (48 + a0)) % 256)) else (some ((wrap64 ((wrap64 (97 + a0)) - 10)) % 256))) = some r := h
 clear h
 by_cases c2 : a0 < 10
 ·rw [if_pos c2] at H
  have c2b0 : decide (a0 < 10) = true := decide_eq_true c2
  clear c2
  obtain rfl := Option.some.inj H
  go_enter Tryd.func33, Tryd.ntmps33
  go_wp2
  go_ret
  exact ⟨by first | rfl | (simp; done) | (simp [*]; done), by repeat (first | exact Drawn0.refl _ | apply Drawn0.step)⟩
 ·rw [if_neg c2] at H
  have c2b0 : decide (a0 < 10) = false := decide_eq_false c2
  clear c2
  obtain rfl := Option.some.inj H
  go_enter Tryd.func33, Tryd.ntmps33
  go_wp2
  go_ret
  exact ⟨by first | rfl | (simp; done) | (simp [*]; done), by repeat (first | exact Drawn0.refl _ | apply Drawn0.step)⟩

end Go.Proofs.YtdhinnolfpacgabDoor.QFnGuesses
