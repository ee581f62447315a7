-- Printed functions and their walks: by print.py, turned by wip/tools/myprint.py.
import Derived.Test.YtcpjfkagbnoagaaQFnRevokingx0
import Derived.Test.YtcpjfkagbnoagaaQFnRevokingx2
import Derived.Test.YtcpjfkagbnoagaaQFnRevokingx3
import Derived.Test.YtcpjfkagbnoagaaQFnRevokingx6
import Derived.Test.YtcpjfkagbnoagaaQFnRevokingx7
import Derived.Test.YtcpjfkagbnoagaaQFnRevokingx9
import Derived.Test.YtcpjfkagbnoagaaQFnRevokingx10
namespace Go.Proofs.Ytcpjfkagbnoagaa.QFnRevoking
open Go.RowKit Go.Proofs.YtcpjfkagbnoagaaW.PrintWords Go.Proofs.YtcpjfkagbnoagaaW.PrintLast Go.Proofs.YtcpjfkagbnoagaaW.PrintMore
attribute [local go_sem] max2_int min2_int max_two min_two max_three min_three max_four min_four   -- for this text's walks alone
set_option linter.unusedVariables false
set_option linter.unusedSimpArgs false

/-! ### spec_l05Four: function 69 -/
def spec_l05Four.f (k : Nat) (l0 : List Int) : Option ((List (S25)) × Int × Int × Int × Int) := (spec_l01New.f k l0).bind fun bt379 => ((spec_l05Any.f k bt379.1 bt379.2.1 bt379.2.2).bind fun bt383 => ((spec_l05Who.f bt379.1 bt383.2.1 bt383.2.2).bind fun bt388 => ((spec_l05Who.f bt379.1 bt388.2.1 bt388.2.2).bind fun bt391 => ((spec_l01PickInt.f bt379.1 bt391.2.1 bt391.2.2 (([1, 1, 1, 2, 0, 1000] : List Int))).bind fun bt397 => ((spec_l01PickInt.f bt379.1 bt397.2.1 bt397.2.2 (([5, 10, 12, 15, 20, 0, 20000, 20001, (-1)] : List Int))).bind fun bt403 => (some (bt383.1, bt388.1, bt391.1, bt397.1, bt403.1)))))))
theorem spec_l05Four.mono : ∀ a0 k, LeO (spec_l05Four.f k a0) (spec_l05Four.f (k + 1) a0) := by
 intro a0 k
 unfold spec_l05Four.f
 repeat' first
   | (with_reducible exact spec_l01New.mono _ _)
   | (with_reducible exact spec_l05Any.mono _ _ _ _)
   | (with_reducible exact LeO.refl _)
   | (with_reducible exact LeO.none _)
   | (with_reducible refine LeO.ite ?_ ?_)
   | (with_reducible refine LeO.bind ?_ (fun _ => ?_))
   | exact spec_l01New.mono _ _
   | exact spec_l05Any.mono _ _ _ _
   | exact LeO.none _
   | refine LeO.ite ?_ ?_
   | refine LeO.bind ?_ (fun _ => ?_)
set_option maxHeartbeats 8000000 in
set_option maxRecDepth 100000 in
theorem spec_l05Four.calls (k : Nat) (A0 : Option Addr) (c0 : Nat) (l0 : List Int) (r1 : List (S25)) (r2 : Int) (r3 : Int) (r4 : Int) (r5 : Int) (w : World) (hr0 : Kd.C (Kd.int .u8) w A0 l0.length l0) (hc0 : l0.length ≤ c0) (h : spec_l05Four.f k l0 = some (r1, r2, r3, r4, r5)) :
  Calls Try.prog 69 #[.slice A0 l0.length c0] w fun e w' => ∃ v0_ : Value, e = .returned (.tuple #[v0_, .int .i64 r2, .int .i64 r3, .int .i64 r4, .int .i64 r5]) ∧ Kd.R k25 25 w' w.heap.size (fun _ => True) v0_ r1 ∧ Below w.heap.size w w' := by
 have HR0 := aM hr0
 have HC0 := aM hc0
 clear hr0 hc0
 have HB := aM (Below.refl w.heap.size w)
 have H : ((spec_l01New.f k l0).bind fun bt379 => ((spec_l05Any.f k bt379.1 bt379.2.1 bt379.2.2).bind fun bt383 => ((spec_l05Who.f bt379.1 bt383.2.1 bt383.2.2).bind fun bt388 => ((spec_l05Who.f bt379.1 bt388.2.1 bt388.2.2).bind fun bt391 => ((spec_l01PickInt.f bt379.1 bt391.2.1 bt391.2.2 (([1, 1, 1, 2, 0, 1000] : List Int))).bind fun bt397 => ((spec_l01PickInt.f bt379.1 bt397.2.1 bt397.2.2 (([5, 10, 12, 15, 20, 0, 20000, 20001, (-1)] : List Int))).bind fun bt403 => (some (bt383.1, bt388.1, bt391.1, bt397.1, bt403.1)))))))) = some (r1, r2, r3, r4, r5) := h
 clear h
 replace H := Option.bind_eq_some_iff.mp H
 obtain ⟨⟨t379, t380, t381⟩, A20, H⟩ := H
 replace H : ((spec_l05Any.f k t379 t380 t381).bind fun bt383 => ((spec_l05Who.f t379 bt383.2.1 bt383.2.2).bind fun bt388 => ((spec_l05Who.f t379 bt388.2.1 bt388.2.2).bind fun bt391 => ((spec_l01PickInt.f t379 bt391.2.1 bt391.2.2 (([1, 1, 1, 2, 0, 1000] : List Int))).bind fun bt397 => ((spec_l01PickInt.f t379 bt397.2.1 bt397.2.2 (([5, 10, 12, 15, 20, 0, 20000, 20001, (-1)] : List Int))).bind fun bt403 => (some (bt383.1, bt388.1, bt391.1, bt397.1, bt403.1))))))) = some (r1, r2, r3, r4, r5) := H
 have A2 := aM A20
 clear A20
 replace H := Option.bind_eq_some_iff.mp H
 obtain ⟨⟨t383, t386, t387⟩, A30, H⟩ := H
 replace H : ((spec_l05Who.f t379 t386 t387).bind fun bt388 => ((spec_l05Who.f t379 bt388.2.1 bt388.2.2).bind fun bt391 => ((spec_l01PickInt.f t379 bt391.2.1 bt391.2.2 (([1, 1, 1, 2, 0, 1000] : List Int))).bind fun bt397 => ((spec_l01PickInt.f t379 bt397.2.1 bt397.2.2 (([5, 10, 12, 15, 20, 0, 20000, 20001, (-1)] : List Int))).bind fun bt403 => (some (t383, bt388.1, bt391.1, bt397.1, bt403.1)))))) = some (r1, r2, r3, r4, r5) := H
 have A3 := aM A30
 clear A30
 replace H := Option.bind_eq_some_iff.mp H
 obtain ⟨⟨t388, t389, t390⟩, A40, H⟩ := H
 replace H : ((spec_l05Who.f t379 t389 t390).bind fun bt391 => ((spec_l01PickInt.f t379 bt391.2.1 bt391.2.2 (([1, 1, 1, 2, 0, 1000] : List Int))).bind fun bt397 => ((spec_l01PickInt.f t379 bt397.2.1 bt397.2.2 (([5, 10, 12, 15, 20, 0, 20000, 20001, (-1)] : List Int))).bind fun bt403 => (some (t383, t388, bt391.1, bt397.1, bt403.1))))) = some (r1, r2, r3, r4, r5) := H
 have A4 := aM A40
 clear A40
 replace H := Option.bind_eq_some_iff.mp H
 obtain ⟨⟨t391, t392, t393⟩, A50, H⟩ := H
 replace H : ((spec_l01PickInt.f t379 t392 t393 (([1, 1, 1, 2, 0, 1000] : List Int))).bind fun bt397 => ((spec_l01PickInt.f t379 bt397.2.1 bt397.2.2 (([5, 10, 12, 15, 20, 0, 20000, 20001, (-1)] : List Int))).bind fun bt403 => (some (t383, t388, t391, bt397.1, bt403.1)))) = some (r1, r2, r3, r4, r5) := H
 have A5 := aM A50
 clear A50
 obtain ⟨y394, hy394⟩ : ∃ y_ : List Int, y_ = (([1, 1, 1, 2, 0, 1000] : List Int)) := ⟨_, rfl⟩
 replace H : ((spec_l01PickInt.f t379 t392 t393 y394).bind fun bt397 => ((spec_l01PickInt.f t379 bt397.2.1 bt397.2.2 (([5, 10, 12, 15, 20, 0, 20000, 20001, (-1)] : List Int))).bind fun bt403 => (some (t383, t388, t391, bt397.1, bt403.1)))) = some (r1, r2, r3, r4, r5) := by first | (rw [hy394]; with_reducible exact H) | (have H2_ := (Option.bind_some _ _).symm.trans H; rw [hy394]; with_reducible exact H2_) | (have H2_ := (Option.bind_some _ _).symm.trans H; with_reducible exact H2_) | with_reducible exact H | (rw [hy394]; exact H) | exact H
 have Ny394 := aM hy394
 clear hy394
 replace H := Option.bind_eq_some_iff.mp H
 obtain ⟨⟨t397, t398, t399⟩, A60, H⟩ := H
 replace H : ((spec_l01PickInt.f t379 t398 t399 (([5, 10, 12, 15, 20, 0, 20000, 20001, (-1)] : List Int))).bind fun bt403 => (some (t383, t388, t391, t397, bt403.1))) = some (r1, r2, r3, r4, r5) := H
 have A6 := aM A60
 clear A60
 obtain ⟨y400, hy400⟩ : ∃ y_ : List Int, y_ = (([5, 10, 12, 15, 20, 0, 20000, 20001, (-1)] : List Int)) := ⟨_, rfl⟩
 replace H : ((spec_l01PickInt.f t379 t398 t399 y400).bind fun bt403 => (some (t383, t388, t391, t397, bt403.1))) = some (r1, r2, r3, r4, r5) := by first | (rw [hy400]; with_reducible exact H) | (have H2_ := (Option.bind_some _ _).symm.trans H; rw [hy400]; with_reducible exact H2_) | (have H2_ := (Option.bind_some _ _).symm.trans H; with_reducible exact H2_) | with_reducible exact H | (rw [hy400]; exact H) | exact H
 have Ny400 := aM hy400
 clear hy400
 replace H := Option.bind_eq_some_iff.mp H
 obtain ⟨⟨t403, t404, t405⟩, A70, H⟩ := H
 replace H : (some (t383, t388, t391, t397, t403)) = some (r1, r2, r3, r4, r5) := H
 have A7 := aM A70
 clear A70
 simp only [Option.some.injEq, Prod.mk.injEq] at H
 obtain ⟨rfl, rfl, rfl, rfl, rfl⟩ := H
 go_enter Try.func69, Try.ntmps69
 go_wp2_with (first | ((with_reducible refine gate_callee (f := 76) rfl ?_); refine goesL_ (some 13) rfl rfl Try.func76 (by kernel_rfl) rfl #[.slice A0 l0.length c0] rfl za ?_; (with_reducible refine (spec_l01New.calls k _ _ l0 t379 t380 t381 w _ ?side1 ?side2 ?side3 A2.out).mono ?_); (case side1 => repeat (first | (with_reducible first | exact HB.out | apply eA | apply eN | apply eD) | exact HB.out)); (case side2 => exact HR0.out); (case side3 => exact HC0.out); rintro e w8 ⟨g382, rfl, hi, hb, hb2⟩; refine ⟨_, rfl, ?_⟩; have n0_ := aM (hb); have n1_ := aM (hi); clear HB; have HB := n0_; have HI382 := n1_; clear n0_ n1_; (try clear hb); (try clear hb2); (try clear hk); (try clear hi)) | ((with_reducible refine gate_callee (f := 79) rfl ?_); refine goesL_ (some 15) rfl rfl Try.func79 (by kernel_rfl) rfl #[.pointer (some ⟨g382, 0, none⟩)] rfl za ?_; (with_reducible refine (spec_l05Any.calls k g382 t379 t380 t381 t383 t386 t387 w _ ?side1 ?side2 A3.out).mono ?_); (case side1 => repeat (first | (with_reducible first | exact HI382.out | apply IsS83.alloc | apply IsS83.drewN | apply IsS83.drew | apply IsS83.set_1 | apply IsS83.set_2) | exact HI382.out)); (case side2 => repeat (first | (with_reducible first | exact HB.out | apply eA | apply eN | apply eD | refine eS ?_ (IsS83.ge HI382.out)) | exact HB.out)); rintro e w9 ⟨v384, rfl, ho0, hi, hb, hk⟩; refine ⟨_, rfl, ?_⟩; have n0_ := aM (Kd.R_lower ho0 (below_size (by repeat (first | (with_reducible first | exact HB.out | apply eA | apply eN | apply eD | refine eS ?_ (IsS83.ge HI382.out)) | exact HB.out)))); have n1_ := aM (hb); have n2_ := aM (hi); clear HB; clear HI382; have HO385 := n0_; have HB := n1_; have HI382 := n2_; clear n0_ n1_ n2_; (try clear hb); (try clear hb2); (try clear hk); (try clear hi); (try clear ho0)) | ((with_reducible refine gate_callee (f := 80) rfl ?_); refine goesL_ (some 17) rfl rfl Try.func80 (by kernel_rfl) rfl #[.pointer (some ⟨g382, 0, none⟩)] rfl za ?_; (with_reducible refine (spec_l05Who.calls g382 t379 t386 t387 t388 t389 t390 w _ ?side1 ?side2 A4.out).mono ?_); (case side1 => repeat (first | (with_reducible first | exact HI382.out | apply IsS83.alloc | apply IsS83.drewN | apply IsS83.drew | apply IsS83.set_1 | apply IsS83.set_2) | exact HI382.out)); (case side2 => repeat (first | (with_reducible first | exact HB.out | apply eA | apply eN | apply eD | refine eS ?_ (IsS83.ge HI382.out)) | exact HB.out)); rintro e w10 ⟨rfl, hi, hb, hk⟩; refine ⟨_, rfl, ?_⟩; have n0_ := aM (Kd.R_mono (Kd.R_keep (IsS83.apart (show IsS83 w _ g382 t379 t386 t387 from by repeat (first | (with_reducible first | exact HI382.out | apply IsS83.alloc | apply IsS83.drewN | apply IsS83.drew | apply IsS83.set_1 | apply IsS83.set_2) | exact HI382.out)) (by (with_reducible repeat (first | apply Kd.R_alloc | apply Kd.R_drewN | apply Kd.R_drew)); exact HO385.out) (by decide)) hk (fun _ h => h.2)) (fun _ h => h.1)); have n1_ := aM (hb); have n2_ := aM (hi); clear HO385; clear HB; clear HI382; have HO385 := n0_; have HB := n1_; have HI382 := n2_; clear n0_ n1_ n2_; (try clear hb); (try clear hb2); (try clear hk); (try clear hi)) | ((with_reducible refine gate_callee (f := 80) rfl ?_); refine goesL_ (some 19) rfl rfl Try.func80 (by kernel_rfl) rfl #[.pointer (some ⟨g382, 0, none⟩)] rfl za ?_; (with_reducible refine (spec_l05Who.calls g382 t379 t389 t390 t391 t392 t393 w _ ?side1 ?side2 A5.out).mono ?_); (case side1 => repeat (first | (with_reducible first | exact HI382.out | apply IsS83.alloc | apply IsS83.drewN | apply IsS83.drew | apply IsS83.set_1 | apply IsS83.set_2) | exact HI382.out)); (case side2 => repeat (first | (with_reducible first | exact HB.out | apply eA | apply eN | apply eD | refine eS ?_ (IsS83.ge HI382.out)) | exact HB.out)); rintro e w11 ⟨rfl, hi, hb, hk⟩; refine ⟨_, rfl, ?_⟩; have n0_ := aM (Kd.R_mono (Kd.R_keep (IsS83.apart (show IsS83 w _ g382 t379 t389 t390 from by repeat (first | (with_reducible first | exact HI382.out | apply IsS83.alloc | apply IsS83.drewN | apply IsS83.drew | apply IsS83.set_1 | apply IsS83.set_2) | exact HI382.out)) (by (with_reducible repeat (first | apply Kd.R_alloc | apply Kd.R_drewN | apply Kd.R_drew)); exact HO385.out) (by decide)) hk (fun _ h => h.2)) (fun _ h => h.1)); have n1_ := aM (hb); have n2_ := aM (hi); clear HO385; clear HB; clear HI382; have HO385 := n0_; have HB := n1_; have HI382 := n2_; clear n0_ n1_ n2_; (try clear hb); (try clear hb2); (try clear hk); (try clear hi)) | ((with_reducible refine gate_dst (N := 21) rfl ?_); refine Kd.R_lit (Kd.int .i64) _ 3 ?hg (N := 21) ?hd (xs := ([1, 1, 1, 2, 0, 1000] : List Int)) (inner := [.int .i64 1, .int .i64 1, .int .i64 1, .int .i64 2, .int .i64 0, .int .i64 1000]) (ok := fun _ => True) (okp := fun _ => True) ?hr ?hp (fun _ hk => hk) trivial (Below.refl _ _) (Nat.le_refl _) (by simp) ?_; (case hd => rfl); (case hg => rfl); (case hr => exact zg); (case hp => exact (Reps.one (show Kd.M (Kd.int .i64) _ _ _ 1 [.int .i64 1] from rfl) (Reps.one (show Kd.M (Kd.int .i64) _ _ _ 1 [.int .i64 1] from rfl) (Reps.one (show Kd.M (Kd.int .i64) _ _ _ 1 [.int .i64 1] from rfl) (Reps.one (show Kd.M (Kd.int .i64) _ _ _ 2 [.int .i64 2] from rfl) (Reps.one (show Kd.M (Kd.int .i64) _ _ _ 0 [.int .i64 0] from rfl) (Reps.one (show Kd.M (Kd.int .i64) _ _ _ 1000 [.int .i64 1000] from rfl) (Reps.none _ _)))))))); intro v395 w12 ho13 hb hg_ hnew_; clear hg_ hnew_; (first | rw [← Ny394.out] at ho13 | (simp only [Int.reduceToNat] at ho13; rw [← Ny394.out] at ho13)); have n0_ := aM (Kd.R_below (by (with_reducible repeat (first | apply Kd.R_alloc | apply Kd.R_drewN | apply Kd.R_drew)); exact HO385.out) hb); have n1_ := aM (Kd.R_lower ho13 (below_size (by repeat (first | (with_reducible first | exact HB.out | apply eA | apply eN | apply eD | refine eS ?_ (IsS83.ge HI382.out)) | exact HB.out)))); have n2_ := aM (IsS83.below (by repeat (first | (with_reducible first | exact HI382.out | apply IsS83.alloc | apply IsS83.drewN | apply IsS83.drew | apply IsS83.set_1 | apply IsS83.set_2) | exact HI382.out)) hb); have n3_ := aM (below_step (by repeat (first | (with_reducible first | exact HB.out | apply eA | apply eN | apply eD | refine eS ?_ (IsS83.ge HI382.out)) | exact HB.out)) hb); clear HO385; clear HI382; clear HB; have HO385 := n0_; have HO396 := n1_; have HI382 := n2_; have HB := n3_; clear n0_ n1_ n2_ n3_; clear hb ho13; obtain ⟨Ao14, co14, eo14⟩ := Kd.R_slice HO396.out; subst eo14) | ((with_reducible refine gate_callee (f := 81) rfl ?_); refine goesL_ (some 22) rfl rfl Try.func81 (by kernel_rfl) rfl #[.pointer (some ⟨g382, 0, none⟩), .slice Ao14 y394.length co14] rfl za ?_; (with_reducible refine (spec_l01PickInt.calls g382 t379 t392 t393 _ _ y394 t397 t398 t399 w _ ?side1 ?side2 ?side3 ?side4 ?side5 A6.out).mono ?_); (case side1 => repeat (first | (with_reducible first | exact HI382.out | apply IsS83.alloc | apply IsS83.drewN | apply IsS83.drew | apply IsS83.set_1 | apply IsS83.set_2) | exact HI382.out)); (case side2 => repeat (first | (with_reducible first | exact HB.out | apply eA | apply eN | apply eD | refine eS ?_ (IsS83.ge HI382.out)) | exact HB.out)); (case side3 => repeat (first | exact (Kd.R_reads' HO396.out).2.2 | (with_reducible refine Kd.C_alloc ?_ _) | (with_reducible refine Kd.C_drewN ?_ _) | (with_reducible refine Kd.C_drew ?_))); (case side4 => exact (Kd.R_reads' HO396.out).2.1); (case side5 => exact far_slice (IsS83.own_ne HI382.out HO396.out (by decide))); rintro e w15 ⟨rfl, hi, hb, hk⟩; refine ⟨_, rfl, ?_⟩; have n0_ := aM (Kd.R_mono (Kd.R_keep (IsS83.apart (show IsS83 w _ g382 t379 t392 t393 from by repeat (first | (with_reducible first | exact HI382.out | apply IsS83.alloc | apply IsS83.drewN | apply IsS83.drew | apply IsS83.set_1 | apply IsS83.set_2) | exact HI382.out)) (by (with_reducible repeat (first | apply Kd.R_alloc | apply Kd.R_drewN | apply Kd.R_drew)); exact HO385.out) (by decide)) hk (fun _ h => h.2)) (fun _ h => h.1)); have n1_ := aM (Kd.R_mono (Kd.R_keep (IsS83.apart (show IsS83 w _ g382 t379 t392 t393 from by repeat (first | (with_reducible first | exact HI382.out | apply IsS83.alloc | apply IsS83.drewN | apply IsS83.drew | apply IsS83.set_1 | apply IsS83.set_2) | exact HI382.out)) (by (with_reducible repeat (first | apply Kd.R_alloc | apply Kd.R_drewN | apply Kd.R_drew)); exact HO396.out) (by decide)) hk (fun _ h => h.2)) (fun _ h => h.1)); have n2_ := aM (hb); have n3_ := aM (hi); clear HO385; clear HO396; clear HB; clear HI382; have HO385 := n0_; have HO396 := n1_; have HB := n2_; have HI382 := n3_; clear n0_ n1_ n2_ n3_; (try clear hb); (try clear hb2); (try clear hk); (try clear hi)) | ((with_reducible refine gate_dst (N := 28) rfl ?_); refine Kd.R_lit (Kd.int .i64) _ 3 ?hg (N := 28) ?hd (xs := ([5, 10, 12, 15, 20, 0, 20000, 20001, (-1)] : List Int)) (inner := [.int .i64 5, .int .i64 10, .int .i64 12, .int .i64 15, .int .i64 20, .int .i64 0, .int .i64 20000, .int .i64 20001, .int .i64 (-1)]) (ok := fun _ => True) (okp := fun _ => True) ?hr ?hp (fun _ hk => hk) trivial (Below.refl _ _) (Nat.le_refl _) (by simp) ?_; (case hd => rfl); (case hg => rfl); (case hr => exact zg); (case hp => exact (Reps.one (show Kd.M (Kd.int .i64) _ _ _ 5 [.int .i64 5] from rfl) (Reps.one (show Kd.M (Kd.int .i64) _ _ _ 10 [.int .i64 10] from rfl) (Reps.one (show Kd.M (Kd.int .i64) _ _ _ 12 [.int .i64 12] from rfl) (Reps.one (show Kd.M (Kd.int .i64) _ _ _ 15 [.int .i64 15] from rfl) (Reps.one (show Kd.M (Kd.int .i64) _ _ _ 20 [.int .i64 20] from rfl) (Reps.one (show Kd.M (Kd.int .i64) _ _ _ 0 [.int .i64 0] from rfl) (Reps.one (show Kd.M (Kd.int .i64) _ _ _ 20000 [.int .i64 20000] from rfl) (Reps.one (show Kd.M (Kd.int .i64) _ _ _ 20001 [.int .i64 20001] from rfl) (Reps.one (show Kd.M (Kd.int .i64) _ _ _ (-1) [.int .i64 (-1)] from rfl) (Reps.none _ _))))))))))); intro v401 w16 ho17 hb hg_ hnew_; clear hg_ hnew_; (first | rw [← Ny400.out] at ho17 | (simp only [Int.reduceToNat] at ho17; rw [← Ny400.out] at ho17)); have n0_ := aM (Kd.R_below (by (with_reducible repeat (first | apply Kd.R_alloc | apply Kd.R_drewN | apply Kd.R_drew)); exact HO385.out) hb); have n1_ := aM (Kd.R_elder' (by (with_reducible repeat (first | apply Kd.R_alloc | apply Kd.R_drewN | apply Kd.R_drew)); exact HO396.out) (Kd.R_base ho17) hb); have n2_ := aM (Kd.R_lower (Kd.R_new' ho17 (Kd.R_lt (by (with_reducible repeat (first | apply Kd.R_alloc | apply Kd.R_drewN | apply Kd.R_drew)); exact HO396.out))) (below_size (by repeat (first | (with_reducible first | exact HB.out | apply eA | apply eN | apply eD | refine eS ?_ (IsS83.ge HI382.out)) | exact HB.out)))); have n3_ := aM (IsS83.below (by repeat (first | (with_reducible first | exact HI382.out | apply IsS83.alloc | apply IsS83.drewN | apply IsS83.drew | apply IsS83.set_1 | apply IsS83.set_2) | exact HI382.out)) hb); have n4_ := aM (below_step (by repeat (first | (with_reducible first | exact HB.out | apply eA | apply eN | apply eD | refine eS ?_ (IsS83.ge HI382.out)) | exact HB.out)) hb); clear HO385; clear HO396; clear HI382; clear HB; have HO385 := n0_; have HO396 := n1_; have HO402 := n2_; have HI382 := n3_; have HB := n4_; clear n0_ n1_ n2_ n3_ n4_; clear hb ho17; obtain ⟨Ao18, co18, eo18⟩ := Kd.R_slice HO402.out; subst eo18) | ((with_reducible refine gate_callee (f := 81) rfl ?_); refine goesL_ (some 29) rfl rfl Try.func81 (by kernel_rfl) rfl #[.pointer (some ⟨g382, 0, none⟩), .slice Ao18 y400.length co18] rfl za ?_; (with_reducible refine (spec_l01PickInt.calls g382 t379 t398 t399 _ _ y400 t403 t404 t405 w _ ?side1 ?side2 ?side3 ?side4 ?side5 A7.out).mono ?_); (case side1 => repeat (first | (with_reducible first | exact HI382.out | apply IsS83.alloc | apply IsS83.drewN | apply IsS83.drew | apply IsS83.set_1 | apply IsS83.set_2) | exact HI382.out)); (case side2 => repeat (first | (with_reducible first | exact HB.out | apply eA | apply eN | apply eD | refine eS ?_ (IsS83.ge HI382.out)) | exact HB.out)); (case side3 => repeat (first | exact (Kd.R_reads' HO402.out).2.2 | (with_reducible refine Kd.C_alloc ?_ _) | (with_reducible refine Kd.C_drewN ?_ _) | (with_reducible refine Kd.C_drew ?_))); (case side4 => exact (Kd.R_reads' HO402.out).2.1); (case side5 => exact far_slice (IsS83.own_ne HI382.out HO402.out (by decide))); rintro e w19 ⟨rfl, hi, hb, hk⟩; refine ⟨_, rfl, ?_⟩; have n0_ := aM (Kd.R_mono (Kd.R_keep (IsS83.apart (show IsS83 w _ g382 t379 t398 t399 from by repeat (first | (with_reducible first | exact HI382.out | apply IsS83.alloc | apply IsS83.drewN | apply IsS83.drew | apply IsS83.set_1 | apply IsS83.set_2) | exact HI382.out)) (by (with_reducible repeat (first | apply Kd.R_alloc | apply Kd.R_drewN | apply Kd.R_drew)); exact HO385.out) (by decide)) hk (fun _ h => h.2)) (fun _ h => h.1)); have n1_ := aM (Kd.R_mono (Kd.R_keep (IsS83.apart (show IsS83 w _ g382 t379 t398 t399 from by repeat (first | (with_reducible first | exact HI382.out | apply IsS83.alloc | apply IsS83.drewN | apply IsS83.drew | apply IsS83.set_1 | apply IsS83.set_2) | exact HI382.out)) (by (with_reducible repeat (first | apply Kd.R_alloc | apply Kd.R_drewN | apply Kd.R_drew)); exact HO396.out) (by decide)) hk (fun _ h => h.2)) (fun _ h => h.1)); have n2_ := aM (Kd.R_mono (Kd.R_keep (IsS83.apart (show IsS83 w _ g382 t379 t398 t399 from by repeat (first | (with_reducible first | exact HI382.out | apply IsS83.alloc | apply IsS83.drewN | apply IsS83.drew | apply IsS83.set_1 | apply IsS83.set_2) | exact HI382.out)) (by (with_reducible repeat (first | apply Kd.R_alloc | apply Kd.R_drewN | apply Kd.R_drew)); exact HO402.out) (by decide)) hk (fun _ h => h.2)) (fun _ h => h.1)); have n3_ := aM (hb); have n4_ := aM (hi); clear HO385; clear HO396; clear HO402; clear HB; clear HI382; have HO385 := n0_; have HO396 := n1_; have HO402 := n2_; have HB := n3_; have HI382 := n4_; clear n0_ n1_ n2_ n3_ n4_; (try clear hb); (try clear hb2); (try clear hk); (try clear hi)))
 refine bodyPost_ret (results_list (rs := [.tmp 2, .tmp 3, .tmp 4, .tmp 5, .tmp 6]) rfl (by simp) (.tmp (.tmp (.tmp (.tmp (.tmp .nil)))))) rfl ?_
 exact ⟨_, zr, by (with_reducible repeat (first | apply Kd.R_alloc | apply Kd.R_drewN | apply Kd.R_drew)); exact HO385.out, by repeat (first | (with_reducible first | exact HB.out | apply eA | apply eN | apply eD | refine eS ?_ (IsS83.ge HI382.out)) | exact HB.out)⟩

/-! ### spec_DrawNeededFor: function 58 -/
def spec_DrawNeededFor.f (k : Nat) (l0 : List Int) : Option ((List (S25)) × Int × Int × Int × Int) := (spec_l05Four.f k l0).bind fun bt406 => (some (bt406.1, bt406.2.1, bt406.2.2.1, bt406.2.2.2.1, bt406.2.2.2.2))
theorem spec_DrawNeededFor.mono : ∀ a0 k, LeO (spec_DrawNeededFor.f k a0) (spec_DrawNeededFor.f (k + 1) a0) := by
 intro a0 k
 unfold spec_DrawNeededFor.f
 repeat' first
   | (with_reducible exact spec_l05Four.mono _ _)
   | (with_reducible exact LeO.refl _)
   | (with_reducible exact LeO.none _)
   | (with_reducible refine LeO.ite ?_ ?_)
   | (with_reducible refine LeO.bind ?_ (fun _ => ?_))
   | exact spec_l05Four.mono _ _
   | exact LeO.none _
   | refine LeO.ite ?_ ?_
   | refine LeO.bind ?_ (fun _ => ?_)
set_option maxHeartbeats 8000000 in
set_option maxRecDepth 100000 in
theorem spec_DrawNeededFor.calls (k : Nat) (A0 : Option Addr) (c0 : Nat) (l0 : List Int) (r1 : List (S25)) (r2 : Int) (r3 : Int) (r4 : Int) (r5 : Int) (w : World) (hr0 : Kd.C (Kd.int .u8) w A0 l0.length l0) (hc0 : l0.length ≤ c0) (h : spec_DrawNeededFor.f k l0 = some (r1, r2, r3, r4, r5)) :
  Calls Try.prog 58 #[.slice A0 l0.length c0] w fun e w' => ∃ v0_ : Value, e = .returned (.tuple #[v0_, .int .i64 r2, .int .i64 r3, .int .i64 r4, .int .i64 r5]) ∧ Kd.R k25 25 w' w.heap.size (fun _ => True) v0_ r1 ∧ Below w.heap.size w w' := by
 have HR0 := aM hr0
 have HC0 := aM hc0
 clear hr0 hc0
 have HB := aM (Below.refl w.heap.size w)
 have H : ((spec_l05Four.f k l0).bind fun bt406 => (some (bt406.1, bt406.2.1, bt406.2.2.1, bt406.2.2.2.1, bt406.2.2.2.2))) = some (r1, r2, r3, r4, r5) := h
 clear h
 replace H := Option.bind_eq_some_iff.mp H
 obtain ⟨⟨t406, t407, t408, t409, t410⟩, A20, H⟩ := H
 replace H : (some (t406, t407, t408, t409, t410)) = some (r1, r2, r3, r4, r5) := H
 have A2 := aM A20
 clear A20
 simp only [Option.some.injEq, Prod.mk.injEq] at H
 obtain ⟨rfl, rfl, rfl, rfl, rfl⟩ := H
 go_enter Try.func58, Try.ntmps58
 go_wp2_with (first | ((with_reducible refine gate_callee (f := 69) rfl ?_); refine goesL_ (some 14) rfl rfl Try.func69 (by kernel_rfl) rfl #[.slice A0 l0.length c0] rfl za ?_; (with_reducible refine (spec_l05Four.calls k _ _ l0 t406 t407 t408 t409 t410 _ ?side1 ?side2 A2.out).mono ?_); (case side1 => repeat (first | exact HR0.out | (with_reducible refine Kd.C_alloc ?_ _) | (with_reducible refine Kd.C_drewN ?_ _) | (with_reducible refine Kd.C_drew ?_))); (case side2 => exact HC0.out); rintro e w3 ⟨v411, rfl, ho0, hb⟩; refine ⟨_, rfl, ?_⟩; have n0_ := aM (Kd.R_lower ho0 (below_size (zb))); have n1_ := aM (below_step (zb) hb); clear HB; have HO412 := n0_; have HB := n1_; clear n0_ n1_; (try clear hb); (try clear hb2); (try clear hk); (try clear hi); (try clear ho0)))
 refine bodyPost_ret (results_list (rs := [.tmp 2, .tmp 3, .tmp 4, .tmp 5, .tmp 6]) rfl (by simp) (.tmp (.tmp (.tmp (.tmp (.tmp .nil)))))) rfl ?_
 exact ⟨_, zr, by (with_reducible repeat (first | apply Kd.R_alloc | apply Kd.R_drewN | apply Kd.R_drew)); exact HO412.out, zb⟩

/-! ### laws_FnRevoking: function 17 -/
mutual
def laws_FnRevoking.l0 : Nat → List (S25) → Int → Int → Int → Int → List Int → List Int → Bool → Int → Option (Bool)
 | 0, _, _, _, _, _, _, _, _, _ => none
 | k + 1, x3, x4, x5, x6, x7, x8, x9, x10, x11 => if x11 < (x8.length : Int) then (if x10 = true then (if 0 ≤ x11 then ((laws_has.f k x9 (rd x8 x11)).bind fun t433 => (if t433 = true then (laws_FnRevoking.l0 k x3 x4 x5 x6 x7 x8 x9 x10 (wrap64 (x11 + 1))) else (none))) else (none)) else (none)) else (laws_FnRevoking.l1 k x3 x4 x5 x6 x7 x8 x10 0)
def laws_FnRevoking.l1 : Nat → List (S25) → Int → Int → Int → Int → List Int → Bool → Int → Option (Bool)
 | 0, _, _, _, _, _, _, _, _ => none
 | k + 1, x3, x4, x5, x6, x7, x8, x10, x12 => if x12 < (x3.length : Int) then (laws_FnRevoking.j2 k x3 x4 x5 x6 x7 x8 x10 x12 (decide (x12 < 12))) else (laws_FnRevoking.j2 k x3 x4 x5 x6 x7 x8 x10 x12 false)
def laws_FnRevoking.j2 : Nat → List (S25) → Int → Int → Int → Int → List Int → Bool → Int → Bool → Option (Bool)
 | 0, _, _, _, _, _, _, _, _, _ => none
 | k + 1, x3, x4, x5, x6, x7, x8, x10, x12, x76 => if x76 = true then ((impl_Revoke.f k x3 x12).bind fun bt434 => ((spec_Revoke.f k x3 x12).bind fun bt438 => (if (bt434.2 != bt438.2) = true then (laws_FnRevoking.j3 k x3 x4 x5 x6 x7 x8 x10 x12 bt434.2 bt438.1 true) else ((laws_sameGrants.f k bt434.1 bt438.1).bind fun t442 => (laws_FnRevoking.j3 k x3 x4 x5 x6 x7 x8 x10 x12 bt434.2 bt438.1 (!t442)))))) else (some (decide ((x8.length : Int) ≤ 6)))
def laws_FnRevoking.j3 : Nat → List (S25) → Int → Int → Int → Int → List Int → Bool → Int → Bool → List (S25) → Bool → Option (Bool)
 | 0, _, _, _, _, _, _, _, _, _, _, _ => none
 | k + 1, x3, x4, x5, x6, x7, x8, x10, x12, x14, x15, x99 => if x99 = true then (none) else ((impl_MayTake.f k x15 x4 x5 x6 x7).bind fun t443 => (if t443 = true then (if x10 = true then (if x14 = true then ((laws_has.f k x8 x12).bind fun t444 => (if (t443 == t444) = true then (none) else (laws_FnRevoking.l1 k x3 x4 x5 x6 x7 x8 x10 (wrap64 (x12 + 1))))) else (laws_FnRevoking.l1 k x3 x4 x5 x6 x7 x8 x10 (wrap64 (x12 + 1)))) else (none)) else (if x14 = true then (if x10 = true then ((laws_has.f k x8 x12).bind fun t445 => (if (t443 == t445) = true then (none) else (laws_FnRevoking.l1 k x3 x4 x5 x6 x7 x8 x10 (wrap64 (x12 + 1))))) else (laws_FnRevoking.l1 k x3 x4 x5 x6 x7 x8 x10 (wrap64 (x12 + 1)))) else (laws_FnRevoking.l1 k x3 x4 x5 x6 x7 x8 x10 (wrap64 (x12 + 1))))))
end
def laws_FnRevoking.f (k : Nat) (l0 : List Int) : Option (Bool) := (laws_big.f l0).bind fun t413 => (if t413 = true then (some true) else ((spec_DrawNeededFor.f k l0).bind fun bt414 => ((impl_NeededFor.f k bt414.1 bt414.2.1 bt414.2.2.1 bt414.2.2.2.1 bt414.2.2.2.2).bind fun t421 => ((spec_NeededFor.f k bt414.1 bt414.2.1 bt414.2.2.1 bt414.2.2.2.1 bt414.2.2.2.2).bind fun t424 => ((laws_sameInts.f k t421 t424).bind fun t427 => (if t427 = true then ((spec_ChainOf.f k bt414.1 bt414.2.1 bt414.2.2.1 bt414.2.2.2.1 bt414.2.2.2.2).bind fun bt428 => (laws_FnRevoking.l0 k bt414.1 bt414.2.1 bt414.2.2.1 bt414.2.2.2.1 bt414.2.2.2.2 t421 bt428.1 bt428.2 0)) else (none)))))))
theorem laws_FnRevoking.mono_l : ∀ k, (∀ y0 y1 y2 y3 y4 y5 y6 y7 y8, LeO (laws_FnRevoking.l0 k y0 y1 y2 y3 y4 y5 y6 y7 y8) (laws_FnRevoking.l0 (k + 1) y0 y1 y2 y3 y4 y5 y6 y7 y8)) ∧ (∀ y0 y1 y2 y3 y4 y5 y6 y7, LeO (laws_FnRevoking.l1 k y0 y1 y2 y3 y4 y5 y6 y7) (laws_FnRevoking.l1 (k + 1) y0 y1 y2 y3 y4 y5 y6 y7)) ∧ (∀ y0 y1 y2 y3 y4 y5 y6 y7 y8, LeO (laws_FnRevoking.j2 k y0 y1 y2 y3 y4 y5 y6 y7 y8) (laws_FnRevoking.j2 (k + 1) y0 y1 y2 y3 y4 y5 y6 y7 y8)) ∧ (∀ y0 y1 y2 y3 y4 y5 y6 y7 y8 y9 y10, LeO (laws_FnRevoking.j3 k y0 y1 y2 y3 y4 y5 y6 y7 y8 y9 y10) (laws_FnRevoking.j3 (k + 1) y0 y1 y2 y3 y4 y5 y6 y7 y8 y9 y10))
 | 0 => ⟨fun _ _ _ _ _ _ _ _ _ r h => by simp [laws_FnRevoking.l0] at h, fun _ _ _ _ _ _ _ _ r h => by simp [laws_FnRevoking.l1] at h, fun _ _ _ _ _ _ _ _ _ r h => by simp [laws_FnRevoking.j2] at h, fun _ _ _ _ _ _ _ _ _ _ _ r h => by simp [laws_FnRevoking.j3] at h⟩
 | k + 1 => by
  obtain ⟨ih0, ih1, ih2, ih3⟩ := laws_FnRevoking.mono_l k
  refine ⟨?_, ?_, ?_, ?_⟩
  ·intro y0 y1 y2 y3 y4 y5 y6 y7 y8
   unfold laws_FnRevoking.l0
   repeat' first
   | (with_reducible exact ih0 _ _ _ _ _ _ _ _ _)
   | (with_reducible exact ih1 _ _ _ _ _ _ _ _)
   | (with_reducible exact ih2 _ _ _ _ _ _ _ _ _)
   | (with_reducible exact ih3 _ _ _ _ _ _ _ _ _ _ _)
   | (with_reducible exact impl_MayTake.mono _ _ _ _ _ _)
   | (with_reducible exact impl_NeededFor.mono _ _ _ _ _ _)
   | (with_reducible exact impl_Revoke.mono _ _ _)
   | (with_reducible exact laws_has.mono _ _ _)
   | (with_reducible exact laws_sameGrants.mono _ _ _)
   | (with_reducible exact laws_sameInts.mono _ _ _)
   | (with_reducible exact spec_ChainOf.mono _ _ _ _ _ _)
   | (with_reducible exact spec_DrawNeededFor.mono _ _)
   | (with_reducible exact spec_NeededFor.mono _ _ _ _ _ _)
   | (with_reducible exact spec_Revoke.mono _ _ _)
   | (with_reducible exact LeO.refl _)
   | (with_reducible exact LeO.none _)
   | (with_reducible refine LeO.ite ?_ ?_)
   | (with_reducible refine LeO.bind ?_ (fun _ => ?_))
   | exact ih0 _ _ _ _ _ _ _ _ _
   | exact ih1 _ _ _ _ _ _ _ _
   | exact ih2 _ _ _ _ _ _ _ _ _
   | exact ih3 _ _ _ _ _ _ _ _ _ _ _
   | exact impl_MayTake.mono _ _ _ _ _ _
   | exact impl_NeededFor.mono _ _ _ _ _ _
   | exact impl_Revoke.mono _ _ _
   | exact laws_has.mono _ _ _
   | exact laws_sameGrants.mono _ _ _
   | exact laws_sameInts.mono _ _ _
   | exact spec_ChainOf.mono _ _ _ _ _ _
   | exact spec_DrawNeededFor.mono _ _
   | exact spec_NeededFor.mono _ _ _ _ _ _
   | exact spec_Revoke.mono _ _ _
   | exact LeO.none _
   | refine LeO.ite ?_ ?_
   | refine LeO.bind ?_ (fun _ => ?_)
  ·intro y0 y1 y2 y3 y4 y5 y6 y7
   unfold laws_FnRevoking.l1
   repeat' first
   | (with_reducible exact ih0 _ _ _ _ _ _ _ _ _)
   | (with_reducible exact ih1 _ _ _ _ _ _ _ _)
   | (with_reducible exact ih2 _ _ _ _ _ _ _ _ _)
   | (with_reducible exact ih3 _ _ _ _ _ _ _ _ _ _ _)
   | (with_reducible exact impl_MayTake.mono _ _ _ _ _ _)
   | (with_reducible exact impl_NeededFor.mono _ _ _ _ _ _)
   | (with_reducible exact impl_Revoke.mono _ _ _)
   | (with_reducible exact laws_has.mono _ _ _)
   | (with_reducible exact laws_sameGrants.mono _ _ _)
   | (with_reducible exact laws_sameInts.mono _ _ _)
   | (with_reducible exact spec_ChainOf.mono _ _ _ _ _ _)
   | (with_reducible exact spec_DrawNeededFor.mono _ _)
   | (with_reducible exact spec_NeededFor.mono _ _ _ _ _ _)
   | (with_reducible exact spec_Revoke.mono _ _ _)
   | (with_reducible exact LeO.refl _)
   | (with_reducible exact LeO.none _)
   | (with_reducible refine LeO.ite ?_ ?_)
   | (with_reducible refine LeO.bind ?_ (fun _ => ?_))
   | exact ih0 _ _ _ _ _ _ _ _ _
   | exact ih1 _ _ _ _ _ _ _ _
   | exact ih2 _ _ _ _ _ _ _ _ _
   | exact ih3 _ _ _ _ _ _ _ _ _ _ _
   | exact impl_MayTake.mono _ _ _ _ _ _
   | exact impl_NeededFor.mono _ _ _ _ _ _
   | exact impl_Revoke.mono _ _ _
   | exact laws_has.mono _ _ _
   | exact laws_sameGrants.mono _ _ _
   | exact laws_sameInts.mono _ _ _
   | exact spec_ChainOf.mono _ _ _ _ _ _
   | exact spec_DrawNeededFor.mono _ _
   | exact spec_NeededFor.mono _ _ _ _ _ _
   | exact spec_Revoke.mono _ _ _
   | exact LeO.none _
   | refine LeO.ite ?_ ?_
   | refine LeO.bind ?_ (fun _ => ?_)
  ·intro y0 y1 y2 y3 y4 y5 y6 y7 y8
   unfold laws_FnRevoking.j2
   repeat' first
   | (with_reducible exact ih0 _ _ _ _ _ _ _ _ _)
   | (with_reducible exact ih1 _ _ _ _ _ _ _ _)
   | (with_reducible exact ih2 _ _ _ _ _ _ _ _ _)
   | (with_reducible exact ih3 _ _ _ _ _ _ _ _ _ _ _)
   | (with_reducible exact impl_MayTake.mono _ _ _ _ _ _)
   | (with_reducible exact impl_NeededFor.mono _ _ _ _ _ _)
   | (with_reducible exact impl_Revoke.mono _ _ _)
   | (with_reducible exact laws_has.mono _ _ _)
   | (with_reducible exact laws_sameGrants.mono _ _ _)
   | (with_reducible exact laws_sameInts.mono _ _ _)
   | (with_reducible exact spec_ChainOf.mono _ _ _ _ _ _)
   | (with_reducible exact spec_DrawNeededFor.mono _ _)
   | (with_reducible exact spec_NeededFor.mono _ _ _ _ _ _)
   | (with_reducible exact spec_Revoke.mono _ _ _)
   | (with_reducible exact LeO.refl _)
   | (with_reducible exact LeO.none _)
   | (with_reducible refine LeO.ite ?_ ?_)
   | (with_reducible refine LeO.bind ?_ (fun _ => ?_))
   | exact ih0 _ _ _ _ _ _ _ _ _
   | exact ih1 _ _ _ _ _ _ _ _
   | exact ih2 _ _ _ _ _ _ _ _ _
   | exact ih3 _ _ _ _ _ _ _ _ _ _ _
   | exact impl_MayTake.mono _ _ _ _ _ _
   | exact impl_NeededFor.mono _ _ _ _ _ _
   | exact impl_Revoke.mono _ _ _
   | exact laws_has.mono _ _ _
   | exact laws_sameGrants.mono _ _ _
   | exact laws_sameInts.mono _ _ _
   | exact spec_ChainOf.mono _ _ _ _ _ _
   | exact spec_DrawNeededFor.mono _ _
   | exact spec_NeededFor.mono _ _ _ _ _ _
   | exact spec_Revoke.mono _ _ _
   | exact LeO.none _
   | refine LeO.ite ?_ ?_
   | refine LeO.bind ?_ (fun _ => ?_)
  ·intro y0 y1 y2 y3 y4 y5 y6 y7 y8 y9 y10
   unfold laws_FnRevoking.j3
   repeat' first
   | (with_reducible exact ih0 _ _ _ _ _ _ _ _ _)
   | (with_reducible exact ih1 _ _ _ _ _ _ _ _)
   | (with_reducible exact ih2 _ _ _ _ _ _ _ _ _)
   | (with_reducible exact ih3 _ _ _ _ _ _ _ _ _ _ _)
   | (with_reducible exact impl_MayTake.mono _ _ _ _ _ _)
   | (with_reducible exact impl_NeededFor.mono _ _ _ _ _ _)
   | (with_reducible exact impl_Revoke.mono _ _ _)
   | (with_reducible exact laws_has.mono _ _ _)
   | (with_reducible exact laws_sameGrants.mono _ _ _)
   | (with_reducible exact laws_sameInts.mono _ _ _)
   | (with_reducible exact spec_ChainOf.mono _ _ _ _ _ _)
   | (with_reducible exact spec_DrawNeededFor.mono _ _)
   | (with_reducible exact spec_NeededFor.mono _ _ _ _ _ _)
   | (with_reducible exact spec_Revoke.mono _ _ _)
   | (with_reducible exact LeO.refl _)
   | (with_reducible exact LeO.none _)
   | (with_reducible refine LeO.ite ?_ ?_)
   | (with_reducible refine LeO.bind ?_ (fun _ => ?_))
   | exact ih0 _ _ _ _ _ _ _ _ _
   | exact ih1 _ _ _ _ _ _ _ _
   | exact ih2 _ _ _ _ _ _ _ _ _
   | exact ih3 _ _ _ _ _ _ _ _ _ _ _
   | exact impl_MayTake.mono _ _ _ _ _ _
   | exact impl_NeededFor.mono _ _ _ _ _ _
   | exact impl_Revoke.mono _ _ _
   | exact laws_has.mono _ _ _
   | exact laws_sameGrants.mono _ _ _
   | exact laws_sameInts.mono _ _ _
   | exact spec_ChainOf.mono _ _ _ _ _ _
   | exact spec_DrawNeededFor.mono _ _
   | exact spec_NeededFor.mono _ _ _ _ _ _
   | exact spec_Revoke.mono _ _ _
   | exact LeO.none _
   | refine LeO.ite ?_ ?_
   | refine LeO.bind ?_ (fun _ => ?_)
theorem laws_FnRevoking.mono : ∀ a0 k, LeO (laws_FnRevoking.f k a0) (laws_FnRevoking.f (k + 1) a0) := by
 intro a0 k
 obtain ⟨ih0, ih1, ih2, ih3⟩ := laws_FnRevoking.mono_l k
 unfold laws_FnRevoking.f
 repeat' first
   | (with_reducible exact ih0 _ _ _ _ _ _ _ _ _)
   | (with_reducible exact ih1 _ _ _ _ _ _ _ _)
   | (with_reducible exact ih2 _ _ _ _ _ _ _ _ _)
   | (with_reducible exact ih3 _ _ _ _ _ _ _ _ _ _ _)
   | (with_reducible exact impl_MayTake.mono _ _ _ _ _ _)
   | (with_reducible exact impl_NeededFor.mono _ _ _ _ _ _)
   | (with_reducible exact impl_Revoke.mono _ _ _)
   | (with_reducible exact laws_has.mono _ _ _)
   | (with_reducible exact laws_sameGrants.mono _ _ _)
   | (with_reducible exact laws_sameInts.mono _ _ _)
   | (with_reducible exact spec_ChainOf.mono _ _ _ _ _ _)
   | (with_reducible exact spec_DrawNeededFor.mono _ _)
   | (with_reducible exact spec_NeededFor.mono _ _ _ _ _ _)
   | (with_reducible exact spec_Revoke.mono _ _ _)
   | (with_reducible exact LeO.refl _)
   | (with_reducible exact LeO.none _)
   | (with_reducible refine LeO.ite ?_ ?_)
   | (with_reducible refine LeO.bind ?_ (fun _ => ?_))
   | exact ih0 _ _ _ _ _ _ _ _ _
   | exact ih1 _ _ _ _ _ _ _ _
   | exact ih2 _ _ _ _ _ _ _ _ _
   | exact ih3 _ _ _ _ _ _ _ _ _ _ _
   | exact impl_MayTake.mono _ _ _ _ _ _
   | exact impl_NeededFor.mono _ _ _ _ _ _
   | exact impl_Revoke.mono _ _ _
   | exact laws_has.mono _ _ _
   | exact laws_sameGrants.mono _ _ _
   | exact laws_sameInts.mono _ _ _
   | exact spec_ChainOf.mono _ _ _ _ _ _
   | exact spec_DrawNeededFor.mono _ _
   | exact spec_NeededFor.mono _ _ _ _ _ _
   | exact spec_Revoke.mono _ _ _
   | exact LeO.none _
   | refine LeO.ite ?_ ?_
   | refine LeO.bind ?_ (fun _ => ?_)
set_option maxHeartbeats 8000000 in
set_option maxRecDepth 100000 in
theorem laws_FnRevoking.calls (k : Nat) (A0 : Option Addr) (c0 : Nat) (l0 : List Int) (r : Bool) (w : World) (hr0 : Kd.C (Kd.int .u8) w A0 l0.length l0) (hc0 : l0.length ≤ c0) (h : laws_FnRevoking.f k l0 = some r) :
  Calls Try.prog 17 #[.slice A0 l0.length c0] w fun e w' => e = .returned (.bool r) ∧ Below w.heap.size w w' := by
 have HR0 := aM hr0
 have HC0 := aM hc0
 clear hr0 hc0
 have HB := aM (Below.refl w.heap.size w)
 have H : ((laws_big.f l0).bind fun t413 => (if t413 = true then (some true) else ((spec_DrawNeededFor.f k l0).bind fun bt414 => ((impl_NeededFor.f k bt414.1 bt414.2.1 bt414.2.2.1 bt414.2.2.2.1 bt414.2.2.2.2).bind fun t421 => ((spec_NeededFor.f k bt414.1 bt414.2.1 bt414.2.2.1 bt414.2.2.2.1 bt414.2.2.2.2).bind fun t424 => ((laws_sameInts.f k t421 t424).bind fun t427 => (if t427 = true then ((spec_ChainOf.f k bt414.1 bt414.2.1 bt414.2.2.1 bt414.2.2.2.1 bt414.2.2.2.2).bind fun bt428 => (laws_FnRevoking.l0 k bt414.1 bt414.2.1 bt414.2.2.1 bt414.2.2.2.1 bt414.2.2.2.2 t421 bt428.1 bt428.2 0)) else (none)))))))) = some r := h
 clear h
 replace H := Option.bind_eq_some_iff.mp H
 obtain ⟨t413, A20, H⟩ := H
 replace H : (if t413 = true then (some true) else ((spec_DrawNeededFor.f k l0).bind fun bt414 => ((impl_NeededFor.f k bt414.1 bt414.2.1 bt414.2.2.1 bt414.2.2.2.1 bt414.2.2.2.2).bind fun t421 => ((spec_NeededFor.f k bt414.1 bt414.2.1 bt414.2.2.1 bt414.2.2.2.1 bt414.2.2.2.2).bind fun t424 => ((laws_sameInts.f k t421 t424).bind fun t427 => (if t427 = true then ((spec_ChainOf.f k bt414.1 bt414.2.1 bt414.2.2.1 bt414.2.2.2.1 bt414.2.2.2.2).bind fun bt428 => (laws_FnRevoking.l0 k bt414.1 bt414.2.1 bt414.2.2.1 bt414.2.2.2.1 bt414.2.2.2.2 t421 bt428.1 bt428.2 0)) else (none))))))) = some r := H
 have A2 := aM A20
 clear A20
 by_cases c3 : t413 = true
 ·subst c3
  have H1 : (some true) = some r := by rw [if_pos rfl] at H; exact H
  clear H
  have H := H1
  clear H1
  obtain rfl := Option.some.inj H
  go_enter Try.func17, Try.ntmps17
  go_wp2_with (first | ((with_reducible refine gate_callee (f := 34) rfl ?_); refine goesL_ (some 19) rfl rfl Try.func34 (by kernel_rfl) rfl #[.slice A0 l0.length c0] rfl za ?_; (with_reducible refine (laws_big.calls _ _ l0 true _ ?side1 ?side2 A2.out).mono ?_); (case side1 => repeat (first | exact HR0.out | (with_reducible refine Kd.C_alloc ?_ _) | (with_reducible refine Kd.C_drewN ?_ _) | (with_reducible refine Kd.C_drew ?_))); (case side2 => exact HC0.out); rintro e w' ⟨rfl, ⟨nd, rfl⟩⟩; refine ⟨_, rfl, ?_⟩))
  go_ret
  exact ⟨zr, zb⟩
 ·replace c3 := Bool.eq_false_iff.mpr c3
  subst c3
  have H1 : ((spec_DrawNeededFor.f k l0).bind fun bt414 => ((impl_NeededFor.f k bt414.1 bt414.2.1 bt414.2.2.1 bt414.2.2.2.1 bt414.2.2.2.2).bind fun t421 => ((spec_NeededFor.f k bt414.1 bt414.2.1 bt414.2.2.1 bt414.2.2.2.1 bt414.2.2.2.2).bind fun t424 => ((laws_sameInts.f k t421 t424).bind fun t427 => (if t427 = true then ((spec_ChainOf.f k bt414.1 bt414.2.1 bt414.2.2.1 bt414.2.2.2.1 bt414.2.2.2.2).bind fun bt428 => (laws_FnRevoking.l0 k bt414.1 bt414.2.1 bt414.2.2.1 bt414.2.2.2.1 bt414.2.2.2.2 t421 bt428.1 bt428.2 0)) else (none)))))) = some r := by rw [if_neg (show ¬ (false = true) by decide)] at H; exact H
  clear H
  have H := H1
  clear H1
  replace H := Option.bind_eq_some_iff.mp H
  obtain ⟨⟨t414, t415, t416, t417, t418⟩, A40, H⟩ := H
  replace H : ((impl_NeededFor.f k t414 t415 t416 t417 t418).bind fun t421 => ((spec_NeededFor.f k t414 t415 t416 t417 t418).bind fun t424 => ((laws_sameInts.f k t421 t424).bind fun t427 => (if t427 = true then ((spec_ChainOf.f k t414 t415 t416 t417 t418).bind fun bt428 => (laws_FnRevoking.l0 k t414 t415 t416 t417 t418 t421 bt428.1 bt428.2 0)) else (none))))) = some r := H
  have A4 := aM A40
  clear A40
  replace H := Option.bind_eq_some_iff.mp H
  obtain ⟨t421, A50, H⟩ := H
  replace H : ((spec_NeededFor.f k t414 t415 t416 t417 t418).bind fun t424 => ((laws_sameInts.f k t421 t424).bind fun t427 => (if t427 = true then ((spec_ChainOf.f k t414 t415 t416 t417 t418).bind fun bt428 => (laws_FnRevoking.l0 k t414 t415 t416 t417 t418 t421 bt428.1 bt428.2 0)) else (none)))) = some r := H
  have A5 := aM A50
  clear A50
  replace H := Option.bind_eq_some_iff.mp H
  obtain ⟨t424, A60, H⟩ := H
  replace H : ((laws_sameInts.f k t421 t424).bind fun t427 => (if t427 = true then ((spec_ChainOf.f k t414 t415 t416 t417 t418).bind fun bt428 => (laws_FnRevoking.l0 k t414 t415 t416 t417 t418 t421 bt428.1 bt428.2 0)) else (none))) = some r := H
  have A6 := aM A60
  clear A60
  replace H := Option.bind_eq_some_iff.mp H
  obtain ⟨t427, A70, H⟩ := H
  replace H : (if t427 = true then ((spec_ChainOf.f k t414 t415 t416 t417 t418).bind fun bt428 => (laws_FnRevoking.l0 k t414 t415 t416 t417 t418 t421 bt428.1 bt428.2 0)) else (none)) = some r := H
  have A7 := aM A70
  clear A70
  by_cases c8 : t427 = true
  ·subst c8
   have H1 : ((spec_ChainOf.f k t414 t415 t416 t417 t418).bind fun bt428 => (laws_FnRevoking.l0 k t414 t415 t416 t417 t418 t421 bt428.1 bt428.2 0)) = some r := by rw [if_pos rfl] at H; exact H
   clear H
   have H := H1
   clear H1
   replace H := Option.bind_eq_some_iff.mp H
   obtain ⟨⟨t428, t429⟩, A90, H⟩ := H
   replace H : (laws_FnRevoking.l0 k t414 t415 t416 t417 t418 t421 t428 t429 0) = some r := H
   have A9 := aM A90
   clear A90
   have H' := aM H
   clear H
   go_enter Try.func17, Try.ntmps17
   go_wp2_with (first | ((with_reducible refine gate_callee (f := 34) rfl ?_); refine goesL_ (some 19) rfl rfl Try.func34 (by kernel_rfl) rfl #[.slice A0 l0.length c0] rfl za ?_; (with_reducible refine (laws_big.calls _ _ l0 false _ ?side1 ?side2 A2.out).mono ?_); (case side1 => repeat (first | exact HR0.out | (with_reducible refine Kd.C_alloc ?_ _) | (with_reducible refine Kd.C_drewN ?_ _) | (with_reducible refine Kd.C_drew ?_))); (case side2 => exact HC0.out); rintro e w' ⟨rfl, ⟨nd, rfl⟩⟩; refine ⟨_, rfl, ?_⟩) | ((with_reducible refine gate_callee (f := 58) rfl ?_); refine goesL_ (some 22) rfl rfl Try.func58 (by kernel_rfl) rfl #[.slice A0 l0.length c0] rfl za ?_; (with_reducible refine (spec_DrawNeededFor.calls k _ _ l0 t414 t415 t416 t417 t418 _ ?side1 ?side2 A4.out).mono ?_); (case side1 => repeat (first | exact HR0.out | (with_reducible refine Kd.C_alloc ?_ _) | (with_reducible refine Kd.C_drewN ?_ _) | (with_reducible refine Kd.C_drew ?_))); (case side2 => exact HC0.out); rintro e w10 ⟨v419, rfl, ho0, hb⟩; refine ⟨_, rfl, ?_⟩; have n0_ := aM (Kd.R_lower ho0 (below_size (zb))); have n1_ := aM (below_step (zb) hb); clear HB; have HO420 := n0_; have HB := n1_; clear n0_ n1_; (try clear hb); (try clear hb2); (try clear hk); (try clear hi); (try clear ho0); obtain ⟨Ao11, co11, eo11⟩ := Kd.R_slice HO420.out; subst eo11) | ((with_reducible refine gate_callee (f := 52) rfl ?_); refine goesL_ (some 33) rfl rfl Try.func52 (by kernel_rfl) rfl #[.slice Ao11 t414.length co11, .int .i64 t415, .int .i64 t416, .int .i64 t417, .int .i64 t418] rfl za ?_; (with_reducible refine (impl_NeededFor.calls k _ _ t414 t415 t416 t417 t418 t421 _ ?side1 ?side2 A5.out).mono ?_); (case side1 => repeat (first | exact (Kd.R_reads' HO420.out).2.2 | (with_reducible refine Kd.C_alloc ?_ _) | (with_reducible refine Kd.C_drewN ?_ _) | (with_reducible refine Kd.C_drew ?_))); (case side2 => exact (Kd.R_reads' HO420.out).2.1); rintro e w12 ⟨v422, rfl, ho0, hb⟩; refine ⟨_, rfl, ?_⟩; have n0_ := aM (Kd.R_below (by (with_reducible repeat (first | apply Kd.R_alloc | apply Kd.R_drewN | apply Kd.R_drew)); exact HO420.out) hb); have n1_ := aM (Kd.R_lower ho0 (below_size (zb))); have n2_ := aM (below_step (zb) hb); clear HO420; clear HB; have HO420 := n0_; have HO423 := n1_; have HB := n2_; clear n0_ n1_ n2_; (try clear hb); (try clear hb2); (try clear hk); (try clear hi); (try clear ho0)) | ((with_reducible refine gate_callee (f := 51) rfl ?_); refine goesL_ (some 40) rfl rfl Try.func51 (by kernel_rfl) rfl #[.slice Ao11 t414.length co11, .int .i64 t415, .int .i64 t416, .int .i64 t417, .int .i64 t418] rfl za ?_; (with_reducible refine (spec_NeededFor.calls k _ _ t414 t415 t416 t417 t418 t424 _ ?side1 ?side2 A6.out).mono ?_); (case side1 => repeat (first | exact (Kd.R_reads' HO420.out).2.2 | (with_reducible refine Kd.C_alloc ?_ _) | (with_reducible refine Kd.C_drewN ?_ _) | (with_reducible refine Kd.C_drew ?_))); (case side2 => exact (Kd.R_reads' HO420.out).2.1); rintro e w13 ⟨v425, rfl, ho0, hb⟩; refine ⟨_, rfl, ?_⟩; have n0_ := aM (Kd.R_below (by (with_reducible repeat (first | apply Kd.R_alloc | apply Kd.R_drewN | apply Kd.R_drew)); exact HO420.out) hb); have n1_ := aM (Kd.R_elder' (by (with_reducible repeat (first | apply Kd.R_alloc | apply Kd.R_drewN | apply Kd.R_drew)); exact HO423.out) (Kd.R_base ho0) hb); have n2_ := aM (Kd.R_lower (Kd.R_new' ho0 (Kd.R_lt (by (with_reducible repeat (first | apply Kd.R_alloc | apply Kd.R_drewN | apply Kd.R_drew)); exact HO423.out))) (below_size (zb))); have n3_ := aM (below_step (zb) hb); clear HO420; clear HO423; clear HB; have HO420 := n0_; have HO423 := n1_; have HO426 := n2_; have HB := n3_; clear n0_ n1_ n2_ n3_; (try clear hb); (try clear hb2); (try clear hk); (try clear hi); (try clear ho0); obtain ⟨Ao14, co14, eo14⟩ := Kd.R_slice HO423.out; subst eo14; obtain ⟨Ao15, co15, eo15⟩ := Kd.R_slice HO426.out; subst eo15) | ((with_reducible refine gate_callee (f := 38) rfl ?_); refine goesL_ (some 41) rfl rfl Try.func38 (by kernel_rfl) rfl #[.slice Ao14 t421.length co14, .slice Ao15 t424.length co15] rfl za ?_; (with_reducible refine (laws_sameInts.calls k _ _ t421 _ _ t424 true _ ?side1 ?side2 ?side3 ?side4 A7.out).mono ?_); (case side1 => repeat (first | exact (Kd.R_reads' HO423.out).2.2 | (with_reducible refine Kd.C_alloc ?_ _) | (with_reducible refine Kd.C_drewN ?_ _) | (with_reducible refine Kd.C_drew ?_))); (case side2 => exact (Kd.R_reads' HO423.out).2.1); (case side3 => repeat (first | exact (Kd.R_reads' HO426.out).2.2 | (with_reducible refine Kd.C_alloc ?_ _) | (with_reducible refine Kd.C_drewN ?_ _) | (with_reducible refine Kd.C_drew ?_))); (case side4 => exact (Kd.R_reads' HO426.out).2.1); rintro e w' ⟨rfl, ⟨nd, rfl⟩⟩; refine ⟨_, rfl, ?_⟩) | ((with_reducible refine gate_callee (f := 37) rfl ?_); refine goesL_ (some 49) rfl rfl Try.func37 (by kernel_rfl) rfl #[.slice Ao11 t414.length co11, .int .i64 t415, .int .i64 t416, .int .i64 t417, .int .i64 t418] rfl za ?_; (with_reducible refine (spec_ChainOf.calls k _ _ t414 t415 t416 t417 t418 t428 t429 _ ?side1 ?side2 A9.out).mono ?_); (case side1 => repeat (first | exact (Kd.R_reads' HO420.out).2.2 | (with_reducible refine Kd.C_alloc ?_ _) | (with_reducible refine Kd.C_drewN ?_ _) | (with_reducible refine Kd.C_drew ?_))); (case side2 => exact (Kd.R_reads' HO420.out).2.1); rintro e w16 ⟨v430, rfl, ho0, hb⟩; refine ⟨_, rfl, ?_⟩; have n0_ := aM (Kd.R_below (by (with_reducible repeat (first | apply Kd.R_alloc | apply Kd.R_drewN | apply Kd.R_drew)); exact HO420.out) hb); have n1_ := aM (Kd.R_elder' (by (with_reducible repeat (first | apply Kd.R_alloc | apply Kd.R_drewN | apply Kd.R_drew)); exact HO423.out) (Kd.R_base ho0) hb); have n2_ := aM (Kd.R_elder' (by (with_reducible repeat (first | apply Kd.R_alloc | apply Kd.R_drewN | apply Kd.R_drew)); exact HO426.out) (Kd.R_base ho0) hb); have n3_ := aM (Kd.R_lower (Kd.R_new' (Kd.R_new' ho0 (Kd.R_lt (by (with_reducible repeat (first | apply Kd.R_alloc | apply Kd.R_drewN | apply Kd.R_drew)); exact HO423.out))) (Kd.R_lt (by (with_reducible repeat (first | apply Kd.R_alloc | apply Kd.R_drewN | apply Kd.R_drew)); exact HO426.out))) (below_size (zb))); have n4_ := aM (below_step (zb) hb); clear HO420; clear HO423; clear HO426; clear HB; have HO420 := n0_; have HO423 := n1_; have HO426 := n2_; have HO431 := n3_; have HB := n4_; clear n0_ n1_ n2_ n3_ n4_; (try clear hb); (try clear hb2); (try clear hk); (try clear hi); (try clear ho0)))
   go_loopg [11] k (fun kq v11 w' => ∃ (x11_1 : Int), v11 = .int .i64 x11_1 ∧ Aside0 (laws_FnRevoking.l0 kq t414 t415 t416 t417 t418 t421 t428 t429 x11_1 = some r) ∧ Aside0 (kq ≤ k) ∧ Aside0 (Kd.R k25 25 w' w.heap.size (fun _ => True) (.slice Ao11 t414.length co11) t414) ∧ Aside0 (Kd.R (Kd.int .i64) 3 w' w.heap.size (fun k_ => some k_ ≠ (v430 : Value).ownBlock) (.slice Ao14 t421.length co14) t421) ∧ Aside0 (Kd.R (Kd.int .i64) 3 w' w.heap.size (fun k_ => some k_ ≠ ((.slice Ao14 t421.length co14) : Value).ownBlock) v430 t428) ∧ Aside0 (Below w.heap.size w w'))
   case atStart => exact ⟨(0), zs, H', ⟨Nat.le_refl _⟩, ⟨by (with_reducible repeat (first | apply Kd.R_alloc | apply Kd.R_drewN | apply Kd.R_drew)); exact HO420.out⟩, ⟨by (with_reducible repeat (first | apply Kd.R_alloc | apply Kd.R_drewN | apply Kd.R_drew)); exact Kd.R_mono HO423.out (fun _ hk => hk.2)⟩, ⟨by (with_reducible repeat (first | apply Kd.R_alloc | apply Kd.R_drewN | apply Kd.R_drew)); exact Kd.R_mono HO431.out (fun _ hk => hk.1.2)⟩, ⟨zb⟩⟩
   case round =>
    clear H'
    try clear c1
    try clear p2
    try clear c3
    try clear c5
    try clear c8
    obtain ⟨x11_1, rfl, HA, HK1, HO_3, HO_8, HO_9, HB⟩ := hrel
    cases gk with
    | zero => exact absurd HA.out (by simp [laws_FnRevoking.l0])
    | succ k1 =>
     have H := HA.out
     clear HA
     simp only [laws_FnRevoking.l0] at H
     by_cases c17 : x11_1 < (t421.length : Int)
     ·rw [if_pos c17] at H
      have c17b0 : decide (x11_1 < (t421.length : Int)) = true := decide_eq_true c17
      clear c17
      by_cases c18 : t429 = true
      ·subst c18
       have H1 : (if 0 ≤ x11_1 then ((laws_has.f k1 t428 (rd t421 x11_1)).bind fun t433 => (if t433 = true then (laws_FnRevoking.l0 k1 t414 t415 t416 t417 t418 t421 t428 true (wrap64 (x11_1 + 1))) else (none))) else (none)) = some r := by rw [if_pos rfl] at H; exact H
       clear H
       have H := H1
       clear H1
       by_cases c19 : 0 ≤ x11_1
       ·rw [if_pos c19] at H
        have c19b0 : decide (0 ≤ x11_1) = true := decide_eq_true c19
        clear c19
        replace H := Option.bind_eq_some_iff.mp H
        obtain ⟨t433, A200, H⟩ := H
        replace H : (if t433 = true then (laws_FnRevoking.l0 k1 t414 t415 t416 t417 t418 t421 t428 true (wrap64 (x11_1 + 1))) else (none)) = some r := H
        have A20 := aM A200
        clear A200
        by_cases c21 : t433 = true
        ·subst c21
         have H1 : (laws_FnRevoking.l0 k1 t414 t415 t416 t417 t418 t421 t428 true (wrap64 (x11_1 + 1))) = some r := by rw [if_pos rfl] at H; exact H
         clear H
         have H := H1
         clear H1
         have H' := aM H
         clear H
         have p432 : 0 ≤ (x11_1 : Int) := of_decide_eq_true (by first | (with_reducible assumption) | assumption)
         have q432 : x11_1 < (t421.length : Int) := of_decide_eq_true (by first | (with_reducible assumption) | assumption)
         obtain ⟨ad432, e432, hx432_0⟩ := Kd.at_int (Kd.R_reads' HO_8.out).2.2 x11_1 p432 q432
         cases e432
         replace p432 := eq_true p432
         replace q432 := eq_true q432
         obtain ⟨Ao22, co22, eo22⟩ := Kd.R_slice HO_9.out
         subst eo22
         go_wp2_with (first | (go_at_call 57; (with_reducible refine (laws_has.calls k1 _ _ t428 (rd t421 x11_1) true _ ?side1 ?side2 A20.out).mono ?_); (case side1 => repeat (first | exact (Kd.R_reads' HO_9.out).2.2 | (with_reducible refine Kd.C_alloc ?_ _) | (with_reducible refine Kd.C_drewN ?_ _) | (with_reducible refine Kd.C_drew ?_))); (case side2 => exact (Kd.R_reads' HO_9.out).2.1); rintro e w' ⟨rfl, ⟨nd, rfl⟩⟩))
         go_roundg k1
         case measure => have := HK1.out; omega
         case rel => exact ⟨(wrap64 (x11_1 + 1)), zs, H', ⟨by have := HK1.out; omega⟩, ⟨by (with_reducible repeat (first | apply Kd.R_alloc | apply Kd.R_drewN | apply Kd.R_drew)); exact HO_3.out⟩, ⟨by (with_reducible repeat (first | apply Kd.R_alloc | apply Kd.R_drewN | apply Kd.R_drew)); exact HO_8.out⟩, ⟨by (with_reducible repeat (first | apply Kd.R_alloc | apply Kd.R_drewN | apply Kd.R_drew)); exact HO_9.out⟩, ⟨zb⟩⟩
        ·replace c21 := Bool.eq_false_iff.mpr c21
         subst c21
         have H1 : (none) = some r := by rw [if_neg (show ¬ (false = true) by decide)] at H; exact H
         clear H
         have H := H1
         clear H1
         exact absurd H (by simp)
       ·rw [if_neg c19] at H
        exact absurd H (by simp)
      ·replace c18 := Bool.eq_false_iff.mpr c18
       subst c18
       have H1 : (none) = some r := by rw [if_neg (show ¬ (false = true) by decide)] at H; exact H
       clear H
       have H := H1
       clear H1
       exact absurd H (by simp)
     ·rw [if_neg c17] at H
      have c17b0 : decide (x11_1 < (t421.length : Int)) = false := decide_eq_false c17
      clear c17
      have H' := aM H
      clear H
      go_wp2
      go_loopg [12] k1 (fun kq v12 w' => ∃ (x12_2 : Int), v12 = .int .i64 x12_2 ∧ Aside0 (laws_FnRevoking.l1 kq t414 t415 t416 t417 t418 t421 t429 x12_2 = some r) ∧ Aside0 (kq ≤ k1) ∧ Aside0 (Kd.R k25 25 w' w.heap.size (fun _ => True) (.slice Ao11 t414.length co11) t414) ∧ Aside0 (Kd.R (Kd.int .i64) 3 w' w.heap.size (fun _ => True) (.slice Ao14 t421.length co14) t421) ∧ Aside0 (Below w.heap.size w w'))
      case atStart => exact ⟨(0), zs, H', ⟨Nat.le_refl _⟩, ⟨by (with_reducible repeat (first | apply Kd.R_alloc | apply Kd.R_drewN | apply Kd.R_drew)); exact HO_3.out⟩, ⟨by (with_reducible repeat (first | apply Kd.R_alloc | apply Kd.R_drewN | apply Kd.R_drew)); exact Kd.R_mono HO_8.out (fun _ hk => trivial)⟩, ⟨zb⟩⟩
      case round =>
       clear H'
       try clear c1
       try clear c2
       try clear p2
       try clear c3
       try clear p4
       try clear q4
       try clear hx4
       try clear c5
       try clear p6
       try clear c8
       try clear c17
       try clear c17b0
       try clear c18
       try clear c19
       try clear c19b0
       try clear c21
       try clear hx432_0
       try clear p2
       try clear p432
       try clear q432
       obtain ⟨x12_2, rfl, HA, HK2, HO_3, HO_8, HB⟩ := hrel
       cases gk with
       | zero => exact absurd HA.out (by simp [laws_FnRevoking.l1])
       | succ k2 =>
        have H := HA.out
        clear HA
        simp only [laws_FnRevoking.l1] at H
        have HC23 := aM H
        clear H
        go_upto_region 14 with (fail)
        go_cut [76] (fun v76 wc => ∃ (kq : Nat) (x76_22 : Bool), v76 = .bool x76_22 ∧ Aside0 (laws_FnRevoking.j2 kq t414 t415 t416 t417 t418 t421 t429 x12_2 x76_22 = some r) ∧ Aside0 (kq ≤ k2) ∧ Aside0 (Kd.R k25 25 wc w.heap.size (fun _ => True) (.slice Ao11 t414.length co11) t414) ∧ Aside0 (Kd.R (Kd.int .i64) 3 wc w.heap.size (fun _ => True) (.slice Ao14 t421.length co14) t421) ∧ Aside0 (Below w.heap.size w wc))
        case first =>
         have H := HC23.out
         clear HC23
         by_cases c24 : x12_2 < (t414.length : Int)
         ·rw [if_pos c24] at H
          have c24b0 : decide (x12_2 < (t414.length : Int)) = true := decide_eq_true c24
          clear c24
          (first | rw [c24b0] | (simp only [i64_w, i32_w]; rw [c24b0]) | skip)
          have H' := aM H
          clear H
          go_wp2
          go_meet
          case rel => exact ⟨_, (decide (x12_2 < 12)), zs, H', ⟨by have := HK1.out; have := HK2.out; first | omega | exact Nat.le_refl _⟩, ⟨by (with_reducible repeat (first | apply Kd.R_alloc | apply Kd.R_drewN | apply Kd.R_drew)); exact HO_3.out⟩, ⟨by (with_reducible repeat (first | apply Kd.R_alloc | apply Kd.R_drewN | apply Kd.R_drew)); exact HO_8.out⟩, ⟨zb⟩⟩
         ·rw [if_neg c24] at H
          have c24b0 : decide (x12_2 < (t414.length : Int)) = false := decide_eq_false c24
          clear c24
          (first | rw [c24b0] | (simp only [i64_w, i32_w]; rw [c24b0]) | skip)
          have H' := aM H
          clear H
          go_wp2
          go_meet
          case rel => exact ⟨_, (false), zs, H', ⟨by have := HK1.out; have := HK2.out; first | omega | exact Nat.le_refl _⟩, ⟨by (with_reducible repeat (first | apply Kd.R_alloc | apply Kd.R_drewN | apply Kd.R_drew)); exact HO_3.out⟩, ⟨by (with_reducible repeat (first | apply Kd.R_alloc | apply Kd.R_drewN | apply Kd.R_drew)); exact HO_8.out⟩, ⟨zb⟩⟩
        case rest =>
         clear HC23
         try clear c1
         try clear c2
         try clear p2
         try clear c3
         try clear p4
         try clear q4
         try clear hx4
         try clear c5
         try clear p6
         try clear c8
         try clear c17
         try clear c17b0
         try clear c18
         try clear c19
         try clear c19b0
         try clear c21
         try clear c24
         try clear c24b0
         try clear hx432_0
         try clear p2
         try clear p4
         try clear p432
         try clear p6
         try clear q4
         try clear q432
         obtain ⟨kq, x76_22, rfl, HA, HJ22, HO_3, HO_8, HB⟩ := hcut
         cases kq with
         | zero => exact absurd HA.out (by simp [laws_FnRevoking.j2])
         | succ kj22 =>
          have H := HA.out
          clear HA
          simp only [laws_FnRevoking.j2] at H
          by_cases c25 : x76_22 = true
          ·subst c25
           have H1 : ((impl_Revoke.f kj22 t414 x12_2).bind fun bt434 => ((spec_Revoke.f kj22 t414 x12_2).bind fun bt438 => (if (bt434.2 != bt438.2) = true then (laws_FnRevoking.j3 kj22 t414 t415 t416 t417 t418 t421 t429 x12_2 bt434.2 bt438.1 true) else ((laws_sameGrants.f kj22 bt434.1 bt438.1).bind fun t442 => (laws_FnRevoking.j3 kj22 t414 t415 t416 t417 t418 t421 t429 x12_2 bt434.2 bt438.1 (!t442)))))) = some r := by rw [if_pos rfl] at H; exact H
           clear H
           have H := H1
           clear H1
           replace H := Option.bind_eq_some_iff.mp H
           obtain ⟨⟨t434, t435⟩, A260, H⟩ := H
           replace H : ((spec_Revoke.f kj22 t414 x12_2).bind fun bt438 => (if (t435 != bt438.2) = true then (laws_FnRevoking.j3 kj22 t414 t415 t416 t417 t418 t421 t429 x12_2 t435 bt438.1 true) else ((laws_sameGrants.f kj22 t434 bt438.1).bind fun t442 => (laws_FnRevoking.j3 kj22 t414 t415 t416 t417 t418 t421 t429 x12_2 t435 bt438.1 (!t442))))) = some r := H
           have A26 := aM A260
           clear A260
           replace H := Option.bind_eq_some_iff.mp H
           obtain ⟨⟨t438, t439⟩, A270, H⟩ := H
           replace H : (if (t435 != t439) = true then (laws_FnRevoking.j3 kj22 t414 t415 t416 t417 t418 t421 t429 x12_2 t435 t438 true) else ((laws_sameGrants.f kj22 t434 t438).bind fun t442 => (laws_FnRevoking.j3 kj22 t414 t415 t416 t417 t418 t421 t429 x12_2 t435 t438 (!t442)))) = some r := H
           have A27 := aM A270
           clear A270
           have HC28 := aM H
           clear H
           go_upto_region 18 with (first | ((with_reducible refine gate_callee (f := 33) rfl ?_); refine goesL_ (some 82) rfl rfl Try.func33 (by kernel_rfl) rfl #[.slice Ao11 t414.length co11, .int .i64 x12_2] rfl za ?_; (with_reducible refine (impl_Revoke.calls kj22 _ _ t414 x12_2 t434 t435 _ ?side1 ?side2 A26.out).mono ?_); (case side1 => repeat (first | exact (Kd.R_reads' HO_3.out).2.2 | (with_reducible refine Kd.C_alloc ?_ _) | (with_reducible refine Kd.C_drewN ?_ _) | (with_reducible refine Kd.C_drew ?_))); (case side2 => exact (Kd.R_reads' HO_3.out).2.1); rintro e w29 ⟨v436, rfl, ho0, hb⟩; refine ⟨_, rfl, ?_⟩; have n0_ := aM (Kd.R_elder' (by (with_reducible repeat (first | apply Kd.R_alloc | apply Kd.R_drewN | apply Kd.R_drew)); exact HO_3.out) (Kd.R_base ho0) hb); have n1_ := aM (Kd.R_below (by (with_reducible repeat (first | apply Kd.R_alloc | apply Kd.R_drewN | apply Kd.R_drew)); exact HO_8.out) hb); have n2_ := aM (Kd.R_lower (Kd.R_new' ho0 (Kd.R_lt (by (with_reducible repeat (first | apply Kd.R_alloc | apply Kd.R_drewN | apply Kd.R_drew)); exact HO_3.out))) (below_size (zb))); have n3_ := aM (below_step (zb) hb); clear HO_3; clear HO_8; clear HB; have HO_3 := n0_; have HO_8 := n1_; have HO437 := n2_; have HB := n3_; clear n0_ n1_ n2_ n3_; (try clear hb); (try clear hb2); (try clear hk); (try clear hi); (try clear ho0)) | ((with_reducible refine gate_callee (f := 32) rfl ?_); refine goesL_ (some 88) rfl rfl Try.func32 (by kernel_rfl) rfl #[.slice Ao11 t414.length co11, .int .i64 x12_2] rfl za ?_; (with_reducible refine (spec_Revoke.calls kj22 _ _ t414 x12_2 t438 t439 _ ?side1 ?side2 A27.out).mono ?_); (case side1 => repeat (first | exact (Kd.R_reads' HO_3.out).2.2 | (with_reducible refine Kd.C_alloc ?_ _) | (with_reducible refine Kd.C_drewN ?_ _) | (with_reducible refine Kd.C_drew ?_))); (case side2 => exact (Kd.R_reads' HO_3.out).2.1); rintro e w30 ⟨v440, rfl, ho0, hb⟩; refine ⟨_, rfl, ?_⟩; have n0_ := aM (Kd.R_elder' (by (with_reducible repeat (first | apply Kd.R_alloc | apply Kd.R_drewN | apply Kd.R_drew)); exact HO_3.out) (Kd.R_base ho0) hb); have n1_ := aM (Kd.R_below (by (with_reducible repeat (first | apply Kd.R_alloc | apply Kd.R_drewN | apply Kd.R_drew)); exact HO_8.out) hb); have n2_ := aM (Kd.R_elder' (by (with_reducible repeat (first | apply Kd.R_alloc | apply Kd.R_drewN | apply Kd.R_drew)); exact HO437.out) (Kd.R_base ho0) hb); have n3_ := aM (Kd.R_lower (Kd.R_new' (Kd.R_new' ho0 (Kd.R_lt (by (with_reducible repeat (first | apply Kd.R_alloc | apply Kd.R_drewN | apply Kd.R_drew)); exact HO_3.out))) (Kd.R_lt (by (with_reducible repeat (first | apply Kd.R_alloc | apply Kd.R_drewN | apply Kd.R_drew)); exact HO437.out))) (below_size (zb))); have n4_ := aM (below_step (zb) hb); clear HO_3; clear HO_8; clear HO437; clear HB; have HO_3 := n0_; have HO_8 := n1_; have HO437 := n2_; have HO441 := n3_; have HB := n4_; clear n0_ n1_ n2_ n3_ n4_; (try clear hb); (try clear hb2); (try clear hk); (try clear hi); (try clear ho0)))
           (try simp only [Act.put, List.setIfInBounds_toArray, List.set_cons_zero, List.set_cons_succ])
           go_cut [99] (fun v99 wc => ∃ (kq : Nat) (x99_27 : Bool), v99 = .bool x99_27 ∧ Aside0 (laws_FnRevoking.j3 kq t414 t415 t416 t417 t418 t421 t429 x12_2 t435 t438 x99_27 = some r) ∧ Aside0 (kq ≤ kj22) ∧ Aside0 (Kd.R k25 25 wc w.heap.size (fun k_ => some k_ ≠ (v440 : Value).ownBlock) (.slice Ao11 t414.length co11) t414) ∧ Aside0 (Kd.R (Kd.int .i64) 3 wc w.heap.size (fun _ => True) (.slice Ao14 t421.length co14) t421) ∧ Aside0 (Kd.R k25 25 wc w.heap.size (fun k_ => some k_ ≠ ((.slice Ao11 t414.length co11) : Value).ownBlock) v440 t438) ∧ Aside0 (Below w.heap.size w wc))
           case first =>
            have H := HC28.out
            clear HC28
            by_cases c31 : (t435 != t439) = true
            ·rw [if_pos c31] at H
             have c31b0 : (t435 != t439) = true := c31
             (try (have c31b1 : decide (t435 = t439) = false := by simpa using c31))
             (try (have c31b2 : (t435 == t439) = false := by simpa using c31))
             (try (have c31b3 : ¬ (t435 = t439) := by simpa using c31))
             clear c31
             (first | rw [c31b0] | (simp only [i64_w, i32_w]; rw [c31b0]) | skip)
             have H' := aM H
             clear H
             go_wp2
             go_meet
             case rel => exact ⟨_, (true), zs, H', ⟨by have := HK1.out; have := HK2.out; have := HJ22.out; first | omega | exact Nat.le_refl _⟩, ⟨by (with_reducible repeat (first | apply Kd.R_alloc | apply Kd.R_drewN | apply Kd.R_drew)); exact Kd.R_mono HO_3.out (fun _ hk => hk.2)⟩, ⟨by (with_reducible repeat (first | apply Kd.R_alloc | apply Kd.R_drewN | apply Kd.R_drew)); exact HO_8.out⟩, ⟨by (with_reducible repeat (first | apply Kd.R_alloc | apply Kd.R_drewN | apply Kd.R_drew)); exact Kd.R_mono HO441.out (fun _ hk => hk.1.2)⟩, ⟨zb⟩⟩
            ·rw [if_neg c31] at H
             have c31b0 : (t435 != t439) = false := by simpa using c31
             (try (have c31b1 : decide (t435 = t439) = true := by simpa using c31))
             (try (have c31b2 : (t435 == t439) = true := by simpa using c31))
             clear c31
             (first | rw [c31b0] | (simp only [i64_w, i32_w]; rw [c31b0]) | skip)
             replace H := Option.bind_eq_some_iff.mp H
             obtain ⟨t442, A320, H⟩ := H
             replace H : (laws_FnRevoking.j3 kj22 t414 t415 t416 t417 t418 t421 t429 x12_2 t435 t438 (!t442)) = some r := H
             have A32 := aM A320
             clear A320
             have H' := aM H
             clear H
             obtain ⟨Ao33, co33, eo33⟩ := Kd.R_slice HO437.out
             subst eo33
             obtain ⟨Ao34, co34, eo34⟩ := Kd.R_slice HO441.out
             subst eo34
             go_wp2_with (first | (go_at_call 55; (with_reducible refine (laws_sameGrants.calls kj22 _ _ t434 _ _ t438 t442 _ ?side1 ?side2 ?side3 ?side4 A32.out).mono ?_); (case side1 => repeat (first | exact (Kd.R_reads' HO437.out).2.2 | (with_reducible refine Kd.C_alloc ?_ _) | (with_reducible refine Kd.C_drewN ?_ _) | (with_reducible refine Kd.C_drew ?_))); (case side2 => exact (Kd.R_reads' HO437.out).2.1); (case side3 => repeat (first | exact (Kd.R_reads' HO441.out).2.2 | (with_reducible refine Kd.C_alloc ?_ _) | (with_reducible refine Kd.C_drewN ?_ _) | (with_reducible refine Kd.C_drew ?_))); (case side4 => exact (Kd.R_reads' HO441.out).2.1); rintro e w' ⟨rfl, ⟨nd, rfl⟩⟩))
             go_meet
             case rel => exact ⟨_, (!t442), zs, H', ⟨by have := HK1.out; have := HK2.out; have := HJ22.out; first | omega | exact Nat.le_refl _⟩, ⟨by (with_reducible repeat (first | apply Kd.R_alloc | apply Kd.R_drewN | apply Kd.R_drew)); exact Kd.R_mono HO_3.out (fun _ hk => hk.2)⟩, ⟨by (with_reducible repeat (first | apply Kd.R_alloc | apply Kd.R_drewN | apply Kd.R_drew)); exact HO_8.out⟩, ⟨by (with_reducible repeat (first | apply Kd.R_alloc | apply Kd.R_drewN | apply Kd.R_drew)); exact Kd.R_mono HO441.out (fun _ hk => hk.1.2)⟩, ⟨zb⟩⟩
           case rest =>
            clear HC28
            try clear c1
            try clear c2
            try clear p2
            try clear c3
            try clear p4
            try clear q4
            try clear hx4
            try clear c5
            try clear p6
            try clear c8
            try clear c17
            try clear c17b0
            try clear c18
            try clear c19
            try clear c19b0
            try clear c21
            try clear c24
            try clear c24b0
            try clear c25
            try clear c31
            try clear c31b0
            try clear c31b1
            try clear c31b2
            try clear c32
            try clear c33
            try clear c34
            try clear hx432_0
            try clear p2
            try clear p4
            try clear p432
            try clear p6
            try clear q4
            try clear q432
            obtain ⟨kq, x99_27, rfl, HA, HJ27, HO_3, HO_8, HO_15, HB⟩ := hcut
            cases kq with
            | zero => exact absurd HA.out (by simp [laws_FnRevoking.j3])
            | succ kj27 =>
             have H := HA.out
             clear HA
             simp only [laws_FnRevoking.j3] at H
             by_cases c35 : x99_27 = true
             ·subst c35
              have H1 : (none) = some r := by rw [if_pos rfl] at H; exact H
              clear H
              have H := H1
              clear H1
              exact absurd H (by simp)
             ·replace c35 := Bool.eq_false_iff.mpr c35
              subst c35
              have H1 : ((impl_MayTake.f kj27 t438 t415 t416 t417 t418).bind fun t443 => (if t443 = true then (if t429 = true then (if t435 = true then ((laws_has.f kj27 t421 x12_2).bind fun t444 => (if (t443 == t444) = true then (none) else (laws_FnRevoking.l1 kj27 t414 t415 t416 t417 t418 t421 t429 (wrap64 (x12_2 + 1))))) else (laws_FnRevoking.l1 kj27 t414 t415 t416 t417 t418 t421 t429 (wrap64 (x12_2 + 1)))) else (none)) else (if t435 = true then (if t429 = true then ((laws_has.f kj27 t421 x12_2).bind fun t445 => (if (t443 == t445) = true then (none) else (laws_FnRevoking.l1 kj27 t414 t415 t416 t417 t418 t421 t429 (wrap64 (x12_2 + 1))))) else (laws_FnRevoking.l1 kj27 t414 t415 t416 t417 t418 t421 t429 (wrap64 (x12_2 + 1)))) else (laws_FnRevoking.l1 kj27 t414 t415 t416 t417 t418 t421 t429 (wrap64 (x12_2 + 1)))))) = some r := by rw [if_neg (show ¬ (false = true) by decide)] at H; exact H
              clear H
              have H := H1
              clear H1
              replace H := Option.bind_eq_some_iff.mp H
              obtain ⟨t443, A360, H⟩ := H
              replace H : (if t443 = true then (if t429 = true then (if t435 = true then ((laws_has.f kj27 t421 x12_2).bind fun t444 => (if (t443 == t444) = true then (none) else (laws_FnRevoking.l1 kj27 t414 t415 t416 t417 t418 t421 t429 (wrap64 (x12_2 + 1))))) else (laws_FnRevoking.l1 kj27 t414 t415 t416 t417 t418 t421 t429 (wrap64 (x12_2 + 1)))) else (none)) else (if t435 = true then (if t429 = true then ((laws_has.f kj27 t421 x12_2).bind fun t445 => (if (t443 == t445) = true then (none) else (laws_FnRevoking.l1 kj27 t414 t415 t416 t417 t418 t421 t429 (wrap64 (x12_2 + 1))))) else (laws_FnRevoking.l1 kj27 t414 t415 t416 t417 t418 t421 t429 (wrap64 (x12_2 + 1)))) else (laws_FnRevoking.l1 kj27 t414 t415 t416 t417 t418 t421 t429 (wrap64 (x12_2 + 1))))) = some r := H
              have A36 := aM A360
              clear A360
              by_cases c37 : t443 = true
              ·subst c37
               have H1 : (if t429 = true then (if t435 = true then ((laws_has.f kj27 t421 x12_2).bind fun t444 => (if (true == t444) = true then (none) else (laws_FnRevoking.l1 kj27 t414 t415 t416 t417 t418 t421 t429 (wrap64 (x12_2 + 1))))) else (laws_FnRevoking.l1 kj27 t414 t415 t416 t417 t418 t421 t429 (wrap64 (x12_2 + 1)))) else (none)) = some r := by rw [if_pos rfl] at H; exact H
               clear H
               have H := H1
               clear H1
               by_cases c38 : t429 = true
               ·subst c38
                have H1 : (if t435 = true then ((laws_has.f kj27 t421 x12_2).bind fun t444 => (if (true == t444) = true then (none) else (laws_FnRevoking.l1 kj27 t414 t415 t416 t417 t418 t421 true (wrap64 (x12_2 + 1))))) else (laws_FnRevoking.l1 kj27 t414 t415 t416 t417 t418 t421 true (wrap64 (x12_2 + 1)))) = some r := by rw [if_pos rfl] at H; exact H
                clear H
                have H := H1
                clear H1
                by_cases c39 : t435 = true
                ·subst c39
                 have H1 : ((laws_has.f kj27 t421 x12_2).bind fun t444 => (if (true == t444) = true then (none) else (laws_FnRevoking.l1 kj27 t414 t415 t416 t417 t418 t421 true (wrap64 (x12_2 + 1))))) = some r := by rw [if_pos rfl] at H; exact H
                 clear H
                 have H := H1
                 clear H1
                 replace H := Option.bind_eq_some_iff.mp H
                 obtain ⟨t444, A400, H⟩ := H
                 replace H : (if (true == t444) = true then (none) else (laws_FnRevoking.l1 kj27 t414 t415 t416 t417 t418 t421 true (wrap64 (x12_2 + 1)))) = some r := H
                 have A40 := aM A400
                 clear A400
                 by_cases c41 : (true == t444) = true
                 ·rw [if_pos c41] at H
                  exact absurd H (by simp)
                 ·rw [if_neg c41] at H
                  have c41b0 : (true == t444) = false := by simpa using c41
                  (try (have c41b1 : decide (true = t444) = false := by simpa using c41))
                  (try (have c41b2 : (true == t444) = false := by simpa using c41))
                  (try (have c41b3 : ¬ (true = t444) := by simpa using c41))
                  clear c41
                  have H' := aM H
                  clear H
                  obtain ⟨Ao42, co42, eo42⟩ := Kd.R_slice HO_15.out
                  subst eo42
                  go_wp2_with (first | ((with_reducible refine gate_callee (f := 39) rfl ?_); refine goesL_ (some 105) rfl rfl Try.func39 (by kernel_rfl) rfl #[.slice Ao42 t438.length co42, .int .i64 t415, .int .i64 t416, .int .i64 t417, .int .i64 t418] rfl za ?_; (with_reducible refine (impl_MayTake.calls kj27 _ _ t438 t415 t416 t417 t418 true _ ?side1 ?side2 A36.out).mono ?_); (case side1 => repeat (first | exact (Kd.R_reads' HO_15.out).2.2 | (with_reducible refine Kd.C_alloc ?_ _) | (with_reducible refine Kd.C_drewN ?_ _) | (with_reducible refine Kd.C_drew ?_))); (case side2 => exact (Kd.R_reads' HO_15.out).2.1); rintro e w43 ⟨rfl, hb⟩; refine ⟨_, rfl, ?_⟩; have n0_ := aM (Kd.R_below (by (with_reducible repeat (first | apply Kd.R_alloc | apply Kd.R_drewN | apply Kd.R_drew)); exact HO_3.out) hb); have n1_ := aM (Kd.R_below (by (with_reducible repeat (first | apply Kd.R_alloc | apply Kd.R_drewN | apply Kd.R_drew)); exact HO_8.out) hb); have n2_ := aM (Kd.R_below (by (with_reducible repeat (first | apply Kd.R_alloc | apply Kd.R_drewN | apply Kd.R_drew)); exact HO_15.out) hb); have n3_ := aM (below_step (zb) hb); clear HO_3; clear HO_8; clear HO_15; clear HB; have HO_3 := n0_; have HO_8 := n1_; have HO_15 := n2_; have HB := n3_; clear n0_ n1_ n2_ n3_; (try clear hb); (try clear hb2); (try clear hk); (try clear hi)) | (go_at_call 57; (with_reducible refine (laws_has.calls kj27 _ _ t421 x12_2 t444 _ ?side1 ?side2 A40.out).mono ?_); (case side1 => repeat (first | exact (Kd.R_reads' HO_8.out).2.2 | (with_reducible refine Kd.C_alloc ?_ _) | (with_reducible refine Kd.C_drewN ?_ _) | (with_reducible refine Kd.C_drew ?_))); (case side2 => exact (Kd.R_reads' HO_8.out).2.1); rintro e w' ⟨rfl, ⟨nd, rfl⟩⟩))
                  go_roundg kj27
                  case measure => have := HK1.out; have := HK2.out; have := HJ22.out; have := HJ27.out; omega
                  case rel => exact ⟨(wrap64 (x12_2 + 1)), zs, H', ⟨by have := HK1.out; have := HK2.out; have := HJ22.out; have := HJ27.out; omega⟩, ⟨by (with_reducible repeat (first | apply Kd.R_alloc | apply Kd.R_drewN | apply Kd.R_drew)); exact Kd.R_mono HO_3.out (fun _ hk => trivial)⟩, ⟨by (with_reducible repeat (first | apply Kd.R_alloc | apply Kd.R_drewN | apply Kd.R_drew)); exact HO_8.out⟩, ⟨zb⟩⟩
                ·replace c39 := Bool.eq_false_iff.mpr c39
                 subst c39
                 have H1 : (laws_FnRevoking.l1 kj27 t414 t415 t416 t417 t418 t421 true (wrap64 (x12_2 + 1))) = some r := by rw [if_neg (show ¬ (false = true) by decide)] at H; exact H
                 clear H
                 have H := H1
                 clear H1
                 have H' := aM H
                 clear H
                 obtain ⟨Ao44, co44, eo44⟩ := Kd.R_slice HO_15.out
                 subst eo44
                 go_wp2_with (first | ((with_reducible refine gate_callee (f := 39) rfl ?_); refine goesL_ (some 105) rfl rfl Try.func39 (by kernel_rfl) rfl #[.slice Ao44 t438.length co44, .int .i64 t415, .int .i64 t416, .int .i64 t417, .int .i64 t418] rfl za ?_; (with_reducible refine (impl_MayTake.calls kj27 _ _ t438 t415 t416 t417 t418 true _ ?side1 ?side2 A36.out).mono ?_); (case side1 => repeat (first | exact (Kd.R_reads' HO_15.out).2.2 | (with_reducible refine Kd.C_alloc ?_ _) | (with_reducible refine Kd.C_drewN ?_ _) | (with_reducible refine Kd.C_drew ?_))); (case side2 => exact (Kd.R_reads' HO_15.out).2.1); rintro e w45 ⟨rfl, hb⟩; refine ⟨_, rfl, ?_⟩; have n0_ := aM (Kd.R_below (by (with_reducible repeat (first | apply Kd.R_alloc | apply Kd.R_drewN | apply Kd.R_drew)); exact HO_3.out) hb); have n1_ := aM (Kd.R_below (by (with_reducible repeat (first | apply Kd.R_alloc | apply Kd.R_drewN | apply Kd.R_drew)); exact HO_8.out) hb); have n2_ := aM (Kd.R_below (by (with_reducible repeat (first | apply Kd.R_alloc | apply Kd.R_drewN | apply Kd.R_drew)); exact HO_15.out) hb); have n3_ := aM (below_step (zb) hb); clear HO_3; clear HO_8; clear HO_15; clear HB; have HO_3 := n0_; have HO_8 := n1_; have HO_15 := n2_; have HB := n3_; clear n0_ n1_ n2_ n3_; (try clear hb); (try clear hb2); (try clear hk); (try clear hi)))
                 go_roundg kj27
                 case measure => have := HK1.out; have := HK2.out; have := HJ22.out; have := HJ27.out; omega
                 case rel => exact ⟨(wrap64 (x12_2 + 1)), zs, H', ⟨by have := HK1.out; have := HK2.out; have := HJ22.out; have := HJ27.out; omega⟩, ⟨by (with_reducible repeat (first | apply Kd.R_alloc | apply Kd.R_drewN | apply Kd.R_drew)); exact Kd.R_mono HO_3.out (fun _ hk => trivial)⟩, ⟨by (with_reducible repeat (first | apply Kd.R_alloc | apply Kd.R_drewN | apply Kd.R_drew)); exact HO_8.out⟩, ⟨zb⟩⟩
               ·replace c38 := Bool.eq_false_iff.mpr c38
                subst c38
                have H1 : (none) = some r := by rw [if_neg (show ¬ (false = true) by decide)] at H; exact H
                clear H
                have H := H1
                clear H1
                exact absurd H (by simp)
              ·replace c37 := Bool.eq_false_iff.mpr c37
               subst c37
               have H1 : (if t435 = true then (if t429 = true then ((laws_has.f kj27 t421 x12_2).bind fun t445 => (if (false == t445) = true then (none) else (laws_FnRevoking.l1 kj27 t414 t415 t416 t417 t418 t421 t429 (wrap64 (x12_2 + 1))))) else (laws_FnRevoking.l1 kj27 t414 t415 t416 t417 t418 t421 t429 (wrap64 (x12_2 + 1)))) else (laws_FnRevoking.l1 kj27 t414 t415 t416 t417 t418 t421 t429 (wrap64 (x12_2 + 1)))) = some r := by rw [if_neg (show ¬ (false = true) by decide)] at H; exact H
               clear H
               have H := H1
               clear H1
               by_cases c46 : t435 = true
               ·subst c46
                have H1 : (if t429 = true then ((laws_has.f kj27 t421 x12_2).bind fun t445 => (if (false == t445) = true then (none) else (laws_FnRevoking.l1 kj27 t414 t415 t416 t417 t418 t421 t429 (wrap64 (x12_2 + 1))))) else (laws_FnRevoking.l1 kj27 t414 t415 t416 t417 t418 t421 t429 (wrap64 (x12_2 + 1)))) = some r := by rw [if_pos rfl] at H; exact H
                clear H
                have H := H1
                clear H1
                by_cases c47 : t429 = true
                ·subst c47
                 have H1 : ((laws_has.f kj27 t421 x12_2).bind fun t445 => (if (false == t445) = true then (none) else (laws_FnRevoking.l1 kj27 t414 t415 t416 t417 t418 t421 true (wrap64 (x12_2 + 1))))) = some r := by rw [if_pos rfl] at H; exact H
                 clear H
                 have H := H1
                 clear H1
                 replace H := Option.bind_eq_some_iff.mp H
                 obtain ⟨t445, A480, H⟩ := H
                 replace H : (if (false == t445) = true then (none) else (laws_FnRevoking.l1 kj27 t414 t415 t416 t417 t418 t421 true (wrap64 (x12_2 + 1)))) = some r := H
                 have A48 := aM A480
                 clear A480
                 by_cases c49 : (false == t445) = true
                 ·rw [if_pos c49] at H
                  exact absurd H (by simp)
                 ·rw [if_neg c49] at H
                  have c49b0 : (false == t445) = false := by simpa using c49
                  (try (have c49b1 : decide (false = t445) = false := by simpa using c49))
                  (try (have c49b2 : (false == t445) = false := by simpa using c49))
                  (try (have c49b3 : ¬ (false = t445) := by simpa using c49))
                  clear c49
                  have H' := aM H
                  clear H
                  obtain ⟨Ao50, co50, eo50⟩ := Kd.R_slice HO_15.out
                  subst eo50
                  go_wp2_with (first | ((with_reducible refine gate_callee (f := 39) rfl ?_); refine goesL_ (some 105) rfl rfl Try.func39 (by kernel_rfl) rfl #[.slice Ao50 t438.length co50, .int .i64 t415, .int .i64 t416, .int .i64 t417, .int .i64 t418] rfl za ?_; (with_reducible refine (impl_MayTake.calls kj27 _ _ t438 t415 t416 t417 t418 false _ ?side1 ?side2 A36.out).mono ?_); (case side1 => repeat (first | exact (Kd.R_reads' HO_15.out).2.2 | (with_reducible refine Kd.C_alloc ?_ _) | (with_reducible refine Kd.C_drewN ?_ _) | (with_reducible refine Kd.C_drew ?_))); (case side2 => exact (Kd.R_reads' HO_15.out).2.1); rintro e w51 ⟨rfl, hb⟩; refine ⟨_, rfl, ?_⟩; have n0_ := aM (Kd.R_below (by (with_reducible repeat (first | apply Kd.R_alloc | apply Kd.R_drewN | apply Kd.R_drew)); exact HO_3.out) hb); have n1_ := aM (Kd.R_below (by (with_reducible repeat (first | apply Kd.R_alloc | apply Kd.R_drewN | apply Kd.R_drew)); exact HO_8.out) hb); have n2_ := aM (Kd.R_below (by (with_reducible repeat (first | apply Kd.R_alloc | apply Kd.R_drewN | apply Kd.R_drew)); exact HO_15.out) hb); have n3_ := aM (below_step (zb) hb); clear HO_3; clear HO_8; clear HO_15; clear HB; have HO_3 := n0_; have HO_8 := n1_; have HO_15 := n2_; have HB := n3_; clear n0_ n1_ n2_ n3_; (try clear hb); (try clear hb2); (try clear hk); (try clear hi)) | (go_at_call 57; (with_reducible refine (laws_has.calls kj27 _ _ t421 x12_2 t445 _ ?side1 ?side2 A48.out).mono ?_); (case side1 => repeat (first | exact (Kd.R_reads' HO_8.out).2.2 | (with_reducible refine Kd.C_alloc ?_ _) | (with_reducible refine Kd.C_drewN ?_ _) | (with_reducible refine Kd.C_drew ?_))); (case side2 => exact (Kd.R_reads' HO_8.out).2.1); rintro e w' ⟨rfl, ⟨nd, rfl⟩⟩))
                  go_roundg kj27
                  case measure => have := HK1.out; have := HK2.out; have := HJ22.out; have := HJ27.out; omega
                  case rel => exact ⟨(wrap64 (x12_2 + 1)), zs, H', ⟨by have := HK1.out; have := HK2.out; have := HJ22.out; have := HJ27.out; omega⟩, ⟨by (with_reducible repeat (first | apply Kd.R_alloc | apply Kd.R_drewN | apply Kd.R_drew)); exact Kd.R_mono HO_3.out (fun _ hk => trivial)⟩, ⟨by (with_reducible repeat (first | apply Kd.R_alloc | apply Kd.R_drewN | apply Kd.R_drew)); exact HO_8.out⟩, ⟨zb⟩⟩
                ·replace c47 := Bool.eq_false_iff.mpr c47
                 subst c47
                 have H1 : (laws_FnRevoking.l1 kj27 t414 t415 t416 t417 t418 t421 false (wrap64 (x12_2 + 1))) = some r := by rw [if_neg (show ¬ (false = true) by decide)] at H; exact H
                 clear H
                 have H := H1
                 clear H1
                 have H' := aM H
                 clear H
                 obtain ⟨Ao52, co52, eo52⟩ := Kd.R_slice HO_15.out
                 subst eo52
                 go_wp2_with (first | ((with_reducible refine gate_callee (f := 39) rfl ?_); refine goesL_ (some 105) rfl rfl Try.func39 (by kernel_rfl) rfl #[.slice Ao52 t438.length co52, .int .i64 t415, .int .i64 t416, .int .i64 t417, .int .i64 t418] rfl za ?_; (with_reducible refine (impl_MayTake.calls kj27 _ _ t438 t415 t416 t417 t418 false _ ?side1 ?side2 A36.out).mono ?_); (case side1 => repeat (first | exact (Kd.R_reads' HO_15.out).2.2 | (with_reducible refine Kd.C_alloc ?_ _) | (with_reducible refine Kd.C_drewN ?_ _) | (with_reducible refine Kd.C_drew ?_))); (case side2 => exact (Kd.R_reads' HO_15.out).2.1); rintro e w53 ⟨rfl, hb⟩; refine ⟨_, rfl, ?_⟩; have n0_ := aM (Kd.R_below (by (with_reducible repeat (first | apply Kd.R_alloc | apply Kd.R_drewN | apply Kd.R_drew)); exact HO_3.out) hb); have n1_ := aM (Kd.R_below (by (with_reducible repeat (first | apply Kd.R_alloc | apply Kd.R_drewN | apply Kd.R_drew)); exact HO_8.out) hb); have n2_ := aM (Kd.R_below (by (with_reducible repeat (first | apply Kd.R_alloc | apply Kd.R_drewN | apply Kd.R_drew)); exact HO_15.out) hb); have n3_ := aM (below_step (zb) hb); clear HO_3; clear HO_8; clear HO_15; clear HB; have HO_3 := n0_; have HO_8 := n1_; have HO_15 := n2_; have HB := n3_; clear n0_ n1_ n2_ n3_; (try clear hb); (try clear hb2); (try clear hk); (try clear hi)))
                 go_roundg kj27
                 case measure => have := HK1.out; have := HK2.out; have := HJ22.out; have := HJ27.out; omega
                 case rel => exact ⟨(wrap64 (x12_2 + 1)), zs, H', ⟨by have := HK1.out; have := HK2.out; have := HJ22.out; have := HJ27.out; omega⟩, ⟨by (with_reducible repeat (first | apply Kd.R_alloc | apply Kd.R_drewN | apply Kd.R_drew)); exact Kd.R_mono HO_3.out (fun _ hk => trivial)⟩, ⟨by (with_reducible repeat (first | apply Kd.R_alloc | apply Kd.R_drewN | apply Kd.R_drew)); exact HO_8.out⟩, ⟨zb⟩⟩
               ·replace c46 := Bool.eq_false_iff.mpr c46
                subst c46
                have H1 : (laws_FnRevoking.l1 kj27 t414 t415 t416 t417 t418 t421 t429 (wrap64 (x12_2 + 1))) = some r := by rw [if_neg (show ¬ (false = true) by decide)] at H; exact H
                clear H
                have H := H1
                clear H1
                have H' := aM H
                clear H
                obtain ⟨Ao54, co54, eo54⟩ := Kd.R_slice HO_15.out
                subst eo54
                go_wp2_with (first | ((with_reducible refine gate_callee (f := 39) rfl ?_); refine goesL_ (some 105) rfl rfl Try.func39 (by kernel_rfl) rfl #[.slice Ao54 t438.length co54, .int .i64 t415, .int .i64 t416, .int .i64 t417, .int .i64 t418] rfl za ?_; (with_reducible refine (impl_MayTake.calls kj27 _ _ t438 t415 t416 t417 t418 false _ ?side1 ?side2 A36.out).mono ?_); (case side1 => repeat (first | exact (Kd.R_reads' HO_15.out).2.2 | (with_reducible refine Kd.C_alloc ?_ _) | (with_reducible refine Kd.C_drewN ?_ _) | (with_reducible refine Kd.C_drew ?_))); (case side2 => exact (Kd.R_reads' HO_15.out).2.1); rintro e w55 ⟨rfl, hb⟩; refine ⟨_, rfl, ?_⟩; have n0_ := aM (Kd.R_below (by (with_reducible repeat (first | apply Kd.R_alloc | apply Kd.R_drewN | apply Kd.R_drew)); exact HO_3.out) hb); have n1_ := aM (Kd.R_below (by (with_reducible repeat (first | apply Kd.R_alloc | apply Kd.R_drewN | apply Kd.R_drew)); exact HO_8.out) hb); have n2_ := aM (Kd.R_below (by (with_reducible repeat (first | apply Kd.R_alloc | apply Kd.R_drewN | apply Kd.R_drew)); exact HO_15.out) hb); have n3_ := aM (below_step (zb) hb); clear HO_3; clear HO_8; clear HO_15; clear HB; have HO_3 := n0_; have HO_8 := n1_; have HO_15 := n2_; have HB := n3_; clear n0_ n1_ n2_ n3_; (try clear hb); (try clear hb2); (try clear hk); (try clear hi)))
                go_roundg kj27
                case measure => have := HK1.out; have := HK2.out; have := HJ22.out; have := HJ27.out; omega
                case rel => exact ⟨(wrap64 (x12_2 + 1)), zs, H', ⟨by have := HK1.out; have := HK2.out; have := HJ22.out; have := HJ27.out; omega⟩, ⟨by (with_reducible repeat (first | apply Kd.R_alloc | apply Kd.R_drewN | apply Kd.R_drew)); exact Kd.R_mono HO_3.out (fun _ hk => trivial)⟩, ⟨by (with_reducible repeat (first | apply Kd.R_alloc | apply Kd.R_drewN | apply Kd.R_drew)); exact HO_8.out⟩, ⟨zb⟩⟩
          ·replace c25 := Bool.eq_false_iff.mpr c25
           subst c25
           have H1 : (some (decide ((t421.length : Int) ≤ 6))) = some r := by rw [if_neg (show ¬ (false = true) by decide)] at H; exact H
           clear H
           have H := H1
           clear H1
           obtain rfl := Option.some.inj H
           go_wp2
           go_ret
           exact ⟨zr, zb⟩
  ·replace c8 := Bool.eq_false_iff.mpr c8
   subst c8
   have H1 : (none) = some r := by rw [if_neg (show ¬ (false = true) by decide)] at H; exact H
   clear H
   have H := H1
   clear H1
   exact absurd H (by simp)

/-- THE ONE PURE STATEMENT of laws_FnRevoking: yours. -/
def laws_FnRevoking.Pure : Prop := ∀ (l0 : List Int), l0.length ≤ maxLen → l0.length * 1 ≤ 140737488351232 → (∀ x ∈ l0, (Lit.int .u8 x).wf = true) → ∃ k, laws_FnRevoking.f k l0 = some true
theorem laws_FnRevoking.walk (P : laws_FnRevoking.Pure) (a0 : Option Addr) (len0 cap0 : Nat) (z0 : List Int) (w : World) (w0 : (a0 = none ∧ len0 = 0 ∧ cap0 = 0 ∧ z0 = []) ∨ ∃ x, a0 = some x ∧ len0 ≤ cap0 ∧ cap0 ≤ maxLen ∧ z0.length = cap0 ∧ (∀ i, i < z0.length → w.cell? (x.add i) = some (.int .u8 (z0.getD i 0))) ∧ ∀ n ∈ z0, (Lit.int .u8 n).wf = true) (y0 : len0 * 1 ≤ 140737488351232) :
  Calls Try.prog 17 #[.slice a0 len0 cap0] w fun e w' => e = .returned (.bool true) ∧ Below w.heap.size w w' := by
 obtain ⟨l0, rfl, hr0, hm0, hw0, hc0⟩ := ReadsInt.ofRowC w0
 obtain ⟨k, h⟩ := P l0 hm0 y0 hw0
 refine (laws_FnRevoking.calls k _ _ l0 true w (Kd.C_of_reads (d := (0 : Int)) (h1 := fun _ => rfl) hr0) hc0 h).mono ?_
 rintro e w' ⟨rfl, hd⟩
 exact ⟨rfl, hd⟩

end Go.Proofs.Ytcpjfkagbnoagaa.QFnRevoking
