-- Printed functions and their walks: by print.py, turned by wip/tools/myprint.py and split4.py.
import Derived.Test.YtglpkjcblpjnoabQFnSignsx12
namespace Go.Proofs.Ytglpkjcblpjnoab.QFnSigns
open Go.RowKit Go.Proofs.YtglpkjcblpjnoabW.PrintWords Go.Proofs.YtglpkjcblpjnoabW.PrintLast Go.Proofs.YtglpkjcblpjnoabW.PrintMore
attribute [local go_sem] max2_int min2_int max_two min_two max_three min_three max_four min_four   -- for this text's walks alone
set_option linter.unusedVariables false
set_option linter.unusedSimpArgs false
attribute [local go_sem high] eqA50

set_option maxHeartbeats 100000000 in
set_option maxRecDepth 100000 in
theorem laws_FnSigns.callsD (k : Nat) (A0 : Option Addr) (c0 : Nat) (l0 : List Int) (r : Bool) (w : World) (hr0 : Kd.C (Kd.int .u8) w A0 l0.length l0) (hc0 : l0.length ≤ c0) (h : laws_FnSigns.f k l0 = some r) (hQ : ∀ bt, spec_DrawSignsOf.f k l0 = some bt → ¬ bt.2.2.2.2.2.1 = 0 ∧ ¬ bt.2.2.2.2.2.2.1 = 1) :
  Calls Try.prog 10 #[.slice A0 l0.length c0] w fun e w' => e = .returned (.bool r) ∧ Below w.heap.size w w' := by
 have hu24 := Try.underlying24
 have hu37 := Try.underlying37
 have hu50 := Try.underlying50
 have HR0 := aM hr0
 have HC0 := aM hc0
 clear hr0 hc0
 have HB := aM (Below.refl w.heap.size w)
 have H : ((laws_big.f l0).bind fun t396 => (if t396 = true then (some true) else ((spec_DrawSignsOf.f k l0).bind fun bt397 => ((impl_SignsOf.f k bt397.1 bt397.2.1 bt397.2.2.1 bt397.2.2.2.1 bt397.2.2.2.2.1 bt397.2.2.2.2.2.1 bt397.2.2.2.2.2.2.1 bt397.2.2.2.2.2.2.2.1 bt397.2.2.2.2.2.2.2.2).bind fun bt408 => ((spec_SignsOf.f k bt397.1 bt397.2.1 bt397.2.2.1 bt397.2.2.2.1 bt397.2.2.2.2.1 bt397.2.2.2.2.2.1 bt397.2.2.2.2.2.2.1 bt397.2.2.2.2.2.2.2.1 bt397.2.2.2.2.2.2.2.2).bind fun bt414 => (if (bt408.2.2.2.2 != bt414.2.2.2.2) = true then (laws_FnSigns.j0 k bt408.2.2.2.2 true bt397.1 bt397.2.1 bt397.2.2.1 bt397.2.2.2.1 bt397.2.2.2.2.1 bt397.2.2.2.2.2.1 bt397.2.2.2.2.2.2.1 bt397.2.2.2.2.2.2.2.1 bt397.2.2.2.2.2.2.2.2 bt408.1 bt408.2.1 bt408.2.2.1 bt408.2.2.2.1) else (if (!(bt408.1 == bt414.1) || (!(bt408.2.1 == bt414.2.1) || (!(bt408.2.2.1 == bt414.2.2.1) || (!(bt408.2.2.2.1 == bt414.2.2.2.1))))) = true then (laws_FnSigns.j0 k bt408.2.2.2.2 true bt397.1 bt397.2.1 bt397.2.2.1 bt397.2.2.2.1 bt397.2.2.2.2.1 bt397.2.2.2.2.2.1 bt397.2.2.2.2.2.2.1 bt397.2.2.2.2.2.2.2.1 bt397.2.2.2.2.2.2.2.2 bt408.1 bt408.2.1 bt408.2.2.1 bt408.2.2.2.1) else ((impl_FaultsOk.f bt397.2.2.2.2.2.1 bt397.2.2.2.2.2.2.1 bt397.2.2.2.2.2.2.2.1 bt397.2.2.2.2.2.2.2.2).bind fun t420 => ((spec_FaultsOk.f bt397.2.2.2.2.2.1 bt397.2.2.2.2.2.2.1 bt397.2.2.2.2.2.2.2.1 bt397.2.2.2.2.2.2.2.2).bind fun t421 => (laws_FnSigns.j0 k bt408.2.2.2.2 (t420 != t421) bt397.1 bt397.2.1 bt397.2.2.1 bt397.2.2.2.1 bt397.2.2.2.2.1 bt397.2.2.2.2.2.1 bt397.2.2.2.2.2.2.1 bt397.2.2.2.2.2.2.2.1 bt397.2.2.2.2.2.2.2.2 bt408.1 bt408.2.1 bt408.2.2.1 bt408.2.2.2.1)))))))))) = some r := h
 clear h
 replace H := Option.bind_eq_some_iff.mp H
 obtain ⟨t396, A20, H⟩ := H
 replace H : (if t396 = true then (some true) else ((spec_DrawSignsOf.f k l0).bind fun bt397 => ((impl_SignsOf.f k bt397.1 bt397.2.1 bt397.2.2.1 bt397.2.2.2.1 bt397.2.2.2.2.1 bt397.2.2.2.2.2.1 bt397.2.2.2.2.2.2.1 bt397.2.2.2.2.2.2.2.1 bt397.2.2.2.2.2.2.2.2).bind fun bt408 => ((spec_SignsOf.f k bt397.1 bt397.2.1 bt397.2.2.1 bt397.2.2.2.1 bt397.2.2.2.2.1 bt397.2.2.2.2.2.1 bt397.2.2.2.2.2.2.1 bt397.2.2.2.2.2.2.2.1 bt397.2.2.2.2.2.2.2.2).bind fun bt414 => (if (bt408.2.2.2.2 != bt414.2.2.2.2) = true then (laws_FnSigns.j0 k bt408.2.2.2.2 true bt397.1 bt397.2.1 bt397.2.2.1 bt397.2.2.2.1 bt397.2.2.2.2.1 bt397.2.2.2.2.2.1 bt397.2.2.2.2.2.2.1 bt397.2.2.2.2.2.2.2.1 bt397.2.2.2.2.2.2.2.2 bt408.1 bt408.2.1 bt408.2.2.1 bt408.2.2.2.1) else (if (!(bt408.1 == bt414.1) || (!(bt408.2.1 == bt414.2.1) || (!(bt408.2.2.1 == bt414.2.2.1) || (!(bt408.2.2.2.1 == bt414.2.2.2.1))))) = true then (laws_FnSigns.j0 k bt408.2.2.2.2 true bt397.1 bt397.2.1 bt397.2.2.1 bt397.2.2.2.1 bt397.2.2.2.2.1 bt397.2.2.2.2.2.1 bt397.2.2.2.2.2.2.1 bt397.2.2.2.2.2.2.2.1 bt397.2.2.2.2.2.2.2.2 bt408.1 bt408.2.1 bt408.2.2.1 bt408.2.2.2.1) else ((impl_FaultsOk.f bt397.2.2.2.2.2.1 bt397.2.2.2.2.2.2.1 bt397.2.2.2.2.2.2.2.1 bt397.2.2.2.2.2.2.2.2).bind fun t420 => ((spec_FaultsOk.f bt397.2.2.2.2.2.1 bt397.2.2.2.2.2.2.1 bt397.2.2.2.2.2.2.2.1 bt397.2.2.2.2.2.2.2.2).bind fun t421 => (laws_FnSigns.j0 k bt408.2.2.2.2 (t420 != t421) bt397.1 bt397.2.1 bt397.2.2.1 bt397.2.2.2.1 bt397.2.2.2.2.1 bt397.2.2.2.2.2.1 bt397.2.2.2.2.2.2.1 bt397.2.2.2.2.2.2.2.1 bt397.2.2.2.2.2.2.2.2 bt408.1 bt408.2.1 bt408.2.2.1 bt408.2.2.2.1))))))))) = some r := H
 have A2 := aM A20
 clear A20
 by_cases c3 : t396 = true
 ·subst c3
  have H1 : (some true) = some r := by rw [if_pos rfl] at H; exact H
  clear H
  have H := H1
  clear H1
  obtain rfl := Option.some.inj H
  go_enter Try.func10, Try.ntmps10
  go_wp2_with (first | ((with_reducible refine gate_callee (f := 26) rfl ?_); refine goesL_ (some 13) rfl rfl Try.func26 (by kernel_rfl) rfl #[.slice A0 l0.length c0] rfl za ?_; (with_reducible refine (laws_big.calls _ _ l0 true _ ?side1 ?side2 A2.out).mono ?_); (case side1 => repeat (first | exact HR0.out | (with_reducible refine Kd.C_alloc ?_ _) | (with_reducible refine Kd.C_drewN ?_ _) | (with_reducible refine Kd.C_drew ?_))); (case side2 => exact HC0.out); rintro e w' ⟨rfl, ⟨nd, rfl⟩⟩; refine ⟨_, rfl, ?_⟩))
  go_ret
  exact ⟨zr, zb⟩
 ·replace c3 := Bool.eq_false_iff.mpr c3
  subst c3
  have H1 : ((spec_DrawSignsOf.f k l0).bind fun bt397 => ((impl_SignsOf.f k bt397.1 bt397.2.1 bt397.2.2.1 bt397.2.2.2.1 bt397.2.2.2.2.1 bt397.2.2.2.2.2.1 bt397.2.2.2.2.2.2.1 bt397.2.2.2.2.2.2.2.1 bt397.2.2.2.2.2.2.2.2).bind fun bt408 => ((spec_SignsOf.f k bt397.1 bt397.2.1 bt397.2.2.1 bt397.2.2.2.1 bt397.2.2.2.2.1 bt397.2.2.2.2.2.1 bt397.2.2.2.2.2.2.1 bt397.2.2.2.2.2.2.2.1 bt397.2.2.2.2.2.2.2.2).bind fun bt414 => (if (bt408.2.2.2.2 != bt414.2.2.2.2) = true then (laws_FnSigns.j0 k bt408.2.2.2.2 true bt397.1 bt397.2.1 bt397.2.2.1 bt397.2.2.2.1 bt397.2.2.2.2.1 bt397.2.2.2.2.2.1 bt397.2.2.2.2.2.2.1 bt397.2.2.2.2.2.2.2.1 bt397.2.2.2.2.2.2.2.2 bt408.1 bt408.2.1 bt408.2.2.1 bt408.2.2.2.1) else (if (!(bt408.1 == bt414.1) || (!(bt408.2.1 == bt414.2.1) || (!(bt408.2.2.1 == bt414.2.2.1) || (!(bt408.2.2.2.1 == bt414.2.2.2.1))))) = true then (laws_FnSigns.j0 k bt408.2.2.2.2 true bt397.1 bt397.2.1 bt397.2.2.1 bt397.2.2.2.1 bt397.2.2.2.2.1 bt397.2.2.2.2.2.1 bt397.2.2.2.2.2.2.1 bt397.2.2.2.2.2.2.2.1 bt397.2.2.2.2.2.2.2.2 bt408.1 bt408.2.1 bt408.2.2.1 bt408.2.2.2.1) else ((impl_FaultsOk.f bt397.2.2.2.2.2.1 bt397.2.2.2.2.2.2.1 bt397.2.2.2.2.2.2.2.1 bt397.2.2.2.2.2.2.2.2).bind fun t420 => ((spec_FaultsOk.f bt397.2.2.2.2.2.1 bt397.2.2.2.2.2.2.1 bt397.2.2.2.2.2.2.2.1 bt397.2.2.2.2.2.2.2.2).bind fun t421 => (laws_FnSigns.j0 k bt408.2.2.2.2 (t420 != t421) bt397.1 bt397.2.1 bt397.2.2.1 bt397.2.2.2.1 bt397.2.2.2.2.1 bt397.2.2.2.2.2.1 bt397.2.2.2.2.2.2.1 bt397.2.2.2.2.2.2.2.1 bt397.2.2.2.2.2.2.2.2 bt408.1 bt408.2.1 bt408.2.2.1 bt408.2.2.2.1)))))))) = some r := by rw [if_neg (show ¬ (false = true) by decide)] at H; exact H
  clear H
  have H := H1
  clear H1
  replace H := Option.bind_eq_some_iff.mp H
  obtain ⟨⟨t397, t398, t399, t400, t401, t402, t403, t404, t405⟩, A40, H⟩ := H
  replace H : ((impl_SignsOf.f k t397 t398 t399 t400 t401 t402 t403 t404 t405).bind fun bt408 => ((spec_SignsOf.f k t397 t398 t399 t400 t401 t402 t403 t404 t405).bind fun bt414 => (if (bt408.2.2.2.2 != bt414.2.2.2.2) = true then (laws_FnSigns.j0 k bt408.2.2.2.2 true t397 t398 t399 t400 t401 t402 t403 t404 t405 bt408.1 bt408.2.1 bt408.2.2.1 bt408.2.2.2.1) else (if (!(bt408.1 == bt414.1) || (!(bt408.2.1 == bt414.2.1) || (!(bt408.2.2.1 == bt414.2.2.1) || (!(bt408.2.2.2.1 == bt414.2.2.2.1))))) = true then (laws_FnSigns.j0 k bt408.2.2.2.2 true t397 t398 t399 t400 t401 t402 t403 t404 t405 bt408.1 bt408.2.1 bt408.2.2.1 bt408.2.2.2.1) else ((impl_FaultsOk.f t402 t403 t404 t405).bind fun t420 => ((spec_FaultsOk.f t402 t403 t404 t405).bind fun t421 => (laws_FnSigns.j0 k bt408.2.2.2.2 (t420 != t421) t397 t398 t399 t400 t401 t402 t403 t404 t405 bt408.1 bt408.2.1 bt408.2.2.1 bt408.2.2.2.1))))))) = some r := H
  have HQ1 : Aside0 (¬ t402 = 0) := aM (hQ _ A40).1
  have HQ2 : Aside0 (¬ t403 = 1) := aM (hQ _ A40).2
  clear hQ
  have A4 := aM A40
  clear A40
  replace H := Option.bind_eq_some_iff.mp H
  obtain ⟨⟨t408, t409, t410, t411, t412⟩, A50, H⟩ := H
  replace H : ((spec_SignsOf.f k t397 t398 t399 t400 t401 t402 t403 t404 t405).bind fun bt414 => (if (t412 != bt414.2.2.2.2) = true then (laws_FnSigns.j0 k t412 true t397 t398 t399 t400 t401 t402 t403 t404 t405 t408 t409 t410 t411) else (if (!(t408 == bt414.1) || (!(t409 == bt414.2.1) || (!(t410 == bt414.2.2.1) || (!(t411 == bt414.2.2.2.1))))) = true then (laws_FnSigns.j0 k t412 true t397 t398 t399 t400 t401 t402 t403 t404 t405 t408 t409 t410 t411) else ((impl_FaultsOk.f t402 t403 t404 t405).bind fun t420 => ((spec_FaultsOk.f t402 t403 t404 t405).bind fun t421 => (laws_FnSigns.j0 k t412 (t420 != t421) t397 t398 t399 t400 t401 t402 t403 t404 t405 t408 t409 t410 t411)))))) = some r := H
  have A5 := aM A50
  clear A50
  replace H := Option.bind_eq_some_iff.mp H
  obtain ⟨⟨t414, t415, t416, t417, t418⟩, A60, H⟩ := H
  replace H : (if (t412 != t418) = true then (laws_FnSigns.j0 k t412 true t397 t398 t399 t400 t401 t402 t403 t404 t405 t408 t409 t410 t411) else (if (!(t408 == t414) || (!(t409 == t415) || (!(t410 == t416) || (!(t411 == t417))))) = true then (laws_FnSigns.j0 k t412 true t397 t398 t399 t400 t401 t402 t403 t404 t405 t408 t409 t410 t411) else ((impl_FaultsOk.f t402 t403 t404 t405).bind fun t420 => ((spec_FaultsOk.f t402 t403 t404 t405).bind fun t421 => (laws_FnSigns.j0 k t412 (t420 != t421) t397 t398 t399 t400 t401 t402 t403 t404 t405 t408 t409 t410 t411))))) = some r := H
  have A6 := aM A60
  clear A60
  have HC7 := aM H
  clear H
  go_enter Try.func10, Try.ntmps10
  go_upto_region 6 with (first | ((with_reducible refine gate_callee (f := 26) rfl ?_); refine goesL_ (some 13) rfl rfl Try.func26 (by kernel_rfl) rfl #[.slice A0 l0.length c0] rfl za ?_; (with_reducible refine (laws_big.calls _ _ l0 false _ ?side1 ?side2 A2.out).mono ?_); (case side1 => repeat (first | exact HR0.out | (with_reducible refine Kd.C_alloc ?_ _) | (with_reducible refine Kd.C_drewN ?_ _) | (with_reducible refine Kd.C_drew ?_))); (case side2 => exact HC0.out); rintro e w' ⟨rfl, ⟨nd, rfl⟩⟩; refine ⟨_, rfl, ?_⟩) | ((with_reducible refine gate_callee (f := 39) rfl ?_); refine goesL_ (some 16) rfl rfl Try.func39 (by kernel_rfl) rfl #[.slice A0 l0.length c0] rfl za ?_; (with_reducible refine (spec_DrawSignsOf.calls k _ _ l0 t397 t398 t399 t400 t401 t402 t403 t404 t405 _ ?side1 ?side2 A4.out).mono ?_); (case side1 => repeat (first | exact HR0.out | (with_reducible refine Kd.C_alloc ?_ _) | (with_reducible refine Kd.C_drewN ?_ _) | (with_reducible refine Kd.C_drew ?_))); (case side2 => exact HC0.out); rintro e w8 ⟨rfl, hb⟩; refine ⟨_, rfl, ?_⟩; have n0_ := aM (below_step (zb) hb); clear HB; have HB := n0_; clear n0_; (try clear hb); (try clear hb2); (try clear hk); (try clear hi)) | ((with_reducible refine gate_dst (N := 3) rfl ?_); refine box_event ?hg (N := 3) ?hd (cs := #[.int .i64 0, .int .i64 0, .bool false, .bool false, .bool false]) (t := 24) ?hr ?_; (case hd => rfl); (case hg => rfl); (case hr => exact zg); intro gb406 hg w9 hbox hb; have n0_ := aM (below_step (zb) hb); have n1_ := aM (hbox); have n2_ := aM ((by rw [hg]; exact (below_size (zb)) : w.heap.size ≤ gb406)); have n3_ := aM ((by rw [hg]; exact (below_size (zb)) : w.heap.size ≤ gb406)); clear HB; have HB := n0_; have BK406 := n1_; have GW406 := n2_; have GE406 := n3_; clear n0_ n1_ n2_ n3_; clear hb hbox hg) | ((with_reducible refine gate_dst (N := 4) rfl ?_); refine box_event ?hg (N := 4) ?hd (cs := #[.int .i64 0, .int .i64 0, .int .i64 0, .int .i64 0]) (t := 37) ?hr ?_; (case hd => rfl); (case hg => rfl); (case hr => exact zg); intro gb407 hg w10 hbox hb; have n0_ := aM (bb BK406.out hb); have n1_ := aM (below_step (zb) hb); have n2_ := aM (hbox); have n3_ := aM ((by rw [hg]; exact (below_size (zb)) : w.heap.size ≤ gb407)); have n4_ := aM ((by rw [hg]; exact (below_size (zb)) : w.heap.size ≤ gb407)); have n5_ := aM ((by rw [hg]; exact Nat.ne_of_lt (nl BK406.out) : gb406 ≠ gb407)); have n6_ := aM ((by rw [hg]; exact Nat.ne_of_gt (nl BK406.out) : gb407 ≠ gb406)); clear BK406; clear HB; have BK406 := n0_; have HB := n1_; have BK407 := n2_; have GW407 := n3_; have GE407 := n4_; have NB406_407 := n5_; have NB407_406 := n6_; clear n0_ n1_ n2_ n3_ n4_ n5_ n6_; clear hb hbox hg; have hnb11 := NB406_407.out; have hnc11 := NB407_406.out; obtain ⟨hcz12_0, hcz12_1, hcz12_2, hcz12_3, hcz12_4, hfz12_0, hfz12_1, hfz12_2, hfz12_3, hfz12_4⟩ := cells5 BK406.out; obtain ⟨hcz13_0, hcz13_1, hcz13_2, hcz13_3, hfz13_0, hfz13_1, hfz13_2, hfz13_3⟩ := cells4 BK407.out) | ((with_reducible refine gate_callee (f := 36) rfl ?_); refine goesL_ (some 22) rfl rfl Try.func36 (by kernel_rfl) rfl #[.agg #[.int .i64 t397, .int .i64 t398, .bool t399, .bool t400, .bool t401], .agg #[.int .i64 t402, .int .i64 t403, .int .i64 t404, .int .i64 t405]] rfl za ?_; (with_reducible refine (impl_SignsOf.calls k t397 t398 t399 t400 t401 t402 t403 t404 t405 t408 t409 t410 t411 t412 _ A5.out).mono ?_); rintro e w14 ⟨rfl, hb⟩; refine ⟨_, rfl, ?_⟩; have n0_ := aM (blk_below (g := gb406) (o := .cells #[.int .i64 t397, .int .i64 t398, .bool t399, .bool t400, .bool t401] 24 (0, 0)) (by refine pq ?_; refine blk_far ?_ NB406_407.out _; refine pq ?_; refine blk_far ?_ NB406_407.out _; refine pq ?_; refine blk_far ?_ NB406_407.out _; refine pq ?_; refine blk_far ?_ NB406_407.out _; refine pq ?_; refine blk_put (cs := #[.int .i64 t397, .int .i64 t398, .bool t399, .bool t400, .bool false]) ?_ 4 _ rfl; refine pq ?_; refine blk_put (cs := #[.int .i64 t397, .int .i64 t398, .bool t399, .bool false, .bool false]) ?_ 3 _ rfl; refine pq ?_; refine blk_put (cs := #[.int .i64 t397, .int .i64 t398, .bool false, .bool false, .bool false]) ?_ 2 _ rfl; refine pq ?_; refine blk_put (cs := #[.int .i64 t397, .int .i64 0, .bool false, .bool false, .bool false]) ?_ 1 _ rfl; refine pq ?_; refine blk_put (cs := #[.int .i64 0, .int .i64 0, .bool false, .bool false, .bool false]) ?_ 0 _ rfl; refine pq ?_; exact BK406.out) hb); have n1_ := aM (blk_below (g := gb407) (o := .cells #[.int .i64 t402, .int .i64 t403, .int .i64 t404, .int .i64 t405] 37 (0, 0)) (by refine pq ?_; refine blk_put (cs := #[.int .i64 t402, .int .i64 t403, .int .i64 t404, .int .i64 0]) ?_ 3 _ rfl; refine pq ?_; refine blk_put (cs := #[.int .i64 t402, .int .i64 t403, .int .i64 0, .int .i64 0]) ?_ 2 _ rfl; refine pq ?_; refine blk_put (cs := #[.int .i64 t402, .int .i64 0, .int .i64 0, .int .i64 0]) ?_ 1 _ rfl; refine pq ?_; refine blk_put (cs := #[.int .i64 0, .int .i64 0, .int .i64 0, .int .i64 0]) ?_ 0 _ rfl; refine pq ?_; refine blk_far ?_ NB407_406.out _; refine pq ?_; refine blk_far ?_ NB407_406.out _; refine pq ?_; refine blk_far ?_ NB407_406.out _; refine pq ?_; refine blk_far ?_ NB407_406.out _; refine pq ?_; refine blk_far ?_ NB407_406.out _; refine pq ?_; exact BK407.out) hb); have n2_ := aM (below_step (zb) hb); clear BK406; clear BK407; clear HB; have BK406 := n0_; have BK407 := n1_; have HB := n2_; clear n0_ n1_ n2_; (try clear hb); (try clear hb2); (try clear hk); (try clear hi)) | ((with_reducible refine gate_dst (N := 5) rfl ?_); refine box_event ?hg (N := 5) ?hd (cs := #[.bool false, .bool false, .bool false, .bool false]) (t := 50) ?hr ?_; (case hd => rfl); (case hg => rfl); (case hr => exact zg); intro gb413 hg w15 hbox hb; have n0_ := aM (bb BK406.out hb); have n1_ := aM (bb BK407.out hb); have n2_ := aM (below_step (zb) hb); have n3_ := aM (hbox); have n4_ := aM ((by rw [hg]; exact (below_size (zb)) : w.heap.size ≤ gb413)); have n5_ := aM ((by rw [hg]; exact (below_size (zb)) : w.heap.size ≤ gb413)); have n6_ := aM ((by rw [hg]; exact Nat.ne_of_lt (nl BK406.out) : gb406 ≠ gb413)); have n7_ := aM ((by rw [hg]; exact Nat.ne_of_gt (nl BK406.out) : gb413 ≠ gb406)); have n8_ := aM ((by rw [hg]; exact Nat.ne_of_lt (nl BK407.out) : gb407 ≠ gb413)); have n9_ := aM ((by rw [hg]; exact Nat.ne_of_gt (nl BK407.out) : gb413 ≠ gb407)); clear BK406; clear BK407; clear HB; have BK406 := n0_; have BK407 := n1_; have HB := n2_; have BK413 := n3_; have GW413 := n4_; have GE413 := n5_; have NB406_413 := n6_; have NB413_406 := n7_; have NB407_413 := n8_; have NB413_407 := n9_; clear n0_ n1_ n2_ n3_ n4_ n5_ n6_ n7_ n8_ n9_; clear hb hbox hg; have hnb16 := NB413_406.out; have hnc16 := NB406_413.out; have hnb17 := NB413_407.out; have hnc17 := NB407_413.out; obtain ⟨hcz18_0, hcz18_1, hcz18_2, hcz18_3, hfz18_0, hfz18_1, hfz18_2, hfz18_3⟩ := cells4 BK413.out; obtain ⟨hcz19_0, hcz19_1, hcz19_2, hcz19_3, hcz19_4, hfz19_0, hfz19_1, hfz19_2, hfz19_3, hfz19_4⟩ := cells5 BK406.out; obtain ⟨hcz20_0, hcz20_1, hcz20_2, hcz20_3, hfz20_0, hfz20_1, hfz20_2, hfz20_3⟩ := cells4 BK407.out) | ((with_reducible refine gate_callee (f := 40) rfl ?_); refine goesL_ (some 28) rfl rfl Try.func40 (by kernel_rfl) rfl #[.agg #[.int .i64 t397, .int .i64 t398, .bool t399, .bool t400, .bool t401], .agg #[.int .i64 t402, .int .i64 t403, .int .i64 t404, .int .i64 t405]] rfl za ?_; (with_reducible refine (spec_SignsOf.calls k t397 t398 t399 t400 t401 t402 t403 t404 t405 t414 t415 t416 t417 t418 _ A6.out).mono ?_); rintro e w21 ⟨rfl, hb⟩; refine ⟨_, rfl, ?_⟩; have n0_ := aM (blk_below (g := gb406) (o := .cells #[.int .i64 t397, .int .i64 t398, .bool t399, .bool t400, .bool t401] 24 (0, 0)) (by refine pq ?_; refine blk_far ?_ NB406_413.out _; refine pq ?_; refine blk_far ?_ NB406_413.out _; refine pq ?_; refine blk_far ?_ NB406_413.out _; refine pq ?_; refine blk_far ?_ NB406_413.out _; refine pq ?_; exact BK406.out) hb); have n1_ := aM (blk_below (g := gb407) (o := .cells #[.int .i64 t402, .int .i64 t403, .int .i64 t404, .int .i64 t405] 37 (0, 0)) (by refine pq ?_; refine blk_far ?_ NB407_413.out _; refine pq ?_; refine blk_far ?_ NB407_413.out _; refine pq ?_; refine blk_far ?_ NB407_413.out _; refine pq ?_; refine blk_far ?_ NB407_413.out _; refine pq ?_; exact BK407.out) hb); have n2_ := aM (blk_below (g := gb413) (o := .cells #[.bool t408, .bool t409, .bool t410, .bool t411] 50 (0, 0)) (by refine pq ?_; refine blk_put (cs := #[.bool t408, .bool t409, .bool t410, .bool false]) ?_ 3 _ rfl; refine pq ?_; refine blk_put (cs := #[.bool t408, .bool t409, .bool false, .bool false]) ?_ 2 _ rfl; refine pq ?_; refine blk_put (cs := #[.bool t408, .bool false, .bool false, .bool false]) ?_ 1 _ rfl; refine pq ?_; refine blk_put (cs := #[.bool false, .bool false, .bool false, .bool false]) ?_ 0 _ rfl; refine pq ?_; exact BK413.out) hb); have n3_ := aM (below_step (zb) hb); clear BK406; clear BK407; clear BK413; clear HB; have BK406 := n0_; have BK407 := n1_; have BK413 := n2_; have HB := n3_; clear n0_ n1_ n2_ n3_; (try clear hb); (try clear hb2); (try clear hk); (try clear hi)) | ((with_reducible refine gate_dst (N := 7) rfl ?_); refine box_event ?hg (N := 7) ?hd (cs := #[.bool false, .bool false, .bool false, .bool false]) (t := 50) ?hr ?_; (case hd => rfl); (case hg => rfl); (case hr => exact zg); intro gb419 hg w22 hbox hb; have n0_ := aM (bb BK406.out hb); have n1_ := aM (bb BK407.out hb); have n2_ := aM (bb BK413.out hb); have n3_ := aM (below_step (zb) hb); have n4_ := aM (hbox); have n5_ := aM ((by rw [hg]; exact (below_size (zb)) : w.heap.size ≤ gb419)); have n6_ := aM ((by rw [hg]; exact (below_size (zb)) : w.heap.size ≤ gb419)); have n7_ := aM ((by rw [hg]; exact Nat.ne_of_lt (nl BK406.out) : gb406 ≠ gb419)); have n8_ := aM ((by rw [hg]; exact Nat.ne_of_gt (nl BK406.out) : gb419 ≠ gb406)); have n9_ := aM ((by rw [hg]; exact Nat.ne_of_lt (nl BK407.out) : gb407 ≠ gb419)); have n10_ := aM ((by rw [hg]; exact Nat.ne_of_gt (nl BK407.out) : gb419 ≠ gb407)); have n11_ := aM ((by rw [hg]; exact Nat.ne_of_lt (nl BK413.out) : gb413 ≠ gb419)); have n12_ := aM ((by rw [hg]; exact Nat.ne_of_gt (nl BK413.out) : gb419 ≠ gb413)); clear BK406; clear BK407; clear BK413; clear HB; have BK406 := n0_; have BK407 := n1_; have BK413 := n2_; have HB := n3_; have BK419 := n4_; have GW419 := n5_; have GE419 := n6_; have NB406_419 := n7_; have NB419_406 := n8_; have NB407_419 := n9_; have NB419_407 := n10_; have NB413_419 := n11_; have NB419_413 := n12_; clear n0_ n1_ n2_ n3_ n4_ n5_ n6_ n7_ n8_ n9_ n10_ n11_ n12_; clear hb hbox hg; have hnb23 := NB419_406.out; have hnc23 := NB406_419.out; have hnb24 := NB419_407.out; have hnc24 := NB407_419.out; have hnb25 := NB419_413.out; have hnc25 := NB413_419.out; obtain ⟨hcz26_0, hcz26_1, hcz26_2, hcz26_3, hfz26_0, hfz26_1, hfz26_2, hfz26_3⟩ := cells4 BK419.out))
  (try simp only [Act.put, List.setIfInBounds_toArray, List.set_cons_zero, List.set_cons_succ])
  go_cut [45] (fun v45 wc => ∃ (kq : Nat) (x45_6 : Bool), v45 = .bool x45_6 ∧ Aside0 (laws_FnSigns.j0 kq t412 x45_6 t397 t398 t399 t400 t401 t402 t403 t404 t405 t408 t409 t410 t411 = some r) ∧ Aside0 (kq ≤ k) ∧ Aside0 (wc.heap[gb406]? = some (.cells #[.int .i64 t397, .int .i64 t398, .bool t399, .bool t400, .bool t401] 24 (0, 0))) ∧ Aside0 (wc.heap[gb407]? = some (.cells #[.int .i64 t402, .int .i64 t403, .int .i64 t404, .int .i64 t405] 37 (0, 0))) ∧ Aside0 (wc.heap[gb413]? = some (.cells #[.bool t408, .bool t409, .bool t410, .bool t411] 50 (0, 0))) ∧ Aside0 (wc.heap[gb419]? = some (.cells #[.bool t414, .bool t415, .bool t416, .bool t417] 50 (0, 0))) ∧ Aside0 (Below w.heap.size w wc))
  case first =>
   have H := HC7.out
   clear HC7
   by_cases c27 : (t412 != t418) = true
   ·rw [if_pos c27] at H
    have c27b0 : (t412 != t418) = true := c27
    (try (have c27b1 : decide (t412 = t418) = false := by simpa using c27))
    (try (have c27b2 : (t412 == t418) = false := by simpa using c27))
    (try (have c27b3 : ¬ (t412 = t418) := by simpa using c27))
    clear c27
    (first | rw [c27b0] | (simp only [i64_w, i32_w]; rw [c27b0]) | skip)
    have H' := aM H
    clear H
    try go_wp2
    have n0_ : Aside0 (((((w22.setCell ⟨gb419, 0, none⟩ (.bool t414)).setCell ⟨gb419, 1, none⟩ (.bool t415)).setCell ⟨gb419, 2, none⟩ (.bool t416)).setCell ⟨gb419, 3, none⟩ (.bool t417)).heap[gb406]? = some (.cells #[.int .i64 t397, .int .i64 t398, .bool t399, .bool t400, .bool t401] 24 (0, 0))) := ⟨by refine pq ?_; refine blk_far ?_ NB406_419.out _; refine pq ?_; refine blk_far ?_ NB406_419.out _; refine pq ?_; refine blk_far ?_ NB406_419.out _; refine pq ?_; refine blk_far ?_ NB406_419.out _; refine pq ?_; exact BK406.out⟩
    have n1_ : Aside0 (((((w22.setCell ⟨gb419, 0, none⟩ (.bool t414)).setCell ⟨gb419, 1, none⟩ (.bool t415)).setCell ⟨gb419, 2, none⟩ (.bool t416)).setCell ⟨gb419, 3, none⟩ (.bool t417)).heap[gb407]? = some (.cells #[.int .i64 t402, .int .i64 t403, .int .i64 t404, .int .i64 t405] 37 (0, 0))) := ⟨by refine pq ?_; refine blk_far ?_ NB407_419.out _; refine pq ?_; refine blk_far ?_ NB407_419.out _; refine pq ?_; refine blk_far ?_ NB407_419.out _; refine pq ?_; refine blk_far ?_ NB407_419.out _; refine pq ?_; exact BK407.out⟩
    have n2_ : Aside0 (((((w22.setCell ⟨gb419, 0, none⟩ (.bool t414)).setCell ⟨gb419, 1, none⟩ (.bool t415)).setCell ⟨gb419, 2, none⟩ (.bool t416)).setCell ⟨gb419, 3, none⟩ (.bool t417)).heap[gb413]? = some (.cells #[.bool t408, .bool t409, .bool t410, .bool t411] 50 (0, 0))) := ⟨by refine pq ?_; refine blk_far ?_ NB413_419.out _; refine pq ?_; refine blk_far ?_ NB413_419.out _; refine pq ?_; refine blk_far ?_ NB413_419.out _; refine pq ?_; refine blk_far ?_ NB413_419.out _; refine pq ?_; exact BK413.out⟩
    have n3_ : Aside0 (((((w22.setCell ⟨gb419, 0, none⟩ (.bool t414)).setCell ⟨gb419, 1, none⟩ (.bool t415)).setCell ⟨gb419, 2, none⟩ (.bool t416)).setCell ⟨gb419, 3, none⟩ (.bool t417)).heap[gb419]? = some (.cells #[.bool t414, .bool t415, .bool t416, .bool t417] 50 (0, 0))) := ⟨by refine pq ?_; refine blk_put (cs := #[.bool t414, .bool t415, .bool t416, .bool false]) ?_ 3 _ rfl; refine pq ?_; refine blk_put (cs := #[.bool t414, .bool t415, .bool false, .bool false]) ?_ 2 _ rfl; refine pq ?_; refine blk_put (cs := #[.bool t414, .bool false, .bool false, .bool false]) ?_ 1 _ rfl; refine pq ?_; refine blk_put (cs := #[.bool false, .bool false, .bool false, .bool false]) ?_ 0 _ rfl; refine pq ?_; exact BK419.out⟩
    have n4_ : Aside0 (Below w.heap.size w ((((w22.setCell ⟨gb419, 0, none⟩ (.bool t414)).setCell ⟨gb419, 1, none⟩ (.bool t415)).setCell ⟨gb419, 2, none⟩ (.bool t416)).setCell ⟨gb419, 3, none⟩ (.bool t417))) := ⟨zb⟩
    (try clear BK406)
    (try clear BK407)
    (try clear BK413)
    (try clear BK419)
    (try clear HB)
    generalize ((((w22.setCell ⟨gb419, 0, none⟩ (.bool t414)).setCell ⟨gb419, 1, none⟩ (.bool t415)).setCell ⟨gb419, 2, none⟩ (.bool t416)).setCell ⟨gb419, 3, none⟩ (.bool t417)) = w28 at n0_ n1_ n2_ n3_ n4_ ⊢
    have BK406 := n0_
    have BK407 := n1_
    have BK413 := n2_
    have BK419 := n3_
    have HB := n4_
    clear n0_ n1_ n2_ n3_ n4_
    have n0_ := aM (blk_drew BK406.out)
    have n1_ := aM (blk_drew BK407.out)
    have n2_ := aM (blk_drew BK413.out)
    have n3_ := aM (blk_drew BK419.out)
    have n4_ := aM (below_drew1 HB.out)
    clear BK406
    clear BK407
    clear BK413
    clear BK419
    clear HB
    have BK406 := n0_
    have BK407 := n1_
    have BK413 := n2_
    have BK419 := n3_
    have HB := n4_
    clear n0_ n1_ n2_ n3_ n4_
    refine start_ (n := 15) (S := fun w' => True) (ds := []) #[false, false, false, false, false, false, false, false, false, false, false, false, false, false, false] (by kernel_rfl) rfl rfl trivial (fun hHeld => ?_); refine with_tabW laws_FnSigns.tab6 laws_FnSigns.bits6 (fun HT_ HW_ => ?_)
    generalize w28.drew = w29 at BK406 BK407 BK413 BK419 HB hHeld ⊢
    refine pure_ (i := 0) (N := some 31) (v := ?_) (a' := ?_) #[true, false, false, false, false, false, false, false, false, false, false, false, false, false, false] rfl rfl (any_of HT_.out (by kernel_rfl)) (fun _ _ _ h => h) (Or.inl ⟨by rfl, ?_⟩) ?_ ?_
    rotate_left
    ·intro w'
     go_simp
     with_reducible rfl
    rotate_left
    ·simp only [Act.put, List.setIfInBounds_toArray, List.set_cons_zero, List.set_cons_succ, i64_w, i32_w]
     rfl
    refine pure_ (i := 1) (N := some 32) (v := ?_) (a' := ?_) #[true, true, false, false, false, false, false, false, false, false, false, false, false, false, false] rfl rfl (any_of HT_.out (by kernel_rfl)) (fun _ _ _ h => h) (Or.inl ⟨by rfl, ?_⟩) ?_ ?_
    rotate_left
    ·intro w'
     go_simp
     with_reducible rfl
    rotate_left
    ·simp only [Act.put, List.setIfInBounds_toArray, List.set_cons_zero, List.set_cons_succ, i64_w, i32_w]
     rfl
    refine pure_ (i := 2) (N := some 33) (v := ?_) (a' := ?_) #[true, true, true, false, false, false, false, false, false, false, false, false, false, false, false] rfl rfl (any_of HT_.out (by kernel_rfl)) (fun _ _ _ h => h) (Or.inl ⟨by rfl, ?_⟩) ?_ ?_
    rotate_left
    ·intro w'
     go_simp
     with_reducible rfl
    rotate_left
    ·simp only [Act.put, List.setIfInBounds_toArray, List.set_cons_zero, List.set_cons_succ, i64_w, i32_w]
     rfl
    refine pure_ (i := 3) (N := some 34) (v := ?_) (a' := ?_) #[true, true, true, true, false, false, false, false, false, false, false, false, false, false, false] rfl rfl (any_of HT_.out (by kernel_rfl)) (fun _ _ _ h => h) (Or.inl ⟨by rfl, ?_⟩) ?_ ?_
    rotate_left
    ·intro w'
     go_simp
     with_reducible rfl
    rotate_left
    ·simp only [Act.put, List.setIfInBounds_toArray, List.set_cons_zero, List.set_cons_succ, i64_w, i32_w]
     rfl
    refine pure_ (i := 4) (N := some 35) (v := undef) (a' := ?_) #[true, true, true, true, true, false, false, false, false, false, false, false, false, false, false] rfl rfl (any_of HT_.out (by kernel_rfl)) (fun _ _ _ h => h) (Or.inr ⟨by rfl, rfl⟩) ?_ ?_
    rotate_left
    ·simp only [Act.put, List.setIfInBounds_toArray, List.set_cons_zero, List.set_cons_succ, i64_w, i32_w]
     rfl
    refine pure_ (i := 5) (N := some 36) (v := undef) (a' := ?_) #[true, true, true, true, true, true, false, false, false, false, false, false, false, false, false] rfl rfl (any_of HT_.out (by kernel_rfl)) (fun _ _ _ h => h) (Or.inr ⟨by rfl, rfl⟩) ?_ ?_
    rotate_left
    ·simp only [Act.put, List.setIfInBounds_toArray, List.set_cons_zero, List.set_cons_succ, i64_w, i32_w]
     rfl
    refine pure_ (i := 6) (N := some 37) (v := undef) (a' := ?_) #[true, true, true, true, true, true, true, false, false, false, false, false, false, false, false] rfl rfl (any_of HT_.out (by kernel_rfl)) (fun _ _ _ h => h) (Or.inr ⟨by rfl, rfl⟩) ?_ ?_
    rotate_left
    ·simp only [Act.put, List.setIfInBounds_toArray, List.set_cons_zero, List.set_cons_succ, i64_w, i32_w]
     rfl
    refine pure_ (i := 7) (N := some 38) (v := ?_) (a' := ?_) #[true, true, true, true, true, true, true, true, false, false, false, false, false, false, false] rfl rfl (any_of HT_.out (by kernel_rfl)) (fun _ _ _ h => h) (Or.inl ⟨by rfl, ?_⟩) ?_ ?_
    rotate_left
    ·intro w'
     go_simp
     with_reducible rfl
    rotate_left
    ·simp only [Act.put, List.setIfInBounds_toArray, List.set_cons_zero, List.set_cons_succ, i64_w, i32_w]
     rfl
    refine pure_ (i := 8) (N := some 39) (v := ?_) (a' := ?_) #[true, true, true, true, true, true, true, true, true, false, false, false, false, false, false] rfl rfl (any_of HT_.out (by kernel_rfl)) (fun _ _ _ h => h) (Or.inl ⟨by rfl, ?_⟩) ?_ ?_
    rotate_left
    ·intro w'
     go_simp
     with_reducible rfl
    rotate_left
    ·simp only [Act.put, List.setIfInBounds_toArray, List.set_cons_zero, List.set_cons_succ, i64_w, i32_w]
     rfl
    refine pure_ (i := 9) (N := some 40) (v := undef) (a' := ?_) #[true, true, true, true, true, true, true, true, true, true, false, false, false, false, false] rfl rfl (any_of HT_.out (by kernel_rfl)) (fun _ _ _ h => h) (Or.inr ⟨by rfl, rfl⟩) ?_ ?_
    rotate_left
    ·simp only [Act.put, List.setIfInBounds_toArray, List.set_cons_zero, List.set_cons_succ, i64_w, i32_w]
     rfl
    refine pure_ (i := 10) (N := some 41) (v := undef) (a' := ?_) #[true, true, true, true, true, true, true, true, true, true, true, false, false, false, false] rfl rfl (any_of HT_.out (by kernel_rfl)) (fun _ _ _ h => h) (Or.inr ⟨by rfl, rfl⟩) ?_ ?_
    rotate_left
    ·simp only [Act.put, List.setIfInBounds_toArray, List.set_cons_zero, List.set_cons_succ, i64_w, i32_w]
     rfl
    refine pure_ (i := 11) (N := some 42) (v := undef) (a' := ?_) #[true, true, true, true, true, true, true, true, true, true, true, true, false, false, false] rfl rfl (any_of HT_.out (by kernel_rfl)) (fun _ _ _ h => h) (Or.inr ⟨by rfl, rfl⟩) ?_ ?_
    rotate_left
    ·simp only [Act.put, List.setIfInBounds_toArray, List.set_cons_zero, List.set_cons_succ, i64_w, i32_w]
     rfl
    refine pure_ (i := 12) (N := some 43) (v := undef) (a' := ?_) #[true, true, true, true, true, true, true, true, true, true, true, true, true, false, false] rfl rfl (any_of HT_.out (by kernel_rfl)) (fun _ _ _ h => h) (Or.inr ⟨by rfl, rfl⟩) ?_ ?_
    rotate_left
    ·simp only [Act.put, List.setIfInBounds_toArray, List.set_cons_zero, List.set_cons_succ, i64_w, i32_w]
     rfl
    refine pure_ (i := 13) (N := some 44) (v := undef) (a' := ?_) #[true, true, true, true, true, true, true, true, true, true, true, true, true, true, false] rfl rfl (any_of HT_.out (by kernel_rfl)) (fun _ _ _ h => h) (Or.inr ⟨by rfl, rfl⟩) ?_ ?_
    rotate_left
    ·simp only [Act.put, List.setIfInBounds_toArray, List.set_cons_zero, List.set_cons_succ, i64_w, i32_w]
     rfl
    refine pure_ (i := 14) (N := some 45) (v := ?_) (a' := ?_) #[true, true, true, true, true, true, true, true, true, true, true, true, true, true, true] rfl rfl (any_of HT_.out (by kernel_rfl)) (fun _ _ _ h => h) (Or.inl ⟨by rfl, ?_⟩) ?_ ?_
    rotate_left
    ·intro w'
     go_simp
     with_reducible rfl
    rotate_left
    ·simp only [Act.put, List.setIfInBounds_toArray, List.set_cons_zero, List.set_cons_succ, i64_w, i32_w]
     rfl
    refine done_ (done_of HT_.out (by kernel_rfl)) ?_
    try go_wp2
    go_meet
    case rel => exact ⟨_, (true), zs, H', ⟨by first | omega | exact Nat.le_refl _⟩, ⟨by exact pk BK406.out⟩, ⟨by exact pk BK407.out⟩, ⟨by exact pk BK413.out⟩, ⟨by exact pk BK419.out⟩, ⟨zb⟩⟩
   ·rw [if_neg c27] at H
    have c27b0 : (t412 != t418) = false := by simpa using c27
    (try (have c27b1 : decide (t412 = t418) = true := by simpa using c27))
    (try (have c27b2 : (t412 == t418) = true := by simpa using c27))
    clear c27
    (first | rw [c27b0] | (simp only [i64_w, i32_w]; rw [c27b0]) | skip)
    by_cases c30 : (!(t408 == t414) || (!(t409 == t415) || (!(t410 == t416) || (!(t411 == t417))))) = true
    ·rw [if_pos c30] at H
     have c30b0 : (!(t408 == t414) || (!(t409 == t415) || (!(t410 == t416) || (!(t411 == t417))))) = true := c30
     clear c30
     have H' := aM H
     clear H
     try go_wp2
     have n0_ : Aside0 (((((w22.setCell ⟨gb419, 0, none⟩ (.bool t414)).setCell ⟨gb419, 1, none⟩ (.bool t415)).setCell ⟨gb419, 2, none⟩ (.bool t416)).setCell ⟨gb419, 3, none⟩ (.bool t417)).heap[gb406]? = some (.cells #[.int .i64 t397, .int .i64 t398, .bool t399, .bool t400, .bool t401] 24 (0, 0))) := ⟨by refine pq ?_; refine blk_far ?_ NB406_419.out _; refine pq ?_; refine blk_far ?_ NB406_419.out _; refine pq ?_; refine blk_far ?_ NB406_419.out _; refine pq ?_; refine blk_far ?_ NB406_419.out _; refine pq ?_; exact BK406.out⟩
     have n1_ : Aside0 (((((w22.setCell ⟨gb419, 0, none⟩ (.bool t414)).setCell ⟨gb419, 1, none⟩ (.bool t415)).setCell ⟨gb419, 2, none⟩ (.bool t416)).setCell ⟨gb419, 3, none⟩ (.bool t417)).heap[gb407]? = some (.cells #[.int .i64 t402, .int .i64 t403, .int .i64 t404, .int .i64 t405] 37 (0, 0))) := ⟨by refine pq ?_; refine blk_far ?_ NB407_419.out _; refine pq ?_; refine blk_far ?_ NB407_419.out _; refine pq ?_; refine blk_far ?_ NB407_419.out _; refine pq ?_; refine blk_far ?_ NB407_419.out _; refine pq ?_; exact BK407.out⟩
     have n2_ : Aside0 (((((w22.setCell ⟨gb419, 0, none⟩ (.bool t414)).setCell ⟨gb419, 1, none⟩ (.bool t415)).setCell ⟨gb419, 2, none⟩ (.bool t416)).setCell ⟨gb419, 3, none⟩ (.bool t417)).heap[gb413]? = some (.cells #[.bool t408, .bool t409, .bool t410, .bool t411] 50 (0, 0))) := ⟨by refine pq ?_; refine blk_far ?_ NB413_419.out _; refine pq ?_; refine blk_far ?_ NB413_419.out _; refine pq ?_; refine blk_far ?_ NB413_419.out _; refine pq ?_; refine blk_far ?_ NB413_419.out _; refine pq ?_; exact BK413.out⟩
     have n3_ : Aside0 (((((w22.setCell ⟨gb419, 0, none⟩ (.bool t414)).setCell ⟨gb419, 1, none⟩ (.bool t415)).setCell ⟨gb419, 2, none⟩ (.bool t416)).setCell ⟨gb419, 3, none⟩ (.bool t417)).heap[gb419]? = some (.cells #[.bool t414, .bool t415, .bool t416, .bool t417] 50 (0, 0))) := ⟨by refine pq ?_; refine blk_put (cs := #[.bool t414, .bool t415, .bool t416, .bool false]) ?_ 3 _ rfl; refine pq ?_; refine blk_put (cs := #[.bool t414, .bool t415, .bool false, .bool false]) ?_ 2 _ rfl; refine pq ?_; refine blk_put (cs := #[.bool t414, .bool false, .bool false, .bool false]) ?_ 1 _ rfl; refine pq ?_; refine blk_put (cs := #[.bool false, .bool false, .bool false, .bool false]) ?_ 0 _ rfl; refine pq ?_; exact BK419.out⟩
     have n4_ : Aside0 (Below w.heap.size w ((((w22.setCell ⟨gb419, 0, none⟩ (.bool t414)).setCell ⟨gb419, 1, none⟩ (.bool t415)).setCell ⟨gb419, 2, none⟩ (.bool t416)).setCell ⟨gb419, 3, none⟩ (.bool t417))) := ⟨zb⟩
     (try clear BK406)
     (try clear BK407)
     (try clear BK413)
     (try clear BK419)
     (try clear HB)
     generalize ((((w22.setCell ⟨gb419, 0, none⟩ (.bool t414)).setCell ⟨gb419, 1, none⟩ (.bool t415)).setCell ⟨gb419, 2, none⟩ (.bool t416)).setCell ⟨gb419, 3, none⟩ (.bool t417)) = w31 at n0_ n1_ n2_ n3_ n4_ ⊢
     have BK406 := n0_
     have BK407 := n1_
     have BK413 := n2_
     have BK419 := n3_
     have HB := n4_
     clear n0_ n1_ n2_ n3_ n4_
     have n0_ := aM (blk_drew BK406.out)
     have n1_ := aM (blk_drew BK407.out)
     have n2_ := aM (blk_drew BK413.out)
     have n3_ := aM (blk_drew BK419.out)
     have n4_ := aM (below_drew1 HB.out)
     clear BK406
     clear BK407
     clear BK413
     clear BK419
     clear HB
     have BK406 := n0_
     have BK407 := n1_
     have BK413 := n2_
     have BK419 := n3_
     have HB := n4_
     clear n0_ n1_ n2_ n3_ n4_
     refine start_ (n := 15) (S := fun w' => w'.cell? ⟨gb413, 0, none⟩ = some (.bool t408) ∧ w'.cell? ⟨gb413, 1, none⟩ = some (.bool t409) ∧ w'.cell? ⟨gb413, 2, none⟩ = some (.bool t410) ∧ w'.cell? ⟨gb413, 3, none⟩ = some (.bool t411) ∧ w'.cell? ⟨gb419, 0, none⟩ = some (.bool t414) ∧ w'.cell? ⟨gb419, 1, none⟩ = some (.bool t415) ∧ w'.cell? ⟨gb419, 2, none⟩ = some (.bool t416) ∧ w'.cell? ⟨gb419, 3, none⟩ = some (.bool t417)) (ds := []) #[false, false, false, false, false, false, false, false, false, false, false, false, false, false, false] (by kernel_rfl) rfl rfl ⟨(blk_cell BK413.out 0).trans rfl, (blk_cell BK413.out 1).trans rfl, (blk_cell BK413.out 2).trans rfl, (blk_cell BK413.out 3).trans rfl, (blk_cell BK419.out 0).trans rfl, (blk_cell BK419.out 1).trans rfl, (blk_cell BK419.out 2).trans rfl, (blk_cell BK419.out 3).trans rfl⟩ (fun hHeld => ?_); refine with_tabW laws_FnSigns.tab6 laws_FnSigns.bits6 (fun HT_ HW_ => ?_)
     generalize w31.drew = w32 at BK406 BK407 BK413 BK419 HB hHeld ⊢
     refine pure_ (i := 0) (N := some 31) (v := ?_) (a' := ?_) #[true, false, false, false, false, false, false, false, false, false, false, false, false, false, false] rfl rfl (any_of HT_.out (by kernel_rfl)) (fun _ _ _ h => h) (Or.inl ⟨by rfl, ?_⟩) ?_ ?_
     rotate_left
     ·intro w'
      go_simp
      with_reducible rfl
     rotate_left
     ·simp only [Act.put, List.setIfInBounds_toArray, List.set_cons_zero, List.set_cons_succ, i64_w, i32_w]
      rfl
     refine pure_ (i := 1) (N := some 32) (v := ?_) (a' := ?_) #[true, true, false, false, false, false, false, false, false, false, false, false, false, false, false] rfl rfl (any_of HT_.out (by kernel_rfl)) (fun _ _ _ h => h) (Or.inl ⟨by rfl, ?_⟩) ?_ ?_
     rotate_left
     ·intro w'
      go_simp
      with_reducible rfl
     rotate_left
     ·simp only [Act.put, List.setIfInBounds_toArray, List.set_cons_zero, List.set_cons_succ, i64_w, i32_w]
      rfl
     refine pure_ (i := 2) (N := some 33) (v := ?_) (a' := ?_) #[true, true, true, false, false, false, false, false, false, false, false, false, false, false, false] rfl rfl (any_of HT_.out (by kernel_rfl)) (fun _ _ _ h => h) (Or.inl ⟨by rfl, ?_⟩) ?_ ?_
     rotate_left
     ·intro w'
      go_simp
      with_reducible rfl
     rotate_left
     ·simp only [Act.put, List.setIfInBounds_toArray, List.set_cons_zero, List.set_cons_succ, i64_w, i32_w]
      rfl
     refine pure_ (i := 3) (N := some 34) (v := ?_) (a' := ?_) #[true, true, true, true, false, false, false, false, false, false, false, false, false, false, false] rfl rfl (any_of HT_.out (by kernel_rfl)) (fun _ _ _ h => h) (Or.inl ⟨by rfl, ?_⟩) ?_ ?_
     rotate_left
     ·intro w'
      go_simp
      with_reducible rfl
     rotate_left
     ·simp only [Act.put, List.setIfInBounds_toArray, List.set_cons_zero, List.set_cons_succ, i64_w, i32_w]
      rfl
     refine take_ (i := 4) (N := some 35) (v := ?_) (a' := ?_) #[true, true, true, true, true, false, false, false, false, false, false, false, false, false, false] rfl rfl (take_ofW HT_.out HW_.out (by kernel_rfl)) (fun _ _ _ h => h) (Or.inl ⟨by rfl, ?_⟩) hHeld ?_ ?_
     rotate_left
     ·rintro w' ⟨s0, s1, s2, s3, s4, s5, s6, s7⟩
      go_simp
      with_reducible rfl
     rotate_left
     ·simp only [Act.put, List.setIfInBounds_toArray, List.set_cons_zero, List.set_cons_succ, i64_w, i32_w]
      rfl
     refine take_ (i := 5) (N := some 36) (v := ?_) (a' := ?_) #[true, true, true, true, true, true, false, false, false, false, false, false, false, false, false] rfl rfl (take_ofW HT_.out HW_.out (by kernel_rfl)) (fun _ _ _ h => h) (Or.inl ⟨by rfl, ?_⟩) hHeld ?_ ?_
     rotate_left
     ·rintro w' ⟨s0, s1, s2, s3, s4, s5, s6, s7⟩
      go_simp
      with_reducible rfl
     rotate_left
     ·simp only [Act.put, List.setIfInBounds_toArray, List.set_cons_zero, List.set_cons_succ, i64_w, i32_w]
      rfl
     refine pure_ (i := 6) (N := some 37) (v := ?_) (a' := ?_) #[true, true, true, true, true, true, true, false, false, false, false, false, false, false, false] rfl rfl (any_of HT_.out (by kernel_rfl)) (fun _ _ _ h => h) (Or.inl ⟨by rfl, ?_⟩) ?_ ?_
     rotate_left
     ·intro w'
      go_simp
      with_reducible rfl
     rotate_left
     ·simp only [Act.put, List.setIfInBounds_toArray, List.set_cons_zero, List.set_cons_succ, i64_w, i32_w]
      rfl
     refine pure_ (i := 7) (N := some 38) (v := ?_) (a' := ?_) #[true, true, true, true, true, true, true, true, false, false, false, false, false, false, false] rfl rfl (any_of HT_.out (by kernel_rfl)) (fun _ _ _ h => h) (Or.inl ⟨by rfl, ?_⟩) ?_ ?_
     rotate_left
     ·intro w'
      go_simp
      with_reducible rfl
     rotate_left
     ·simp only [Act.put, List.setIfInBounds_toArray, List.set_cons_zero, List.set_cons_succ, i64_w, i32_w]
      rfl
     refine pure_ (i := 8) (N := some 39) (v := ?_) (a' := ?_) #[true, true, true, true, true, true, true, true, true, false, false, false, false, false, false] rfl rfl (any_of HT_.out (by kernel_rfl)) (fun _ _ _ h => h) (Or.inl ⟨by rfl, ?_⟩) ?_ ?_
     rotate_left
     ·intro w'
      go_simp
      with_reducible rfl
     rotate_left
     ·simp only [Act.put, List.setIfInBounds_toArray, List.set_cons_zero, List.set_cons_succ, i64_w, i32_w]
      rfl
     refine pure_ (i := 9) (N := some 40) (v := undef) (a' := ?_) #[true, true, true, true, true, true, true, true, true, true, false, false, false, false, false] rfl rfl (any_of HT_.out (by kernel_rfl)) (fun _ _ _ h => h) (Or.inr ⟨by rfl, rfl⟩) ?_ ?_
     rotate_left
     ·simp only [Act.put, List.setIfInBounds_toArray, List.set_cons_zero, List.set_cons_succ, i64_w, i32_w]
      rfl
     refine pure_ (i := 10) (N := some 41) (v := undef) (a' := ?_) #[true, true, true, true, true, true, true, true, true, true, true, false, false, false, false] rfl rfl (any_of HT_.out (by kernel_rfl)) (fun _ _ _ h => h) (Or.inr ⟨by rfl, rfl⟩) ?_ ?_
     rotate_left
     ·simp only [Act.put, List.setIfInBounds_toArray, List.set_cons_zero, List.set_cons_succ, i64_w, i32_w]
      rfl
     refine pure_ (i := 11) (N := some 42) (v := undef) (a' := ?_) #[true, true, true, true, true, true, true, true, true, true, true, true, false, false, false] rfl rfl (any_of HT_.out (by kernel_rfl)) (fun _ _ _ h => h) (Or.inr ⟨by rfl, rfl⟩) ?_ ?_
     rotate_left
     ·simp only [Act.put, List.setIfInBounds_toArray, List.set_cons_zero, List.set_cons_succ, i64_w, i32_w]
      rfl
     refine pure_ (i := 12) (N := some 43) (v := undef) (a' := ?_) #[true, true, true, true, true, true, true, true, true, true, true, true, true, false, false] rfl rfl (any_of HT_.out (by kernel_rfl)) (fun _ _ _ h => h) (Or.inr ⟨by rfl, rfl⟩) ?_ ?_
     rotate_left
     ·simp only [Act.put, List.setIfInBounds_toArray, List.set_cons_zero, List.set_cons_succ, i64_w, i32_w]
      rfl
     refine pure_ (i := 13) (N := some 44) (v := undef) (a' := ?_) #[true, true, true, true, true, true, true, true, true, true, true, true, true, true, false] rfl rfl (any_of HT_.out (by kernel_rfl)) (fun _ _ _ h => h) (Or.inr ⟨by rfl, rfl⟩) ?_ ?_
     rotate_left
     ·simp only [Act.put, List.setIfInBounds_toArray, List.set_cons_zero, List.set_cons_succ, i64_w, i32_w]
      rfl
     refine pure_ (i := 14) (N := some 45) (v := ?_) (a' := ?_) #[true, true, true, true, true, true, true, true, true, true, true, true, true, true, true] rfl rfl (any_of HT_.out (by kernel_rfl)) (fun _ _ _ h => h) (Or.inl ⟨by rfl, ?_⟩) ?_ ?_
     rotate_left
     ·intro w'
      go_simp
      with_reducible rfl
     rotate_left
     ·simp only [Act.put, List.setIfInBounds_toArray, List.set_cons_zero, List.set_cons_succ, i64_w, i32_w]
      rfl
     refine done_ (done_of HT_.out (by kernel_rfl)) ?_
     try go_wp2
     go_meet
     case rel => exact ⟨_, (true), zs, H', ⟨by first | omega | exact Nat.le_refl _⟩, ⟨by exact pk BK406.out⟩, ⟨by exact pk BK407.out⟩, ⟨by exact pk BK413.out⟩, ⟨by exact pk BK419.out⟩, ⟨zb⟩⟩
    ·rw [if_neg c30] at H
     have c30b0 : (!(t408 == t414) || (!(t409 == t415) || (!(t410 == t416) || (!(t411 == t417))))) = false := by simpa using c30
     clear c30
     replace H := Option.bind_eq_some_iff.mp H
     obtain ⟨t420, A330, H⟩ := H
     replace H : ((spec_FaultsOk.f t402 t403 t404 t405).bind fun t421 => (laws_FnSigns.j0 k t412 (t420 != t421) t397 t398 t399 t400 t401 t402 t403 t404 t405 t408 t409 t410 t411)) = some r := H
     have A33 := aM A330
     clear A330
     replace H := Option.bind_eq_some_iff.mp H
     obtain ⟨t421, A340, H⟩ := H
     replace H : (laws_FnSigns.j0 k t412 (t420 != t421) t397 t398 t399 t400 t401 t402 t403 t404 t405 t408 t409 t410 t411) = some r := H
     have A34 := aM A340
     clear A340
     have H' := aM H
     clear H
     try go_wp2
     have n0_ : Aside0 (((((w22.setCell ⟨gb419, 0, none⟩ (.bool t414)).setCell ⟨gb419, 1, none⟩ (.bool t415)).setCell ⟨gb419, 2, none⟩ (.bool t416)).setCell ⟨gb419, 3, none⟩ (.bool t417)).heap[gb406]? = some (.cells #[.int .i64 t397, .int .i64 t398, .bool t399, .bool t400, .bool t401] 24 (0, 0))) := ⟨by refine pq ?_; refine blk_far ?_ NB406_419.out _; refine pq ?_; refine blk_far ?_ NB406_419.out _; refine pq ?_; refine blk_far ?_ NB406_419.out _; refine pq ?_; refine blk_far ?_ NB406_419.out _; refine pq ?_; exact BK406.out⟩
     have n1_ : Aside0 (((((w22.setCell ⟨gb419, 0, none⟩ (.bool t414)).setCell ⟨gb419, 1, none⟩ (.bool t415)).setCell ⟨gb419, 2, none⟩ (.bool t416)).setCell ⟨gb419, 3, none⟩ (.bool t417)).heap[gb407]? = some (.cells #[.int .i64 t402, .int .i64 t403, .int .i64 t404, .int .i64 t405] 37 (0, 0))) := ⟨by refine pq ?_; refine blk_far ?_ NB407_419.out _; refine pq ?_; refine blk_far ?_ NB407_419.out _; refine pq ?_; refine blk_far ?_ NB407_419.out _; refine pq ?_; refine blk_far ?_ NB407_419.out _; refine pq ?_; exact BK407.out⟩
     have n2_ : Aside0 (((((w22.setCell ⟨gb419, 0, none⟩ (.bool t414)).setCell ⟨gb419, 1, none⟩ (.bool t415)).setCell ⟨gb419, 2, none⟩ (.bool t416)).setCell ⟨gb419, 3, none⟩ (.bool t417)).heap[gb413]? = some (.cells #[.bool t408, .bool t409, .bool t410, .bool t411] 50 (0, 0))) := ⟨by refine pq ?_; refine blk_far ?_ NB413_419.out _; refine pq ?_; refine blk_far ?_ NB413_419.out _; refine pq ?_; refine blk_far ?_ NB413_419.out _; refine pq ?_; refine blk_far ?_ NB413_419.out _; refine pq ?_; exact BK413.out⟩
     have n3_ : Aside0 (((((w22.setCell ⟨gb419, 0, none⟩ (.bool t414)).setCell ⟨gb419, 1, none⟩ (.bool t415)).setCell ⟨gb419, 2, none⟩ (.bool t416)).setCell ⟨gb419, 3, none⟩ (.bool t417)).heap[gb419]? = some (.cells #[.bool t414, .bool t415, .bool t416, .bool t417] 50 (0, 0))) := ⟨by refine pq ?_; refine blk_put (cs := #[.bool t414, .bool t415, .bool t416, .bool false]) ?_ 3 _ rfl; refine pq ?_; refine blk_put (cs := #[.bool t414, .bool t415, .bool false, .bool false]) ?_ 2 _ rfl; refine pq ?_; refine blk_put (cs := #[.bool t414, .bool false, .bool false, .bool false]) ?_ 1 _ rfl; refine pq ?_; refine blk_put (cs := #[.bool false, .bool false, .bool false, .bool false]) ?_ 0 _ rfl; refine pq ?_; exact BK419.out⟩
     have n4_ : Aside0 (Below w.heap.size w ((((w22.setCell ⟨gb419, 0, none⟩ (.bool t414)).setCell ⟨gb419, 1, none⟩ (.bool t415)).setCell ⟨gb419, 2, none⟩ (.bool t416)).setCell ⟨gb419, 3, none⟩ (.bool t417))) := ⟨zb⟩
     (try clear BK406)
     (try clear BK407)
     (try clear BK413)
     (try clear BK419)
     (try clear HB)
     generalize ((((w22.setCell ⟨gb419, 0, none⟩ (.bool t414)).setCell ⟨gb419, 1, none⟩ (.bool t415)).setCell ⟨gb419, 2, none⟩ (.bool t416)).setCell ⟨gb419, 3, none⟩ (.bool t417)) = w35 at n0_ n1_ n2_ n3_ n4_ ⊢
     have BK406 := n0_
     have BK407 := n1_
     have BK413 := n2_
     have BK419 := n3_
     have HB := n4_
     clear n0_ n1_ n2_ n3_ n4_
     have n0_ := aM (blk_drew BK406.out)
     have n1_ := aM (blk_drew BK407.out)
     have n2_ := aM (blk_drew BK413.out)
     have n3_ := aM (blk_drew BK419.out)
     have n4_ := aM (below_drew1 HB.out)
     clear BK406
     clear BK407
     clear BK413
     clear BK419
     clear HB
     have BK406 := n0_
     have BK407 := n1_
     have BK413 := n2_
     have BK419 := n3_
     have HB := n4_
     clear n0_ n1_ n2_ n3_ n4_
     refine start_ (n := 15) (S := fun w' => w'.cell? ⟨gb413, 0, none⟩ = some (.bool t408) ∧ w'.cell? ⟨gb413, 1, none⟩ = some (.bool t409) ∧ w'.cell? ⟨gb413, 2, none⟩ = some (.bool t410) ∧ w'.cell? ⟨gb413, 3, none⟩ = some (.bool t411) ∧ w'.cell? ⟨gb419, 0, none⟩ = some (.bool t414) ∧ w'.cell? ⟨gb419, 1, none⟩ = some (.bool t415) ∧ w'.cell? ⟨gb419, 2, none⟩ = some (.bool t416) ∧ w'.cell? ⟨gb419, 3, none⟩ = some (.bool t417) ∧ w'.cell? ⟨gb407, 0, none⟩ = some (.int .i64 t402) ∧ w'.cell? ⟨gb407, 1, none⟩ = some (.int .i64 t403) ∧ w'.cell? ⟨gb407, 2, none⟩ = some (.int .i64 t404) ∧ w'.cell? ⟨gb407, 3, none⟩ = some (.int .i64 t405)) (ds := []) #[false, false, false, false, false, false, false, false, false, false, false, false, false, false, false] (by kernel_rfl) rfl rfl ⟨(blk_cell BK413.out 0).trans rfl, (blk_cell BK413.out 1).trans rfl, (blk_cell BK413.out 2).trans rfl, (blk_cell BK413.out 3).trans rfl, (blk_cell BK419.out 0).trans rfl, (blk_cell BK419.out 1).trans rfl, (blk_cell BK419.out 2).trans rfl, (blk_cell BK419.out 3).trans rfl, (blk_cell BK407.out 0).trans rfl, (blk_cell BK407.out 1).trans rfl, (blk_cell BK407.out 2).trans rfl, (blk_cell BK407.out 3).trans rfl⟩ (fun hHeld => ?_); refine with_tabW laws_FnSigns.tab6 laws_FnSigns.bits6 (fun HT_ HW_ => ?_)
     generalize w35.drew = w36 at BK406 BK407 BK413 BK419 HB hHeld ⊢
     refine pure_ (i := 0) (N := some 31) (v := ?_) (a' := ?_) #[true, false, false, false, false, false, false, false, false, false, false, false, false, false, false] rfl rfl (any_of HT_.out (by kernel_rfl)) (fun _ _ _ h => h) (Or.inl ⟨by rfl, ?_⟩) ?_ ?_
     rotate_left
     ·intro w'
      go_simp
      with_reducible rfl
     rotate_left
     ·simp only [Act.put, List.setIfInBounds_toArray, List.set_cons_zero, List.set_cons_succ, i64_w, i32_w]
      rfl
     refine pure_ (i := 1) (N := some 32) (v := ?_) (a' := ?_) #[true, true, false, false, false, false, false, false, false, false, false, false, false, false, false] rfl rfl (any_of HT_.out (by kernel_rfl)) (fun _ _ _ h => h) (Or.inl ⟨by rfl, ?_⟩) ?_ ?_
     rotate_left
     ·intro w'
      go_simp
      with_reducible rfl
     rotate_left
     ·simp only [Act.put, List.setIfInBounds_toArray, List.set_cons_zero, List.set_cons_succ, i64_w, i32_w]
      rfl
     refine pure_ (i := 2) (N := some 33) (v := ?_) (a' := ?_) #[true, true, true, false, false, false, false, false, false, false, false, false, false, false, false] rfl rfl (any_of HT_.out (by kernel_rfl)) (fun _ _ _ h => h) (Or.inl ⟨by rfl, ?_⟩) ?_ ?_
     rotate_left
     ·intro w'
      go_simp
      with_reducible rfl
     rotate_left
     ·simp only [Act.put, List.setIfInBounds_toArray, List.set_cons_zero, List.set_cons_succ, i64_w, i32_w]
      rfl
     refine pure_ (i := 3) (N := some 34) (v := ?_) (a' := ?_) #[true, true, true, true, false, false, false, false, false, false, false, false, false, false, false] rfl rfl (any_of HT_.out (by kernel_rfl)) (fun _ _ _ h => h) (Or.inl ⟨by rfl, ?_⟩) ?_ ?_
     rotate_left
     ·intro w'
      go_simp
      with_reducible rfl
     rotate_left
     ·simp only [Act.put, List.setIfInBounds_toArray, List.set_cons_zero, List.set_cons_succ, i64_w, i32_w]
      rfl
     refine take_ (i := 4) (N := some 35) (v := ?_) (a' := ?_) #[true, true, true, true, true, false, false, false, false, false, false, false, false, false, false] rfl rfl (take_ofW HT_.out HW_.out (by kernel_rfl)) (fun _ _ _ h => h) (Or.inl ⟨by rfl, ?_⟩) hHeld ?_ ?_
     rotate_left
     ·rintro w' ⟨s0, s1, s2, s3, s4, s5, s6, s7, s8, s9, s10, s11⟩
      go_simp
      with_reducible rfl
     rotate_left
     ·simp only [Act.put, List.setIfInBounds_toArray, List.set_cons_zero, List.set_cons_succ, i64_w, i32_w]
      rfl
     refine take_ (i := 5) (N := some 36) (v := ?_) (a' := ?_) #[true, true, true, true, true, true, false, false, false, false, false, false, false, false, false] rfl rfl (take_ofW HT_.out HW_.out (by kernel_rfl)) (fun _ _ _ h => h) (Or.inl ⟨by rfl, ?_⟩) hHeld ?_ ?_
     rotate_left
     ·rintro w' ⟨s0, s1, s2, s3, s4, s5, s6, s7, s8, s9, s10, s11⟩
      go_simp
      with_reducible rfl
     rotate_left
     ·simp only [Act.put, List.setIfInBounds_toArray, List.set_cons_zero, List.set_cons_succ, i64_w, i32_w]
      rfl
     refine pure_ (i := 6) (N := some 37) (v := ?_) (a' := ?_) #[true, true, true, true, true, true, true, false, false, false, false, false, false, false, false] rfl rfl (any_of HT_.out (by kernel_rfl)) (fun _ _ _ h => h) (Or.inl ⟨by rfl, ?_⟩) ?_ ?_
     rotate_left
     ·intro w'
      go_simp
      with_reducible rfl
     rotate_left
     ·simp only [Act.put, List.setIfInBounds_toArray, List.set_cons_zero, List.set_cons_succ, i64_w, i32_w]
      rfl
     refine pure_ (i := 7) (N := some 38) (v := ?_) (a' := ?_) #[true, true, true, true, true, true, true, true, false, false, false, false, false, false, false] rfl rfl (any_of HT_.out (by kernel_rfl)) (fun _ _ _ h => h) (Or.inl ⟨by rfl, ?_⟩) ?_ ?_
     rotate_left
     ·intro w'
      go_simp
      with_reducible rfl
     rotate_left
     ·simp only [Act.put, List.setIfInBounds_toArray, List.set_cons_zero, List.set_cons_succ, i64_w, i32_w]
      rfl
     refine pure_ (i := 8) (N := some 39) (v := ?_) (a' := ?_) #[true, true, true, true, true, true, true, true, true, false, false, false, false, false, false] rfl rfl (any_of HT_.out (by kernel_rfl)) (fun _ _ _ h => h) (Or.inl ⟨by rfl, ?_⟩) ?_ ?_
     rotate_left
     ·intro w'
      go_simp
      with_reducible rfl
     rotate_left
     ·simp only [Act.put, List.setIfInBounds_toArray, List.set_cons_zero, List.set_cons_succ, i64_w, i32_w]
      rfl
     refine take_ (i := 9) (N := some 40) (v := ?_) (a' := ?_) #[true, true, true, true, true, true, true, true, true, true, false, false, false, false, false] rfl rfl (take_ofW HT_.out HW_.out (by kernel_rfl)) (fun _ _ _ h => h) (Or.inl ⟨by rfl, ?_⟩) hHeld ?_ ?_
     rotate_left
     ·rintro w' ⟨s0, s1, s2, s3, s4, s5, s6, s7, s8, s9, s10, s11⟩
      go_simp
      with_reducible rfl
     rotate_left
     ·simp only [Act.put, List.setIfInBounds_toArray, List.set_cons_zero, List.set_cons_succ, i64_w, i32_w]
      rfl
     refine take_ (i := 11) (N := some 42) (v := ?_) (a' := ?_) #[true, true, true, true, true, true, true, true, true, true, false, true, false, false, false] rfl rfl (take_ofW HT_.out HW_.out (by kernel_rfl)) (fun _ _ _ h => h) (Or.inl ⟨by rfl, ?_⟩) hHeld ?_ ?_
     rotate_left
     ·rintro w' ⟨s0, s1, s2, s3, s4, s5, s6, s7, s8, s9, s10, s11⟩
      go_simp
      with_reducible rfl
     rotate_left
     ·simp only [Act.put, List.setIfInBounds_toArray, List.set_cons_zero, List.set_cons_succ, i64_w, i32_w]
      rfl
     refine one_ (i := 10) (N := some 41) #[true, true, true, true, true, true, true, true, true, true, true, true, false, false, false] rfl rfl (one_of HT_.out (by kernel_rfl)) (by decide) (fun K hK => ?_)
     refine goes_ Try.func41 (by kernel_rfl) rfl #[.agg #[.int .i64 t402, .int .i64 t403, .int .i64 t404, .int .i64 t405]] (by rfl) rfl rfl za ?_
     with_reducible refine (impl_FaultsOk.calls t402 t403 t404 t405 t420 _ A33.out).mono ?_
     rintro e w37 ⟨rfl, hb⟩
     refine ⟨_, rfl, ?_⟩
     have n0_ := aM (bb BK406.out hb)
     have n1_ := aM (bb BK407.out hb)
     have n2_ := aM (bb BK413.out hb)
     have n3_ := aM (bb BK419.out hb)
     have n4_ := aM (below_step (zb) hb)
     clear BK406
     clear BK407
     clear BK413
     clear BK419
     clear HB
     have BK406 := n0_
     have BK407 := n1_
     have BK413 := n2_
     have BK419 := n3_
     have HB := n4_
     clear n0_ n1_ n2_ n3_ n4_
     (try clear hb)
     (try clear hb2)
     (try clear hk)
     (try clear hi)
     refine hK.out _ _ ⟨(blk_cell BK413.out 0).trans rfl, (blk_cell BK413.out 1).trans rfl, (blk_cell BK413.out 2).trans rfl, (blk_cell BK413.out 3).trans rfl, (blk_cell BK419.out 0).trans rfl, (blk_cell BK419.out 1).trans rfl, (blk_cell BK419.out 2).trans rfl, (blk_cell BK419.out 3).trans rfl, (blk_cell BK407.out 0).trans rfl, (blk_cell BK407.out 1).trans rfl, (blk_cell BK407.out 2).trans rfl, (blk_cell BK407.out 3).trans rfl⟩ (fun hHeld => ?_)
     clear hK K
     refine norm_ (a' := ?_) ?_ ?_
     rotate_left
     ·show Act.put _ (some 41) _ = _
      simp only [Act.put, List.setIfInBounds_toArray, List.set_cons_zero, List.set_cons_succ, i64_w, i32_w]
      rfl
     refine one_ (i := 12) (N := some 43) #[true, true, true, true, true, true, true, true, true, true, true, true, true, false, false] rfl rfl (one_of HT_.out (by kernel_rfl)) (by decide) (fun K hK => ?_)
     refine goes_ Try.func42 (by kernel_rfl) rfl #[.agg #[.int .i64 t402, .int .i64 t403, .int .i64 t404, .int .i64 t405]] (by rfl) rfl rfl za ?_
     with_reducible refine (spec_FaultsOk.calls t402 t403 t404 t405 t421 _ A34.out).mono ?_
     rintro e w38 ⟨rfl, hb⟩
     refine ⟨_, rfl, ?_⟩
     have n0_ := aM (bb BK406.out hb)
     have n1_ := aM (bb BK407.out hb)
     have n2_ := aM (bb BK413.out hb)
     have n3_ := aM (bb BK419.out hb)
     have n4_ := aM (below_step (zb) hb)
     clear BK406
     clear BK407
     clear BK413
     clear BK419
     clear HB
     have BK406 := n0_
     have BK407 := n1_
     have BK413 := n2_
     have BK419 := n3_
     have HB := n4_
     clear n0_ n1_ n2_ n3_ n4_
     (try clear hb)
     (try clear hb2)
     (try clear hk)
     (try clear hi)
     refine hK.out _ _ ⟨(blk_cell BK413.out 0).trans rfl, (blk_cell BK413.out 1).trans rfl, (blk_cell BK413.out 2).trans rfl, (blk_cell BK413.out 3).trans rfl, (blk_cell BK419.out 0).trans rfl, (blk_cell BK419.out 1).trans rfl, (blk_cell BK419.out 2).trans rfl, (blk_cell BK419.out 3).trans rfl, (blk_cell BK407.out 0).trans rfl, (blk_cell BK407.out 1).trans rfl, (blk_cell BK407.out 2).trans rfl, (blk_cell BK407.out 3).trans rfl⟩ (fun hHeld => ?_)
     clear hK K
     refine norm_ (a' := ?_) ?_ ?_
     rotate_left
     ·show Act.put _ (some 43) _ = _
      simp only [Act.put, List.setIfInBounds_toArray, List.set_cons_zero, List.set_cons_succ, i64_w, i32_w]
      rfl
     refine pure_ (i := 13) (N := some 44) (v := ?_) (a' := ?_) #[true, true, true, true, true, true, true, true, true, true, true, true, true, true, false] rfl rfl (any_of HT_.out (by kernel_rfl)) (fun _ _ _ h => h) (Or.inl ⟨by rfl, ?_⟩) ?_ ?_
     rotate_left
     ·intro w'
      go_simp
      with_reducible rfl
     rotate_left
     ·simp only [Act.put, List.setIfInBounds_toArray, List.set_cons_zero, List.set_cons_succ, i64_w, i32_w]
      rfl
     refine pure_ (i := 14) (N := some 45) (v := ?_) (a' := ?_) #[true, true, true, true, true, true, true, true, true, true, true, true, true, true, true] rfl rfl (any_of HT_.out (by kernel_rfl)) (fun _ _ _ h => h) (Or.inl ⟨by rfl, ?_⟩) ?_ ?_
     rotate_left
     ·intro w'
      go_simp
      with_reducible rfl
     rotate_left
     ·simp only [Act.put, List.setIfInBounds_toArray, List.set_cons_zero, List.set_cons_succ, i64_w, i32_w]
      rfl
     refine done_ (done_of HT_.out (by kernel_rfl)) ?_
     try go_wp2
     go_meet
     case rel => exact ⟨_, ((t420 != t421)), zs, H', ⟨by first | omega | exact Nat.le_refl _⟩, ⟨by exact pk BK406.out⟩, ⟨by exact pk BK407.out⟩, ⟨by exact pk BK413.out⟩, ⟨by exact pk BK419.out⟩, ⟨zb⟩⟩
  case rest =>
   clear HC7
   try clear c1
   try clear c2
   try clear p2
   try clear c3
   try clear c4
   try clear c10
   try clear c11
   try clear c16
   try clear c17
   try clear c23
   try clear c24
   try clear c25
   try clear c26
   try clear c27
   try clear c27b0
   try clear c27b1
   try clear c27b2
   try clear c30
   try clear c30b0
   try clear c36
   try clear hcz12_0 hcz12_1 hcz12_2 hcz12_3 hcz12_4 hfz12_0 hfz12_1 hfz12_2 hfz12_3 hfz12_4
   try clear hcz13_0 hcz13_1 hcz13_2 hcz13_3 hfz13_0 hfz13_1 hfz13_2 hfz13_3
   try clear hcz18_0 hcz18_1 hcz18_2 hcz18_3 hfz18_0 hfz18_1 hfz18_2 hfz18_3
   try clear hcz19_0 hcz19_1 hcz19_2 hcz19_3 hcz19_4 hfz19_0 hfz19_1 hfz19_2 hfz19_3 hfz19_4
   try clear hcz20_0 hcz20_1 hcz20_2 hcz20_3 hfz20_0 hfz20_1 hfz20_2 hfz20_3
   try clear hcz26_0 hcz26_1 hcz26_2 hcz26_3 hfz26_0 hfz26_1 hfz26_2 hfz26_3
   obtain ⟨kq, x45_6, rfl, HA, HJ6, BK406, BK407, BK413, BK419, HB⟩ := hcut
   cases kq with
   | zero => exact absurd HA.out (by simp [laws_FnSigns.j0])
   | succ kj6 =>
    have H := HA.out
    clear HA
    simp only [laws_FnSigns.j0] at H
    by_cases c39 : x45_6 = true
    ·subst c39
     have H1 : (none) = some r := by rw [if_pos rfl] at H; exact H
     clear H
     have H := H1
     clear H1
     exact absurd H (by simp)
    ·replace c39 := Bool.eq_false_iff.mpr c39
     subst c39
     have H1 : ((impl_Recover.f kj6 t397 t398 t399 t400 t401 t402 t403 t404 t405).bind fun bt422 => (if t412 = true then (if t402 = 0 then (if (t408 == (!t400)) = true then (if t403 = 1 then (if t409 = true then (none) else (if t404 = 2 then (if t410 = true then (if t405 = 0 then (if (t411 == t401) = true then (if t397 = 0 then (some (bt422.2.2.2.2.2.2 == false)) else (if t398 = 0 then ((impl_CountFaults.f kj6 t402 t403 t404 t405).bind fun t430 => (some (bt422.2.2.2.2.2.2 == (decide (t430 ≤ 1))))) else (some (bt422.2.2.2.2.2.2 == false)))) else (none)) else (if t397 = 0 then (some (bt422.2.2.2.2.2.2 == false)) else (if t398 = 0 then ((impl_CountFaults.f kj6 t402 t403 t404 t405).bind fun t431 => (some (bt422.2.2.2.2.2.2 == (decide (t431 ≤ 1))))) else (some (bt422.2.2.2.2.2.2 == false))))) else (none)) else (if t405 = 0 then (if (t411 == t401) = true then (if t397 = 0 then (some (bt422.2.2.2.2.2.2 == false)) else (if t398 = 0 then ((impl_CountFaults.f kj6 t402 t403 t404 t405).bind fun t432 => (some (bt422.2.2.2.2.2.2 == (decide (t432 ≤ 1))))) else (some (bt422.2.2.2.2.2.2 == false)))) else (none)) else (if t397 = 0 then (some (bt422.2.2.2.2.2.2 == false)) else (if t398 = 0 then ((impl_CountFaults.f kj6 t402 t403 t404 t405).bind fun t433 => (some (bt422.2.2.2.2.2.2 == (decide (t433 ≤ 1))))) else (some (bt422.2.2.2.2.2.2 == false))))))) else (if t404 = 2 then (if t410 = true then (if t405 = 0 then (if (t411 == t401) = true then (if t397 = 0 then (some (bt422.2.2.2.2.2.2 == false)) else (if t398 = 0 then ((impl_CountFaults.f kj6 t402 t403 t404 t405).bind fun t434 => (some (bt422.2.2.2.2.2.2 == (decide (t434 ≤ 1))))) else (some (bt422.2.2.2.2.2.2 == false)))) else (none)) else (if t397 = 0 then (some (bt422.2.2.2.2.2.2 == false)) else (if t398 = 0 then ((impl_CountFaults.f kj6 t402 t403 t404 t405).bind fun t435 => (some (bt422.2.2.2.2.2.2 == (decide (t435 ≤ 1))))) else (some (bt422.2.2.2.2.2.2 == false))))) else (none)) else (if t405 = 0 then (if (t411 == t401) = true then (if t397 = 0 then (some (bt422.2.2.2.2.2.2 == false)) else (if t398 = 0 then ((impl_CountFaults.f kj6 t402 t403 t404 t405).bind fun t436 => (some (bt422.2.2.2.2.2.2 == (decide (t436 ≤ 1))))) else (some (bt422.2.2.2.2.2.2 == false)))) else (none)) else (if t397 = 0 then (some (bt422.2.2.2.2.2.2 == false)) else (if t398 = 0 then ((impl_CountFaults.f kj6 t402 t403 t404 t405).bind fun t437 => (some (bt422.2.2.2.2.2.2 == (decide (t437 ≤ 1))))) else (some (bt422.2.2.2.2.2.2 == false))))))) else (none)) else (if t403 = 1 then (if t409 = true then (none) else (if t404 = 2 then (if t410 = true then (if t405 = 0 then (if (t411 == t401) = true then (if t397 = 0 then (some (bt422.2.2.2.2.2.2 == false)) else (if t398 = 0 then ((impl_CountFaults.f kj6 t402 t403 t404 t405).bind fun t438 => (some (bt422.2.2.2.2.2.2 == (decide (t438 ≤ 1))))) else (some (bt422.2.2.2.2.2.2 == false)))) else (none)) else (if t397 = 0 then (some (bt422.2.2.2.2.2.2 == false)) else (if t398 = 0 then ((impl_CountFaults.f kj6 t402 t403 t404 t405).bind fun t439 => (some (bt422.2.2.2.2.2.2 == (decide (t439 ≤ 1))))) else (some (bt422.2.2.2.2.2.2 == false))))) else (none)) else (if t405 = 0 then (if (t411 == t401) = true then (if t397 = 0 then (some (bt422.2.2.2.2.2.2 == false)) else (if t398 = 0 then ((impl_CountFaults.f kj6 t402 t403 t404 t405).bind fun t440 => (some (bt422.2.2.2.2.2.2 == (decide (t440 ≤ 1))))) else (some (bt422.2.2.2.2.2.2 == false)))) else (none)) else (if t397 = 0 then (some (bt422.2.2.2.2.2.2 == false)) else (if t398 = 0 then ((impl_CountFaults.f kj6 t402 t403 t404 t405).bind fun t441 => (some (bt422.2.2.2.2.2.2 == (decide (t441 ≤ 1))))) else (some (bt422.2.2.2.2.2.2 == false))))))) else (if t404 = 2 then (if t410 = true then (if t405 = 0 then (if (t411 == t401) = true then (if t397 = 0 then (some (bt422.2.2.2.2.2.2 == false)) else (if t398 = 0 then ((impl_CountFaults.f kj6 t402 t403 t404 t405).bind fun t442 => (some (bt422.2.2.2.2.2.2 == (decide (t442 ≤ 1))))) else (some (bt422.2.2.2.2.2.2 == false)))) else (none)) else (if t397 = 0 then (some (bt422.2.2.2.2.2.2 == false)) else (if t398 = 0 then ((impl_CountFaults.f kj6 t402 t403 t404 t405).bind fun t443 => (some (bt422.2.2.2.2.2.2 == (decide (t443 ≤ 1))))) else (some (bt422.2.2.2.2.2.2 == false))))) else (none)) else (if t405 = 0 then (if (t411 == t401) = true then (if t397 = 0 then (some (bt422.2.2.2.2.2.2 == false)) else (if t398 = 0 then ((impl_CountFaults.f kj6 t402 t403 t404 t405).bind fun t444 => (some (bt422.2.2.2.2.2.2 == (decide (t444 ≤ 1))))) else (some (bt422.2.2.2.2.2.2 == false)))) else (none)) else (if t397 = 0 then (some (bt422.2.2.2.2.2.2 == false)) else (if t398 = 0 then ((impl_CountFaults.f kj6 t402 t403 t404 t405).bind fun t445 => (some (bt422.2.2.2.2.2.2 == (decide (t445 ≤ 1))))) else (some (bt422.2.2.2.2.2.2 == false)))))))) else (some (!bt422.2.2.2.2.2.2)))) = some r := by rw [if_neg (show ¬ (false = true) by decide)] at H; exact H
     clear H
     have H := H1
     clear H1
     replace H := Option.bind_eq_some_iff.mp H
     obtain ⟨⟨t422, t423, t424, t425, t426, t427, t428⟩, A400, H⟩ := H
     replace H : (if t412 = true then (if t402 = 0 then (if (t408 == (!t400)) = true then (if t403 = 1 then (if t409 = true then (none) else (if t404 = 2 then (if t410 = true then (if t405 = 0 then (if (t411 == t401) = true then (if t397 = 0 then (some (t428 == false)) else (if t398 = 0 then ((impl_CountFaults.f kj6 t402 t403 t404 t405).bind fun t430 => (some (t428 == (decide (t430 ≤ 1))))) else (some (t428 == false)))) else (none)) else (if t397 = 0 then (some (t428 == false)) else (if t398 = 0 then ((impl_CountFaults.f kj6 t402 t403 t404 t405).bind fun t431 => (some (t428 == (decide (t431 ≤ 1))))) else (some (t428 == false))))) else (none)) else (if t405 = 0 then (if (t411 == t401) = true then (if t397 = 0 then (some (t428 == false)) else (if t398 = 0 then ((impl_CountFaults.f kj6 t402 t403 t404 t405).bind fun t432 => (some (t428 == (decide (t432 ≤ 1))))) else (some (t428 == false)))) else (none)) else (if t397 = 0 then (some (t428 == false)) else (if t398 = 0 then ((impl_CountFaults.f kj6 t402 t403 t404 t405).bind fun t433 => (some (t428 == (decide (t433 ≤ 1))))) else (some (t428 == false))))))) else (if t404 = 2 then (if t410 = true then (if t405 = 0 then (if (t411 == t401) = true then (if t397 = 0 then (some (t428 == false)) else (if t398 = 0 then ((impl_CountFaults.f kj6 t402 t403 t404 t405).bind fun t434 => (some (t428 == (decide (t434 ≤ 1))))) else (some (t428 == false)))) else (none)) else (if t397 = 0 then (some (t428 == false)) else (if t398 = 0 then ((impl_CountFaults.f kj6 t402 t403 t404 t405).bind fun t435 => (some (t428 == (decide (t435 ≤ 1))))) else (some (t428 == false))))) else (none)) else (if t405 = 0 then (if (t411 == t401) = true then (if t397 = 0 then (some (t428 == false)) else (if t398 = 0 then ((impl_CountFaults.f kj6 t402 t403 t404 t405).bind fun t436 => (some (t428 == (decide (t436 ≤ 1))))) else (some (t428 == false)))) else (none)) else (if t397 = 0 then (some (t428 == false)) else (if t398 = 0 then ((impl_CountFaults.f kj6 t402 t403 t404 t405).bind fun t437 => (some (t428 == (decide (t437 ≤ 1))))) else (some (t428 == false))))))) else (none)) else (if t403 = 1 then (if t409 = true then (none) else (if t404 = 2 then (if t410 = true then (if t405 = 0 then (if (t411 == t401) = true then (if t397 = 0 then (some (t428 == false)) else (if t398 = 0 then ((impl_CountFaults.f kj6 t402 t403 t404 t405).bind fun t438 => (some (t428 == (decide (t438 ≤ 1))))) else (some (t428 == false)))) else (none)) else (if t397 = 0 then (some (t428 == false)) else (if t398 = 0 then ((impl_CountFaults.f kj6 t402 t403 t404 t405).bind fun t439 => (some (t428 == (decide (t439 ≤ 1))))) else (some (t428 == false))))) else (none)) else (if t405 = 0 then (if (t411 == t401) = true then (if t397 = 0 then (some (t428 == false)) else (if t398 = 0 then ((impl_CountFaults.f kj6 t402 t403 t404 t405).bind fun t440 => (some (t428 == (decide (t440 ≤ 1))))) else (some (t428 == false)))) else (none)) else (if t397 = 0 then (some (t428 == false)) else (if t398 = 0 then ((impl_CountFaults.f kj6 t402 t403 t404 t405).bind fun t441 => (some (t428 == (decide (t441 ≤ 1))))) else (some (t428 == false))))))) else (if t404 = 2 then (if t410 = true then (if t405 = 0 then (if (t411 == t401) = true then (if t397 = 0 then (some (t428 == false)) else (if t398 = 0 then ((impl_CountFaults.f kj6 t402 t403 t404 t405).bind fun t442 => (some (t428 == (decide (t442 ≤ 1))))) else (some (t428 == false)))) else (none)) else (if t397 = 0 then (some (t428 == false)) else (if t398 = 0 then ((impl_CountFaults.f kj6 t402 t403 t404 t405).bind fun t443 => (some (t428 == (decide (t443 ≤ 1))))) else (some (t428 == false))))) else (none)) else (if t405 = 0 then (if (t411 == t401) = true then (if t397 = 0 then (some (t428 == false)) else (if t398 = 0 then ((impl_CountFaults.f kj6 t402 t403 t404 t405).bind fun t444 => (some (t428 == (decide (t444 ≤ 1))))) else (some (t428 == false)))) else (none)) else (if t397 = 0 then (some (t428 == false)) else (if t398 = 0 then ((impl_CountFaults.f kj6 t402 t403 t404 t405).bind fun t445 => (some (t428 == (decide (t445 ≤ 1))))) else (some (t428 == false)))))))) else (some (!t428))) = some r := H
     have A40 := aM A400
     clear A400
     refine (Classical.em (t412 = true)).elim (fun c41 => ?Lc41p) (fun c41 => ?Lc41n)
     case' Lc41p =>
      subst c41
      have H1 : (if t402 = 0 then (if (t408 == (!t400)) = true then (if t403 = 1 then (if t409 = true then (none) else (if t404 = 2 then (if t410 = true then (if t405 = 0 then (if (t411 == t401) = true then (if t397 = 0 then (some (t428 == false)) else (if t398 = 0 then ((impl_CountFaults.f kj6 t402 t403 t404 t405).bind fun t430 => (some (t428 == (decide (t430 ≤ 1))))) else (some (t428 == false)))) else (none)) else (if t397 = 0 then (some (t428 == false)) else (if t398 = 0 then ((impl_CountFaults.f kj6 t402 t403 t404 t405).bind fun t431 => (some (t428 == (decide (t431 ≤ 1))))) else (some (t428 == false))))) else (none)) else (if t405 = 0 then (if (t411 == t401) = true then (if t397 = 0 then (some (t428 == false)) else (if t398 = 0 then ((impl_CountFaults.f kj6 t402 t403 t404 t405).bind fun t432 => (some (t428 == (decide (t432 ≤ 1))))) else (some (t428 == false)))) else (none)) else (if t397 = 0 then (some (t428 == false)) else (if t398 = 0 then ((impl_CountFaults.f kj6 t402 t403 t404 t405).bind fun t433 => (some (t428 == (decide (t433 ≤ 1))))) else (some (t428 == false))))))) else (if t404 = 2 then (if t410 = true then (if t405 = 0 then (if (t411 == t401) = true then (if t397 = 0 then (some (t428 == false)) else (if t398 = 0 then ((impl_CountFaults.f kj6 t402 t403 t404 t405).bind fun t434 => (some (t428 == (decide (t434 ≤ 1))))) else (some (t428 == false)))) else (none)) else (if t397 = 0 then (some (t428 == false)) else (if t398 = 0 then ((impl_CountFaults.f kj6 t402 t403 t404 t405).bind fun t435 => (some (t428 == (decide (t435 ≤ 1))))) else (some (t428 == false))))) else (none)) else (if t405 = 0 then (if (t411 == t401) = true then (if t397 = 0 then (some (t428 == false)) else (if t398 = 0 then ((impl_CountFaults.f kj6 t402 t403 t404 t405).bind fun t436 => (some (t428 == (decide (t436 ≤ 1))))) else (some (t428 == false)))) else (none)) else (if t397 = 0 then (some (t428 == false)) else (if t398 = 0 then ((impl_CountFaults.f kj6 t402 t403 t404 t405).bind fun t437 => (some (t428 == (decide (t437 ≤ 1))))) else (some (t428 == false))))))) else (none)) else (if t403 = 1 then (if t409 = true then (none) else (if t404 = 2 then (if t410 = true then (if t405 = 0 then (if (t411 == t401) = true then (if t397 = 0 then (some (t428 == false)) else (if t398 = 0 then ((impl_CountFaults.f kj6 t402 t403 t404 t405).bind fun t438 => (some (t428 == (decide (t438 ≤ 1))))) else (some (t428 == false)))) else (none)) else (if t397 = 0 then (some (t428 == false)) else (if t398 = 0 then ((impl_CountFaults.f kj6 t402 t403 t404 t405).bind fun t439 => (some (t428 == (decide (t439 ≤ 1))))) else (some (t428 == false))))) else (none)) else (if t405 = 0 then (if (t411 == t401) = true then (if t397 = 0 then (some (t428 == false)) else (if t398 = 0 then ((impl_CountFaults.f kj6 t402 t403 t404 t405).bind fun t440 => (some (t428 == (decide (t440 ≤ 1))))) else (some (t428 == false)))) else (none)) else (if t397 = 0 then (some (t428 == false)) else (if t398 = 0 then ((impl_CountFaults.f kj6 t402 t403 t404 t405).bind fun t441 => (some (t428 == (decide (t441 ≤ 1))))) else (some (t428 == false))))))) else (if t404 = 2 then (if t410 = true then (if t405 = 0 then (if (t411 == t401) = true then (if t397 = 0 then (some (t428 == false)) else (if t398 = 0 then ((impl_CountFaults.f kj6 t402 t403 t404 t405).bind fun t442 => (some (t428 == (decide (t442 ≤ 1))))) else (some (t428 == false)))) else (none)) else (if t397 = 0 then (some (t428 == false)) else (if t398 = 0 then ((impl_CountFaults.f kj6 t402 t403 t404 t405).bind fun t443 => (some (t428 == (decide (t443 ≤ 1))))) else (some (t428 == false))))) else (none)) else (if t405 = 0 then (if (t411 == t401) = true then (if t397 = 0 then (some (t428 == false)) else (if t398 = 0 then ((impl_CountFaults.f kj6 t402 t403 t404 t405).bind fun t444 => (some (t428 == (decide (t444 ≤ 1))))) else (some (t428 == false)))) else (none)) else (if t397 = 0 then (some (t428 == false)) else (if t398 = 0 then ((impl_CountFaults.f kj6 t402 t403 t404 t405).bind fun t445 => (some (t428 == (decide (t445 ≤ 1))))) else (some (t428 == false)))))))) = some r := by rw [if_pos rfl] at H; exact H
      clear H
      have H := H1
      clear H1
      refine (Classical.em (t402 = 0)).elim (fun c42 => ?Lc42p) (fun c42 => ?Lc42n)
      case' Lc42p =>
       exact absurd c42 HQ1.out
      case' Lc42n =>
       rw [if_neg c42] at H
       have c42b0 : (t402 == 0) = false := beq_eq_false_iff_ne.mpr c42
       have c42b1 : (t402 != 0) = true := bne_iff_ne.mpr c42
       refine (Classical.em (t403 = 1)).elim (fun c522 => ?Lc522p) (fun c522 => ?Lc522n)
       case' Lc522p =>
        exact absurd c522 HQ2.out
       case' Lc522n =>
        rw [if_neg c522] at H
        have c522b0 : (t403 == 1) = false := beq_eq_false_iff_ne.mpr c522
        have c522b1 : (t403 != 1) = true := bne_iff_ne.mpr c522
        refine (Classical.em (t404 = 2)).elim (fun c762 => ?Lc762p) (fun c762 => ?Lc762n)
        case' Lc762p =>
         rw [if_pos c762] at H
         have c762b0 : (t404 == 2) = true := beq_iff_eq.mpr c762
         have c762b1 : (t404 != 2) = false := bne_eq_false_iff_eq.mpr c762
         clear c762
         refine (Classical.em (t410 = true)).elim (fun c763 => ?Lc763p) (fun c763 => ?Lc763n)
         case' Lc763p =>
          subst c763
          have H1 : (if t405 = 0 then (if (t411 == t401) = true then (if t397 = 0 then (some (t428 == false)) else (if t398 = 0 then ((impl_CountFaults.f kj6 t402 t403 t404 t405).bind fun t442 => (some (t428 == (decide (t442 ≤ 1))))) else (some (t428 == false)))) else (none)) else (if t397 = 0 then (some (t428 == false)) else (if t398 = 0 then ((impl_CountFaults.f kj6 t402 t403 t404 t405).bind fun t443 => (some (t428 == (decide (t443 ≤ 1))))) else (some (t428 == false))))) = some r := by rw [if_pos rfl] at H; exact H
          clear H
          have H := H1
          clear H1
          refine (Classical.em (t405 = 0)).elim (fun c764 => ?Lc764p) (fun c764 => ?Lc764n)
          case' Lc764p =>
           rw [if_pos c764] at H
           have c764b0 : (t405 == 0) = true := beq_iff_eq.mpr c764
           have c764b1 : (t405 != 0) = false := bne_eq_false_iff_eq.mpr c764
           clear c764
           refine (Classical.em ((t411 == t401) = true)).elim (fun c765 => ?Lc765p) (fun c765 => ?Lc765n)
           case' Lc765p =>
            rw [if_pos c765] at H
            have c765b0 : (t411 == t401) = true := c765
            (try (have c765b1 : decide (t411 = t401) = true := by simpa using c765))
            (try (have c765b2 : (t411 == t401) = true := by simpa using c765))
            try clear c645b0
            clear c765
            refine (Classical.em (t397 = 0)).elim (fun c766 => ?Lc766p) (fun c766 => ?Lc766n)
            case' Lc766p =>
             rw [if_pos c766] at H
             have c766b0 : (t397 == 0) = true := beq_iff_eq.mpr c766
             have c766b1 : (t397 != 0) = false := bne_eq_false_iff_eq.mpr c766
             clear c766
             obtain rfl := Option.some.inj H
            case' Lc766n =>
             rw [if_neg c766] at H
             have c766b0 : (t397 == 0) = false := beq_eq_false_iff_ne.mpr c766
             have c766b1 : (t397 != 0) = true := bne_iff_ne.mpr c766
             refine (Classical.em (t398 = 0)).elim (fun c785 => ?Lc785p) (fun c785 => ?Lc785n)
             case' Lc785p =>
              rw [if_pos c785] at H
              have c785b0 : (t398 == 0) = true := beq_iff_eq.mpr c785
              have c785b1 : (t398 != 0) = false := bne_eq_false_iff_eq.mpr c785
              clear c785
              replace H := Option.bind_eq_some_iff.mp H
              obtain ⟨tq, Aq0, H⟩ := H
              replace H : (some (t428 == (decide (tq ≤ 1)))) = some r := H
              have Aq := aM Aq0
              clear Aq0
              obtain rfl := Option.some.inj H
             case' Lc785n =>
              rw [if_neg c785] at H
              have c785b0 : (t398 == 0) = false := beq_eq_false_iff_ne.mpr c785
              have c785b1 : (t398 != 0) = true := bne_iff_ne.mpr c785
              obtain rfl := Option.some.inj H
           case' Lc765n =>
            rw [if_neg c765] at H
            exact absurd H (by simp)
          case' Lc764n =>
           rw [if_neg c764] at H
           have c764b0 : (t405 == 0) = false := beq_eq_false_iff_ne.mpr c764
           have c764b1 : (t405 != 0) = true := bne_iff_ne.mpr c764
           refine (Classical.em (t397 = 0)).elim (fun c824 => ?Lc824p) (fun c824 => ?Lc824n)
           case' Lc824p =>
            rw [if_pos c824] at H
            have c824b0 : (t397 == 0) = true := beq_iff_eq.mpr c824
            have c824b1 : (t397 != 0) = false := bne_eq_false_iff_eq.mpr c824
            clear c824
            obtain rfl := Option.some.inj H
           case' Lc824n =>
            rw [if_neg c824] at H
            have c824b0 : (t397 == 0) = false := beq_eq_false_iff_ne.mpr c824
            have c824b1 : (t397 != 0) = true := bne_iff_ne.mpr c824
            refine (Classical.em (t398 = 0)).elim (fun c843 => ?Lc843p) (fun c843 => ?Lc843n)
            case' Lc843p =>
             rw [if_pos c843] at H
             have c843b0 : (t398 == 0) = true := beq_iff_eq.mpr c843
             have c843b1 : (t398 != 0) = false := bne_eq_false_iff_eq.mpr c843
             clear c843
             replace H := Option.bind_eq_some_iff.mp H
             obtain ⟨tq, Aq0, H⟩ := H
             replace H : (some (t428 == (decide (tq ≤ 1)))) = some r := H
             have Aq := aM Aq0
             clear Aq0
             obtain rfl := Option.some.inj H
            case' Lc843n =>
             rw [if_neg c843] at H
             have c843b0 : (t398 == 0) = false := beq_eq_false_iff_ne.mpr c843
             have c843b1 : (t398 != 0) = true := bne_iff_ne.mpr c843
             obtain rfl := Option.some.inj H
         case' Lc763n =>
          replace c763 := Bool.eq_false_iff.mpr c763
          subst c763
          have H1 : (none) = some r := by rw [if_neg (show ¬ (false = true) by decide)] at H; exact H
          clear H
          have H := H1
          clear H1
          exact absurd H (by simp)
        case' Lc762n =>
         rw [if_neg c762] at H
         have c762b0 : (t404 == 2) = false := beq_eq_false_iff_ne.mpr c762
         have c762b1 : (t404 != 2) = true := bne_iff_ne.mpr c762
         refine (Classical.em (t405 = 0)).elim (fun c882 => ?Lc882p) (fun c882 => ?Lc882n)
         case' Lc882p =>
          rw [if_pos c882] at H
          have c882b0 : (t405 == 0) = true := beq_iff_eq.mpr c882
          have c882b1 : (t405 != 0) = false := bne_eq_false_iff_eq.mpr c882
          clear c882
          refine (Classical.em ((t411 == t401) = true)).elim (fun c883 => ?Lc883p) (fun c883 => ?Lc883n)
          case' Lc883p =>
           rw [if_pos c883] at H
           have c883b0 : (t411 == t401) = true := c883
           (try (have c883b1 : decide (t411 = t401) = true := by simpa using c883))
           (try (have c883b2 : (t411 == t401) = true := by simpa using c883))
           try clear c765b0
           clear c883
           refine (Classical.em (t397 = 0)).elim (fun c884 => ?Lc884p) (fun c884 => ?Lc884n)
           case' Lc884p =>
            rw [if_pos c884] at H
            have c884b0 : (t397 == 0) = true := beq_iff_eq.mpr c884
            have c884b1 : (t397 != 0) = false := bne_eq_false_iff_eq.mpr c884
            clear c884
            obtain rfl := Option.some.inj H
           case' Lc884n =>
            rw [if_neg c884] at H
            have c884b0 : (t397 == 0) = false := beq_eq_false_iff_ne.mpr c884
            have c884b1 : (t397 != 0) = true := bne_iff_ne.mpr c884
            refine (Classical.em (t398 = 0)).elim (fun c903 => ?Lc903p) (fun c903 => ?Lc903n)
            case' Lc903p =>
             rw [if_pos c903] at H
             have c903b0 : (t398 == 0) = true := beq_iff_eq.mpr c903
             have c903b1 : (t398 != 0) = false := bne_eq_false_iff_eq.mpr c903
             clear c903
             replace H := Option.bind_eq_some_iff.mp H
             obtain ⟨tq, Aq0, H⟩ := H
             replace H : (some (t428 == (decide (tq ≤ 1)))) = some r := H
             have Aq := aM Aq0
             clear Aq0
             obtain rfl := Option.some.inj H
            case' Lc903n =>
             rw [if_neg c903] at H
             have c903b0 : (t398 == 0) = false := beq_eq_false_iff_ne.mpr c903
             have c903b1 : (t398 != 0) = true := bne_iff_ne.mpr c903
             obtain rfl := Option.some.inj H
          case' Lc883n =>
           rw [if_neg c883] at H
           exact absurd H (by simp)
         case' Lc882n =>
          rw [if_neg c882] at H
          have c882b0 : (t405 == 0) = false := beq_eq_false_iff_ne.mpr c882
          have c882b1 : (t405 != 0) = true := bne_iff_ne.mpr c882
          refine (Classical.em (t397 = 0)).elim (fun c942 => ?Lc942p) (fun c942 => ?Lc942n)
          case' Lc942p =>
           rw [if_pos c942] at H
           have c942b0 : (t397 == 0) = true := beq_iff_eq.mpr c942
           have c942b1 : (t397 != 0) = false := bne_eq_false_iff_eq.mpr c942
           clear c942
           obtain rfl := Option.some.inj H
          case' Lc942n =>
           rw [if_neg c942] at H
           have c942b0 : (t397 == 0) = false := beq_eq_false_iff_ne.mpr c942
           have c942b1 : (t397 != 0) = true := bne_iff_ne.mpr c942
           refine (Classical.em (t398 = 0)).elim (fun c959 => ?Lc959p) (fun c959 => ?Lc959n)
           case' Lc959p =>
            rw [if_pos c959] at H
            have c959b0 : (t398 == 0) = true := beq_iff_eq.mpr c959
            have c959b1 : (t398 != 0) = false := bne_eq_false_iff_eq.mpr c959
            clear c959
            replace H := Option.bind_eq_some_iff.mp H
            obtain ⟨tq, Aq0, H⟩ := H
            replace H : (some (t428 == (decide (tq ≤ 1)))) = some r := H
            have Aq := aM Aq0
            clear Aq0
            obtain rfl := Option.some.inj H
           case' Lc959n =>
            rw [if_neg c959] at H
            have c959b0 : (t398 == 0) = false := beq_eq_false_iff_ne.mpr c959
            have c959b1 : (t398 != 0) = true := bne_iff_ne.mpr c959
            obtain rfl := Option.some.inj H
     case' Lc41n =>
      replace c41 := Bool.eq_false_iff.mpr c41
      subst c41
      have H1 : (some (!t428)) = some r := by rw [if_neg (show ¬ (false = true) by decide)] at H; exact H
      clear H
      have H := H1
      clear H1
      obtain rfl := Option.some.inj H
     all_goals
      focus
       have hnb71 := NB406_407.out
       have hnc71 := NB407_406.out
       have hnb72 := NB406_413.out
       have hnc72 := NB413_406.out
       have hnb73 := NB406_419.out
       have hnc73 := NB419_406.out
       obtain ⟨hcz74_0, hcz74_1, hcz74_2, hcz74_3, hcz74_4, hfz74_0, hfz74_1, hfz74_2, hfz74_3, hfz74_4⟩ := cells5 BK406.out
       have hnb75 := NB407_413.out
       have hnc75 := NB413_407.out
       have hnb76 := NB407_419.out
       have hnc76 := NB419_407.out
       obtain ⟨hcz77_0, hcz77_1, hcz77_2, hcz77_3, hfz77_0, hfz77_1, hfz77_2, hfz77_3⟩ := cells4 BK407.out
       go_wp2_with (first | ((with_reducible refine gate_callee (f := 25) rfl ?_); refine goesL_ (some 49) rfl rfl Try.func25 (by kernel_rfl) rfl #[.agg #[.int .i64 t397, .int .i64 t398, .bool t399, .bool t400, .bool t401], .agg #[.int .i64 t402, .int .i64 t403, .int .i64 t404, .int .i64 t405]] rfl za ?_; (with_reducible refine (impl_Recover.calls kj6 t397 t398 t399 t400 t401 t402 t403 t404 t405 t422 t423 t424 t425 t426 t427 t428 _ A40.out).mono ?_); rintro e w78 ⟨rfl, hb⟩; refine ⟨_, rfl, ?_⟩; have n0_ := aM (bb BK406.out hb); have n1_ := aM (bb BK407.out hb); have n2_ := aM (bb BK413.out hb); have n3_ := aM (bb BK419.out hb); have n4_ := aM (below_step (zb) hb); clear BK406; clear BK407; clear BK413; clear BK419; clear HB; have BK406 := n0_; have BK407 := n1_; have BK413 := n2_; have BK419 := n3_; have HB := n4_; clear n0_ n1_ n2_ n3_ n4_; (try clear hb); (try clear hb2); (try clear hk); (try clear hi)) | ((with_reducible refine gate_dst (N := 9) rfl ?_); refine box_event ?hg (N := 9) ?hd (cs := #[.int .i64 0, .int .i64 0, .bool false, .bool false, .bool false]) (t := 24) ?hr ?_; (case hd => rfl); (case hg => rfl); (case hr => exact zg); intro gb429 hg w79 hbox hb; have n0_ := aM (bb BK406.out hb); have n1_ := aM (bb BK407.out hb); have n2_ := aM (bb BK413.out hb); have n3_ := aM (bb BK419.out hb); have n4_ := aM (below_step (zb) hb); have n5_ := aM (hbox); have n6_ := aM ((by rw [hg]; exact (below_size (zb)) : w.heap.size ≤ gb429)); have n7_ := aM ((by rw [hg]; exact (below_size (zb)) : w.heap.size ≤ gb429)); have n8_ := aM ((by rw [hg]; exact Nat.ne_of_lt (nl BK406.out) : gb406 ≠ gb429)); have n9_ := aM ((by rw [hg]; exact Nat.ne_of_gt (nl BK406.out) : gb429 ≠ gb406)); have n10_ := aM ((by rw [hg]; exact Nat.ne_of_lt (nl BK407.out) : gb407 ≠ gb429)); have n11_ := aM ((by rw [hg]; exact Nat.ne_of_gt (nl BK407.out) : gb429 ≠ gb407)); have n12_ := aM ((by rw [hg]; exact Nat.ne_of_lt (nl BK413.out) : gb413 ≠ gb429)); have n13_ := aM ((by rw [hg]; exact Nat.ne_of_gt (nl BK413.out) : gb429 ≠ gb413)); have n14_ := aM ((by rw [hg]; exact Nat.ne_of_lt (nl BK419.out) : gb419 ≠ gb429)); have n15_ := aM ((by rw [hg]; exact Nat.ne_of_gt (nl BK419.out) : gb429 ≠ gb419)); clear BK406; clear BK407; clear BK413; clear BK419; clear HB; have BK406 := n0_; have BK407 := n1_; have BK413 := n2_; have BK419 := n3_; have HB := n4_; have BK429 := n5_; have GW429 := n6_; have GE429 := n7_; have NB406_429 := n8_; have NB429_406 := n9_; have NB407_429 := n10_; have NB429_407 := n11_; have NB413_429 := n12_; have NB429_413 := n13_; have NB419_429 := n14_; have NB429_419 := n15_; clear n0_ n1_ n2_ n3_ n4_ n5_ n6_ n7_ n8_ n9_ n10_ n11_ n12_ n13_ n14_ n15_; clear hb hbox hg; have hnb80 := NB429_406.out; have hnc80 := NB406_429.out; have hnb81 := NB429_407.out; have hnc81 := NB407_429.out; have hnb82 := NB429_413.out; have hnc82 := NB413_429.out; have hnb83 := NB429_419.out; have hnc83 := NB419_429.out; obtain ⟨hcz84_0, hcz84_1, hcz84_2, hcz84_3, hcz84_4, hfz84_0, hfz84_1, hfz84_2, hfz84_3, hfz84_4⟩ := cells5 BK429.out; obtain ⟨hcz85_0, hcz85_1, hcz85_2, hcz85_3, hfz85_0, hfz85_1, hfz85_2, hfz85_3⟩ := cells4 BK407.out; have hnb86 := NB413_419.out; have hnc86 := NB419_413.out; obtain ⟨hcz87_0, hcz87_1, hcz87_2, hcz87_3, hfz87_0, hfz87_1, hfz87_2, hfz87_3⟩ := cells4 BK413.out; obtain ⟨hcz88_0, hcz88_1, hcz88_2, hcz88_3, hcz88_4, hfz88_0, hfz88_1, hfz88_2, hfz88_3, hfz88_4⟩ := cells5 BK406.out) | (go_at_call 38; (with_reducible refine (impl_CountFaults.calls kj6 t402 t403 t404 t405 tq _ Aq.out).mono ?_); rintro e w89 ⟨rfl, hb⟩; have n0_ := aM (blk_below (g := gb406) (o := .cells #[.int .i64 t397, .int .i64 t398, .bool t399, .bool t400, .bool t401] 24 (0, 0)) (by refine pq ?_; refine blk_far ?_ NB406_429.out _; refine pq ?_; refine blk_far ?_ NB406_429.out _; refine pq ?_; refine blk_far ?_ NB406_429.out _; refine pq ?_; refine blk_far ?_ NB406_429.out _; refine pq ?_; refine blk_far ?_ NB406_429.out _; refine pq ?_; exact BK406.out) hb); have n1_ := aM (blk_below (g := gb407) (o := .cells #[.int .i64 t402, .int .i64 t403, .int .i64 t404, .int .i64 t405] 37 (0, 0)) (by refine pq ?_; refine blk_far ?_ NB407_429.out _; refine pq ?_; refine blk_far ?_ NB407_429.out _; refine pq ?_; refine blk_far ?_ NB407_429.out _; refine pq ?_; refine blk_far ?_ NB407_429.out _; refine pq ?_; refine blk_far ?_ NB407_429.out _; refine pq ?_; exact BK407.out) hb); have n2_ := aM (blk_below (g := gb413) (o := .cells #[.bool t408, .bool _, .bool _, .bool t411] 50 (0, 0)) (by refine pq ?_; refine blk_far ?_ NB413_429.out _; refine pq ?_; refine blk_far ?_ NB413_429.out _; refine pq ?_; refine blk_far ?_ NB413_429.out _; refine pq ?_; refine blk_far ?_ NB413_429.out _; refine pq ?_; refine blk_far ?_ NB413_429.out _; refine pq ?_; exact BK413.out) hb); have n3_ := aM (blk_below (g := gb419) (o := .cells #[.bool t414, .bool t415, .bool t416, .bool t417] 50 (0, 0)) (by refine pq ?_; refine blk_far ?_ NB419_429.out _; refine pq ?_; refine blk_far ?_ NB419_429.out _; refine pq ?_; refine blk_far ?_ NB419_429.out _; refine pq ?_; refine blk_far ?_ NB419_429.out _; refine pq ?_; refine blk_far ?_ NB419_429.out _; refine pq ?_; exact BK419.out) hb); have n4_ := aM (blk_below (g := gb429) (o := .cells #[.int .i64 t422, .int .i64 t423, .bool t424, .bool t425, .bool t426] 24 (0, 0)) (by refine pq ?_; refine blk_put (cs := #[.int .i64 t422, .int .i64 t423, .bool t424, .bool t425, .bool false]) ?_ 4 _ rfl; refine pq ?_; refine blk_put (cs := #[.int .i64 t422, .int .i64 t423, .bool t424, .bool false, .bool false]) ?_ 3 _ rfl; refine pq ?_; refine blk_put (cs := #[.int .i64 t422, .int .i64 t423, .bool false, .bool false, .bool false]) ?_ 2 _ rfl; refine pq ?_; refine blk_put (cs := #[.int .i64 t422, .int .i64 0, .bool false, .bool false, .bool false]) ?_ 1 _ rfl; refine pq ?_; refine blk_put (cs := #[.int .i64 0, .int .i64 0, .bool false, .bool false, .bool false]) ?_ 0 _ rfl; refine pq ?_; exact BK429.out) hb); have n5_ := aM (below_step (zb) hb); clear BK406; clear BK407; clear BK413; clear BK419; clear BK429; clear HB; have BK406 := n0_; have BK407 := n1_; have BK413 := n2_; have BK419 := n3_; have BK429 := n4_; have HB := n5_; clear n0_ n1_ n2_ n3_ n4_ n5_; (try clear hb); (try clear hb2); (try clear hk); (try clear hi)))
       go_ret
       exact ⟨zr, zb⟩

end Go.Proofs.Ytglpkjcblpjnoab.QFnSigns
