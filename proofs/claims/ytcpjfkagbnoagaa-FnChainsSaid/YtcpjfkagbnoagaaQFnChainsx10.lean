-- Printed functions and their walks: by print.py, turned by wip/tools/myprint.py.
import Derived.Test.YtcpjfkagbnoagaaQFnChainsx0
import Derived.Test.YtcpjfkagbnoagaaQFnChainsx1
import Derived.Test.YtcpjfkagbnoagaaQFnChainsx3
import Derived.Test.YtcpjfkagbnoagaaQFnChainsx5
import Derived.Test.YtcpjfkagbnoagaaQFnChainsx8
import Derived.Test.YtcpjfkagbnoagaaQFnChainsx9
namespace Go.Proofs.Ytcpjfkagbnoagaa.QFnChains
open Go.RowKit Go.Proofs.YtcpjfkagbnoagaaW.PrintWords Go.Proofs.YtcpjfkagbnoagaaW.PrintLast Go.Proofs.YtcpjfkagbnoagaaW.PrintMore
attribute [local go_sem] max2_int min2_int max_two min_two max_three min_three max_four min_four   -- for this text's walks alone
set_option linter.unusedVariables false
set_option linter.unusedSimpArgs false

/-! ### laws_FnChains: function 8 -/
mutual
def laws_FnChains.j0 : Nat → List (S25) → Int → Int → Int → Int → List Int → Bool → Bool → Option (Bool)
 | 0, _, _, _, _, _, _, _, _ => none
 | k + 1, x3, x4, x5, x6, x7, x8, x9, x62 => if x62 = true then (none) else ((spec_GrantsOk.f k x3).bind fun t390 => (if t390 = true then (if x4 < 1 then (laws_FnChains.j1 k x3 x4 x5 x6 x7 x8 x9 true) else (if x4 > 40 then (laws_FnChains.j1 k x3 x4 x5 x6 x7 x8 x9 true) else (if x5 < 1 then (laws_FnChains.j1 k x3 x4 x5 x6 x7 x8 x9 true) else (if x5 > 40 then (laws_FnChains.j1 k x3 x4 x5 x6 x7 x8 x9 true) else (if x6 < 1 then (laws_FnChains.j1 k x3 x4 x5 x6 x7 x8 x9 true) else (if x6 > 999 then (laws_FnChains.j1 k x3 x4 x5 x6 x7 x8 x9 true) else (if x7 < 0 then (laws_FnChains.j1 k x3 x4 x5 x6 x7 x8 x9 true) else (laws_FnChains.j1 k x3 x4 x5 x6 x7 x8 x9 (decide (x7 > 20000)))))))))) else (laws_FnChains.j1 k x3 x4 x5 x6 x7 x8 x9 true)))
def laws_FnChains.j1 : Nat → List (S25) → Int → Int → Int → Int → List Int → Bool → Bool → Option (Bool)
 | 0, _, _, _, _, _, _, _, _ => none
 | k + 1, x3, x4, x5, x6, x7, x8, x9, x97 => if x97 = true then (some (!x9)) else (if (x3.length : Int) > 12 then (some true) else (laws_FnChains.l0 k x3 x4 x5 x6 x7 x8 x9 (-1) 6))
def laws_FnChains.l0 : Nat → List (S25) → Int → Int → Int → Int → List Int → Bool → Int → Int → Option (Bool)
 | 0, _, _, _, _, _, _, _, _, _ => none
 | k + 1, x3, x4, x5, x6, x7, x8, x9, x12, x13 => if x13 ≥ 0 then ((laws_leads.f k x3 x4 x5 x6 x7 x13).bind fun t391 => (if t391 = true then (laws_FnChains.l0 k x3 x4 x5 x6 x7 x8 x9 x13 (wrap64 (x13 - 1))) else (laws_FnChains.l0 k x3 x4 x5 x6 x7 x8 x9 x12 (wrap64 (x13 - 1))))) else (if (x9 != (decide (x12 ≥ 0))) = true then (laws_FnChains.j3 k x3 x4 x5 x6 x7 x8 x9 true) else (if x9 = true then (laws_FnChains.j3 k x3 x4 x5 x6 x7 x8 x9 ((x8.length : Int) != x12)) else (laws_FnChains.j3 k x3 x4 x5 x6 x7 x8 x9 false)))
def laws_FnChains.j3 : Nat → List (S25) → Int → Int → Int → Int → List Int → Bool → Bool → Option (Bool)
 | 0, _, _, _, _, _, _, _, _ => none
 | k + 1, x3, x4, x5, x6, x7, x8, x9, x127 => if x127 = true then (none) else (laws_FnChains.l1 k x3 x5 x6 x7 x8 x9 x4 0)
def laws_FnChains.l1 : Nat → List (S25) → Int → Int → Int → List Int → Bool → Int → Int → Option (Bool)
 | 0, _, _, _, _, _, _, _, _ => none
 | k + 1, x3, x5, x6, x7, x8, x9, x14, x15 => if x15 < (x8.length : Int) then (if 0 ≤ x15 then (if (rd x8 x15) < 0 then (none) else (if (rd x8 x15) ≥ (x3.length : Int) then (none) else (if 0 ≤ (rd x8 x15) then (if (rd x8 x15) < (x3.length : Int) then (if ((rd_T25 x3 (rd x8 x15)).f0) = x14 then ((impl_Applies.f ((rd_T25 x3 (rd x8 x15)).f0) ((rd_T25 x3 (rd x8 x15)).f1) ((rd_T25 x3 (rd x8 x15)).f2) ((rd_T25 x3 (rd x8 x15)).f3) ((rd_T25 x3 (rd x8 x15)).f4) ((rd_T25 x3 (rd x8 x15)).f5) ((rd_T25 x3 (rd x8 x15)).f6) x6 x7).bind fun t398 => (if t398 = true then (if ((rd_T25 x3 (rd x8 x15)).f3) < (wrap64 ((wrap64 ((x8.length : Int) - 1)) - x15)) then (none) else (laws_FnChains.l1 k x3 x5 x6 x7 x8 x9 ((rd_T25 x3 (rd x8 x15)).f1) (wrap64 (x15 + 1)))) else (none))) else (none)) else (none)) else (none)))) else (none)) else (if x9 = true then (some (x14 == x5)) else (some true))
end
def laws_FnChains.f (k : Nat) (l0 : List Int) : Option (Bool) := (laws_big.f l0).bind fun t372 => (if t372 = true then (some true) else ((spec_DrawChainOf.f k l0).bind fun bt373 => ((impl_ChainOf.f k bt373.1 bt373.2.1 bt373.2.2.1 bt373.2.2.2.1 bt373.2.2.2.2).bind fun bt380 => ((spec_ChainOf.f k bt373.1 bt373.2.1 bt373.2.2.1 bt373.2.2.2.1 bt373.2.2.2.2).bind fun bt384 => (if (bt380.2 != bt384.2) = true then (laws_FnChains.j0 k bt373.1 bt373.2.1 bt373.2.2.1 bt373.2.2.2.1 bt373.2.2.2.2 bt380.1 bt380.2 true) else ((laws_sameInts.f k bt380.1 bt384.1).bind fun t388 => (if t388 = true then ((impl_MayTake.f k bt373.1 bt373.2.1 bt373.2.2.1 bt373.2.2.2.1 bt373.2.2.2.2).bind fun t389 => (laws_FnChains.j0 k bt373.1 bt373.2.1 bt373.2.2.1 bt373.2.2.2.1 bt373.2.2.2.2 bt380.1 bt380.2 (t389 != bt380.2))) else (laws_FnChains.j0 k bt373.1 bt373.2.1 bt373.2.2.1 bt373.2.2.2.1 bt373.2.2.2.2 bt380.1 bt380.2 true))))))))
theorem laws_FnChains.mono_l : ∀ k, (∀ y0 y1 y2 y3 y4 y5 y6 y7, LeO (laws_FnChains.j0 k y0 y1 y2 y3 y4 y5 y6 y7) (laws_FnChains.j0 (k + 1) y0 y1 y2 y3 y4 y5 y6 y7)) ∧ (∀ y0 y1 y2 y3 y4 y5 y6 y7, LeO (laws_FnChains.j1 k y0 y1 y2 y3 y4 y5 y6 y7) (laws_FnChains.j1 (k + 1) y0 y1 y2 y3 y4 y5 y6 y7)) ∧ (∀ y0 y1 y2 y3 y4 y5 y6 y7 y8, LeO (laws_FnChains.l0 k y0 y1 y2 y3 y4 y5 y6 y7 y8) (laws_FnChains.l0 (k + 1) y0 y1 y2 y3 y4 y5 y6 y7 y8)) ∧ (∀ y0 y1 y2 y3 y4 y5 y6 y7, LeO (laws_FnChains.j3 k y0 y1 y2 y3 y4 y5 y6 y7) (laws_FnChains.j3 (k + 1) y0 y1 y2 y3 y4 y5 y6 y7)) ∧ (∀ y0 y1 y2 y3 y4 y5 y6 y7, LeO (laws_FnChains.l1 k y0 y1 y2 y3 y4 y5 y6 y7) (laws_FnChains.l1 (k + 1) y0 y1 y2 y3 y4 y5 y6 y7))
 | 0 => ⟨fun _ _ _ _ _ _ _ _ r h => by simp [laws_FnChains.j0] at h, fun _ _ _ _ _ _ _ _ r h => by simp [laws_FnChains.j1] at h, fun _ _ _ _ _ _ _ _ _ r h => by simp [laws_FnChains.l0] at h, fun _ _ _ _ _ _ _ _ r h => by simp [laws_FnChains.j3] at h, fun _ _ _ _ _ _ _ _ r h => by simp [laws_FnChains.l1] at h⟩
 | k + 1 => by
  obtain ⟨ih0, ih1, ih2, ih3, ih4⟩ := laws_FnChains.mono_l k
  refine ⟨?_, ?_, ?_, ?_, ?_⟩
  ·intro y0 y1 y2 y3 y4 y5 y6 y7
   unfold laws_FnChains.j0
   repeat' first
   | (with_reducible exact ih0 _ _ _ _ _ _ _ _)
   | (with_reducible exact ih1 _ _ _ _ _ _ _ _)
   | (with_reducible exact ih2 _ _ _ _ _ _ _ _ _)
   | (with_reducible exact ih3 _ _ _ _ _ _ _ _)
   | (with_reducible exact ih4 _ _ _ _ _ _ _ _)
   | (with_reducible exact impl_ChainOf.mono _ _ _ _ _ _)
   | (with_reducible exact impl_MayTake.mono _ _ _ _ _ _)
   | (with_reducible exact laws_leads.mono _ _ _ _ _ _ _)
   | (with_reducible exact laws_sameInts.mono _ _ _)
   | (with_reducible exact spec_ChainOf.mono _ _ _ _ _ _)
   | (with_reducible exact spec_DrawChainOf.mono _ _)
   | (with_reducible exact spec_GrantsOk.mono _ _)
   | (with_reducible exact LeO.refl _)
   | (with_reducible exact LeO.none _)
   | (with_reducible refine LeO.ite ?_ ?_)
   | (with_reducible refine LeO.bind ?_ (fun _ => ?_))
   | exact ih0 _ _ _ _ _ _ _ _
   | exact ih1 _ _ _ _ _ _ _ _
   | exact ih2 _ _ _ _ _ _ _ _ _
   | exact ih3 _ _ _ _ _ _ _ _
   | exact ih4 _ _ _ _ _ _ _ _
   | exact impl_ChainOf.mono _ _ _ _ _ _
   | exact impl_MayTake.mono _ _ _ _ _ _
   | exact laws_leads.mono _ _ _ _ _ _ _
   | exact laws_sameInts.mono _ _ _
   | exact spec_ChainOf.mono _ _ _ _ _ _
   | exact spec_DrawChainOf.mono _ _
   | exact spec_GrantsOk.mono _ _
   | exact LeO.none _
   | refine LeO.ite ?_ ?_
   | refine LeO.bind ?_ (fun _ => ?_)
  ·intro y0 y1 y2 y3 y4 y5 y6 y7
   unfold laws_FnChains.j1
   repeat' first
   | (with_reducible exact ih0 _ _ _ _ _ _ _ _)
   | (with_reducible exact ih1 _ _ _ _ _ _ _ _)
   | (with_reducible exact ih2 _ _ _ _ _ _ _ _ _)
   | (with_reducible exact ih3 _ _ _ _ _ _ _ _)
   | (with_reducible exact ih4 _ _ _ _ _ _ _ _)
   | (with_reducible exact impl_ChainOf.mono _ _ _ _ _ _)
   | (with_reducible exact impl_MayTake.mono _ _ _ _ _ _)
   | (with_reducible exact laws_leads.mono _ _ _ _ _ _ _)
   | (with_reducible exact laws_sameInts.mono _ _ _)
   | (with_reducible exact spec_ChainOf.mono _ _ _ _ _ _)
   | (with_reducible exact spec_DrawChainOf.mono _ _)
   | (with_reducible exact spec_GrantsOk.mono _ _)
   | (with_reducible exact LeO.refl _)
   | (with_reducible exact LeO.none _)
   | (with_reducible refine LeO.ite ?_ ?_)
   | (with_reducible refine LeO.bind ?_ (fun _ => ?_))
   | exact ih0 _ _ _ _ _ _ _ _
   | exact ih1 _ _ _ _ _ _ _ _
   | exact ih2 _ _ _ _ _ _ _ _ _
   | exact ih3 _ _ _ _ _ _ _ _
   | exact ih4 _ _ _ _ _ _ _ _
   | exact impl_ChainOf.mono _ _ _ _ _ _
   | exact impl_MayTake.mono _ _ _ _ _ _
   | exact laws_leads.mono _ _ _ _ _ _ _
   | exact laws_sameInts.mono _ _ _
   | exact spec_ChainOf.mono _ _ _ _ _ _
   | exact spec_DrawChainOf.mono _ _
   | exact spec_GrantsOk.mono _ _
   | exact LeO.none _
   | refine LeO.ite ?_ ?_
   | refine LeO.bind ?_ (fun _ => ?_)
  ·intro y0 y1 y2 y3 y4 y5 y6 y7 y8
   unfold laws_FnChains.l0
   repeat' first
   | (with_reducible exact ih0 _ _ _ _ _ _ _ _)
   | (with_reducible exact ih1 _ _ _ _ _ _ _ _)
   | (with_reducible exact ih2 _ _ _ _ _ _ _ _ _)
   | (with_reducible exact ih3 _ _ _ _ _ _ _ _)
   | (with_reducible exact ih4 _ _ _ _ _ _ _ _)
   | (with_reducible exact impl_ChainOf.mono _ _ _ _ _ _)
   | (with_reducible exact impl_MayTake.mono _ _ _ _ _ _)
   | (with_reducible exact laws_leads.mono _ _ _ _ _ _ _)
   | (with_reducible exact laws_sameInts.mono _ _ _)
   | (with_reducible exact spec_ChainOf.mono _ _ _ _ _ _)
   | (with_reducible exact spec_DrawChainOf.mono _ _)
   | (with_reducible exact spec_GrantsOk.mono _ _)
   | (with_reducible exact LeO.refl _)
   | (with_reducible exact LeO.none _)
   | (with_reducible refine LeO.ite ?_ ?_)
   | (with_reducible refine LeO.bind ?_ (fun _ => ?_))
   | exact ih0 _ _ _ _ _ _ _ _
   | exact ih1 _ _ _ _ _ _ _ _
   | exact ih2 _ _ _ _ _ _ _ _ _
   | exact ih3 _ _ _ _ _ _ _ _
   | exact ih4 _ _ _ _ _ _ _ _
   | exact impl_ChainOf.mono _ _ _ _ _ _
   | exact impl_MayTake.mono _ _ _ _ _ _
   | exact laws_leads.mono _ _ _ _ _ _ _
   | exact laws_sameInts.mono _ _ _
   | exact spec_ChainOf.mono _ _ _ _ _ _
   | exact spec_DrawChainOf.mono _ _
   | exact spec_GrantsOk.mono _ _
   | exact LeO.none _
   | refine LeO.ite ?_ ?_
   | refine LeO.bind ?_ (fun _ => ?_)
  ·intro y0 y1 y2 y3 y4 y5 y6 y7
   unfold laws_FnChains.j3
   repeat' first
   | (with_reducible exact ih0 _ _ _ _ _ _ _ _)
   | (with_reducible exact ih1 _ _ _ _ _ _ _ _)
   | (with_reducible exact ih2 _ _ _ _ _ _ _ _ _)
   | (with_reducible exact ih3 _ _ _ _ _ _ _ _)
   | (with_reducible exact ih4 _ _ _ _ _ _ _ _)
   | (with_reducible exact impl_ChainOf.mono _ _ _ _ _ _)
   | (with_reducible exact impl_MayTake.mono _ _ _ _ _ _)
   | (with_reducible exact laws_leads.mono _ _ _ _ _ _ _)
   | (with_reducible exact laws_sameInts.mono _ _ _)
   | (with_reducible exact spec_ChainOf.mono _ _ _ _ _ _)
   | (with_reducible exact spec_DrawChainOf.mono _ _)
   | (with_reducible exact spec_GrantsOk.mono _ _)
   | (with_reducible exact LeO.refl _)
   | (with_reducible exact LeO.none _)
   | (with_reducible refine LeO.ite ?_ ?_)
   | (with_reducible refine LeO.bind ?_ (fun _ => ?_))
   | exact ih0 _ _ _ _ _ _ _ _
   | exact ih1 _ _ _ _ _ _ _ _
   | exact ih2 _ _ _ _ _ _ _ _ _
   | exact ih3 _ _ _ _ _ _ _ _
   | exact ih4 _ _ _ _ _ _ _ _
   | exact impl_ChainOf.mono _ _ _ _ _ _
   | exact impl_MayTake.mono _ _ _ _ _ _
   | exact laws_leads.mono _ _ _ _ _ _ _
   | exact laws_sameInts.mono _ _ _
   | exact spec_ChainOf.mono _ _ _ _ _ _
   | exact spec_DrawChainOf.mono _ _
   | exact spec_GrantsOk.mono _ _
   | exact LeO.none _
   | refine LeO.ite ?_ ?_
   | refine LeO.bind ?_ (fun _ => ?_)
  ·intro y0 y1 y2 y3 y4 y5 y6 y7
   unfold laws_FnChains.l1
   repeat' first
   | (with_reducible exact ih0 _ _ _ _ _ _ _ _)
   | (with_reducible exact ih1 _ _ _ _ _ _ _ _)
   | (with_reducible exact ih2 _ _ _ _ _ _ _ _ _)
   | (with_reducible exact ih3 _ _ _ _ _ _ _ _)
   | (with_reducible exact ih4 _ _ _ _ _ _ _ _)
   | (with_reducible exact impl_ChainOf.mono _ _ _ _ _ _)
   | (with_reducible exact impl_MayTake.mono _ _ _ _ _ _)
   | (with_reducible exact laws_leads.mono _ _ _ _ _ _ _)
   | (with_reducible exact laws_sameInts.mono _ _ _)
   | (with_reducible exact spec_ChainOf.mono _ _ _ _ _ _)
   | (with_reducible exact spec_DrawChainOf.mono _ _)
   | (with_reducible exact spec_GrantsOk.mono _ _)
   | (with_reducible exact LeO.refl _)
   | (with_reducible exact LeO.none _)
   | (with_reducible refine LeO.ite ?_ ?_)
   | (with_reducible refine LeO.bind ?_ (fun _ => ?_))
   | exact ih0 _ _ _ _ _ _ _ _
   | exact ih1 _ _ _ _ _ _ _ _
   | exact ih2 _ _ _ _ _ _ _ _ _
   | exact ih3 _ _ _ _ _ _ _ _
   | exact ih4 _ _ _ _ _ _ _ _
   | exact impl_ChainOf.mono _ _ _ _ _ _
   | exact impl_MayTake.mono _ _ _ _ _ _
   | exact laws_leads.mono _ _ _ _ _ _ _
   | exact laws_sameInts.mono _ _ _
   | exact spec_ChainOf.mono _ _ _ _ _ _
   | exact spec_DrawChainOf.mono _ _
   | exact spec_GrantsOk.mono _ _
   | exact LeO.none _
   | refine LeO.ite ?_ ?_
   | refine LeO.bind ?_ (fun _ => ?_)
theorem laws_FnChains.mono : ∀ a0 k, LeO (laws_FnChains.f k a0) (laws_FnChains.f (k + 1) a0) := by
 intro a0 k
 obtain ⟨ih0, ih1, ih2, ih3, ih4⟩ := laws_FnChains.mono_l k
 unfold laws_FnChains.f
 repeat' first
   | (with_reducible exact ih0 _ _ _ _ _ _ _ _)
   | (with_reducible exact ih1 _ _ _ _ _ _ _ _)
   | (with_reducible exact ih2 _ _ _ _ _ _ _ _ _)
   | (with_reducible exact ih3 _ _ _ _ _ _ _ _)
   | (with_reducible exact ih4 _ _ _ _ _ _ _ _)
   | (with_reducible exact impl_ChainOf.mono _ _ _ _ _ _)
   | (with_reducible exact impl_MayTake.mono _ _ _ _ _ _)
   | (with_reducible exact laws_leads.mono _ _ _ _ _ _ _)
   | (with_reducible exact laws_sameInts.mono _ _ _)
   | (with_reducible exact spec_ChainOf.mono _ _ _ _ _ _)
   | (with_reducible exact spec_DrawChainOf.mono _ _)
   | (with_reducible exact spec_GrantsOk.mono _ _)
   | (with_reducible exact LeO.refl _)
   | (with_reducible exact LeO.none _)
   | (with_reducible refine LeO.ite ?_ ?_)
   | (with_reducible refine LeO.bind ?_ (fun _ => ?_))
   | exact ih0 _ _ _ _ _ _ _ _
   | exact ih1 _ _ _ _ _ _ _ _
   | exact ih2 _ _ _ _ _ _ _ _ _
   | exact ih3 _ _ _ _ _ _ _ _
   | exact ih4 _ _ _ _ _ _ _ _
   | exact impl_ChainOf.mono _ _ _ _ _ _
   | exact impl_MayTake.mono _ _ _ _ _ _
   | exact laws_leads.mono _ _ _ _ _ _ _
   | exact laws_sameInts.mono _ _ _
   | exact spec_ChainOf.mono _ _ _ _ _ _
   | exact spec_DrawChainOf.mono _ _
   | exact spec_GrantsOk.mono _ _
   | exact LeO.none _
   | refine LeO.ite ?_ ?_
   | refine LeO.bind ?_ (fun _ => ?_)
set_option maxHeartbeats 8000000 in
set_option maxRecDepth 100000 in
theorem laws_FnChains.calls (k : Nat) (A0 : Option Addr) (c0 : Nat) (l0 : List Int) (r : Bool) (w : World) (hr0 : Kd.C (Kd.int .u8) w A0 l0.length l0) (hc0 : l0.length ≤ c0) (h : laws_FnChains.f k l0 = some r) :
  Calls Try.prog 8 #[.slice A0 l0.length c0] w fun e w' => e = .returned (.bool r) ∧ Below w.heap.size w w' := by
 have hu25 := Try.underlying25
 have HR0 := aM hr0
 have HC0 := aM hc0
 clear hr0 hc0
 have HB := aM (Below.refl w.heap.size w)
 have H : ((laws_big.f l0).bind fun t372 => (if t372 = true then (some true) else ((spec_DrawChainOf.f k l0).bind fun bt373 => ((impl_ChainOf.f k bt373.1 bt373.2.1 bt373.2.2.1 bt373.2.2.2.1 bt373.2.2.2.2).bind fun bt380 => ((spec_ChainOf.f k bt373.1 bt373.2.1 bt373.2.2.1 bt373.2.2.2.1 bt373.2.2.2.2).bind fun bt384 => (if (bt380.2 != bt384.2) = true then (laws_FnChains.j0 k bt373.1 bt373.2.1 bt373.2.2.1 bt373.2.2.2.1 bt373.2.2.2.2 bt380.1 bt380.2 true) else ((laws_sameInts.f k bt380.1 bt384.1).bind fun t388 => (if t388 = true then ((impl_MayTake.f k bt373.1 bt373.2.1 bt373.2.2.1 bt373.2.2.2.1 bt373.2.2.2.2).bind fun t389 => (laws_FnChains.j0 k bt373.1 bt373.2.1 bt373.2.2.1 bt373.2.2.2.1 bt373.2.2.2.2 bt380.1 bt380.2 (t389 != bt380.2))) else (laws_FnChains.j0 k bt373.1 bt373.2.1 bt373.2.2.1 bt373.2.2.2.1 bt373.2.2.2.2 bt380.1 bt380.2 true))))))))) = some r := h
 clear h
 replace H := Option.bind_eq_some_iff.mp H
 obtain ⟨t372, A20, H⟩ := H
 replace H : (if t372 = true then (some true) else ((spec_DrawChainOf.f k l0).bind fun bt373 => ((impl_ChainOf.f k bt373.1 bt373.2.1 bt373.2.2.1 bt373.2.2.2.1 bt373.2.2.2.2).bind fun bt380 => ((spec_ChainOf.f k bt373.1 bt373.2.1 bt373.2.2.1 bt373.2.2.2.1 bt373.2.2.2.2).bind fun bt384 => (if (bt380.2 != bt384.2) = true then (laws_FnChains.j0 k bt373.1 bt373.2.1 bt373.2.2.1 bt373.2.2.2.1 bt373.2.2.2.2 bt380.1 bt380.2 true) else ((laws_sameInts.f k bt380.1 bt384.1).bind fun t388 => (if t388 = true then ((impl_MayTake.f k bt373.1 bt373.2.1 bt373.2.2.1 bt373.2.2.2.1 bt373.2.2.2.2).bind fun t389 => (laws_FnChains.j0 k bt373.1 bt373.2.1 bt373.2.2.1 bt373.2.2.2.1 bt373.2.2.2.2 bt380.1 bt380.2 (t389 != bt380.2))) else (laws_FnChains.j0 k bt373.1 bt373.2.1 bt373.2.2.1 bt373.2.2.2.1 bt373.2.2.2.2 bt380.1 bt380.2 true)))))))) = some r := H
 have A2 := aM A20
 clear A20
 by_cases c3 : t372 = true
 ·subst c3
  have H1 : (some true) = some r := by rw [if_pos rfl] at H; exact H
  clear H
  have H := H1
  clear H1
  obtain rfl := Option.some.inj H
  go_enter Try.func8, Try.ntmps8
  go_wp2_with (first | ((with_reducible refine gate_callee (f := 34) rfl ?_); refine goesL_ (some 17) rfl rfl Try.func34 (by kernel_rfl) rfl #[.slice A0 l0.length c0] rfl za ?_; (with_reducible refine (laws_big.calls _ _ l0 true _ ?side1 ?side2 A2.out).mono ?_); (case side1 => repeat (first | exact HR0.out | (with_reducible refine Kd.C_alloc ?_ _) | (with_reducible refine Kd.C_drewN ?_ _) | (with_reducible refine Kd.C_drew ?_))); (case side2 => exact HC0.out); rintro e w' ⟨rfl, ⟨nd, rfl⟩⟩; refine ⟨_, rfl, ?_⟩))
  go_ret
  exact ⟨zr, zb⟩
 ·replace c3 := Bool.eq_false_iff.mpr c3
  subst c3
  have H1 : ((spec_DrawChainOf.f k l0).bind fun bt373 => ((impl_ChainOf.f k bt373.1 bt373.2.1 bt373.2.2.1 bt373.2.2.2.1 bt373.2.2.2.2).bind fun bt380 => ((spec_ChainOf.f k bt373.1 bt373.2.1 bt373.2.2.1 bt373.2.2.2.1 bt373.2.2.2.2).bind fun bt384 => (if (bt380.2 != bt384.2) = true then (laws_FnChains.j0 k bt373.1 bt373.2.1 bt373.2.2.1 bt373.2.2.2.1 bt373.2.2.2.2 bt380.1 bt380.2 true) else ((laws_sameInts.f k bt380.1 bt384.1).bind fun t388 => (if t388 = true then ((impl_MayTake.f k bt373.1 bt373.2.1 bt373.2.2.1 bt373.2.2.2.1 bt373.2.2.2.2).bind fun t389 => (laws_FnChains.j0 k bt373.1 bt373.2.1 bt373.2.2.1 bt373.2.2.2.1 bt373.2.2.2.2 bt380.1 bt380.2 (t389 != bt380.2))) else (laws_FnChains.j0 k bt373.1 bt373.2.1 bt373.2.2.1 bt373.2.2.2.1 bt373.2.2.2.2 bt380.1 bt380.2 true))))))) = some r := by rw [if_neg (show ¬ (false = true) by decide)] at H; exact H
  clear H
  have H := H1
  clear H1
  replace H := Option.bind_eq_some_iff.mp H
  obtain ⟨⟨t373, t374, t375, t376, t377⟩, A40, H⟩ := H
  replace H : ((impl_ChainOf.f k t373 t374 t375 t376 t377).bind fun bt380 => ((spec_ChainOf.f k t373 t374 t375 t376 t377).bind fun bt384 => (if (bt380.2 != bt384.2) = true then (laws_FnChains.j0 k t373 t374 t375 t376 t377 bt380.1 bt380.2 true) else ((laws_sameInts.f k bt380.1 bt384.1).bind fun t388 => (if t388 = true then ((impl_MayTake.f k t373 t374 t375 t376 t377).bind fun t389 => (laws_FnChains.j0 k t373 t374 t375 t376 t377 bt380.1 bt380.2 (t389 != bt380.2))) else (laws_FnChains.j0 k t373 t374 t375 t376 t377 bt380.1 bt380.2 true)))))) = some r := H
  have A4 := aM A40
  clear A40
  replace H := Option.bind_eq_some_iff.mp H
  obtain ⟨⟨t380, t381⟩, A50, H⟩ := H
  replace H : ((spec_ChainOf.f k t373 t374 t375 t376 t377).bind fun bt384 => (if (t381 != bt384.2) = true then (laws_FnChains.j0 k t373 t374 t375 t376 t377 t380 t381 true) else ((laws_sameInts.f k t380 bt384.1).bind fun t388 => (if t388 = true then ((impl_MayTake.f k t373 t374 t375 t376 t377).bind fun t389 => (laws_FnChains.j0 k t373 t374 t375 t376 t377 t380 t381 (t389 != t381))) else (laws_FnChains.j0 k t373 t374 t375 t376 t377 t380 t381 true))))) = some r := H
  have A5 := aM A50
  clear A50
  replace H := Option.bind_eq_some_iff.mp H
  obtain ⟨⟨t384, t385⟩, A60, H⟩ := H
  replace H : (if (t381 != t385) = true then (laws_FnChains.j0 k t373 t374 t375 t376 t377 t380 t381 true) else ((laws_sameInts.f k t380 t384).bind fun t388 => (if t388 = true then ((impl_MayTake.f k t373 t374 t375 t376 t377).bind fun t389 => (laws_FnChains.j0 k t373 t374 t375 t376 t377 t380 t381 (t389 != t381))) else (laws_FnChains.j0 k t373 t374 t375 t376 t377 t380 t381 true)))) = some r := H
  have A6 := aM A60
  clear A60
  have HC7 := aM H
  clear H
  go_enter Try.func8, Try.ntmps8
  go_upto_region 6 with (first | ((with_reducible refine gate_callee (f := 34) rfl ?_); refine goesL_ (some 17) rfl rfl Try.func34 (by kernel_rfl) rfl #[.slice A0 l0.length c0] rfl za ?_; (with_reducible refine (laws_big.calls _ _ l0 false _ ?side1 ?side2 A2.out).mono ?_); (case side1 => repeat (first | exact HR0.out | (with_reducible refine Kd.C_alloc ?_ _) | (with_reducible refine Kd.C_drewN ?_ _) | (with_reducible refine Kd.C_drew ?_))); (case side2 => exact HC0.out); rintro e w' ⟨rfl, ⟨nd, rfl⟩⟩; refine ⟨_, rfl, ?_⟩) | ((with_reducible refine gate_callee (f := 35) rfl ?_); refine goesL_ (some 20) rfl rfl Try.func35 (by kernel_rfl) rfl #[.slice A0 l0.length c0] rfl za ?_; (with_reducible refine (spec_DrawChainOf.calls k _ _ l0 t373 t374 t375 t376 t377 _ ?side1 ?side2 A4.out).mono ?_); (case side1 => repeat (first | exact HR0.out | (with_reducible refine Kd.C_alloc ?_ _) | (with_reducible refine Kd.C_drewN ?_ _) | (with_reducible refine Kd.C_drew ?_))); (case side2 => exact HC0.out); rintro e w8 ⟨v378, rfl, ho0, hb⟩; refine ⟨_, rfl, ?_⟩; have n0_ := aM (Kd.R_lower ho0 (below_size (zb))); have n1_ := aM (below_step (zb) hb); clear HB; have HO379 := n0_; have HB := n1_; clear n0_ n1_; (try clear hb); (try clear hb2); (try clear hk); (try clear hi); (try clear ho0); obtain ⟨Ao9, co9, eo9⟩ := Kd.R_slice HO379.out; subst eo9) | ((with_reducible refine gate_callee (f := 36) rfl ?_); refine goesL_ (some 32) rfl rfl Try.func36 (by kernel_rfl) rfl #[.slice Ao9 t373.length co9, .int .i64 t374, .int .i64 t375, .int .i64 t376, .int .i64 t377] rfl za ?_; (with_reducible refine (impl_ChainOf.calls k _ _ t373 t374 t375 t376 t377 t380 t381 _ ?side1 ?side2 A5.out).mono ?_); (case side1 => repeat (first | exact (Kd.R_reads' HO379.out).2.2 | (with_reducible refine Kd.C_alloc ?_ _) | (with_reducible refine Kd.C_drewN ?_ _) | (with_reducible refine Kd.C_drew ?_))); (case side2 => exact (Kd.R_reads' HO379.out).2.1); rintro e w10 ⟨v382, rfl, ho0, hb⟩; refine ⟨_, rfl, ?_⟩; have n0_ := aM (Kd.R_below (by (with_reducible repeat (first | apply Kd.R_alloc | apply Kd.R_drewN | apply Kd.R_drew)); exact HO379.out) hb); have n1_ := aM (Kd.R_lower ho0 (below_size (zb))); have n2_ := aM (below_step (zb) hb); clear HO379; clear HB; have HO379 := n0_; have HO383 := n1_; have HB := n2_; clear n0_ n1_ n2_; (try clear hb); (try clear hb2); (try clear hk); (try clear hi); (try clear ho0)) | ((with_reducible refine gate_callee (f := 37) rfl ?_); refine goesL_ (some 41) rfl rfl Try.func37 (by kernel_rfl) rfl #[.slice Ao9 t373.length co9, .int .i64 t374, .int .i64 t375, .int .i64 t376, .int .i64 t377] rfl za ?_; (with_reducible refine (spec_ChainOf.calls k _ _ t373 t374 t375 t376 t377 t384 t385 _ ?side1 ?side2 A6.out).mono ?_); (case side1 => repeat (first | exact (Kd.R_reads' HO379.out).2.2 | (with_reducible refine Kd.C_alloc ?_ _) | (with_reducible refine Kd.C_drewN ?_ _) | (with_reducible refine Kd.C_drew ?_))); (case side2 => exact (Kd.R_reads' HO379.out).2.1); rintro e w11 ⟨v386, rfl, ho0, hb⟩; refine ⟨_, rfl, ?_⟩; have n0_ := aM (Kd.R_below (by (with_reducible repeat (first | apply Kd.R_alloc | apply Kd.R_drewN | apply Kd.R_drew)); exact HO379.out) hb); have n1_ := aM (Kd.R_elder' (by (with_reducible repeat (first | apply Kd.R_alloc | apply Kd.R_drewN | apply Kd.R_drew)); exact HO383.out) (Kd.R_base ho0) hb); have n2_ := aM (Kd.R_lower (Kd.R_new' ho0 (Kd.R_lt (by (with_reducible repeat (first | apply Kd.R_alloc | apply Kd.R_drewN | apply Kd.R_drew)); exact HO383.out))) (below_size (zb))); have n3_ := aM (below_step (zb) hb); clear HO379; clear HO383; clear HB; have HO379 := n0_; have HO383 := n1_; have HO387 := n2_; have HB := n3_; clear n0_ n1_ n2_ n3_; (try clear hb); (try clear hb2); (try clear hk); (try clear hi); (try clear ho0)))
  (try simp only [Act.put, List.setIfInBounds_toArray, List.set_cons_zero, List.set_cons_succ])
  go_cut [62] (fun v62 wc => ∃ (kq : Nat) (x62_6 : Bool), v62 = .bool x62_6 ∧ Aside0 (laws_FnChains.j0 kq t373 t374 t375 t376 t377 t380 t381 x62_6 = some r) ∧ Aside0 (kq ≤ k) ∧ Aside0 (Kd.R k25 25 wc w.heap.size (fun _ => True) (.slice Ao9 t373.length co9) t373) ∧ Aside0 (Kd.R (Kd.int .i64) 3 wc w.heap.size (fun _ => True) v382 t380) ∧ Aside0 (Below w.heap.size w wc))
  case first =>
   have H := HC7.out
   clear HC7
   by_cases c12 : (t381 != t385) = true
   ·as_aux_lemma =>
    rw [if_pos c12] at H
    have c12b0 : (t381 != t385) = true := c12
    (try (have c12b1 : decide (t381 = t385) = false := by simpa using c12))
    (try (have c12b2 : (t381 == t385) = false := by simpa using c12))
    (try (have c12b3 : ¬ (t381 = t385) := by simpa using c12))
    clear c12
    (first | rw [c12b0] | (simp only [i64_w, i32_w]; rw [c12b0]) | skip)
    have H' := aM H
    clear H
    go_wp2
    go_meet
    case rel => exact ⟨_, (true), zs, H', ⟨by first | omega | exact Nat.le_refl _⟩, ⟨by (with_reducible repeat (first | apply Kd.R_alloc | apply Kd.R_drewN | apply Kd.R_drew)); exact HO379.out⟩, ⟨by (with_reducible repeat (first | apply Kd.R_alloc | apply Kd.R_drewN | apply Kd.R_drew)); exact Kd.R_mono HO383.out (fun _ hk => trivial)⟩, ⟨zb⟩⟩
   ·as_aux_lemma =>
    rw [if_neg c12] at H
    have c12b0 : (t381 != t385) = false := by simpa using c12
    (try (have c12b1 : decide (t381 = t385) = true := by simpa using c12))
    (try (have c12b2 : (t381 == t385) = true := by simpa using c12))
    clear c12
    (first | rw [c12b0] | (simp only [i64_w, i32_w]; rw [c12b0]) | skip)
    replace H := Option.bind_eq_some_iff.mp H
    obtain ⟨t388, A130, H⟩ := H
    replace H : (if t388 = true then ((impl_MayTake.f k t373 t374 t375 t376 t377).bind fun t389 => (laws_FnChains.j0 k t373 t374 t375 t376 t377 t380 t381 (t389 != t381))) else (laws_FnChains.j0 k t373 t374 t375 t376 t377 t380 t381 true)) = some r := H
    have A13 := aM A130
    clear A130
    by_cases c14 : t388 = true
    ·subst c14
     have H1 : ((impl_MayTake.f k t373 t374 t375 t376 t377).bind fun t389 => (laws_FnChains.j0 k t373 t374 t375 t376 t377 t380 t381 (t389 != t381))) = some r := by rw [if_pos rfl] at H; exact H
     clear H
     have H := H1
     clear H1
     replace H := Option.bind_eq_some_iff.mp H
     obtain ⟨t389, A150, H⟩ := H
     replace H : (laws_FnChains.j0 k t373 t374 t375 t376 t377 t380 t381 (t389 != t381)) = some r := H
     have A15 := aM A150
     clear A150
     have H' := aM H
     clear H
     obtain ⟨Ao16, co16, eo16⟩ := Kd.R_slice HO383.out
     subst eo16
     obtain ⟨Ao17, co17, eo17⟩ := Kd.R_slice HO387.out
     subst eo17
     go_wp2_with (first | (go_at_call 38; (with_reducible refine (laws_sameInts.calls k _ _ t380 _ _ t384 true _ ?side1 ?side2 ?side3 ?side4 A13.out).mono ?_); (case side1 => repeat (first | exact (Kd.R_reads' HO383.out).2.2 | (with_reducible refine Kd.C_alloc ?_ _) | (with_reducible refine Kd.C_drewN ?_ _) | (with_reducible refine Kd.C_drew ?_))); (case side2 => exact (Kd.R_reads' HO383.out).2.1); (case side3 => repeat (first | exact (Kd.R_reads' HO387.out).2.2 | (with_reducible refine Kd.C_alloc ?_ _) | (with_reducible refine Kd.C_drewN ?_ _) | (with_reducible refine Kd.C_drew ?_))); (case side4 => exact (Kd.R_reads' HO387.out).2.1); rintro e w' ⟨rfl, ⟨nd, rfl⟩⟩) | (go_at_call 39; (with_reducible refine (impl_MayTake.calls k _ _ t373 t374 t375 t376 t377 t389 _ ?side1 ?side2 A15.out).mono ?_); (case side1 => repeat (first | exact (Kd.R_reads' HO379.out).2.2 | (with_reducible refine Kd.C_alloc ?_ _) | (with_reducible refine Kd.C_drewN ?_ _) | (with_reducible refine Kd.C_drew ?_))); (case side2 => exact (Kd.R_reads' HO379.out).2.1); rintro e w18 ⟨rfl, hb⟩; have n0_ := aM (Kd.R_below (by (with_reducible repeat (first | apply Kd.R_alloc | apply Kd.R_drewN | apply Kd.R_drew)); exact HO379.out) hb); have n1_ := aM (Kd.R_below (by (with_reducible repeat (first | apply Kd.R_alloc | apply Kd.R_drewN | apply Kd.R_drew)); exact HO383.out) hb); have n2_ := aM (Kd.R_below (by (with_reducible repeat (first | apply Kd.R_alloc | apply Kd.R_drewN | apply Kd.R_drew)); exact HO387.out) hb); have n3_ := aM (below_step (zb) hb); clear HO379; clear HO383; clear HO387; clear HB; have HO379 := n0_; have HO383 := n1_; have HO387 := n2_; have HB := n3_; clear n0_ n1_ n2_ n3_; (try clear hb); (try clear hb2); (try clear hk); (try clear hi)))
     go_meet
     case rel => exact ⟨_, ((t389 != t381)), zs, H', ⟨by first | omega | exact Nat.le_refl _⟩, ⟨by (with_reducible repeat (first | apply Kd.R_alloc | apply Kd.R_drewN | apply Kd.R_drew)); exact HO379.out⟩, ⟨by (with_reducible repeat (first | apply Kd.R_alloc | apply Kd.R_drewN | apply Kd.R_drew)); exact Kd.R_mono HO383.out (fun _ hk => trivial)⟩, ⟨zb⟩⟩
    ·replace c14 := Bool.eq_false_iff.mpr c14
     subst c14
     have H1 : (laws_FnChains.j0 k t373 t374 t375 t376 t377 t380 t381 true) = some r := by rw [if_neg (show ¬ (false = true) by decide)] at H; exact H
     clear H
     have H := H1
     clear H1
     have H' := aM H
     clear H
     obtain ⟨Ao19, co19, eo19⟩ := Kd.R_slice HO383.out
     subst eo19
     obtain ⟨Ao20, co20, eo20⟩ := Kd.R_slice HO387.out
     subst eo20
     go_wp2_with (first | (go_at_call 38; (with_reducible refine (laws_sameInts.calls k _ _ t380 _ _ t384 false _ ?side1 ?side2 ?side3 ?side4 A13.out).mono ?_); (case side1 => repeat (first | exact (Kd.R_reads' HO383.out).2.2 | (with_reducible refine Kd.C_alloc ?_ _) | (with_reducible refine Kd.C_drewN ?_ _) | (with_reducible refine Kd.C_drew ?_))); (case side2 => exact (Kd.R_reads' HO383.out).2.1); (case side3 => repeat (first | exact (Kd.R_reads' HO387.out).2.2 | (with_reducible refine Kd.C_alloc ?_ _) | (with_reducible refine Kd.C_drewN ?_ _) | (with_reducible refine Kd.C_drew ?_))); (case side4 => exact (Kd.R_reads' HO387.out).2.1); rintro e w' ⟨rfl, ⟨nd, rfl⟩⟩))
     go_meet
     case rel => exact ⟨_, (true), zs, H', ⟨by first | omega | exact Nat.le_refl _⟩, ⟨by (with_reducible repeat (first | apply Kd.R_alloc | apply Kd.R_drewN | apply Kd.R_drew)); exact HO379.out⟩, ⟨by (with_reducible repeat (first | apply Kd.R_alloc | apply Kd.R_drewN | apply Kd.R_drew)); exact Kd.R_mono HO383.out (fun _ hk => trivial)⟩, ⟨zb⟩⟩
  case rest =>
   clear HC7
   try clear c1
   try clear p2
   try clear c3
   try clear c8
   try clear c12
   try clear c12b0
   try clear c12b1
   try clear c12b2
   try clear c14
   obtain ⟨kq, x62_6, rfl, HA, HJ6, HO_3, HO_8, HB⟩ := hcut
   cases kq with
   | zero => exact absurd HA.out (by simp [laws_FnChains.j0])
   | succ kj6 =>
    have H := HA.out
    clear HA
    simp only [laws_FnChains.j0] at H
    by_cases c21 : x62_6 = true
    ·subst c21
     have H1 : (none) = some r := by rw [if_pos rfl] at H; exact H
     clear H
     have H := H1
     clear H1
     exact absurd H (by simp)
    ·replace c21 := Bool.eq_false_iff.mpr c21
     subst c21
     have H1 : ((spec_GrantsOk.f kj6 t373).bind fun t390 => (if t390 = true then (if t374 < 1 then (laws_FnChains.j1 kj6 t373 t374 t375 t376 t377 t380 t381 true) else (if t374 > 40 then (laws_FnChains.j1 kj6 t373 t374 t375 t376 t377 t380 t381 true) else (if t375 < 1 then (laws_FnChains.j1 kj6 t373 t374 t375 t376 t377 t380 t381 true) else (if t375 > 40 then (laws_FnChains.j1 kj6 t373 t374 t375 t376 t377 t380 t381 true) else (if t376 < 1 then (laws_FnChains.j1 kj6 t373 t374 t375 t376 t377 t380 t381 true) else (if t376 > 999 then (laws_FnChains.j1 kj6 t373 t374 t375 t376 t377 t380 t381 true) else (if t377 < 0 then (laws_FnChains.j1 kj6 t373 t374 t375 t376 t377 t380 t381 true) else (laws_FnChains.j1 kj6 t373 t374 t375 t376 t377 t380 t381 (decide (t377 > 20000)))))))))) else (laws_FnChains.j1 kj6 t373 t374 t375 t376 t377 t380 t381 true))) = some r := by rw [if_neg (show ¬ (false = true) by decide)] at H; exact H
     clear H
     have H := H1
     clear H1
     have HC22 := aM H
     clear H
     go_upto_region 8 with (fail)
     go_cut [97] (fun v97 wc => ∃ (kq : Nat) (x97_21 : Bool), v97 = .bool x97_21 ∧ Aside0 (laws_FnChains.j1 kq t373 t374 t375 t376 t377 t380 t381 x97_21 = some r) ∧ Aside0 (kq ≤ kj6) ∧ Aside0 (Kd.R k25 25 wc w.heap.size (fun _ => True) (.slice Ao9 t373.length co9) t373) ∧ Aside0 (Kd.R (Kd.int .i64) 3 wc w.heap.size (fun _ => True) v382 t380) ∧ Aside0 (Below w.heap.size w wc))
     case first =>
      have H := HC22.out
      clear HC22
      replace H := Option.bind_eq_some_iff.mp H
      obtain ⟨t390, A230, H⟩ := H
      replace H : (if t390 = true then (if t374 < 1 then (laws_FnChains.j1 kj6 t373 t374 t375 t376 t377 t380 t381 true) else (if t374 > 40 then (laws_FnChains.j1 kj6 t373 t374 t375 t376 t377 t380 t381 true) else (if t375 < 1 then (laws_FnChains.j1 kj6 t373 t374 t375 t376 t377 t380 t381 true) else (if t375 > 40 then (laws_FnChains.j1 kj6 t373 t374 t375 t376 t377 t380 t381 true) else (if t376 < 1 then (laws_FnChains.j1 kj6 t373 t374 t375 t376 t377 t380 t381 true) else (if t376 > 999 then (laws_FnChains.j1 kj6 t373 t374 t375 t376 t377 t380 t381 true) else (if t377 < 0 then (laws_FnChains.j1 kj6 t373 t374 t375 t376 t377 t380 t381 true) else (laws_FnChains.j1 kj6 t373 t374 t375 t376 t377 t380 t381 (decide (t377 > 20000)))))))))) else (laws_FnChains.j1 kj6 t373 t374 t375 t376 t377 t380 t381 true)) = some r := H
      have A23 := aM A230
      clear A230
      by_cases c24 : t390 = true
      ·subst c24
       have H1 : (if t374 < 1 then (laws_FnChains.j1 kj6 t373 t374 t375 t376 t377 t380 t381 true) else (if t374 > 40 then (laws_FnChains.j1 kj6 t373 t374 t375 t376 t377 t380 t381 true) else (if t375 < 1 then (laws_FnChains.j1 kj6 t373 t374 t375 t376 t377 t380 t381 true) else (if t375 > 40 then (laws_FnChains.j1 kj6 t373 t374 t375 t376 t377 t380 t381 true) else (if t376 < 1 then (laws_FnChains.j1 kj6 t373 t374 t375 t376 t377 t380 t381 true) else (if t376 > 999 then (laws_FnChains.j1 kj6 t373 t374 t375 t376 t377 t380 t381 true) else (if t377 < 0 then (laws_FnChains.j1 kj6 t373 t374 t375 t376 t377 t380 t381 true) else (laws_FnChains.j1 kj6 t373 t374 t375 t376 t377 t380 t381 (decide (t377 > 20000)))))))))) = some r := by rw [if_pos rfl] at H; exact H
       clear H
       have H := H1
       clear H1
       by_cases c25 : t374 < 1
       ·rw [if_pos c25] at H
        have c25b0 : decide (t374 < 1) = true := decide_eq_true c25
        clear c25
        (first | rw [c25b0] | (simp only [i64_w, i32_w]; rw [c25b0]) | skip)
        have H' := aM H
        clear H
        go_wp2_with (first | ((with_reducible refine gate_callee (f := 24) rfl ?_); refine goesL_ (some 64) rfl rfl Try.func24 (by kernel_rfl) rfl #[.slice Ao9 t373.length co9] rfl za ?_; (with_reducible refine (spec_GrantsOk.calls kj6 _ _ t373 true _ ?side1 ?side2 A23.out).mono ?_); (case side1 => repeat (first | exact (Kd.R_reads' HO_3.out).2.2 | (with_reducible refine Kd.C_alloc ?_ _) | (with_reducible refine Kd.C_drewN ?_ _) | (with_reducible refine Kd.C_drew ?_))); (case side2 => exact (Kd.R_reads' HO_3.out).2.1); rintro e w26 ⟨rfl, hb⟩; refine ⟨_, rfl, ?_⟩; have n0_ := aM (Kd.R_below (by (with_reducible repeat (first | apply Kd.R_alloc | apply Kd.R_drewN | apply Kd.R_drew)); exact HO_3.out) hb); have n1_ := aM (Kd.R_below (by (with_reducible repeat (first | apply Kd.R_alloc | apply Kd.R_drewN | apply Kd.R_drew)); exact HO_8.out) hb); have n2_ := aM (below_step (zb) hb); clear HO_3; clear HO_8; clear HB; have HO_3 := n0_; have HO_8 := n1_; have HB := n2_; clear n0_ n1_ n2_; (try clear hb); (try clear hb2); (try clear hk); (try clear hi)))
        go_meet
        case rel => exact ⟨_, (true), zs, H', ⟨by have := HJ6.out; first | omega | exact Nat.le_refl _⟩, ⟨by (with_reducible repeat (first | apply Kd.R_alloc | apply Kd.R_drewN | apply Kd.R_drew)); exact HO_3.out⟩, ⟨by (with_reducible repeat (first | apply Kd.R_alloc | apply Kd.R_drewN | apply Kd.R_drew)); exact HO_8.out⟩, ⟨zb⟩⟩
       ·as_aux_lemma =>
        rw [if_neg c25] at H
        have c25b0 : decide (t374 < 1) = false := decide_eq_false c25
        clear c25
        (first | rw [c25b0] | (simp only [i64_w, i32_w]; rw [c25b0]) | skip)
        by_cases c27 : t374 > 40
        ·rw [if_pos c27] at H
         have c27b0 : decide (40 < t374) = true := decide_eq_true c27
         clear c27
         have H' := aM H
         clear H
         go_wp2_with (first | ((with_reducible refine gate_callee (f := 24) rfl ?_); refine goesL_ (some 64) rfl rfl Try.func24 (by kernel_rfl) rfl #[.slice Ao9 t373.length co9] rfl za ?_; (with_reducible refine (spec_GrantsOk.calls kj6 _ _ t373 true _ ?side1 ?side2 A23.out).mono ?_); (case side1 => repeat (first | exact (Kd.R_reads' HO_3.out).2.2 | (with_reducible refine Kd.C_alloc ?_ _) | (with_reducible refine Kd.C_drewN ?_ _) | (with_reducible refine Kd.C_drew ?_))); (case side2 => exact (Kd.R_reads' HO_3.out).2.1); rintro e w28 ⟨rfl, hb⟩; refine ⟨_, rfl, ?_⟩; have n0_ := aM (Kd.R_below (by (with_reducible repeat (first | apply Kd.R_alloc | apply Kd.R_drewN | apply Kd.R_drew)); exact HO_3.out) hb); have n1_ := aM (Kd.R_below (by (with_reducible repeat (first | apply Kd.R_alloc | apply Kd.R_drewN | apply Kd.R_drew)); exact HO_8.out) hb); have n2_ := aM (below_step (zb) hb); clear HO_3; clear HO_8; clear HB; have HO_3 := n0_; have HO_8 := n1_; have HB := n2_; clear n0_ n1_ n2_; (try clear hb); (try clear hb2); (try clear hk); (try clear hi)))
         go_meet
         case rel => exact ⟨_, (true), zs, H', ⟨by have := HJ6.out; first | omega | exact Nat.le_refl _⟩, ⟨by (with_reducible repeat (first | apply Kd.R_alloc | apply Kd.R_drewN | apply Kd.R_drew)); exact HO_3.out⟩, ⟨by (with_reducible repeat (first | apply Kd.R_alloc | apply Kd.R_drewN | apply Kd.R_drew)); exact HO_8.out⟩, ⟨zb⟩⟩
        ·as_aux_lemma =>
         rw [if_neg c27] at H
         have c27b0 : decide (40 < t374) = false := decide_eq_false c27
         clear c27
         by_cases c29 : t375 < 1
         ·rw [if_pos c29] at H
          have c29b0 : decide (t375 < 1) = true := decide_eq_true c29
          clear c29
          have H' := aM H
          clear H
          go_wp2_with (first | ((with_reducible refine gate_callee (f := 24) rfl ?_); refine goesL_ (some 64) rfl rfl Try.func24 (by kernel_rfl) rfl #[.slice Ao9 t373.length co9] rfl za ?_; (with_reducible refine (spec_GrantsOk.calls kj6 _ _ t373 true _ ?side1 ?side2 A23.out).mono ?_); (case side1 => repeat (first | exact (Kd.R_reads' HO_3.out).2.2 | (with_reducible refine Kd.C_alloc ?_ _) | (with_reducible refine Kd.C_drewN ?_ _) | (with_reducible refine Kd.C_drew ?_))); (case side2 => exact (Kd.R_reads' HO_3.out).2.1); rintro e w30 ⟨rfl, hb⟩; refine ⟨_, rfl, ?_⟩; have n0_ := aM (Kd.R_below (by (with_reducible repeat (first | apply Kd.R_alloc | apply Kd.R_drewN | apply Kd.R_drew)); exact HO_3.out) hb); have n1_ := aM (Kd.R_below (by (with_reducible repeat (first | apply Kd.R_alloc | apply Kd.R_drewN | apply Kd.R_drew)); exact HO_8.out) hb); have n2_ := aM (below_step (zb) hb); clear HO_3; clear HO_8; clear HB; have HO_3 := n0_; have HO_8 := n1_; have HB := n2_; clear n0_ n1_ n2_; (try clear hb); (try clear hb2); (try clear hk); (try clear hi)))
          go_meet
          case rel => exact ⟨_, (true), zs, H', ⟨by have := HJ6.out; first | omega | exact Nat.le_refl _⟩, ⟨by (with_reducible repeat (first | apply Kd.R_alloc | apply Kd.R_drewN | apply Kd.R_drew)); exact HO_3.out⟩, ⟨by (with_reducible repeat (first | apply Kd.R_alloc | apply Kd.R_drewN | apply Kd.R_drew)); exact HO_8.out⟩, ⟨zb⟩⟩
         ·as_aux_lemma =>
          rw [if_neg c29] at H
          have c29b0 : decide (t375 < 1) = false := decide_eq_false c29
          clear c29
          by_cases c31 : t375 > 40
          ·rw [if_pos c31] at H
           have c31b0 : decide (40 < t375) = true := decide_eq_true c31
           clear c31
           have H' := aM H
           clear H
           go_wp2_with (first | ((with_reducible refine gate_callee (f := 24) rfl ?_); refine goesL_ (some 64) rfl rfl Try.func24 (by kernel_rfl) rfl #[.slice Ao9 t373.length co9] rfl za ?_; (with_reducible refine (spec_GrantsOk.calls kj6 _ _ t373 true _ ?side1 ?side2 A23.out).mono ?_); (case side1 => repeat (first | exact (Kd.R_reads' HO_3.out).2.2 | (with_reducible refine Kd.C_alloc ?_ _) | (with_reducible refine Kd.C_drewN ?_ _) | (with_reducible refine Kd.C_drew ?_))); (case side2 => exact (Kd.R_reads' HO_3.out).2.1); rintro e w32 ⟨rfl, hb⟩; refine ⟨_, rfl, ?_⟩; have n0_ := aM (Kd.R_below (by (with_reducible repeat (first | apply Kd.R_alloc | apply Kd.R_drewN | apply Kd.R_drew)); exact HO_3.out) hb); have n1_ := aM (Kd.R_below (by (with_reducible repeat (first | apply Kd.R_alloc | apply Kd.R_drewN | apply Kd.R_drew)); exact HO_8.out) hb); have n2_ := aM (below_step (zb) hb); clear HO_3; clear HO_8; clear HB; have HO_3 := n0_; have HO_8 := n1_; have HB := n2_; clear n0_ n1_ n2_; (try clear hb); (try clear hb2); (try clear hk); (try clear hi)))
           go_meet
           case rel => exact ⟨_, (true), zs, H', ⟨by have := HJ6.out; first | omega | exact Nat.le_refl _⟩, ⟨by (with_reducible repeat (first | apply Kd.R_alloc | apply Kd.R_drewN | apply Kd.R_drew)); exact HO_3.out⟩, ⟨by (with_reducible repeat (first | apply Kd.R_alloc | apply Kd.R_drewN | apply Kd.R_drew)); exact HO_8.out⟩, ⟨zb⟩⟩
          ·as_aux_lemma =>
           rw [if_neg c31] at H
           have c31b0 : decide (40 < t375) = false := decide_eq_false c31
           clear c31
           by_cases c33 : t376 < 1
           ·rw [if_pos c33] at H
            have c33b0 : decide (t376 < 1) = true := decide_eq_true c33
            clear c33
            have H' := aM H
            clear H
            go_wp2_with (first | ((with_reducible refine gate_callee (f := 24) rfl ?_); refine goesL_ (some 64) rfl rfl Try.func24 (by kernel_rfl) rfl #[.slice Ao9 t373.length co9] rfl za ?_; (with_reducible refine (spec_GrantsOk.calls kj6 _ _ t373 true _ ?side1 ?side2 A23.out).mono ?_); (case side1 => repeat (first | exact (Kd.R_reads' HO_3.out).2.2 | (with_reducible refine Kd.C_alloc ?_ _) | (with_reducible refine Kd.C_drewN ?_ _) | (with_reducible refine Kd.C_drew ?_))); (case side2 => exact (Kd.R_reads' HO_3.out).2.1); rintro e w34 ⟨rfl, hb⟩; refine ⟨_, rfl, ?_⟩; have n0_ := aM (Kd.R_below (by (with_reducible repeat (first | apply Kd.R_alloc | apply Kd.R_drewN | apply Kd.R_drew)); exact HO_3.out) hb); have n1_ := aM (Kd.R_below (by (with_reducible repeat (first | apply Kd.R_alloc | apply Kd.R_drewN | apply Kd.R_drew)); exact HO_8.out) hb); have n2_ := aM (below_step (zb) hb); clear HO_3; clear HO_8; clear HB; have HO_3 := n0_; have HO_8 := n1_; have HB := n2_; clear n0_ n1_ n2_; (try clear hb); (try clear hb2); (try clear hk); (try clear hi)))
            go_meet
            case rel => exact ⟨_, (true), zs, H', ⟨by have := HJ6.out; first | omega | exact Nat.le_refl _⟩, ⟨by (with_reducible repeat (first | apply Kd.R_alloc | apply Kd.R_drewN | apply Kd.R_drew)); exact HO_3.out⟩, ⟨by (with_reducible repeat (first | apply Kd.R_alloc | apply Kd.R_drewN | apply Kd.R_drew)); exact HO_8.out⟩, ⟨zb⟩⟩
           ·as_aux_lemma =>
            rw [if_neg c33] at H
            have c33b0 : decide (t376 < 1) = false := decide_eq_false c33
            clear c33
            by_cases c35 : t376 > 999
            ·rw [if_pos c35] at H
             have c35b0 : decide (999 < t376) = true := decide_eq_true c35
             clear c35
             have H' := aM H
             clear H
             go_wp2_with (first | ((with_reducible refine gate_callee (f := 24) rfl ?_); refine goesL_ (some 64) rfl rfl Try.func24 (by kernel_rfl) rfl #[.slice Ao9 t373.length co9] rfl za ?_; (with_reducible refine (spec_GrantsOk.calls kj6 _ _ t373 true _ ?side1 ?side2 A23.out).mono ?_); (case side1 => repeat (first | exact (Kd.R_reads' HO_3.out).2.2 | (with_reducible refine Kd.C_alloc ?_ _) | (with_reducible refine Kd.C_drewN ?_ _) | (with_reducible refine Kd.C_drew ?_))); (case side2 => exact (Kd.R_reads' HO_3.out).2.1); rintro e w36 ⟨rfl, hb⟩; refine ⟨_, rfl, ?_⟩; have n0_ := aM (Kd.R_below (by (with_reducible repeat (first | apply Kd.R_alloc | apply Kd.R_drewN | apply Kd.R_drew)); exact HO_3.out) hb); have n1_ := aM (Kd.R_below (by (with_reducible repeat (first | apply Kd.R_alloc | apply Kd.R_drewN | apply Kd.R_drew)); exact HO_8.out) hb); have n2_ := aM (below_step (zb) hb); clear HO_3; clear HO_8; clear HB; have HO_3 := n0_; have HO_8 := n1_; have HB := n2_; clear n0_ n1_ n2_; (try clear hb); (try clear hb2); (try clear hk); (try clear hi)))
             go_meet
             case rel => exact ⟨_, (true), zs, H', ⟨by have := HJ6.out; first | omega | exact Nat.le_refl _⟩, ⟨by (with_reducible repeat (first | apply Kd.R_alloc | apply Kd.R_drewN | apply Kd.R_drew)); exact HO_3.out⟩, ⟨by (with_reducible repeat (first | apply Kd.R_alloc | apply Kd.R_drewN | apply Kd.R_drew)); exact HO_8.out⟩, ⟨zb⟩⟩
            ·as_aux_lemma =>
             rw [if_neg c35] at H
             have c35b0 : decide (999 < t376) = false := decide_eq_false c35
             clear c35
             by_cases c37 : t377 < 0
             ·rw [if_pos c37] at H
              have c37b0 : decide (t377 < 0) = true := decide_eq_true c37
              clear c37
              have H' := aM H
              clear H
              go_wp2_with (first | ((with_reducible refine gate_callee (f := 24) rfl ?_); refine goesL_ (some 64) rfl rfl Try.func24 (by kernel_rfl) rfl #[.slice Ao9 t373.length co9] rfl za ?_; (with_reducible refine (spec_GrantsOk.calls kj6 _ _ t373 true _ ?side1 ?side2 A23.out).mono ?_); (case side1 => repeat (first | exact (Kd.R_reads' HO_3.out).2.2 | (with_reducible refine Kd.C_alloc ?_ _) | (with_reducible refine Kd.C_drewN ?_ _) | (with_reducible refine Kd.C_drew ?_))); (case side2 => exact (Kd.R_reads' HO_3.out).2.1); rintro e w38 ⟨rfl, hb⟩; refine ⟨_, rfl, ?_⟩; have n0_ := aM (Kd.R_below (by (with_reducible repeat (first | apply Kd.R_alloc | apply Kd.R_drewN | apply Kd.R_drew)); exact HO_3.out) hb); have n1_ := aM (Kd.R_below (by (with_reducible repeat (first | apply Kd.R_alloc | apply Kd.R_drewN | apply Kd.R_drew)); exact HO_8.out) hb); have n2_ := aM (below_step (zb) hb); clear HO_3; clear HO_8; clear HB; have HO_3 := n0_; have HO_8 := n1_; have HB := n2_; clear n0_ n1_ n2_; (try clear hb); (try clear hb2); (try clear hk); (try clear hi)))
              go_meet
              case rel => exact ⟨_, (true), zs, H', ⟨by have := HJ6.out; first | omega | exact Nat.le_refl _⟩, ⟨by (with_reducible repeat (first | apply Kd.R_alloc | apply Kd.R_drewN | apply Kd.R_drew)); exact HO_3.out⟩, ⟨by (with_reducible repeat (first | apply Kd.R_alloc | apply Kd.R_drewN | apply Kd.R_drew)); exact HO_8.out⟩, ⟨zb⟩⟩
             ·rw [if_neg c37] at H
              have c37b0 : decide (t377 < 0) = false := decide_eq_false c37
              clear c37
              have H' := aM H
              clear H
              go_wp2_with (first | ((with_reducible refine gate_callee (f := 24) rfl ?_); refine goesL_ (some 64) rfl rfl Try.func24 (by kernel_rfl) rfl #[.slice Ao9 t373.length co9] rfl za ?_; (with_reducible refine (spec_GrantsOk.calls kj6 _ _ t373 true _ ?side1 ?side2 A23.out).mono ?_); (case side1 => repeat (first | exact (Kd.R_reads' HO_3.out).2.2 | (with_reducible refine Kd.C_alloc ?_ _) | (with_reducible refine Kd.C_drewN ?_ _) | (with_reducible refine Kd.C_drew ?_))); (case side2 => exact (Kd.R_reads' HO_3.out).2.1); rintro e w39 ⟨rfl, hb⟩; refine ⟨_, rfl, ?_⟩; have n0_ := aM (Kd.R_below (by (with_reducible repeat (first | apply Kd.R_alloc | apply Kd.R_drewN | apply Kd.R_drew)); exact HO_3.out) hb); have n1_ := aM (Kd.R_below (by (with_reducible repeat (first | apply Kd.R_alloc | apply Kd.R_drewN | apply Kd.R_drew)); exact HO_8.out) hb); have n2_ := aM (below_step (zb) hb); clear HO_3; clear HO_8; clear HB; have HO_3 := n0_; have HO_8 := n1_; have HB := n2_; clear n0_ n1_ n2_; (try clear hb); (try clear hb2); (try clear hk); (try clear hi)))
              go_meet
              case rel => exact ⟨_, (decide (t377 > 20000)), zs, H', ⟨by have := HJ6.out; first | omega | exact Nat.le_refl _⟩, ⟨by (with_reducible repeat (first | apply Kd.R_alloc | apply Kd.R_drewN | apply Kd.R_drew)); exact HO_3.out⟩, ⟨by (with_reducible repeat (first | apply Kd.R_alloc | apply Kd.R_drewN | apply Kd.R_drew)); exact HO_8.out⟩, ⟨zb⟩⟩
      ·replace c24 := Bool.eq_false_iff.mpr c24
       subst c24
       have H1 : (laws_FnChains.j1 kj6 t373 t374 t375 t376 t377 t380 t381 true) = some r := by rw [if_neg (show ¬ (false = true) by decide)] at H; exact H
       clear H
       have H := H1
       clear H1
       have H' := aM H
       clear H
       go_wp2_with (first | ((with_reducible refine gate_callee (f := 24) rfl ?_); refine goesL_ (some 64) rfl rfl Try.func24 (by kernel_rfl) rfl #[.slice Ao9 t373.length co9] rfl za ?_; (with_reducible refine (spec_GrantsOk.calls kj6 _ _ t373 false _ ?side1 ?side2 A23.out).mono ?_); (case side1 => repeat (first | exact (Kd.R_reads' HO_3.out).2.2 | (with_reducible refine Kd.C_alloc ?_ _) | (with_reducible refine Kd.C_drewN ?_ _) | (with_reducible refine Kd.C_drew ?_))); (case side2 => exact (Kd.R_reads' HO_3.out).2.1); rintro e w40 ⟨rfl, hb⟩; refine ⟨_, rfl, ?_⟩; have n0_ := aM (Kd.R_below (by (with_reducible repeat (first | apply Kd.R_alloc | apply Kd.R_drewN | apply Kd.R_drew)); exact HO_3.out) hb); have n1_ := aM (Kd.R_below (by (with_reducible repeat (first | apply Kd.R_alloc | apply Kd.R_drewN | apply Kd.R_drew)); exact HO_8.out) hb); have n2_ := aM (below_step (zb) hb); clear HO_3; clear HO_8; clear HB; have HO_3 := n0_; have HO_8 := n1_; have HB := n2_; clear n0_ n1_ n2_; (try clear hb); (try clear hb2); (try clear hk); (try clear hi)))
       go_meet
       case rel => exact ⟨_, (true), zs, H', ⟨by have := HJ6.out; first | omega | exact Nat.le_refl _⟩, ⟨by (with_reducible repeat (first | apply Kd.R_alloc | apply Kd.R_drewN | apply Kd.R_drew)); exact HO_3.out⟩, ⟨by (with_reducible repeat (first | apply Kd.R_alloc | apply Kd.R_drewN | apply Kd.R_drew)); exact HO_8.out⟩, ⟨zb⟩⟩
     case rest =>
      clear HC22
      try clear c1
      try clear c2
      try clear p2
      try clear c3
      try clear c8
      try clear c12
      try clear c12b0
      try clear c12b1
      try clear c12b2
      try clear c14
      try clear c21
      try clear c24
      try clear c25
      try clear c25b0
      try clear c27
      try clear c27b0
      try clear c29
      try clear c29b0
      try clear c31
      try clear c31b0
      try clear c33
      try clear c33b0
      try clear c34
      try clear c35
      try clear c35b0
      try clear c36
      try clear c37
      try clear c37b0
      try clear p2
      obtain ⟨kq, x97_21, rfl, HA, HJ21, HO_3, HO_8, HB⟩ := hcut
      cases kq with
      | zero => exact absurd HA.out (by simp [laws_FnChains.j1])
      | succ kj21 =>
       have H := HA.out
       clear HA
       simp only [laws_FnChains.j1] at H
       by_cases c41 : x97_21 = true
       ·subst c41
        have H1 : (some (!t381)) = some r := by rw [if_pos rfl] at H; exact H
        clear H
        have H := H1
        clear H1
        obtain rfl := Option.some.inj H
        go_wp2
        go_ret
        exact ⟨zr, zb⟩
       ·replace c41 := Bool.eq_false_iff.mpr c41
        subst c41
        have H1 : (if (t373.length : Int) > 12 then (some true) else (laws_FnChains.l0 kj21 t373 t374 t375 t376 t377 t380 t381 (-1) 6)) = some r := by rw [if_neg (show ¬ (false = true) by decide)] at H; exact H
        clear H
        have H := H1
        clear H1
        by_cases c42 : (t373.length : Int) > 12
        ·rw [if_pos c42] at H
         have c42b0 : decide (12 < (t373.length : Int)) = true := decide_eq_true c42
         have c42b1 : decide (12 < t373.length) = true := decide_eq_true (by omega)
         clear c42
         obtain rfl := Option.some.inj H
         go_wp2
         go_ret
         exact ⟨zr, zb⟩
        ·as_aux_lemma =>
         rw [if_neg c42] at H
         have c42b0 : decide (12 < (t373.length : Int)) = false := decide_eq_false c42
         have c42b1 : decide (12 < t373.length) = false := decide_eq_false (by omega)
         clear c42
         have H' := aM H
         clear H
         go_wp2
         go_loopg [12, 13] kj21 (fun kq v12 v13 w' => ∃ (x12_3 : Int) (x13_3 : Int), v12 = .int .i64 x12_3 ∧ v13 = .int .i64 x13_3 ∧ Aside0 (laws_FnChains.l0 kq t373 t374 t375 t376 t377 t380 t381 x12_3 x13_3 = some r) ∧ Aside0 (kq ≤ kj21) ∧ Aside0 (Kd.R k25 25 w' w.heap.size (fun _ => True) (.slice Ao9 t373.length co9) t373) ∧ Aside0 (Kd.R (Kd.int .i64) 3 w' w.heap.size (fun _ => True) v382 t380) ∧ Aside0 (Below w.heap.size w w'))
         case atStart => exact ⟨((-1)), (6), zs, zs, H', ⟨Nat.le_refl _⟩, ⟨by (with_reducible repeat (first | apply Kd.R_alloc | apply Kd.R_drewN | apply Kd.R_drew)); exact HO_3.out⟩, ⟨by (with_reducible repeat (first | apply Kd.R_alloc | apply Kd.R_drewN | apply Kd.R_drew)); exact HO_8.out⟩, ⟨zb⟩⟩
         case round =>
          clear H'
          try clear c1
          try clear c2
          try clear p2
          try clear c3
          try clear c4
          try clear c8
          try clear c12
          try clear c12b0
          try clear c12b1
          try clear c12b2
          try clear c14
          try clear c21
          try clear c24
          try clear c25
          try clear c25b0
          try clear c27
          try clear c27b0
          try clear c29
          try clear c29b0
          try clear c31
          try clear c31b0
          try clear c33
          try clear c33b0
          try clear c34
          try clear c35
          try clear c35b0
          try clear c36
          try clear c37
          try clear c37b0
          try clear c41
          try clear c42
          try clear c42b0
          try clear c42b1
          try clear p2
          obtain ⟨x12_3, x13_3, rfl, rfl, HA, HK3, HO_3, HO_8, HB⟩ := hrel
          cases gk with
          | zero => exact absurd HA.out (by simp [laws_FnChains.l0])
          | succ k3 =>
           have H := HA.out
           clear HA
           simp only [laws_FnChains.l0] at H
           by_cases c43 : x13_3 ≥ 0
           ·as_aux_lemma =>
            rw [if_pos c43] at H
            have c43b0 : decide (0 ≤ x13_3) = true := decide_eq_true c43
            clear c43
            replace H := Option.bind_eq_some_iff.mp H
            obtain ⟨t391, A440, H⟩ := H
            replace H : (if t391 = true then (laws_FnChains.l0 k3 t373 t374 t375 t376 t377 t380 t381 x13_3 (wrap64 (x13_3 - 1))) else (laws_FnChains.l0 k3 t373 t374 t375 t376 t377 t380 t381 x12_3 (wrap64 (x13_3 - 1)))) = some r := H
            have A44 := aM A440
            clear A440
            by_cases c45 : t391 = true
            ·subst c45
             have H1 : (laws_FnChains.l0 k3 t373 t374 t375 t376 t377 t380 t381 x13_3 (wrap64 (x13_3 - 1))) = some r := by rw [if_pos rfl] at H; exact H
             clear H
             have H := H1
             clear H1
             have H' := aM H
             clear H
             go_wp2_with (first | ((with_reducible refine gate_callee (f := 40) rfl ?_); refine goesL_ (some 113) rfl rfl Try.func40 (by kernel_rfl) rfl #[.slice Ao9 t373.length co9, .int .i64 t374, .int .i64 t375, .int .i64 t376, .int .i64 t377, .int .i64 x13_3] rfl za ?_; (with_reducible refine (laws_leads.calls k3 _ _ t373 t374 t375 t376 t377 x13_3 true _ ?side1 ?side2 A44.out).mono ?_); (case side1 => repeat (first | exact (Kd.R_reads' HO_3.out).2.2 | (with_reducible refine Kd.C_alloc ?_ _) | (with_reducible refine Kd.C_drewN ?_ _) | (with_reducible refine Kd.C_drew ?_))); (case side2 => exact (Kd.R_reads' HO_3.out).2.1); rintro e w46 ⟨rfl, hb⟩; refine ⟨_, rfl, ?_⟩; have n0_ := aM (Kd.R_below (by (with_reducible repeat (first | apply Kd.R_alloc | apply Kd.R_drewN | apply Kd.R_drew)); exact HO_3.out) hb); have n1_ := aM (Kd.R_below (by (with_reducible repeat (first | apply Kd.R_alloc | apply Kd.R_drewN | apply Kd.R_drew)); exact HO_8.out) hb); have n2_ := aM (below_step (zb) hb); clear HO_3; clear HO_8; clear HB; have HO_3 := n0_; have HO_8 := n1_; have HB := n2_; clear n0_ n1_ n2_; (try clear hb); (try clear hb2); (try clear hk); (try clear hi)))
             go_roundg k3
             case measure => have := HJ6.out; have := HJ21.out; have := HK3.out; omega
             case rel => exact ⟨(x13_3), (wrap64 (x13_3 - 1)), zs, zs, H', ⟨by have := HJ6.out; have := HJ21.out; have := HK3.out; omega⟩, ⟨by (with_reducible repeat (first | apply Kd.R_alloc | apply Kd.R_drewN | apply Kd.R_drew)); exact HO_3.out⟩, ⟨by (with_reducible repeat (first | apply Kd.R_alloc | apply Kd.R_drewN | apply Kd.R_drew)); exact HO_8.out⟩, ⟨zb⟩⟩
            ·replace c45 := Bool.eq_false_iff.mpr c45
             subst c45
             have H1 : (laws_FnChains.l0 k3 t373 t374 t375 t376 t377 t380 t381 x12_3 (wrap64 (x13_3 - 1))) = some r := by rw [if_neg (show ¬ (false = true) by decide)] at H; exact H
             clear H
             have H := H1
             clear H1
             have H' := aM H
             clear H
             go_wp2_with (first | ((with_reducible refine gate_callee (f := 40) rfl ?_); refine goesL_ (some 113) rfl rfl Try.func40 (by kernel_rfl) rfl #[.slice Ao9 t373.length co9, .int .i64 t374, .int .i64 t375, .int .i64 t376, .int .i64 t377, .int .i64 x13_3] rfl za ?_; (with_reducible refine (laws_leads.calls k3 _ _ t373 t374 t375 t376 t377 x13_3 false _ ?side1 ?side2 A44.out).mono ?_); (case side1 => repeat (first | exact (Kd.R_reads' HO_3.out).2.2 | (with_reducible refine Kd.C_alloc ?_ _) | (with_reducible refine Kd.C_drewN ?_ _) | (with_reducible refine Kd.C_drew ?_))); (case side2 => exact (Kd.R_reads' HO_3.out).2.1); rintro e w47 ⟨rfl, hb⟩; refine ⟨_, rfl, ?_⟩; have n0_ := aM (Kd.R_below (by (with_reducible repeat (first | apply Kd.R_alloc | apply Kd.R_drewN | apply Kd.R_drew)); exact HO_3.out) hb); have n1_ := aM (Kd.R_below (by (with_reducible repeat (first | apply Kd.R_alloc | apply Kd.R_drewN | apply Kd.R_drew)); exact HO_8.out) hb); have n2_ := aM (below_step (zb) hb); clear HO_3; clear HO_8; clear HB; have HO_3 := n0_; have HO_8 := n1_; have HB := n2_; clear n0_ n1_ n2_; (try clear hb); (try clear hb2); (try clear hk); (try clear hi)))
             go_roundg k3
             case measure => have := HJ6.out; have := HJ21.out; have := HK3.out; omega
             case rel => exact ⟨(x12_3), (wrap64 (x13_3 - 1)), zs, zs, H', ⟨by have := HJ6.out; have := HJ21.out; have := HK3.out; omega⟩, ⟨by (with_reducible repeat (first | apply Kd.R_alloc | apply Kd.R_drewN | apply Kd.R_drew)); exact HO_3.out⟩, ⟨by (with_reducible repeat (first | apply Kd.R_alloc | apply Kd.R_drewN | apply Kd.R_drew)); exact HO_8.out⟩, ⟨zb⟩⟩
           ·as_aux_lemma =>
            rw [if_neg c43] at H
            have c43b0 : decide (0 ≤ x13_3) = false := decide_eq_false c43
            clear c43
            have HC48 := aM H
            clear H
            go_upto_region 18 with (fail)
            go_cut [127] (fun v127 wc => ∃ (kq : Nat) (x127_47 : Bool), v127 = .bool x127_47 ∧ Aside0 (laws_FnChains.j3 kq t373 t374 t375 t376 t377 t380 t381 x127_47 = some r) ∧ Aside0 (kq ≤ k3) ∧ Aside0 (Kd.R k25 25 wc w.heap.size (fun _ => True) (.slice Ao9 t373.length co9) t373) ∧ Aside0 (Kd.R (Kd.int .i64) 3 wc w.heap.size (fun _ => True) v382 t380) ∧ Aside0 (Below w.heap.size w wc))
            case first =>
             have H := HC48.out
             clear HC48
             by_cases c49 : (t381 != (decide (x12_3 ≥ 0))) = true
             ·as_aux_lemma =>
              rw [if_pos c49] at H
              have c49b0 : (t381 != (decide (x12_3 ≥ 0))) = true := c49
              (try (have c49b1 : decide (t381 = (decide (x12_3 ≥ 0))) = false := by simpa using c49))
              (try (have c49b2 : (t381 == (decide (x12_3 ≥ 0))) = false := by simpa using c49))
              (try (have c49b3 : ¬ (t381 = (decide (x12_3 ≥ 0))) := by simpa using c49))
              clear c49
              (first | rw [c49b0] | (simp only [i64_w, i32_w]; rw [c49b0]) | skip)
              have H' := aM H
              clear H
              go_wp2
              go_meet
              case rel => exact ⟨_, (true), zs, H', ⟨by have := HJ6.out; have := HJ21.out; have := HK3.out; first | omega | exact Nat.le_refl _⟩, ⟨by (with_reducible repeat (first | apply Kd.R_alloc | apply Kd.R_drewN | apply Kd.R_drew)); exact HO_3.out⟩, ⟨by (with_reducible repeat (first | apply Kd.R_alloc | apply Kd.R_drewN | apply Kd.R_drew)); exact HO_8.out⟩, ⟨zb⟩⟩
             ·as_aux_lemma =>
              rw [if_neg c49] at H
              have c49b0 : (t381 != (decide (x12_3 ≥ 0))) = false := by simpa using c49
              (try (have c49b1 : decide (t381 = (decide (x12_3 ≥ 0))) = true := by simpa using c49))
              (try (have c49b2 : (t381 == (decide (x12_3 ≥ 0))) = true := by simpa using c49))
              clear c49
              (first | rw [c49b0] | (simp only [i64_w, i32_w]; rw [c49b0]) | skip)
              by_cases c50 : t381 = true
              ·subst c50
               have H1 : (laws_FnChains.j3 k3 t373 t374 t375 t376 t377 t380 true ((t380.length : Int) != x12_3)) = some r := by rw [if_pos rfl] at H; exact H
               clear H
               have H := H1
               clear H1
               have H' := aM H
               clear H
               obtain ⟨Ao51, co51, eo51⟩ := Kd.R_slice HO_8.out
               subst eo51
               go_wp2
               go_meet
               case rel => exact ⟨_, (((t380.length : Int) != x12_3)), zs, H', ⟨by have := HJ6.out; have := HJ21.out; have := HK3.out; first | omega | exact Nat.le_refl _⟩, ⟨by (with_reducible repeat (first | apply Kd.R_alloc | apply Kd.R_drewN | apply Kd.R_drew)); exact HO_3.out⟩, ⟨by (with_reducible repeat (first | apply Kd.R_alloc | apply Kd.R_drewN | apply Kd.R_drew)); exact HO_8.out⟩, ⟨zb⟩⟩
              ·replace c50 := Bool.eq_false_iff.mpr c50
               subst c50
               have H1 : (laws_FnChains.j3 k3 t373 t374 t375 t376 t377 t380 false false) = some r := by rw [if_neg (show ¬ (false = true) by decide)] at H; exact H
               clear H
               have H := H1
               clear H1
               have H' := aM H
               clear H
               go_wp2
               go_meet
               case rel => exact ⟨_, (false), zs, H', ⟨by have := HJ6.out; have := HJ21.out; have := HK3.out; first | omega | exact Nat.le_refl _⟩, ⟨by (with_reducible repeat (first | apply Kd.R_alloc | apply Kd.R_drewN | apply Kd.R_drew)); exact HO_3.out⟩, ⟨by (with_reducible repeat (first | apply Kd.R_alloc | apply Kd.R_drewN | apply Kd.R_drew)); exact HO_8.out⟩, ⟨zb⟩⟩
            case rest =>
             clear HC48
             try clear c1
             try clear c2
             try clear p2
             try clear c3
             try clear c4
             try clear c5
             try clear p6
             try clear c8
             try clear c12
             try clear c12b0
             try clear c12b1
             try clear c12b2
             try clear c14
             try clear c21
             try clear c24
             try clear c25
             try clear c25b0
             try clear c27
             try clear c27b0
             try clear c29
             try clear c29b0
             try clear c31
             try clear c31b0
             try clear c33
             try clear c33b0
             try clear c34
             try clear c35
             try clear c35b0
             try clear c36
             try clear c37
             try clear c37b0
             try clear c40
             try clear c41
             try clear c42
             try clear c42b0
             try clear c42b1
             try clear c43
             try clear c43b0
             try clear c45
             try clear c49
             try clear c49b0
             try clear c49b1
             try clear c49b2
             try clear c50
             try clear p2
             obtain ⟨kq, x127_47, rfl, HA, HJ47, HO_3, HO_8, HB⟩ := hcut
             cases kq with
             | zero => exact absurd HA.out (by simp [laws_FnChains.j3])
             | succ kj47 =>
              have H := HA.out
              clear HA
              simp only [laws_FnChains.j3] at H
              by_cases c52 : x127_47 = true
              ·subst c52
               have H1 : (none) = some r := by rw [if_pos rfl] at H; exact H
               clear H
               have H := H1
               clear H1
               exact absurd H (by simp)
              ·replace c52 := Bool.eq_false_iff.mpr c52
               subst c52
               have H1 : (laws_FnChains.l1 kj47 t373 t375 t376 t377 t380 t381 t374 0) = some r := by rw [if_neg (show ¬ (false = true) by decide)] at H; exact H
               clear H
               have H := H1
               clear H1
               have H' := aM H
               clear H
               go_wp2
               go_loopg [14, 15] kj47 (fun kq v14 v15 w' => ∃ (x14_5 : Int) (x15_5 : Int), v14 = .int .i64 x14_5 ∧ v15 = .int .i64 x15_5 ∧ Aside0 (laws_FnChains.l1 kq t373 t375 t376 t377 t380 t381 x14_5 x15_5 = some r) ∧ Aside0 (kq ≤ kj47) ∧ Aside0 (Kd.R k25 25 w' w.heap.size (fun _ => True) (.slice Ao9 t373.length co9) t373) ∧ Aside0 (Kd.R (Kd.int .i64) 3 w' w.heap.size (fun _ => True) v382 t380) ∧ Aside0 (Below w.heap.size w w'))
               case atStart => exact ⟨(t374), (0), zs, zs, H', ⟨Nat.le_refl _⟩, ⟨by (with_reducible repeat (first | apply Kd.R_alloc | apply Kd.R_drewN | apply Kd.R_drew)); exact HO_3.out⟩, ⟨by (with_reducible repeat (first | apply Kd.R_alloc | apply Kd.R_drewN | apply Kd.R_drew)); exact HO_8.out⟩, ⟨zb⟩⟩
               case round =>
                clear H'
                try clear c1
                try clear c2
                try clear p2
                try clear c3
                try clear c4
                try clear c5
                try clear p6
                try clear c8
                try clear c12
                try clear c12b0
                try clear c12b1
                try clear c12b2
                try clear c14
                try clear c21
                try clear c24
                try clear c25
                try clear c25b0
                try clear c27
                try clear c27b0
                try clear c29
                try clear c29b0
                try clear c31
                try clear c31b0
                try clear c33
                try clear c33b0
                try clear c34
                try clear c35
                try clear c35b0
                try clear c36
                try clear c37
                try clear c37b0
                try clear c40
                try clear c41
                try clear c42
                try clear c42b0
                try clear c42b1
                try clear c43
                try clear c43b0
                try clear c45
                try clear c49
                try clear c49b0
                try clear c49b1
                try clear c49b2
                try clear c50
                try clear c52
                try clear p2
                try clear p6
                obtain ⟨x14_5, x15_5, rfl, rfl, HA, HK5, HO_3, HO_8, HB⟩ := hrel
                cases gk with
                | zero => exact absurd HA.out (by simp [laws_FnChains.l1])
                | succ k5 =>
                 have H := HA.out
                 clear HA
                 simp only [laws_FnChains.l1] at H
                 by_cases c53 : x15_5 < (t380.length : Int)
                 ·as_aux_lemma =>
                  rw [if_pos c53] at H
                  have c53b0 : decide (x15_5 < (t380.length : Int)) = true := decide_eq_true c53
                  clear c53
                  by_cases c54 : 0 ≤ x15_5
                  ·as_aux_lemma =>
                   rw [if_pos c54] at H
                   have c54b0 : decide (0 ≤ x15_5) = true := decide_eq_true c54
                   clear c54
                   by_cases c55 : (rd t380 x15_5) < 0
                   ·rw [if_pos c55] at H
                    exact absurd H (by simp)
                   ·as_aux_lemma =>
                    rw [if_neg c55] at H
                    have c55b0 : decide ((rd t380 x15_5) < 0) = false := decide_eq_false c55
                    clear c55
                    by_cases c56 : (rd t380 x15_5) ≥ (t373.length : Int)
                    ·rw [if_pos c56] at H
                     exact absurd H (by simp)
                    ·as_aux_lemma =>
                     rw [if_neg c56] at H
                     have c56b0 : decide ((t373.length : Int) ≤ (rd t380 x15_5)) = false := decide_eq_false c56
                     clear c56
                     by_cases c57 : 0 ≤ (rd t380 x15_5)
                     ·as_aux_lemma =>
                      rw [if_pos c57] at H
                      have c57b0 : decide (0 ≤ (rd t380 x15_5)) = true := decide_eq_true c57
                      clear c57
                      by_cases c58 : (rd t380 x15_5) < (t373.length : Int)
                      ·as_aux_lemma =>
                       rw [if_pos c58] at H
                       have c58b0 : decide ((rd t380 x15_5) < (t373.length : Int)) = true := decide_eq_true c58
                       clear c58
                       by_cases c59 : ((rd_T25 t373 (rd t380 x15_5)).f0) = x14_5
                       ·as_aux_lemma =>
                        rw [if_pos c59] at H
                        have c59b0 : (((rd_T25 t373 (rd t380 x15_5)).f0) == x14_5) = true := beq_iff_eq.mpr c59
                        have c59b1 : (((rd_T25 t373 (rd t380 x15_5)).f0) != x14_5) = false := bne_eq_false_iff_eq.mpr c59
                        clear c59
                        replace H := Option.bind_eq_some_iff.mp H
                        obtain ⟨t398, A600, H⟩ := H
                        replace H : (if t398 = true then (if ((rd_T25 t373 (rd t380 x15_5)).f3) < (wrap64 ((wrap64 ((t380.length : Int) - 1)) - x15_5)) then (none) else (laws_FnChains.l1 k5 t373 t375 t376 t377 t380 t381 ((rd_T25 t373 (rd t380 x15_5)).f1) (wrap64 (x15_5 + 1)))) else (none)) = some r := H
                        have A60 := aM A600
                        clear A600
                        by_cases c61 : t398 = true
                        ·subst c61
                         have H1 : (if ((rd_T25 t373 (rd t380 x15_5)).f3) < (wrap64 ((wrap64 ((t380.length : Int) - 1)) - x15_5)) then (none) else (laws_FnChains.l1 k5 t373 t375 t376 t377 t380 t381 ((rd_T25 t373 (rd t380 x15_5)).f1) (wrap64 (x15_5 + 1)))) = some r := by rw [if_pos rfl] at H; exact H
                         clear H
                         have H := H1
                         clear H1
                         by_cases c62 : ((rd_T25 t373 (rd t380 x15_5)).f3) < (wrap64 ((wrap64 ((t380.length : Int) - 1)) - x15_5))
                         ·rw [if_pos c62] at H
                          exact absurd H (by simp)
                         ·as_aux_lemma =>
                          rw [if_neg c62] at H
                          have c62b0 : decide (((rd_T25 t373 (rd t380 x15_5)).f3) < (wrap64 ((wrap64 ((t380.length : Int) - 1)) - x15_5))) = false := decide_eq_false c62
                          clear c62
                          have H' := aM H
                          clear H
                          obtain ⟨Ao63, co63, eo63⟩ := Kd.R_slice HO_8.out
                          subst eo63
                          have p392 : 0 ≤ (x15_5 : Int) := of_decide_eq_true (by first | (with_reducible assumption) | assumption)
                          have q392 : x15_5 < (t380.length : Int) := of_decide_eq_true (by first | (with_reducible assumption) | assumption)
                          obtain ⟨ad392, e392, hx392_0⟩ := Kd.at_int (Kd.R_reads' HO_8.out).2.2 x15_5 p392 q392
                          cases e392
                          replace p392 := eq_true p392
                          replace q392 := eq_true q392
                          have p393 : 0 ≤ (x15_5 : Int) := of_decide_eq_true (by first | (with_reducible assumption) | assumption)
                          have q393 : x15_5 < (t380.length : Int) := of_decide_eq_true (by first | (with_reducible assumption) | assumption)
                          obtain ⟨ad393, e393, hx393_0⟩ := Kd.at_int (Kd.R_reads' HO_8.out).2.2 x15_5 p393 q393
                          obtain rfl : ad392 = ad393 := (by injection e393)
                          replace p393 := eq_true p393
                          replace q393 := eq_true q393
                          have p394 : 0 ≤ (x15_5 : Int) := of_decide_eq_true (by first | (with_reducible assumption) | assumption)
                          have q394 : x15_5 < (t380.length : Int) := of_decide_eq_true (by first | (with_reducible assumption) | assumption)
                          obtain ⟨ad394, e394, hx394_0⟩ := Kd.at_int (Kd.R_reads' HO_8.out).2.2 x15_5 p394 q394
                          obtain rfl : ad392 = ad394 := (by injection e394)
                          replace p394 := eq_true p394
                          replace q394 := eq_true q394
                          have p395 : 0 ≤ ((rd t380 x15_5) : Int) := of_decide_eq_true (by first | (with_reducible assumption) | assumption)
                          have q395 : (rd t380 x15_5) < (t373.length : Int) := of_decide_eq_true (by first | (with_reducible assumption) | assumption)
                          obtain ⟨ad395, e395, hx395_0, hx395_1, hx395_2, hx395_3, hx395_4, hx395_5, hx395_6⟩ := at_T25 (Kd.R_reads' HO_3.out).2.2 (rd t380 x15_5) p395 q395
                          cases e395
                          replace p395 := eq_true p395
                          replace q395 := eq_true q395
                          have p396 : 0 ≤ (x15_5 : Int) := of_decide_eq_true (by first | (with_reducible assumption) | assumption)
                          have q396 : x15_5 < (t380.length : Int) := of_decide_eq_true (by first | (with_reducible assumption) | assumption)
                          obtain ⟨ad396, e396, hx396_0⟩ := Kd.at_int (Kd.R_reads' HO_8.out).2.2 x15_5 p396 q396
                          obtain rfl : ad392 = ad396 := (by injection e396)
                          replace p396 := eq_true p396
                          replace q396 := eq_true q396
                          have p397 : 0 ≤ ((rd t380 x15_5) : Int) := of_decide_eq_true (by first | (with_reducible assumption) | assumption)
                          have q397 : (rd t380 x15_5) < (t373.length : Int) := of_decide_eq_true (by first | (with_reducible assumption) | assumption)
                          obtain ⟨ad397, e397, hx397_0, hx397_1, hx397_2, hx397_3, hx397_4, hx397_5, hx397_6⟩ := at_T25 (Kd.R_reads' HO_3.out).2.2 (rd t380 x15_5) p397 q397
                          obtain rfl : ad395 = ad397 := (by injection e397)
                          replace p397 := eq_true p397
                          replace q397 := eq_true q397
                          go_wp2_with (first | (go_at_call 22; (with_reducible refine (impl_Applies.calls ((rd_T25 t373 (rd t380 x15_5)).f0) ((rd_T25 t373 (rd t380 x15_5)).f1) ((rd_T25 t373 (rd t380 x15_5)).f2) ((rd_T25 t373 (rd t380 x15_5)).f3) ((rd_T25 t373 (rd t380 x15_5)).f4) ((rd_T25 t373 (rd t380 x15_5)).f5) ((rd_T25 t373 (rd t380 x15_5)).f6) t376 t377 true _ A60.out).mono ?_); rintro e w64 ⟨rfl, hb⟩; have n0_ := aM (Kd.R_below (by (with_reducible repeat (first | apply Kd.R_alloc | apply Kd.R_drewN | apply Kd.R_drew)); exact HO_3.out) hb); have n1_ := aM (Kd.R_below (by (with_reducible repeat (first | apply Kd.R_alloc | apply Kd.R_drewN | apply Kd.R_drew)); exact HO_8.out) hb); have n2_ := aM (below_step (zb) hb); clear HO_3; clear HO_8; clear HB; have HO_3 := n0_; have HO_8 := n1_; have HB := n2_; clear n0_ n1_ n2_; (try clear hb); (try clear hb2); (try clear hk); (try clear hi); have p399 : 0 ≤ (x15_5 : Int) := of_decide_eq_true (by first | (with_reducible assumption) | assumption); have q399 : x15_5 < (t380.length : Int) := of_decide_eq_true (by first | (with_reducible assumption) | assumption); obtain ⟨ad399, e399, hx399_0⟩ := Kd.at_int (Kd.R_reads' HO_8.out).2.2 x15_5 p399 q399; obtain rfl : ad392 = ad399 := (by injection e399); replace p399 := eq_true p399; replace q399 := eq_true q399; have p400 : 0 ≤ ((rd t380 x15_5) : Int) := of_decide_eq_true (by first | (with_reducible assumption) | assumption); have q400 : (rd t380 x15_5) < (t373.length : Int) := of_decide_eq_true (by first | (with_reducible assumption) | assumption); obtain ⟨ad400, e400, hx400_0, hx400_1, hx400_2, hx400_3, hx400_4, hx400_5, hx400_6⟩ := at_T25 (Kd.R_reads' HO_3.out).2.2 (rd t380 x15_5) p400 q400; obtain rfl : ad395 = ad400 := (by injection e400); replace p400 := eq_true p400; replace q400 := eq_true q400; have p401 : 0 ≤ (x15_5 : Int) := of_decide_eq_true (by first | (with_reducible assumption) | assumption); have q401 : x15_5 < (t380.length : Int) := of_decide_eq_true (by first | (with_reducible assumption) | assumption); obtain ⟨ad401, e401, hx401_0⟩ := Kd.at_int (Kd.R_reads' HO_8.out).2.2 x15_5 p401 q401; obtain rfl : ad392 = ad401 := (by injection e401); replace p401 := eq_true p401; replace q401 := eq_true q401; have p402 : 0 ≤ ((rd t380 x15_5) : Int) := of_decide_eq_true (by first | (with_reducible assumption) | assumption); have q402 : (rd t380 x15_5) < (t373.length : Int) := of_decide_eq_true (by first | (with_reducible assumption) | assumption); obtain ⟨ad402, e402, hx402_0, hx402_1, hx402_2, hx402_3, hx402_4, hx402_5, hx402_6⟩ := at_T25 (Kd.R_reads' HO_3.out).2.2 (rd t380 x15_5) p402 q402; obtain rfl : ad395 = ad402 := (by injection e402); replace p402 := eq_true p402; replace q402 := eq_true q402))
                          go_roundg k5
                          case measure => have := HJ6.out; have := HJ21.out; have := HK3.out; have := HJ47.out; have := HK5.out; omega
                          case rel => exact ⟨((rd_T25 t373 (rd t380 x15_5)).f1), (wrap64 (x15_5 + 1)), zs, zs, H', ⟨by have := HJ6.out; have := HJ21.out; have := HK3.out; have := HJ47.out; have := HK5.out; omega⟩, ⟨by (with_reducible repeat (first | apply Kd.R_alloc | apply Kd.R_drewN | apply Kd.R_drew)); exact HO_3.out⟩, ⟨by (with_reducible repeat (first | apply Kd.R_alloc | apply Kd.R_drewN | apply Kd.R_drew)); exact HO_8.out⟩, ⟨zb⟩⟩
                        ·replace c61 := Bool.eq_false_iff.mpr c61
                         subst c61
                         have H1 : (none) = some r := by rw [if_neg (show ¬ (false = true) by decide)] at H; exact H
                         clear H
                         have H := H1
                         clear H1
                         exact absurd H (by simp)
                       ·rw [if_neg c59] at H
                        exact absurd H (by simp)
                      ·rw [if_neg c58] at H
                       exact absurd H (by simp)
                     ·rw [if_neg c57] at H
                      exact absurd H (by simp)
                  ·rw [if_neg c54] at H
                   exact absurd H (by simp)
                 ·as_aux_lemma =>
                  rw [if_neg c53] at H
                  have c53b0 : decide (x15_5 < (t380.length : Int)) = false := decide_eq_false c53
                  clear c53
                  by_cases c65 : t381 = true
                  ·subst c65
                   have H1 : (some (x14_5 == t375)) = some r := by rw [if_pos rfl] at H; exact H
                   clear H
                   have H := H1
                   clear H1
                   obtain rfl := Option.some.inj H
                   obtain ⟨Ao66, co66, eo66⟩ := Kd.R_slice HO_8.out
                   subst eo66
                   go_wp2
                   go_ret
                   exact ⟨zr, zb⟩
                  ·replace c65 := Bool.eq_false_iff.mpr c65
                   subst c65
                   have H1 : (some true) = some r := by rw [if_neg (show ¬ (false = true) by decide)] at H; exact H
                   clear H
                   have H := H1
                   clear H1
                   obtain rfl := Option.some.inj H
                   obtain ⟨Ao67, co67, eo67⟩ := Kd.R_slice HO_8.out
                   subst eo67
                   go_wp2
                   go_ret
                   exact ⟨zr, zb⟩

/-- THE ONE PURE STATEMENT of laws_FnChains: yours. -/
def laws_FnChains.Pure : Prop := ∀ (l0 : List Int), l0.length ≤ maxLen → l0.length * 1 ≤ 140737488351232 → (∀ x ∈ l0, (Lit.int .u8 x).wf = true) → ∃ k, laws_FnChains.f k l0 = some true
theorem laws_FnChains.walk (P : laws_FnChains.Pure) (a0 : Option Addr) (len0 cap0 : Nat) (z0 : List Int) (w : World) (w0 : (a0 = none ∧ len0 = 0 ∧ cap0 = 0 ∧ z0 = []) ∨ ∃ x, a0 = some x ∧ len0 ≤ cap0 ∧ cap0 ≤ maxLen ∧ z0.length = cap0 ∧ (∀ i, i < z0.length → w.cell? (x.add i) = some (.int .u8 (z0.getD i 0))) ∧ ∀ n ∈ z0, (Lit.int .u8 n).wf = true) (y0 : len0 * 1 ≤ 140737488351232) :
  Calls Try.prog 8 #[.slice a0 len0 cap0] w fun e w' => e = .returned (.bool true) ∧ Below w.heap.size w w' := by
 obtain ⟨l0, rfl, hr0, hm0, hw0, hc0⟩ := ReadsInt.ofRowC w0
 obtain ⟨k, h⟩ := P l0 hm0 y0 hw0
 refine (laws_FnChains.calls k _ _ l0 true w (Kd.C_of_reads (d := (0 : Int)) (h1 := fun _ => rfl) hr0) hc0 h).mono ?_
 rintro e w' ⟨rfl, hd⟩
 exact ⟨rfl, hd⟩

end Go.Proofs.Ytcpjfkagbnoagaa.QFnChains
