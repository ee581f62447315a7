/- FnExactResync: the row, out of its pure statement and the printed walk (rowgen.py). -/
import Derived.Test.YtdhinnolfpacgaaDoorLd
import Derived.Test.YtdhinnolfpacgaaDoorTie
import Derived.Test.YtdhinnolfpacgaaDoorCards
import Derived.SevenTiedAt
import Derived.Test.YtdhinnolfpacgaaDoorOpnFnExactResync
import Derived.Test.YtdhinnolfpacgaaDoorPureFnExactResync
namespace Go.Proofs.YtdhinnolfpacgaaDoor.fnExactResync
open Go.Proofs.YtdhinnolfpacgaaDoor Go.ChangeShapes Go.WideShapes Go.ChangeAt Go.RowKit Go.Deep Go.Proofs.YtdhinnolfpacgaaDoor.QFnExactResync Go.Proofs.YtdhinnolfpacgaaDoorW.PrintWords Go.Proofs.YtdhinnolfpacgaaDoorW.PrintLast
open Go.ChangeMaps (open_string shut_string)
theorem own : ownKnob Tryd.prog.godebug = none := by kernel_rfl
theorem laidOut : laidOutB Tryd.prog = true := by kernel_rfl
set_option maxRecDepth 100000 in
set_option maxHeartbeats 1000000 in
theorem lifted (os : Os) (started : os.Started) (H : Type) (enc : TypeId × Value → H) :
    ReturnsInHanded {} Tryd.checked os 5 .any (fun w args => (Rows.fnExactResyncSpec.pre enc Tryd.prog Tryd.f5 [] false w args ∧ laidMetH Tryd.prog Ld.laid3 w) ∧ sizedMet enc Tryd.prog Tryd.f5 (OpenSpec.ofChange Rows.fnExactResyncSpec) false w args) (Rows.fnExactResyncSpec.post enc Tryd.prog Tryd.f5 false true false false) := by
  refine returnsInHanded_of_change_and (C := Tryd.checked) (X := fun w _ => laidMetH Tryd.prog Ld.laid3 w) (fun _ _ _ hh h => h.of_heap hh) own started (by kernel_rfl) Tryd.func5
    (ChangeSpec.witness_shaped (enc := enc) (C := Tryd.checked) (os := os) (X := fun w _ => laidMetH Tryd.prog Ld.laid3 w) false (World.doorLaid Tryd.prog 24 os) #[.agg #[.int .i64 0, .int .i64 0, .int .i64 0, .int .i64 0, .int .i64 0], .string ByteArray.empty, .string ByteArray.empty, .int .i64 0] 8 rfl (World.shaped_of_RefB (by kernel_rfl) (by kernel_rfl)) (by kernel_rfl) (by kernel_rfl) (by kernel_rfl) (Ld.door_met os _)) ?_
  intro W base args ds gs before hval0 hW hcnd hsz0 hL _
  have HTAB : Sh.TabH W := Ld.tab_of_laid hL
  have HB := aM (Below.refl W.heap.size W)
  have hsz : (DataW.weightsEach Tryd.prog (Tryd.f5.params.toList ++ Rows.fnExactResyncSpec.plain.varTypes Tryd.prog) (ds ++ gs)).all (· ≤ reachBytes) = true := hsz0
  have hval : ∀ (j : Nat) t v, Tryd.f5.params[j]? = some t → args[j]? = some v → Value.okWide Tryd.prog W .any base t v := hval0
  have hW' := hW
  obtain ⟨p, q, hA0, hV, rfl, hfz, hnd⟩ := hW
  have hA : DataW.TrodAll enc Tryd.prog W 0 (fun _ => true) true Tryd.f5.params.toList args.toList ds p := hA0
  rw [Tryd.params5] at hA hval hsz
  obtain ⟨v0, vs0, d0, ds0, p0, q0, hargs, rfl, rfl, h0, r0⟩ := trodAll_cons hA
  obtain ⟨v1, vs1, d1, ds1, p1, q1, rfl, rfl, rfl, h1, r1⟩ := trodAll_cons r0
  obtain ⟨v2, vs2, d2, ds2, p2, q2, rfl, rfl, rfl, h2, r2⟩ := trodAll_cons r1
  obtain ⟨v3, vs3, d3, ds3, p3, q3, rfl, rfl, rfl, h3, r3⟩ := trodAll_cons r2
  obtain ⟨rfl, rfl, rfl⟩ := trodAll_nil r3
  obtain rfl : args = #[v0, v1, v2, v3] := by cases args; simp_all
  obtain ⟨rfl, rfl⟩ := trodVars_none hV
  have kk0 := h0
  have lt0 : ∀ x ∈ p0, x.block < W.heap.size := by obtain ⟨m, hm⟩ := kk0; exact DataW.trod_lt m _ _ _ hm
  have kk1 := h1
  have lt1 : ∀ x ∈ p1, x.block < W.heap.size := by obtain ⟨m, hm⟩ := kk1; exact DataW.trod_lt m _ _ _ hm
  have kk2 := h2
  have lt2 : ∀ x ∈ p2, x.block < W.heap.size := by obtain ⟨m, hm⟩ := kk2; exact DataW.trod_lt m _ _ _ hm
  have kk3 := h3
  have lt3 : ∀ x ∈ p3, x.block < W.heap.size := by obtain ⟨m, hm⟩ := kk3; exact DataW.trod_lt m _ _ _ hm
  obtain ⟨cs0, rfl, hf0⟩ := Opn.open_struct Tryd.underlying23 (by kernel_rfl) (by kernel_rfl) (hval 0 23 v0 rfl rfl) h0
  obtain ⟨hn0, fu0, hf0⟩ := hf0
  replace hn0 : cs0.length = 5 := hn0
  obtain ⟨u0_0, u0_1, u0_2, u0_3, u0_4, rfl⟩ := Opn.list5 hn0
  obtain ⟨x_, y_, hx_, ht_⟩ := hf0 0 _ rfl
  obtain rfl : u0_0 = x_ := by simpa using hx_
  obtain ⟨a0_0, he_, _, w0_0⟩ := DataW.trod_int Tryd.underlying3 ht_
  obtain rfl := (List.cons.inj he_).1
  clear hx_ ht_ he_
  obtain ⟨x_, y_, hx_, ht_⟩ := hf0 1 _ rfl
  obtain rfl : u0_1 = x_ := by simpa using hx_
  obtain ⟨a0_1, he_, _, w0_1⟩ := DataW.trod_int Tryd.underlying3 ht_
  obtain rfl := (List.cons.inj he_).1
  clear hx_ ht_ he_
  obtain ⟨x_, y_, hx_, ht_⟩ := hf0 2 _ rfl
  obtain rfl : u0_2 = x_ := by simpa using hx_
  obtain ⟨a0_2, he_, _, w0_2⟩ := DataW.trod_int Tryd.underlying3 ht_
  obtain rfl := (List.cons.inj he_).1
  clear hx_ ht_ he_
  obtain ⟨x_, y_, hx_, ht_⟩ := hf0 3 _ rfl
  obtain rfl : u0_3 = x_ := by simpa using hx_
  obtain ⟨a0_3, he_, _, w0_3⟩ := DataW.trod_int Tryd.underlying3 ht_
  obtain rfl := (List.cons.inj he_).1
  clear hx_ ht_ he_
  obtain ⟨x_, y_, hx_, ht_⟩ := hf0 4 _ rfl
  obtain rfl : u0_4 = x_ := by simpa using hx_
  obtain ⟨a0_4, he_, _, w0_4⟩ := DataW.trod_int Tryd.underlying3 ht_
  obtain rfl := (List.cons.inj he_).1
  clear hx_ ht_ he_
  obtain ⟨a1, rfl, rfl, rfl, y1⟩ := open_string Tryd.underlying9 (hval 1 9 v1 rfl rfl) h1
  have w1 : a1.size ≤ 140737488351232 := by
    have z := sized_string hsz (j := 1) (t := 9) rfl rfl
    rw [Array.length_toList] at z
    exact z
  obtain ⟨a2, rfl, rfl, rfl, y2⟩ := open_string Tryd.underlying9 (hval 2 9 v2 rfl rfl) h2
  have w2 : a2.size ≤ 140737488351232 := by
    have z := sized_string hsz (j := 2) (t := 9) rfl rfl
    rw [Array.length_toList] at z
    exact z
  obtain ⟨a3, rfl, rfl, rfl, w3⟩ := open_int Tryd.underlying3 (hval 3 3 v3 rfl rfl) h3
  clear hA0 hval0 hsz0 hsz hL
  obtain ⟨k, hP⟩ := Pure.FnExactResync a0_0 a0_1 a0_2 a0_3 a0_4 a1 a2 a3 w0_0 w0_1 w0_2 w0_3 w0_4 w1 w2 w3
  refine (laws_FnExactResync.calls k a0_0 a0_1 a0_2 a0_3 a0_4 a1 a2 a3 true W  hP HTAB).mono fun e W' ⟨he, bel0⟩ => ?_
  subst he
  have bel : Below W.heap.size W W' := bel0
  exact ⟨_, rfl, _, _, _, [], _, [], hW', trodAll_mk1 (shut_bool Tryd.underlying4 _), (trodAll_cons_mk (Below.trod laidOut (by kernel_rfl) (of_decide_eq_true (by kernel_rfl)) kk0 bel lt0) (trodAll_cons_mk (Below.trod laidOut (by kernel_rfl) (of_decide_eq_true (by kernel_rfl)) kk1 bel lt1) (trodAll_cons_mk (Below.trod laidOut (by kernel_rfl) (of_decide_eq_true (by kernel_rfl)) kk2 bel lt2) (trodAll_cons_mk (Below.trod laidOut (by kernel_rfl) (of_decide_eq_true (by kernel_rfl)) kk3 bel lt3) trodAll_mk0)))), rfl, bel.frame _, fun h => by cases h⟩
theorem over : Rows.fnExactResyncRow.holds Tryd.pinned (OpenSpec.ofChange Rows.fnExactResyncSpec) :=
  OpenClaim.holds_of_wide 5 Tryd.f5 rfl rfl rfl rfl rfl rfl rfl ⟨rfl, rfl, rfl, rfl, rfl⟩ rfl rfl rfl rfl rfl (by kernel_rfl) Tryd.func5 (by kernel_rfl)
    (of_decide_eq_true (by kernel_rfl)) (by unfold Func.isWrapper; first | (rw [if_pos (by decide +kernel)]; kernel_rfl) | (rw [if_neg (by decide +kernel)]; exact ⟨rfl, rfl⟩))
    (fun os started H enc _ => lifted os started H enc)
theorem proved : Rows.FnExactResyncSaid := over
#print axioms proved
end Go.Proofs.YtdhinnolfpacgaaDoor.fnExactResync
namespace Go.Proofs.YtdhinnolfpacgaaDoor
open Go
/-- The tied card. -/
theorem fnExactResync_holds : Rows.FnExactResyncCardSaid :=
  Claim7.holds_tied_plain_at .later [] [.data, .data, .data] true (true, "d9c6ea92c556a9337ef9455060cd5f29caa42fb501f86575642976908da462f8") false
    fnExactResync.proved (fun _ h => by cases h) (by kernel_rfl) (fun _ h => by cases h) fnExactResync_row_tie rfl ⟨rfl, rfl⟩ (by kernel_rfl) rfl
    (fun f fn hf hfn => by
      obtain rfl : f = 5 := Option.some.inj ((show Tryd.prog.funcNamed "loop.example/g03318/laws.FnExactResync" = some 5 by kernel_rfl).symm.trans hf) |>.symm
      obtain rfl : fn = Tryd.f5 := (Option.some.inj (Tryd.func5.symm.trans hfn)).symm
      exact ⟨by kernel_rfl, fun j t ht => by
        rw [Tryd.params5] at ht
        have hm : t ∈ [23, 9, 9, 3] := by simpa using Array.mem_of_getElem? ht
        have hall : ([23, 9, 9, 3].all fun u => !Tryd.prog.wantsStandIn u) = true := by kernel_rfl
        exact (show Tryd.prog.wantsStandIn t = false by simpa using List.all_eq_true.1 hall t hm)⟩)
    (by kernel_rfl)
#print axioms fnExactResync_holds
end Go.Proofs.YtdhinnolfpacgaaDoor
