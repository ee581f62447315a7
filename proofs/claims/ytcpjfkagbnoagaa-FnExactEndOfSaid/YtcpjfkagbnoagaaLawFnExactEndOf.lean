/- FnExactEndOf: the row, out of its pure statement and the printed walk (rowgen.py). -/
import Derived.Test.YtcpjfkagbnoagaaOpnFnExactEndOf
import Derived.Test.YtcpjfkagbnoagaaPureFnExactEndOf
namespace Go.Proofs.Ytcpjfkagbnoagaa.fnExactEndOf
open Go.ChangeShapes Go.WideShapes Go.ChangeAt Go.RowKit Go.Deep Go.Proofs.Ytcpjfkagbnoagaa.QFnExactEndOf Go.Proofs.YtcpjfkagbnoagaaW.PrintWords Go.Proofs.YtcpjfkagbnoagaaW.PrintLast
open Go.ChangeMaps (open_string shut_string)
theorem own : ownKnob Try.prog.godebug = none := by kernel_rfl
theorem laidOut : laidOutB Try.prog = true := by kernel_rfl
def fieldsOf23 : Array Field := #[{ name := "From", type := 3, offset := 0, embedded := false, tag := "", pkgPath := "", byteOffset := 0 }, { name := "To", type := 3, offset := 1, embedded := false, tag := "", pkgPath := "", byteOffset := 8 }, { name := "Parcel", type := 3, offset := 2, embedded := false, tag := "", pkgPath := "", byteOffset := 16 }, { name := "Depth", type := 3, offset := 3, embedded := false, tag := "", pkgPath := "", byteOffset := 24 }, { name := "Start", type := 3, offset := 4, embedded := false, tag := "", pkgPath := "", byteOffset := 32 }, { name := "End", type := 3, offset := 5, embedded := false, tag := "", pkgPath := "", byteOffset := 40 }, { name := "Off", type := 4, offset := 6, embedded := false, tag := "", pkgPath := "", byteOffset := 48 }]
theorem open23 {H : Type} {enc : TypeId × Value → H} {w : World} {base : Nat} {spare : Nat → Bool} {held : Bool} (l : List Value) (h : Opn.FieldsRead enc Try.prog w base spare held fieldsOf23 l) : ∃ y : S23, k23.K w y l ∧ ((Lit.int .i64 y.f0).wf = true ∧ (Lit.int .i64 y.f1).wf = true ∧ (Lit.int .i64 y.f2).wf = true ∧ (Lit.int .i64 y.f3).wf = true ∧ (Lit.int .i64 y.f4).wf = true ∧ (Lit.int .i64 y.f5).wf = true) := by
  obtain ⟨hn, fu, hf⟩ := h
  replace hn : l.length = 7 := hn
  obtain ⟨u0, u1, u2, u3, u4, u5, u6, rfl⟩ := Opn.list7 hn
  obtain ⟨x_, y_, hx_, ht_⟩ := hf 0 _ rfl
  obtain rfl : u0 = x_ := by simpa using hx_
  obtain ⟨a0, he_, _, w0⟩ := DataW.trod_int Try.underlying3 ht_
  obtain rfl := (List.cons.inj he_).1
  clear hx_ ht_ he_
  obtain ⟨x_, y_, hx_, ht_⟩ := hf 1 _ rfl
  obtain rfl : u1 = x_ := by simpa using hx_
  obtain ⟨a1, he_, _, w1⟩ := DataW.trod_int Try.underlying3 ht_
  obtain rfl := (List.cons.inj he_).1
  clear hx_ ht_ he_
  obtain ⟨x_, y_, hx_, ht_⟩ := hf 2 _ rfl
  obtain rfl : u2 = x_ := by simpa using hx_
  obtain ⟨a2, he_, _, w2⟩ := DataW.trod_int Try.underlying3 ht_
  obtain rfl := (List.cons.inj he_).1
  clear hx_ ht_ he_
  obtain ⟨x_, y_, hx_, ht_⟩ := hf 3 _ rfl
  obtain rfl : u3 = x_ := by simpa using hx_
  obtain ⟨a3, he_, _, w3⟩ := DataW.trod_int Try.underlying3 ht_
  obtain rfl := (List.cons.inj he_).1
  clear hx_ ht_ he_
  obtain ⟨x_, y_, hx_, ht_⟩ := hf 4 _ rfl
  obtain rfl : u4 = x_ := by simpa using hx_
  obtain ⟨a4, he_, _, w4⟩ := DataW.trod_int Try.underlying3 ht_
  obtain rfl := (List.cons.inj he_).1
  clear hx_ ht_ he_
  obtain ⟨x_, y_, hx_, ht_⟩ := hf 5 _ rfl
  obtain rfl : u5 = x_ := by simpa using hx_
  obtain ⟨a5, he_, _, w5⟩ := DataW.trod_int Try.underlying3 ht_
  obtain rfl := (List.cons.inj he_).1
  clear hx_ ht_ he_
  obtain ⟨x_, y_, hx_, ht_⟩ := hf 6 _ rfl
  obtain rfl : u6 = x_ := by simpa using hx_
  obtain ⟨a6, he_, _⟩ := DataW.trod_bool Try.underlying4 ht_
  obtain rfl := (List.cons.inj he_).1
  clear hx_ ht_ he_
  exact ⟨⟨a0, a1, a2, a3, a4, a5, a6⟩, k23_mk w ⟨a0, a1, a2, a3, a4, a5, a6⟩, ⟨w0, w1, w2, w3, w4, w5⟩⟩
set_option maxRecDepth 100000 in
set_option maxHeartbeats 1000000 in
theorem lifted (os : Os) (started : os.Started) (H : Type) (enc : TypeId × Value → H) :
    ReturnsInHanded {} Try.checked os 12 .any (Rows.fnExactEndOfSpec.pre6 enc Try.prog Try.f12 Rows.fnExactEndOfRow.domain false) (Rows.fnExactEndOfSpec.post enc Try.prog Try.f12 false true false false) := by
  refine returnsInHanded_of_change_sized (C := Try.checked) own started (by kernel_rfl) Try.func12
    (ChangeSpec.witness6 (enc := enc) (C := Try.checked) false ⟨#[], #[.slice none 0 0, .int .i64 0, .int .i64 0, .int .i64 0, .int .i64 0], []⟩ 8 (by kernel_rfl) (by kernel_rfl) (by kernel_rfl) (by kernel_rfl)) ?_
  intro W base args ds gs before hval0 hW hcnd hsz0 _
  have hsz : (DataW.weightsEach Try.prog (Try.f12.params.toList ++ Rows.fnExactEndOfSpec.plain.varTypes Try.prog) (ds ++ gs)).all (· ≤ reachBytes) = true := hsz0
  have hval : ∀ (j : Nat) t v, Try.f12.params[j]? = some t → args[j]? = some v → Value.okWide Try.prog W .any base t v := hval0
  have hW' := hW
  obtain ⟨p, q, hA0, hV, rfl, hfz, hnd⟩ := hW
  have hA : DataW.TrodAll enc Try.prog W 0 (fun _ => true) true Try.f12.params.toList args.toList ds p := hA0
  rw [Try.params12] at hA hval hsz
  obtain ⟨v0, vs0, d0, ds0, p0, q0, hargs, rfl, rfl, h0, r0⟩ := trodAll_cons hA
  obtain ⟨v1, vs1, d1, ds1, p1, q1, rfl, rfl, rfl, h1, r1⟩ := trodAll_cons r0
  obtain ⟨v2, vs2, d2, ds2, p2, q2, rfl, rfl, rfl, h2, r2⟩ := trodAll_cons r1
  obtain ⟨v3, vs3, d3, ds3, p3, q3, rfl, rfl, rfl, h3, r3⟩ := trodAll_cons r2
  obtain ⟨v4, vs4, d4, ds4, p4, q4, rfl, rfl, rfl, h4, r4⟩ := trodAll_cons r3
  obtain ⟨rfl, rfl, rfl⟩ := trodAll_nil r4
  obtain rfl : args = #[v0, v1, v2, v3, v4] := by cases args; simp_all
  obtain ⟨rfl, rfl⟩ := trodVars_none hV
  have kk0 := h0
  have lt0 : ∀ x ∈ p0, x.block < W.heap.size := by obtain ⟨m, hm⟩ := kk0; exact DataW.trod_lt m _ _ _ hm
  have kk1 := h1
  have lt1 : ∀ x ∈ p1, x.block < W.heap.size := by obtain ⟨m, hm⟩ := kk1; exact DataW.trod_lt m _ _ _ hm
  have kk2 := h2
  have lt2 : ∀ x ∈ p2, x.block < W.heap.size := by obtain ⟨m, hm⟩ := kk2; exact DataW.trod_lt m _ _ _ hm
  have kk3 := h3
  have lt3 : ∀ x ∈ p3, x.block < W.heap.size := by obtain ⟨m, hm⟩ := kk3; exact DataW.trod_lt m _ _ _ hm
  have kk4 := h4
  have lt4 : ∀ x ∈ p4, x.block < W.heap.size := by obtain ⟨m, hm⟩ := kk4; exact DataW.trod_lt m _ _ _ hm
  obtain ⟨a0, len0, cap0, rfl⟩ := okWide_slice Try.underlying30 (hval 0 30 v0 rfl rfl)
  obtain ⟨fu0, hf0⟩ := h0
  replace hf0 : DataW.trod enc Try.prog W 0 (fun _ => true) true fu0 30 [.slice a0 len0 cap0] = some (d0, p0) := hf0
  obtain ⟨l0, hl0, hlc0, hcm0, hr0, hq0⟩ := Opn.row_of k23 (fun y => (Lit.int .i64 y.f0).wf = true ∧ (Lit.int .i64 y.f1).wf = true ∧ (Lit.int .i64 y.f2).wf = true ∧ (Lit.int .i64 y.f3).wf = true ∧ (Lit.int .i64 y.f4).wf = true ∧ (Lit.int .i64 y.f5).wf = true) Try.underlying30 Try.underlying23 (by kernel_rfl) (by kernel_rfl) rfl open23 hf0
  subst hl0
  obtain ⟨a1, rfl, rfl, rfl, w1⟩ := open_int Try.underlying3 (hval 1 3 v1 rfl rfl) h1
  obtain ⟨a2, rfl, rfl, rfl, w2⟩ := open_int Try.underlying3 (hval 2 3 v2 rfl rfl) h2
  obtain ⟨a3, rfl, rfl, rfl, w3⟩ := open_int Try.underlying3 (hval 3 3 v3 rfl rfl) h3
  obtain ⟨a4, rfl, rfl, rfl, w4⟩ := open_int Try.underlying3 (hval 4 3 v4 rfl rfl) h4
  clear hA0 hval0 hsz0 hsz
  obtain ⟨k, hP⟩ := Pure.FnExactEndOf l0 a1 a2 a3 a4 hr0.2.1 hq0 w1 w2 w3 w4
  refine (laws_FnExactEndOf.calls k a0 cap0 l0 a1 a2 a3 a4 true W hr0 hlc0 hP).mono fun e W' ⟨he, bel0⟩ => ?_
  subst he
  have bel : Below W.heap.size W W' := bel0
  exact ⟨_, rfl, _, _, _, [], _, [], hW', trodAll_mk1 (shut_bool Try.underlying4 _), (trodAll_cons_mk (Below.trod laidOut (by kernel_rfl) (of_decide_eq_true (by kernel_rfl)) kk0 bel lt0) (trodAll_cons_mk (Below.trod laidOut (by kernel_rfl) (of_decide_eq_true (by kernel_rfl)) kk1 bel lt1) (trodAll_cons_mk (Below.trod laidOut (by kernel_rfl) (of_decide_eq_true (by kernel_rfl)) kk2 bel lt2) (trodAll_cons_mk (Below.trod laidOut (by kernel_rfl) (of_decide_eq_true (by kernel_rfl)) kk3 bel lt3) (trodAll_cons_mk (Below.trod laidOut (by kernel_rfl) (of_decide_eq_true (by kernel_rfl)) kk4 bel lt4) trodAll_mk0))))), rfl, bel.frame _, fun h => by cases h⟩
theorem over : Rows.fnExactEndOfRow.holds Try.pinned (OpenSpec.ofChange Rows.fnExactEndOfSpec) :=
  OpenClaim.holds_of_wide 12 Try.f12 rfl rfl rfl rfl rfl rfl rfl ⟨rfl, rfl, rfl, rfl, rfl⟩ rfl rfl rfl rfl rfl (by kernel_rfl) Try.func12 (by kernel_rfl)
    (of_decide_eq_true (by kernel_rfl)) (by unfold Func.isWrapper; first | (rw [if_pos (by decide +kernel)]; kernel_rfl) | (rw [if_neg (by decide +kernel)]; exact ⟨rfl, rfl⟩))
    (fun os started H enc _ => lifted os started H enc)
theorem proved : Rows.FnExactEndOfSaid := over
#print axioms proved
end Go.Proofs.Ytcpjfkagbnoagaa.fnExactEndOf
namespace Go.Proofs.Ytcpjfkagbnoagaa
/-- The row, under a short name, for the claim. -/
theorem fnExactEndOf_holds : Rows.FnExactEndOfSaid := fnExactEndOf.proved
end Go.Proofs.Ytcpjfkagbnoagaa
