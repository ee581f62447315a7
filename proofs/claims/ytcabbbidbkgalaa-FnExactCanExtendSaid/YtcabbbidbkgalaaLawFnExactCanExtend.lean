/- FnExactCanExtend: the row, out of its pure statement and the printed walk (rowgen.py). -/
import Derived.Test.YtcabbbidbkgalaaOpn
import Derived.Test.YtcabbbidbkgalaaPureFnExactCanExtend
namespace Go.Proofs.Ytcabbbidbkgalaa.fnExactCanExtend
open Go.ChangeShapes Go.WideShapes Go.ChangeAt Go.RowKit Go.Deep Go.Proofs.Ytcabbbidbkgalaa.PFnExactCanExtend Go.Proofs.YtcabbbidbkgalaaW.PrintWords Go.Proofs.YtcabbbidbkgalaaW.PrintLast
open Go.ChangeMaps (open_string shut_string)
theorem own : ownKnob Try.prog.godebug = none := by kernel_rfl
theorem laidOut : laidOutB Try.prog = true := by kernel_rfl
def fieldsOf73 : Array Field := #[{ name := "From", type := 3, offset := 0, embedded := false, tag := "", pkgPath := "", byteOffset := 0 }, { name := "To", type := 3, offset := 1, embedded := false, tag := "", pkgPath := "", byteOffset := 8 }]
theorem open73 {H : Type} {enc : TypeId × Value → H} {w : World} {base : Nat} {spare : Nat → Bool} {held : Bool} (l : List Value) (h : Opn.FieldsRead enc Try.prog w base spare held fieldsOf73 l) : ∃ y : S73, k73.K w y l ∧ ((Lit.int .i64 y.f0).wf = true ∧ (Lit.int .i64 y.f1).wf = true) := by
  obtain ⟨hn, fu, hf⟩ := h
  replace hn : l.length = 2 := hn
  obtain ⟨u0, u1, rfl⟩ := Opn.list2 hn
  obtain ⟨x_, y_, hx_, ht_⟩ := hf 0 _ rfl
  obtain rfl : u0 = x_ := by simpa using hx_
  obtain ⟨a0, he_, _, w0⟩ := DataW.trod_int Try.underlying3 ht_
  obtain rfl := (List.cons.inj he_).1
  clear hx_ ht_ he_
  obtain ⟨x_, y_, hx_, ht_⟩ := hf 1 _ rfl
  obtain rfl : u1 = x_ := by simpa using hx_
  obtain ⟨a1, he_, _, w1⟩ := DataW.trod_int Try.underlying3 ht_
  obtain rfl := (List.cons.inj he_).1
  clear hx_ ht_ he_
  exact ⟨⟨a0, a1⟩, k73_mk w ⟨a0, a1⟩, ⟨w0, w1⟩⟩
set_option maxRecDepth 100000 in
set_option maxHeartbeats 1000000 in
theorem lifted (os : Os) (started : os.Started) (H : Type) (enc : TypeId × Value → H) :
    ReturnsInHanded {} Try.checked os 9 .any (Rows.fnExactCanExtendSpec.pre6 enc Try.prog Try.f9 Rows.fnExactCanExtendRow.domain false) (Rows.fnExactCanExtendSpec.post enc Try.prog Try.f9 false true false false) := by
  refine returnsInHanded_of_change_sized (C := Try.checked) own started (by kernel_rfl) Try.func9
    (ChangeSpec.witness6 (enc := enc) (C := Try.checked) false ⟨#[], #[.agg #[.slice none 0 0, .slice none 0 0], .agg #[.int .i64 0, .int .i64 0, .int .i64 0, .int .i64 0, .int .i64 0, .int .i64 0, .int .i64 0, .int .i64 0], .int .i64 0, .int .i64 0, .int .i64 0], []⟩ 8 (by kernel_rfl) (by kernel_rfl) (by kernel_rfl) (by kernel_rfl)) ?_
  intro W base args ds gs before hval0 hW hcnd hsz0 _
  have hsz : (DataW.weightsEach Try.prog (Try.f9.params.toList ++ Rows.fnExactCanExtendSpec.plain.varTypes Try.prog) (ds ++ gs)).all (· ≤ reachBytes) = true := hsz0
  have hval : ∀ (j : Nat) t v, Try.f9.params[j]? = some t → args[j]? = some v → Value.okWide Try.prog W .any base t v := hval0
  have hW' := hW
  obtain ⟨p, q, hA0, hV, rfl, hfz, hnd⟩ := hW
  have hA : DataW.TrodAll enc Try.prog W 0 (fun _ => true) true Try.f9.params.toList args.toList ds p := hA0
  rw [Try.params9] at hA hval hsz
  obtain ⟨v0, vs0, d0, ds0, p0, q0, hargs, rfl, rfl, h0, r0⟩ := trodAll_cons hA
  obtain ⟨v1, vs1, d1, ds1, p1, q1, rfl, rfl, rfl, h1, r1⟩ := trodAll_cons r0
  obtain ⟨v2, vs2, d2, ds2, p2, q2, rfl, rfl, rfl, h2, r2⟩ := trodAll_cons r1
  obtain ⟨v3, vs3, d3, ds3, p3, q3, rfl, rfl, rfl, h3, r3⟩ := trodAll_cons r2
  obtain ⟨v4, vs4, d4, ds4, p4, q4, rfl, rfl, rfl, h4, r4⟩ := trodAll_cons r3
  obtain ⟨rfl, rfl, rfl⟩ := trodAll_nil r4
  obtain rfl : args = #[v0, v1, v2, v3, v4] := by cases args; simp_all
  obtain ⟨rfl, rfl⟩ := trodVars_none hV
  have kk0 := h0
  have lt0 : ∀ x ∈ p0, x.block < W.heap.size := by obtain ⟨m, hm⟩ := kk0; exact DataW.trod_lt m _ _ _ hm
  have kk1 := h1
  have lt1 : ∀ x ∈ p1, x.block < W.heap.size := by obtain ⟨m, hm⟩ := kk1; exact DataW.trod_lt m _ _ _ hm
  have kk2 := h2
  have lt2 : ∀ x ∈ p2, x.block < W.heap.size := by obtain ⟨m, hm⟩ := kk2; exact DataW.trod_lt m _ _ _ hm
  have kk3 := h3
  have lt3 : ∀ x ∈ p3, x.block < W.heap.size := by obtain ⟨m, hm⟩ := kk3; exact DataW.trod_lt m _ _ _ hm
  have kk4 := h4
  have lt4 : ∀ x ∈ p4, x.block < W.heap.size := by obtain ⟨m, hm⟩ := kk4; exact DataW.trod_lt m _ _ _ hm
  obtain ⟨cs0, rfl, hf0⟩ := Opn.open_struct Try.underlying30 (by kernel_rfl) (by kernel_rfl) (hval 0 30 v0 rfl rfl) h0
  obtain ⟨hn0, fu0, hf0⟩ := hf0
  replace hn0 : cs0.length = 2 := hn0
  obtain ⟨u0_0, u0_1, rfl⟩ := Opn.list2 hn0
  obtain ⟨x_, y_, hx_, ht_⟩ := hf0 0 _ rfl
  obtain rfl : u0_0 = x_ := by simpa using hx_
  obtain ⟨a0_0, len0_0, cap0_0, rfl⟩ : ∃ a len cap, u0_0 = .slice a len cap := by
    rcases open_slice Try.underlying28 ht_ with ⟨he_, _⟩ | ⟨ad_, len_, cap_, m_, n_, D_, Pl_, he_, _⟩
    · exact ⟨_, _, _, (List.cons.inj he_).1⟩
    · exact ⟨_, _, _, (List.cons.inj he_).1⟩
  obtain ⟨l0_0, hl0_0, hlc0_0, hcm0_0, hr0_0, hq0_0⟩ := Opn.row_of k73 (fun y => (Lit.int .i64 y.f0).wf = true ∧ (Lit.int .i64 y.f1).wf = true) Try.underlying28 Try.underlying73 (by kernel_rfl) (by kernel_rfl) rfl open73 ht_
  subst hl0_0
  clear hx_ ht_
  obtain ⟨x_, y_, hx_, ht_⟩ := hf0 1 _ rfl
  obtain rfl : u0_1 = x_ := by simpa using hx_
  obtain ⟨a0_1, len0_1, cap0_1, rfl⟩ : ∃ a len cap, u0_1 = .slice a len cap := by
    rcases open_slice Try.underlying28 ht_ with ⟨he_, _⟩ | ⟨ad_, len_, cap_, m_, n_, D_, Pl_, he_, _⟩
    · exact ⟨_, _, _, (List.cons.inj he_).1⟩
    · exact ⟨_, _, _, (List.cons.inj he_).1⟩
  obtain ⟨l0_1, hl0_1, hlc0_1, hcm0_1, hr0_1, hq0_1⟩ := Opn.row_of k73 (fun y => (Lit.int .i64 y.f0).wf = true ∧ (Lit.int .i64 y.f1).wf = true) Try.underlying28 Try.underlying73 (by kernel_rfl) (by kernel_rfl) rfl open73 ht_
  subst hl0_1
  clear hx_ ht_
  obtain ⟨cs1, rfl, hf1⟩ := Opn.open_struct Try.underlying23 (by kernel_rfl) (by kernel_rfl) (hval 1 23 v1 rfl rfl) h1
  obtain ⟨hn1, fu1, hf1⟩ := hf1
  replace hn1 : cs1.length = 8 := hn1
  obtain ⟨u1_0, u1_1, u1_2, u1_3, u1_4, u1_5, u1_6, u1_7, rfl⟩ := Opn.list8 hn1
  obtain ⟨x_, y_, hx_, ht_⟩ := hf1 0 _ rfl
  obtain rfl : u1_0 = x_ := by simpa using hx_
  obtain ⟨a1_0, he_, _, w1_0⟩ := DataW.trod_int Try.underlying3 ht_
  obtain rfl := (List.cons.inj he_).1
  clear hx_ ht_ he_
  obtain ⟨x_, y_, hx_, ht_⟩ := hf1 1 _ rfl
  obtain rfl : u1_1 = x_ := by simpa using hx_
  obtain ⟨a1_1, he_, _, w1_1⟩ := DataW.trod_int Try.underlying3 ht_
  obtain rfl := (List.cons.inj he_).1
  clear hx_ ht_ he_
  obtain ⟨x_, y_, hx_, ht_⟩ := hf1 2 _ rfl
  obtain rfl : u1_2 = x_ := by simpa using hx_
  obtain ⟨a1_2, he_, _, w1_2⟩ := DataW.trod_int Try.underlying3 ht_
  obtain rfl := (List.cons.inj he_).1
  clear hx_ ht_ he_
  obtain ⟨x_, y_, hx_, ht_⟩ := hf1 3 _ rfl
  obtain rfl : u1_3 = x_ := by simpa using hx_
  obtain ⟨a1_3, he_, _, w1_3⟩ := DataW.trod_int Try.underlying3 ht_
  obtain rfl := (List.cons.inj he_).1
  clear hx_ ht_ he_
  obtain ⟨x_, y_, hx_, ht_⟩ := hf1 4 _ rfl
  obtain rfl : u1_4 = x_ := by simpa using hx_
  obtain ⟨a1_4, he_, _, w1_4⟩ := DataW.trod_int Try.underlying3 ht_
  obtain rfl := (List.cons.inj he_).1
  clear hx_ ht_ he_
  obtain ⟨x_, y_, hx_, ht_⟩ := hf1 5 _ rfl
  obtain rfl : u1_5 = x_ := by simpa using hx_
  obtain ⟨a1_5, he_, _, w1_5⟩ := DataW.trod_int Try.underlying3 ht_
  obtain rfl := (List.cons.inj he_).1
  clear hx_ ht_ he_
  obtain ⟨x_, y_, hx_, ht_⟩ := hf1 6 _ rfl
  obtain rfl : u1_6 = x_ := by simpa using hx_
  obtain ⟨a1_6, he_, _, w1_6⟩ := DataW.trod_int Try.underlying3 ht_
  obtain rfl := (List.cons.inj he_).1
  clear hx_ ht_ he_
  obtain ⟨x_, y_, hx_, ht_⟩ := hf1 7 _ rfl
  obtain rfl : u1_7 = x_ := by simpa using hx_
  obtain ⟨a1_7, he_, _, w1_7⟩ := DataW.trod_int Try.underlying3 ht_
  obtain rfl := (List.cons.inj he_).1
  clear hx_ ht_ he_
  obtain ⟨a2, rfl, rfl, rfl, w2⟩ := open_int Try.underlying3 (hval 2 3 v2 rfl rfl) h2
  obtain ⟨a3, rfl, rfl, rfl, w3⟩ := open_int Try.underlying3 (hval 3 3 v3 rfl rfl) h3
  obtain ⟨a4, rfl, rfl, rfl, w4⟩ := open_int Try.underlying3 (hval 4 3 v4 rfl rfl) h4
  clear hA0 hval0 hsz0 hsz
  obtain ⟨k, hP⟩ := Pure.FnExactCanExtend l0_0 l0_1 a1_0 a1_1 a1_2 a1_3 a1_4 a1_5 a1_6 a1_7 a2 a3 a4 hr0_0.2.1 hq0_0 hr0_1.2.1 hq0_1 w1_0 w1_1 w1_2 w1_3 w1_4 w1_5 w1_6 w1_7 w2 w3 w4
  refine (laws_FnExactCanExtend.calls k a0_0 cap0_0 l0_0 a0_1 cap0_1 l0_1 a1_0 a1_1 a1_2 a1_3 a1_4 a1_5 a1_6 a1_7 a2 a3 a4 true W hr0_0 hlc0_0 hr0_1 hlc0_1 hP).mono fun e W' ⟨he, bel0⟩ => ?_
  subst he
  have bel : Below W.heap.size W W' := bel0
  exact ⟨_, rfl, _, _, _, [], _, [], hW', trodAll_mk1 (shut_bool Try.underlying4 _), (trodAll_cons_mk (Below.trod laidOut (by kernel_rfl) (of_decide_eq_true (by kernel_rfl)) kk0 bel lt0) (trodAll_cons_mk (Below.trod laidOut (by kernel_rfl) (of_decide_eq_true (by kernel_rfl)) kk1 bel lt1) (trodAll_cons_mk (Below.trod laidOut (by kernel_rfl) (of_decide_eq_true (by kernel_rfl)) kk2 bel lt2) (trodAll_cons_mk (Below.trod laidOut (by kernel_rfl) (of_decide_eq_true (by kernel_rfl)) kk3 bel lt3) (trodAll_cons_mk (Below.trod laidOut (by kernel_rfl) (of_decide_eq_true (by kernel_rfl)) kk4 bel lt4) trodAll_mk0))))), rfl, bel.frame _, fun h => by cases h⟩
theorem over : Rows.fnExactCanExtendRow.holds Try.pinned (OpenSpec.ofChange Rows.fnExactCanExtendSpec) :=
  OpenClaim.holds_of_wide 9 Try.f9 rfl rfl rfl rfl rfl rfl rfl ⟨rfl, rfl, rfl, rfl, rfl⟩ rfl rfl rfl rfl rfl (by kernel_rfl) Try.func9 (by kernel_rfl)
    (of_decide_eq_true (by kernel_rfl)) (by unfold Func.isWrapper; first | (rw [if_pos (by decide +kernel)]; kernel_rfl) | (rw [if_neg (by decide +kernel)]; exact ⟨rfl, rfl⟩))
    (fun os started H enc _ => lifted os started H enc)
theorem proved : Rows.FnExactCanExtendSaid := over
#print axioms proved
end Go.Proofs.Ytcabbbidbkgalaa.fnExactCanExtend
namespace Go.Proofs.Ytcabbbidbkgalaa
/-- The row, under a short name, for the claim. -/
theorem fnExactCanExtend_holds : Rows.FnExactCanExtendSaid := fnExactCanExtend.proved
end Go.Proofs.Ytcabbbidbkgalaa
