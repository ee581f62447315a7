/- FnExactDoActs: the row, out of its pure statement and the printed walk (rowgen.py). -/
import Derived.Test.YtglpkjcblpjnoabOpn
import Derived.Test.YtglpkjcblpjnoabPureFnExactDoActs
namespace Go.Proofs.Ytglpkjcblpjnoab.fnExactDoActs
open Go.ChangeShapes Go.WideShapes Go.ChangeAt Go.RowKit Go.Deep Go.Proofs.Ytglpkjcblpjnoab.QFnExactDoActs Go.Proofs.YtglpkjcblpjnoabW.PrintWords Go.Proofs.YtglpkjcblpjnoabW.PrintLast
open Go.ChangeMaps (open_string shut_string)
theorem own : ownKnob Try.prog.godebug = none := by kernel_rfl
theorem laidOut : laidOutB Try.prog = true := by kernel_rfl
def IsRow (k : IntKind) (w : World) (a : Option Addr) (len cap : Nat) (zs : List Int) : Prop :=
  (a = none ∧ len = 0 ∧ cap = 0 ∧ zs = []) ∨
  ∃ x, a = some x ∧ len ≤ cap ∧ cap ≤ maxLen ∧ zs.length = cap ∧ (∀ i, i < zs.length → w.cell? (x.add i) = some (.int k (zs.getD i 0))) ∧ ∀ n ∈ zs, (Lit.int k n).wf = true
set_option maxRecDepth 100000 in
set_option maxHeartbeats 1000000 in
theorem lifted (os : Os) (started : os.Started) (H : Type) (enc : TypeId × Value → H) :
    ReturnsInHanded {} Try.checked os 11 .any (Rows.fnExactDoActsSpec.pre6 enc Try.prog Try.f11 Rows.fnExactDoActsRow.domain false) (Rows.fnExactDoActsSpec.post enc Try.prog Try.f11 false true false false) := by
  refine returnsInHanded_of_change_sized (C := Try.checked) own started (by kernel_rfl) Try.func11
    (ChangeSpec.witness6 (enc := enc) (C := Try.checked) false ⟨#[], #[.agg #[.int .i64 0, .int .i64 0, .bool false, .bool false, .bool false], .slice none 0 0], []⟩ 8 (by kernel_rfl) (by kernel_rfl) (by kernel_rfl) (by kernel_rfl)) ?_
  intro W base args ds gs before hval0 hW hcnd hsz0 _
  have hsz : (DataW.weightsEach Try.prog (Try.f11.params.toList ++ Rows.fnExactDoActsSpec.plain.varTypes Try.prog) (ds ++ gs)).all (· ≤ reachBytes) = true := hsz0
  have hval : ∀ (j : Nat) t v, Try.f11.params[j]? = some t → args[j]? = some v → Value.okWide Try.prog W .any base t v := hval0
  have hW' := hW
  obtain ⟨p, q, hA0, hV, rfl, hfz, hnd⟩ := hW
  have hA : DataW.TrodAll enc Try.prog W 0 (fun _ => true) true Try.f11.params.toList args.toList ds p := hA0
  rw [Try.params11] at hA hval hsz
  obtain ⟨v0, vs0, d0, ds0, p0, q0, hargs, rfl, rfl, h0, r0⟩ := trodAll_cons hA
  obtain ⟨v1, vs1, d1, ds1, p1, q1, rfl, rfl, rfl, h1, r1⟩ := trodAll_cons r0
  obtain ⟨rfl, rfl, rfl⟩ := trodAll_nil r1
  obtain rfl : args = #[v0, v1] := by cases args; simp_all
  obtain ⟨rfl, rfl⟩ := trodVars_none hV
  have kk0 := h0
  have lt0 : ∀ x ∈ p0, x.block < W.heap.size := by obtain ⟨m, hm⟩ := kk0; exact DataW.trod_lt m _ _ _ hm
  have kk1 := h1
  have lt1 : ∀ x ∈ p1, x.block < W.heap.size := by obtain ⟨m, hm⟩ := kk1; exact DataW.trod_lt m _ _ _ hm
  obtain ⟨cs0, rfl, hf0⟩ := Opn.open_struct Try.underlying23 (by kernel_rfl) (by kernel_rfl) (hval 0 23 v0 rfl rfl) h0
  obtain ⟨hn0, fu0, hf0⟩ := hf0
  replace hn0 : cs0.length = 5 := hn0
  obtain ⟨u0_0, u0_1, u0_2, u0_3, u0_4, rfl⟩ := Opn.list5 hn0
  obtain ⟨x_, y_, hx_, ht_⟩ := hf0 0 _ rfl
  obtain rfl : u0_0 = x_ := by simpa using hx_
  obtain ⟨a0_0, he_, _, w0_0⟩ := DataW.trod_int Try.underlying3 ht_
  obtain rfl := (List.cons.inj he_).1
  clear hx_ ht_ he_
  obtain ⟨x_, y_, hx_, ht_⟩ := hf0 1 _ rfl
  obtain rfl : u0_1 = x_ := by simpa using hx_
  obtain ⟨a0_1, he_, _, w0_1⟩ := DataW.trod_int Try.underlying3 ht_
  obtain rfl := (List.cons.inj he_).1
  clear hx_ ht_ he_
  obtain ⟨x_, y_, hx_, ht_⟩ := hf0 2 _ rfl
  obtain rfl : u0_2 = x_ := by simpa using hx_
  obtain ⟨a0_2, he_, _⟩ := DataW.trod_bool Try.underlying4 ht_
  obtain rfl := (List.cons.inj he_).1
  clear hx_ ht_ he_
  obtain ⟨x_, y_, hx_, ht_⟩ := hf0 3 _ rfl
  obtain rfl : u0_3 = x_ := by simpa using hx_
  obtain ⟨a0_3, he_, _⟩ := DataW.trod_bool Try.underlying4 ht_
  obtain rfl := (List.cons.inj he_).1
  clear hx_ ht_ he_
  obtain ⟨x_, y_, hx_, ht_⟩ := hf0 4 _ rfl
  obtain rfl : u0_4 = x_ := by simpa using hx_
  obtain ⟨a0_4, he_, _⟩ := DataW.trod_bool Try.underlying4 ht_
  obtain rfl := (List.cons.inj he_).1
  clear hx_ ht_ he_
  obtain ⟨a1, len1, cap1, rfl⟩ := okWide_slice Try.underlying42 (hval 1 42 v1 rfl rfl)
  obtain ⟨fu1, hf1⟩ := h1
  replace hf1 : DataW.trod enc Try.prog W 0 (fun _ => true) true fu1 42 [.slice a1 len1 cap1] = some (d1, p1) := hf1
  obtain ⟨z1, hw1⟩ : ∃ zs, IsRow .i64 W a1 len1 cap1 zs := by
    rcases open_ints Try.underlying42 Try.underlying3 (by kernel_rfl) hf1 with ⟨hcs, _⟩ | ⟨x, l, c, zs, hcs, _, hl, hm, hz, _, hcell, hwz⟩
    · simp at hcs
      obtain ⟨rfl, rfl, rfl⟩ := hcs
      exact ⟨[], .inl ⟨rfl, rfl, rfl, rfl⟩⟩
    · simp at hcs
      obtain ⟨rfl, rfl, rfl⟩ := hcs
      exact ⟨zs, .inr ⟨_, rfl, hl, hm, by simpa using hz, hcell, hwz⟩⟩
  obtain ⟨l1, hl1, hr1, hm1, hwf1, hlc1⟩ := ReadsInt.ofRowC hw1
  subst hl1
  clear hA0 hval0 hsz0 hsz
  obtain ⟨k, hP⟩ := Pure.FnExactDoActs a0_0 a0_1 a0_2 a0_3 a0_4 l1 w0_0 w0_1 hm1 hwf1
  refine (laws_FnExactDoActs.calls k a0_0 a0_1 a0_2 a0_3 a0_4 a1 cap1 l1 true W (Kd.C_of_reads (d := (0 : Int)) (h1 := fun _ => rfl) hr1) hlc1 hP).mono fun e W' ⟨he, bel0⟩ => ?_
  subst he
  have bel : Below W.heap.size W W' := bel0
  exact ⟨_, rfl, _, _, _, [], _, [], hW', trodAll_mk1 (shut_bool Try.underlying4 _), (trodAll_cons_mk (Below.trod laidOut (by kernel_rfl) (of_decide_eq_true (by kernel_rfl)) kk0 bel lt0) (trodAll_cons_mk (Below.trod laidOut (by kernel_rfl) (of_decide_eq_true (by kernel_rfl)) kk1 bel lt1) trodAll_mk0)), rfl, bel.frame _, fun h => by cases h⟩
theorem over : Rows.fnExactDoActsRow.holds Try.pinned (OpenSpec.ofChange Rows.fnExactDoActsSpec) :=
  OpenClaim.holds_of_wide 11 Try.f11 rfl rfl rfl rfl rfl rfl rfl ⟨rfl, rfl, rfl, rfl, rfl⟩ rfl rfl rfl rfl rfl (by kernel_rfl) Try.func11 (by kernel_rfl)
    (of_decide_eq_true (by kernel_rfl)) (by unfold Func.isWrapper; first | (rw [if_pos (by decide +kernel)]; kernel_rfl) | (rw [if_neg (by decide +kernel)]; exact ⟨rfl, rfl⟩))
    (fun os started H enc _ => lifted os started H enc)
theorem proved : Rows.FnExactDoActsSaid := over
#print axioms proved
end Go.Proofs.Ytglpkjcblpjnoab.fnExactDoActs
namespace Go.Proofs.Ytglpkjcblpjnoab
/-- The row, under a short name, for the claim. -/
theorem fnExactDoActs_holds : Rows.FnExactDoActsSaid := fnExactDoActs.proved
end Go.Proofs.Ytglpkjcblpjnoab
