/- Doors and faults that are drawn for the signs: few (plain). -/
import Derived.Test.YtglpkjcblpjnoabVdFnSigns
namespace Go.Proofs.Ytglpkjcblpjnoab.SdFnSigns
open Go.RowKit Go.Proofs.Ytglpkjcblpjnoab.QFnSigns Go.Proofs.Ytglpkjcblpjnoab.DwFnSigns Go.Proofs.Ytglpkjcblpjnoab.VdFnSigns Go.Proofs.YtglpkjcblpjnoabW.PrintWords Go.Proofs.YtglpkjcblpjnoabW.PrintLast
set_option linter.unusedVariables false
set_option linter.unusedSimpArgs false
def kinds5 : List Int := [-1, 0, 1, 2, 3]
def steps9 : List Int := [-1, 0, 1, 2, 3, 4, 5, 6, 7]
def doors : List Dr := kinds5.flatMap fun a => steps9.flatMap fun b => bs.flatMap fun l => bs.flatMap fun o => bs.map fun f => (a, b, l, o, f)
theorem mem_kinds {a : Int} (h0 : -1 ≤ a) (h1 : a ≤ 3) : a ∈ kinds5 := by
  simp only [kinds5, List.mem_cons, List.not_mem_nil, or_false]; omega
theorem mem_steps {a : Int} (h0 : -1 ≤ a) (h1 : a ≤ 7) : a ∈ steps9 := by
  simp only [steps9, List.mem_cons, List.not_mem_nil, or_false]; omega
theorem mem_bs (b : Bool) : b ∈ bs := by cases b <;> simp [bs]
theorem mem_doors {a b : Int} {l o f : Bool} (ha0 : -1 ≤ a) (ha1 : a ≤ 3) (hb0 : -1 ≤ b) (hb1 : b ≤ 7) : (a, b, l, o, f) ∈ doors := by
  unfold doors
  simp only [List.mem_flatMap, List.mem_map]
  exact ⟨a, mem_kinds ha0 ha1, b, mem_steps hb0 hb1, l, mem_bs l, o, mem_bs o, f, mem_bs f, rfl⟩
theorem of_doors {d : Dr} (h : d ∈ doors) : -1 ≤ d.1 ∧ d.1 ≤ 3 ∧ -1 ≤ d.2.1 ∧ d.2.1 ≤ 7 := by
  unfold doors at h
  simp only [List.mem_flatMap, List.mem_map] at h
  obtain ⟨a, ha, b, hb, l, _, o, _, f, _, rfl⟩ := h
  simp only [kinds5, steps9, List.mem_cons, List.not_mem_nil, or_false] at ha hb
  exact ⟨by show -1 ≤ a; omega, by show a ≤ 3; omega, by show -1 ≤ b; omega, by show b ≤ 7; omega⟩
theorem good_doors {d : Dr} (h : d ∈ good) : d ∈ doors := by
  have hc : (good.all fun d => decide (-1 ≤ d.1 ∧ d.1 ≤ 3 ∧ -1 ≤ d.2.1 ∧ d.2.1 ≤ 7)) = true := by kernel_rfl
  have := of_decide_eq_true (List.all_eq_true.1 hc d h)
  exact mem_doors this.1 this.2.1 this.2.2.1 this.2.2.2
theorem cut_chk : (doors.all fun d => match spec_CutPower.f 20 d.1 d.2.1 d.2.2.1 d.2.2.2.1 d.2.2.2.2 with | some d' => doors.contains d' | none => false) = true := by kernel_rfl
theorem cut_doors {d : Dr} (hd : d ∈ doors) : ∃ d' ∈ doors, ∀ k, 20 ≤ k → spec_CutPower.f k d.1 d.2.1 d.2.2.1 d.2.2.2.1 d.2.2.2.2 = some d' := by
  have h := List.all_eq_true.1 cut_chk d hd
  cases he : spec_CutPower.f 20 d.1 d.2.1 d.2.2.1 d.2.2.2.1 d.2.2.2.2 with
  | none => rw [he] at h; cases h
  | some d' =>
    rw [he] at h
    exact ⟨d', List.contains_iff_mem.1 h, up (fun k => spec_CutPower.mono _ _ _ _ _ k) he⟩
theorem doorS_ex (x : List Int) (hx : x.length ≤ 1048576) (p s : Int) (hp : 0 ≤ p) (hp2 : p ≤ x.length) :
    ∃ d ∈ good, ∃ j q : Int, 0 ≤ j ∧ j ≤ x.length ∧ ∀ k, 4000 < k → spec_l04Door.f k x p s = some (d.1, d.2.1, d.2.2.1, d.2.2.2.1, d.2.2.2.2, j, q) := by
  obtain ⟨v, j1, q1, f1, b1, b2, b3, b4⟩ := below_ex x hx p s hp hp2 2 (by omega)
  obtain ⟨n, j2, q2, f2, c1, c2, c3, c4⟩ := below_ex x hx j1 q1 b3 b4 30 (by omega)
  obtain ⟨n, rfl⟩ := Int.eq_ofNat_of_zero_le c1
  obtain ⟨r, j3, q3, r1, r2, g1, g2, f3⟩ := acts_l0 x hx n [] j2 q2 (by simp; omega) (fun c hc => by cases hc) c3 c4
  obtain ⟨d, hd, z, f4⟩ := do_good r (by simp at r1; omega) r2 _ (Go.Proofs.Ytglpkjcblpjnoab.VdFnSigns.start (v == 0))
  refine ⟨d, hd, j3, q3, g1, g2, fun k hk => ?_⟩
  unfold spec_l04Door.f spec_l01Once.f spec_l04Acts.f
  rw [f1]; simp only [Option.bind_some]
  rw [f2]; simp only [Option.bind_some]
  rw [f3 k (by omega)]; simp only [Option.bind_some]
  have f4' := f4 k (by omega)
  simp only at f4'
  rw [f4']
  rfl
theorem anyS_ex (x : List Int) (hx : x.length ≤ 1048576) (p s : Int) (hp : 0 ≤ p) (hp2 : p ≤ x.length) :
    ∃ d ∈ doors, ∃ j q : Int, 0 ≤ j ∧ j ≤ x.length ∧ ∀ k, 4000 < k → spec_l04Any.f k x p s = some (d.1, d.2.1, d.2.2.1, d.2.2.2.1, d.2.2.2.2, j, q) := by
  obtain ⟨d, hd, j, q, h0, h1, f⟩ := doorS_ex x hx p s hp hp2
  have ht := good_doors hd
  obtain ⟨t1, t2, t3, t4⟩ := of_doors ht
  obtain ⟨v, j1, q1, f1, b1, b2, b3, b4⟩ := below_ex x hx j q h0 h1 12 (by omega)
  by_cases c0 : v = 0
  · obtain ⟨w, j2, q2, f2, d1, d2, d3, d4⟩ := below_ex x hx j1 q1 b3 b4 5 (by omega)
    have e : wrap64 (w - 1) = w - 1 := w64 (by omega) (by omega)
    refine ⟨(w - 1, d.2.1, d.2.2.1, d.2.2.2.1, d.2.2.2.2), mem_doors (by omega) (by omega) t3 t4, j2, q2, d3, d4, fun k hk => ?_⟩
    unfold spec_l04Any.f
    rw [f k hk]; simp only [Option.bind_some]
    rw [f1]; simp only [Option.bind_some]
    rw [if_pos c0, f2]; simp only [Option.bind_some]
    rw [e]
  · by_cases c1 : v = 1
    · obtain ⟨w, j2, q2, f2, d1, d2, d3, d4⟩ := below_ex x hx j1 q1 b3 b4 9 (by omega)
      have e : wrap64 (w - 1) = w - 1 := w64 (by omega) (by omega)
      refine ⟨(d.1, w - 1, d.2.2.1, d.2.2.2.1, d.2.2.2.2), mem_doors t1 t2 (by omega) (by omega), j2, q2, d3, d4, fun k hk => ?_⟩
      unfold spec_l04Any.f
      rw [f k hk]; simp only [Option.bind_some]
      rw [f1]; simp only [Option.bind_some]
      rw [if_neg c0, if_pos c1, f2]; simp only [Option.bind_some]
      rw [e]
    · by_cases c2 : v = 2
      · refine ⟨(d.1, d.2.1, d.2.2.1, !d.2.2.2.1, d.2.2.2.2), mem_doors t1 t2 t3 t4, j1, q1, b3, b4, fun k hk => ?_⟩
        unfold spec_l04Any.f
        rw [f k hk]; simp only [Option.bind_some]
        rw [f1]; simp only [Option.bind_some]
        rw [if_neg c0, if_neg c1, if_pos c2]
      · by_cases c3 : v = 3
        · refine ⟨(d.1, d.2.1, !d.2.2.1, d.2.2.2.1, d.2.2.2.2), mem_doors t1 t2 t3 t4, j1, q1, b3, b4, fun k hk => ?_⟩
          unfold spec_l04Any.f
          rw [f k hk]; simp only [Option.bind_some]
          rw [f1]; simp only [Option.bind_some]
          rw [if_neg c0, if_neg c1, if_neg c2, if_pos c3]
        · by_cases c4 : v = 4
          · refine ⟨(d.1, d.2.1, d.2.2.1, d.2.2.2.1, !d.2.2.2.2), mem_doors t1 t2 t3 t4, j1, q1, b3, b4, fun k hk => ?_⟩
            unfold spec_l04Any.f
            rw [f k hk]; simp only [Option.bind_some]
            rw [f1]; simp only [Option.bind_some]
            rw [if_neg c0, if_neg c1, if_neg c2, if_neg c3, if_pos c4]
          · refine ⟨d, ht, j1, q1, b3, b4, fun k hk => ?_⟩
            unfold spec_l04Any.f
            rw [f k hk]; simp only [Option.bind_some]
            rw [f1]; simp only [Option.bind_some]
            rw [if_neg c0, if_neg c1, if_neg c2, if_neg c3, if_neg c4]
theorem cutS_ex (x : List Int) (hx : x.length ≤ 1048576) (p s : Int) (hp : 0 ≤ p) (hp2 : p ≤ x.length) :
    ∃ d ∈ doors, ∃ j q : Int, 0 ≤ j ∧ j ≤ x.length ∧ ∀ k, 4000 < k → spec_l04Cut.f k x p s = some (d.1, d.2.1, d.2.2.1, d.2.2.2.1, d.2.2.2.2, j, q) := by
  obtain ⟨d, hd, j, q, h0, h1, f⟩ := anyS_ex x hx p s hp hp2
  obtain ⟨v, j1, q1, f1, b1, b2, b3, b4⟩ := below_ex x hx j q h0 h1 4 (by omega)
  by_cases c0 : v = 0
  · refine ⟨d, hd, j1, q1, b3, b4, fun k hk => ?_⟩
    unfold spec_l04Cut.f spec_l01Once.f
    rw [f k hk]; simp only [Option.bind_some]
    rw [f1]; simp only [Option.bind_some]
    rw [if_pos (by simp [c0])]
  · obtain ⟨d', hd', g⟩ := cut_doors hd
    refine ⟨d', hd', j1, q1, b3, b4, fun k hk => ?_⟩
    unfold spec_l04Cut.f spec_l01Once.f
    rw [f k hk]; simp only [Option.bind_some]
    rw [f1]; simp only [Option.bind_some]
    rw [if_neg (by simp [c0]), g k (by omega)]
    rfl
abbrev Fa := Int × Int × Int × Int
def three : List Int := [0, 1, 2]
def faults : List Fa := three.flatMap fun a => three.flatMap fun b => three.flatMap fun c => kinds5.map fun d => (a, b, c, d)
theorem mem_three {a : Int} (h0 : 0 ≤ a) (h1 : a ≤ 2) : a ∈ three := by
  simp only [three, List.mem_cons, List.not_mem_nil, or_false]; omega
theorem mem_faults {a b c d : Int} (ha : 0 ≤ a ∧ a ≤ 2) (hb : 0 ≤ b ∧ b ≤ 2) (hc : 0 ≤ c ∧ c ≤ 2) (hd : -1 ≤ d ∧ d ≤ 3) : (a, b, c, d) ∈ faults := by
  unfold faults
  simp only [List.mem_flatMap, List.mem_map]
  exact ⟨a, mem_three ha.1 ha.2, b, mem_three hb.1 hb.2, c, mem_three hc.1 hc.2, d, mem_kinds hd.1 hd.2, rfl⟩
theorem faults_l0 (x : List Int) (hx : x.length ≤ 1048576) : ∀ (n : Nat) (p s a b c d : Int), n ≤ 2 → 0 ≤ p → p ≤ x.length → 0 ≤ a ∧ a ≤ 2 → 0 ≤ b ∧ b ≤ 2 → 0 ≤ c ∧ c ≤ 2 → 0 ≤ d ∧ d ≤ 2 →
    ∃ f ∈ faults, ∃ j q : Int, ∀ k, n < k → spec_l04Faults.l0 k (n : Int) x p s a b c d = some (f.1, f.2.1, f.2.2.1, f.2.2.2, j, q) := by
  intro n
  induction n with
  | zero =>
    intro p s a b c d _ hp hp2 ha hb hc hd
    obtain ⟨v, j1, q1, f1, b1, b2, b3, b4⟩ := below_ex x hx p s hp hp2 14 (by omega)
    by_cases c0 : v = 0
    · obtain ⟨u, j2, q2, f2, d1, d2, d3, d4⟩ := below_ex x hx j1 q1 b3 b4 2 (by omega)
      have hu : rd ([(-1), 3] : List Int) u = -1 ∨ rd ([(-1), 3] : List Int) u = 3 := by
        have : u = 0 ∨ u = 1 := by omega
        rcases this with rfl | rfl
        · exact Or.inl rfl
        · exact Or.inr rfl
      refine ⟨(a, b, c, rd ([(-1), 3] : List Int) u), mem_faults ha hb hc (by omega), j2, q2, fun k hk => ?_⟩
      obtain ⟨k1, rfl⟩ : ∃ k1, k = k1 + 1 := ⟨k - 1, by omega⟩
      rw [spec_l04Faults.l0, if_neg (by decide)]
      unfold spec_l01Once.f spec_l01PickInt.f
      rw [f1]; simp only [Option.bind_some]
      rw [if_pos (by simp [c0])]
      have f2' : spec_l01Below.f x j1 q1 ((([(-1), 3] : List Int).length : Nat) : Int) = some (u, j2, q2) := f2
      rw [f2']; simp only [Option.bind_some]
      rw [if_pos d1, if_pos (by simpa using d2)]
      rfl
    · refine ⟨(a, b, c, d), mem_faults ha hb hc (by omega), j1, q1, fun k hk => ?_⟩
      obtain ⟨k1, rfl⟩ : ∃ k1, k = k1 + 1 := ⟨k - 1, by omega⟩
      rw [spec_l04Faults.l0, if_neg (by decide)]
      unfold spec_l01Once.f
      rw [f1]; simp only [Option.bind_some]
      rw [if_neg (by simp [c0])]
  | succ n ih =>
    intro p s a b c d hn hp hp2 ha hb hc hd
    obtain ⟨v, j1, q1, f1, b1, b2, b3, b4⟩ := below_ex x hx p s hp hp2 2 (by omega)
    obtain ⟨u, j2, q2, f2, d1, d2, d3, d4⟩ := below_ex x hx j1 q1 b3 b4 4 (by omega)
    have e1 : wrap64 (1 + v) = 1 + v := w64 (by omega) (by omega)
    have e2 : wrap64 (((n + 1 : Nat) : Int) - 1) = (n : Int) := by rw [w64 (by omega) (by omega)]; omega
    have hv : 0 ≤ 1 + v ∧ 1 + v ≤ 2 := by omega
    by_cases u0 : u = 0
    · obtain ⟨f, hf, j, q, g⟩ := ih j2 q2 (1 + v) b c d (by omega) d3 d4 hv hb hc hd
      refine ⟨f, hf, j, q, fun k hk => ?_⟩
      obtain ⟨k1, rfl⟩ : ∃ k1, k = k1 + 1 := ⟨k - 1, by omega⟩
      rw [spec_l04Faults.l0, if_pos (by omega), f1]; simp only [Option.bind_some]
      rw [f2]; simp only [Option.bind_some]
      rw [if_pos u0, e1, e2]
      exact g k1 (by omega)
    · by_cases u1 : u = 1
      · obtain ⟨f, hf, j, q, g⟩ := ih j2 q2 a (1 + v) c d (by omega) d3 d4 ha hv hc hd
        refine ⟨f, hf, j, q, fun k hk => ?_⟩
        obtain ⟨k1, rfl⟩ : ∃ k1, k = k1 + 1 := ⟨k - 1, by omega⟩
        rw [spec_l04Faults.l0, if_pos (by omega), f1]; simp only [Option.bind_some]
        rw [f2]; simp only [Option.bind_some]
        rw [if_neg u0, if_pos u1, e1, e2]
        exact g k1 (by omega)
      · by_cases u2 : u = 2
        · obtain ⟨f, hf, j, q, g⟩ := ih j2 q2 a b (1 + v) d (by omega) d3 d4 ha hb hv hd
          refine ⟨f, hf, j, q, fun k hk => ?_⟩
          obtain ⟨k1, rfl⟩ : ∃ k1, k = k1 + 1 := ⟨k - 1, by omega⟩
          rw [spec_l04Faults.l0, if_pos (by omega), f1]; simp only [Option.bind_some]
          rw [f2]; simp only [Option.bind_some]
          rw [if_neg u0, if_neg u1, if_pos u2, e1, e2]
          exact g k1 (by omega)
        · obtain ⟨f, hf, j, q, g⟩ := ih j2 q2 a b c (1 + v) (by omega) d3 d4 ha hb hc hv
          refine ⟨f, hf, j, q, fun k hk => ?_⟩
          obtain ⟨k1, rfl⟩ : ∃ k1, k = k1 + 1 := ⟨k - 1, by omega⟩
          rw [spec_l04Faults.l0, if_pos (by omega), f1]; simp only [Option.bind_some]
          rw [f2]; simp only [Option.bind_some]
          rw [if_neg u0, if_neg u1, if_neg u2, e1, e2]
          exact g k1 (by omega)
theorem signs_ex (x : List Int) (hx : x.length ≤ 1048576) : ∃ d ∈ doors, ∃ f ∈ faults, ∀ k, 4000 < k → spec_DrawSignsOf.f k x = some (d.1, d.2.1, d.2.2.1, d.2.2.2.1, d.2.2.2.2, f.1, f.2.1, f.2.2.1, f.2.2.2) := by
  obtain ⟨s, hs⟩ := new_ex x hx
  obtain ⟨d, hd, j, q, h0, h1, e⟩ := cutS_ex x hx 0 s (by omega) (by omega)
  obtain ⟨v, j1, q1, f1, b1, b2, b3, b4⟩ := below_ex x hx j q h0 h1 3 (by omega)
  obtain ⟨n, rfl⟩ := Int.eq_ofNat_of_zero_le b1
  obtain ⟨f, hf, j2, q2, g⟩ := faults_l0 x hx n j1 q1 0 0 0 0 (by omega) b3 b4 (by omega) (by omega) (by omega) (by omega)
  refine ⟨d, hd, f, hf, fun k hk => ?_⟩
  unfold spec_DrawSignsOf.f spec_l04Faults.f
  rw [hs k hk]; simp only [Option.bind_some]
  rw [e k hk]; simp only [Option.bind_some]
  rw [f1]; simp only [Option.bind_some]
  rw [g k (by omega)]
  rfl
end Go.Proofs.Ytglpkjcblpjnoab.SdFnSigns
