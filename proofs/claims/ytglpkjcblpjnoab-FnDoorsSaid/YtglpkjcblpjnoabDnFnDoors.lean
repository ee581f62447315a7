/- Doors: a list of acts: both packages end with the same door and the same list (plain). -/
import Derived.Test.YtglpkjcblpjnoabDaFnDoors
namespace Go.Proofs.Ytglpkjcblpjnoab.DlFnDoors
open Go.RowKit Go.Proofs.Ytglpkjcblpjnoab.QFnDoors Go.Proofs.YtglpkjcblpjnoabW.PrintWords Go.Proofs.YtglpkjcblpjnoabW.PrintLast
set_option linter.unusedVariables false
set_option linter.unusedSimpArgs false

theorem w64 {x : Int} (h1 : -9223372036854775808 ≤ x) (h2 : x ≤ 9223372036854775807) : wrap64 x = x := by
  unfold wrap64; omega
theorem succ_of {d k : Nat} (h : d < k) : ∃ m, k = m + 1 ∧ d ≤ m := ⟨k - 1, by omega, by omega⟩

def goodA (x : Int) : Bool := decide (1 ≤ x) && decide (x ≤ 9)
theorem goodA_range {x : Int} (h : goodA x = true) : 1 ≤ x ∧ x ≤ 9 := by
  unfold goodA at h
  simpa using h
theorem spec_in9 (x : Int) : spec_l01In.f x 1 9 = some (goodA x) := by
  unfold spec_l01In.f goodA
  by_cases h : x ≥ 1
  · have : (1 : Int) ≤ x := h
    simp [h, this]
  · have : ¬ (1 : Int) ≤ x := h
    simp [this]
theorem impl_in9 (x : Int) : impl_within.f x 1 9 = some (goodA x) := by
  unfold impl_within.f goodA
  by_cases h : x ≥ 1
  · have : (1 : Int) ≤ x := h
    simp [h, this]
  · have : ¬ (1 : Int) ≤ x := h
    simp [this]

theorem rd_at (l : List Int) (i : Nat) (h : i < l.length) : rd l (i : Int) = l[i] := by
  unfold rd
  simp [List.getD_eq_getElem?_getD, h]

theorem acts_loop (x1 : List Int) (hl : x1.length ≤ 1048576) (hg : ∀ y ∈ x1, goodA y = true) : ∀ (d i : Nat) (x6 : List Int) (a b : Int) (l o f : Bool), i + d = x1.length → x6.length ≤ i → ∃ R : Int × Int × Bool × Bool × Bool × List Int, R.2.2.2.2.2.length ≤ x1.length ∧ ∀ k, d + 12 < k → spec_DoActs.l1 k x1 x6 (i : Int) a b l o f = some R ∧ impl_DoActs.l0 k x6 x1 (x1.length : Int) (i : Int) a b l o f = some R := by
  intro d
  induction d with
  | zero =>
    intro i x6 a b l o f hi h6
    refine ⟨(a, b, l, o, f, x6), by simp; omega, ?_⟩
    intro k hk
    obtain ⟨m, rfl, hm⟩ := succ_of hk
    simp only [spec_DoActs.l1, impl_DoActs.l0]
    rw [if_neg (by omega), if_neg (by omega)]
    exact ⟨rfl, rfl⟩
  | succ d ih =>
    intro i x6 a b l o f hi h6
    have hil : i < x1.length := by omega
    have e1 : wrap64 ((i : Int) + 1) = ((i + 1 : Nat) : Int) := w64 (by omega) (by omega)
    obtain ⟨g1, g2⟩ := goodA_range (hg x1[i] (List.getElem_mem hil))
    obtain ⟨⟨a', b', l', o', f'⟩, hr⟩ := act_same a b l o f x1[i] g1 g2
    by_cases hc : (!(a' == a) || (!(b' == b) || (!(l' == l) || (!(o' == o) || (!(f' == f)))))) = true
    · obtain ⟨R, hR1, hR2⟩ := ih (i + 1) (x6 ++ [(i : Int)]) a' b' l' o' f' (by omega) (by simp; omega)
      refine ⟨R, hR1, ?_⟩
      intro k hk
      obtain ⟨m, rfl, hm⟩ := succ_of hk
      simp only [spec_DoActs.l1, impl_DoActs.l0]
      obtain ⟨q, rfl⟩ : ∃ q, m = q + 10 := ⟨m - 10, by omega⟩
      rw [if_pos (by omega), if_pos (by omega), if_pos (by omega), if_pos (by omega), if_pos (by omega), rd_at x1 i hil, (hr q).1, (hr q).2]
      simp only [Option.bind_some]
      rw [if_pos hc, if_pos hc, if_pos (by omega), if_pos (by omega), e1]
      exact hR2 (q + 10) (by omega)
    · obtain ⟨R, hR1, hR2⟩ := ih (i + 1) x6 a' b' l' o' f' (by omega) (by omega)
      refine ⟨R, hR1, ?_⟩
      intro k hk
      obtain ⟨m, rfl, hm⟩ := succ_of hk
      simp only [spec_DoActs.l1, impl_DoActs.l0]
      obtain ⟨q, rfl⟩ : ∃ q, m = q + 10 := ⟨m - 10, by omega⟩
      rw [if_pos (by omega), if_pos (by omega), if_pos (by omega), if_pos (by omega), if_pos (by omega), rd_at x1 i hil, (hr q).1, (hr q).2]
      simp only [Option.bind_some]
      rw [if_neg hc, if_neg hc, e1]
      exact hR2 (q + 10) (by omega)

theorem spec_pre (x1 x6 : List Int) (hl : x1.length ≤ 1048576) (a b : Int) (l o f : Bool) (R : Int × Int × Bool × Bool × Bool × List Int) (K : Nat) (hR : (x1.all goodA = true) → ∀ k, K < k → spec_DoActs.l1 k x1 x6 0 a b l o f = some R) (hN : x1.all goodA = false → R = (a, b, l, o, f, x6)) : ∀ (d i : Nat), i + d = x1.length → (∀ j : Nat, j < i → ∀ hj : j < x1.length, goodA x1[j] = true) → ∀ k, K + d + 1 < k → spec_DoActs.l0 k x1 x6 (i : Int) a b l o f = some R := by
  intro d
  induction d with
  | zero =>
    intro i hi hg k hk
    obtain ⟨m, rfl, hm⟩ := succ_of hk
    simp only [spec_DoActs.l0]
    rw [if_neg (by omega)]
    refine hR ?_ m (by omega)
    rw [List.all_eq_true]
    intro y hy
    obtain ⟨j, hj, rfl⟩ := List.getElem_of_mem hy
    exact hg j (by omega) hj
  | succ d ih =>
    intro i hi hg k hk
    obtain ⟨m, rfl, hm⟩ := succ_of hk
    have hil : i < x1.length := by omega
    have e1 : wrap64 ((i : Int) + 1) = ((i + 1 : Nat) : Int) := w64 (by omega) (by omega)
    simp only [spec_DoActs.l0]
    rw [if_pos (by omega), if_pos (by omega), rd_at x1 i hil, spec_in9]
    simp only [Option.bind_some]
    cases hgi : goodA x1[i] with
    | true =>
      rw [if_pos rfl, e1]
      refine ih (i + 1) (by omega) ?_ m (by omega)
      intro j hj hj2
      by_cases hji : j = i
      · subst hji; exact hgi
      · exact hg j (by omega) hj2
    | false =>
      rw [if_neg (by decide)]
      have : x1.all goodA = false := by
        rw [List.all_eq_false]
        exact ⟨x1[i], List.getElem_mem hil, by simp [hgi]⟩
      rw [hN this]

theorem idx_loop (x1 : List Int) (hl : x1.length ≤ 1048576) : ∀ (d i : Nat), i + d = x1.length → ∃ j : Int, decide (j ≥ 0) = !((x1.drop i).all goodA) ∧ ∀ k, d < k → slices_IndexFunc_int_int.l0 k x1 (x1.length : Int) (i : Int) = some j := by
  intro d
  induction d with
  | zero =>
    intro i hi
    refine ⟨-1, by rw [List.drop_of_length_le (by omega)]; rfl, ?_⟩
    intro k hk
    obtain ⟨m, rfl, _⟩ := succ_of hk
    simp only [slices_IndexFunc_int_int.l0]
    rw [if_neg (by omega)]
  | succ d ih =>
    intro i hi
    have hil : i < x1.length := by omega
    have e1 : wrap64 ((i : Int) + 1) = ((i + 1 : Nat) : Int) := w64 (by omega) (by omega)
    rw [List.drop_eq_getElem_cons hil]
    simp only [List.all_cons]
    cases h : goodA x1[i] with
    | false =>
      refine ⟨(i : Int), by simp, ?_⟩
      intro k hk
      obtain ⟨m, rfl, hm⟩ := succ_of hk
      simp only [slices_IndexFunc_int_int.l0]
      rw [if_pos (by omega), if_pos (by omega), if_pos (by omega), rd_at x1 i hil]
      unfold impl_DoActs_1.f
      rw [impl_in9, h]
      rfl
    | true =>
      obtain ⟨j, hj1, hj2⟩ := ih (i + 1) (by omega)
      refine ⟨j, by simpa using hj1, ?_⟩
      intro k hk
      obtain ⟨m, rfl, hm⟩ := succ_of hk
      simp only [slices_IndexFunc_int_int.l0]
      rw [if_pos (by omega), if_pos (by omega), if_pos (by omega), rd_at x1 i hil]
      unfold impl_DoActs_1.f
      rw [impl_in9, h]
      simp only [Option.bind_some, Bool.not_true, Bool.false_eq_true, if_false]
      rw [e1]
      exact hj2 m (by omega)

theorem cont_same (x1 : List Int) (hl : x1.length ≤ 1048576) : ∀ k, x1.length < k → slices_ContainsFunc_int_int.f k x1 = some (!(x1.all goodA)) := by
  intro k hk
  obtain ⟨j, hj1, hj2⟩ := idx_loop x1 hl x1.length 0 (by omega)
  unfold slices_ContainsFunc_int_int.f slices_IndexFunc_int_int.f
  have h := hj2 k hk
  rw [show ((0 : Nat) : Int) = 0 from rfl] at h
  rw [h]
  simp only [Option.bind_some]
  rw [hj1]
  simp

theorem acts_same (x1 : List Int) (hl : x1.length ≤ 1048576) (a b : Int) (l o f : Bool) : ∃ R : Int × Int × Bool × Bool × Bool × List Int, R.2.2.2.2.2.length ≤ x1.length ∧ ∀ k, x1.length + x1.length + 20 < k → spec_DoActs.f k a b l o f x1 = some R ∧ impl_DoActs.f k a b l o f x1 = some R := by
  cases hk : okD a b l o f with
  | false =>
    refine ⟨(a, b, l, o, f, []), by simp, ?_⟩
    intro k hkk
    obtain ⟨m, rfl, hm⟩ := succ_of hkk
    unfold spec_DoActs.f impl_DoActs.f
    simp [spec_ok m, impl_ok m, hk, spec_DoActs.j0, impl_DoActs.j0]
  | true =>
    by_cases hn : (x1.length : Int) > 200
    · refine ⟨(a, b, l, o, f, []), by simp, ?_⟩
      intro k hkk
      obtain ⟨m, rfl, hm⟩ := succ_of hkk
      unfold spec_DoActs.f impl_DoActs.f
      simp [spec_ok m, impl_ok m, hk, spec_DoActs.j0, impl_DoActs.j0, hn]
    · cases hg : x1.all goodA with
      | false =>
        refine ⟨(a, b, l, o, f, []), by simp, ?_⟩
        intro k hkk
        obtain ⟨m, rfl, hm⟩ := succ_of hkk
        unfold spec_DoActs.f impl_DoActs.f
        have hs := spec_pre x1 [] hl a b l o f (a, b, l, o, f, []) 0 (fun h => absurd h (by simp [hg])) (fun _ => rfl) x1.length 0 (by omega) (by intro j hj; omega) m (by omega)
        rw [show ((0 : Nat) : Int) = 0 from rfl] at hs
        rw [if_neg hn, cont_same x1 hl (m + 1) (by omega), hg, spec_ok m, impl_ok m, hk]
        simp only [Option.bind_some, if_true, spec_DoActs.j0, impl_DoActs.j0, Bool.not_false]
        rw [decide_eq_false hn, if_neg (by decide)]
        exact ⟨hs, trivial⟩
      | true =>
        obtain ⟨R, hR1, hR2⟩ := acts_loop x1 hl (by simpa [List.all_eq_true] using hg) x1.length 0 [] a b l o f (by omega) (by simp)
        refine ⟨R, hR1, ?_⟩
        intro k hkk
        obtain ⟨m, rfl, hm⟩ := succ_of hkk
        unfold spec_DoActs.f impl_DoActs.f
        have hs := spec_pre x1 [] hl a b l o f R (x1.length + 12) (fun _ q hq => (hR2 q hq).1) (fun h => absurd h (by simp [hg])) x1.length 0 (by omega) (by intro j hj; omega) m (by omega)
        rw [show ((0 : Nat) : Int) = 0 from rfl] at hs
        rw [if_neg hn, cont_same x1 hl (m + 1) (by omega), hg, spec_ok m, impl_ok m, hk]
        simp only [Option.bind_some, if_true, spec_DoActs.j0, impl_DoActs.j0, Bool.not_true]
        rw [decide_eq_false hn, if_neg (by decide), if_neg (by decide)]
        exact ⟨hs, (hR2 m (by omega)).2⟩
end Go.Proofs.Ytglpkjcblpjnoab.DlFnDoors
