/- Lists of numbers: the statements' comparisons and marks (plain). -/
import Derived.Test.YtcpjfkagbnoagaaGcFnExactChainOf
namespace Go.Proofs.Ytcpjfkagbnoagaa.GcFnExactChainOf
open Go.RowKit Go.Proofs.Ytcpjfkagbnoagaa.QFnExactChainOf Go.Proofs.Ytcpjfkagbnoagaa.GrFnExactChainOf Go.Proofs.YtcpjfkagbnoagaaW.PrintWords Go.Proofs.YtcpjfkagbnoagaaW.PrintLast
set_option linter.unusedVariables false
set_option linter.unusedSimpArgs false

theorem rdI (l : List Int) (i : Nat) (h : i < l.length) : rd l (i : Int) = l[i] := by
  unfold rd
  simp [List.getD_eq_getElem?_getD, h]
theorem eqI_l0 (l : List Int) (hl : l.length ≤ 1048576) : ∀ (d i : Nat), i + d = l.length → ∀ k, d < k → laws_eqIntS.l0 k l l (i : Int) = some true := by
  intro d
  induction d with
  | zero =>
    intro i hi k hk
    obtain ⟨m, rfl, _⟩ := succ_of hk
    simp only [laws_eqIntS.l0]
    rw [if_neg (by omega)]
  | succ d ih =>
    intro i hi k hk
    obtain ⟨m, rfl, hm⟩ := succ_of hk
    have e1 : wrap64 ((i : Int) + 1) = ((i + 1 : Nat) : Int) := w64 (by omega) (by omega)
    simp only [laws_eqIntS.l0]
    rw [if_pos (by omega), if_pos (by omega), if_pos (by omega), if_pos trivial, e1]
    exact ih (i + 1) (by omega) m (by omega)
theorem eqI (l : List Int) (hl : l.length ≤ 1048576) : ∀ k, l.length < k → laws_eqIntS.f k l l = some true := by
  intro k hk
  unfold laws_eqIntS.f
  rw [if_pos rfl]
  exact eqI_l0 l hl l.length 0 (by omega) k hk

/-- The marks are 1, 2, 3, .. and are found again. -/
theorem mark_l0 (n : Nat) (hn : n ≤ 1048576) : ∀ (d i : Nat) (x0 : List Int), x0.length = n → i + d = n → (∀ j : Nat, j < i → ∀ hj : j < x0.length, x0[j] = (j : Int) + 1) → ∃ y : List Int, y.length = n ∧ (∀ (j : Nat) (hj : j < y.length), y[j] = (j : Int) + 1) ∧ ∀ k, d < k → laws_markIntS.l0 k x0 ((i : Int) + 1) (i : Int) = some ((n : Int) + 1, y) := by
  intro d
  induction d with
  | zero =>
    intro i x0 h0 hi hm
    refine ⟨x0, h0, fun j hj => hm j (by omega) hj, ?_⟩
    intro k hk
    obtain ⟨m, rfl, _⟩ := succ_of hk
    simp only [laws_markIntS.l0]
    rw [if_neg (by omega), show i = n by omega]
  | succ d ih =>
    intro i x0 h0 hi hm
    have e1 : wrap64 ((i : Int) + 1) = ((i + 1 : Nat) : Int) := w64 (by omega) (by omega)
    have e2 : wrap64 ((i : Int) + 1 + 1) = ((i + 1 : Nat) : Int) + 1 := by rw [w64 (by omega) (by omega)]; omega
    obtain ⟨y, hy1, hy2, hy3⟩ := ih (i + 1) (x0.set i ((i : Int) + 1)) (by simpa using h0) (by omega) (by
      intro j hj hj2
      rw [List.getElem_set]
      by_cases hji : i = j
      · subst hji; simp
      · rw [if_neg hji]
        exact hm j (by omega) (by simpa using hj2))
    refine ⟨y, hy1, hy2, ?_⟩
    intro k hk
    obtain ⟨m, rfl, hm'⟩ := succ_of hk
    simp only [laws_markIntS.l0]
    rw [if_pos (by omega), if_pos (by omega), e1, e2, Int.toNat_natCast]
    exact hy3 m (by omega)
theorem markI (l : List Int) (hl : l.length ≤ 1048576) : ∃ y : List Int, y.length = l.length ∧ (∀ (j : Nat) (hj : j < y.length), y[j] = (j : Int) + 1) ∧ ∀ k, l.length < k → laws_markIntS.f k l 1 = some ((l.length : Int) + 1, y) := by
  obtain ⟨y, h1, h2, h3⟩ := mark_l0 l.length hl l.length 0 l rfl (by omega) (by intro j hj; omega)
  refine ⟨y, h1, h2, fun k hk => ?_⟩
  have h := h3 k hk
  unfold laws_markIntS.f
  simpa using h
theorem held_l0 (y : List Int) (hl : y.length ≤ 1048576) (hy : ∀ (j : Nat) (hj : j < y.length), y[j] = (j : Int) + 1) : ∀ (d i : Nat), i + d = y.length → ∀ k, d < k → laws_heldIntS.l0 k y ((i : Int) + 1) (i : Int) = some ((y.length : Int) + 1) := by
  intro d
  induction d with
  | zero =>
    intro i hi k hk
    obtain ⟨m, rfl, _⟩ := succ_of hk
    simp only [laws_heldIntS.l0]
    rw [if_neg (by omega), show i = y.length by omega]
  | succ d ih =>
    intro i hi k hk
    obtain ⟨m, rfl, hm⟩ := succ_of hk
    have e1 : wrap64 ((i : Int) + 1) = ((i + 1 : Nat) : Int) := w64 (by omega) (by omega)
    have e2 : wrap64 ((i : Int) + 1 + 1) = ((i + 1 : Nat) : Int) + 1 := by rw [w64 (by omega) (by omega)]; omega
    simp only [laws_heldIntS.l0]
    rw [if_pos (by omega), if_pos (by omega), rdI y i (by omega), if_pos (hy i (by omega)), e1, e2]
    exact ih (i + 1) (by omega) m (by omega)
theorem heldI (y : List Int) (hl : y.length ≤ 1048576) (hy : ∀ (j : Nat) (hj : j < y.length), y[j] = (j : Int) + 1) : ∀ k, y.length < k → laws_heldIntS.f k y 1 = some ((y.length : Int) + 1) := by
  intro k hk
  have h := held_l0 y hl hy y.length 0 (by omega) k hk
  unfold laws_heldIntS.f
  simpa using h
end Go.Proofs.Ytcpjfkagbnoagaa.GcFnExactChainOf
