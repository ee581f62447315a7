/- Weeks: the copies that the exact statements make of a week, and their comparison (plain). -/
import Derived.Test.YtcabbbidbkgalaaWkFnExactCanExtend
namespace Go.Proofs.Ytcabbbidbkgalaa.WkFnExactCanExtend
open Go.RowKit Go.Proofs.Ytcabbbidbkgalaa.PFnExactCanExtend Go.Proofs.YtcabbbidbkgalaaW.PrintWords Go.Proofs.YtcabbbidbkgalaaW.PrintLast
set_option linter.unusedVariables false
set_option linter.unusedSimpArgs false

def conv (x : S73) : S71 := ⟨x.f0, x.f1⟩

theorem take_set_succ {α : Type} (l : List α) (i : Nat) (a : α) (h : i < l.length) : (l.set i a).take (i + 1) = l.take i ++ [a] := by
  rw [List.take_succ_eq_append_getElem (by simpa using h), List.take_set_of_le (Nat.le_refl _)]
  simp

theorem toS_l0 (x0 : List S73) (hx : x0.length ≤ 1048576) : ∀ (d i : Nat) (x3 : List S71), x3.length = x0.length → i + d = x0.length → ∀ k, d < k → laws_toSpanS.l0 k x0 x3 (i : Int) = some (x3.take i ++ (x0.drop i).map conv) := by
  intro d
  induction d with
  | zero =>
    intro i x3 h3 hi k hk
    obtain ⟨m, rfl, _⟩ := succ_of hk
    simp only [laws_toSpanS.l0]
    rw [if_neg (by omega), List.take_of_length_le (by omega), List.drop_of_length_le (by omega)]
    simp
  | succ d ih =>
    intro i x3 h3 hi k hk
    obtain ⟨m, rfl, hm⟩ := succ_of hk
    have e1 : wrap64 ((i : Int) + 1) = ((i + 1 : Nat) : Int) := w64 (by omega) (by omega)
    have hil : i < x0.length := by omega
    simp only [laws_toSpanS.l0]
    rw [if_pos (by omega), if_pos (by omega)]
    simp only [laws_toSpan.f, Option.bind_some]
    rw [if_pos (by omega), e1, ih (i + 1) _ (by simpa using h3) (by omega) m (by omega)]
    have e2 : rd_T73 x0 (i : Int) = x0[i] := by
      unfold rd_T73
      simp [List.getD_eq_getElem?_getD, hil]
    rw [e2, Int.toNat_natCast, take_set_succ x3 i _ (by omega), List.drop_eq_getElem_cons hil, List.map_cons, List.append_assoc]
    rfl

theorem toS (l : List S73) (hl : l.length ≤ 1048576) : ∀ k, l.length < k → laws_toSpanS.f k l = some (l.map conv) := by
  intro k hk
  unfold laws_toSpanS.f
  rw [if_pos (by omega), if_pos (by omega)]
  have h := toS_l0 l hl l.length 0 (List.replicate ((l.length : Int)).toNat z71) (by simp) (by omega) k hk
  simpa using h

theorem toW (l0 l1 : List S73) (h0 : l0.length ≤ 1048576) (h1 : l1.length ≤ 1048576) : ∀ k, l0.length < k → l1.length < k → laws_toWeek.f k l0 l1 = some (l0.map conv, l1.map conv) := by
  intro k hk0 hk1
  unfold laws_toWeek.f
  rw [toS l0 h0 k hk0, toS l1 h1 k hk1]
  rfl

theorem eqS_l0 (l : List S71) (hl : l.length ≤ 1048576) : ∀ (d i : Nat), i + d = l.length → ∀ k, d < k → laws_eqSpanS.l0 k l l (i : Int) = some true := by
  intro d
  induction d with
  | zero =>
    intro i hi k hk
    obtain ⟨m, rfl, _⟩ := succ_of hk
    simp only [laws_eqSpanS.l0]
    rw [if_neg (by omega)]
  | succ d ih =>
    intro i hi k hk
    obtain ⟨m, rfl, hm⟩ := succ_of hk
    have e1 : wrap64 ((i : Int) + 1) = ((i + 1 : Nat) : Int) := w64 (by omega) (by omega)
    simp only [laws_eqSpanS.l0]
    rw [if_pos (by omega), if_pos (by omega), if_pos (by omega)]
    simp only [laws_eqSpan.f, if_true, Option.bind_some]
    rw [e1]
    exact ih (i + 1) (by omega) m (by omega)

theorem eqS (l : List S71) (hl : l.length ≤ 1048576) : ∀ k, l.length < k → laws_eqSpanS.f k l l = some true := by
  intro k hk
  unfold laws_eqSpanS.f
  rw [if_pos rfl]
  exact eqS_l0 l hl l.length 0 (by omega) k hk

theorem eqW (l0 l1 : List S71) (h0 : l0.length ≤ 1048576) (h1 : l1.length ≤ 1048576) : ∀ k, l0.length < k → l1.length < k → laws_eqWeek.f k l0 l1 l0 l1 = some true := by
  intro k hk0 hk1
  unfold laws_eqWeek.f
  rw [eqS l0 h0 k hk0]
  simp only [Option.bind_some, if_true]
  rw [eqS l1 h1 k hk1]
  rfl

/-- The size is asked first: either the answer is yes at once, or both lists are short. -/
theorem szW (l0 l1 : List S73) (h0 : (l0.length : Int) ≤ 9223372036854775807) (h1 : (l1.length : Int) ≤ 9223372036854775807) : ∃ t, laws_szWeek.f l0 l1 1048576 = some t ∧ (t < 0 ∨ (l0.length ≤ 1048576 ∧ l1.length ≤ 1048576)) := by
  unfold laws_szWeek.f laws_szSpanS.f
  have e0 : wrap64 (1048576 - (l0.length : Int)) = 1048576 - (l0.length : Int) := w64 (by omega) (by omega)
  rw [e0]
  by_cases c0 : 1048576 - (l0.length : Int) < 0
  · rw [if_pos c0]
    exact ⟨-1, rfl, .inl (by omega)⟩
  · rw [if_neg c0]
    simp only [Option.bind_some]
    rw [if_neg c0]
    have e1 : wrap64 (1048576 - (l0.length : Int) - (l1.length : Int)) = 1048576 - (l0.length : Int) - (l1.length : Int) := w64 (by omega) (by omega)
    rw [e1]
    by_cases c1 : 1048576 - (l0.length : Int) - (l1.length : Int) < 0
    · rw [if_pos c1]
      exact ⟨-1, rfl, .inl (by omega)⟩
    · rw [if_neg c1]
      simp only [Option.bind_some]
      rw [if_neg c1]
      exact ⟨_, rfl, .inr ⟨by omega, by omega⟩⟩
end Go.Proofs.Ytcabbbidbkgalaa.WkFnExactCanExtend
