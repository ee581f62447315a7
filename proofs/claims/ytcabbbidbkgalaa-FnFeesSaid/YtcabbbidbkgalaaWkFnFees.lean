/- Weeks: what the two packages tell of a week is one and the same (plain: lists and numbers). -/
import Derived.Test.YtcabbbidbkgalaaQFnFeesx0
import Derived.Test.YtcabbbidbkgalaaQFnFeesx1
import Derived.Test.YtcabbbidbkgalaaQFnFeesx2
import Derived.Test.YtcabbbidbkgalaaQFnFeesx3
import Derived.Test.YtcabbbidbkgalaaQFnFeesx4
import Derived.Test.YtcabbbidbkgalaaQFnFeesx5
import Derived.Test.YtcabbbidbkgalaaQFnFeesx6
namespace Go.Proofs.Ytcabbbidbkgalaa.WkFnFees
open Go.RowKit Go.Proofs.Ytcabbbidbkgalaa.QFnFees Go.Proofs.YtcabbbidbkgalaaW.PrintWords Go.Proofs.YtcabbbidbkgalaaW.PrintLast
set_option linter.unusedVariables false
set_option linter.unusedSimpArgs false

theorem w64 {x : Int} (h1 : -9223372036854775808 ≤ x) (h2 : x ≤ 9223372036854775807) : wrap64 x = x := by
  unfold wrap64
  omega
theorem succ_of {k d : Nat} (h : d < k) : ∃ m, k = m + 1 ∧ d ≤ m := ⟨k - 1, by omega, by omega⟩

theorem in_ex (x a b : Int) : ∃ r, spec_l01In.f x a b = some r ∧ impl_within.f x a b = some r ∧ (r = true ↔ a ≤ x ∧ x ≤ b) := by
  unfold spec_l01In.f impl_within.f
  by_cases h : x ≥ a
  · rw [if_pos h]
    exact ⟨_, rfl, rfl, by simp; omega⟩
  · rw [if_neg h]
    exact ⟨_, rfl, rfl, by simp; omega⟩

theorem spans_ex (l : List S71) (most : Int) (hl : l.length ≤ 20) : ∀ d i : Nat, i + d = l.length → ∃ b, ∀ k, d < k → spec_SpansOk.l0 k l most (i : Int) = some b ∧ impl_SpansOk.l0 k l most l (l.length : Int) (i : Int) = some b := by
  intro d
  induction d with
  | zero =>
    intro i hi
    refine ⟨true, fun k hk => ?_⟩
    obtain ⟨m, rfl, _⟩ := succ_of hk
    simp only [spec_SpansOk.l0, impl_SpansOk.l0]
    rw [if_neg (by omega), if_neg (by omega)]
    exact ⟨rfl, rfl⟩
  | succ d ih =>
    intro i hi
    obtain ⟨b, hb⟩ := ih (i + 1) (by omega)
    have e1 : wrap64 ((i : Int) + 1) = ((i + 1 : Nat) : Int) := w64 (by omega) (by omega)
    have c1 : (i : Int) < (l.length : Int) := by omega
    have c2 : (0 : Int) ≤ (i : Int) := by omega
    by_cases h1 : (rd_T71 l i).f0 < 0
    · refine ⟨false, fun k hk => ?_⟩
      obtain ⟨m, rfl, hm⟩ := succ_of hk
      simp only [spec_SpansOk.l0, impl_SpansOk.l0, c1, c2, h1, if_true]
      exact ⟨trivial, trivial⟩
    by_cases h2 : (rd_T71 l i).f0 ≥ (rd_T71 l i).f1
    · refine ⟨false, fun k hk => ?_⟩
      obtain ⟨m, rfl, hm⟩ := succ_of hk
      simp only [spec_SpansOk.l0, impl_SpansOk.l0, c1, c2, h1, h2, if_true, if_false]
      exact ⟨trivial, trivial⟩
    by_cases h3 : (rd_T71 l i).f1 > most
    · refine ⟨false, fun k hk => ?_⟩
      obtain ⟨m, rfl, hm⟩ := succ_of hk
      simp only [spec_SpansOk.l0, impl_SpansOk.l0, c1, c2, h1, h2, h3, if_true, if_false]
      exact ⟨trivial, trivial⟩
    by_cases h4 : (i : Int) > 0
    · have e2 : wrap64 ((i : Int) - 1) = (i : Int) - 1 := w64 (by omega) (by omega)
      have c3 : (0 : Int) ≤ (i : Int) - 1 := by omega
      have c4 : (i : Int) - 1 < (l.length : Int) := by omega
      by_cases h5 : (rd_T71 l i).f0 ≤ (rd_T71 l ((i : Int) - 1)).f1
      · refine ⟨false, fun k hk => ?_⟩
        obtain ⟨m, rfl, hm⟩ := succ_of hk
        simp only [spec_SpansOk.l0, impl_SpansOk.l0, c1, c2, h1, h2, h3, h4, e2, c3, c4, h5, if_true, if_false]
        exact ⟨trivial, trivial⟩
      · refine ⟨b, fun k hk => ?_⟩
        obtain ⟨m, rfl, hm⟩ := succ_of hk
        simp only [spec_SpansOk.l0, impl_SpansOk.l0, c1, c2, h1, h2, h3, h4, e2, c3, c4, h5, if_true, if_false, e1]
        exact hb m (by omega)
    · refine ⟨b, fun k hk => ?_⟩
      obtain ⟨m, rfl, hm⟩ := succ_of hk
      simp only [spec_SpansOk.l0, impl_SpansOk.l0, c1, c2, h1, h2, h3, h4, if_true, if_false, e1]
      exact hb m (by omega)

theorem spansOk_ex (l : List S71) (most : Int) : ∃ b, ∀ k, 20 < k → spec_SpansOk.f k l most = some b ∧ impl_SpansOk.f k l most = some b := by
  unfold spec_SpansOk.f impl_SpansOk.f
  by_cases h : (l.length : Int) > 20
  · simp only [h, if_true]
    exact ⟨false, fun _ _ => ⟨rfl, rfl⟩⟩
  · simp only [h, if_false]
    obtain ⟨b, hb⟩ := spans_ex l most (by omega) l.length 0 (by omega)
    exact ⟨b, fun k hk => hb k (by omega)⟩

theorem week_ex (l0 l1 : List S71) : ∃ b, (∀ k, 20 < k → spec_WeekOk.f k l0 l1 = some b ∧ impl_WeekOk.f k l0 l1 = some b) ∧ (b = true → l0.length ≤ 20 ∧ l1.length ≤ 20) := by
  unfold spec_WeekOk.f impl_WeekOk.f
  obtain ⟨b0, h0⟩ := spansOk_ex l0 168
  obtain ⟨b1, h1⟩ := spansOk_ex l1 20000
  refine ⟨b0 && b1, fun k hk => ?_, fun hb => ?_⟩
  · rw [(h0 k hk).1, (h0 k hk).2]
    simp only [Option.bind_some]
    cases b0 with
    | false => exact ⟨rfl, rfl⟩
    | true =>
      simp only [if_true]
      rw [(h1 k hk).1, (h1 k hk).2]
      exact ⟨rfl, rfl⟩
  · have g0 := (h0 21 (by omega)).1
    have g1 := (h1 21 (by omega)).1
    unfold spec_SpansOk.f at g0 g1
    constructor
    · apply Nat.le_of_not_lt
      intro hlt
      rw [if_pos (by omega)] at g0
      cases g0
      cases hb
    · apply Nat.le_of_not_lt
      intro hlt
      rw [if_pos (by omega)] at g1
      cases g1
      simp at hb

theorem ins_ex (l : List S71) (hl : l.length ≤ 1048576) (h : Int) : ∀ d i : Nat, i + d = l.length → ∃ b, ∀ k, d < k → spec_l01Within.l0 k l h (i : Int) = some b ∧ impl_inSpans.l0 k h l (l.length : Int) (i : Int) = some b := by
  intro d
  induction d with
  | zero =>
    intro i hi
    refine ⟨false, fun k hk => ?_⟩
    obtain ⟨m, rfl, _⟩ := succ_of hk
    simp only [spec_l01Within.l0, impl_inSpans.l0]
    rw [if_neg (by omega), if_neg (by omega)]
    exact ⟨rfl, rfl⟩
  | succ d ih =>
    intro i hi
    obtain ⟨b, hb⟩ := ih (i + 1) (by omega)
    have e1 : wrap64 ((i : Int) + 1) = ((i + 1 : Nat) : Int) := w64 (by omega) (by omega)
    have c1 : (i : Int) < (l.length : Int) := by omega
    have c2 : (0 : Int) ≤ (i : Int) := by omega
    by_cases h1 : (rd_T71 l i).f0 ≤ h
    · by_cases h2 : h < (rd_T71 l i).f1
      · refine ⟨true, fun k hk => ?_⟩
        obtain ⟨m, rfl, hm⟩ := succ_of hk
        simp only [spec_l01Within.l0, impl_inSpans.l0, c1, c2, ge_iff_le, h1, h2, if_true]
        exact ⟨trivial, trivial⟩
      · refine ⟨b, fun k hk => ?_⟩
        obtain ⟨m, rfl, hm⟩ := succ_of hk
        simp only [spec_l01Within.l0, impl_inSpans.l0, c1, c2, ge_iff_le, h1, h2, if_true, if_false, e1]
        exact hb m (by omega)
    · refine ⟨b, fun k hk => ?_⟩
      obtain ⟨m, rfl, hm⟩ := succ_of hk
      simp only [spec_l01Within.l0, impl_inSpans.l0, c1, c2, ge_iff_le, h1, if_true, if_false, e1]
      exact hb m (by omega)

/-- Whether an hour of a week is open: one answer from both, and it needs few rounds. -/
theorem open_ex (l0 l1 : List S71) (hl0 : l0.length ≤ 20) (hl1 : l1.length ≤ 20) : ∃ p : Int → Bool, ∀ h k, 20 < k → spec_l01Open.f k l0 l1 h = some (p h) ∧ impl_isOpen.f k l0 l1 h = some (p h) := by
  have key : ∀ h : Int, ∃ b, ∀ k, 20 < k → spec_l01Open.f k l0 l1 h = some b ∧ impl_isOpen.f k l0 l1 h = some b := by
    intro h
    obtain ⟨b0, h0⟩ := ins_ex l0 (by omega) (Int.tmod h 168) l0.length 0 (by omega)
    obtain ⟨b1, h1⟩ := ins_ex l1 (by omega) h l1.length 0 (by omega)
    refine ⟨b0 && !b1, fun k hk => ?_⟩
    have g0 := h0 k (by omega)
    have g1 := h1 k (by omega)
    unfold spec_l01Open.f impl_isOpen.f spec_l01Within.f impl_inSpans.f
    rw [show ((0 : Nat) : Int) = 0 from rfl] at g0 g1
    rw [g0.1, g0.2]
    simp only [Option.bind_some]
    cases b0 with
    | false => exact ⟨rfl, rfl⟩
    | true =>
      simp only [if_true]
      rw [g1.1, g1.2]
      exact ⟨rfl, rfl⟩
  exact ⟨fun h => Classical.choose (key h), fun h => Classical.choose_spec (key h)⟩

theorem terms_ex (a b c d e f g h : Int) : ∃ r, spec_TermsOk.f a b c d e f g h = some r ∧ impl_TermsOk.f a b c d e f g h = some r ∧ (r = true ↔ (1 ≤ a ∧ a ≤ 2000) ∧ (0 ≤ b ∧ b ≤ 2000) ∧ (1 ≤ c ∧ c ≤ 2000) ∧ (0 ≤ d ∧ d ≤ 10000) ∧ (0 ≤ e ∧ e ≤ 1000000) ∧ (1 ≤ f ∧ f ≤ 2000) ∧ (0 ≤ g ∧ g ≤ 100000) ∧ (0 ≤ h ∧ h ≤ 20)) := by
  unfold spec_TermsOk.f impl_TermsOk.f
  obtain ⟨r1, s1, i1, e1⟩ := in_ex a 1 2000
  obtain ⟨r2, s2, i2, e2⟩ := in_ex c 1 2000
  obtain ⟨r3, s3, i3, e3⟩ := in_ex f 1 2000
  obtain ⟨r4, s4, i4, e4⟩ := in_ex b 0 2000
  obtain ⟨r5, s5, i5, e5⟩ := in_ex d 0 10000
  obtain ⟨r6, s6, i6, e6⟩ := in_ex e 0 1000000
  obtain ⟨r7, s7, i7, e7⟩ := in_ex g 0 100000
  obtain ⟨r8, s8, i8, e8⟩ := in_ex h 0 20
  simp only [s1, i1, s2, i2, s3, i3, s4, i4, s5, i5, s6, i6, s7, i7, s8, i8, Option.bind_some]
  refine ⟨r1 && (r2 && (r3 && (r4 && (r5 && (r6 && (r7 && r8)))))), ?_, ?_, ?_⟩
  · cases r1 <;> cases r2 <;> cases r3 <;> cases r4 <;> cases r5 <;> cases r6 <;> cases r7 <;> rfl
  · cases r1 <;> cases r2 <;> cases r3 <;> cases r4 <;> cases r5 <;> cases r6 <;> cases r7 <;> rfl
  · simp only [Bool.and_eq_true, e1, e2, e3, e4, e5, e6, e7, e8]
    constructor
    · rintro ⟨h1, h2, h3, h4, h5, h6, h7, h8⟩
      exact ⟨h1, h4, h2, h5, h6, h3, h7, h8⟩
    · rintro ⟨h1, h4, h2, h5, h6, h3, h7, h8⟩
      exact ⟨h1, h2, h3, h4, h5, h6, h7, h8⟩
theorem time_ex (x : Int) : ∃ r, spec_l01In.f x 0 20000 = some r ∧ impl_timeOk.f x = some r ∧ (r = true ↔ 0 ≤ x ∧ x ≤ 20000) := by
  obtain ⟨r, h1, h2, h3⟩ := in_ex x 0 20000
  refine ⟨r, h1, ?_, h3⟩
  unfold impl_timeOk.f
  rw [h2]
  rfl
end Go.Proofs.Ytcabbbidbkgalaa.WkFnFees
