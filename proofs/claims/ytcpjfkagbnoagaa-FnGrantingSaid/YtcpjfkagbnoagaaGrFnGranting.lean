/- Grants: the exact statements' copies of the grants, and which lists of grants are right (plain). -/
import Derived.Test.YtcpjfkagbnoagaaQFnGrantingx0
import Derived.Test.YtcpjfkagbnoagaaQFnGrantingx1
import Derived.Test.YtcpjfkagbnoagaaQFnGrantingx2
import Derived.Test.YtcpjfkagbnoagaaQFnGrantingx3
import Derived.Test.YtcpjfkagbnoagaaQFnGrantingx4
import Derived.Test.YtcpjfkagbnoagaaQFnGrantingx5
import Derived.Test.YtcpjfkagbnoagaaQFnGrantingx6
import Derived.Test.YtcpjfkagbnoagaaQFnGrantingx7
import Derived.Test.YtcpjfkagbnoagaaQFnGrantingx8
import Derived.Test.YtcpjfkagbnoagaaQFnGrantingx9
namespace Go.Proofs.Ytcpjfkagbnoagaa.GrFnGranting
open Go.RowKit Go.Proofs.Ytcpjfkagbnoagaa.QFnGranting Go.Proofs.YtcpjfkagbnoagaaW.PrintWords Go.Proofs.YtcpjfkagbnoagaaW.PrintLast
set_option linter.unusedVariables false
set_option linter.unusedSimpArgs false

theorem w64 {x : Int} (h1 : -9223372036854775808 ≤ x) (h2 : x ≤ 9223372036854775807) : wrap64 x = x := by
  unfold wrap64; omega
theorem succ_of {d k : Nat} (h : d < k) : ∃ m, k = m + 1 ∧ d ≤ m := ⟨k - 1, by omega, by omega⟩

theorem take_set_succ {α : Type} (l : List α) (i : Nat) (a : α) (h : i < l.length) : (l.set i a).take (i + 1) = l.take i ++ [a] := by
  rw [List.take_succ_eq_append_getElem (by simpa using h), List.take_set_of_le (Nat.le_refl _)]
  simp

theorem in_same (x a b : Int) : ∃ r, spec_l01In.f x a b = some r ∧ impl_within.f x a b = some r := by
  unfold spec_l01In.f impl_within.f
  split <;> exact ⟨_, rfl, rfl⟩
theorem ok_same (a b c d e f : Int) (g : Bool) : ∃ r, spec_GrantOk.f a b c d e f g = some r ∧ impl_GrantOk.f a b c d e f g = some r := by
  unfold spec_GrantOk.f impl_GrantOk.f spec_l05Person.f impl_personOk.f spec_l05Time.f impl_timeOk.f
  obtain ⟨r1, s1, i1⟩ := in_same a 1 40
  obtain ⟨r2, s2, i2⟩ := in_same b 1 40
  obtain ⟨r3, s3, i3⟩ := in_same c 0 999
  obtain ⟨r4, s4, i4⟩ := in_same d 0 5
  obtain ⟨r5, s5, i5⟩ := in_same e 0 20000
  obtain ⟨r6, s6, i6⟩ := in_same f 0 20000
  simp only [s1, i1, s2, i2, s3, i3, s4, i4, s5, i5, s6, i6, Option.bind_some]
  by_cases h : a = b
  · cases r1 <;> cases r2 <;> simp [h]
  · cases r1 <;> cases r2 <;> cases r3 <;> cases r4 <;> cases r5 <;> cases r6 <;> simp [h]

def okG (y : S25) : Bool := (spec_GrantOk.f y.f0 y.f1 y.f2 y.f3 y.f4 y.f5 y.f6).getD false
theorem spec_ok (y : S25) : spec_GrantOk.f y.f0 y.f1 y.f2 y.f3 y.f4 y.f5 y.f6 = some (okG y) := by
  obtain ⟨r, h1, _⟩ := ok_same y.f0 y.f1 y.f2 y.f3 y.f4 y.f5 y.f6
  unfold okG
  rw [h1]; rfl
theorem impl_ok (y : S25) : impl_GrantOk.f y.f0 y.f1 y.f2 y.f3 y.f4 y.f5 y.f6 = some (okG y) := by
  obtain ⟨r, h1, h2⟩ := ok_same y.f0 y.f1 y.f2 y.f3 y.f4 y.f5 y.f6
  unfold okG
  rw [h2, h1]; rfl

def okGs (l : List S25) : Bool := decide (l.length ≤ 30) && l.all okG

theorem spec_oks_l0 (l : List S25) (hl : l.length ≤ 1048576) : ∀ (d i : Nat), i + d = l.length → ∀ k, d < k → spec_GrantsOk.l0 k l (i : Int) = some ((l.drop i).all okG) := by
  intro d
  induction d with
  | zero =>
    intro i hi k hk
    obtain ⟨m, rfl, _⟩ := succ_of hk
    simp only [spec_GrantsOk.l0]
    rw [if_neg (by omega), List.drop_of_length_le (by omega)]
    rfl
  | succ d ih =>
    intro i hi k hk
    obtain ⟨m, rfl, hm⟩ := succ_of hk
    have e1 : wrap64 ((i : Int) + 1) = ((i + 1 : Nat) : Int) := w64 (by omega) (by omega)
    have hil : i < l.length := by omega
    have e2 : rd_T25 l (i : Int) = l[i] := by
      unfold rd_T25
      simp [List.getD_eq_getElem?_getD, hil]
    simp only [spec_GrantsOk.l0]
    rw [if_pos (by omega), if_pos (by omega), e2, spec_ok, List.drop_eq_getElem_cons hil]
    simp only [Option.bind_some, List.all_cons]
    cases h : okG l[i] with
    | false => simp
    | true =>
      simp only [if_true, Bool.true_and]
      rw [e1]
      exact ih (i + 1) (by omega) m (by omega)

theorem spec_oks (l : List S25) (hl : l.length ≤ 1048576) : ∀ k, l.length < k → spec_GrantsOk.f k l = some (okGs l) := by
  intro k hk
  unfold spec_GrantsOk.f okGs
  by_cases h : (l.length : Int) > 30
  · rw [if_pos h]
    have : ¬ l.length ≤ 30 := by omega
    simp [this]
  · rw [if_neg h]
    have h2 := spec_oks_l0 l hl l.length 0 (by omega) k hk
    have : l.length ≤ 30 := by omega
    simpa [this] using h2

theorem impl_idx (l : List S25) (hl : l.length ≤ 1048576) : ∀ (d i : Nat), i + d = l.length → ∀ k, d < k → ∃ j, impl_Grant_78.l0 k l (l.length : Int) (i : Int) = some j ∧ decide (j ≥ 0) = !((l.drop i).all okG) := by
  intro d
  induction d with
  | zero =>
    intro i hi k hk
    obtain ⟨m, rfl, _⟩ := succ_of hk
    simp only [impl_Grant_78.l0]
    rw [if_neg (by omega), List.drop_of_length_le (by omega)]
    exact ⟨-1, rfl, rfl⟩
  | succ d ih =>
    intro i hi k hk
    obtain ⟨m, rfl, hm⟩ := succ_of hk
    have e1 : wrap64 ((i : Int) + 1) = ((i + 1 : Nat) : Int) := w64 (by omega) (by omega)
    have hil : i < l.length := by omega
    have e2 : rd_T25 l (i : Int) = l[i] := by
      unfold rd_T25
      simp [List.getD_eq_getElem?_getD, hil]
    simp only [impl_Grant_78.l0]
    rw [if_pos (by omega), if_pos (by omega), if_pos (by omega), e2]
    unfold impl_GrantsOk_1.f
    rw [impl_ok, List.drop_eq_getElem_cons hil]
    simp only [Option.bind_some, List.all_cons]
    cases h : okG l[i] with
    | false => exact ⟨_, rfl, by simp⟩
    | true =>
      simp only [Bool.not_true, Bool.false_eq_true, if_false, Bool.true_and]
      rw [e1]
      exact ih (i + 1) (by omega) m (by omega)

theorem impl_oks (l : List S25) (hl : l.length ≤ 1048576) : ∀ k, l.length < k → impl_GrantsOk.f k l = some (okGs l) := by
  intro k hk
  unfold impl_GrantsOk.f okGs
  by_cases h : (l.length : Int) ≤ 30
  · rw [if_pos h]
    obtain ⟨j, h1, h2⟩ := impl_idx l hl l.length 0 (by omega) k hk
    have : l.length ≤ 30 := by omega
    unfold impl_Grant_65.f impl_Grant_78.f
    have h1' : impl_Grant_78.l0 k l (l.length : Int) 0 = some j := h1
    rw [h1']
    simp only [Option.bind_some]
    rw [h2]
    simp [this]
  · rw [if_neg h]
    have : ¬ l.length ≤ 30 := by omega
    simp [this]
end Go.Proofs.Ytcpjfkagbnoagaa.GrFnGranting
