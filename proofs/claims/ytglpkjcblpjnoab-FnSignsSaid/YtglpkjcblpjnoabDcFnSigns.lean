/- Draws: what the reference draws out of the code always comes, and within its bounds (plain). -/
import Derived.Test.YtglpkjcblpjnoabQFnSignsx0
import Derived.Test.YtglpkjcblpjnoabQFnSignsx1
import Derived.Test.YtglpkjcblpjnoabQFnSignsx2
import Derived.Test.YtglpkjcblpjnoabQFnSignsx3
import Derived.Test.YtglpkjcblpjnoabQFnSignsx4
import Derived.Test.YtglpkjcblpjnoabQFnSignsx5
import Derived.Test.YtglpkjcblpjnoabQFnSignsx6
import Derived.Test.YtglpkjcblpjnoabQFnSignsx7
import Derived.Test.YtglpkjcblpjnoabQFnSignsx8
import Derived.Test.YtglpkjcblpjnoabQFnSignsx9
import Derived.Test.YtglpkjcblpjnoabQFnSignsx10
import Derived.Test.YtglpkjcblpjnoabQFnSignsx11
import Derived.Test.YtglpkjcblpjnoabQFnSignsx12
import Derived.Test.YtglpkjcblpjnoabQFnSignsx13
import Derived.Test.YtglpkjcblpjnoabQFnSignsx14
import Derived.Test.YtglpkjcblpjnoabQFnSignsx15
import Derived.Test.YtglpkjcblpjnoabQFnSignsx16
import Derived.Test.YtglpkjcblpjnoabQFnSignsx17
import Derived.Laws.Bits128
namespace Go.Proofs.Ytglpkjcblpjnoab.DwFnSigns
open Go.RowKit Go.Proofs.Ytglpkjcblpjnoab.QFnSigns Go.Proofs.YtglpkjcblpjnoabW.PrintWords Go.Proofs.YtglpkjcblpjnoabW.PrintLast
set_option linter.unusedVariables false
set_option linter.unusedSimpArgs false

theorem w64 {x : Int} (h1 : -9223372036854775808 ≤ x) (h2 : x ≤ 9223372036854775807) : wrap64 x = x := by
  unfold wrap64; omega
theorem succ_of {d k : Nat} (h : d < k) : ∃ m, k = m + 1 ∧ d ≤ m := ⟨k - 1, by omega, by omega⟩

theorem and255 (n : Int) : Go.bits .and .i64 n 255 = n % 256 := by
  have h255 : (BitVec.ofInt 64 255).toNat = 2 ^ 8 - 1 := by decide
  have key : (BitVec.ofInt 64 n &&& BitVec.ofInt 64 255).toNat = (n % ((2 ^ 64 : Nat) : Int)).toNat % 2 ^ 8 := by
    rw [BitVec.toNat_and, BitVec.toNat_ofInt, h255, Nat.and_two_pow_sub_one_eq_mod]
  show IntKind.i64.wrap ((BitVec.ofInt 64 n &&& BitVec.ofInt 64 255).toNat : Nat) = n % 256
  rw [key, IntKind.wrap_i64]
  omega

theorem byte_ex (x : List Int) (hx : x.length ≤ 1048576) (i s : Int) (h0 : 0 ≤ i) (hi : i ≤ x.length) :
    ∃ r j q, spec_l01Byte.f x i s = some (r, j, q) ∧ 0 ≤ r ∧ r ≤ 255 ∧ 0 ≤ j ∧ j ≤ x.length := by
  unfold spec_l01Byte.f
  by_cases c : i < (x.length : Int)
  · rw [if_pos c, if_pos h0]
    refine ⟨_, _, _, rfl, ?_, ?_, ?_, ?_⟩
    · rw [and255]; omega
    · rw [and255]; omega
    · rw [w64 (by omega) (by omega)]; omega
    · rw [w64 (by omega) (by omega)]; omega
  · rw [if_neg c]
    refine ⟨_, _, _, rfl, ?_, ?_, h0, hi⟩
    · rw [and255]; omega
    · rw [and255]; omega

theorem below_ex (x : List Int) (hx : x.length ≤ 1048576) (i s : Int) (h0 : 0 ≤ i) (hi : i ≤ x.length) (a : Int) (ha : 0 < a) :
    ∃ r j q, spec_l01Below.f x i s a = some (r, j, q) ∧ 0 ≤ r ∧ r < a ∧ 0 ≤ j ∧ j ≤ x.length := by
  unfold spec_l01Below.f
  rw [if_neg (by omega)]
  by_cases c : a ≤ 256
  · rw [if_pos c]
    obtain ⟨r, j, q, e, h1, h2, h3, h4⟩ := byte_ex x hx i s h0 hi
    rw [e]
    simp only [Option.bind_some]
    rw [if_neg (by omega)]
    exact ⟨_, _, _, rfl, Int.tmod_nonneg _ h1, Int.tmod_lt_of_pos _ ha, h3, h4⟩
  · rw [if_neg c]
    obtain ⟨r1, j1, q1, e1, a1, b1, c1, d1⟩ := byte_ex x hx i s h0 hi
    rw [e1]
    simp only [Option.bind_some]
    obtain ⟨r2, j2, q2, e2, a2, b2, c2, d2⟩ := byte_ex x hx j1 q1 c1 d1
    rw [e2]
    simp only [Option.bind_some]
    obtain ⟨r3, j3, q3, e3, a3, b3, c3, d3⟩ := byte_ex x hx j2 q2 c2 d2
    rw [e3]
    simp only [Option.bind_some]
    obtain ⟨r4, j4, q4, e4, a4, b4, c4, d4⟩ := byte_ex x hx j3 q3 c3 d3
    rw [e4]
    simp only [Option.bind_some]
    rw [if_neg (by omega)]
    refine ⟨_, _, _, rfl, Int.tmod_nonneg _ ?_, Int.tmod_lt_of_pos _ ha, c4, d4⟩
    rw [w64 (x := r1 * 16777216) (by omega) (by omega), w64 (x := r2 * 65536) (by omega) (by omega), w64 (x := r3 * 256) (by omega) (by omega), w64 (x := r1 * 16777216 + r2 * 65536) (by omega) (by omega), w64 (x := r1 * 16777216 + r2 * 65536 + r3 * 256) (by omega) (by omega), w64 (x := r1 * 16777216 + r2 * 65536 + r3 * 256 + r4) (by omega) (by omega)]
    omega

theorem new_l0 (x : List Int) (hx : x.length ≤ 1048576) : ∀ (d i : Nat) (s : Int), i + d = 4000 → ∃ s2, ∀ k, d < k → spec_l01New.l0 k x s (i : Int) = some (x, 0, s2) := by
  intro d
  induction d with
  | zero =>
    intro i s hi
    refine ⟨s, fun k hk => ?_⟩
    obtain ⟨m, rfl, _⟩ := succ_of hk
    simp only [spec_l01New.l0]
    by_cases c : (i : Int) < (x.length : Int)
    · rw [if_pos c, if_neg (by omega)]
    · rw [if_neg c]
  | succ d ih =>
    intro i s hi
    have e1 : wrap64 ((i : Int) + 1) = ((i + 1 : Nat) : Int) := w64 (by omega) (by omega)
    by_cases c : (i : Int) < (x.length : Int)
    · obtain ⟨s2, h2⟩ := ih (i + 1) (Go.bits .and .i64 (wrap64 ((wrap64 ((wrap64 (s * 131)) + (wrap64 (rd x (i : Int))))) + 7)) 1073741823) (by omega)
      refine ⟨s2, fun k hk => ?_⟩
      obtain ⟨m, rfl, hm⟩ := succ_of hk
      simp only [spec_l01New.l0]
      rw [if_pos c, if_pos (by omega), if_pos (by omega), e1]
      exact h2 m (by omega)
    · refine ⟨s, fun k hk => ?_⟩
      obtain ⟨m, rfl, _⟩ := succ_of hk
      simp only [spec_l01New.l0]
      rw [if_neg c]

theorem new_ex (x : List Int) (hx : x.length ≤ 1048576) : ∃ s, ∀ k, 4000 < k → spec_l01New.f k x = some (x, 0, s) := by
  obtain ⟨s2, h2⟩ := new_l0 x hx 4000 0 (wrap64 (33183 + (x.length : Int))) (by omega)
  exact ⟨s2, fun k hk => h2 k hk⟩

theorem rd_mem (l : List Int) (i : Int) (h0 : 0 ≤ i) (h : i < l.length) : rd l i ∈ l := by
  have h1 : i.toNat < l.length := by omega
  have : rd l i = l[i.toNat] := by
    unfold rd
    simp [List.getD_eq_getElem?_getD, h1]
  rw [this]
  exact List.getElem_mem h1
end Go.Proofs.Ytglpkjcblpjnoab.DwFnSigns
