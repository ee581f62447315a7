/- Grants: the marks that the exact statements lay (plain). -/
import Derived.Test.YtcpjfkagbnoagaaGmFnExactRevoke
namespace Go.Proofs.Ytcpjfkagbnoagaa.GcFnExactRevoke
open Go.RowKit Go.Proofs.Ytcpjfkagbnoagaa.QFnExactRevoke Go.Proofs.Ytcpjfkagbnoagaa.GrFnExactRevoke Go.Proofs.YtcpjfkagbnoagaaW.PrintWords Go.Proofs.YtcpjfkagbnoagaaW.PrintLast
set_option linter.unusedVariables false
set_option linter.unusedSimpArgs false

theorem heldG_l0 (l : List S25) (hn : l.length ≤ 1048576) (hl : ∀ j : Nat, ∀ hj : j < l.length, l[j] = mk_ j) : ∀ (d i : Nat), i + d = l.length → ∀ k, d < k → laws_heldGrantS.l0 k l (7 * (i : Int) + 1) (i : Int) = some (7 * (l.length : Int) + 1) := by
  intro d
  induction d with
  | zero =>
    intro i hi k hk
    obtain ⟨m, rfl, _⟩ := succ_of hk
    simp only [laws_heldGrantS.l0]
    rw [if_neg (by omega), show i = l.length by omega]
  | succ d ih =>
    intro i hi k hk
    obtain ⟨m, rfl, hm2⟩ := succ_of hk
    have hil : i < l.length := by omega
    have e0 : wrap64 ((i : Int) + 1) = ((i + 1 : Nat) : Int) := w64 (by omega) (by omega)
    have e1 : wrap64 (7 * (i : Int) + 1 + 1) = 7 * (i : Int) + 2 := by rw [w64 (by omega) (by omega)]; omega
    have e2 : wrap64 (7 * (i : Int) + 2 + 1) = 7 * (i : Int) + 3 := by rw [w64 (by omega) (by omega)]; omega
    have e3 : wrap64 (7 * (i : Int) + 3 + 1) = 7 * (i : Int) + 4 := by rw [w64 (by omega) (by omega)]; omega
    have e4 : wrap64 (7 * (i : Int) + 4 + 1) = 7 * (i : Int) + 5 := by rw [w64 (by omega) (by omega)]; omega
    have e5 : wrap64 (7 * (i : Int) + 5 + 1) = 7 * (i : Int) + 6 := by rw [w64 (by omega) (by omega)]; omega
    have e6 : wrap64 (7 * (i : Int) + 6 + 1) = 7 * (i : Int) + 7 := by rw [w64 (by omega) (by omega)]; omega
    have e7 : wrap64 (7 * (i : Int) + 7 + 1) = 7 * ((i + 1 : Nat) : Int) + 1 := by rw [w64 (by omega) (by omega)]; omega
    simp only [laws_heldGrantS.l0]
    rw [if_pos (by omega), if_pos (by omega), rd_at hil, hl i hil]
    simp only [e1, e2, e3, e4, e5, e6, e7, e0, mk_, if_true, bne_self_eq_false, Bool.false_eq_true, if_false]
    exact ih (i + 1) (by omega) m (by omega)
theorem heldS (y : List S25) (hl : y.length ≤ 1048576) (hy : ∀ j : Nat, ∀ hj : j < y.length, y[j] = mk_ j) : ∀ k, y.length < k → laws_heldGrantS.f k y 1 = some (7 * (y.length : Int) + 1) := by
  intro k hk
  unfold laws_heldGrantS.f
  exact heldG_l0 y hl hy y.length 0 (by omega) k hk
end Go.Proofs.Ytcpjfkagbnoagaa.GcFnExactRevoke
