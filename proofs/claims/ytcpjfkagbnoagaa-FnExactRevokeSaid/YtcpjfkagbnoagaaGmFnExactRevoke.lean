/- Grants: the marks that the exact statements lay (plain). -/
import Derived.Test.YtcpjfkagbnoagaaGbFnExactRevoke
namespace Go.Proofs.Ytcpjfkagbnoagaa.GcFnExactRevoke
open Go.RowKit Go.Proofs.Ytcpjfkagbnoagaa.QFnExactRevoke Go.Proofs.Ytcpjfkagbnoagaa.GrFnExactRevoke Go.Proofs.YtcpjfkagbnoagaaW.PrintWords Go.Proofs.YtcpjfkagbnoagaaW.PrintLast
set_option linter.unusedVariables false
set_option linter.unusedSimpArgs false

theorem rd_set (l : List S25) (i : Nat) (a : S25) (h : i < l.length) : rd_T25 (l.set i a) (i : Int) = a := by
  unfold rd_T25
  simp [List.getD_eq_getElem?_getD, h]
/-- A marked grant. -/
def mk_ (j : Nat) : S25 := ⟨7 * j + 1, 7 * j + 2, 7 * j + 3, 7 * j + 4, 7 * j + 5, 7 * j + 6, (Int.tmod (7 * j + 7) 3 == 0)⟩
theorem markG_l0 (n : Nat) (hn : n ≤ 1048576) : ∀ (d i : Nat) (x0 : List S25), x0.length = n → i + d = n → (∀ j : Nat, j < i → ∀ hj : j < x0.length, x0[j] = mk_ j) →
    ∃ y : List S25, (∀ k, d < k → laws_markGrantS.l0 k x0 (7 * (i : Int) + 1) (i : Int) = some (7 * (n : Int) + 1, y)) ∧ y.length = n ∧ ∀ j : Nat, ∀ hj : j < y.length, y[j] = mk_ j := by
  intro d
  induction d with
  | zero =>
    intro i x0 hx hi hm
    refine ⟨x0, fun k hk => ?_, hx, fun j hj => hm j (by omega) hj⟩
    obtain ⟨m, rfl, _⟩ := succ_of hk
    simp only [laws_markGrantS.l0]
    rw [if_neg (by omega), show i = n by omega]
  | succ d ih =>
    intro i x0 hx hi hm
    have hil : i < x0.length := by omega
    obtain ⟨y, h1, h2, h3⟩ := ih (i + 1) (x0.set i (mk_ i)) (by simpa using hx) (by omega) (fun j hj hj2 => by
      rw [List.getElem_set]
      split
      · rename_i e; subst e; rfl
      · exact hm j (by omega) (by simpa using hj2))
    refine ⟨y, fun k hk => ?_, h2, h3⟩
    obtain ⟨m, rfl, hm2⟩ := succ_of hk
    have e0 : wrap64 ((i : Int) + 1) = ((i + 1 : Nat) : Int) := w64 (by omega) (by omega)
    have e1 : wrap64 (7 * (i : Int) + 1 + 1) = 7 * (i : Int) + 2 := by rw [w64 (by omega) (by omega)]; omega
    have e2 : wrap64 (7 * (i : Int) + 2 + 1) = 7 * (i : Int) + 3 := by rw [w64 (by omega) (by omega)]; omega
    have e3 : wrap64 (7 * (i : Int) + 3 + 1) = 7 * (i : Int) + 4 := by rw [w64 (by omega) (by omega)]; omega
    have e4 : wrap64 (7 * (i : Int) + 4 + 1) = 7 * (i : Int) + 5 := by rw [w64 (by omega) (by omega)]; omega
    have e5 : wrap64 (7 * (i : Int) + 5 + 1) = 7 * (i : Int) + 6 := by rw [w64 (by omega) (by omega)]; omega
    have e6 : wrap64 (7 * (i : Int) + 6 + 1) = 7 * (i : Int) + 7 := by rw [w64 (by omega) (by omega)]; omega
    have e7 : wrap64 (7 * (i : Int) + 7 + 1) = 7 * ((i + 1 : Nat) : Int) + 1 := by rw [w64 (by omega) (by omega)]; omega
    simp only [laws_markGrantS.l0]
    rw [if_pos (by omega), if_pos (by omega)]
    simp only [Option.bind_some, Int.toNat_natCast, e1, e2, e3, e4, e5, e6, e7, e0]
    simp only [List.set_set, rd_set _ _ _ hil, rd_set _ _ _ (show i < (x0.set i _).length by simpa using hil)]
    exact h1 m (by omega)
theorem markS (l : List S25) (hl : l.length ≤ 1048576) : ∃ y : List S25, (∀ k, l.length < k → laws_markGrantS.f k l 1 = some (7 * (l.length : Int) + 1, y)) ∧ y.length = l.length ∧ ∀ j : Nat, ∀ hj : j < y.length, y[j] = mk_ j := by
  obtain ⟨y, h1, h2, h3⟩ := markG_l0 l.length hl l.length 0 l rfl (by omega) (fun j hj => by omega)
  refine ⟨y, fun k hk => ?_, h2, h3⟩
  unfold laws_markGrantS.f
  exact h1 k hk
end Go.Proofs.Ytcpjfkagbnoagaa.GcFnExactRevoke
