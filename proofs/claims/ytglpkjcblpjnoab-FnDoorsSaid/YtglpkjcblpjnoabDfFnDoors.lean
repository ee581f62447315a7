/- Doors: the law's own rounds (plain). -/
import Derived.Test.YtglpkjcblpjnoabDeFnDoors
import Derived.Test.YtglpkjcblpjnoabQFnDoorsx12
namespace Go.Proofs.Ytglpkjcblpjnoab.DlFnDoors
open Go.RowKit Go.Proofs.Ytglpkjcblpjnoab.QFnDoors Go.Proofs.YtglpkjcblpjnoabW.PrintWords Go.Proofs.YtglpkjcblpjnoabW.PrintLast
set_option linter.unusedVariables false
set_option linter.unusedSimpArgs false

theorem one_both (c a b : Int) (l o f : Bool) (h : okD a b l o f = true) : ∃ (a' b' : Int) (l' o' f' : Bool) (z : List Int), (∀ k, 40 < k → spec_DoActs.f k a b l o f [c] = some (a', b', l', o', f', z) ∧ impl_DoActs.f k a b l o f [c] = some (a', b', l', o', f', z)) ∧ okD a' b' l' o' f' = true ∧ (f' ≠ f → o = true) := by
  obtain ⟨⟨a', b', l', o', f', z⟩, e, g1, g2⟩ := one_keep c a b l o f h
  obtain ⟨R, _, hR⟩ := acts_same [c] (by simp) a b l o f
  have hh := (hR 41 (by simp)).1
  rw [e 41 (by omega)] at hh
  obtain rfl := Option.some.inj hh
  exact ⟨a', b', l', o', f', z, fun k hk => hR k (by simp; omega), g1, g2⟩

theorem slice_one (r : List Int) (i : Nat) (h : i < r.length) : (r.take (i + 1)).drop i = [r[i]] := by
  rw [List.take_succ_eq_append_getElem h]
  exact List.drop_left' (by simp; omega)

theorem law_l0 (r : List Int) (hr : r.length ≤ 300) : ∀ (d i : Nat) (a b : Int) (l o f : Bool), i + d = r.length → okD a b l o f = true → ∀ k, 100 + 2 * d < k → laws_FnDoors.l0 k r (i : Int) a b l o f = some true := by
  intro d
  induction d with
  | zero =>
    intro i a b l o f hi h k hk
    obtain ⟨m, rfl, hm⟩ := succ_of hk
    rw [laws_FnDoors.l0, if_neg (by omega)]
  | succ d ih =>
    intro i a b l o f hi h k hk
    obtain ⟨k1, rfl, hk1⟩ := succ_of hk
    obtain ⟨k2, rfl, hk2⟩ := succ_of (show 101 + 2 * d < k1 by omega)
    have hil : i < r.length := by omega
    have e1 : wrap64 ((i : Int) + 1) = ((i + 1 : Nat) : Int) := w64 (by omega) (by omega)
    obtain ⟨a', b', l', o', f', z, hb, g1, g2⟩ := one_both r[i] a b l o f h
    rw [laws_FnDoors.l0, e1, if_pos (by omega), if_pos (by omega), if_pos (by omega), if_pos (by omega), Int.toNat_natCast, Int.toNat_natCast, slice_one r i hil, (hb _ (by omega)).1, (hb _ (by omega)).2]
    simp only [Option.bind_some]
    rw [if_neg (by simp), impl_ok, g1]
    simp only [Option.bind_some, Bool.not_true]
    rw [laws_FnDoors.j3, if_neg (by decide), e1]
    have hn := ih (i + 1) a' b' l' o' f' (by omega) g1 k2 (by omega)
    by_cases q : (f' != f) = true
    · have ho : o = true := g2 (by simpa using q)
      rw [if_pos q, if_pos ho]
      exact hn
    · rw [if_neg q]
      exact hn

theorem same_l0 (l : List Int) (hl : l.length ≤ 1048576) : ∀ (d i : Nat), i + d = l.length → ∀ k, d < k → laws_sameInts.l0 k l l (i : Int) = some true := by
  intro d
  induction d with
  | zero =>
    intro i hi k hk
    obtain ⟨m, rfl, _⟩ := succ_of hk
    simp only [laws_sameInts.l0]
    rw [if_neg (by omega)]
  | succ d ih =>
    intro i hi k hk
    obtain ⟨m, rfl, hm⟩ := succ_of hk
    have e1 : wrap64 ((i : Int) + 1) = ((i + 1 : Nat) : Int) := w64 (by omega) (by omega)
    simp only [laws_sameInts.l0]
    rw [if_pos (by omega), if_pos (by omega), if_pos (by omega), if_pos trivial, e1]
    exact ih (i + 1) (by omega) m (by omega)
theorem same_ok (l : List Int) (hl : l.length ≤ 1048576) : ∀ k, l.length < k → laws_sameInts.f k l l = some true := by
  intro k hk
  unfold laws_sameInts.f
  rw [if_pos rfl]
  exact same_l0 l hl l.length 0 (by omega) k hk
end Go.Proofs.Ytglpkjcblpjnoab.DlFnDoors
