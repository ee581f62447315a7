/- Whatever one does to a door, the program and the reference end alike, the door stays right, and what is full changes with the door open alone: for every code (plain). -/
import Derived.Test.YtglpkjcblpjnoabDfFnDoors
namespace Go.Proofs.Ytglpkjcblpjnoab.Pure
open Go.RowKit Go.Proofs.Ytglpkjcblpjnoab.QFnDoors Go.Proofs.YtglpkjcblpjnoabW.PrintWords Go.Proofs.YtglpkjcblpjnoabW.PrintLast

theorem FnDoors : laws_FnDoors.Pure := by
  intro x hx
  intros
  by_cases hl : (x.length : Int) > 1048576
  · refine ⟨1, ?_⟩
    unfold laws_FnDoors.f laws_big.f
    rw [decide_eq_true hl]
    rfl
  · have hx' : x.length ≤ 1048576 := by omega
    obtain ⟨a, b, l, o, f, r, hr, hd⟩ := DwFnDoors.draw_ex x hx'
    obtain ⟨⟨A, B, L, O, F, z⟩, hz, hR⟩ := DlFnDoors.acts_same r (by omega) a b l o f
    have hz' : z.length ≤ r.length := hz
    refine ⟨100000 + 1 + 1, ?_⟩
    unfold laws_FnDoors.f laws_big.f
    rw [decide_eq_false hl]
    simp only [Option.bind_some, Bool.false_eq_true, if_false]
    rw [hd _ (by omega)]
    simp only [Option.bind_some]
    rw [(hR _ (by omega)).1, (hR _ (by omega)).2]
    simp only [Option.bind_some]
    rw [if_neg (by simp), DlFnDoors.same_ok z (by omega) _ (by omega)]
    simp only [Option.bind_some, if_true]
    rw [DlFnDoors.impl_ok, DlFnDoors.spec_ok]
    simp only [Option.bind_some, bne_self_eq_false]
    rw [laws_FnDoors.j0, if_neg (by decide), DlFnDoors.spec_ok]
    simp only [Option.bind_some]
    cases hk : DlFnDoors.okD a b l o f with
    | false =>
      have hn := DlFnDoors.acts_none r (by omega) a b l o f (.inl hk) 100000 (by omega)
      rw [(hR 100000 (by omega)).1] at hn
      obtain ⟨rfl, rfl, rfl, rfl, rfl, rfl⟩ : A = a ∧ B = b ∧ L = l ∧ O = o ∧ F = f ∧ z = [] := by simpa using hn
      rw [if_neg (by decide), laws_FnDoors.j1, if_pos rfl, if_pos (by simp)]
      rfl
    | true =>
      rw [if_pos rfl]
      by_cases hm : (r.length : Int) > 200
      · have hn := DlFnDoors.acts_none r (by omega) a b l o f (.inr (by omega)) 100000 (by omega)
        rw [(hR 100000 (by omega)).1] at hn
        obtain ⟨rfl, rfl, rfl, rfl, rfl, rfl⟩ : A = a ∧ B = b ∧ L = l ∧ O = o ∧ F = f ∧ z = [] := by simpa using hn
        rw [decide_eq_true hm, laws_FnDoors.j1, if_pos rfl, if_pos (by simp)]
        rfl
      · rw [decide_eq_false hm, laws_FnDoors.j1, if_neg (by decide)]
        exact DlFnDoors.law_l0 r hr r.length 0 a b l o f (by omega) hk _ (by omega)

end Go.Proofs.Ytglpkjcblpjnoab.Pure
