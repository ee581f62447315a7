/- An operation that goes through all its steps changes what is full, and one of somebody who changes their mind does not: for every code (plain). There are six courses in all: the kernel runs them. -/
import Derived.Test.YtglpkjcblpjnoabDwFnOpenings
import Derived.Test.YtglpkjcblpjnoabQFnOpeningsx4
namespace Go.Proofs.Ytglpkjcblpjnoab.Pure
open Go.RowKit Go.Proofs.Ytglpkjcblpjnoab.QFnOpenings Go.Proofs.YtglpkjcblpjnoabW.PrintWords Go.Proofs.YtglpkjcblpjnoabW.PrintLast

theorem put_all (x : List Int) : laws_FnOpenings.j0 5000 x 1 0 0 false false false = (spec_DrawPlaces.f 4986 x).bind fun t => (if 1 < (t.length : Int) then (laws_FnOpenings.l1 4986 true false (wrap64 (1 + (Int.tmod (rd t 1) 3))) 0 0 0 false false false 0 0 false false true 1 1 false false false) else none) := by kernel_rfl
theorem take_all (x : List Int) : laws_FnOpenings.j0 5000 x 2 0 0 false false true = (spec_DrawPlaces.f 4986 x).bind fun t => (if 1 < (t.length : Int) then (laws_FnOpenings.l1 4986 true false (wrap64 (1 + (Int.tmod (rd t 1) 3))) 0 0 0 false false true 0 0 false false false 2 1 false false true) else none) := by kernel_rfl
theorem put1 : laws_FnOpenings.l1 4986 true false 1 0 0 0 false false false 0 0 false false true 1 1 false false false = some true := by kernel_rfl
theorem put2 : laws_FnOpenings.l1 4986 true false 2 0 0 0 false false false 0 0 false false true 1 1 false false false = some true := by kernel_rfl
theorem put3 : laws_FnOpenings.l1 4986 true false 3 0 0 0 false false false 0 0 false false true 1 1 false false false = some true := by kernel_rfl
theorem take1 : laws_FnOpenings.l1 4986 true false 1 0 0 0 false false true 0 0 false false false 2 1 false false true = some true := by kernel_rfl
theorem take2 : laws_FnOpenings.l1 4986 true false 2 0 0 0 false false true 0 0 false false false 2 1 false false true = some true := by kernel_rfl
theorem take3 : laws_FnOpenings.l1 4986 true false 3 0 0 0 false false true 0 0 false false false 2 1 false false true = some true := by kernel_rfl
theorem FnOpenings : laws_FnOpenings.Pure := by
  intro x hx
  intros
  by_cases hl : (x.length : Int) > 1048576
  · refine ⟨1, ?_⟩
    unfold laws_FnOpenings.f laws_big.f
    rw [decide_eq_true hl]
    rfl
  · have hx' : x.length ≤ 1048576 := by omega
    obtain ⟨t, t1, t2, ht⟩ := DwFnOpenings.places_ex x hx'
    have p1 := DwFnOpenings.place t t1 t2 1 (by omega) (by omega)
    have a1 := Int.tmod_nonneg 3 p1.1
    have b1 := Int.tmod_lt_of_pos (rd t 1) (show (0 : Int) < 3 by omega)
    refine ⟨5000, ?_⟩
    unfold laws_FnOpenings.f laws_big.f
    rw [decide_eq_false hl]
    simp only [Option.bind_some, Bool.false_eq_true, if_false]
    rw [ht _ (by omega)]
    simp only [Option.bind_some]
    rw [if_pos (by omega)]
    by_cases c : Int.tmod (rd t 0) 2 = 1
    · rw [if_pos c, c, show ((1 : Int) == 1) = true from rfl, take_all, ht _ (by omega)]
      simp only [Option.bind_some]
      rw [if_pos (by omega), DwFnOpenings.w64 (by omega) (by omega)]
      rcases (by omega : Int.tmod (rd t 1) 3 = 0 ∨ Int.tmod (rd t 1) 3 = 1 ∨ Int.tmod (rd t 1) 3 = 2) with h | h | h <;> rw [h]
      · exact take1
      · exact take2
      · exact take3
    · rw [if_neg c, show (Int.tmod (rd t 0) 2 == 1) = false by simpa using c, put_all, ht _ (by omega)]
      simp only [Option.bind_some]
      rw [if_pos (by omega), DwFnOpenings.w64 (by omega) (by omega)]
      rcases (by omega : Int.tmod (rd t 1) 3 = 0 ∨ Int.tmod (rd t 1) 3 = 1 ∨ Int.tmod (rd t 1) 3 = 2) with h | h | h <;> rw [h]
      · exact put1
      · exact put2
      · exact put3

end Go.Proofs.Ytglpkjcblpjnoab.Pure
