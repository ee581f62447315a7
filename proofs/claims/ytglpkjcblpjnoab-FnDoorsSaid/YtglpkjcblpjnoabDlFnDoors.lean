/- Doors: the program's DoorOk and the reference's are one function of the door's five parts (plain). -/
import Derived.Test.YtglpkjcblpjnoabQFnDoorsx0
import Derived.Test.YtglpkjcblpjnoabQFnDoorsx1
import Derived.Test.YtglpkjcblpjnoabQFnDoorsx2
import Derived.Test.YtglpkjcblpjnoabQFnDoorsx3
import Derived.Test.YtglpkjcblpjnoabQFnDoorsx4
import Derived.Test.YtglpkjcblpjnoabQFnDoorsx5
import Derived.Test.YtglpkjcblpjnoabQFnDoorsx6
import Derived.Test.YtglpkjcblpjnoabQFnDoorsx7
import Derived.Test.YtglpkjcblpjnoabQFnDoorsx8
import Derived.Test.YtglpkjcblpjnoabQFnDoorsx9
import Derived.Test.YtglpkjcblpjnoabQFnDoorsx10
import Derived.Test.YtglpkjcblpjnoabQFnDoorsx11
import Derived.Test.YtglpkjcblpjnoabQFnDoorsx12
namespace Go.Proofs.Ytglpkjcblpjnoab.DlFnDoors
open Go.RowKit Go.Proofs.Ytglpkjcblpjnoab.QFnDoors Go.Proofs.YtglpkjcblpjnoabW.PrintWords Go.Proofs.YtglpkjcblpjnoabW.PrintLast
set_option linter.unusedVariables false
set_option linter.unusedSimpArgs false

def okD (a b : Int) (l o f : Bool) : Bool :=
  if 0 ≤ a ∧ a ≤ 2 ∧ 0 ≤ b ∧ b ≤ 6 then
    (if (o && !l) = true then false else
     if a = 0 then decide (b = 0) && !l else
     if b = 1 then (f == (a == 2)) && !l else
     if b = 2 then (f == (a == 2)) && l && !o else
     if b = 3 then (f == (a == 2)) && o else
     if b = 4 then !(f == (a == 2)) && o else
     if b = 5 then l && !o else
     if b = 6 then !l else true)
  else false

theorem in_three {a : Int} (h1 : 0 ≤ a) (h2 : a ≤ 2) : a = 0 ∨ a = 1 ∨ a = 2 := by omega
theorem in_seven {b : Int} (h1 : 0 ≤ b) (h2 : b ≤ 6) : b = 0 ∨ b = 1 ∨ b = 2 ∨ b = 3 ∨ b = 4 ∨ b = 5 ∨ b = 6 := by omega

theorem spec_ok (k : Nat) (a b : Int) (l o f : Bool) : spec_DoorOk.f (k + 1) a b l o f = some (okD a b l o f) := by
  by_cases h : 0 ≤ a ∧ a ≤ 2 ∧ 0 ≤ b ∧ b ≤ 6
  · obtain ⟨h1, h2, h3, h4⟩ := h
    rcases in_three h1 h2 with rfl | rfl | rfl <;> rcases in_seven h3 h4 with rfl | rfl | rfl | rfl | rfl | rfl | rfl <;> cases l <;> cases o <;> cases f <;> rfl
  · unfold okD
    rw [if_neg h]
    unfold spec_DoorOk.f spec_l01In.f
    by_cases h1 : a ≥ 0
    · by_cases h2 : a ≤ 2
      · by_cases h3 : b ≥ 0
        · have h4 : ¬ b ≤ 6 := fun h4 => h ⟨h1, h2, h3, h4⟩
          simp [h1, h2, h3, h4, spec_DoorOk.j0]
        · simp [h1, h2, h3, spec_DoorOk.j0]
      · simp [h1, h2, spec_DoorOk.j0]
    · simp [h1, spec_DoorOk.j0]

theorem impl_ok (k : Nat) (a b : Int) (l o f : Bool) : impl_DoorOk.f (k + 1) a b l o f = some (okD a b l o f) := by
  by_cases h : 0 ≤ a ∧ a ≤ 2 ∧ 0 ≤ b ∧ b ≤ 6
  · obtain ⟨h1, h2, h3, h4⟩ := h
    rcases in_three h1 h2 with rfl | rfl | rfl <;> rcases in_seven h3 h4 with rfl | rfl | rfl | rfl | rfl | rfl | rfl <;> cases l <;> cases o <;> cases f <;> rfl
  · unfold okD
    rw [if_neg h]
    unfold impl_DoorOk.f impl_within.f
    by_cases h1 : a ≥ 0
    · by_cases h2 : a ≤ 2
      · by_cases h3 : b ≥ 0
        · have h4 : ¬ b ≤ 6 := fun h4 => h ⟨h1, h2, h3, h4⟩
          simp [h1, h2, h3, h4, impl_DoorOk.j0]
        · simp [h1, h2, h3, impl_DoorOk.j0]
      · simp [h1, h2, impl_DoorOk.j0]
    · simp [h1, impl_DoorOk.j0]

/-- What a right door's parts are. -/
theorem ok_range {a b : Int} {l o f : Bool} (h : okD a b l o f = true) : 0 ≤ a ∧ a ≤ 2 ∧ 0 ≤ b ∧ b ≤ 6 := by
  unfold okD at h
  split at h
  · assumption
  · cases h
end Go.Proofs.Ytglpkjcblpjnoab.DlFnDoors
