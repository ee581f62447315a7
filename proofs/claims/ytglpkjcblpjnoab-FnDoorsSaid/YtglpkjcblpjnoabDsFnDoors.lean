/- Doors: the signs that both packages tell, as one plain function. -/
import Derived.Test.YtglpkjcblpjnoabDlFnDoors
namespace Go.Proofs.Ytglpkjcblpjnoab.DlFnDoors
open Go.RowKit Go.Proofs.Ytglpkjcblpjnoab.QFnDoors Go.Proofs.YtglpkjcblpjnoabW.PrintWords Go.Proofs.YtglpkjcblpjnoabW.PrintLast
set_option linter.unusedVariables false
set_option linter.unusedSimpArgs false

/-- A sign with a fault of 2 is always set, with 0 it works, else it is never set. -/
def sgB (f : Int) (b : Bool) : Bool := if f = 2 then true else if f = 0 then b else false
theorem impl_sg (f : Int) (b : Bool) : impl_SignsOf_1.f f b = some (sgB f b) := by
  unfold impl_SignsOf_1.f sgB
  split
  · rfl
  · split <;> rfl
theorem spec_sg (f : Int) (b : Bool) : spec_l04Sign.f b f = some (sgB f b) := by
  unfold spec_l04Sign.f sgB
  by_cases h0 : f = 0
  · subst h0
    cases b <;> simp
  · by_cases h2 : f = 2
    · simp [h2]
    · simp [h0, h2]
def inB (x : Int) : Bool := decide (0 ≤ x) && decide (x ≤ 2)
theorem impl_in (x : Int) : impl_within.f x 0 2 = some (inB x) := by
  unfold impl_within.f inB
  by_cases h : x ≥ 0
  · simp [h]
  · simp [h]
theorem spec_in (x : Int) : spec_l01In.f x 0 2 = some (inB x) := by
  unfold spec_l01In.f inB
  by_cases h : x ≥ 0
  · simp [h]
  · simp [h]
def faultsB (p q r s : Int) : Bool := inB p && (inB q && (inB r && inB s))
theorem impl_faults (p q r s : Int) : impl_FaultsOk.f p q r s = some (faultsB p q r s) := by
  unfold impl_FaultsOk.f faultsB
  simp only [impl_in, Option.bind_some]
  cases inB p <;> cases inB q <;> cases inB r <;> rfl
theorem spec_faults (p q r s : Int) : spec_FaultsOk.f p q r s = some (faultsB p q r s) := by
  unfold spec_FaultsOk.f faultsB
  simp only [spec_in, Option.bind_some]
  cases inB p <;> cases inB q <;> cases inB r <;> rfl
def signsB (a b : Int) (l o f : Bool) (p q r s : Int) : Bool × Bool × Bool × Bool × Bool :=
  if (okD a b l o f && faultsB p q r s) = true then (sgB p (!o), sgB q (!o), sgB r f, sgB s f, true) else (false, false, false, false, false)
theorem impl_signs (k : Nat) (a b : Int) (l o f : Bool) (p q r s : Int) : impl_SignsOf.f (k + 1) a b l o f p q r s = some (signsB a b l o f p q r s) := by
  unfold impl_SignsOf.f signsB
  rw [impl_ok k, impl_faults]
  simp only [Option.bind_some]
  cases okD a b l o f with
  | false => simp [impl_SignsOf.j0]
  | true =>
    cases faultsB p q r s with
    | false => simp [impl_SignsOf.j0]
    | true => simp [impl_SignsOf.j0, impl_sg]
theorem spec_signs (k : Nat) (a b : Int) (l o f : Bool) (p q r s : Int) : spec_SignsOf.f (k + 1) a b l o f p q r s = some (signsB a b l o f p q r s) := by
  unfold spec_SignsOf.f signsB
  rw [spec_ok k, spec_faults]
  simp only [Option.bind_some]
  cases okD a b l o f with
  | false => simp [spec_SignsOf.j0]
  | true =>
    cases faultsB p q r s with
    | false => simp [spec_SignsOf.j0]
    | true => simp [spec_SignsOf.j0, spec_sg]
end Go.Proofs.Ytglpkjcblpjnoab.DlFnDoors
