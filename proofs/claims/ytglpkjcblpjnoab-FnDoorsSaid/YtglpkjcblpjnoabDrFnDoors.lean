/- Doors: what both packages do when power comes back, as one plain function. -/
import Derived.Test.YtglpkjcblpjnoabDsFnDoors
namespace Go.Proofs.Ytglpkjcblpjnoab.DlFnDoors
open Go.RowKit Go.Proofs.Ytglpkjcblpjnoab.QFnDoors Go.Proofs.YtglpkjcblpjnoabW.PrintWords Go.Proofs.YtglpkjcblpjnoabW.PrintLast
set_option linter.unusedVariables false
set_option linter.unusedSimpArgs false

def cutDoor (a b : Int) (l o f : Bool) : Bool := okD a b l o f && (decide (a ≠ 0) && decide (b = 0))
theorem spec_dark (k : Nat) (a b : Int) (l o f : Bool) : spec_l04Dark.f (k + 1) a b l o f = some (cutDoor a b l o f) := by
  unfold spec_l04Dark.f cutDoor
  rw [spec_ok k]
  by_cases h : a = 0
  · cases okD a b l o f <;> simp [h]
  · by_cases h2 : b = 0
    · cases okD a b l o f <;> simp [h, h2]
    · cases okD a b l o f <;> simp [h, h2]
theorem impl_cut (k : Nat) (a b : Int) (l o f : Bool) : impl_isCut.f (k + 1) a b l o f = some (cutDoor a b l o f) := by
  unfold impl_isCut.f cutDoor
  rw [impl_ok k]
  by_cases h : a = 0
  · cases okD a b l o f <;> simp [h]
  · by_cases h2 : b = 0
    · cases okD a b l o f <;> simp [h, h2]
    · cases okD a b l o f <;> simp [h, h2]
def oneB (x : Int) : Int := if x = 0 then 0 else 1
def countB (p q r s : Int) : Int := oneB p + oneB q + oneB r + oneB s
theorem oneB_range (x : Int) : 0 ≤ oneB x ∧ oneB x ≤ 1 := by
  unfold oneB
  split <;> omega
theorem spec_count (p q r s : Int) : spec_CountFaults.f p q r s = some (countB p q r s) := by
  unfold spec_CountFaults.f spec_l04One.f countB oneB
  by_cases h1 : p = 0 <;> by_cases h2 : q = 0 <;> by_cases h3 : r = 0 <;> by_cases h4 : s = 0 <;> simp [h1, h2, h3, h4, wrap64]
theorem impl_count (k : Nat) (p q r s : Int) : impl_CountFaults.f (k + 5) p q r s = some (countB p q r s) := by
  unfold impl_CountFaults.f countB oneB
  by_cases h1 : p = 0 <;> by_cases h2 : q = 0 <;> by_cases h3 : r = 0 <;> by_cases h4 : s = 0 <;> simp [impl_CountFaults.l0, rd, h1, h2, h3, h4, wrap64]
def verdB (a : Int) (s h c e : Bool) : Int := if a = 1 ∨ a = 2 then (if s ≠ h then 1 else if s = false then 2 else if c ≠ e then 1 else if c = decide (a = 1) then 3 else 4) else 0
theorem spec_verd (k : Nat) (a : Int) (s h c e : Bool) : spec_Verdict.f (k + 1) a s h c e = some (verdB a s h c e) := by
  unfold spec_Verdict.f verdB
  by_cases h1 : a = 1
  · subst h1
    cases s <;> cases h <;> cases c <;> cases e <;> simp [spec_Verdict.j0]
  · by_cases h2 : a = 2
    · subst h2
      cases s <;> cases h <;> cases c <;> cases e <;> simp [spec_Verdict.j0]
    · simp [spec_Verdict.j0, h1, h2]
theorem impl_verd (k : Nat) (a : Int) (s h c e : Bool) : impl_Verdict.f (k + 1) a s h c e = some (verdB a s h c e) := by
  unfold impl_Verdict.f verdB
  by_cases h1 : a = 1
  · subst h1
    cases s <;> cases h <;> cases c <;> cases e <;> simp [impl_Verdict.j0]
  · by_cases h2 : a = 2
    · subst h2
      cases s <;> cases h <;> cases c <;> cases e <;> simp [impl_Verdict.j0]
    · simp [impl_Verdict.j0, h1, h2]
def recB (a b : Int) (l o f : Bool) (p q r s : Int) : Int × Int × Bool × Bool × Bool × Int × Bool :=
  if (faultsB p q r s && cutDoor a b l o f) = true ∧ countB p q r s ≤ 1 then
    (if verdB a (sgB p (!o)) (sgB q (!o)) (sgB r f) (sgB s f) = 3 ∨ verdB a (sgB p (!o)) (sgB q (!o)) (sgB r f) (sgB s f) = 4 then (0, b, false, o, f, verdB a (sgB p (!o)) (sgB q (!o)) (sgB r f) (sgB s f), true)
     else (a, b, l, o, f, verdB a (sgB p (!o)) (sgB q (!o)) (sgB r f) (sgB s f), true))
  else (a, b, l, o, f, 0, false)
theorem cut_ok {a b : Int} {l o f : Bool} (h : cutDoor a b l o f = true) : okD a b l o f = true := by
  unfold cutDoor at h
  cases hk : okD a b l o f
  · rw [hk] at h
    cases h
  · rfl
theorem spec_rec (k : Nat) (a b : Int) (l o f : Bool) (p q r s : Int) : spec_Recover.f (k + 2) a b l o f p q r s = some (recB a b l o f p q r s) := by
  unfold spec_Recover.f recB
  rw [spec_signs (k + 1), spec_dark (k + 1), spec_count]
  simp only [Option.bind_some]
  cases hf : faultsB p q r s with
  | false => simp [signsB, hf, spec_Recover.j0]
  | true =>
    cases hc : cutDoor a b l o f with
    | false =>
      cases hk : okD a b l o f <;> simp [signsB, hf, hk, spec_Recover.j0]
    | true =>
      have hk := cut_ok hc
      by_cases h1 : countB p q r s ≤ 1
      · have h2 : ¬ countB p q r s > 1 := by omega
        simp only [signsB, hf, hk, h1, h2, Bool.and_self, if_true, true_and, and_self, decide_false, spec_Recover.j0, Bool.false_eq_true, if_false, spec_verd k, Option.bind_some]
        generalize verdB a (sgB p (!o)) (sgB q (!o)) (sgB r f) (sgB s f) = v
        by_cases h3 : v = 3
        · simp [h3]
        · by_cases h4 : v = 4
          · simp [h4]
          · simp [h3, h4]
      · have h2 : countB p q r s > 1 := by omega
        simp [signsB, hf, hk, h1, h2, spec_Recover.j0]
theorem impl_rec (k : Nat) (a b : Int) (l o f : Bool) (p q r s : Int) : impl_Recover.f (k + 6) a b l o f p q r s = some (recB a b l o f p q r s) := by
  unfold impl_Recover.f recB
  rw [impl_signs (k + 5), impl_cut (k + 5), impl_count (k + 1)]
  simp only [Option.bind_some]
  cases hf : faultsB p q r s with
  | false => simp [signsB, hf, impl_Recover.j0]
  | true =>
    cases hc : cutDoor a b l o f with
    | false =>
      cases hk : okD a b l o f <;> simp [signsB, hf, hk, impl_Recover.j0]
    | true =>
      have hk := cut_ok hc
      by_cases h1 : countB p q r s ≤ 1
      · have h2 : ¬ countB p q r s > 1 := by omega
        simp only [signsB, hf, hk, h1, h2, Bool.and_self, if_true, true_and, and_self, decide_false, impl_Recover.j0, Bool.false_eq_true, if_false, impl_verd (k + 4), Option.bind_some]
        generalize verdB a (sgB p (!o)) (sgB q (!o)) (sgB r f) (sgB s f) = v
        by_cases h3 : v = 3
        · simp [h3]
        · by_cases h4 : v = 4
          · simp [h4]
          · simp [h3, h4]
      · have h2 : countB p q r s > 1 := by omega
        simp [signsB, hf, hk, h1, h2, impl_Recover.j0]
end Go.Proofs.Ytglpkjcblpjnoab.DlFnDoors
