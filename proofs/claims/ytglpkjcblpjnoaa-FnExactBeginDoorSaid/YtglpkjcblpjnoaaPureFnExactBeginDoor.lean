/- The program's BeginDoor returns what the reference's returns, for all doors and kinds. No condition. -/
import Derived.Test.YtglpkjcblpjnoaaStmFnExactBeginDoor
import Derived.Test.YtglpkjcblpjnoaaDlFnExactBeginDoor
namespace Go.Proofs.Ytglpkjcblpjnoaa.Pure
open Go.RowKit Go.Proofs.Ytglpkjcblpjnoaa.QFnExactBeginDoor Go.Proofs.Ytglpkjcblpjnoaa.DlFnExactBeginDoor Go.Proofs.YtglpkjcblpjnoaaW.PrintWords Go.Proofs.YtglpkjcblpjnoaaW.PrintLast

theorem FnExactBeginDoor : Stm.FnExactBeginDoor := by
  intro a b l o f c _ _ _
  refine ⟨1, ?_⟩
  unfold laws_FnExactBeginDoor.f laws_toDoor.f spec_BeginDoor.f impl_BeginDoor.f
  simp only [Option.bind_some, spec_ok 0, impl_ok 0]
  cases h : okD a b l o f with
  | false => simp [laws_eqDoor.f]
  | true =>
    by_cases h0 : a = 0
    · by_cases h1 : c = 1
      · subst h1
        cases f <;> simp [laws_eqDoor.f, h0]
      · by_cases h2 : c = 2
        · subst h2
          cases f <;> simp [laws_eqDoor.f, h0]
        · simp [laws_eqDoor.f, h0, h1, h2]
    · simp [laws_eqDoor.f, h0]

end Go.Proofs.Ytglpkjcblpjnoaa.Pure
