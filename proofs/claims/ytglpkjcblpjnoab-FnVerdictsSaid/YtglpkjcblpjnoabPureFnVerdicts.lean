/- After a power cut what the signs tell is the truth or a question, if at most one of them has a fault: for every code (plain). The right doors are few: the kernel runs the law through all of them. -/
import Derived.Test.YtglpkjcblpjnoabVdFnVerdicts
import Derived.Test.YtglpkjcblpjnoabQFnVerdictsx11
namespace Go.Proofs.Ytglpkjcblpjnoab.Pure
open Go.RowKit Go.Proofs.Ytglpkjcblpjnoab.QFnVerdicts Go.Proofs.Ytglpkjcblpjnoab.VdFnVerdicts Go.Proofs.YtglpkjcblpjnoabW.PrintWords Go.Proofs.YtglpkjcblpjnoabW.PrintLast

/-- The law at a drawn door. -/
def rest (k : Nat) (bt349 : Dr) : Option Bool := ((spec_CutPower.f k bt349.1 bt349.2.1 bt349.2.2.1 bt349.2.2.2.1 bt349.2.2.2.2).bind fun bt354 => ((impl_Recover.f k bt354.1 bt354.2.1 bt354.2.2.1 bt354.2.2.2.1 bt354.2.2.2.2 0 0 0 0).bind fun bt360 => ((impl_TruthOf.f k bt354.1 bt354.2.1 bt354.2.2.1 bt354.2.2.2.1 bt354.2.2.2.2).bind fun t368 => ((spec_TruthOf.f k bt354.1 bt354.2.1 bt354.2.2.1 bt354.2.2.2.1 bt354.2.2.2.2).bind fun t369 => (if t368 = t369 then (laws_FnVerdicts.j0 k bt360.2.2.2.2.2.1 bt360.2.2.2.2.2.2 t368 (bt360.2.2.2.2.2.2 != (bt354.1 != 0)) bt354.1 bt354.2.1 bt354.2.2.1 bt354.2.2.2.1 bt354.2.2.2.2 bt360.1 bt360.2.1 bt360.2.2.1 bt360.2.2.2.1 bt360.2.2.2.2.1) else (laws_FnVerdicts.j0 k bt360.2.2.2.2.2.1 bt360.2.2.2.2.2.2 t368 true bt354.1 bt354.2.1 bt354.2.2.1 bt354.2.2.2.1 bt354.2.2.2.2 bt360.1 bt360.2.1 bt360.2.2.1 bt360.2.2.2.1 bt360.2.2.2.2.1))))))
theorem rest_chk : (good.all fun d => rest 5000 d == some true) = true := by kernel_rfl
theorem FnVerdicts : laws_FnVerdicts.Pure := by
  intro x hx
  intros
  by_cases hl : (x.length : Int) > 1048576
  · refine ⟨1, ?_⟩
    unfold laws_FnVerdicts.f laws_big.f
    rw [decide_eq_true hl]
    rfl
  · have hx' : x.length ≤ 1048576 := by omega
    obtain ⟨d, hd, hD⟩ := door_ex x hx'
    refine ⟨5000, ?_⟩
    unfold laws_FnVerdicts.f laws_big.f
    rw [decide_eq_false hl]
    simp only [Option.bind_some, Bool.false_eq_true, if_false]
    rw [hD _ (by omega)]
    simp only [Option.bind_some]
    have h := List.all_eq_true.1 rest_chk d hd
    have h2 : rest 5000 d = some true := by simpa using h
    exact h2

end Go.Proofs.Ytglpkjcblpjnoab.Pure
