/- Grants: small facts for laws that reach no chain (plain). -/
import Derived.Test.YtcpjfkagbnoagaaGrFnExactRevoke
import Derived.Test.YtcpjfkagbnoagaaQFnExactRevokex0
import Derived.Test.YtcpjfkagbnoagaaQFnExactRevokex1
import Derived.Test.YtcpjfkagbnoagaaQFnExactRevokex2
import Derived.Test.YtcpjfkagbnoagaaQFnExactRevokex3
import Derived.Test.YtcpjfkagbnoagaaQFnExactRevokex4
namespace Go.Proofs.Ytcpjfkagbnoagaa.GcFnExactRevoke
open Go.RowKit Go.Proofs.Ytcpjfkagbnoagaa.QFnExactRevoke Go.Proofs.Ytcpjfkagbnoagaa.GrFnExactRevoke Go.Proofs.YtcpjfkagbnoagaaW.PrintWords Go.Proofs.YtcpjfkagbnoagaaW.PrintLast
set_option linter.unusedVariables false
set_option linter.unusedSimpArgs false

theorem rd_at {l : List S25} {i : Nat} (h : i < l.length) : rd_T25 l (i : Int) = l[i] := by
  unfold rd_T25
  simp [List.getD_eq_getElem?_getD, h]

theorem win (x a b : Int) : impl_within.f x a b = some (decide (a ≤ x ∧ x ≤ b)) := by
  unfold impl_within.f
  by_cases h : x ≥ a
  · rw [if_pos h]; simp [h]
  · rw [if_neg h, decide_eq_false (fun h2 => h (by omega))]
theorem sin (x a b : Int) : spec_l01In.f x a b = some (decide (a ≤ x ∧ x ≤ b)) := by
  obtain ⟨r, h1, h2⟩ := in_same x a b
  rw [h1, ← h2, win]

end Go.Proofs.Ytcpjfkagbnoagaa.GcFnExactRevoke
