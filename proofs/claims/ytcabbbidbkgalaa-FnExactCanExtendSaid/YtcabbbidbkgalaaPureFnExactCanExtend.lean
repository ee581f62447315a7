/- The program's CanExtend returns what the reference's returns, for all weeks, terms and numbers. No condition. -/
import Derived.Test.YtcabbbidbkgalaaStmFnExactCanExtend
import Derived.Test.YtcabbbidbkgalaaWtFnExactCanExtend
import Derived.Test.YtcabbbidbkgalaaWaFnExactCanExtend
import Derived.Test.YtcabbbidbkgalaaWcFnExactCanExtend
namespace Go.Proofs.Ytcabbbidbkgalaa.Pure
open Go.RowKit Go.Proofs.Ytcabbbidbkgalaa.PFnExactCanExtend Go.Proofs.Ytcabbbidbkgalaa.WkFnExactCanExtend Go.Proofs.YtcabbbidbkgalaaW.PrintWords Go.Proofs.YtcabbbidbkgalaaW.PrintLast
set_option linter.unusedVariables false
set_option linter.unusedSimpArgs false

theorem FnExactCanExtend : Stm.FnExactCanExtend := by
  intro l0 l1 a0 a1 a2 a3 a4 a5 a6 a7 t n x hl0 _ hl1 _ _ _ _ _ _ _ _ _ _ _ _
  obtain ⟨s, hs, hc⟩ := szW l0 l1 (by omega) (by omega)
  refine ⟨1100001, ?_⟩
  unfold laws_FnExactCanExtend.f
  rw [hs]
  simp only [Option.bind_some]
  by_cases hn : s < 0
  · rw [if_pos hn]
  · rw [if_neg hn]
    obtain ⟨c0, c1⟩ : l0.length ≤ 1048576 ∧ l1.length ≤ 1048576 := hc.resolve_left hn
    obtain ⟨b, p, W⟩ := wk_ex (l0.map conv) (l1.map conv)
    have w1 := toW l0 l1 c0 c1 1100001 (by omega) (by omega)
    have w2 := eqW (l0.map conv) (l1.map conv) (by simpa using c0) (by simpa using c1)
    have w3 := toW l0 l1 c0 c1 1100000 (by omega) (by omega)
    rw [w1]
    simp only [Option.bind_some, laws_toTerms.f]
    obtain ⟨T, hT, hd⟩ := can_ok W a0 a1 a2 a3 a4 a5 a6 a7
    obtain ⟨f1, f2⟩ := hd t n x 1100001 (by omega)
    rw [f1]
    simp only [Option.bind_some]
    rw [f2]
    simp only [Option.bind_some]
    simp only [if_true, bne_self_eq_false, Bool.false_eq_true, if_false]
    rw [w2 1100001 (by simp; omega) (by simp; omega)]
    rfl

end Go.Proofs.Ytcabbbidbkgalaa.Pure
