/- The program's DoActs returns what the reference's returns, for all doors and lists of acts, writes nothing of its arguments, and its answer shares no memory with a later one. No condition. -/
import Derived.Test.YtglpkjcblpjnoabStmFnExactDoActs
import Derived.Test.YtglpkjcblpjnoabDmFnExactDoActs
namespace Go.Proofs.Ytglpkjcblpjnoab.Pure
open Go.RowKit Go.Proofs.Ytglpkjcblpjnoab.QFnExactDoActs Go.Proofs.Ytglpkjcblpjnoab.DlFnExactDoActs Go.Proofs.YtglpkjcblpjnoabW.PrintWords Go.Proofs.YtglpkjcblpjnoabW.PrintLast

theorem FnExactDoActs : Stm.FnExactDoActs := by
  intro a b l o f x hx
  intros
  by_cases hl : (x.length : Int) > 1048576
  · refine ⟨1, ?_⟩
    unfold laws_FnExactDoActs.f
    rw [if_pos hl]
  · have hl' : x.length ≤ 1048576 := by omega
    obtain ⟨⟨A, B, L, O, F, y⟩, hy, hR⟩ := acts_same x hl' a b l o f
    have hy' : y.length ≤ x.length := hy
    obtain ⟨m1, hm1, hm2, hm3⟩ := markI x hl'
    obtain ⟨n1, hn1, hn2, hn3⟩ := markI y (by omega)
    refine ⟨(x.length + x.length + 21) + 3, ?_⟩
    generalize hK : x.length + x.length + 21 = K
    have c1 : ¬ (x.length : Int) + 1 < 0 := by omega
    have c2 : ¬ (y.length : Int) + 1 < 0 := by omega
    unfold laws_FnExactDoActs.f laws_toDoor.f
    rw [if_neg hl]
    simp only [Option.bind_some]
    rw [toI x hl' _ (by omega)]
    simp only [Option.bind_some]
    rw [(hR (K + 3) (by omega)).1, (hR (K + 3) (by omega)).2]
    simp only [Option.bind_some, eqD, if_true]
    rw [eqI y (by omega) _ (by omega)]
    simp only [Option.bind_some, Bool.not_true, laws_FnExactDoActs.j0, Bool.false_eq_true, if_false]
    rw [toI x hl' _ (by omega)]
    simp only [Option.bind_some]
    rw [eqI x hl' _ (by omega)]
    simp only [Option.bind_some, if_true]
    rw [hm3 _ (by omega)]
    simp only [Option.bind_some, eqD, if_true]
    rw [if_neg c1, eqI y (by omega) _ (by omega)]
    simp only [Option.bind_some, Bool.not_true, laws_FnExactDoActs.j1, Bool.false_eq_true, if_false]
    rw [hn3 _ (by omega)]
    simp only [Option.bind_some]
    rw [heldI n1 (by omega) hn2 _ (by omega), hn1]
    simp only [Option.bind_some, if_true]
    rw [if_neg c2]
    unfold laws_toDoor.f
    simp only [Option.bind_some]
    rw [toI x hl' _ (by omega)]
    simp only [Option.bind_some]
    rw [(hR (K + 1) (by omega)).2]
    simp only [Option.bind_some, eqD, if_true]
    rw [eqI y (by omega) _ (by omega)]
    simp only [Option.bind_some, Bool.not_true, laws_FnExactDoActs.j2, Bool.false_eq_true, if_false]
    rw [heldI n1 (by omega) hn2 _ (by omega), hn1]
    simp only [Option.bind_some, if_true]
    rw [if_neg c2]

end Go.Proofs.Ytglpkjcblpjnoab.Pure
