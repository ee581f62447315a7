/- Who may take a parcel (plain). -/
import Derived.Test.YtcpjfkagbnoagaaGcFnEnds
namespace Go.Proofs.Ytcpjfkagbnoagaa.GcFnEnds
open Go.RowKit Go.Proofs.Ytcpjfkagbnoagaa.QFnEnds Go.Proofs.Ytcpjfkagbnoagaa.GrFnEnds Go.Proofs.YtcpjfkagbnoagaaW.PrintWords Go.Proofs.YtcpjfkagbnoagaaW.PrintLast
set_option linter.unusedVariables false
set_option linter.unusedSimpArgs false

/-- Who may take the parcel, from person 41 - d on. -/
def holdB (l : List S25) (o p n : Int) : Nat → List Int → List Int
  | 0, out => out
  | d + 1, out => holdB l o p n d (if mayB l o (40 - (d : Int)) p n = true then out ++ [40 - (d : Int)] else out)
theorem holdB_len (l : List S25) (o p n : Int) : ∀ (d : Nat) (out : List Int), (holdB l o p n d out).length ≤ out.length + d := by
  intro d
  induction d with
  | zero => intro out; simp [holdB]
  | succ d ih =>
    intro out
    simp only [holdB]
    refine Nat.le_trans (ih _) ?_
    split
    · simp only [List.length_append, List.length_cons, List.length_nil]; omega
    · omega
theorem hold_same (l : List S25) (hl : l.length ≤ 1048576) (o p n : Int) : ∀ (d : Nat), d ≤ 40 → ∀ (out : List Int), out.length + d ≤ 100 → ∀ k, l.length + 500 + d < k →
    spec_HoldersOf.l0 k l o p n out (41 - (d : Int)) = some (holdB l o p n d out) ∧ impl_HoldersOf.l0 k l o p n out (41 - (d : Int)) = some (holdB l o p n d out) := by
  intro d
  induction d with
  | zero =>
    intro _ out _ k hk
    obtain ⟨m, rfl, _⟩ := succ_of hk
    simp only [spec_HoldersOf.l0, impl_HoldersOf.l0]
    rw [if_neg (by omega)]
    exact ⟨rfl, rfl⟩
  | succ d ih =>
    intro hd out ho k hk
    obtain ⟨m, rfl, hm⟩ := succ_of hk
    have e1 : (41 : Int) - ((d + 1 : Nat) : Int) = 40 - (d : Int) := by omega
    have e2 : wrap64 ((40 : Int) - (d : Int) + 1) = 41 - (d : Int) := by rw [w64 (by omega) (by omega)]; omega
    rw [e1]
    simp only [spec_HoldersOf.l0, impl_HoldersOf.l0]
    have h40 : (40 : Int) - (d : Int) ≤ 40 := by omega
    simp only [if_pos h40]
    rw [spec_may l hl _ _ _ _ m (by omega), impl_may l hl _ _ _ _ m (by omega)]
    simp only [Option.bind_some, holdB]
    cases hM : mayB l o (40 - (d : Int)) p n with
    | false =>
      simp only [Bool.false_eq_true, if_false, e2]
      exact ih (by omega) out (by omega) m (by omega)
    | true =>
      have h7 : out.length < 17592186044416 := by omega
      simp only [if_true, if_pos h7, e2]
      exact ih (by omega) _ (by simp only [List.length_append, List.length_cons, List.length_nil]; omega) m (by omega)
def holders (l : List S25) (o p n : Int) : List Int := holdB l o p n 40 []
theorem holders_len (l : List S25) (o p n : Int) : (holders l o p n).length ≤ 40 := by
  have := holdB_len l o p n 40 []
  simpa [holders] using this
theorem spec_holders (l : List S25) (hl : l.length ≤ 1048576) (o p n : Int) : ∀ k, l.length + 600 ≤ k → spec_HoldersOf.f k l o p n = some (holders l o p n) := by
  intro k hk
  unfold spec_HoldersOf.f
  exact (hold_same l hl o p n 40 (by omega) [] (by simp) k (by omega)).1
theorem impl_holders (l : List S25) (hl : l.length ≤ 1048576) (o p n : Int) : ∀ k, l.length + 600 ≤ k → impl_HoldersOf.f k l o p n = some (holders l o p n) := by
  intro k hk
  unfold impl_HoldersOf.f
  exact (hold_same l hl o p n 40 (by omega) [] (by simp) k (by omega)).2
end Go.Proofs.Ytcpjfkagbnoagaa.GcFnEnds
