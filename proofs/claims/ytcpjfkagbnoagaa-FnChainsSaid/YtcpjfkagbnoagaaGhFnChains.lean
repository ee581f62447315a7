/- Who may take a parcel (plain). -/
import Derived.Test.YtcpjfkagbnoagaaGcFnChains
namespace Go.Proofs.Ytcpjfkagbnoagaa.GcFnChains
open Go.RowKit Go.Proofs.Ytcpjfkagbnoagaa.QFnChains Go.Proofs.Ytcpjfkagbnoagaa.GrFnChains Go.Proofs.YtcpjfkagbnoagaaW.PrintWords Go.Proofs.YtcpjfkagbnoagaaW.PrintLast
set_option linter.unusedVariables false
set_option linter.unusedSimpArgs false

/-- Who may take the parcel, from person 41 - d on. -/
def holdB (l : List S25) (o p n : Int) : Nat → List Int → List Int
  | 0, out => out
  | d + 1, out => holdB l o p n d (if mayB l o (40 - (d : Int)) p n = true then out ++ [40 - (d : Int)] else out)
theorem holdB_len (l : List S25) (o p n : Int) : ∀ (d : Nat) (out : List Int), (holdB l o p n d out).length ≤ out.length + d := by
  intro d
  induction d with
  | zero => intro out; simp [holdB]
  | succ d ih =>
    intro out
    simp only [holdB]
    refine Nat.le_trans (ih _) ?_
    split
    · simp only [List.length_append, List.length_cons, List.length_nil]; omega
    · omega
def holders (l : List S25) (o p n : Int) : List Int := holdB l o p n 40 []
theorem holders_len (l : List S25) (o p n : Int) : (holders l o p n).length ≤ 40 := by
  have := holdB_len l o p n 40 []
  simpa [holders] using this
end Go.Proofs.Ytcpjfkagbnoagaa.GcFnChains
