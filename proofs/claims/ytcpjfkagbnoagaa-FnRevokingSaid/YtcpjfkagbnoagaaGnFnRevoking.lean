/- Which grants a right needs (plain). -/
import Derived.Test.YtcpjfkagbnoagaaGcFnRevoking
namespace Go.Proofs.Ytcpjfkagbnoagaa.GcFnRevoking
open Go.RowKit Go.Proofs.Ytcpjfkagbnoagaa.QFnRevoking Go.Proofs.Ytcpjfkagbnoagaa.GrFnRevoking Go.Proofs.YtcpjfkagbnoagaaW.PrintWords Go.Proofs.YtcpjfkagbnoagaaW.PrintLast
set_option linter.unusedVariables false
set_option linter.unusedSimpArgs false

/-- Grant i is called off. -/
def offG (y : S25) : S25 := ⟨y.f0, y.f1, y.f2, y.f3, y.f4, y.f5, true⟩
def offL (l : List S25) (i : Nat) : List S25 := match l[i]? with | some y => l.set i (offG y) | none => l
theorem offL_at {l : List S25} {i : Nat} (h : i < l.length) : offL l i = l.set i (offG l[i]) := by
  unfold offL
  rw [List.getElem?_eq_getElem h]
theorem offL_len (l : List S25) (i : Nat) : (offL l i).length = l.length := by
  unfold offL
  split <;> simp
theorem offL_off {l : List S25} {i : Nat} (h : i < l.length) (hf : l[i].f6 = true) : offL l i = l := by
  rw [offL_at h]
  have : offG l[i] = l[i] := by
    unfold offG
    rw [← hf]
  rw [this]
  exact List.set_getElem_self h
def needB (l : List S25) (o w p n : Int) : Nat → Nat → List Int → List Int
  | _, 0, out => out
  | i, d + 1, out => needB l o w p n (i + 1) d (if mayB (offL l i) o w p n = true then out else out ++ [(i : Int)])
def needed (l : List S25) (o w p n : Int) : List Int := if mayB l o w p n = true then needB l o w p n 0 l.length [] else []
theorem needB_len (l : List S25) (o w p n : Int) : ∀ (d i : Nat) (out : List Int), (needB l o w p n i d out).length ≤ out.length + d := by
  intro d
  induction d with
  | zero => intro i out; simp [needB]
  | succ d ih =>
    intro i out
    simp only [needB]
    refine Nat.le_trans (ih _ _) ?_
    split
    · omega
    · simp only [List.length_append, List.length_cons, List.length_nil]; omega
theorem needed_len (l : List S25) (o w p n : Int) : (needed l o w p n).length ≤ l.length := by
  unfold needed
  split
  · have := needB_len l o w p n l.length 0 []
    simpa using this
  · simp
theorem may_good {l : List S25} {o w p n : Int} (h : mayB l o w p n = true) : goodB l o w p n = true := by
  unfold mayB at h
  simp only [Bool.and_eq_true] at h
  exact h.1
theorem good_oks {l : List S25} {o w p n : Int} (h : goodB l o w p n = true) : okGs l = true := by
  unfold goodB at h
  simp only [Bool.and_eq_true] at h
  exact h.1
theorem impl_needed (l : List S25) (hl : l.length ≤ 1048576) (o w p n : Int) : ∀ k, 2 * l.length + 700 ≤ k → impl_NeededFor.f k l o w p n = some (needed l o w p n) := by
  intro k hk
  unfold impl_NeededFor.f needed
  rw [impl_may l hl o w p n k (by omega)]
  simp only [Option.bind_some]
  cases hM : mayB l o w p n with
  | false => simp
  | true =>
    have hlen := good_len (may_good hM)
    rw [if_pos rfl, if_pos rfl]
    have key : ∀ (d i : Nat), i + d = l.length → ∀ (out : List Int), out.length + d ≤ 100 → ∀ k, l.length + 600 + d < k → impl_NeededFor.l0 k l o w p n out (l.length : Int) (i : Int) = some (needB l o w p n i d out) := by
      intro d
      induction d with
      | zero =>
        intro i hi out _ k hk
        obtain ⟨m, rfl, _⟩ := succ_of hk
        simp only [impl_NeededFor.l0]
        rw [if_neg (by omega)]
        rfl
      | succ d ih =>
        intro i hi out ho k hk
        obtain ⟨m, rfl, hm⟩ := succ_of hk
        have hil : i < l.length := by omega
        have e1 : wrap64 ((i : Int) + 1) = ((i + 1 : Nat) : Int) := w64 (by omega) (by omega)
        simp only [impl_NeededFor.l0]
        rw [if_pos (by omega), show impl_Grant_68.f l = some l by unfold impl_Grant_68.f; rw [if_pos (by omega)]]
        simp only [Option.bind_some]
        rw [if_pos (by omega), if_pos (by omega), Int.toNat_natCast, rd_at hil]
        rw [show l.set i (⟨l[i].f0, l[i].f1, l[i].f2, l[i].f3, l[i].f4, l[i].f5, true⟩ : S25) = offL l i from (offL_at hil).symm, impl_may _ (by rw [offL_len]; exact hl) _ _ _ _ m (by rw [offL_len]; omega)]
        simp only [Option.bind_some, needB, e1]
        cases hO : mayB (offL l i) o w p n with
        | true => simp only [if_true]; exact ih (i + 1) (by omega) out (by omega) m (by omega)
        | false =>
          have h7 : out.length < 17592186044416 := by omega
          simp only [Bool.false_eq_true, if_false, if_pos h7]
          exact ih (i + 1) (by omega) _ (by simp only [List.length_append, List.length_cons, List.length_nil]; omega) m (by omega)
    exact key l.length 0 (by omega) [] (by simp; omega) k (by omega)
/-- What the reference's Revoke answers of a right list. -/
theorem spec_revoke (l : List S25) (hl : l.length ≤ 30) (hok : okGs l = true) (i : Nat) (hi : i < l.length) : ∀ k, l.length < k → spec_Revoke.f k l (i : Int) = some (if l[i].f6 = true then (l, false) else (offL l i, true)) := by
  intro k hk
  unfold spec_Revoke.f
  simp only [Option.bind_some, List.nil_append, List.length_nil]
  rw [if_pos (by omega), spec_oks l (by omega) k hk, hok]
  simp only [Option.bind_some, if_true]
  rw [sin, w64 (by omega) (by omega), decide_eq_true (by omega)]
  simp only [Option.bind_some, if_true]
  rw [if_pos (by omega), if_pos (by omega), rd_at hi]
  cases hf : l[i].f6 with
  | true => simp
  | false =>
    simp only [Bool.false_eq_true, if_false]
    rw [if_pos (by omega), Int.toNat_natCast, offL_at hi]
    rfl
theorem spec_needed (l : List S25) (hl : l.length ≤ 1048576) (o w p n : Int) : ∀ k, 2 * l.length + 700 ≤ k → spec_NeededFor.f k l o w p n = some (needed l o w p n) := by
  intro k hk
  unfold spec_NeededFor.f needed
  simp only [Option.bind_some]
  rw [spec_may l hl o w p n k (by omega)]
  simp only [Option.bind_some]
  cases hM : mayB l o w p n with
  | false => simp
  | true =>
    have hlen := good_len (may_good hM)
    have hok := good_oks (may_good hM)
    rw [if_pos rfl, if_pos rfl]
    have key : ∀ (d i : Nat), i + d = l.length → ∀ (out : List Int), out.length + d ≤ 100 → ∀ k, l.length + 600 + d < k → spec_NeededFor.l0 k l o w p n out (i : Int) = some (needB l o w p n i d out) := by
      intro d
      induction d with
      | zero =>
        intro i hi out _ k hk
        obtain ⟨m, rfl, _⟩ := succ_of hk
        simp only [spec_NeededFor.l0]
        rw [if_neg (by omega)]
        rfl
      | succ d ih =>
        intro i hi out ho k hk
        obtain ⟨m, rfl, hm⟩ := succ_of hk
        have hil : i < l.length := by omega
        have e1 : wrap64 ((i : Int) + 1) = ((i + 1 : Nat) : Int) := w64 (by omega) (by omega)
        simp only [spec_NeededFor.l0]
        rw [if_pos (by omega), spec_revoke l hlen hok i hil m (by omega)]
        simp only [Option.bind_some, needB, e1]
        cases hf : l[i].f6 with
        | true =>
          simp only [if_true, Bool.false_eq_true, if_false]
          rw [offL_off hil hf, hM]
          simp only [if_true]
          exact ih (i + 1) (by omega) out (by omega) m (by omega)
        | false =>
          simp only [Bool.false_eq_true, if_false, if_true]
          rw [spec_may _ (by rw [offL_len]; exact hl) _ _ _ _ m (by rw [offL_len]; omega)]
          simp only [Option.bind_some]
          cases hO : mayB (offL l i) o w p n with
          | true => simp only [if_true]; exact ih (i + 1) (by omega) out (by omega) m (by omega)
          | false =>
            have h7 : out.length < 17592186044416 := by omega
            simp only [Bool.false_eq_true, if_false, if_pos h7]
            exact ih (i + 1) (by omega) _ (by simp only [List.length_append, List.length_cons, List.length_nil]; omega) m (by omega)
    exact key l.length 0 (by omega) [] (by simp; omega) k (by omega)
end Go.Proofs.Ytcpjfkagbnoagaa.GcFnRevoking
