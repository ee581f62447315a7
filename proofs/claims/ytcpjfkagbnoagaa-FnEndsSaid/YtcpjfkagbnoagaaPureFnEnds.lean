/- A right lasts until it ends, and all who have it are those for whom it is asked: for every code (plain). -/
import Derived.Test.YtcpjfkagbnoagaaGeFnEnds
import Derived.Test.YtcpjfkagbnoagaaGxFnEnds
import Derived.Test.YtcpjfkagbnoagaaDgFnEnds
namespace Go.Proofs.Ytcpjfkagbnoagaa.Pure
open Go.RowKit Go.Proofs.Ytcpjfkagbnoagaa.QFnEnds Go.Proofs.Ytcpjfkagbnoagaa.GrFnEnds Go.Proofs.Ytcpjfkagbnoagaa.GcFnEnds Go.Proofs.YtcpjfkagbnoagaaW.PrintWords Go.Proofs.YtcpjfkagbnoagaaW.PrintLast

theorem ends_same (l : List S25) (hl : l.length ≤ 1048576) (o w p now : Int) : ∃ T K, ((mayB l o w p now = false ∧ T = -1) ∨ (mayB l o w p now = true ∧ isEnd l o w p now T)) ∧ ∀ k, K ≤ k → spec_EndOf.f k l o w p now = some T ∧ impl_EndOf.f k l o w p now = some T := by
  cases h0 : mayB l o w p now with
  | false => exact ⟨-1, l.length + 500, .inl ⟨rfl, rfl⟩, fun k hk => ends_no l hl o w p now h0 k hk⟩
  | true =>
    obtain ⟨T, hT, K, hK⟩ := spec_end l hl o w p now h0
    exact ⟨T, K + 2 * l.length + 600, .inr ⟨rfl, hT⟩, fun k hk => ⟨hK k (by omega), impl_end l hl o w p now T h0 hT k (by omega)⟩⟩
/-- While the right lasts. -/
theorem lasts (l : List S25) (hl : l.length ≤ 31) (o w p now T : Int) (h0 : mayB l o w p now = true) (hT : isEnd l o w p now T) (M : Int) (hM : M = if T ≤ now + 60 then T else now + 60) :
    ∀ (d : Nat), now ≤ M - d → ∀ k, 2000 + 2 * d < k → laws_FnEnds.l1 k l o w p now T (holders l o p now) (M - d) = some true := by
  have ht := may_time h0
  obtain ⟨t1, t2, t3, t4⟩ := hT
  have hM1 : M ≤ T ∧ M ≤ now + 60 ∧ (M = T ∨ M = now + 60) := by
    rw [hM]
    by_cases h : T ≤ now + 60
    · rw [if_pos h]; omega
    · rw [if_neg h]; omega
  have hlen := holders_len l o p now
  intro d
  induction d with
  | zero =>
    intro hd k hk
    obtain ⟨m, rfl, hm⟩ := succ_of hk
    obtain ⟨m, rfl, hm⟩ := succ_of (show 1999 < m by omega)
    have e : wrap64 (now + 60) = now + 60 := w64 (by omega) (by omega)
    have hf : laws_FnEnds.j3 (m + 1) l o w p now T (holders l o p now) (M - ((0 : Nat) : Int)) false = some true := by
      simp only [laws_FnEnds.j3, Bool.false_eq_true, if_false]
      rw [if_pos (by omega), hasI _ (by omega) _ _ (by omega), decide_eq_true ((holders_mem l o p now w).2 ⟨may_who h0, h0⟩)]
      simp only [Option.bind_some, if_true]
      rw [impl_may l (by omega) _ _ _ _ _ (by omega), t3]
      rfl
    rw [laws_FnEnds.l1, e]
    by_cases c : M - ((0 : Nat) : Int) < T
    · rw [if_pos c, decide_eq_false (by omega)]; exact hf
    · rw [if_neg c]; exact hf
  | succ d ih =>
    intro hd k hk
    obtain ⟨m, rfl, hm⟩ := succ_of hk
    obtain ⟨m, rfl, hm⟩ := succ_of (show 1999 + 2 * d < m by omega)
    have e : wrap64 (now + 60) = now + 60 := w64 (by omega) (by omega)
    have e1 : wrap64 (M - ((d + 1 : Nat) : Int) + 1) = M - (d : Int) := by rw [w64 (by omega) (by omega)]; omega
    rw [laws_FnEnds.l1, e, if_pos (by omega), decide_eq_true (by omega)]
    simp only [laws_FnEnds.j3, if_true]
    rw [impl_may l (by omega) _ _ _ _ _ (by omega), t4 _ (by omega) (by omega), e1]
    simp only [Option.bind_some, if_true]
    exact ih (by omega) m (by omega)
/-- Those who hold it. -/
theorem theirs (l : List S25) (hl : l.length ≤ 31) (o w p now T : Int) (hT : (mayB l o w p now = false ∧ T = -1) ∨ (mayB l o w p now = true ∧ isEnd l o w p now T)) :
    ∀ (d i : Nat), i + d = (holders l o p now).length → ∀ k, 4000 + d < k → laws_FnEnds.l0 k l o w p now T (holders l o p now) (i : Int) = some true := by
  have hlen := holders_len l o p now
  intro d
  induction d with
  | zero =>
    intro i hi k hk
    obtain ⟨m, rfl, hm⟩ := succ_of hk
    simp only [laws_FnEnds.l0]
    rw [if_neg (by omega)]
    rcases hT with ⟨h0, rfl⟩ | ⟨h0, hT⟩
    · rw [if_pos (by omega), impl_may l (by omega) _ _ _ _ _ (by omega), h0]
      simp only [Option.bind_some, Bool.false_eq_true, if_false]
      rw [hasI _ (by omega) _ _ (by omega), decide_eq_false (fun h => by
        have := ((holders_mem l o p now w).1 h).2
        rw [h0] at this; cases this)]
      rfl
    · have ht := may_time h0
      have hT' := hT
      obtain ⟨t1, t2, t3, t4⟩ := hT
      rw [if_neg (by omega)]
      obtain ⟨d, hd⟩ : ∃ d : Nat, (if T ≤ now + 60 then T else now + 60) - (d : Int) = now ∧ d ≤ 60 := by
        by_cases h : T ≤ now + 60
        · rw [if_pos h]; exact ⟨(T - now).toNat, by omega, by omega⟩
        · rw [if_neg h]; exact ⟨60, by omega, by omega⟩
      have := lasts l hl o w p now T h0 hT' _ rfl d (by omega) m (by omega)
      rw [hd.1] at this
      exact this
  | succ d ih =>
    intro i hi k hk
    obtain ⟨m, rfl, hm⟩ := succ_of hk
    have hil : i < (holders l o p now).length := by omega
    have e1 : wrap64 ((i : Int) + 1) = ((i + 1 : Nat) : Int) := w64 (by omega) (by omega)
    simp only [laws_FnEnds.l0]
    rw [if_pos (by omega), if_pos (by omega), rdI2 _ i hil, e1, impl_may l (by omega) _ _ _ _ _ (by omega), ((holders_mem l o p now _).1 (List.getElem_mem hil)).2]
    simp only [Option.bind_some, if_true]
    have hn := ih (i + 1) (by omega) m (by omega)
    by_cases c : (i : Int) > 0
    · have e2 : wrap64 ((i : Int) - 1) = ((i - 1 : Nat) : Int) := by rw [w64 (by omega) (by omega)]; omega
      have hup := (List.pairwise_iff_getElem.1 (holders_up l o p now)) (i - 1) i (by omega) hil (by omega)
      rw [if_pos c, e2, if_pos (by omega), if_pos (by omega), rdI2 _ (i - 1) (by omega), if_neg (by omega)]
      exact hn
    · rw [if_neg c]
      exact hn
theorem FnEnds : laws_FnEnds.Pure := by
  intro x hx
  intros
  by_cases hl : (x.length : Int) > 1048576
  · refine ⟨1, ?_⟩
    unfold laws_FnEnds.f laws_big.f
    rw [decide_eq_true hl]
    rfl
  · have hx' : x.length ≤ 1048576 := by omega
    obtain ⟨l, o, w, p, now, hl31, hn, hd⟩ := DwFnEnds.four_ex x hx'
    obtain ⟨T, K, hT, hK⟩ := ends_same l (by omega) o w p now
    have hlen := holders_len l o p now
    refine ⟨K + 10000 + 1, ?_⟩
    unfold laws_FnEnds.f laws_big.f
    rw [decide_eq_false hl]
    simp only [Option.bind_some, Bool.false_eq_true, if_false]
    unfold spec_DrawEndOf.f
    rw [hd _ (by omega)]
    simp only [Option.bind_some]
    rw [(hK _ (by omega)).1, (hK _ (by omega)).2]
    simp only [Option.bind_some, if_true]
    rw [spec_holders _ (by omega) _ _ _ _ (by omega), impl_holders _ (by omega) _ _ _ _ (by omega)]
    simp only [Option.bind_some]
    rw [sameI _ (by omega) _ (by omega)]
    simp only [Option.bind_some, Bool.not_true, laws_FnEnds.j0, Bool.false_eq_true, if_false]
    exact theirs l hl31 o w p now T hT (holders l o p now).length 0 (by omega) _ (by omega)

end Go.Proofs.Ytcpjfkagbnoagaa.Pure
