/- Lists of ints: the law's helpers, and what is known of the holders (plain). -/
import Derived.Test.YtcpjfkagbnoagaaGhFnChains
namespace Go.Proofs.Ytcpjfkagbnoagaa.GcFnChains
open Go.RowKit Go.Proofs.Ytcpjfkagbnoagaa.QFnChains Go.Proofs.Ytcpjfkagbnoagaa.GrFnChains Go.Proofs.YtcpjfkagbnoagaaW.PrintWords Go.Proofs.YtcpjfkagbnoagaaW.PrintLast
set_option linter.unusedVariables false
set_option linter.unusedSimpArgs false

theorem rdI2 (l : List Int) (i : Nat) (h : i < l.length) : rd l (i : Int) = l[i] := by
  unfold rd
  simp [List.getD_eq_getElem?_getD, h]
theorem same_l0 (l : List Int) (hl : l.length ≤ 1048576) : ∀ (d i : Nat), i + d = l.length → ∀ k, d < k → laws_sameInts.l0 k l l (i : Int) = some true := by
  intro d
  induction d with
  | zero =>
    intro i hi k hk
    obtain ⟨m, rfl, _⟩ := succ_of hk
    simp only [laws_sameInts.l0]
    rw [if_neg (by omega)]
  | succ d ih =>
    intro i hi k hk
    obtain ⟨m, rfl, hm⟩ := succ_of hk
    have e1 : wrap64 ((i : Int) + 1) = ((i + 1 : Nat) : Int) := w64 (by omega) (by omega)
    simp only [laws_sameInts.l0]
    rw [if_pos (by omega), if_pos (by omega), if_pos (by omega), if_pos trivial, e1]
    exact ih (i + 1) (by omega) m (by omega)
theorem sameI (l : List Int) (hl : l.length ≤ 1048576) : ∀ k, l.length < k → laws_sameInts.f k l l = some true := by
  intro k hk
  unfold laws_sameInts.f
  rw [if_pos rfl]
  exact same_l0 l hl l.length 0 (by omega) k hk
theorem holdB_mem (l : List S25) (o p n : Int) : ∀ (d : Nat) (out : List Int) (v : Int), v ∈ holdB l o p n d out ↔ v ∈ out ∨ (41 - (d : Int) ≤ v ∧ v ≤ 40 ∧ mayB l o v p n = true) := by
  intro d
  induction d with
  | zero =>
    intro out v
    simp only [holdB]
    exact ⟨.inl, fun h => h.elim id (fun h => by omega)⟩
  | succ d ih =>
    intro out v
    simp only [holdB]
    rw [ih]
    by_cases hm : mayB l o (40 - (d : Int)) p n = true
    · rw [if_pos hm, List.mem_append, List.mem_singleton]
      constructor
      · rintro ((h | rfl) | ⟨h1, h2, h3⟩)
        · exact .inl h
        · exact .inr ⟨by omega, by omega, hm⟩
        · exact .inr ⟨by omega, h2, h3⟩
      · rintro (h | ⟨h1, h2, h3⟩)
        · exact .inl (.inl h)
        · by_cases he : v = 40 - (d : Int)
          · exact .inl (.inr he)
          · exact .inr ⟨by omega, h2, h3⟩
    · rw [if_neg hm]
      constructor
      · rintro (h | ⟨h1, h2, h3⟩)
        · exact .inl h
        · exact .inr ⟨by omega, h2, h3⟩
      · rintro (h | ⟨h1, h2, h3⟩)
        · exact .inl h
        · by_cases he : v = 40 - (d : Int)
          · rw [he] at h3; exact absurd h3 hm
          · exact .inr ⟨by omega, h2, h3⟩
theorem holdB_up (l : List S25) (o p n : Int) : ∀ (d : Nat) (out : List Int), out.Pairwise (· < ·) → (∀ v ∈ out, v < 41 - (d : Int)) → (holdB l o p n d out).Pairwise (· < ·) := by
  intro d
  induction d with
  | zero => intro out h _; exact h
  | succ d ih =>
    intro out h1 h2
    simp only [holdB]
    refine ih _ ?_ ?_
    · split
      · rw [List.pairwise_append]
        exact ⟨h1, List.pairwise_singleton _ _, fun a ha b hb => by
          have := h2 a ha
          rw [List.mem_singleton.1 hb]; omega⟩
      · exact h1
    · intro v hv
      split at hv
      · rcases List.mem_append.1 hv with h | h
        · have := h2 v h; omega
        · rw [List.mem_singleton.1 h]; omega
      · have := h2 v hv; omega
theorem holders_mem (l : List S25) (o p n v : Int) : v ∈ holders l o p n ↔ (1 ≤ v ∧ v ≤ 40) ∧ mayB l o v p n = true := by
  unfold holders
  rw [holdB_mem]
  constructor
  · rintro (h | ⟨h1, h2, h3⟩)
    · cases h
    · exact ⟨⟨by omega, h2⟩, h3⟩
  · rintro ⟨⟨h1, h2⟩, h3⟩
    exact .inr ⟨by omega, h2, h3⟩
theorem holders_up (l : List S25) (o p n : Int) : (holders l o p n).Pairwise (· < ·) := holdB_up l o p n 40 [] List.Pairwise.nil (fun v hv => by cases hv)
theorem may_who {l : List S25} {o w p n : Int} (h : mayB l o w p n = true) : 1 ≤ w ∧ w ≤ 40 := by
  unfold mayB goodB at h
  simp only [Bool.and_eq_true, decide_eq_true_eq] at h
  omega
end Go.Proofs.Ytcpjfkagbnoagaa.GcFnChains
