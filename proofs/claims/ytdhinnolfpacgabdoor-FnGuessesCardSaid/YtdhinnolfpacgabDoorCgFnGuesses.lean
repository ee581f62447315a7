/- Tries with a code that is none, plain: what a lock does with them, and how many there can be. -/
import Derived.Test.YtdhinnolfpacgabDoorDwFnGuesses
import Derived.Test.YtdhinnolfpacgabDoorCtFnGuesses
namespace Go.Proofs.YtdhinnolfpacgabDoor.CgFnGuesses
open Go.RowKit Go.Proofs.YtdhinnolfpacgabDoor.QFnGuesses Go.Proofs.YtdhinnolfpacgabDoor.CbFnGuesses Go.Proofs.YtdhinnolfpacgabDoor.CtFnGuesses Go.Proofs.YtdhinnolfpacgabDoor.DwFnGuesses Go.Proofs.YtdhinnolfpacgabDoorW.PrintWords Go.Proofs.YtdhinnolfpacgabDoorW.PrintLast Go.Lib
theorem pad_len : ∀ (d : Nat) (l : List UInt8), 6 ≤ d + l.length → 6 ≤ (pad d l).length
  | 0, l, h => by unfold pad; omega
  | d + 1, l, h => by
    unfold pad
    by_cases c : l.length < 6
    · rw [if_pos c]; exact pad_len d (48 :: l) (by simp; omega)
    · rw [if_neg c]; omega
theorem code_len (s n : Int) : (code s n).length = 0 ∨ 6 ≤ (code s n).length := by
  unfold code
  by_cases h : 1 ≤ s ∧ s ≤ 2147483646 ∧ 0 ≤ n ∧ n ≤ 1000000
  · rw [if_pos h]; exact Or.inr (pad_len 6 _ (by omega))
  · rw [if_neg h]; exact Or.inl rfl
/-- "wrong" -/
def wrong : ByteArray := ⟨#[119, 114, 111, 110, 103]⟩
theorem wrong_list : wrong.toList = [119, 114, 111, 110, 103] := B_toList [119, 114, 111, 110, 103]
theorem find_none (q : Int → Bool) (h : ∀ m, q m = false) : ∀ (d : Nat) (n : Int), find q d n = -1
  | 0, _ => rfl
  | d + 1, n => by unfold find; rw [if_neg (by rw [h n]; decide)]; exact find_none q h d (n + 1)
theorem match_wrong (s n : Int) : matchV s n wrong = -1 := by
  unfold matchV
  refine find_none _ (fun m => ?_) _ _
  unfold same
  rw [decide_eq_false_iff_not, wrong_list]
  intro h
  have := code_len s m
  rw [h] at this
  simp at this
/-- A try with a wrong code. -/
def tryW (s n t p u now : Int) : L6 := if now < u then (s, n, t, p, u, 1) else if t < 2 then (s, n, t + 1, p, u, 2) else (s, n, 0, min 6 (p + 1), now + pw p, 3)
theorem try_wrong (s n t p u now : Int) (ho : okL s n t p u = true) (h0 : 0 ≤ now) (h1 : now ≤ 20000) : tryV s n t p u wrong now = tryW s n t p u now := by
  have e : nextV s n wrong = -1 := by unfold nextV; rw [match_wrong]; exact if_pos (by decide)
  unfold tryV tryG tryW
  rw [if_pos ⟨ho, h0, h1⟩]
  by_cases hu : now < u
  · rw [if_pos hu, if_pos hu]
  · rw [if_neg hu, if_neg hu]
    unfold enter
    rw [e, if_neg (by decide)]
/-- Where a lock stands behind n tries at times up to now. -/
structure St (n t p u now : Int) : Prop where
  c : n = 3 * p + t
  t0 : 0 ≤ t
  t2 : t ≤ 2
  p0 : 0 ≤ p
  p6 : p ≤ 6
  u0 : pw p - 1 ≤ u
  u1 : u ≤ now + 64
  l1 : 0 < t → pw p - 1 ≤ now
  l0 : 0 < p → pw (p - 1) - 1 ≤ now
theorem pws : pw 0 = 1 ∧ pw 1 = 2 ∧ pw 2 = 4 ∧ pw 3 = 8 ∧ pw 4 = 16 ∧ pw 5 = 32 ∧ pw 6 = 64 := by decide
theorem St.later {n t p u now now' : Int} (h : St n t p u now) (hl : now ≤ now') : St n t p u now' :=
  ⟨h.c, h.t0, h.t2, h.p0, h.p6, h.u0, by have := h.u1; omega, fun q => by have := h.l1 q; omega, fun q => by have := h.l0 q; omega⟩
theorem St.one {n t p u now : Int} (h : St n t p u now) (hu : ¬ now < u) (ht : t < 2) : St (n + 1) (t + 1) p u now := by
  have := h.c; have := h.t0; have := h.u0
  exact ⟨by omega, by omega, by omega, h.p0, h.p6, h.u0, h.u1, fun _ => by omega, h.l0⟩
theorem St.pause {n t p u now : Int} (h : St n t p u now) (hu : ¬ now < u) (ht : ¬ t < 2) (hn : now ≤ 60) : St (n + 1) 0 (min 6 (p + 1)) (now + pw p) now := by
  have a := h.c; have b := h.t2; have c := h.u0; have d := h.p0; have e := h.p6
  obtain ⟨q0, q1, q2, q3, q4, q5, q6⟩ := pws
  have h6 : p ≠ 6 := by rintro rfl; omega
  have hm : min 6 (p + 1) = p + 1 := by omega
  have h2 : pw (p + 1) = 2 * pw p ∧ pw p ≤ 32 ∧ 1 ≤ pw p := by
    have : p = 0 ∨ p = 1 ∨ p = 2 ∨ p = 3 ∨ p = 4 ∨ p = 5 := by omega
    rcases this with rfl | rfl | rfl | rfl | rfl | rfl <;> exact ⟨by decide, by decide, by decide⟩
  rw [hm]
  refine ⟨by omega, by omega, by omega, by omega, by omega, by omega, by omega, fun q => by omega, fun _ => ?_⟩
  rw [show p + 1 - 1 = p by omega]
  omega
end Go.Proofs.YtdhinnolfpacgabDoor.CgFnGuesses
