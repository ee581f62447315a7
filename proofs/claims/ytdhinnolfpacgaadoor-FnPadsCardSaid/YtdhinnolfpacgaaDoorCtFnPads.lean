/- A try, plain: both packages' answer is one. -/
import Derived.Test.YtdhinnolfpacgaaDoorCbFnPads
namespace Go.Proofs.YtdhinnolfpacgaaDoor.CtFnPads
open Go.RowKit Go.Proofs.YtdhinnolfpacgaaDoor.QFnPads Go.Proofs.YtdhinnolfpacgaaDoor.CbFnPads Go.Proofs.YtdhinnolfpacgaaDoorW.PrintWords Go.Proofs.YtdhinnolfpacgaaDoorW.PrintLast Go.Lib
abbrev L6 : Type := Int × Int × Int × Int × Int × Int
/-- The pause behind p pauses. -/
def pw (p : Int) : Int := 2 ^ p.toNat
/-- What becomes of a right lock without a pause. -/
def enter (s n t p u nx now : Int) : L6 :=
  if nx ≥ 0 then (s, nx, 0, 0, u, 0) else if t < 2 then (s, n, t + 1, p, u, 2) else (s, n, 0, min 6 (p + 1), now + pw p, 3)
def tryG (nx : Int) (s n t p u now : Int) : L6 :=
  if okL s n t p u = true ∧ 0 ≤ now ∧ now ≤ 20000 then (if now < u then (s, n, t, p, u, 1) else enter s n t p u nx now) else (s, n, t, p, u, 4)
def nextV (s n : Int) (x : ByteArray) : Int := if matchV s n x < 0 then -1 else matchV s n x + 1
def tryV (s n t p u : Int) (x : ByteArray) (now : Int) : L6 := tryG (nextV s n x) s n t p u now
theorem chk : ((List.range 7).all fun (p : Nat) => shl .i64 1 (p : Int) == pw p && mn (wrap64 ((p : Int) + 1)) 6 == min 6 ((p : Int) + 1) && mn 6 (wrap64 ((p : Int) + 1)) == min 6 ((p : Int) + 1) && decide (1 ≤ pw p) && decide (pw p ≤ 64)) = true := by kernel_rfl
theorem chk_at (p : Int) (h0 : 0 ≤ p) (h6 : p ≤ 6) : shl .i64 1 p = pw p ∧ mn (wrap64 (p + 1)) 6 = min 6 (p + 1) ∧ mn 6 (wrap64 (p + 1)) = min 6 (p + 1) ∧ 1 ≤ pw p ∧ pw p ≤ 64 := by
  obtain ⟨q, rfl⟩ : ∃ q : Nat, p = q := ⟨p.toNat, by omega⟩
  have h := List.all_eq_true.mp chk q (List.mem_range.mpr (by omega))
  simp only [Bool.and_eq_true, beq_iff_eq, decide_eq_true_eq] at h
  obtain ⟨⟨⟨⟨b, c⟩, d⟩, e⟩, f⟩ := h
  exact ⟨b, c, d, e, f⟩
theorem shl_pw (p : Int) (h0 : 0 ≤ p) (h6 : p ≤ 6) : shl .i64 1 p = pw p := (chk_at p h0 h6).1
theorem mn_a (p : Int) (h0 : 0 ≤ p) (h6 : p ≤ 6) : mn (wrap64 (p + 1)) 6 = min 6 (p + 1) := (chk_at p h0 h6).2.1
theorem mn_b (p : Int) (h0 : 0 ≤ p) (h6 : p ≤ 6) : mn 6 (wrap64 (p + 1)) = min 6 (p + 1) := (chk_at p h0 h6).2.2.1
theorem pw_le (p : Int) (h0 : 0 ≤ p) (h6 : p ≤ 6) : 1 ≤ pw p ∧ pw p ≤ 64 := (chk_at p h0 h6).2.2.2
theorem ok_parts {s n t p u : Int} (h : okL s n t p u = true) : 1 ≤ s ∧ s ≤ 2147483646 ∧ 0 ≤ n ∧ n ≤ 1000001 ∧ 0 ≤ t ∧ t ≤ 2 ∧ 0 ≤ p ∧ p ≤ 6 ∧ 0 ≤ u ∧ u ≤ 20064 := by
  unfold okL at h; exact of_decide_eq_true h
theorem find_le (q : Int → Bool) : ∀ (d : Nat) (n : Int), find q d n = -1 ∨ (n ≤ find q d n ∧ find q d n < n + d ∧ q (find q d n) = true)
  | 0, n => Or.inl rfl
  | d + 1, n => by
    unfold find
    by_cases h : q n = true
    · rw [if_pos h]; exact Or.inr ⟨Int.le_refl _, by omega, h⟩
    · rw [if_neg h]
      rcases find_le q d (n + 1) with e | ⟨a, b, c⟩
      · exact Or.inl e
      · exact Or.inr ⟨by omega, by omega, c⟩
theorem match_le (s n : Int) (x : ByteArray) (h0 : 0 ≤ n) (h1 : n ≤ 1000001) : matchV s n x = -1 ∨ (n ≤ matchV s n x ∧ matchV s n x < n + 5 ∧ matchV s n x ≤ 1000000 ∧ code s (matchV s n x) = x.toList) := by
  unfold matchV
  rcases find_le (same s x) (many n 5) n with e | ⟨a, b, c⟩
  · exact Or.inl e
  · refine Or.inr ⟨a, ?_, ?_, ?_⟩
    · have := many5 n; omega
    · have hm : (many n 5 : Int) = min (n + 5) 1000001 - n := by unfold many; omega
      omega
    · unfold same at c; exact of_decide_eq_true c
theorem time_impl (a : Int) : impl_timeOk.f a = some (decide (0 ≤ a ∧ a ≤ 20000)) := by unfold impl_timeOk.f; rw [in_impl]; rfl
theorem clo_impl (k : Nat) (s n t p u : Int) (x : ByteArray) (ho : okL s n t p u = true) (hk : 50 ≤ k) : impl_Try.cf k s n t p u x = some (nextV s n x) := by
  unfold impl_Try.cf nextV
  rw [match_impl k _ _ _ _ _ _ hk, if_pos ho]
  simp only [Option.bind_some]
  obtain ⟨_, _, b1, b2, _⟩ := ok_parts ho
  rcases match_le s n x b1 b2 with e | ⟨e1, e2, e3, _⟩
  · rw [e, if_pos (by decide), if_pos (by decide)]
  · rw [if_neg (by omega), if_neg (by omega), show wrap64 (matchV s n x + 1) = matchV s n x + 1 by unfold wrap64; omega]
theorem tried_impl (nx : Nat → Option Int) (v : Int) (k : Nat) (s n t p u now : Int) (hnx : okL s n t p u = true → ∀ m, 50 ≤ m → nx m = some v) (hk : 60 ≤ k) : impl_Try.tf nx k s n t p u now = some (tryG v s n t p u now) := by
  obtain ⟨k1, rfl⟩ : ∃ k1, k = k1 + 1 := ⟨k - 1, by omega⟩
  unfold impl_Try.tf tryG
  rw [lock_impl]
  simp only [Option.bind_some]
  by_cases ho : okL s n t p u = true
  · rw [if_pos ho, time_impl]
    simp only [Option.bind_some]
    rw [impl_Try.j0]
    by_cases hn : 0 ≤ now ∧ now ≤ 20000
    · have hc : okL s n t p u = true ∧ 0 ≤ now ∧ now ≤ 20000 := ⟨ho, hn.1, hn.2⟩
      rw [if_neg (by simp only [decide_eq_true hn]; decide), if_pos hc]
      by_cases hu : now < u
      · rw [if_pos hu, if_pos hu]
      · rw [if_neg hu, if_neg hu, hnx ho k1 (by omega)]
        simp only [Option.bind_some]
        obtain ⟨_, _, _, _, q1, q2, q3, q4, _, _⟩ := ok_parts ho
        have hp := pw_le p q3 q4
        unfold enter
        by_cases hv : v ≥ 0
        · rw [if_pos hv, if_pos hv]
        · rw [if_neg hv, if_neg hv]
          by_cases ht : t < 2
          · rw [if_pos ht, if_pos ht, show wrap64 (t + 1) = t + 1 by unfold wrap64; omega]
          · rw [if_neg ht, if_neg ht, if_pos q3, mn_b p q3 q4, shl_pw p q3 q4, show wrap64 (now + pw p) = now + pw p by unfold wrap64; omega]
    · rw [if_pos (by simp only [decide_eq_false hn]; decide), if_neg (fun h => hn h.2)]
  · rw [if_neg ho, if_neg (fun h => ho h.1), impl_Try.j0, if_pos rfl]
theorem try_impl (k : Nat) (s n t p u : Int) (x : ByteArray) (now : Int) (hk : 60 ≤ k) : impl_Try.f k s n t p u x now = some (tryV s n t p u x now) := by
  unfold impl_Try.f tryV
  rw [tried_impl _ (nextV s n x) k s n t p u now (fun ho m hm => clo_impl m s n t p u x ho hm) hk]
  rfl
end Go.Proofs.YtdhinnolfpacgaaDoor.CtFnPads
