/- The counts with which a lock opens are ascending, and the code is that of the count: for every code (plain). -/
import Derived.Test.YtdhinnolfpacgaaDoorCdFnCounts
namespace Go.Proofs.YtdhinnolfpacgaaDoor.Pure
open Go.RowKit Go.Proofs.YtdhinnolfpacgaaDoor.QFnCounts Go.Proofs.YtdhinnolfpacgaaDoor.CbFnCounts Go.Proofs.YtdhinnolfpacgaaDoor.CtFnCounts Go.Proofs.YtdhinnolfpacgaaDoor.CdFnCounts Go.Proofs.YtdhinnolfpacgaaDoor.DwFnCounts Go.Proofs.YtdhinnolfpacgaaDoorW.PrintWords Go.Proofs.YtdhinnolfpacgaaDoorW.PrintLast
theorem name_chk : ((List.range 4).all fun (r : Nat) => match impl_TryName.f (r : Int) with | some t => !t.data.toList.isEmpty | none => false) = true := by kernel_rfl
theorem name_ok (r : Int) (h0 : 0 ≤ r) (h3 : r ≤ 3) : ∃ t, impl_TryName.f r = some t ∧ t.toList ≠ ([] : List UInt8) := by
  obtain ⟨q, rfl⟩ : ∃ q : Nat, r = q := ⟨r.toNat, by omega⟩
  have h := List.all_eq_true.mp name_chk q (List.mem_range.mpr (by omega))
  cases e : impl_TryName.f (q : Int) with
  | none => rw [e] at h; exact absurd h (by simp)
  | some t =>
    rw [e] at h
    refine ⟨t, rfl, fun hn => ?_⟩
    rw [ByteArray.toList_eq] at hn
    simp [hn] at h
theorem law_l0 (r : List Int) (r1 : r.length = 12) (r2 : ∀ y ∈ r, 0 ≤ y ∧ y < 10000) : ∀ (d k : Nat) (i last now s n t p u : Int), i + d = 10 → 0 ≤ i → okL s n t p u = true → 0 ≤ now → now ≤ 29 + 3 * i → -1 ≤ last → last < n → 200 + 4 * d ≤ k →
    laws_FnCounts.l0 k r last now i s n t p u = some true := by
  intro d
  induction d with
  | zero =>
    intro k i last now s n t p u hi h0 ho hn0 hn1 hl1 hl2 hk
    obtain ⟨k2, rfl⟩ : ∃ k2, k = k2 + 1 := ⟨k - 1, by omega⟩
    rw [laws_FnCounts.l0, if_neg (by omega), lock_impl, ho]
    rfl
  | succ d ih =>
    intro k i last now s n t p u hi h0 ho hn0 hn1 hl1 hl2 hk
    obtain ⟨k2, rfl⟩ : ∃ k2, k = k2 + 4 := ⟨k - 4, by omega⟩
    have q := place r r1 r2 (11 - i) (by omega) (by omega)
    have e11 : wrap64 (11 - i) = 11 - i := by unfold wrap64; omega
    have hnow : wrap64 (now + (Int.tmod (rd r (wrap64 (11 - i))) 4)) = now + rd r (11 - i) % 4 := by
      rw [e11, tm_pos _ _ q.1]; unfold wrap64; omega
    rw [laws_FnCounts.l0, if_pos (by omega), if_pos (by omega), if_pos (by omega), code_spec _ _ _ (by omega)]
    simp only [Option.bind_some]
    generalize B (code s (wrap64 ((wrap64 (n + (Int.tmod (rd r i) 8))) - 2))) = x
    rw [hnow, e11, if_pos (by omega), if_pos (by omega), match_impl _ _ _ _ _ _ _ (by omega), if_pos ho]
    simp only [Option.bind_some]
    obtain ⟨n', t', p', u', res, e, ho', b0, b3, hop, hnop⟩ := try_step s n t p u x (now + rd r (11 - i) % 4) ho (by omega) (by omega)
    rw [try_impl _ _ _ _ _ _ _ _ (by omega), e]
    simp only [Option.bind_some]
    rw [try_spec _ _ _ _ _ _ _ _ (by omega), e]
    simp only [Option.bind_some]
    obtain ⟨nm, en, hnm⟩ := name_ok res b0 b3
    rw [if_neg (by simp), if_pos (by trivial), en]
    simp only [Option.bind_some]
    rw [if_neg hnm, match_spec _ _ _ _ _ _ _ (by omega), if_pos ho]
    simp only [Option.bind_some]
    rw [laws_FnCounts.j1, if_neg (by simp)]
    by_cases hr : res = 0
    · obtain ⟨m1, m2, m3, m4⟩ := hop hr
      have c1 : (B (code s (matchV s n x))).toList = x.toList := by rw [B_toList]; exact m4
      rw [if_pos hr, if_neg (by omega), if_neg (by omega), if_pos (by rw [m3]; unfold wrap64; omega), code_impl _ _ _ (by omega)]
      simp only [Option.bind_some]
      rw [laws_FnCounts.j2, if_neg (by simp [c1]), laws_FnCounts.j3, if_pos hr, show wrap64 (i + 1) = i + 1 by unfold wrap64; omega]
      have hn := ok_parts ho
      exact ih k2 (i + 1) (matchV s n x) _ s n' t' p' u' (by omega) (by omega) ho' (by omega) (by omega) (by omega) (by omega) (by omega)
    · rw [if_neg hr, laws_FnCounts.j3, if_neg hr, if_pos (hnop hr), show wrap64 (i + 1) = i + 1 by unfold wrap64; omega]
      have := hnop hr
      exact ih (k2 + 1) (i + 1) last _ s n' t' p' u' (by omega) (by omega) ho' (by omega) (by omega) (by omega) (by omega) (by omega)
theorem FnCounts : laws_FnCounts.Pure := by
  intro x hx
  intros
  by_cases hl : (x.length : Int) > 1048576
  · refine ⟨1, ?_⟩
    unfold laws_FnCounts.f laws_big.f
    rw [decide_eq_true hl]
    rfl
  · have hx' : x.length ≤ 1048576 := by omega
    obtain ⟨s, n, t, p, u, h, hD⟩ := lock_ex x hx'
    obtain ⟨r, r1, r2, hP⟩ := places_ex x hx'
    have g3 := h.n1; have g5 := h.u1; have g6 := h.u2
    refine ⟨5000, ?_⟩
    unfold laws_FnCounts.f laws_big.f
    rw [decide_eq_false hl]
    simp only [Option.bind_some]
    rw [if_neg (by decide), hD 5000 (by omega)]
    simp only [Option.bind_some]
    rw [hP 5000 (by omega)]
    simp only [Option.bind_some]
    exact law_l0 r r1 r2 10 5000 0 (-1) u s n t p u (by omega) (by omega) h.ok (by omega) (by omega) (by omega) (by omega) (by omega)
end Go.Proofs.YtdhinnolfpacgaaDoor.Pure
