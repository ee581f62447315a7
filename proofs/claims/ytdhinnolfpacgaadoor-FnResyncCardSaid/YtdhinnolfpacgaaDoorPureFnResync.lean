/- Two codes of a pad, one after the other, bring a lock up to it: for every code (plain). -/
import Derived.Test.YtdhinnolfpacgaaDoorCdFnResync
import Derived.Test.YtdhinnolfpacgaaDoorCrFnResync
namespace Go.Proofs.YtdhinnolfpacgaaDoor.Pure
open Go.RowKit Go.Proofs.YtdhinnolfpacgaaDoor.QFnResync Go.Proofs.YtdhinnolfpacgaaDoor.CbFnResync Go.Proofs.YtdhinnolfpacgaaDoor.CtFnResync Go.Proofs.YtdhinnolfpacgaaDoor.CrFnResync Go.Proofs.YtdhinnolfpacgaaDoor.CdFnResync Go.Proofs.YtdhinnolfpacgaaDoor.DwFnResync Go.Proofs.YtdhinnolfpacgaaDoorW.PrintWords Go.Proofs.YtdhinnolfpacgaaDoorW.PrintLast
theorem pair_hit (s n c : Int) (h1 : n ≤ c) (h2 : c < n + 39) (h3 : c + 1 ≤ 1000000) : n ≤ pairV s n (B (code s c)) (B (code s (c + 1))) ∧ pairV s n (B (code s c)) (B (code s (c + 1))) ≤ c := by
  unfold pairV
  have hm : (manyR n : Int) = min (n + 39) 1000000 - n := by unfold manyR; omega
  obtain ⟨a, b, _⟩ := find_hit (two s (B (code s c)) (B (code s (c + 1)))) (manyR n) n c (by unfold two; rw [B_toList, B_toList]; exact decide_eq_true ⟨rfl, rfl⟩) h1 (by omega)
  exact ⟨a, b⟩
theorem resync_hit (s n t p u c : Int) (ho : okL s n t p u = true) (h1 : n ≤ c) (h2 : c < n + 39) (h3 : c + 1 ≤ 1000000) (hu : u ≤ 20000) :
    ∃ m, n + 2 ≤ m ∧ m ≤ c + 2 ∧ resyncV s n t p u (B (code s c)) (B (code s (c + 1))) u = (s, m, 0, 0, u, 0) := by
  obtain ⟨a, b⟩ := pair_hit s n c h1 h2 h3
  obtain ⟨_, _, b1, b2, _, _, _, _, f1, _⟩ := ok_parts ho
  refine ⟨pairV s n (B (code s c)) (B (code s (c + 1))) + 2, by omega, by omega, ?_⟩
  unfold resyncV tryG nextR enter
  have e : (if pairV s n (B (code s c)) (B (code s (c + 1))) < 0 then (-1 : Int) else pairV s n (B (code s c)) (B (code s (c + 1))) + 2) = pairV s n (B (code s c)) (B (code s (c + 1))) + 2 := if_neg (by omega)
  rw [if_pos ⟨ho, f1, hu⟩, if_neg (by omega), e, if_pos (by omega)]
theorem FnResync : laws_FnResync.Pure := by
  intro x hx
  intros
  by_cases hl : (x.length : Int) > 1048576
  · refine ⟨1, ?_⟩
    unfold laws_FnResync.f laws_big.f
    rw [decide_eq_true hl]
    rfl
  · have hx' : x.length ≤ 1048576 := by omega
    obtain ⟨s, n, t, p, u, h, hD⟩ := lock_ex x hx'
    obtain ⟨r, r1, r2, hP⟩ := places_ex x hx'
    have g1 := h.s1; have g2 := h.s2; have g3 := h.n1; have g4 := h.n2; have g5 := h.u1; have g6 := h.u2
    refine ⟨5000, ?_⟩
    unfold laws_FnResync.f laws_big.f
    rw [decide_eq_false hl]
    simp only [Option.bind_some]
    rw [if_neg (by decide), hD 5000 (by omega)]
    simp only [Option.bind_some]
    rw [hP 5000 (by omega)]
    simp only [Option.bind_some]
    have p0 := place r r1 r2 0 (by omega) (by omega)
    have en : Int.tmod n 1000 = n % 1000 := tm_pos _ _ g3
    have ec : Int.tmod (rd r 0) 39 = rd r 0 % 39 := tm_pos _ _ p0.1
    rw [en, ec]
    have hn0 : 0 ≤ n % 1000 ∧ n % 1000 ≤ 999 := by omega
    have hc0 : 0 ≤ rd r 0 % 39 ∧ rd r 0 % 39 ≤ 38 := by omega
    generalize n % 1000 = m at hn0 ⊢
    generalize rd r 0 % 39 = c at hc0 ⊢
    have hw : wrap64 (m + c) = m + c := by unfold wrap64; omega
    have ho : okL s m t p u = true := by
      have := ok_parts h.ok
      unfold okL
      rw [decide_eq_true_eq]
      omega
    rw [if_pos (by omega), hw, press_ok 5000 s (m + c) (by omega) ⟨g1, by omega⟩ ⟨by omega, by omega⟩]
    simp only [Option.bind_some]
    rw [press_ok 5000 s (m + c + 1) (by omega) ⟨g1, by omega⟩ ⟨by omega, by omega⟩]
    simp only [Option.bind_some]
    obtain ⟨q, q1, q2, eq⟩ := resync_hit s m t p u (m + c) ho (by omega) (by omega) (by omega) (by omega)
    rw [resync_impl 5000 _ _ _ _ _ _ _ _ (by omega), eq]
    simp only [Option.bind_some]
    rw [resync_spec 5000 _ _ _ _ _ _ _ _ (by omega), eq]
    simp only [Option.bind_some]
    have hu1 : wrap64 (u - 1) = u - 1 := by unfold wrap64; omega
    rw [resync_impl 5000 _ _ _ _ _ _ _ _ (by omega), hu1]
    simp only [Option.bind_some]
    have hz : resyncV s m t p u (B (code s (m + c))) (B (code s (m + c + 1))) (u - 1) = (s, m, t, p, u, if u = 0 then 4 else 1) := by
      unfold resyncV tryG
      by_cases hu : u = 0
      · rw [if_neg (fun h => by omega), if_pos hu]
      · rw [if_pos ⟨ho, by omega, by omega⟩, if_pos (by omega), if_neg hu]
    rw [hz, if_pos (by trivial), if_pos (by trivial), if_pos (by unfold wrap64; omega), if_pos (by simp), if_pos (by trivial), if_pos (by trivial), if_pos (by omega), if_pos (by unfold wrap64; omega), if_pos (by simp)]
    by_cases hu : u = 0
    · subst hu
      rfl
    · simp [hu]
end Go.Proofs.YtdhinnolfpacgaaDoor.Pure
