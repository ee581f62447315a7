/- A pad opens a lock as long as fewer codes than the window were shown and not used: for every code (plain). -/
import Derived.Test.YtdhinnolfpacgaaDoorCdFnPads
namespace Go.Proofs.YtdhinnolfpacgaaDoor.Pure
open Go.RowKit Go.Proofs.YtdhinnolfpacgaaDoor.QFnPads Go.Proofs.YtdhinnolfpacgaaDoor.CbFnPads Go.Proofs.YtdhinnolfpacgaaDoor.CtFnPads Go.Proofs.YtdhinnolfpacgaaDoor.CdFnPads Go.Proofs.YtdhinnolfpacgaaDoor.DwFnPads Go.Proofs.YtdhinnolfpacgaaDoorW.PrintWords Go.Proofs.YtdhinnolfpacgaaDoorW.PrintLast
theorem try_hit (s n t p u c now : Int) (h : Drawn s n t p u) (h1 : n ≤ c) (h2 : c < n + 5) (h3 : c ≤ 1000000) (h4 : u ≤ now) (h5 : now ≤ 20000) :
    ∃ m, n < m ∧ m ≤ c + 1 ∧ tryV s n t p u (B (code s c)) now = (s, m, 0, 0, u, 0) := by
  obtain ⟨a, b⟩ := match_hit s n c h1 h2 h3
  have g3 := h.n1; have g5 := h.u1
  refine ⟨matchV s n (B (code s c)) + 1, by omega, by omega, ?_⟩
  unfold tryV tryG nextV enter
  have e : (if matchV s n (B (code s c)) < 0 then (-1 : Int) else matchV s n (B (code s c)) + 1) = matchV s n (B (code s c)) + 1 := if_neg (by omega)
  rw [if_pos ⟨h.ok, by omega, h5⟩, if_neg (by omega), e, if_pos (by omega)]
theorem j1_ok (k : Nat) (r : List Int) (r1 : r.length = 12) (r2 : ∀ y ∈ r, 0 ≤ y ∧ y < 10000) (s n t p u c : Int) (h : Drawn s n t p u) (c0 : 0 ≤ c) (hk : 100 ≤ k) :
    laws_FnPads.j1 k r (decide (c < 5 ∧ n + c ≤ 1000000)) false s n t p u s (n + c) = some true := by
  obtain ⟨k2, rfl⟩ : ∃ k2, k = k2 + 1 := ⟨k - 1, by omega⟩
  have ho := h.ok
  have g1 := h.s1; have g2 := h.s2; have g3 := h.n1; have g4 := h.n2; have g5 := h.u1; have g6 := h.u2
  rw [laws_FnPads.j1, if_neg (by decide)]
  by_cases hC : n + c ≤ 1000000
  · rw [press_ok k2 s (n + c) (by omega) ⟨g1, by omega⟩ ⟨by omega, hC⟩]
    simp only [Option.bind_some]
    rw [if_neg (by rw [decide_eq_true hC]; decide)]
    by_cases hc : c < 5
    · have p1 := place r r1 r2 1 (by omega) (by omega)
      have hnow : wrap64 (u + (Int.tmod (rd r 1) 50)) = u + rd r 1 % 50 := by
        rw [tm_pos _ _ p1.1]; unfold wrap64; omega
      obtain ⟨m, m1, m2, em⟩ := try_hit s n t p u (n + c) (u + rd r 1 % 50) h (by omega) (by omega) hC (by omega) (by omega)
      rw [if_pos (decide_eq_true ⟨hc, hC⟩), if_pos (by omega), hnow, try_impl k2 _ _ _ _ _ _ _ (by omega), em]
      simp only [Option.bind_some]
      rw [if_pos (by trivial), code_spec k2 _ _ (by omega)]
      simp only [Option.bind_some]
      rw [if_pos (by trivial), if_pos (by unfold wrap64; omega), if_pos (by omega)]
      by_cases hl : n + c + 1 > 1000000
      · rw [if_pos hl]
      · rw [if_neg hl, canOpen_impl _ _ _ _ _ _ _ (by omega) (by omega)]
        simp only [Option.bind_some]
        have hok : okL s m 0 0 u = true := by
          unfold okL
          rw [decide_eq_true_eq]
          omega
        rw [decide_eq_true (by exact ⟨by omega, by omega, by omega, by omega, hok, by trivial, by omega, by omega⟩)]
    · rw [if_neg (by rw [decide_eq_false (fun h => hc h.1)]; decide)]
  · obtain ⟨a, b, x, e⟩ := press_no k2 s (n + c) (by omega)
    rw [e]
    simp only [Option.bind_some]
    rw [if_neg (by rw [decide_eq_false hC]; decide), if_neg (by rw [decide_eq_false (fun h => hC h.2)]; decide)]
theorem j0_ok (k : Nat) (r : List Int) (r1 : r.length = 12) (r2 : ∀ y ∈ r, 0 ≤ y ∧ y < 10000) (s n t p u c : Int) (h : Drawn s n t p u) (c0 : 0 ≤ c) (hk : 101 ≤ k) :
    laws_FnPads.j0 k r (decide (c < 5 ∧ n + c ≤ 1000000)) s n t p u s (n + c) = some true := by
  obtain ⟨k2, rfl⟩ : ∃ k2, k = k2 + 1 := ⟨k - 1, by omega⟩
  have ho := h.ok
  have g1 := h.s1; have g2 := h.s2; have g3 := h.n1; have g4 := h.n2; have g5 := h.u1; have g6 := h.u2
  have e1 : decide (1 ≤ s ∧ s ≤ 2147483646 ∧ 0 ≤ n + c ∧ n + c ≤ 1000000 ∧ okL s n t p u = true ∧ s = s ∧ n ≤ n + c ∧ n + c ≤ n + 4) = decide (c < 5 ∧ n + c ≤ 1000000) := by
    rw [decide_eq_decide]
    exact ⟨fun q => ⟨by omega, q.2.2.2.1⟩, fun q => ⟨by omega, by omega, by omega, q.2, ho, rfl, by omega, by omega⟩⟩
  rw [laws_FnPads.j0, canOpen_impl _ _ _ _ _ _ _ (by omega) (by omega), e1, lock_impl, ho]
  simp only [Option.bind_some]
  rw [if_neg (by simp)]
  exact j1_ok k2 r r1 r2 s n t p u c h c0 (by omega)
theorem FnPads : laws_FnPads.Pure := by
  intro x hx
  intros
  by_cases hl : (x.length : Int) > 1048576
  · refine ⟨1, ?_⟩
    unfold laws_FnPads.f laws_big.f
    rw [decide_eq_true hl]
    rfl
  · have hx' : x.length ≤ 1048576 := by omega
    obtain ⟨s, n, t, p, u, h, hD⟩ := lock_ex x hx'
    obtain ⟨r, r1, r2, hP⟩ := places_ex x hx'
    have g3 := h.n1; have g4 := h.n2
    refine ⟨5000, ?_⟩
    unfold laws_FnPads.f laws_big.f
    rw [decide_eq_false hl]
    simp only [Option.bind_some]
    rw [if_neg (by decide), hD 5000 (by omega)]
    simp only [Option.bind_some]
    rw [hP 5000 (by omega)]
    simp only [Option.bind_some]
    have p0 := place r r1 r2 0 (by omega) (by omega)
    have hc : wrap64 (n + (Int.tmod (rd r 0) 7)) = n + rd r 0 % 7 := by
      rw [tm_pos _ _ p0.1]; unfold wrap64; omega
    have hd : wrap64 ((n + rd r 0 % 7) - n) = rd r 0 % 7 := by unfold wrap64; omega
    rw [if_pos (by omega), hc, hd]
    have key := j0_ok 5000 r r1 r2 s n t p u (rd r 0 % 7) h (by omega) (by decide)
    by_cases h5 : rd r 0 % 7 < 5
    · rw [if_pos h5]
      have : decide (n + rd r 0 % 7 ≤ 1000000) = decide (rd r 0 % 7 < 5 ∧ n + rd r 0 % 7 ≤ 1000000) := by
        rw [decide_eq_decide]; exact ⟨fun q => ⟨h5, q⟩, fun q => q.2⟩
      rw [this]
      exact key
    · rw [if_neg h5]
      have : false = decide (rd r 0 % 7 < 5 ∧ n + rd r 0 % 7 ≤ 1000000) := (decide_eq_false (fun q => h5 q.1)).symm
      rw [this]
      exact key
end Go.Proofs.YtdhinnolfpacgaaDoor.Pure
