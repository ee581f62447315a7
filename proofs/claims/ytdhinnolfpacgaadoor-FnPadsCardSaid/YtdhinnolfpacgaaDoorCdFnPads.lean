/- Draws of locks, plain. -/
import Derived.Test.YtdhinnolfpacgaaDoorDwFnPads
import Derived.Test.YtdhinnolfpacgaaDoorCtFnPads
namespace Go.Proofs.YtdhinnolfpacgaaDoor.CdFnPads
open Go.RowKit Go.Proofs.YtdhinnolfpacgaaDoor.QFnPads Go.Proofs.YtdhinnolfpacgaaDoor.CbFnPads Go.Proofs.YtdhinnolfpacgaaDoor.CtFnPads Go.Proofs.YtdhinnolfpacgaaDoor.DwFnPads Go.Proofs.YtdhinnolfpacgaaDoorW.PrintWords Go.Proofs.YtdhinnolfpacgaaDoorW.PrintLast Go.Lib
theorem pick_ex (x : List Int) (hx : x.length ≤ 1048576) (p s : Int) (hp : 0 ≤ p) (hp2 : p ≤ x.length) (l : List Int) (hl : 0 < l.length) :
    ∃ v j q : Int, v ∈ l ∧ 0 ≤ j ∧ j ≤ x.length ∧ spec_l01PickInt.f x p s l = some (v, j, q) := by
  obtain ⟨r, j, q, f, b1, b2, b3, b4⟩ := below_ex x hx p s hp hp2 (l.length : Int) (by omega)
  refine ⟨_, j, q, rd_mem l r b1 b2, b3, b4, ?_⟩
  unfold spec_l01PickInt.f
  rw [f]
  simp only [Option.bind_some]
  rw [if_pos b1, if_pos b2]
/-- What DrawLock draws. -/
structure Drawn (s n t p u : Int) : Prop where
  s1 : 1 ≤ s
  s2 : s ≤ 100000
  n1 : 0 ≤ n
  n2 : n ≤ 999999
  t1 : 0 ≤ t
  t2 : t ≤ 2
  p1 : 0 ≤ p
  p2 : p ≤ 6
  u1 : 0 ≤ u
  u2 : u ≤ 29
theorem Drawn.ok {s n t p u : Int} (h : Drawn s n t p u) : okL s n t p u = true := by
  have := h.s1; have := h.s2; have := h.n1; have := h.n2; have := h.t1; have := h.t2; have := h.p1; have := h.p2; have := h.u1; have := h.u2
  unfold okL
  rw [decide_eq_true_eq]
  omega
theorem lock_ex (x : List Int) (hx : x.length ≤ 1048576) : ∃ s n t p u, Drawn s n t p u ∧ ∀ k, 4000 < k → spec_DrawLock.f k x = some (s, n, t, p, u) := by
  obtain ⟨q0, hnew⟩ := new_ex x hx
  obtain ⟨r1, j1, q1, e1, a1, b1, c1, d1⟩ := below_ex x hx 0 q0 (by omega) (by omega) 100000 (by omega)
  obtain ⟨v2, j2, q2, m2, c2, d2, e2⟩ := pick_ex x hx j1 q1 c1 d1 ([0, 0, 3, 10, 999990, 999999] : List Int) (by decide)
  obtain ⟨r3, j3, q3, e3, a3, b3, c3, d3⟩ := below_ex x hx j2 q2 c2 d2 3 (by omega)
  obtain ⟨r4, j4, q4, e4, a4, b4, c4, d4⟩ := below_ex x hx j3 q3 c3 d3 7 (by omega)
  obtain ⟨r5, j5, q5, e5, a5, b5, c5, d5⟩ := below_ex x hx j4 q4 c4 d4 3 (by omega)
  obtain ⟨r6, j6, q6, e6, a6, b6, c6, d6⟩ := below_ex x hx j5 q5 c5 d5 30 (by omega)
  have hv : 0 ≤ v2 ∧ v2 ≤ 999999 := by
    simp only [List.mem_cons, List.not_mem_nil, or_false] at m2
    omega
  have hw : wrap64 (1 + r1) = 1 + r1 := by unfold wrap64; omega
  have hnl : spec_NewLock.f (1 + r1) = some (1 + r1, 0, 0, 0, 0, true) := by
    unfold spec_NewLock.f
    rw [sec_spec]
    simp only [Option.bind_some]
    rw [if_pos (decide_eq_true (by omega))]
  by_cases h5 : r5 = 0
  · refine ⟨1 + r1, v2, r3, r4, r6, ⟨by omega, by omega, hv.1, hv.2, a3, by omega, a4, by omega, a6, by omega⟩, fun k hk => ?_⟩
    unfold spec_DrawLock.f spec_l03Lock.f spec_l01Once.f
    rw [hnew k hk]
    simp only [Option.bind_some]
    rw [e1]
    simp only [Option.bind_some]
    rw [hw, hnl]
    simp only [Option.bind_some]
    rw [e2]
    simp only [Option.bind_some]
    rw [e3]
    simp only [Option.bind_some]
    rw [e4]
    simp only [Option.bind_some]
    rw [e5]
    simp only [Option.bind_some]
    rw [if_pos (by simp [h5]), e6]
    rfl
  · refine ⟨1 + r1, v2, r3, r4, 0, ⟨by omega, by omega, hv.1, hv.2, a3, by omega, a4, by omega, by omega, by omega⟩, fun k hk => ?_⟩
    unfold spec_DrawLock.f spec_l03Lock.f spec_l01Once.f
    rw [hnew k hk]
    simp only [Option.bind_some]
    rw [e1]
    simp only [Option.bind_some]
    rw [hw, hnl]
    simp only [Option.bind_some]
    rw [e2]
    simp only [Option.bind_some]
    rw [e3]
    simp only [Option.bind_some]
    rw [e4]
    simp only [Option.bind_some]
    rw [e5]
    simp only [Option.bind_some]
    rw [if_neg (by simp [h5])]
    rfl
theorem find_hit (q : Int → Bool) : ∀ (d : Nat) (n c : Int), q c = true → n ≤ c → c < n + d → n ≤ find q d n ∧ find q d n ≤ c ∧ q (find q d n) = true
  | 0, n, c, _, h1, h2 => by omega
  | d + 1, n, c, hq, h1, h2 => by
    unfold find
    by_cases h : q n = true
    · rw [if_pos h]; exact ⟨Int.le_refl _, h1, h⟩
    · rw [if_neg h]
      have : n ≠ c := fun e => h (e ▸ hq)
      obtain ⟨a, b, c'⟩ := find_hit q d (n + 1) c hq (by omega) (by omega)
      exact ⟨by omega, b, c'⟩
theorem match_hit (s n c : Int) (h1 : n ≤ c) (h2 : c < n + 5) (h3 : c ≤ 1000000) : n ≤ matchV s n (B (code s c)) ∧ matchV s n (B (code s c)) ≤ c := by
  unfold matchV
  have hm : (many n 5 : Int) = min (n + 5) 1000001 - n := by unfold many; omega
  obtain ⟨a, b, _⟩ := find_hit (same s (B (code s c))) (many n 5) n c (by unfold same; rw [B_toList]; exact decide_eq_true rfl) h1 (by omega)
  exact ⟨a, b⟩
theorem tm_pos (x m : Int) (h : 0 ≤ x) : Int.tmod x m = x % m := Int.tmod_eq_emod_of_nonneg h
theorem canOpen_impl (ps pc s n t p u : Int) (h0 : -9223372036854775000 ≤ n) (h1 : n ≤ 9223372036854775000) :
    impl_CanOpen.f ps pc s n t p u = some (decide (1 ≤ ps ∧ ps ≤ 2147483646 ∧ 0 ≤ pc ∧ pc ≤ 1000000 ∧ okL s n t p u = true ∧ ps = s ∧ n ≤ pc ∧ pc ≤ n + 4)) := by
  unfold impl_CanOpen.f impl_PadOk.f
  simp only [sec_impl, in_impl, cnt_impl, lock_impl, Option.bind_some]
  have hw : wrap64 ((wrap64 (n + 5)) - 1) = n + 4 := by unfold wrap64; omega
  rw [hw]
  by_cases a1 : 1 ≤ ps ∧ ps ≤ 2147483646
  · rw [if_pos (decide_eq_true a1)]
    simp only [Option.bind_some]
    by_cases a2 : 0 ≤ pc ∧ pc ≤ 1000001
    · rw [if_pos (decide_eq_true a2)]
      by_cases a3 : okL s n t p u = true
      · rw [if_pos a3]
        by_cases a4 : ps = s
        · rw [if_pos a4]
          by_cases a5 : 0 ≤ pc ∧ pc ≤ 1000000
          · rw [if_pos (decide_eq_true a5)]
            congr 1
            rw [decide_eq_decide]
            exact ⟨fun h => ⟨a1.1, a1.2, a5.1, a5.2, a3, a4, h.1, h.2⟩, fun h => ⟨h.2.2.2.2.2.2.1, h.2.2.2.2.2.2.2⟩⟩
          · rw [if_neg (by simpa using a5)]; congr 1; symm; rw [decide_eq_false_iff_not]; exact fun h => a5 ⟨h.2.2.1, h.2.2.2.1⟩
        · rw [if_neg a4]; congr 1; symm; rw [decide_eq_false_iff_not]; exact fun h => a4 h.2.2.2.2.2.1
      · rw [if_neg a3]; congr 1; symm; rw [decide_eq_false_iff_not]; exact fun h => a3 h.2.2.2.2.1
    · rw [if_neg (by simpa using a2)]; congr 1; symm; rw [decide_eq_false_iff_not]; exact fun h => a2 ⟨h.2.2.1, by omega⟩
  · rw [if_neg (by simpa using a1)]
    simp only [Option.bind_some]
    rw [if_neg (by decide)]; congr 1; symm; rw [decide_eq_false_iff_not]; exact fun h => a1 ⟨h.1, h.2.1⟩
theorem press_ok (k : Nat) (s c : Int) (hk : 21 ≤ k) (h1 : 1 ≤ s ∧ s ≤ 2147483646) (h2 : 0 ≤ c ∧ c ≤ 1000000) : impl_Press.f k s c = some (s, c + 1, B (code s c), true) := by
  unfold impl_Press.f impl_PadOk.f
  simp only [sec_impl, in_impl, Option.bind_some]
  rw [if_pos (decide_eq_true h1)]
  simp only [Option.bind_some]
  rw [if_pos (decide_eq_true (by omega)), if_neg (by omega), code_impl k _ _ hk]
  simp only [Option.bind_some]
  rw [show wrap64 (c + 1) = c + 1 by unfold wrap64; omega]
theorem press_no (k : Nat) (s c : Int) (h2 : 1000000 < c) : ∃ a b t, impl_Press.f k s c = some (a, b, t, false) := by
  unfold impl_Press.f impl_PadOk.f
  simp only [sec_impl, in_impl, Option.bind_some]
  by_cases h1 : 1 ≤ s ∧ s ≤ 2147483646
  · rw [if_pos (decide_eq_true h1)]
    simp only [Option.bind_some]
    by_cases h3 : 0 ≤ c ∧ c ≤ 1000001
    · rw [if_pos (decide_eq_true h3), if_pos (by omega)]
      exact ⟨_, _, _, rfl⟩
    · rw [if_neg (by simpa using h3)]
      exact ⟨_, _, _, rfl⟩
  · rw [if_neg (by simpa using h1)]
    simp only [Option.bind_some]
    rw [if_neg (by decide)]
    exact ⟨_, _, _, rfl⟩
end Go.Proofs.YtdhinnolfpacgaaDoor.CdFnPads
