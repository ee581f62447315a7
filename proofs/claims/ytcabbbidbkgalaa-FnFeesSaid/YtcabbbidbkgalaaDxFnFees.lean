/- Draws: the week and the terms that the reference draws always come; the terms are right (plain). -/
import Derived.Test.YtcabbbidbkgalaaDwFnFees
namespace Go.Proofs.Ytcabbbidbkgalaa.DwFnFees
open Go.RowKit Go.Proofs.Ytcabbbidbkgalaa.QFnFees Go.Proofs.YtcabbbidbkgalaaW.PrintWords Go.Proofs.YtcabbbidbkgalaaW.PrintLast
set_option linter.unusedVariables false
set_option linter.unusedSimpArgs false

theorem spans_l0 (x : List Int) (hx : x.length ≤ 1048576) (a c : Int) (hc : 0 < c) : ∀ (d : Nat) (l : List S71) (u p s : Int), l.length + d ≤ 100 → 0 ≤ p → p ≤ x.length →
    ∃ (r : List S71) (j q : Int), 0 ≤ j ∧ j ≤ x.length ∧ ∀ k, d < k → spec_l01Spans.l0 k a c l u (d : Int) x p s = some (r, j, q) := by
  intro d
  induction d with
  | zero =>
    intro l u p s hl hp hp2
    refine ⟨l, p, s, hp, hp2, fun k hk => ?_⟩
    obtain ⟨m, rfl, _⟩ := succ_of hk
    simp only [spec_l01Spans.l0]
    rw [if_neg (by omega)]
  | succ d ih =>
    intro l u p s hl hp hp2
    have e1 : wrap64 (((d + 1 : Nat) : Int) - 1) = (d : Int) := by rw [w64 (by omega) (by omega)]; omega
    obtain ⟨r1, j1, q1, f1, b1, b2, b3, b4⟩ := below_ex x hx p s hp hp2 c hc
    by_cases ct : wrap64 (wrap64 (u + 1) + r1) > a
    · refine ⟨l, j1, q1, b3, b4, fun k hk => ?_⟩
      obtain ⟨m, rfl, _⟩ := succ_of hk
      simp only [spec_l01Spans.l0]
      rw [if_pos (by omega), f1]
      simp only [Option.bind_some]
      rw [if_pos ct]
    · obtain ⟨r2, j2, q2, f2, g1, g2, g3, g4⟩ := below_ex x hx j1 q1 b3 b4 c hc
      obtain ⟨r, j, q, z1, z2, z3⟩ := ih (l ++ [(⟨u, wrap64 (wrap64 (u + 1) + r1)⟩ : S71)]) (wrap64 (wrap64 (wrap64 (wrap64 (u + 1) + r1) + 1) + r2)) j2 q2 (by simp; omega) g3 g4
      refine ⟨r, j, q, z1, z2, fun k hk => ?_⟩
      obtain ⟨m, rfl, hm⟩ := succ_of hk
      simp only [spec_l01Spans.l0]
      rw [if_pos (by omega), f1]
      simp only [Option.bind_some]
      rw [if_neg ct, if_pos (by omega), f2]
      simp only [Option.bind_some, e1]
      exact z3 m (by omega)

theorem spans_ex (x : List Int) (hx : x.length ≤ 1048576) (p s : Int) (hp : 0 ≤ p) (hp2 : p ≤ x.length) (a c : Int) (hc : 0 < c) :
    ∃ (r : List S71) (j q : Int), 0 ≤ j ∧ j ≤ x.length ∧ ∀ k, 10 < k → spec_l01Spans.f k x p s a c = some (r, j, q) := by
  obtain ⟨r1, j1, q1, f1, b1, b2, b3, b4⟩ := below_ex x hx p s hp hp2 c hc
  obtain ⟨r2, j2, q2, f2, g1, g2, g3, g4⟩ := below_ex x hx j1 q1 b3 b4 5 (by omega)
  obtain ⟨n, rfl⟩ := Int.eq_ofNat_of_zero_le g1
  obtain ⟨r, j, q, z1, z2, z3⟩ := spans_l0 x hx a c hc n [] r1 j2 q2 (by simp; omega) g3 g4
  refine ⟨r, j, q, z1, z2, fun k hk => ?_⟩
  unfold spec_l01Spans.f
  rw [f1]
  simp only [Option.bind_some]
  rw [f2]
  simp only [Option.bind_some]
  exact z3 k (by omega)

theorem week_draw (x : List Int) (hx : x.length ≤ 1048576) (p s : Int) (hp : 0 ≤ p) (hp2 : p ≤ x.length) :
    ∃ (l0 l1 : List S71) (j q : Int), ∀ k, 11 < k → spec_l01Week.f k x p s = some (l0, l1, j, q) := by
  obtain ⟨r, j, q, z1, z2, z3⟩ := spans_ex x hx p s hp hp2 168 40 (by omega)
  obtain ⟨n, j1, q1, f1, b1, b2, b3, b4⟩ := below_ex x hx j q z1 z2 6 (by omega)
  obtain ⟨r2, j2, q2, y1, y2, y3⟩ := spans_ex x hx j1 q1 b3 b4 20000 150 (by omega)
  have c : n = 0 ∨ n = 1 ∨ n = 2 ∨ n = 3 ∨ n = 4 ∨ n = 5 := by omega
  have base : ∀ k, 11 < k → ∀ R, ((if n = 0 then (some ((([(⟨0, 168⟩ : S71)] : List (S71))), ([] : List (S71)), j1, q1)) else (if n = 1 then (spec_l01Week.j0 k n (n == 1) x j1 q1 r) else (spec_l01Week.j0 k n (n == 2) x j1 q1 r))) = some R) → spec_l01Week.f k x p s = some R := by
    intro k hk R h
    unfold spec_l01Week.f
    rw [z3 k (by omega)]
    simp only [Option.bind_some]
    rw [f1]
    simp only [Option.bind_some]
    exact h
  rcases c with rfl | rfl | rfl | rfl | rfl | rfl
  · exact ⟨_, _, _, _, fun k hk => base k hk _ rfl⟩
  · refine ⟨r, r2, j2, q2, fun k hk => base k hk _ ?_⟩
    obtain ⟨m, rfl, hm⟩ := succ_of hk
    rw [if_neg (by decide), if_pos (by decide), spec_l01Week.j0, if_pos (by decide), y3 m (by omega)]
    rfl
  · refine ⟨r, r2, j2, q2, fun k hk => base k hk _ ?_⟩
    obtain ⟨m, rfl, hm⟩ := succ_of hk
    rw [if_neg (by decide), if_neg (by decide), spec_l01Week.j0, if_pos (by decide), y3 m (by omega)]
    rfl
  · refine ⟨[(⟨8, 18⟩ : S71), (⟨32, 42⟩ : S71), (⟨56, 66⟩ : S71)], [], j1, q1, fun k hk => base k hk _ ?_⟩
    obtain ⟨m, rfl, hm⟩ := succ_of hk
    rw [if_neg (by decide), if_neg (by decide), spec_l01Week.j0, if_neg (by decide), if_pos (by decide)]
  · refine ⟨r, [], j1, q1, fun k hk => base k hk _ ?_⟩
    obtain ⟨m, rfl, hm⟩ := succ_of hk
    rw [if_neg (by decide), if_neg (by decide), spec_l01Week.j0, if_neg (by decide), if_neg (by decide)]
  · refine ⟨r, [], j1, q1, fun k hk => base k hk _ ?_⟩
    obtain ⟨m, rfl, hm⟩ := succ_of hk
    rw [if_neg (by decide), if_neg (by decide), spec_l01Week.j0, if_neg (by decide), if_neg (by decide)]

/-- A week is drawn. -/
theorem week_ex (x : List Int) (hx : x.length ≤ 1048576) : ∃ l0 l1 : List S71, ∀ k, 4000 < k → spec_DrawWeek.f k x = some (l0, l1) := by
  obtain ⟨s, hs⟩ := new_ex x hx
  obtain ⟨l0, l1, j, q, h⟩ := week_draw x hx 0 s (by omega) (by omega)
  refine ⟨l0, l1, fun k hk => ?_⟩
  unfold spec_DrawWeek.f
  rw [hs k hk]
  simp only [Option.bind_some]
  rw [h k (by omega)]
  rfl

theorem pick_ex (x : List Int) (hx : x.length ≤ 1048576) (p s : Int) (hp : 0 ≤ p) (hp2 : p ≤ x.length) (l : List Int) (hl : 0 < l.length) :
    ∃ v j q : Int, v ∈ l ∧ 0 ≤ j ∧ j ≤ x.length ∧ spec_l01PickInt.f x p s l = some (v, j, q) := by
  obtain ⟨r, j, q, f, b1, b2, b3, b4⟩ := below_ex x hx p s hp hp2 (l.length : Int) (by omega)
  refine ⟨_, j, q, rd_mem l r b1 b2, b3, b4, ?_⟩
  unfold spec_l01PickInt.f
  rw [f]
  simp only [Option.bind_some]
  rw [if_pos b1, if_pos b2]

/-- Terms are drawn, and they are right. -/
theorem terms_ex (x : List Int) (hx : x.length ≤ 1048576) : ∃ a0 a1 a2 a3 a4 a5 a6 a7 : Int, ((1 ≤ a0 ∧ a0 ≤ 40) ∧ (0 ≤ a1 ∧ a1 ≤ 30) ∧ (1 ≤ a2 ∧ a2 ≤ 10) ∧ (0 ≤ a3 ∧ a3 ≤ 20) ∧ (0 ≤ a4 ∧ a4 ≤ 1000000) ∧ (1 ≤ a5 ∧ a5 ≤ 30) ∧ (0 ≤ a6 ∧ a6 ≤ 25) ∧ (0 ≤ a7 ∧ a7 ≤ 4)) ∧
    ∀ k, 4000 < k → spec_DrawTerms.f k x = some (a0, a1, a2, a3, a4, a5, a6, a7) := by
  obtain ⟨s, hs⟩ := new_ex x hx
  obtain ⟨r1, j1, q1, f1, A1, B1, C1, D1⟩ := below_ex x hx 0 s (by omega) (by omega) 40 (by omega)
  obtain ⟨r2, j2, q2, f2, A2, B2, C2, D2⟩ := below_ex x hx j1 q1 C1 D1 30 (by omega)
  obtain ⟨r3, j3, q3, f3, A3, B3, C3, D3⟩ := below_ex x hx j2 q2 C2 D2 10 (by omega)
  obtain ⟨r4, j4, q4, A4, C4, D4, f4⟩ := pick_ex x hx j3 q3 C3 D3 [0, 1, 5, 20] (by decide)
  obtain ⟨r5, j5, q5, A5, C5, D5, f5⟩ := pick_ex x hx j4 q4 C4 D4 [0, 50, 200, 1000000] (by decide)
  obtain ⟨r6, j6, q6, f6, A6, B6, C6, D6⟩ := below_ex x hx j5 q5 C5 D5 30 (by omega)
  obtain ⟨r7, j7, q7, A7, C7, D7, f7⟩ := pick_ex x hx j6 q6 C6 D6 [0, 3, 25] (by decide)
  obtain ⟨r8, j8, q8, f8, A8, B8, C8, D8⟩ := below_ex x hx j7 q7 C7 D7 5 (by omega)
  have e1 : wrap64 (1 + r1) = 1 + r1 := w64 (by omega) (by omega)
  have e3 : wrap64 (1 + r3) = 1 + r3 := w64 (by omega) (by omega)
  have e6 : wrap64 (1 + r6) = 1 + r6 := w64 (by omega) (by omega)
  refine ⟨1 + r1, r2, 1 + r3, r4, r5, 1 + r6, r7, r8, ⟨⟨by omega, by omega⟩, ⟨by omega, by omega⟩, ⟨by omega, by omega⟩, ?_, ?_, ⟨by omega, by omega⟩, ?_, ⟨by omega, by omega⟩⟩, fun k hk => ?_⟩
  · simp only [List.mem_cons, List.not_mem_nil, or_false] at A4
    omega
  · simp only [List.mem_cons, List.not_mem_nil, or_false] at A5
    omega
  · simp only [List.mem_cons, List.not_mem_nil, or_false] at A7
    omega
  · unfold spec_DrawTerms.f
    rw [hs k hk]
    simp only [Option.bind_some]
    unfold spec_l06Terms.f
    rw [f1]
    simp only [Option.bind_some]
    rw [f2]
    simp only [Option.bind_some]
    rw [f3]
    simp only [Option.bind_some]
    rw [f4]
    simp only [Option.bind_some]
    rw [f5]
    simp only [Option.bind_some]
    rw [f6]
    simp only [Option.bind_some]
    rw [f7]
    simp only [Option.bind_some]
    rw [f8]
    simp only [Option.bind_some, e1, e3, e6]
end Go.Proofs.Ytcabbbidbkgalaa.DwFnFees
