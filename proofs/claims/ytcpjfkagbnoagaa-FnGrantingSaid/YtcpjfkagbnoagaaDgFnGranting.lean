/- Draws: grants always come, and they are few and right (plain). -/
import Derived.Test.YtcpjfkagbnoagaaDcFnGranting
namespace Go.Proofs.Ytcpjfkagbnoagaa.DwFnGranting
open Go.RowKit Go.Proofs.Ytcpjfkagbnoagaa.QFnGranting Go.Proofs.YtcpjfkagbnoagaaW.PrintWords Go.Proofs.YtcpjfkagbnoagaaW.PrintLast
set_option linter.unusedVariables false
set_option linter.unusedSimpArgs false

theorem pick_ex (x : List Int) (hx : x.length ≤ 1048576) (p s : Int) (hp : 0 ≤ p) (hp2 : p ≤ x.length) (l : List Int) (hl : 0 < l.length) :
    ∃ v j q : Int, v ∈ l ∧ 0 ≤ j ∧ j ≤ x.length ∧ spec_l01PickInt.f x p s l = some (v, j, q) := by
  obtain ⟨r, j, q, f, b1, b2, b3, b4⟩ := below_ex x hx p s hp hp2 (l.length : Int) (by omega)
  refine ⟨_, j, q, rd_mem l r b1 b2, b3, b4, ?_⟩
  unfold spec_l01PickInt.f
  rw [f]
  simp only [Option.bind_some]
  rw [if_pos b1, if_pos b2]
theorem once_ex (x : List Int) (hx : x.length ≤ 1048576) (p s : Int) (hp : 0 ≤ p) (hp2 : p ≤ x.length) (n : Int) (hn : 0 < n) :
    ∃ (v : Bool) (j q : Int), 0 ≤ j ∧ j ≤ x.length ∧ spec_l01Once.f x p s n = some (v, j, q) := by
  obtain ⟨r, j, q, f, b1, b2, b3, b4⟩ := below_ex x hx p s hp hp2 n hn
  refine ⟨r == 0, j, q, b3, b4, ?_⟩
  unfold spec_l01Once.f
  rw [f]
  rfl

/-- A drawn grant is right, and its persons are among the first six. -/
def drawn (g : S25) : Prop := (1 ≤ g.f0 ∧ g.f0 ≤ 5) ∧ (1 ≤ g.f1 ∧ g.f1 ≤ 6) ∧ g.f0 ≠ g.f1 ∧ (0 ≤ g.f2 ∧ g.f2 ≤ 2) ∧ (0 ≤ g.f3 ∧ g.f3 ≤ 5) ∧ 0 ≤ g.f4 ∧ g.f4 < g.f5 ∧ g.f5 ≤ 41
theorem grant_j0 (x : List Int) (hx : x.length ≤ 1048576) (p s : Int) (hp : 0 ≤ p) (hp2 : p ≤ x.length) (A B : Int) :
    ∃ (c d e f : Int) (g : Bool) (j q : Int), (0 ≤ c ∧ c ≤ 2) ∧ (0 ≤ d ∧ d ≤ 5) ∧ 0 ≤ e ∧ e < f ∧ f ≤ 41 ∧ 0 ≤ j ∧ j ≤ x.length ∧ ∀ k, 0 < k → spec_l05Grant.j0 k A B x p s = some (A, B, c, d, e, f, g, j, q) := by
  obtain ⟨r3, j3, q3, f3, a1, a2, a3, a4⟩ := below_ex x hx p s hp hp2 12 (by omega)
  obtain ⟨v4, j4, q4, m4, b3, b4, f4⟩ := pick_ex x hx j3 q3 a3 a4 [0, 1, 1, 2] (by decide)
  obtain ⟨v5, j5, q5, m5, c3, c4, f5⟩ := pick_ex x hx j4 q4 b3 b4 [0, 1, 1, 2, 3, 5] (by decide)
  obtain ⟨r6, j6, q6, f6, d1, d2, d3, d4⟩ := below_ex x hx j5 q5 c3 c4 30 (by omega)
  obtain ⟨v7, j7, q7, e3, e4, f7⟩ := once_ex x hx j6 q6 d3 d4 9 (by omega)
  simp only [List.mem_cons, List.not_mem_nil, or_false] at m4 m5
  refine ⟨v4, v5, r3, r3 + 1 + r6, v7, j7, q7, by omega, by omega, by omega, by omega, by omega, e3, e4, fun k hk => ?_⟩
  obtain ⟨m, rfl, _⟩ := succ_of hk
  simp only [spec_l05Grant.j0]
  rw [f3]; simp only [Option.bind_some]
  rw [f4]; simp only [Option.bind_some]
  rw [f5]; simp only [Option.bind_some]
  rw [f6]; simp only [Option.bind_some]
  rw [f7]; simp only [Option.bind_some]
  rw [w64 (x := r3 + 1) (by omega) (by omega), w64 (x := r3 + 1 + r6) (by omega) (by omega)]
theorem grant_ex (x : List Int) (hx : x.length ≤ 1048576) (p s : Int) (hp : 0 ≤ p) (hp2 : p ≤ x.length) :
    ∃ (y : S25) (j q : Int), drawn y ∧ 0 ≤ j ∧ j ≤ x.length ∧ ∀ k, 0 < k → spec_l05Grant.f k x p s = some (y.f0, y.f1, y.f2, y.f3, y.f4, y.f5, y.f6, j, q) := by
  obtain ⟨r1, j1, q1, f1, a1, a2, a3, a4⟩ := below_ex x hx p s hp hp2 5 (by omega)
  obtain ⟨r2, j2, q2, f2, b1, b2, b3, b4⟩ := below_ex x hx j1 q1 a3 a4 5 (by omega)
  by_cases c : 1 + r2 = 1 + r1
  · obtain ⟨c', d, e, f, g, j, q, h1, h2, h3, h4, h5, h6, h7, h8⟩ := grant_j0 x hx j2 q2 b3 b4 (1 + r1) 6
    refine ⟨⟨1 + r1, 6, c', d, e, f, g⟩, j, q, ⟨⟨by show (1 : Int) ≤ 1 + r1; omega, by show 1 + r1 ≤ 5; omega⟩, ⟨by show (1 : Int) ≤ 6; omega, by show (6 : Int) ≤ 6; omega⟩, by show 1 + r1 ≠ 6; omega, h1, h2, h3, h4, h5⟩, h6, h7, fun k hk => ?_⟩
    unfold spec_l05Grant.f
    rw [f1]; simp only [Option.bind_some]
    rw [f2]; simp only [Option.bind_some]
    rw [w64 (x := 1 + r2) (by omega) (by omega), w64 (x := 1 + r1) (by omega) (by omega), if_pos c]
    exact h8 k hk
  · obtain ⟨c', d, e, f, g, j, q, h1, h2, h3, h4, h5, h6, h7, h8⟩ := grant_j0 x hx j2 q2 b3 b4 (1 + r1) (1 + r2)
    refine ⟨⟨1 + r1, 1 + r2, c', d, e, f, g⟩, j, q, ⟨⟨by show (1 : Int) ≤ 1 + r1; omega, by show 1 + r1 ≤ 5; omega⟩, ⟨by show (1 : Int) ≤ 1 + r2; omega, by show 1 + r2 ≤ 6; omega⟩, by show 1 + r1 ≠ 1 + r2; omega, h1, h2, h3, h4, h5⟩, h6, h7, fun k hk => ?_⟩
    unfold spec_l05Grant.f
    rw [f1]; simp only [Option.bind_some]
    rw [f2]; simp only [Option.bind_some]
    rw [w64 (x := 1 + r2) (by omega) (by omega), w64 (x := 1 + r1) (by omega) (by omega), if_neg c]
    exact h8 k hk
theorem grants_l0 (x : List Int) (hx : x.length ≤ 1048576) : ∀ (d : Nat) (l : List S25) (p s : Int), l.length + d ≤ 200 → (∀ g ∈ l, drawn g) → 0 ≤ p → p ≤ x.length →
    ∃ (r : List S25) (j q : Int), r.length ≤ l.length + d ∧ (∀ g ∈ r, drawn g) ∧ 0 ≤ j ∧ j ≤ x.length ∧ ∀ k, d < k → spec_l05Grants.l0 k l (d : Int) x p s = some (r, j, q) := by
  intro d
  induction d with
  | zero =>
    intro l p s hl hd hp hp2
    refine ⟨l, p, s, by omega, hd, hp, hp2, fun k hk => ?_⟩
    obtain ⟨m, rfl, _⟩ := succ_of hk
    simp only [spec_l05Grants.l0]
    rw [if_neg (by omega)]
  | succ d ih =>
    intro l p s hl hd hp hp2
    have e1 : wrap64 (((d + 1 : Nat) : Int) - 1) = (d : Int) := by rw [w64 (by omega) (by omega)]; omega
    obtain ⟨y, j1, q1, hy, b3, b4, f1⟩ := grant_ex x hx p s hp hp2
    obtain ⟨r, j, q, z0, z00, z1, z2, z3⟩ := ih (l ++ [y]) j1 q1 (by simp; omega) (fun g hg => by
      rcases List.mem_append.1 hg with h | h
      · exact hd g h
      · rw [List.mem_singleton.1 h]; exact hy) b3 b4
    refine ⟨r, j, q, by simp at z0; omega, z00, z1, z2, fun k hk => ?_⟩
    obtain ⟨m, rfl, hm⟩ := succ_of hk
    simp only [spec_l05Grants.l0]
    rw [if_pos (by omega), f1 m (by omega)]
    simp only [Option.bind_some]
    rw [if_pos (by omega), e1]
    exact z3 m (by omega)
theorem grants_ex (x : List Int) (hx : x.length ≤ 1048576) (p s : Int) (hp : 0 ≤ p) (hp2 : p ≤ x.length) :
    ∃ (r : List S25) (j q : Int), r.length ≤ 8 ∧ (∀ g ∈ r, drawn g) ∧ 0 ≤ j ∧ j ≤ x.length ∧ ∀ k, 10 < k → spec_l05Grants.f k x p s = some (r, j, q) := by
  obtain ⟨d, j1, q1, f1, b1, b2, b3, b4⟩ := below_ex x hx p s hp hp2 9 (by omega)
  obtain ⟨d, rfl⟩ := Int.eq_ofNat_of_zero_le b1
  obtain ⟨r, j, q, z0, z00, z1, z2, z3⟩ := grants_l0 x hx d [] j1 q1 (by simp; omega) (fun g hg => by cases hg) b3 b4
  refine ⟨r, j, q, by simp at z0; omega, z00, z1, z2, fun k hk => ?_⟩
  unfold spec_l05Grants.f
  rw [f1]
  simp only [Option.bind_some]
  exact z3 k (by omega)
end Go.Proofs.Ytcpjfkagbnoagaa.DwFnGranting
