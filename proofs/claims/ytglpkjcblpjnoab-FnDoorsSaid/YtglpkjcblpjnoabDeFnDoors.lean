/- Draws: a door and acts always come, and the acts are few (plain). -/
import Derived.Test.YtglpkjcblpjnoabDcFnDoors
import Derived.Test.YtglpkjcblpjnoabDkFnDoors
namespace Go.Proofs.Ytglpkjcblpjnoab.DwFnDoors
open Go.RowKit Go.Proofs.Ytglpkjcblpjnoab.QFnDoors Go.Proofs.YtglpkjcblpjnoabW.PrintWords Go.Proofs.YtglpkjcblpjnoabW.PrintLast
set_option linter.unusedVariables false
set_option linter.unusedSimpArgs false

theorem pick_ex (x : List Int) (hx : x.length ≤ 1048576) (p s : Int) (hp : 0 ≤ p) (hp2 : p ≤ x.length) (l : List Int) (hl : 0 < l.length) :
    ∃ v j q : Int, v ∈ l ∧ 0 ≤ j ∧ j ≤ x.length ∧ spec_l01PickInt.f x p s l = some (v, j, q) := by
  obtain ⟨r, j, q, f, b1, b2, b3, b4⟩ := below_ex x hx p s hp hp2 (l.length : Int) (by omega)
  refine ⟨_, j, q, rd_mem l r b1 b2, b3, b4, ?_⟩
  unfold spec_l01PickInt.f
  rw [f]
  simp only [Option.bind_some]
  rw [if_pos b1, if_pos b2]

theorem acts_l0 (x : List Int) (hx : x.length ≤ 1048576) : ∀ (d : Nat) (l : List Int) (p s : Int), l.length + d ≤ 200 → 0 ≤ p → p ≤ x.length →
    ∃ (r : List Int) (j q : Int), r.length ≤ l.length + d ∧ 0 ≤ j ∧ j ≤ x.length ∧ ∀ k, d < k → spec_l04Acts.l0 k l (d : Int) x p s = some (r, j, q) := by
  intro d
  induction d with
  | zero =>
    intro l p s hl hp hp2
    refine ⟨l, p, s, by omega, hp, hp2, fun k hk => ?_⟩
    obtain ⟨m, rfl, _⟩ := succ_of hk
    simp only [spec_l04Acts.l0]
    rw [if_neg (by omega)]
  | succ d ih =>
    intro l p s hl hp hp2
    have e1 : wrap64 (((d + 1 : Nat) : Int) - 1) = (d : Int) := by rw [w64 (by omega) (by omega)]; omega
    obtain ⟨v, j1, q1, _, b3, b4, f1⟩ := pick_ex x hx p s hp hp2 [1, 1, 1, 1, 1, 8, 9, 8, 9, 2, 3, 4, 5, 6, 7] (by decide)
    obtain ⟨r, j, q, z0, z1, z2, z3⟩ := ih (l ++ [v]) j1 q1 (by simp; omega) b3 b4
    refine ⟨r, j, q, by simp at z0; omega, z1, z2, fun k hk => ?_⟩
    obtain ⟨m, rfl, hm⟩ := succ_of hk
    simp only [spec_l04Acts.l0]
    rw [if_pos (by omega), f1]
    simp only [Option.bind_some]
    rw [if_pos (by omega), e1]
    exact z3 m (by omega)

theorem acts_ex (x : List Int) (hx : x.length ≤ 1048576) (p s : Int) (hp : 0 ≤ p) (hp2 : p ≤ x.length) (n : Int) (hn : 0 < n) (hn2 : n ≤ 100) :
    ∃ (r : List Int) (j q : Int), r.length ≤ 100 ∧ 0 ≤ j ∧ j ≤ x.length ∧ ∀ k, 100 < k → spec_l04Acts.f k x p s n = some (r, j, q) := by
  obtain ⟨d, j1, q1, f1, b1, b2, b3, b4⟩ := below_ex x hx p s hp hp2 n hn
  obtain ⟨d, rfl⟩ := Int.eq_ofNat_of_zero_le b1
  obtain ⟨r, j, q, z0, z1, z2, z3⟩ := acts_l0 x hx d [] j1 q1 (by simp; omega) b3 b4
  refine ⟨r, j, q, by simp at z0; omega, z1, z2, fun k hk => ?_⟩
  unfold spec_l04Acts.f
  rw [f1]
  simp only [Option.bind_some]
  exact z3 k (by omega)

theorem door_ex (x : List Int) (hx : x.length ≤ 1048576) (p s : Int) (hp : 0 ≤ p) (hp2 : p ≤ x.length) :
    ∃ (a b : Int) (l o f : Bool) (j q : Int), 0 ≤ j ∧ j ≤ x.length ∧ ∀ k, 400 < k → spec_l04Door.f k x p s = some (a, b, l, o, f, j, q) := by
  obtain ⟨v, j1, q1, f1, b1, b2, b3, b4⟩ := below_ex x hx p s hp hp2 2 (by omega)
  obtain ⟨r, j2, q2, c1, c2, c3, c4⟩ := acts_ex x hx j1 q1 b3 b4 30 (by omega) (by omega)
  obtain ⟨⟨A, B, L, O, F, y⟩, _, hR⟩ := DlFnDoors.acts_same r (by omega) 0 0 false false (v == 0)
  refine ⟨A, B, L, O, F, j2, q2, c2, c3, fun k hk => ?_⟩
  unfold spec_l04Door.f spec_l01Once.f
  rw [f1]
  simp only [Option.bind_some]
  rw [c4 k (by omega)]
  simp only [Option.bind_some]
  rw [(hR k (by omega)).1]
  rfl

theorem any_ex (x : List Int) (hx : x.length ≤ 1048576) (p s : Int) (hp : 0 ≤ p) (hp2 : p ≤ x.length) :
    ∃ (a b : Int) (l o f : Bool) (j q : Int), 0 ≤ j ∧ j ≤ x.length ∧ ∀ k, 400 < k → spec_l04Any.f k x p s = some (a, b, l, o, f, j, q) := by
  obtain ⟨a, b, l, o, f, j, q, h1, h2, h3⟩ := door_ex x hx p s hp hp2
  obtain ⟨v, j1, q1, f1, b1, b2, b3, b4⟩ := below_ex x hx j q h1 h2 12 (by omega)
  have base : ∀ R, (∀ k, 400 < k → (if v = 0 then ((spec_l01Below.f x j1 q1 5).bind fun bt404 => (some (wrap64 (bt404.1 - 1), b, l, o, f, bt404.2.1, bt404.2.2))) else (if v = 1 then ((spec_l01Below.f x j1 q1 9).bind fun bt407 => (some (a, wrap64 (bt407.1 - 1), l, o, f, bt407.2.1, bt407.2.2))) else (if v = 2 then (some (a, b, l, !o, f, j1, q1)) else (if v = 3 then (some (a, b, !l, o, f, j1, q1)) else (if v = 4 then (some (a, b, l, o, !f, j1, q1)) else (some (a, b, l, o, f, j1, q1))))))) = some R) → ∀ k, 400 < k → spec_l04Any.f k x p s = some R := by
    intro R h k hk
    unfold spec_l04Any.f
    rw [h3 k hk]
    simp only [Option.bind_some]
    rw [f1]
    simp only [Option.bind_some]
    exact h k hk
  by_cases c0 : v = 0
  · obtain ⟨u, j2, q2, f2, g1, g2, g3, g4⟩ := below_ex x hx j1 q1 b3 b4 5 (by omega)
    exact ⟨_, _, _, _, _, j2, q2, g3, g4, base _ (fun k hk => by rw [if_pos c0, f2]; rfl)⟩
  by_cases c1 : v = 1
  · obtain ⟨u, j2, q2, f2, g1, g2, g3, g4⟩ := below_ex x hx j1 q1 b3 b4 9 (by omega)
    exact ⟨_, _, _, _, _, j2, q2, g3, g4, base _ (fun k hk => by rw [if_neg c0, if_pos c1, f2]; rfl)⟩
  by_cases c2 : v = 2
  · exact ⟨a, b, l, !o, f, j1, q1, b3, b4, base _ (fun k hk => by rw [if_neg c0, if_neg c1, if_pos c2])⟩
  by_cases c3 : v = 3
  · exact ⟨a, b, !l, o, f, j1, q1, b3, b4, base _ (fun k hk => by rw [if_neg c0, if_neg c1, if_neg c2, if_pos c3])⟩
  by_cases c4 : v = 4
  · exact ⟨a, b, l, o, !f, j1, q1, b3, b4, base _ (fun k hk => by rw [if_neg c0, if_neg c1, if_neg c2, if_neg c3, if_pos c4])⟩
  · exact ⟨a, b, l, o, f, j1, q1, b3, b4, base _ (fun k hk => by rw [if_neg c0, if_neg c1, if_neg c2, if_neg c3, if_neg c4])⟩

theorem more_l0 (x : List Int) (hx : x.length ≤ 1048576) (a b : Int) (l o f : Bool) : ∀ (d : Nat) (z : List Int) (p s : Int), z.length + d = 201 → 0 ≤ p → p ≤ x.length →
    ∃ r : List Int, r.length ≤ 300 ∧ ∀ k, d < k → spec_DrawDoActs.l0 k z x p s a b l o f = some (a, b, l, o, f, r) := by
  intro d
  induction d with
  | zero =>
    intro z p s hz hp hp2
    refine ⟨z, by omega, fun k hk => ?_⟩
    obtain ⟨m, rfl, _⟩ := succ_of hk
    rw [spec_DrawDoActs.l0_succ]
    rw [if_neg (by omega)]
  | succ d ih =>
    intro z p s hz hp hp2
    obtain ⟨v, j1, q1, f1, b1, b2, b3, b4⟩ := below_ex x hx p s hp hp2 9 (by omega)
    obtain ⟨r, z0, z3⟩ := ih (z ++ [wrap64 (1 + v)]) j1 q1 (by simp; omega) b3 b4
    refine ⟨r, z0, fun k hk => ?_⟩
    obtain ⟨m, rfl, hm⟩ := succ_of hk
    rw [spec_DrawDoActs.l0_succ]
    rw [if_pos (by omega), f1]
    simp only [Option.bind_some]
    rw [if_pos (by omega)]
    exact z3 m (by omega)

theorem draw_ex (x : List Int) (hx : x.length ≤ 1048576) : ∃ (a b : Int) (l o f : Bool) (r : List Int), r.length ≤ 300 ∧ ∀ k, 4000 < k → spec_DrawDoActs.f k x = some (a, b, l, o, f, r) := by
  obtain ⟨s, hs⟩ := new_ex x hx
  obtain ⟨a, b, l, o, f, j, q, h1, h2, h3⟩ := any_ex x hx 0 s (by omega) (by omega)
  obtain ⟨r, j2, q2, c1, c2, c3, c4⟩ := acts_ex x hx j q h1 h2 40 (by omega) (by omega)
  obtain ⟨v, j3, q3, f3, b1, b2, b3, b4⟩ := below_ex x hx j2 q2 c2 c3 16 (by omega)
  have base : ∀ R, (∀ k, 4000 < k → (if v = 0 then ((spec_l01PickInt.f x j3 q3 (([0, 10, (-1)] : List Int))).bind fun bt434 => (if r.length < 17592186044416 then (some (a, b, l, o, f, (r ++ [bt434.1]))) else (none))) else (if v = 1 then (spec_DrawDoActs.l0 k r x j3 q3 a b l o f) else (some (a, b, l, o, f, r)))) = some R) → ∀ k, 4000 < k → spec_DrawDoActs.f k x = some R := by
    intro R h k hk
    unfold spec_DrawDoActs.f
    rw [hs k hk]
    simp only [Option.bind_some]
    rw [h3 k (by omega)]
    simp only [Option.bind_some]
    rw [c4 k (by omega)]
    simp only [Option.bind_some]
    rw [f3]
    simp only [Option.bind_some]
    exact h k hk
  by_cases v0 : v = 0
  · obtain ⟨u, j4, q4, _, _, _, f4⟩ := pick_ex x hx j3 q3 b3 b4 [0, 10, -1] (by decide)
    exact ⟨a, b, l, o, f, r ++ [u], by simp; omega, base _ (fun k hk => by rw [if_pos v0, f4]; simp only [Option.bind_some]; rw [if_pos (by omega)])⟩
  by_cases v1 : v = 1
  · obtain ⟨z, z0, z1⟩ := more_l0 x hx a b l o f (201 - r.length) r j3 q3 (by omega) b3 b4
    exact ⟨a, b, l, o, f, z, z0, base _ (fun k hk => by rw [if_neg v0, if_pos v1]; exact z1 k (by omega))⟩
  · exact ⟨a, b, l, o, f, r, by omega, base _ (fun k hk => by rw [if_neg v0, if_neg v1])⟩
end Go.Proofs.Ytglpkjcblpjnoab.DwFnDoors
