/- Draws: the week that the reference draws is right (plain). -/
import Derived.Test.YtcabbbidbkgalaaDxFnFees
import Derived.Test.YtcabbbidbkgalaaWkFnFees
namespace Go.Proofs.Ytcabbbidbkgalaa.DwFnFees
open Go.RowKit Go.Proofs.Ytcabbbidbkgalaa.QFnFees Go.Proofs.YtcabbbidbkgalaaW.PrintWords Go.Proofs.YtcabbbidbkgalaaW.PrintLast
set_option linter.unusedVariables false
set_option linter.unusedSimpArgs false

/-- Spans in order, within a limit; 'u' lies behind the last one. -/
def Good (most : Int) (l : List S71) (u : Int) : Prop := ∀ (i : Nat) (h : i < l.length), 0 ≤ l[i].f0 ∧ l[i].f0 < l[i].f1 ∧ l[i].f1 ≤ most ∧ l[i].f1 < u ∧ ∀ (j : Nat) (hj : j < l.length), j + 1 = i → l[j].f1 < l[i].f0

theorem good_add {most : Int} {l : List S71} {u a b v : Int} (hG : Good most l u) (h0 : 0 ≤ a) (hu : u ≤ a) (h1 : a < b) (h2 : b ≤ most) (h3 : b < v) : Good most (l ++ [(⟨a, b⟩ : S71)]) v := by
  intro i h
  by_cases c : i < l.length
  · obtain ⟨g1, g2, g3, g4, g5⟩ := hG i c
    rw [List.getElem_append_left c]
    refine ⟨g1, g2, g3, by omega, fun j hj e => ?_⟩
    rw [List.getElem_append_left (show j < l.length by omega)]
    exact g5 j (by omega) e
  · have e : i = l.length := by simp at h; omega
    subst e
    simp only [List.getElem_concat_length]
    refine ⟨h0, h1, h2, h3, fun j hj e => ?_⟩
    have c2 : j < l.length := by omega
    rw [List.getElem_append_left c2]
    have := (hG j c2).2.2.2.1
    omega

theorem gspans_l0 (x : List Int) (hx : x.length ≤ 1048576) (a c : Int) (hc : 0 < c) (hc2 : c ≤ 1000) (ha : a ≤ 20000) : ∀ (d : Nat) (l : List S71) (u p s : Int), l.length + d ≤ 10 → Good a l u → 0 ≤ u → u ≤ 2000 * ((l.length : Int) + 1) → 0 ≤ p → p ≤ x.length →
    ∃ (r : List S71) (j q : Int), r.length ≤ 10 ∧ (∃ v, Good a r v) ∧ 0 ≤ j ∧ j ≤ x.length ∧ ∀ k, d < k → spec_l01Spans.l0 k a c l u (d : Int) x p s = some (r, j, q) := by
  intro d
  induction d with
  | zero =>
    intro l u p s hl hG hu hu2 hp hp2
    refine ⟨l, p, s, by omega, ⟨u, hG⟩, hp, hp2, fun k hk => ?_⟩
    obtain ⟨m, rfl, _⟩ := succ_of hk
    simp only [spec_l01Spans.l0]
    rw [if_neg (by omega)]
  | succ d ih =>
    intro l u p s hl hG hu hu2 hp hp2
    have e1 : wrap64 (((d + 1 : Nat) : Int) - 1) = (d : Int) := by rw [w64 (by omega) (by omega)]; omega
    obtain ⟨r1, j1, q1, f1, b1, b2, b3, b4⟩ := below_ex x hx p s hp hp2 c hc
    have e2 : wrap64 (wrap64 (u + 1) + r1) = u + 1 + r1 := by rw [w64 (x := u + 1) (by omega) (by omega), w64 (by omega) (by omega)]
    by_cases ct : u + 1 + r1 > a
    · refine ⟨l, j1, q1, by omega, ⟨u, hG⟩, b3, b4, fun k hk => ?_⟩
      obtain ⟨m, rfl, _⟩ := succ_of hk
      simp only [spec_l01Spans.l0]
      rw [if_pos (by omega), f1]
      simp only [Option.bind_some, e2]
      rw [if_pos ct]
    · obtain ⟨r2, j2, q2, f2, g1, g2, g3, g4⟩ := below_ex x hx j1 q1 b3 b4 c hc
      have e3 : wrap64 (wrap64 (u + 1 + r1 + 1) + r2) = u + 1 + r1 + 1 + r2 := by rw [w64 (x := u + 1 + r1 + 1) (by omega) (by omega), w64 (by omega) (by omega)]
      obtain ⟨r, j, q, z0, z00, z1, z2, z3⟩ := ih (l ++ [(⟨u, u + 1 + r1⟩ : S71)]) (u + 1 + r1 + 1 + r2) j2 q2 (by simp; omega) (good_add hG hu (Int.le_refl _) (by omega) (by omega) (by omega)) (by omega) (by simp; omega) g3 g4
      refine ⟨r, j, q, z0, z00, z1, z2, fun k hk => ?_⟩
      obtain ⟨m, rfl, hm⟩ := succ_of hk
      simp only [spec_l01Spans.l0]
      rw [if_pos (by omega), f1]
      simp only [Option.bind_some, e2]
      rw [if_neg ct, if_pos (by omega), f2]
      simp only [Option.bind_some, e1, e3]
      exact z3 m (by omega)

theorem gspans_ex (x : List Int) (hx : x.length ≤ 1048576) (p s : Int) (hp : 0 ≤ p) (hp2 : p ≤ x.length) (a c : Int) (hc : 0 < c) (hc2 : c ≤ 1000) (ha : a ≤ 20000) :
    ∃ (r : List S71) (j q : Int), r.length ≤ 10 ∧ (∃ v, Good a r v) ∧ 0 ≤ j ∧ j ≤ x.length ∧ ∀ k, 10 < k → spec_l01Spans.f k x p s a c = some (r, j, q) := by
  obtain ⟨r1, j1, q1, f1, b1, b2, b3, b4⟩ := below_ex x hx p s hp hp2 c hc
  obtain ⟨r2, j2, q2, f2, g1, g2, g3, g4⟩ := below_ex x hx j1 q1 b3 b4 5 (by omega)
  obtain ⟨n, rfl⟩ := Int.eq_ofNat_of_zero_le g1
  obtain ⟨r, j, q, z0, z00, z1, z2, z3⟩ := gspans_l0 x hx a c hc hc2 ha n [] r1 j2 q2 (by simp; omega) (fun i h => by simp at h) b1 (by simp; omega) g3 g4
  refine ⟨r, j, q, z0, z00, z1, z2, fun k hk => ?_⟩
  unfold spec_l01Spans.f
  rw [f1]
  simp only [Option.bind_some]
  rw [f2]
  simp only [Option.bind_some]
  exact z3 k (by omega)

theorem good_ok {most u : Int} {l : List S71} (hl : l.length ≤ 10) (hG : Good most l u) : ∀ d i : Nat, i + d = l.length → ∀ k, d < k → spec_SpansOk.l0 k l most (i : Int) = some true := by
  intro d
  induction d with
  | zero =>
    intro i hi k hk
    obtain ⟨m, rfl, _⟩ := succ_of hk
    simp only [spec_SpansOk.l0]
    rw [if_neg (by omega)]
  | succ d ih =>
    intro i hi k hk
    obtain ⟨m, rfl, hm⟩ := succ_of hk
    have hil : i < l.length := by omega
    have e1 : wrap64 ((i : Int) + 1) = ((i + 1 : Nat) : Int) := w64 (by omega) (by omega)
    have er : ∀ (j : Nat) (h : j < l.length), rd_T71 l (j : Int) = l[j] := by
      intro j h
      unfold rd_T71
      simp [List.getD_eq_getElem?_getD, h]
    obtain ⟨g1, g2, g3, g4, g5⟩ := hG i hil
    simp only [spec_SpansOk.l0]
    rw [if_pos (by omega), if_pos (by omega), er i hil, if_neg (by omega), if_neg (by omega), if_neg (by omega)]
    have hn := ih (i + 1) (by omega) m (by omega)
    by_cases c : (i : Int) > 0
    · obtain ⟨j, rfl⟩ : ∃ j, i = j + 1 := ⟨i - 1, by omega⟩
      have e2 : wrap64 (((j + 1 : Nat) : Int) - 1) = (j : Int) := by rw [w64 (by omega) (by omega)]; omega
      have := g5 j (by omega) rfl
      rw [if_pos c, e2, if_pos (by omega), if_pos (by omega), er j (by omega), if_neg (by omega), e1]
      exact hn
    · rw [if_neg c, e1]
      exact hn

theorem good_spans {most u : Int} {l : List S71} (hl : l.length ≤ 10) (hG : Good most l u) (k : Nat) (hk : 20 < k) : spec_SpansOk.f k l most = some true := by
  unfold spec_SpansOk.f
  rw [if_neg (by omega)]
  exact good_ok hl hG l.length 0 (by omega) k (by omega)

theorem good_one : Good 168 [(⟨0, 168⟩ : S71)] 169 := by
  intro i h
  obtain rfl : i = 0 := by simp at h; omega
  refine ⟨by simp, by simp, by simp, by simp, fun j hj e => by omega⟩
theorem good_three : Good 168 [(⟨8, 18⟩ : S71), (⟨32, 42⟩ : S71), (⟨56, 66⟩ : S71)] 169 := by
  intro i h
  have h' : i = 0 ∨ i = 1 ∨ i = 2 := by simp at h; omega
  rcases h' with rfl | rfl | rfl
  · exact ⟨by simp, by simp, by simp, by simp, fun j hj e => by omega⟩
  · refine ⟨by simp, by simp, by simp, by simp, fun j hj e => ?_⟩
    obtain rfl : j = 0 := by omega
    simp
  · refine ⟨by simp, by simp, by simp, by simp, fun j hj e => ?_⟩
    obtain rfl : j = 1 := by omega
    simp
theorem good_none (most : Int) : Good most [] 0 := fun i h => by simp at h

theorem gweek_draw (x : List Int) (hx : x.length ≤ 1048576) (p s : Int) (hp : 0 ≤ p) (hp2 : p ≤ x.length) :
    ∃ (l0 l1 : List S71) (j q : Int), (l0.length ≤ 10 ∧ l1.length ≤ 10 ∧ (∃ v, Good 168 l0 v) ∧ ∃ v, Good 20000 l1 v) ∧ ∀ k, 11 < k → spec_l01Week.f k x p s = some (l0, l1, j, q) := by
  obtain ⟨r, j, q, z0, z00, z1, z2, z3⟩ := gspans_ex x hx p s hp hp2 168 40 (by omega) (by omega) (by omega)
  obtain ⟨n, j1, q1, f1, b1, b2, b3, b4⟩ := below_ex x hx j q z1 z2 6 (by omega)
  obtain ⟨r2, j2, q2, y0, y00, y1, y2, y3⟩ := gspans_ex x hx j1 q1 b3 b4 20000 150 (by omega) (by omega) (by omega)
  have c : n = 0 ∨ n = 1 ∨ n = 2 ∨ n = 3 ∨ n = 4 ∨ n = 5 := by omega
  have base : ∀ k, 11 < k → ∀ R, ((if n = 0 then (some ((([(⟨0, 168⟩ : S71)] : List (S71))), ([] : List (S71)), j1, q1)) else (if n = 1 then (spec_l01Week.j0 k n (n == 1) x j1 q1 r) else (spec_l01Week.j0 k n (n == 2) x j1 q1 r))) = some R) → spec_l01Week.f k x p s = some R := by
    intro k hk R h
    unfold spec_l01Week.f
    rw [z3 k (by omega)]
    simp only [Option.bind_some]
    rw [f1]
    simp only [Option.bind_some]
    exact h
  rcases c with rfl | rfl | rfl | rfl | rfl | rfl
  · exact ⟨_, _, _, _, ⟨by simp, by simp, ⟨_, good_one⟩, _, good_none _⟩, fun k hk => base k hk _ rfl⟩
  · refine ⟨r, r2, j2, q2, ⟨z0, y0, z00, y00⟩, fun k hk => base k hk _ ?_⟩
    obtain ⟨m, rfl, hm⟩ := succ_of hk
    rw [if_neg (by decide), if_pos (by decide), spec_l01Week.j0, if_pos (by decide), y3 m (by omega)]
    rfl
  · refine ⟨r, r2, j2, q2, ⟨z0, y0, z00, y00⟩, fun k hk => base k hk _ ?_⟩
    obtain ⟨m, rfl, hm⟩ := succ_of hk
    rw [if_neg (by decide), if_neg (by decide), spec_l01Week.j0, if_pos (by decide), y3 m (by omega)]
    rfl
  · refine ⟨[(⟨8, 18⟩ : S71), (⟨32, 42⟩ : S71), (⟨56, 66⟩ : S71)], [], j1, q1, ⟨by simp, by simp, ⟨_, good_three⟩, _, good_none _⟩, fun k hk => base k hk _ ?_⟩
    obtain ⟨m, rfl, hm⟩ := succ_of hk
    rw [if_neg (by decide), if_neg (by decide), spec_l01Week.j0, if_neg (by decide), if_pos (by decide)]
  · refine ⟨r, [], j1, q1, ⟨z0, by simp, z00, _, good_none _⟩, fun k hk => base k hk _ ?_⟩
    obtain ⟨m, rfl, hm⟩ := succ_of hk
    rw [if_neg (by decide), if_neg (by decide), spec_l01Week.j0, if_neg (by decide), if_neg (by decide)]
  · refine ⟨r, [], j1, q1, ⟨z0, by simp, z00, _, good_none _⟩, fun k hk => base k hk _ ?_⟩
    obtain ⟨m, rfl, hm⟩ := succ_of hk
    rw [if_neg (by decide), if_neg (by decide), spec_l01Week.j0, if_neg (by decide), if_neg (by decide)]

/-- A week is drawn, and it is right. -/
theorem gweek_ex (x : List Int) (hx : x.length ≤ 1048576) : ∃ l0 l1 : List S71, (∀ k, 20 < k → spec_WeekOk.f k l0 l1 = some true) ∧ ∀ k, 4000 < k → spec_DrawWeek.f k x = some (l0, l1) := by
  obtain ⟨s, hs⟩ := new_ex x hx
  obtain ⟨l0, l1, j, q, ⟨n0, n1, ⟨v0, g0⟩, v1, g1⟩, h⟩ := gweek_draw x hx 0 s (by omega) (by omega)
  refine ⟨l0, l1, fun k hk => ?_, fun k hk => ?_⟩
  · unfold spec_WeekOk.f
    rw [good_spans n0 g0 k hk]
    simp only [Option.bind_some, if_true]
    rw [good_spans n1 g1 k hk]
    rfl
  · unfold spec_DrawWeek.f
    rw [hs k hk]
    simp only [Option.bind_some]
    rw [h k (by omega)]
    rfl
end Go.Proofs.Ytcabbbidbkgalaa.DwFnFees
