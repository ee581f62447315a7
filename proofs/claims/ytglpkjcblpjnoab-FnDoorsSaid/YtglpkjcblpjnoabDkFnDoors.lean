/- Doors: one act at a right door leaves a right door, and what is full changes with the door open alone (plain). -/
import Derived.Test.YtglpkjcblpjnoabDnFnDoors
namespace Go.Proofs.Ytglpkjcblpjnoab.DlFnDoors
open Go.RowKit Go.Proofs.Ytglpkjcblpjnoab.QFnDoors Go.Proofs.YtglpkjcblpjnoabW.PrintWords Go.Proofs.YtglpkjcblpjnoabW.PrintLast
set_option linter.unusedVariables false
set_option linter.unusedSimpArgs false

theorem adv_keep (a b : Int) (l o f : Bool) (h : okD a b l o f = true) : ∃ r : Int × Int × Bool × Bool × Bool × Bool, (∀ k, spec_Advance.f (k + 2) a b l o f = some r) ∧ okD r.1 r.2.1 r.2.2.1 r.2.2.2.1 r.2.2.2.2.1 = true ∧ (r.2.2.2.2.1 ≠ f → o = true) := by
  obtain ⟨h1, h2, h3, h4⟩ := ok_range h
  rcases in_three h1 h2 with rfl | rfl | rfl <;> rcases in_seven h3 h4 with rfl | rfl | rfl | rfl | rfl | rfl | rfl <;> cases l <;> cases o <;> cases f <;> first | exact absurd h (by decide) | exact ⟨_, fun k => rfl, by first | decide | simp [okD, wrap64], by decide⟩
theorem rel_keep (a b : Int) (l o f : Bool) (h : okD a b l o f = true) : ∃ r : Int × Int × Bool × Bool × Bool × Bool, (∀ k, spec_Relent.f (k + 2) a b l o f = some r) ∧ okD r.1 r.2.1 r.2.2.1 r.2.2.2.1 r.2.2.2.2.1 = true ∧ (r.2.2.2.2.1 ≠ f → o = true) := by
  obtain ⟨h1, h2, h3, h4⟩ := ok_range h
  rcases in_three h1 h2 with rfl | rfl | rfl <;> rcases in_seven h3 h4 with rfl | rfl | rfl | rfl | rfl | rfl | rfl <;> cases l <;> cases o <;> cases f <;> first | exact absurd h (by decide) | exact ⟨_, fun k => rfl, by first | decide | simp [okD, wrap64], by decide⟩
theorem cutp_keep (a b : Int) (l o f : Bool) (h : okD a b l o f = true) : ∃ r : Int × Int × Bool × Bool × Bool, (∀ k, spec_CutPower.f (k + 2) a b l o f = some r) ∧ okD r.1 r.2.1 r.2.2.1 r.2.2.2.1 r.2.2.2.2 = true ∧ (r.2.2.2.2 ≠ f → o = true) := by
  obtain ⟨h1, h2, h3, h4⟩ := ok_range h
  rcases in_three h1 h2 with rfl | rfl | rfl <;> rcases in_seven h3 h4 with rfl | rfl | rfl | rfl | rfl | rfl | rfl <;> cases l <;> cases o <;> cases f <;> first | exact absurd h (by decide) | exact ⟨_, fun k => rfl, by first | decide | simp [okD, wrap64], by decide⟩
theorem hand_keep (a b : Int) (l o f : Bool) (c : Int) (hc : c = 1 ∨ c = 2 ∨ c = 3) (h : okD a b l o f = true) : ∃ r : Int × Int × Bool × Bool × Bool × Bool, (∀ k, spec_Hand.f (k + 4) a b l o f c = some r) ∧ okD r.1 r.2.1 r.2.2.1 r.2.2.2.1 r.2.2.2.2.1 = true ∧ (r.2.2.2.2.1 ≠ f → o = true) := by
  obtain ⟨h1, h2, h3, h4⟩ := ok_range h
  rcases hc with rfl | rfl | rfl <;> rcases in_three h1 h2 with rfl | rfl | rfl <;> rcases in_seven h3 h4 with rfl | rfl | rfl | rfl | rfl | rfl | rfl <;> cases l <;> cases o <;> cases f <;> first | exact absurd h (by decide) | exact ⟨_, fun k => rfl, by first | decide | simp [okD, wrap64], by decide⟩
theorem beg_keep (a b : Int) (l o f : Bool) (c : Int) (hc : c = 1 ∨ c = 2) (h : okD a b l o f = true) : ∃ r : Int × Int × Bool × Bool × Bool × Bool, (∀ k, spec_BeginDoor.f (k + 1) a b l o f c = some r) ∧ okD r.1 r.2.1 r.2.2.1 r.2.2.2.1 r.2.2.2.2.1 = true ∧ (r.2.2.2.2.1 ≠ f → o = true) := by
  obtain ⟨h1, h2, h3, h4⟩ := ok_range h
  rcases hc with rfl | rfl <;> rcases in_three h1 h2 with rfl | rfl | rfl <;> rcases in_seven h3 h4 with rfl | rfl | rfl | rfl | rfl | rfl | rfl <;> cases l <;> cases o <;> cases f <;> first | exact absurd h (by decide) | exact ⟨_, fun k => rfl, by first | decide | simp [okD, wrap64], by decide⟩
theorem rec_keep (a b : Int) (l o f : Bool) (h : okD a b l o f = true) : okD (recB a b l o f 0 0 0 0).1 (recB a b l o f 0 0 0 0).2.1 (recB a b l o f 0 0 0 0).2.2.1 (recB a b l o f 0 0 0 0).2.2.2.1 (recB a b l o f 0 0 0 0).2.2.2.2.1 = true ∧ ((recB a b l o f 0 0 0 0).2.2.2.2.1 ≠ f → o = true) := by
  obtain ⟨h1, h2, h3, h4⟩ := ok_range h
  rcases in_three h1 h2 with rfl | rfl | rfl <;> rcases in_seven h3 h4 with rfl | rfl | rfl | rfl | rfl | rfl | rfl <;> cases l <;> cases o <;> cases f <;> first | exact absurd h (by decide) | exact ⟨by decide, by decide⟩

theorem act_keep (a b : Int) (l o f : Bool) (c : Int) (h1 : 1 ≤ c) (h2 : c ≤ 9) (h : okD a b l o f = true) : ∃ r : Int × Int × Bool × Bool × Bool, (∀ k, spec_l04Act.f (k + 10) a b l o f c = some r) ∧ okD r.1 r.2.1 r.2.2.1 r.2.2.2.1 r.2.2.2.2 = true ∧ (r.2.2.2.2 ≠ f → o = true) := by
  rcases in_nine h1 h2 with rfl | rfl | rfl | rfl | rfl | rfl | rfl | rfl | rfl
  · obtain ⟨r, e, g1, g2⟩ := adv_keep a b l o f h
    refine ⟨(r.1, r.2.1, r.2.2.1, r.2.2.2.1, r.2.2.2.2.1), fun k => ?_, g1, g2⟩
    unfold spec_l04Act.f
    rw [if_pos rfl, e (k + 8)]
    rfl
  · obtain ⟨r, e, g1, g2⟩ := rel_keep a b l o f h
    refine ⟨(r.1, r.2.1, r.2.2.1, r.2.2.2.1, r.2.2.2.2.1), fun k => ?_, g1, g2⟩
    unfold spec_l04Act.f
    rw [if_neg (by decide), if_pos rfl, e (k + 8)]
    rfl
  · obtain ⟨r, e, g1, g2⟩ := cutp_keep a b l o f h
    refine ⟨(r.1, r.2.1, r.2.2.1, r.2.2.2.1, r.2.2.2.2), fun k => ?_, g1, g2⟩
    unfold spec_l04Act.f
    rw [if_neg (by decide), if_neg (by decide), if_pos rfl, e (k + 8)]
    rfl
  · obtain ⟨r, e, g1, g2⟩ := hand_keep a b l o f 1 (by decide) h
    refine ⟨(r.1, r.2.1, r.2.2.1, r.2.2.2.1, r.2.2.2.2.1), fun k => ?_, g1, g2⟩
    simp [spec_l04Act.f, spec_l04Act.j0, wrap64, e (k + 5)]
  · obtain ⟨r, e, g1, g2⟩ := hand_keep a b l o f 2 (by decide) h
    refine ⟨(r.1, r.2.1, r.2.2.1, r.2.2.2.1, r.2.2.2.2.1), fun k => ?_, g1, g2⟩
    simp [spec_l04Act.f, spec_l04Act.j0, wrap64, e (k + 5)]
  · obtain ⟨r, e, g1, g2⟩ := hand_keep a b l o f 3 (by decide) h
    refine ⟨(r.1, r.2.1, r.2.2.1, r.2.2.2.1, r.2.2.2.2.1), fun k => ?_, g1, g2⟩
    simp [spec_l04Act.f, spec_l04Act.j0, wrap64, e (k + 5)]
  · obtain ⟨g1, g2⟩ := rec_keep a b l o f h
    refine ⟨((recB a b l o f 0 0 0 0).1, (recB a b l o f 0 0 0 0).2.1, (recB a b l o f 0 0 0 0).2.2.1, (recB a b l o f 0 0 0 0).2.2.2.1, (recB a b l o f 0 0 0 0).2.2.2.2.1), fun k => ?_, g1, g2⟩
    simp [spec_l04Act.f, spec_rec (k + 8)]
  · obtain ⟨r, e, g1, g2⟩ := beg_keep a b l o f 1 (by decide) h
    refine ⟨(r.1, r.2.1, r.2.2.1, r.2.2.2.1, r.2.2.2.2.1), fun k => ?_, g1, g2⟩
    simp [spec_l04Act.f, spec_l04Act.j0, wrap64, e (k + 8)]
  · obtain ⟨r, e, g1, g2⟩ := beg_keep a b l o f 2 (by decide) h
    refine ⟨(r.1, r.2.1, r.2.2.1, r.2.2.2.1, r.2.2.2.2.1), fun k => ?_, g1, g2⟩
    simp [spec_l04Act.f, spec_l04Act.j0, wrap64, e (k + 8)]

/-- Acts at a door that isn't right, or too many: nothing. -/
theorem acts_none (x1 : List Int) (hl : x1.length ≤ 1048576) (a b : Int) (l o f : Bool) (h : okD a b l o f = false ∨ x1.length > 200) : ∀ k, x1.length + x1.length + 20 < k → spec_DoActs.f k a b l o f x1 = some (a, b, l, o, f, []) := by
  intro k hkk
  obtain ⟨m, rfl, hm⟩ := succ_of hkk
  unfold spec_DoActs.f
  rcases h with h | h
  · simp [spec_ok m, h, spec_DoActs.j0]
  · have h' : (x1.length : Int) > 200 := by omega
    cases hk : okD a b l o f <;> simp [spec_ok m, hk, spec_DoActs.j0, h']

/-- One act: a right door stays right, and what is full changes with the door open alone. -/
theorem one_keep (c a b : Int) (l o f : Bool) (h : okD a b l o f = true) : ∃ R : Int × Int × Bool × Bool × Bool × List Int, (∀ k, 40 < k → spec_DoActs.f k a b l o f [c] = some R) ∧ okD R.1 R.2.1 R.2.2.1 R.2.2.2.1 R.2.2.2.2.1 = true ∧ (R.2.2.2.2.1 ≠ f → o = true) := by
  cases hg : goodA c with
  | false =>
    refine ⟨(a, b, l, o, f, []), fun k hk => ?_, h, fun hh => absurd rfl hh⟩
    obtain ⟨m, rfl, hm⟩ := succ_of hk
    unfold spec_DoActs.f
    have hs := spec_pre [c] [] (by simp) a b l o f (a, b, l, o, f, []) 0 (fun h => absurd h (by simp [hg])) (fun _ => rfl) 1 0 rfl (by intro j hj; omega) m (by omega)
    rw [show ((0 : Nat) : Int) = 0 from rfl] at hs
    rw [spec_ok m, h]
    simp only [Option.bind_some, if_true, spec_DoActs.j0]
    rw [if_neg (by simp)]
    exact hs
  | true =>
    obtain ⟨g1, g2⟩ := goodA_range hg
    obtain ⟨⟨a', b', l', o', f'⟩, e, k1, k2⟩ := act_keep a b l o f c g1 g2 h
    obtain ⟨R, hR1, hR2⟩ := acts_loop [c] (by simp) (by simpa using hg) 1 0 [] a b l o f rfl (by simp)
    have hR : ∃ z, R = (a', b', l', o', f', z) := by
      have hh := (hR2 20 (by omega)).1
      rw [spec_DoActs.l1] at hh
      simp only [List.length_singleton] at hh
      rw [if_pos (by decide), if_pos (by decide), show rd [c] ((0 : Nat) : Int) = c from rfl, e 9] at hh
      simp only [Option.bind_some] at hh
      by_cases q : (!(a' == a) || (!(b' == b) || (!(l' == l) || (!(o' == o) || (!(f' == f)))))) = true
      · rw [if_pos q, if_pos (by decide), spec_DoActs.l1, if_neg (by simp [wrap64])] at hh
        exact ⟨_, (Option.some.inj hh).symm⟩
      · rw [if_neg q, spec_DoActs.l1, if_neg (by simp [wrap64])] at hh
        exact ⟨_, (Option.some.inj hh).symm⟩
    obtain ⟨z, rfl⟩ := hR
    refine ⟨(a', b', l', o', f', z), fun k hk => ?_, k1, k2⟩
    obtain ⟨m, rfl, hm⟩ := succ_of hk
    unfold spec_DoActs.f
    have hs := spec_pre [c] [] (by simp) a b l o f (a', b', l', o', f', z) 13 (fun _ q hq => (hR2 q hq).1) (fun h => absurd h (by simp [hg])) 1 0 rfl (by intro j hj; omega) m (by omega)
    rw [show ((0 : Nat) : Int) = 0 from rfl] at hs
    rw [spec_ok m, h]
    simp only [Option.bind_some, if_true, spec_DoActs.j0]
    rw [if_neg (by simp)]
    exact hs
end Go.Proofs.Ytglpkjcblpjnoab.DlFnDoors
