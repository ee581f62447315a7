/- Doors: one act, and a list of acts: both packages do the same (plain). -/
import Derived.Test.YtglpkjcblpjnoabDrFnDoors
namespace Go.Proofs.Ytglpkjcblpjnoab.DlFnDoors
open Go.RowKit Go.Proofs.Ytglpkjcblpjnoab.QFnDoors Go.Proofs.YtglpkjcblpjnoabW.PrintWords Go.Proofs.YtglpkjcblpjnoabW.PrintLast
set_option linter.unusedVariables false
set_option linter.unusedSimpArgs false

theorem adv_same (a b : Int) (l o f : Bool) : ∃ r : Int × Int × Bool × Bool × Bool × Bool, ∀ k, spec_Advance.f (k + 2) a b l o f = some r ∧ impl_Advance.f (k + 2) a b l o f = some r := by
  cases h : okD a b l o f with
  | true =>
    obtain ⟨h1, h2, h3, h4⟩ := ok_range h
    rcases in_three h1 h2 with rfl | rfl | rfl <;> rcases in_seven h3 h4 with rfl | rfl | rfl | rfl | rfl | rfl | rfl <;> cases l <;> cases o <;> cases f <;> first | exact ⟨_, fun k => ⟨rfl, rfl⟩⟩ | exact absurd h (by decide)
  | false =>
    refine ⟨(a, b, l, o, f, false), fun k => ?_⟩
    unfold spec_Advance.f impl_Advance.f
    simp [spec_ok (k + 1), impl_ok (k + 1), h, spec_Advance.j0, impl_Advance.j0]

theorem rel_same (a b : Int) (l o f : Bool) : ∃ r : Int × Int × Bool × Bool × Bool × Bool, ∀ k, spec_Relent.f (k + 2) a b l o f = some r ∧ impl_Relent.f (k + 2) a b l o f = some r := by
  cases h : okD a b l o f with
  | true =>
    obtain ⟨h1, h2, h3, h4⟩ := ok_range h
    rcases in_three h1 h2 with rfl | rfl | rfl <;> rcases in_seven h3 h4 with rfl | rfl | rfl | rfl | rfl | rfl | rfl <;> cases l <;> cases o <;> cases f <;> first | exact ⟨_, fun k => ⟨rfl, rfl⟩⟩ | exact absurd h (by decide)
  | false =>
    refine ⟨(a, b, l, o, f, false), fun k => ?_⟩
    unfold spec_Relent.f impl_Relent.f
    simp [spec_ok (k + 1), impl_ok (k + 1), h, spec_Relent.j0]

theorem cutp_same (a b : Int) (l o f : Bool) : ∃ r : Int × Int × Bool × Bool × Bool, ∀ k, spec_CutPower.f (k + 2) a b l o f = some r ∧ impl_CutPower.f (k + 2) a b l o f = some r := by
  cases h : okD a b l o f with
  | true =>
    refine ⟨(a, 0, l, o, f), fun k => ?_⟩
    unfold spec_CutPower.f impl_CutPower.f
    simp [spec_ok (k + 1), impl_ok (k + 1), h]
  | false =>
    refine ⟨(a, b, l, o, f), fun k => ?_⟩
    unfold spec_CutPower.f impl_CutPower.f
    simp [spec_ok (k + 1), impl_ok (k + 1), h]

theorem hand_same (a b : Int) (l o f : Bool) (c : Int) (hc : c = 1 ∨ c = 2 ∨ c = 3) : ∃ r : Int × Int × Bool × Bool × Bool × Bool, ∀ k, spec_Hand.f (k + 4) a b l o f c = some r ∧ impl_Hand.f (k + 4) a b l o f c = some r := by
  cases h : okD a b l o f with
  | true =>
    obtain ⟨h1, h2, h3, h4⟩ := ok_range h
    rcases hc with rfl | rfl | rfl <;> rcases in_three h1 h2 with rfl | rfl | rfl <;> rcases in_seven h3 h4 with rfl | rfl | rfl | rfl | rfl | rfl | rfl <;> cases l <;> cases o <;> cases f <;> first | exact ⟨_, fun k => ⟨rfl, rfl⟩⟩ | exact absurd h (by decide)
  | false =>
    refine ⟨(a, b, l, o, f, false), fun k => ?_⟩
    unfold spec_Hand.f impl_Hand.f spec_l04Dark.f impl_isCut.f
    simp [spec_ok (k + 3), impl_ok (k + 3), h]

theorem beg_same (a b : Int) (l o f : Bool) (c : Int) (hc : c = 1 ∨ c = 2) : ∃ r : Int × Int × Bool × Bool × Bool × Bool, ∀ k, spec_BeginDoor.f (k + 1) a b l o f c = some r ∧ impl_BeginDoor.f (k + 1) a b l o f c = some r := by
  cases h : okD a b l o f with
  | true =>
    by_cases h0 : a = 0
    · rcases hc with rfl | rfl
      · cases f with
        | true => refine ⟨(a, b, l, o, true, false), fun k => ?_⟩; unfold spec_BeginDoor.f impl_BeginDoor.f; simp only [spec_ok k, impl_ok k, h, Option.bind_some, if_true]; first | (simp [h0]; done) | simp [h0, spec_BeginDoor.j0, impl_BeginDoor.j0]
        | false => refine ⟨(1, 1, l, o, false, true), fun k => ?_⟩; unfold spec_BeginDoor.f impl_BeginDoor.f; simp only [spec_ok k, impl_ok k, h, Option.bind_some, if_true]; first | (simp [h0]; done) | simp [h0, spec_BeginDoor.j0, impl_BeginDoor.j0]
      · cases f with
        | true => refine ⟨(2, 1, l, o, true, true), fun k => ?_⟩; unfold spec_BeginDoor.f impl_BeginDoor.f; simp only [spec_ok k, impl_ok k, h, Option.bind_some, if_true]; first | (simp [h0]; done) | simp [h0, spec_BeginDoor.j0, impl_BeginDoor.j0]
        | false => refine ⟨(a, b, l, o, false, false), fun k => ?_⟩; unfold spec_BeginDoor.f impl_BeginDoor.f; simp only [spec_ok k, impl_ok k, h, Option.bind_some, if_true]; first | (simp [h0]; done) | simp [h0, spec_BeginDoor.j0, impl_BeginDoor.j0]
    · refine ⟨(a, b, l, o, f, false), fun k => ?_⟩; unfold spec_BeginDoor.f impl_BeginDoor.f; simp only [spec_ok k, impl_ok k, h, Option.bind_some, if_true]; first | (simp [h0]; done) | simp [h0, spec_BeginDoor.j0, impl_BeginDoor.j0]
  | false => refine ⟨(a, b, l, o, f, false), fun k => ?_⟩; unfold spec_BeginDoor.f impl_BeginDoor.f; first | (simp [spec_ok k, impl_ok k, h]; done) | simp [spec_ok k, impl_ok k, h, spec_BeginDoor.j0, impl_BeginDoor.j0]

theorem in_nine {c : Int} (h1 : 1 ≤ c) (h2 : c ≤ 9) : c = 1 ∨ c = 2 ∨ c = 3 ∨ c = 4 ∨ c = 5 ∨ c = 6 ∨ c = 7 ∨ c = 8 ∨ c = 9 := by omega

theorem act_same (a b : Int) (l o f : Bool) (c : Int) (h1 : 1 ≤ c) (h2 : c ≤ 9) : ∃ r : Int × Int × Bool × Bool × Bool, ∀ k, spec_l04Act.f (k + 10) a b l o f c = some r ∧ impl_acted.f (k + 10) a b l o f c = some r := by
  rcases in_nine h1 h2 with rfl | rfl | rfl | rfl | rfl | rfl | rfl | rfl | rfl
  · obtain ⟨r, h⟩ := adv_same a b l o f
    refine ⟨(r.1, r.2.1, r.2.2.1, r.2.2.2.1, r.2.2.2.2.1), fun k => ⟨?_, ?_⟩⟩
    rotate_left
    · unfold impl_acted.f
      rw [if_pos rfl, (h (k + 8)).2]
      rfl
    · unfold spec_l04Act.f
      rw [if_pos rfl, (h (k + 8)).1]
      rfl
  · obtain ⟨r, h⟩ := rel_same a b l o f
    refine ⟨(r.1, r.2.1, r.2.2.1, r.2.2.2.1, r.2.2.2.2.1), fun k => ⟨?_, ?_⟩⟩
    rotate_left
    · unfold impl_acted.f
      rw [if_neg (by decide), if_pos rfl, (h (k + 8)).2]
      rfl
    · unfold spec_l04Act.f
      rw [if_neg (by decide), if_pos rfl, (h (k + 8)).1]
      rfl
  · obtain ⟨r, h⟩ := cutp_same a b l o f
    refine ⟨(r.1, r.2.1, r.2.2.1, r.2.2.2.1, r.2.2.2.2), fun k => ⟨?_, ?_⟩⟩
    rotate_left
    · unfold impl_acted.f
      rw [if_neg (by decide), if_neg (by decide), if_pos rfl, (h (k + 8)).2]
      rfl
    · unfold spec_l04Act.f
      rw [if_neg (by decide), if_neg (by decide), if_pos rfl, (h (k + 8)).1]
      rfl
  · obtain ⟨r, h⟩ := hand_same a b l o f 1 (by decide)
    refine ⟨(r.1, r.2.1, r.2.2.1, r.2.2.2.1, r.2.2.2.2.1), fun k => ⟨?_, ?_⟩⟩
    · simp [spec_l04Act.f, spec_l04Act.j0, wrap64, (h (k + 5)).1]
    · simp [impl_acted.f, impl_acted.j0, wrap64, (h (k + 5)).2]
  · obtain ⟨r, h⟩ := hand_same a b l o f 2 (by decide)
    refine ⟨(r.1, r.2.1, r.2.2.1, r.2.2.2.1, r.2.2.2.2.1), fun k => ⟨?_, ?_⟩⟩
    · simp [spec_l04Act.f, spec_l04Act.j0, wrap64, (h (k + 5)).1]
    · simp [impl_acted.f, impl_acted.j0, wrap64, (h (k + 5)).2]
  · obtain ⟨r, h⟩ := hand_same a b l o f 3 (by decide)
    refine ⟨(r.1, r.2.1, r.2.2.1, r.2.2.2.1, r.2.2.2.2.1), fun k => ⟨?_, ?_⟩⟩
    · simp [spec_l04Act.f, spec_l04Act.j0, wrap64, (h (k + 5)).1]
    · simp [impl_acted.f, impl_acted.j0, wrap64, (h (k + 5)).2]
  · refine ⟨((recB a b l o f 0 0 0 0).1, (recB a b l o f 0 0 0 0).2.1, (recB a b l o f 0 0 0 0).2.2.1, (recB a b l o f 0 0 0 0).2.2.2.1, (recB a b l o f 0 0 0 0).2.2.2.2.1), fun k => ⟨?_, ?_⟩⟩
    · simp [spec_l04Act.f, spec_rec (k + 8)]
    · simp [impl_acted.f, impl_acted.j0, impl_rec (k + 3)]
  · obtain ⟨r, h⟩ := beg_same a b l o f 1 (by decide)
    refine ⟨(r.1, r.2.1, r.2.2.1, r.2.2.2.1, r.2.2.2.2.1), fun k => ⟨?_, ?_⟩⟩
    · simp [spec_l04Act.f, spec_l04Act.j0, wrap64, (h (k + 8)).1]
    · first | (simp [impl_acted.f, impl_acted.j0, wrap64, (h (k + 8)).2]; done) | simp [impl_acted.f, impl_acted.j0, impl_acted.j1, wrap64, (h (k + 7)).2]
  · obtain ⟨r, h⟩ := beg_same a b l o f 2 (by decide)
    refine ⟨(r.1, r.2.1, r.2.2.1, r.2.2.2.1, r.2.2.2.2.1), fun k => ⟨?_, ?_⟩⟩
    · simp [spec_l04Act.f, spec_l04Act.j0, wrap64, (h (k + 8)).1]
    · first | (simp [impl_acted.f, impl_acted.j0, wrap64, (h (k + 8)).2]; done) | simp [impl_acted.f, impl_acted.j0, impl_acted.j1, wrap64, (h (k + 7)).2]
end Go.Proofs.Ytglpkjcblpjnoab.DlFnDoors
