/- A door that is drawn is one of a few right doors (plain): the kernel runs through them. -/
import Derived.Test.YtglpkjcblpjnoabDcFnSigns
namespace Go.Proofs.Ytglpkjcblpjnoab.VdFnSigns
open Go.RowKit Go.Proofs.Ytglpkjcblpjnoab.QFnSigns Go.Proofs.Ytglpkjcblpjnoab.DwFnSigns Go.Proofs.YtglpkjcblpjnoabW.PrintWords Go.Proofs.YtglpkjcblpjnoabW.PrintLast
set_option linter.unusedVariables false
set_option linter.unusedSimpArgs false

abbrev Dr := Int × Int × Bool × Bool × Bool
def bs : List Bool := [false, true]
def allD : List Dr := [0, 1, 2].flatMap fun a => [0, 1, 2, 3, 4, 5, 6].flatMap fun b => bs.flatMap fun l => bs.flatMap fun o => bs.map fun f => (a, b, l, o, f)
def good : List Dr := allD.filter fun d => spec_DoorOk.f 5 d.1 d.2.1 d.2.2.1 d.2.2.2.1 d.2.2.2.2 == some true
def acts9 : List Int := [1, 2, 3, 4, 5, 6, 7, 8, 9]
theorem act_chk : (good.all fun d => acts9.all fun c => match spec_l04Act.f 20 d.1 d.2.1 d.2.2.1 d.2.2.2.1 d.2.2.2.2 c with | some d' => good.contains d' | none => false) = true := by kernel_rfl
theorem ok_chk : (good.all fun d => spec_DoorOk.f 1 d.1 d.2.1 d.2.2.1 d.2.2.2.1 d.2.2.2.2 == some true) = true := by kernel_rfl
theorem start (b : Bool) : (0, 0, false, false, b) ∈ good := by
  cases b
  · exact List.contains_iff_mem.1 (by kernel_rfl : good.contains (0, 0, false, false, false) = true)
  · exact List.contains_iff_mem.1 (by kernel_rfl : good.contains (0, 0, false, false, true) = true)
theorem up {α : Type} {f : Nat → Option α} (h : ∀ k, LeO (f k) (f (k + 1))) {k0 : Nat} {r : α} (h0 : f k0 = some r) : ∀ k, k0 ≤ k → f k = some r := by
  intro k hk
  induction hk with
  | refl => exact h0
  | step _ ih => exact h _ _ ih
theorem act_good {d : Dr} (hd : d ∈ good) {c : Int} (hc : c ∈ acts9) : ∃ d' ∈ good, ∀ k, 20 ≤ k → spec_l04Act.f k d.1 d.2.1 d.2.2.1 d.2.2.2.1 d.2.2.2.2 c = some d' := by
  have h := List.all_eq_true.1 (List.all_eq_true.1 act_chk d hd) c hc
  cases he : spec_l04Act.f 20 d.1 d.2.1 d.2.2.1 d.2.2.2.1 d.2.2.2.2 c with
  | none => rw [he] at h; cases h
  | some d' =>
    rw [he] at h
    exact ⟨d', List.contains_iff_mem.1 h, up (fun k => spec_l04Act.mono _ _ _ _ _ _ k) he⟩
theorem ok_good {d : Dr} (hd : d ∈ good) : ∀ k, 1 ≤ k → spec_DoorOk.f k d.1 d.2.1 d.2.2.1 d.2.2.2.1 d.2.2.2.2 = some true := by
  have h := List.all_eq_true.1 ok_chk d hd
  exact up (fun k => spec_DoorOk.mono _ _ _ _ _ k) (by simpa using h)
theorem in9 {c : Int} (hc : c ∈ acts9) : spec_l01In.f c 1 9 = some true := by
  have h : 1 ≤ c ∧ c ≤ 9 := by
    simp only [acts9, List.mem_cons, List.not_mem_nil, or_false] at hc
    omega
  unfold spec_l01In.f
  rw [if_pos h.1, decide_eq_true h.2]
theorem rdV (l : List Int) (i : Nat) (h : i < l.length) : rd l (i : Int) = l[i] := by
  unfold rd
  simp [List.getD_eq_getElem?_getD, h]
theorem do_l1 (x : List Int) (hl : x.length ≤ 200) (hx : ∀ c ∈ x, c ∈ acts9) : ∀ (n i : Nat) (z : List Int) (d : Dr), i + n = x.length → z.length ≤ i → d ∈ good →
    ∃ d' ∈ good, ∃ z', ∀ k, n + 30 < k → spec_DoActs.l1 k x z (i : Int) d.1 d.2.1 d.2.2.1 d.2.2.2.1 d.2.2.2.2 = some (d'.1, d'.2.1, d'.2.2.1, d'.2.2.2.1, d'.2.2.2.2, z') := by
  intro n
  induction n with
  | zero =>
    intro i z d hi hz hd
    refine ⟨d, hd, z, fun k hk => ?_⟩
    obtain ⟨m, rfl, _⟩ := succ_of hk
    simp only [spec_DoActs.l1]
    rw [if_neg (by omega)]
  | succ n ih =>
    intro i z d hi hz hd
    have hil : i < x.length := by omega
    have e1 : wrap64 ((i : Int) + 1) = ((i + 1 : Nat) : Int) := w64 (by omega) (by omega)
    obtain ⟨d1, h1, f1⟩ := act_good hd (hx _ (List.getElem_mem hil))
    obtain ⟨dA, hA, zA, fA⟩ := ih (i + 1) (z ++ [(i : Int)]) d1 (by omega) (by simp; omega) h1
    obtain ⟨dB, hB, zB, fB⟩ := ih (i + 1) z d1 (by omega) (by omega) h1
    by_cases c : (!(d1.1 == d.1) || (!(d1.2.1 == d.2.1) || (!(d1.2.2.1 == d.2.2.1) || (!(d1.2.2.2.1 == d.2.2.2.1) || (!(d1.2.2.2.2 == d.2.2.2.2)))))) = true
    · refine ⟨dA, hA, zA, fun k hk => ?_⟩
      obtain ⟨m, rfl, hm⟩ := succ_of hk
      simp only [spec_DoActs.l1]
      rw [if_pos (by omega), if_pos (by omega), rdV x i hil, f1 m (by omega)]
      simp only [Option.bind_some]
      rw [if_pos c, if_pos (by omega), e1]
      exact fA m (by omega)
    · refine ⟨dB, hB, zB, fun k hk => ?_⟩
      obtain ⟨m, rfl, hm⟩ := succ_of hk
      simp only [spec_DoActs.l1]
      rw [if_pos (by omega), if_pos (by omega), rdV x i hil, f1 m (by omega)]
      simp only [Option.bind_some]
      rw [if_neg c, e1]
      exact fB m (by omega)
theorem do_l0 (x : List Int) (hl : x.length ≤ 200) (hx : ∀ c ∈ x, c ∈ acts9) (a b : Int) (l o f : Bool) : ∀ (n i : Nat), i + n = x.length → ∀ k, n < k → spec_DoActs.l0 k x [] (i : Int) a b l o f = spec_DoActs.l1 (k - n - 1) x [] 0 a b l o f := by
  intro n
  induction n with
  | zero =>
    intro i hi k hk
    obtain ⟨m, rfl, _⟩ := succ_of hk
    simp only [spec_DoActs.l0]
    rw [if_neg (by omega)]
    rfl
  | succ n ih =>
    intro i hi k hk
    obtain ⟨m, rfl, hm⟩ := succ_of hk
    have hil : i < x.length := by omega
    have e1 : wrap64 ((i : Int) + 1) = ((i + 1 : Nat) : Int) := w64 (by omega) (by omega)
    simp only [spec_DoActs.l0]
    rw [if_pos (by omega), if_pos (by omega), rdV x i hil, in9 (hx _ (List.getElem_mem hil))]
    simp only [Option.bind_some, if_true]
    rw [e1, ih (i + 1) (by omega) m (by omega)]
    congr 1
    omega
theorem do_good (x : List Int) (hl : x.length ≤ 200) (hx : ∀ c ∈ x, c ∈ acts9) (d : Dr) (hd : d ∈ good) :
    ∃ d' ∈ good, ∃ z', ∀ k, 500 < k → spec_DoActs.f k d.1 d.2.1 d.2.2.1 d.2.2.2.1 d.2.2.2.2 x = some (d'.1, d'.2.1, d'.2.2.1, d'.2.2.2.1, d'.2.2.2.2, z') := by
  obtain ⟨d', h1, z', h2⟩ := do_l1 x hl hx x.length 0 [] d (by omega) (by simp) hd
  refine ⟨d', h1, z', fun k hk => ?_⟩
  obtain ⟨m, rfl, hm⟩ := succ_of hk
  unfold spec_DoActs.f
  simp only [Option.bind_some]
  rw [ok_good hd _ (by omega)]
  simp only [Option.bind_some, if_true, spec_DoActs.j0]
  rw [decide_eq_false (by omega), if_neg (by decide)]
  have h3 := do_l0 x hl hx d.1 d.2.1 d.2.2.1 d.2.2.2.1 d.2.2.2.2 x.length 0 (by omega) m (by omega)
  exact h3.trans (h2 _ (by omega))
theorem pick_ex (x : List Int) (hx : x.length ≤ 1048576) (p s : Int) (hp : 0 ≤ p) (hp2 : p ≤ x.length) (l : List Int) (hl : 0 < l.length) :
    ∃ v j q : Int, v ∈ l ∧ 0 ≤ j ∧ j ≤ x.length ∧ spec_l01PickInt.f x p s l = some (v, j, q) := by
  obtain ⟨r, j, q, f, b1, b2, b3, b4⟩ := below_ex x hx p s hp hp2 (l.length : Int) (by omega)
  refine ⟨_, j, q, rd_mem l r b1 b2, b3, b4, ?_⟩
  unfold spec_l01PickInt.f
  rw [f]
  simp only [Option.bind_some]
  rw [if_pos b1, if_pos b2]
theorem acts_l0 (x : List Int) (hx : x.length ≤ 1048576) : ∀ (d : Nat) (l : List Int) (p s : Int), l.length + d ≤ 200 → (∀ c ∈ l, c ∈ acts9) → 0 ≤ p → p ≤ x.length →
    ∃ (r : List Int) (j q : Int), r.length ≤ l.length + d ∧ (∀ c ∈ r, c ∈ acts9) ∧ 0 ≤ j ∧ j ≤ x.length ∧ ∀ k, d < k → spec_l04Acts.l0 k l (d : Int) x p s = some (r, j, q) := by
  intro d
  induction d with
  | zero =>
    intro l p s hl h9 hp hp2
    refine ⟨l, p, s, by omega, h9, hp, hp2, fun k hk => ?_⟩
    obtain ⟨m, rfl, _⟩ := succ_of hk
    simp only [spec_l04Acts.l0]
    rw [if_neg (by omega)]
  | succ d ih =>
    intro l p s hl h9 hp hp2
    have e1 : wrap64 (((d + 1 : Nat) : Int) - 1) = (d : Int) := by rw [w64 (by omega) (by omega)]; omega
    obtain ⟨v, j1, q1, hv, b3, b4, f1⟩ := pick_ex x hx p s hp hp2 [1, 1, 1, 1, 1, 8, 9, 8, 9, 2, 3, 4, 5, 6, 7] (by decide)
    have hv9 : v ∈ acts9 := by
      simp only [List.mem_cons, List.not_mem_nil, or_false] at hv
      simp only [acts9, List.mem_cons, List.not_mem_nil, or_false]
      omega
    obtain ⟨r, j, q, z0, z00, z1, z2, z3⟩ := ih (l ++ [v]) j1 q1 (by simp; omega) (fun c hc => by
      rcases List.mem_append.1 hc with h | h
      · exact h9 c h
      · rw [List.mem_singleton.1 h]; exact hv9) b3 b4
    refine ⟨r, j, q, by simp at z0; omega, z00, z1, z2, fun k hk => ?_⟩
    obtain ⟨m, rfl, hm⟩ := succ_of hk
    simp only [spec_l04Acts.l0]
    rw [if_pos (by omega), f1]
    simp only [Option.bind_some]
    rw [if_pos (by omega), e1]
    exact z3 m (by omega)
end Go.Proofs.Ytglpkjcblpjnoab.VdFnSigns
