/- A grant that is added takes no right away, and gives one to somebody new just if he who grants it may hand it on: for every code (plain). -/
import Derived.Test.YtcpjfkagbnoagaaGsFnGranting
import Derived.Test.YtcpjfkagbnoagaaDgFnGranting
namespace Go.Proofs.Ytcpjfkagbnoagaa.Pure
open Go.RowKit Go.Proofs.Ytcpjfkagbnoagaa.QFnGranting Go.Proofs.Ytcpjfkagbnoagaa.GrFnGranting Go.Proofs.Ytcpjfkagbnoagaa.GcFnGranting Go.Proofs.YtcpjfkagbnoagaaW.PrintWords Go.Proofs.YtcpjfkagbnoagaaW.PrintLast
open Go.Proofs.Ytcpjfkagbnoagaa.DwFnGranting (drawn)
set_option linter.unusedVariables false
set_option linter.unusedSectionVars false
set_option linter.unusedSimpArgs false

def ag (l : List S25) (g : S25) : List S25 × Bool :=
  if okGs l = true then (if (l.length : Int) = 30 then (l, false) else (if okG g = true then (if g.f6 = true then (l, false) else (l ++ [g], true)) else (l, false))) else (l, false)
theorem spec_ag (l : List S25) (hl : l.length ≤ 1048576) (g : S25) : ∀ k, l.length < k → spec_AddGrant.f k l g.f0 g.f1 g.f2 g.f3 g.f4 g.f5 g.f6 = some (ag l g) := by
  intro k hk
  unfold spec_AddGrant.f ag
  simp only [Option.bind_some, List.nil_append, List.length_nil, Nat.zero_add]
  rw [if_pos (by omega), spec_oks l hl k hk]
  simp only [Option.bind_some]
  rw [spec_ok]
  simp only [Option.bind_some]
  by_cases h1 : okGs l = true
  · rw [if_pos h1, if_pos h1]
    by_cases h2 : (l.length : Int) = 30
    · rw [if_pos h2, if_pos h2]
    · rw [if_neg h2, if_neg h2]
      by_cases h3 : okG g = true
      · rw [if_pos h3, if_pos h3]
        by_cases h4 : g.f6 = true
        · rw [if_pos h4, if_pos h4]
        · rw [if_neg h4, if_neg h4, if_pos (by omega)]
      · rw [if_neg h3, if_neg h3]
  · rw [if_neg h1, if_neg h1]
theorem impl_ag (l : List S25) (hl : l.length ≤ 1048576) (g : S25) : ∀ k, l.length < k → impl_AddGrant.f k l g.f0 g.f1 g.f2 g.f3 g.f4 g.f5 g.f6 = some (ag l g) := by
  intro k hk
  unfold impl_AddGrant.f impl_Grant_68.f ag
  rw [if_pos (by omega), impl_oks l hl k hk, impl_ok]
  simp only [Option.bind_some]
  by_cases h1 : okGs l = true
  · rw [if_pos h1, if_pos h1]
    by_cases h2 : (l.length : Int) = 30
    · rw [if_pos h2, if_pos h2]
    · rw [if_neg h2, if_neg h2]
      by_cases h3 : okG g = true
      · rw [if_pos h3, if_pos h3]
        by_cases h4 : g.f6 = true
        · rw [if_pos h4, if_pos h4]
        · rw [if_neg h4, if_neg h4, if_pos (by omega)]
      · rw [if_neg h3, if_neg h3]
  · rw [if_neg h1, if_neg h1]
theorem sameG_l0 (l : List S25) (hl : l.length ≤ 1048576) : ∀ (d i : Nat), i + d = l.length → ∀ k, d < k → laws_sameGrants.l0 k l l (i : Int) = some true := by
  intro d
  induction d with
  | zero =>
    intro i hi k hk
    obtain ⟨m, rfl, _⟩ := succ_of hk
    simp only [laws_sameGrants.l0]
    rw [if_neg (by omega)]
  | succ d ih =>
    intro i hi k hk
    obtain ⟨m, rfl, hm⟩ := succ_of hk
    have e1 : wrap64 ((i : Int) + 1) = ((i + 1 : Nat) : Int) := w64 (by omega) (by omega)
    simp only [laws_sameGrants.l0, beq_self_eq_true, Bool.not_true, Bool.or_false, Bool.false_eq_true, if_false]
    rw [if_pos (by omega), if_pos (by omega), if_pos (by omega), e1]
    exact ih (i + 1) (by omega) m (by omega)
theorem sameG (l : List S25) (hl : l.length ≤ 1048576) : ∀ k, l.length < k → laws_sameGrants.f k l l = some true := by
  intro k hk
  unfold laws_sameGrants.f
  rw [if_pos rfl]
  exact sameG_l0 l hl l.length 0 (by omega) k hk

theorem drawn_ok {g : S25} (h : drawn g) : okG g = true := by
  obtain ⟨⟨a, b⟩, ⟨c, d⟩, e, ⟨f, f2⟩, ⟨g1, g2⟩, h1, h2, h3⟩ := h
  exact okG_mk ⟨⟨by omega, by omega⟩, ⟨by omega, by omega⟩, e, ⟨by omega, by omega⟩, ⟨by omega, by omega⟩, ⟨by omega, by omega⟩, ⟨by omega, by omega⟩, h2⟩
theorem drawn_oks {l : List S25} (hl : l.length ≤ 30) (h : ∀ g ∈ l, drawn g) : okGs l = true := by
  unfold okGs
  simp only [Bool.and_eq_true, decide_eq_true_eq, List.all_eq_true]
  exact ⟨hl, fun g hg => drawn_ok (h g hg)⟩

abbrev R (l : List S25) (w p n sp : Int) (k : Nat) (x : Int) : Bool := Rt.reach (·.f0) (·.f1) (·.f3) (ap p n) l w sp k x
section
variable {l : List S25} {g0 : S25} {p n : Int} (hl : ∀ g ∈ l, drawn g) (h0 : 1 ≤ g0.f0 ∧ g0.f0 ≤ 6) (h1 : g0.f1 = 30) (ha : ap p n g0 = true)
include hl h0
theorem no30 (w sp : Int) (k : Nat) : R (l ++ [g0]) w p n sp (k + 1) 30 = false := by
  cases h : R (l ++ [g0]) w p n sp (k + 1) 30 with
  | false => rfl
  | true =>
    obtain ⟨g, hg, _, _, _, hf⟩ := Rt.reach_succ.1 h
    rcases List.mem_append.1 hg with h2 | h2
    · have := (hl g h2).1.2; omega
    · rw [List.mem_singleton.1 h2] at hf; omega
include h1 ha
theorem last30 (sp : Int) : ∀ (k : Nat) (x : Int), x ≤ 6 → (R (l ++ [g0]) 30 p n sp (k + 1) x = true ↔ R l g0.f0 p n (sp + 1) k x = true ∧ sp ≤ g0.f3) := by
  intro k
  induction k with
  | zero =>
    intro x hx
    constructor
    · intro h
      obtain ⟨g, hg, _, hd, hr, hf⟩ := Rt.reach_succ.1 h
      have hr' : g.f1 = 30 := by simpa [Rt.reach] using hr
      rcases List.mem_append.1 hg with h2 | h2
      · have := (hl g h2).2.1.2; omega
      · rw [List.mem_singleton.1 h2] at hf hd
        refine ⟨by simp [R, Rt.reach, hf], by omega⟩
    · rintro ⟨h, hd⟩
      have hx' : x = g0.f0 := by simpa [R, Rt.reach] using h
      exact Rt.reach_succ.2 ⟨g0, List.mem_append_right _ (List.mem_singleton_self _), ha, by omega, by simp [Rt.reach, h1], hx'.symm⟩
  | succ k ih =>
    intro x hx
    constructor
    · intro h
      obtain ⟨g, hg, hap, hd, hr, hf⟩ := Rt.reach_succ.1 h
      rcases List.mem_append.1 hg with h2 | h2
      · obtain ⟨i1, i2⟩ := (ih g.f1 (hl g h2).2.1.2).1 hr
        exact ⟨Rt.reach_succ.2 ⟨g, h2, hap, by omega, i1, hf⟩, i2⟩
      · rw [List.mem_singleton.1 h2] at hr
        rw [h1] at hr
        have := no30 hl h0 (p := p) (n := n) 30 sp k
        rw [show Rt.reach _ _ _ _ (l ++ [g0]) 30 sp (k + 1) 30 = R (l ++ [g0]) 30 p n sp (k + 1) 30 from rfl, this] at hr
        cases hr
    · rintro ⟨h, hd⟩
      obtain ⟨g, hg, hap, hd2, hr, hf⟩ := Rt.reach_succ.1 h
      exact Rt.reach_succ.2 ⟨g, List.mem_append_left _ hg, hap, by omega, (ih g.f1 (hl g hg).2.1.2).2 ⟨hr, hd⟩, hf⟩
theorem may30 (sp o : Int) (hs : 0 ≤ sp) (ho : o ≤ 6) : mayR (l ++ [g0]) p n 30 sp o = true ↔ mayR l p n g0.f0 (sp + 1) o = true ∧ sp ≤ g0.f3 := by
  constructor
  · intro h
    obtain ⟨k, hk, hr⟩ := Rt.may_iff.1 h
    cases k with
    | zero => have : o = 30 := by simpa [Rt.reach] using hr
              omega
    | succ k =>
      obtain ⟨i1, i2⟩ := (last30 hl h0 h1 ha sp k o ho).1 hr
      exact ⟨Rt.may_iff.2 ⟨k, by omega, i1⟩, i2⟩
  · rintro ⟨h, hd⟩
    obtain ⟨k, hk, hr⟩ := Rt.may_iff.1 h
    by_cases h6 : k = 6
    · subst h6
      obtain ⟨g, hg, _, hd2, _, _⟩ := Rt.reach_succ.1 hr
      have := (hl g hg).2.2.2.2.1.2
      omega
    · exact Rt.may_iff.2 ⟨k + 1, by omega, (last30 hl h0 h1 ha sp k o ho).2 ⟨hr, hd⟩⟩
end
theorem never30 {l : List S25} {p n o : Int} (hl : ∀ g ∈ l, drawn g) (ho : o ≤ 6) : mayR l p n 30 0 o = false := by
  have key : ∀ (k : Nat) (x : Int), x ≤ 6 → R l 30 p n 0 k x = false := by
    intro k
    induction k with
    | zero => intro x hx; simp only [R, Rt.reach, beq_eq_false_iff_ne]; omega
    | succ k ih =>
      intro x hx
      cases h : R l 30 p n 0 (k + 1) x with
      | false => rfl
      | true =>
        obtain ⟨g, hg, _, _, hr, _⟩ := Rt.reach_succ.1 h
        have h2 := ih g.f1 (hl g hg).2.1.2
        rw [show Rt.reach _ _ _ _ l 30 0 k g.f1 = R l 30 p n 0 k g.f1 from rfl, h2] at hr
        cases hr
  cases h : mayR l p n 30 0 o with
  | false => rfl
  | true =>
    obtain ⟨k, _, hr⟩ := Rt.may_iff.1 h
    have := key k o ho
    rw [show Rt.reach _ _ _ _ l 30 0 k o = R l 30 p n 0 k o from rfl, this] at hr
    cases hr
theorem spar_le (l : List S25) (p n w o : Int) : ∀ d : Nat, 0 ≤ sparB l p n w o d ∧ sparB l p n w o d ≤ d := by
  intro d
  induction d with
  | zero => exact ⟨Int.le_refl _, Int.le_refl _⟩
  | succ d ih =>
    simp only [sparB]
    by_cases h : mayR l p n w ((d + 1 : Nat) : Int) o = true
    · rw [if_pos h]; omega
    · rw [if_neg h]; omega
theorem spar_iff (l : List S25) (p n w o : Int) : ∀ (d : Nat) (s : Int), 1 ≤ s → s ≤ d → (s ≤ sparB l p n w o d ↔ mayR l p n w s o = true) := by
  intro d
  induction d with
  | zero => intro s h1 h2; omega
  | succ d ih =>
    intro s h1 h2
    simp only [sparB]
    by_cases h : mayR l p n w ((d + 1 : Nat) : Int) o = true
    · rw [if_pos h]
      exact ⟨fun _ => may_less h2 h, fun _ => h2⟩
    · rw [if_neg h]
      by_cases he : s = ((d + 1 : Nat) : Int)
      · have := (spar_le l p n w o d).2
        rw [he]
        exact ⟨fun h3 => by omega, fun h3 => absurd h3 h⟩
      · exact ih s h1 (by omega)
theorem spare_new {l : List S25} {g0 : S25} {p n o : Int} (hl : ∀ g ∈ l, drawn g) (h0 : 1 ≤ g0.f0 ∧ g0.f0 ≤ 6) (h1 : g0.f1 = 30) (ha : ap p n g0 = true) (hd : 0 ≤ g0.f3 ∧ g0.f3 ≤ 2) (ho : o ≤ 6) (hs : 1 ≤ sparB l p n g0.f0 o 5) :
    sparB (l ++ [g0]) p n 30 o 5 = mn g0.f3 (sparB l p n g0.f0 o 5 - 1) := by
  have a1 := spar_le l p n g0.f0 o 5
  have a2 := spar_le (l ++ [g0]) p n 30 o 5
  have b1 := spar_iff l p n g0.f0 o 5
  have b2 := spar_iff (l ++ [g0]) p n 30 o 5
  have b3 := fun s hs => may30 hl h0 h1 ha s o hs ho
  generalize sparB l p n g0.f0 o 5 = S at *
  generalize sparB (l ++ [g0]) p n 30 o 5 = T at *
  have hX : ∃ X, mn g0.f3 (S - 1) = X ∧ X ≤ g0.f3 ∧ X ≤ S - 1 ∧ (X = g0.f3 ∨ X = S - 1) := by
    unfold mn
    by_cases h : S - 1 < g0.f3
    · exact ⟨S - 1, by rw [if_pos h], by omega, by omega, .inr rfl⟩
    · exact ⟨g0.f3, by rw [if_neg h], by omega, by omega, .inl rfl⟩
  obtain ⟨X, hX, x1, x2, x3⟩ := hX
  rw [hX]
  have le1 : X ≤ T := by
    by_cases c : X ≤ 0
    · omega
    · exact (b2 X (by omega) (by omega)).2 ((b3 X (by omega)).2 ⟨(b1 (X + 1) (by omega) (by omega)).1 (by omega), x1⟩)
  have le2 : T ≤ X := by
    by_cases c : T ≤ 0
    · omega
    · obtain ⟨c1, c2⟩ := (b3 T (by omega)).1 ((b2 T (by omega) (by omega)).1 (Int.le_refl _))
      have := (b1 (T + 1) (by omega) (by omega)).2 c1
      omega
  omega
theorem spare_ge (l : List S25) (o w p n : Int) : decide (spareB l o w p n ≥ 0) = mayB l o w p n := by
  unfold spareB
  cases mayB l o w p n with
  | false => rfl
  | true => rw [if_pos rfl]; exact decide_eq_true (spar_le l p n w o 5).1
section
variable {l : List S25} (hl8 : l.length ≤ 8) (hl : ∀ g ∈ l, drawn g) {o w d now : Int} (ho : 1 ≤ o ∧ o ≤ 6) (hw : 1 ≤ w ∧ w ≤ 6) (hd : 0 ≤ d ∧ d ≤ 2) (hn : 0 ≤ now ∧ now ≤ 39)
abbrev G0 (w d : Int) : S25 := ⟨w, 30, 0, d, 0, 100, false⟩
include hw hd
theorem g0_ok : okG (G0 w d) = true := okG_mk (y := G0 w d) ⟨⟨by show (1 : Int) ≤ w; omega, by show w ≤ 40; omega⟩, ⟨by show (1 : Int) ≤ 30; omega, by show (30 : Int) ≤ 40; omega⟩, by show w ≠ 30; omega, ⟨by show (0 : Int) ≤ 0; omega, by show (0 : Int) ≤ 999; omega⟩, ⟨by show 0 ≤ d; omega, by show d ≤ 5; omega⟩, ⟨by show (0 : Int) ≤ 0; omega, by show (0 : Int) ≤ 20000; omega⟩, ⟨by show (0 : Int) ≤ 100; omega, by show (100 : Int) ≤ 20000; omega⟩, by show (0 : Int) < 100; omega⟩
include hn
theorem g0_ap : ap 1 now (G0 w d) = true := ap_mk (g := G0 w d) (g0_ok hw hd) rfl (.inl rfl) (by show 0 ≤ now; omega) (by show now < 100; omega)
include hl8 hl
theorem y_oks : okGs (l ++ [G0 w d]) = true := by
  unfold okGs
  simp only [Bool.and_eq_true, decide_eq_true_eq, List.all_eq_true, List.length_append, List.length_cons, List.length_nil]
  refine ⟨by omega, fun g hg => ?_⟩
  rcases List.mem_append.1 hg with h | h
  · exact drawn_ok (hl g h)
  · rw [List.mem_singleton.1 h]; exact g0_ok hw hd
theorem more (q : Int) (h : mayB l o q 1 now = true) : mayB (l ++ [G0 w d]) o q 1 now = true := by
  unfold mayB goodB at h ⊢
  simp only [Bool.and_eq_true] at h ⊢
  exact ⟨⟨y_oks hl8 hl hw hd hn, h.1.2⟩, Rt.may_mono (fun g hg hap => ⟨List.mem_append_left _ hg, hap⟩) (Int.le_refl _) h.2⟩
include ho
theorem good30 : goodB (l ++ [G0 w d]) o 30 1 now = true := by
  unfold goodB
  rw [y_oks hl8 hl hw hd hn, decide_eq_true (show 1 ≤ o ∧ o ≤ 40 by omega), decide_eq_true (show 0 ≤ now ∧ now ≤ 20000 by omega)]
  rfl
theorem good1 : goodB l o w 1 now = true := by
  unfold goodB
  rw [drawn_oks (by omega) hl, decide_eq_true (show 1 ≤ o ∧ o ≤ 40 by omega), decide_eq_true (show 1 ≤ w ∧ w ≤ 40 by omega), decide_eq_true (show 0 ≤ now ∧ now ≤ 20000 by omega)]
  rfl
theorem may_y : mayB (l ++ [G0 w d]) o 30 1 now = decide (spareB l o w 1 now ≥ 1) := by
  unfold spareB mayB
  rw [good30 hl8 hl ho hw hd hn, good1 hl8 hl ho hw hd hn, Bool.true_and, Bool.true_and]
  have h30 := may30 (g0 := G0 w d) hl hw rfl (g0_ap hw hd hn) 0 o (by omega) ho.2
  have hi := spar_iff l 1 now w o 5 1 (by omega) (by omega)
  cases hm : mayR (l ++ [G0 w d]) 1 now 30 0 o with
  | true =>
    have h1 := (h30.1 hm).1
    rw [if_pos (may_less (by omega) h1), decide_eq_true (hi.2 h1)]
  | false =>
    have h1 : ¬ mayR l 1 now w 1 o = true := fun h => by
      have := h30.2 ⟨h, hd.1⟩
      rw [hm] at this; cases this
    symm
    apply decide_eq_false
    intro hc
    by_cases c : mayR l 1 now w 0 o = true
    · rw [if_pos c] at hc; exact h1 (hi.1 hc)
    · rw [if_neg c] at hc; omega
theorem spare_y (h : spareB l o w 1 now ≥ 1) : spareB (l ++ [G0 w d]) o 30 1 now = mn d (spareB l o w 1 now - 1) := by
  have hy := may_y hl8 hl ho hw hd hn
  rw [decide_eq_true h] at hy
  have hm : mayB l o w 1 now = true := by
    rw [← spare_ge]; exact decide_eq_true (by omega)
  unfold spareB at h ⊢
  rw [if_pos hm] at h
  rw [if_pos hy, if_pos hm]
  exact spare_new (g0 := G0 w d) hl hw rfl (g0_ap hw hd hn) hd ho.2 h
theorem spare_own (he : o = w) : spareB l o w 1 now = 5 := by
  have hm : ∀ sp, mayR l 1 now w sp o = true := fun sp => Rt.may_iff.2 ⟨0, by omega, by simp [Rt.reach, he]⟩
  unfold spareB mayB
  rw [good1 hl8 hl ho hw hd hn, hm, if_pos (show (true && true) = true from rfl)]
  have h1 := (spar_iff l 1 now w o 5 5 (by omega) (by omega)).2 (hm 5)
  have h2 := (spar_le l 1 now w o 5).2
  omega
theorem law_l0 : ∀ (k : Nat) (i : Nat), i + k = 8 → 1 ≤ i → ∀ f, 2000 + k < f → laws_FnGranting.l0 f l o now (l ++ [G0 w d]) (spareB l o w 1 now) (i : Int) w 30 0 d 0 100 false = some true := by
  have hlen : (l ++ [G0 w d]).length = l.length + 1 := by simp
  intro k
  induction k with
  | zero =>
    intro i hi h1 f hf
    obtain ⟨m, rfl, hm⟩ := succ_of hf
    simp only [laws_FnGranting.l0]
    rw [if_neg (by omega), impl_may l (by omega) _ _ _ _ _ (by omega), impl_may _ (by omega) _ _ _ _ _ (by omega), may_y hl8 hl ho hw hd hn]
    have hno : mayB l o 30 1 now = false := by
      unfold mayB
      rw [never30 hl ho.2, Bool.and_false]
    rw [hno]
    simp only [Option.bind_some, Bool.false_eq_true, if_false]
    rw [if_pos (by simp)]
    by_cases c : spareB l o w 1 now < 1
    · rw [if_pos c]
    · rw [if_neg c, impl_spare _ (by omega) _ _ _ _ _ (by omega), spare_y hl8 hl ho hw hd hn (by omega)]
      have hb : spareB l o w 1 now ≤ 5 := by
        unfold spareB
        split
        · exact (spar_le l 1 now w o 5).2
        · omega
      rw [w64 (by omega) (by omega)]
      simp
  | succ k ih =>
    intro i hi h1 f hf
    obtain ⟨m, rfl, hm⟩ := succ_of hf
    have e1 : wrap64 ((i : Int) + 1) = ((i + 1 : Nat) : Int) := w64 (by omega) (by omega)
    simp only [laws_FnGranting.l0]
    rw [if_pos (by omega), impl_may l (by omega) _ _ _ _ _ (by omega), impl_may _ (by omega) _ _ _ _ _ (by omega), e1, ih (i + 1) (by omega) (by omega) m (by omega)]
    simp only [Option.bind_some]
    cases hq : mayB l o (i : Int) 1 now with
    | false => rfl
    | true => rw [more hl8 hl hw hd hn _ hq]; rfl
end
theorem FnGranting : laws_FnGranting.Pure := by
  intro x hx
  intros
  by_cases hl : (x.length : Int) > 1048576
  · refine ⟨1, ?_⟩
    unfold laws_FnGranting.f laws_big.f
    rw [decide_eq_true hl]
    rfl
  · have hx' : x.length ≤ 1048576 := by omega
    obtain ⟨s, hs⟩ := DwFnGranting.new_ex x hx'
    obtain ⟨l, j, q, hl8, hdr, _, _, hg⟩ := DwFnGranting.grants_ex x hx' 0 s (by omega) (by omega)
    obtain ⟨t, t1, t2, ht⟩ := DwFnGranting.places_ex x hx'
    have p0 := DwFnGranting.place t t1 t2 0 (by omega) (by omega)
    have p1 := DwFnGranting.place t t1 t2 1 (by omega) (by omega)
    have p2 := DwFnGranting.place t t1 t2 2 (by omega) (by omega)
    have p3 := DwFnGranting.place t t1 t2 3 (by omega) (by omega)
    have a0 := Int.tmod_nonneg 6 p0.1
    have a1 := Int.tmod_nonneg 6 p1.1
    have a2 := Int.tmod_nonneg 40 p2.1
    have a3 := Int.tmod_nonneg 3 p3.1
    have b0 := Int.tmod_lt_of_pos (rd t 0) (show (0 : Int) < 6 by omega)
    have b1 := Int.tmod_lt_of_pos (rd t 1) (show (0 : Int) < 6 by omega)
    have b2 := Int.tmod_lt_of_pos (rd t 2) (show (0 : Int) < 40 by omega)
    have b3 := Int.tmod_lt_of_pos (rd t 3) (show (0 : Int) < 3 by omega)
    refine ⟨8000 + 1 + 1, ?_⟩
    unfold laws_FnGranting.f laws_big.f spec_DrawGrants.f
    rw [decide_eq_false hl, hs _ (by omega)]
    simp only [Option.bind_some, Bool.false_eq_true, if_false]
    rw [hg _ (by omega)]
    simp only [Option.bind_some]
    rw [ht _ (by omega)]
    simp only [Option.bind_some]
    rw [if_pos (by omega), if_pos (by omega), if_pos (by omega), if_pos (by omega)]
    generalize Int.tmod (rd t 0) 6 = r0 at *
    generalize Int.tmod (rd t 1) 6 = r1 at *
    generalize Int.tmod (rd t 2) 40 = now at *
    generalize Int.tmod (rd t 3) 3 = d at *
    rw [w64 (x := 1 + r0) (by omega) (by omega), w64 (x := 1 + r1) (by omega) (by omega)]
    have ho : 1 ≤ 1 + r0 ∧ 1 + r0 ≤ 6 := by omega
    have hw : 1 ≤ 1 + r1 ∧ 1 + r1 ≤ 6 := by omega
    generalize 1 + r0 = o at *
    generalize 1 + r1 = w at *
    have hd : 0 ≤ d ∧ d ≤ 2 := by omega
    have hn : 0 ≤ now ∧ now ≤ 39 := by omega
    have hag : ag l (G0 w d) = (l ++ [G0 w d], true) := by
      unfold ag
      rw [if_pos (drawn_oks (by omega) hdr), if_neg (by omega), if_pos (g0_ok hw hd)]
      rfl
    have e1 := impl_ag l (by omega) (G0 w d) (8000 + 1 + 1) (by omega)
    have e2 := spec_ag l (by omega) (G0 w d) (8000 + 1 + 1) (by omega)
    rw [hag] at e1 e2
    simp only at e1 e2
    have hlen : (l ++ [G0 w d]).length = l.length + 1 := by simp
    rw [e1, e2]
    simp only [Option.bind_some, bne_self_eq_false, Bool.false_eq_true, if_false]
    rw [sameG _ (by omega) _ (by omega)]
    simp only [Option.bind_some, if_true, Bool.not_true]
    have hl0 := law_l0 hl8 hdr ho hw hd hn 7 1 rfl (by omega) 8000 (by omega)
    have hj1 : laws_FnGranting.j1 (8000 + 1) l o now (l ++ [G0 w d]) (spareB l o w 1 now) false w 30 0 d 0 100 false = some true := by
      simp only [laws_FnGranting.j1, Bool.false_eq_true, if_false]
      exact hl0
    rw [laws_FnGranting.j0, if_neg (by decide), impl_spare l (by omega) _ _ _ _ _ (by omega), spec_spare l (by omega) _ _ _ _ _ (by omega)]
    simp only [Option.bind_some, if_true]
    rw [impl_may l (by omega) _ _ _ _ _ (by omega), spare_ge]
    simp only [Option.bind_some, bne_self_eq_false, Bool.false_eq_true, if_false]
    by_cases c : o = w
    · rw [if_pos c]
      have h5 := spare_own hl8 hdr ho hw hd hn c
      rw [show (spareB l o w 1 now != 5) = false by rw [h5]; rfl]
      exact hj1
    · rw [if_neg c]
      exact hj1

end Go.Proofs.Ytcpjfkagbnoagaa.Pure
