/- When a right ends (plain). -/
import Derived.Test.YtcpjfkagbnoagaaGcFnEnds
namespace Go.Proofs.Ytcpjfkagbnoagaa.GcFnEnds
open Go.RowKit Go.Proofs.Ytcpjfkagbnoagaa.QFnEnds Go.Proofs.Ytcpjfkagbnoagaa.GrFnEnds Go.Proofs.YtcpjfkagbnoagaaW.PrintWords Go.Proofs.YtcpjfkagbnoagaaW.PrintLast
set_option linter.unusedVariables false
set_option linter.unusedSimpArgs false

def evS (e acc : Int) (g : S25) : Int := if g.f4 > e then (if g.f5 > e then mn (mn acc g.f4) g.f5 else mn acc g.f4) else (if g.f5 > e then mn acc g.f5 else acc)
theorem evS_le (e acc : Int) (g : S25) : evS e acc g ≤ acc ∧ (g.f4 > e → evS e acc g ≤ g.f4) ∧ (g.f5 > e → evS e acc g ≤ g.f5) ∧ (e < acc → e < evS e acc g) := by
  have hm : ∀ a b : Int, (mn a b ≤ a ∧ mn a b ≤ b) ∧ (mn a b = a ∨ mn a b = b) := by
    intro a b
    unfold mn
    by_cases h : b < a
    · rw [if_pos h]; exact ⟨⟨by omega, Int.le_refl _⟩, .inr rfl⟩
    · rw [if_neg h]; exact ⟨⟨Int.le_refl _, by omega⟩, .inl rfl⟩
  unfold evS
  have m1 := hm acc g.f4
  have m2 := hm acc g.f5
  have m3 := hm (mn acc g.f4) g.f5
  by_cases h1 : g.f4 > e <;> by_cases h2 : g.f5 > e <;> simp only [h1, h2, if_true, if_false] <;> refine ⟨?_, fun _ => ?_, fun _ => ?_, fun _ => ?_⟩ <;> first | omega | (exfalso; assumption)
theorem foldl_ev (e : Int) : ∀ (l : List S25) (acc : Int), l.foldl (evS e) acc ≤ acc ∧ (e < acc → e < l.foldl (evS e) acc) ∧ ∀ g ∈ l, (g.f4 > e → l.foldl (evS e) acc ≤ g.f4) ∧ (g.f5 > e → l.foldl (evS e) acc ≤ g.f5) := by
  intro l
  induction l with
  | nil => intro acc; exact ⟨Int.le_refl _, fun h => h, fun g hg => by cases hg⟩
  | cons a t ih =>
    intro acc
    obtain ⟨h1, h2, h3⟩ := ih (evS e acc a)
    obtain ⟨e1, e2, e3, e4⟩ := evS_le e acc a
    simp only [List.foldl_cons]
    refine ⟨by omega, fun h => h2 (e4 h), fun g hg => ?_⟩
    rcases List.mem_cons.1 hg with rfl | hg
    · exact ⟨fun h => by have := e2 h; omega, fun h => by have := e3 h; omega⟩
    · exact h3 g hg
def nextEv (l : List S25) (e : Int) : Int := l.foldl (evS e) 20001
theorem ap_const {l : List S25} {e t p : Int} (h0 : e ≤ t) (h1 : t < nextEv l e) {g : S25} (hg : g ∈ l) : ap p t g = ap p e g := by
  obtain ⟨h2, h3⟩ := (foldl_ev e l 20001).2.2 g hg
  have h2' : g.f4 > e → nextEv l e ≤ g.f4 := h2
  have h3' : g.f5 > e → nextEv l e ≤ g.f5 := h3
  cases ha : ap p e g with
  | true =>
    obtain ⟨a1, a2, a3, a4, a5⟩ := ap_true ha
    exact ap_mk a1 a2 a3 (by omega) (by have := h3' (by omega); omega)
  | false =>
    cases hb : ap p t g with
    | false => rfl
    | true =>
      obtain ⟨a1, a2, a3, a4, a5⟩ := ap_true hb
      have h4 : g.f4 ≤ e := by
        by_cases hc : g.f4 > e
        · have := h2' hc; omega
        · omega
      rw [ap_mk a1 a2 a3 h4 (by omega)] at ha
      cases ha
theorem may_const {l : List S25} {o w p e t : Int} (h0 : e ≤ t) (h1 : t < nextEv l e) (hm : mayB l o w p e = true) : mayB l o w p t = true := by
  have hle : nextEv l e ≤ 20001 := (foldl_ev e l 20001).1
  unfold mayB at hm ⊢
  simp only [Bool.and_eq_true] at hm ⊢
  obtain ⟨h2, h3⟩ := hm
  refine ⟨?_, Rt.may_mono (fun g hg ha => ⟨hg, (ap_const h0 h1 hg).trans ha⟩) (Int.le_refl _) h3⟩
  unfold goodB at h2 ⊢
  simp only [Bool.and_eq_true, decide_eq_true_eq] at h2 ⊢
  exact ⟨h2.1, h2.2.1, h2.2.2.1, h2.2.2.2.1, by omega, by omega⟩
/-- The first time at which there is no right. -/
def isEnd (l : List S25) (o w p now T : Int) : Prop := now < T ∧ T ≤ 20001 ∧ mayB l o w p T = false ∧ ∀ t, now ≤ t → t < T → mayB l o w p t = true
theorem isEnd_one {l : List S25} {o w p now T T' : Int} (h : isEnd l o w p now T) (h' : isEnd l o w p now T') : T = T' := by
  obtain ⟨a1, a2, a3, a4⟩ := h
  obtain ⟨b1, b2, b3, b4⟩ := h'
  rcases Int.lt_trichotomy T T' with hlt | he | hgt
  · rw [b4 T (by omega) hlt] at a3; cases a3
  · exact he
  · rw [a4 T' (by omega) hgt] at b3; cases b3
theorem may_time {l : List S25} {o w p t : Int} (h : mayB l o w p t = true) : 0 ≤ t ∧ t ≤ 20000 := by
  unfold mayB goodB at h
  simp only [Bool.and_eq_true, decide_eq_true_eq] at h
  exact h.1.2.2.2.2
theorem end_l1 (l : List S25) (hl : l.length ≤ 1048576) (o w p e : Int) : ∀ (d i m : Nat) (acc : Int), i + d = l.length → spec_EndOf.l1 (d + (m + 1)) l o w p e acc (i : Int) = spec_EndOf.l0 m l o w p ((l.drop i).foldl (evS e) acc) := by
  intro d
  induction d with
  | zero =>
    intro i m acc hi
    rw [show 0 + (m + 1) = m + 1 by omega]
    simp only [spec_EndOf.l1]
    rw [if_neg (by omega), List.drop_of_length_le (by omega)]
    rfl
  | succ d ih =>
    intro i m acc hi
    have hil : i < l.length := by omega
    have e1 : wrap64 ((i : Int) + 1) = ((i + 1 : Nat) : Int) := w64 (by omega) (by omega)
    rw [show d + 1 + (m + 1) = (d + (m + 1)) + 1 by omega]
    have ih2 := fun a => ih (i + 1) m a (by omega)
    generalize d + (m + 1) = q at ih2 ⊢
    simp only [spec_EndOf.l1]
    rw [if_pos (by omega), if_pos (by omega), rd_at hil, e1, List.drop_eq_getElem_cons hil]
    simp only [List.foldl_cons, ih2]
    unfold evS
    by_cases h1 : l[i].f4 > e <;> by_cases h2 : l[i].f5 > e <;> simp only [h1, h2, if_true, if_false]
theorem spec_end_l0 (l : List S25) (hl : l.length ≤ 1048576) (o w p now : Int) (h0 : mayB l o w p now = true) : ∀ (n : Nat) (e : Int), now ≤ e → e ≤ 20001 → (20001 - e).toNat ≤ n → (∀ t, now ≤ t → t < e → mayB l o w p t = true) →
    ∃ T, isEnd l o w p now T ∧ ∃ K, ∀ k, K ≤ k → spec_EndOf.l0 k l o w p e = some T := by
  intro n
  induction n with
  | zero =>
    intro e h1 h2 h3 h4
    have he : e = 20001 := by omega
    have hf : mayB l o w p e = false := by
      cases hm : mayB l o w p e with
      | false => rfl
      | true => have := may_time hm; omega
    have := may_time h0
    refine ⟨e, ⟨by omega, by omega, hf, h4⟩, l.length + 501, fun k hk => ?_⟩
    obtain ⟨m, rfl, hm⟩ := succ_of (show l.length + 500 < k by omega)
    simp only [spec_EndOf.l0]
    rw [spec_may l hl o w p e m (by omega), hf]
    rfl
  | succ n ih =>
    intro e h1 h2 h3 h4
    cases hm : mayB l o w p e with
    | false =>
      have hne : e ≠ now := fun he => by rw [he, h0] at hm; cases hm
      refine ⟨e, ⟨by omega, by omega, hm, h4⟩, l.length + 501, fun k hk => ?_⟩
      obtain ⟨m, rfl, hm2⟩ := succ_of (show l.length + 500 < k by omega)
      simp only [spec_EndOf.l0]
      rw [spec_may l hl o w p e m (by omega), hm]
      rfl
    | true =>
      have ht := may_time hm
      obtain ⟨g1, g2, _⟩ := foldl_ev e l 20001
      have g1' : nextEv l e ≤ 20001 := g1
      have g2' : e < nextEv l e := g2 (by omega)
      obtain ⟨T, hT, K, hK⟩ := ih (nextEv l e) (by omega) (by omega) (by omega) (fun t ht1 ht2 => by
        by_cases hte : t < e
        · exact h4 t ht1 hte
        · exact may_const (by omega) ht2 hm)
      refine ⟨T, hT, K + l.length + 502, fun k hk => ?_⟩
      obtain ⟨m, rfl, hm2⟩ := succ_of (show l.length + 501 < k by omega)
      simp only [spec_EndOf.l0]
      rw [spec_may l hl o w p e m (by omega), hm]
      simp only [Option.bind_some, if_true]
      obtain ⟨m2, rfl⟩ : ∃ m2, m = l.length + (m2 + 1) := ⟨m - l.length - 1, by omega⟩
      have h5 := end_l1 l hl o w p e l.length 0 m2 20001 (by omega)
      simp only [List.drop_zero] at h5
      exact h5.trans (hK m2 (by omega))
theorem spec_end (l : List S25) (hl : l.length ≤ 1048576) (o w p now : Int) (h0 : mayB l o w p now = true) : ∃ T, isEnd l o w p now T ∧ ∃ K, ∀ k, K ≤ k → spec_EndOf.f k l o w p now = some T := by
  have ht := may_time h0
  obtain ⟨T, hT, K, hK⟩ := spec_end_l0 l hl o w p now h0 _ now (Int.le_refl _) (by omega) (Nat.le_refl _) (fun t a b => by omega)
  refine ⟨T, hT, K + l.length + 501, fun k hk => ?_⟩
  unfold spec_EndOf.f
  rw [spec_may l hl o w p now k (by omega), h0]
  simp only [Option.bind_some, if_true]
  exact hK k (by omega)
theorem impl_end_l0 (l : List S25) (hl : l.length ≤ 1048576) (o w p now : Int) : ∀ (d i : Nat), i + d = l.length → ∀ (b : Int), b ≤ 20001 → (b = 20001 ∨ (now < b ∧ mayB l o w p b = false)) → (∀ j g, j < i → l[j]? = some g → now < g.f5 → mayB l o w p g.f5 = false → b ≤ g.f5) →
    ∃ B, B ≤ 20001 ∧ (B = 20001 ∨ (now < B ∧ mayB l o w p B = false)) ∧ (∀ g ∈ l, now < g.f5 → mayB l o w p g.f5 = false → B ≤ g.f5) ∧ ∀ k, l.length + 500 + d < k → impl_EndOf.l0 k l o w p now b l (l.length : Int) (i : Int) = some B := by
  intro d
  induction d with
  | zero =>
    intro i hi b hb h1 h2
    refine ⟨b, hb, h1, fun g hg hn hf => ?_, fun k hk => ?_⟩
    · obtain ⟨j, hj⟩ := List.mem_iff_getElem?.1 hg
      exact h2 j g (by have := (List.getElem?_eq_some_iff.1 hj).1; omega) hj hn hf
    · obtain ⟨m, rfl, _⟩ := succ_of hk
      simp only [impl_EndOf.l0]
      rw [if_neg (by omega)]
  | succ d ih =>
    intro i hi b hb h1 h2
    have hil : i < l.length := by omega
    have hl2 : l[i]? = some l[i] := List.getElem?_eq_getElem hil
    have e1 : wrap64 ((i : Int) + 1) = ((i + 1 : Nat) : Int) := w64 (by omega) (by omega)
    have hstep : ∀ b', (∀ j g, j < i → l[j]? = some g → now < g.f5 → mayB l o w p g.f5 = false → b' ≤ g.f5) → (now < l[i].f5 → mayB l o w p l[i].f5 = false → b' ≤ l[i].f5) → ∀ j g, j < i + 1 → l[j]? = some g → now < g.f5 → mayB l o w p g.f5 = false → b' ≤ g.f5 := by
      intro b' hA hB j g hj hg
      by_cases he : j = i
      · subst he
        rw [hl2] at hg
        cases hg
        exact hB
      · exact hA j g (by omega) hg
    by_cases c1 : l[i].f5 > now
    · by_cases c2 : l[i].f5 < b
      · cases hm : mayB l o w p l[i].f5 with
        | true =>
          obtain ⟨B, b1, b2, b3, b4⟩ := ih (i + 1) (by omega) b hb h1 (hstep b h2 (fun _ hf => by rw [hm] at hf; cases hf))
          refine ⟨B, b1, b2, b3, fun k hk => ?_⟩
          obtain ⟨m, rfl, hm2⟩ := succ_of hk
          simp only [impl_EndOf.l0]
          rw [if_pos (by omega), if_pos (by omega), if_pos (by omega), rd_at hil, if_pos c1, if_pos c2, impl_may l hl _ _ _ _ m (by omega), hm, e1]
          simp only [Option.bind_some, if_true]
          exact b4 m (by omega)
        | false =>
          obtain ⟨B, b1, b2, b3, b4⟩ := ih (i + 1) (by omega) l[i].f5 (by omega) (.inr ⟨c1, hm⟩) (hstep _ (fun j g hj hg hn hf => by have := h2 j g hj hg hn hf; omega) (fun _ _ => Int.le_refl _))
          refine ⟨B, b1, b2, b3, fun k hk => ?_⟩
          obtain ⟨m, rfl, hm2⟩ := succ_of hk
          simp only [impl_EndOf.l0]
          rw [if_pos (by omega), if_pos (by omega), if_pos (by omega), rd_at hil, if_pos c1, if_pos c2, impl_may l hl _ _ _ _ m (by omega), hm, e1]
          simp only [Option.bind_some, Bool.false_eq_true, if_false]
          exact b4 m (by omega)
      · obtain ⟨B, b1, b2, b3, b4⟩ := ih (i + 1) (by omega) b hb h1 (hstep b h2 (fun _ _ => by omega))
        refine ⟨B, b1, b2, b3, fun k hk => ?_⟩
        obtain ⟨m, rfl, hm2⟩ := succ_of hk
        simp only [impl_EndOf.l0]
        rw [if_pos (by omega), if_pos (by omega), if_pos (by omega), rd_at hil, if_pos c1, if_neg c2, e1]
        exact b4 m (by omega)
    · obtain ⟨B, b1, b2, b3, b4⟩ := ih (i + 1) (by omega) b hb h1 (hstep b h2 (fun hn _ => by omega))
      refine ⟨B, b1, b2, b3, fun k hk => ?_⟩
      obtain ⟨m, rfl, hm2⟩ := succ_of hk
      simp only [impl_EndOf.l0]
      rw [if_pos (by omega), if_pos (by omega), if_pos (by omega), rd_at hil, if_neg c1, e1]
      exact b4 m (by omega)
theorem impl_end (l : List S25) (hl : l.length ≤ 1048576) (o w p now T : Int) (h0 : mayB l o w p now = true) (hT : isEnd l o w p now T) : ∀ k, 2 * l.length + 600 ≤ k → impl_EndOf.f k l o w p now = some T := by
  obtain ⟨B, b1, b2, b3, b4⟩ := impl_end_l0 l hl o w p now l.length 0 (by omega) 20001 (Int.le_refl _) (.inl rfl) (fun j g hj => absurd hj (Nat.not_lt_zero _))
  obtain ⟨t1, t2, t3, t4⟩ := hT
  have hBT : B = T := by
    have hTB : T ≤ B := by
      rcases b2 with rfl | ⟨c1, c2⟩
      · exact t2
      · by_cases hlt : B < T
        · rw [t4 B (by omega) hlt] at c2; cases c2
        · omega
    have hBT : B ≤ T := by
      by_cases he : T = 20001
      · omega
      · have hp := t4 (T - 1) (by omega) (by omega)
        by_cases hex : ∃ g ∈ l, g.f5 = T
        · obtain ⟨g, hg, rfl⟩ := hex
          exact b3 g hg t1 t3
        · exfalso
          have ht := may_time h0
          have hm : mayB l o w p T = true := by
            unfold mayB at hp ⊢
            simp only [Bool.and_eq_true] at hp ⊢
            obtain ⟨h2, h3⟩ := hp
            refine ⟨?_, Rt.may_mono (fun g hg ha => ⟨hg, ?_⟩) (Int.le_refl _) h3⟩
            · unfold goodB at h2 ⊢
              simp only [Bool.and_eq_true, decide_eq_true_eq] at h2 ⊢
              exact ⟨h2.1, h2.2.1, h2.2.2.1, h2.2.2.2.1, by omega, by omega⟩
            · obtain ⟨a1, a2, a3, a4, a5⟩ := ap_true ha
              exact ap_mk a1 a2 a3 (by omega) (by
                have : g.f5 ≠ T := fun h => hex ⟨g, hg, h⟩
                omega)
          rw [hm] at t3; cases t3
    omega
  intro k hk
  unfold impl_EndOf.f
  rw [impl_may l hl o w p now k (by omega), h0]
  simp only [Option.bind_some, if_true]
  rw [← hBT]
  exact b4 k (by omega)
theorem ends_no (l : List S25) (hl : l.length ≤ 1048576) (o w p now : Int) (h0 : mayB l o w p now = false) : ∀ k, l.length + 500 ≤ k → spec_EndOf.f k l o w p now = some (-1) ∧ impl_EndOf.f k l o w p now = some (-1) := by
  intro k hk
  unfold spec_EndOf.f impl_EndOf.f
  rw [spec_may l hl o w p now k hk, impl_may l hl o w p now k (by omega), h0]
  exact ⟨rfl, rfl⟩
end Go.Proofs.Ytcpjfkagbnoagaa.GcFnEnds
