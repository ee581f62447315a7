/- A chain that is found is the shortest that leads there, and it holds: for every code (plain). -/
import Derived.Test.YtcpjfkagbnoagaaGxFnChains
import Derived.Test.YtcpjfkagbnoagaaDgFnChains
namespace Go.Proofs.Ytcpjfkagbnoagaa.Pure
open Go.RowKit Go.Proofs.Ytcpjfkagbnoagaa.QFnChains Go.Proofs.Ytcpjfkagbnoagaa.GrFnChains Go.Proofs.Ytcpjfkagbnoagaa.GcFnChains Go.Proofs.YtcpjfkagbnoagaaW.PrintWords Go.Proofs.YtcpjfkagbnoagaaW.PrintLast

abbrev R (l : List S25) (w p n : Int) (h : Nat) (x : Int) : Bool := Rt.reach (·.f0) (·.f1) (·.f3) (ap p n) l w 0 h x
def hp (l : List S25) (w p n : Int) (h : Nat) (x : Int) (g : S25) : Bool := ap p n g && (decide (g.f3 ≥ (h : Int) + 0) && (R l w p n h g.f1 && decide (g.f0 = x)))
set_option linter.unusedVariables false
theorem leads_l0 (l : List S25) (hl : l.length ≤ 31) (w p n : Int) (h : Nat) (hh : h ≤ 6) (ih : ∀ x k, 40 * (h + 1) ≤ k → laws_leads.f k l x w p n (h : Int) = some (R l w p n h x)) :
    ∀ (d i : Nat), i + d = l.length → ∀ x k, 40 * (h + 1) + d + 1 ≤ k → laws_leads.l0 k l x w p n ((h + 1 : Nat) : Int) (i : Int) = some ((l.drop i).any (hp l w p n h x)) := by
  intro d
  induction d with
  | zero =>
    intro i hi x k hk
    obtain ⟨m, rfl, _⟩ := succ_of (show 0 < k by omega)
    simp only [laws_leads.l0]
    rw [if_neg (by omega), List.drop_of_length_le (by omega)]
    rfl
  | succ d ihd =>
    intro i hi x k hk
    obtain ⟨m, rfl, hm⟩ := succ_of (show 40 * (h + 1) + d + 1 < k by omega)
    have hil : i < l.length := by omega
    have e1 : wrap64 ((i : Int) + 1) = ((i + 1 : Nat) : Int) := w64 (by omega) (by omega)
    have e2 : wrap64 (((h + 1 : Nat) : Int) - 1) = (h : Int) := by rw [w64 (by omega) (by omega)]; omega
    have hn := ihd (i + 1) (by omega) x m (by omega)
    rw [List.drop_eq_getElem_cons hil, List.any_cons]
    simp only [laws_leads.l0]
    rw [if_pos (by omega), if_pos (by omega), rd_at hil, e1, e2, hn, spec_ap, ih _ m (by omega)]
    unfold hp
    by_cases c1 : l[i].f0 = x
    · rw [if_pos c1]
      by_cases c2 : l[i].f3 ≥ (h : Int)
      · rw [if_pos c2]
        simp only [Option.bind_some]
        cases ap p n l[i] with
        | false => simp
        | true =>
          cases R l w p n h l[i].f1 with
          | false => simp
          | true => simp [c1, c2]
      · rw [if_neg c2, decide_eq_false (show ¬ l[i].f3 ≥ (h : Int) + 0 by omega)]
        simp
    · rw [if_neg c1, decide_eq_false c1]
      simp
theorem leads_f (l : List S25) (hl : l.length ≤ 31) (w p n : Int) : ∀ (h : Nat), h ≤ 6 → ∀ x k, 40 * (h + 1) ≤ k → laws_leads.f k l x w p n (h : Int) = some (R l w p n h x) := by
  intro h
  induction h with
  | zero =>
    intro _ x k hk
    obtain ⟨m, rfl, _⟩ := succ_of (show 0 < k by omega)
    simp only [laws_leads.f]
    rw [if_pos (by omega)]
    rfl
  | succ h ih =>
    intro hh x k hk
    obtain ⟨m, rfl, hm⟩ := succ_of (show 40 * (h + 1) + 39 < k by omega)
    simp only [laws_leads.f]
    rw [if_neg (by omega)]
    exact leads_l0 l hl w p n h (by omega) (ih (by omega)) l.length 0 (by omega) x m (by omega)
/-- The least length that the law keeps. -/
def lst (l : List S25) (w p n o : Int) : Nat → Int → Int
  | 0, acc => acc
  | d + 1, acc => lst l w p n o d (if R l w p n d o = true then (d : Int) else acc)
theorem lst_none (l : List S25) (w p n o : Int) : ∀ (d : Nat) (acc : Int), (∀ m, m < d → R l w p n m o = false) → lst l w p n o d acc = acc := by
  intro d
  induction d with
  | zero => intro acc _; rfl
  | succ d ih =>
    intro acc h
    simp only [lst]
    rw [h d (by omega), if_neg (by decide)]
    exact ih acc (fun m hm => h m (by omega))
theorem lst_some (l : List S25) (w p n o : Int) (h : Nat) (hr : R l w p n h o = true) (h0 : ∀ m, m < h → R l w p n m o = false) : ∀ (d : Nat) (acc : Int), h < d → lst l w p n o d acc = (h : Int) := by
  intro d
  induction d with
  | zero => intro acc hd; omega
  | succ d ih =>
    intro acc hd
    simp only [lst]
    by_cases he : h = d
    · subst he
      rw [if_pos hr]
      exact lst_none l w p n o _ _ h0
    · exact ih _ (by omega)
/-- The chain holds. -/
theorem holds_l1 (l : List S25) (hl : l.length ≤ 31) (o w p n : Int) (c : List Int) (hc : c.length ≤ 6) : ∀ (d : Nat) (x : Int) (r : List Int), Rt.Good (·.f0) (·.f1) (·.f3) (ap p n) l w 0 d x r → ∀ i : Nat, i + d = c.length → c.drop i = r →
    ∀ k, d < k → laws_FnChains.l1 k l w p n c true x (i : Int) = some true := by
  intro d x r hg
  induction hg with
  | nil =>
    intro i hi hr k hk
    obtain ⟨m, rfl, _⟩ := succ_of hk
    simp only [laws_FnChains.l1]
    rw [if_neg (by omega), if_pos trivial, beq_self_eq_true]
  | @cons d x j g r h1 h2 h3 h4 _ ih =>
    intro i hi hr k hk
    obtain ⟨m, rfl, hm⟩ := succ_of hk
    have hil : i < c.length := by omega
    have e1 : wrap64 ((i : Int) + 1) = ((i + 1 : Nat) : Int) := w64 (by omega) (by omega)
    have e2 : wrap64 (wrap64 ((c.length : Int) - 1) - (i : Int)) = (d : Int) := by rw [w64 (x := (c.length : Int) - 1) (by omega) (by omega), w64 (by omega) (by omega)]; omega
    rw [List.drop_eq_getElem_cons hil] at hr
    obtain ⟨hj, hr2⟩ := List.cons.inj hr
    have hjl : j < l.length := (List.getElem?_eq_some_iff.1 h1).1
    have hgl : l[j] = g := (List.getElem?_eq_some_iff.1 h1).2
    simp only [laws_FnChains.l1]
    rw [if_pos (by omega), if_pos (by omega), rdI2 c i hil, hj, if_neg (by omega), if_neg (by omega), if_pos (by omega), if_pos (by omega), rd_at hjl, hgl, if_pos h2, ap_some, h3, e2, e1]
    simp only [Option.bind_some, if_true]
    rw [if_neg (by omega)]
    exact ih (i + 1) (by omega) hr2 m (by omega)
theorem tail_l0 (l : List S25) (hl : l.length ≤ 31) (o w p n : Int) (hg : goodB l o w p n = true) : ∀ (d : Nat) (acc : Int), d ≤ 7 → lst l w p n o d acc = lst l w p n o 7 (-1) → ∀ k, 1000 + d < k →
    laws_FnChains.l0 k l o w p n (chainB l o w p n).1 (mayB l o w p n) acc ((d : Int) - 1) = some true := by
  intro d
  induction d with
  | zero =>
    intro acc _ hacc k hk
    obtain ⟨m, rfl, hm⟩ := succ_of hk
    have hacc' : acc = lst l w p n o 7 (-1) := hacc
    obtain ⟨m2, rfl, hm2⟩ := succ_of (show 900 < m by omega)
    simp only [laws_FnChains.l0]
    rw [if_neg (by omega)]
    unfold chainB mayB
    rw [if_pos hg, hg, Bool.true_and]
    cases hM : mayR l p n w 0 o with
    | false =>
      have hno : ∀ m, m < 7 → R l w p n m o = false := fun m hm => by
        cases h : R l w p n m o with
        | false => rfl
        | true =>
          have := Rt.may_iff.2 ⟨m, by omega, h⟩
          rw [show Rt.may _ _ _ _ l w 0 o = mayR l p n w 0 o from rfl, hM] at this; cases this
      rw [lst_none l w p n o 7 (-1) hno] at hacc'
      rw [show chn l p n w 0 o = ([], false) from Rt.chain_false hM, hacc']
      simp only [laws_FnChains.j3]
      obtain ⟨m3, rfl, _⟩ := succ_of (show 800 < m2 by omega)
      simp [laws_FnChains.l1]
    | true =>
      obtain ⟨h, r, c1, c2, c3, c4⟩ := Rt.chain_true hM
      have hlen := c3.len
      rw [lst_some l w p n o h c3.reach c4 7 (-1) (by omega)] at hacc'
      rw [show chn l p n w 0 o = (r, true) from c2, hacc']
      rw [decide_eq_true (show (h : Int) ≥ 0 by omega), if_neg (by decide), if_pos rfl]
      simp only
      rw [show ((r.length : Int) != (h : Int)) = false by simp [hlen]]
      simp only [laws_FnChains.j3, Bool.false_eq_true, if_false]
      exact holds_l1 l hl o w p n r (by omega) h o r c3 0 (by omega) rfl m2 (by omega)
  | succ d ih =>
    intro acc hd hacc k hk
    obtain ⟨m, rfl, hm⟩ := succ_of hk
    have e1 : wrap64 (((d + 1 : Nat) : Int) - 1 - 1) = (d : Int) - 1 := by rw [w64 (by omega) (by omega)]; omega
    simp only [laws_FnChains.l0]
    rw [if_pos (by omega), e1, show ((d + 1 : Nat) : Int) - 1 = (d : Int) by omega, leads_f l hl w p n d (by omega) o m (by omega)]
    simp only [Option.bind_some]
    simp only [lst] at hacc
    cases hr : R l w p n d o with
    | true =>
      rw [hr, if_pos rfl] at hacc
      rw [if_pos rfl]
      exact ih _ (by omega) hacc m (by omega)
    | false =>
      rw [hr, if_neg (by decide)] at hacc
      rw [if_neg (by decide)]
      exact ih _ (by omega) hacc m (by omega)
theorem FnChains : laws_FnChains.Pure := by
  intro x hx
  intros
  by_cases hl : (x.length : Int) > 1048576
  · refine ⟨1, ?_⟩
    unfold laws_FnChains.f laws_big.f
    rw [decide_eq_true hl]
    rfl
  · have hx' : x.length ≤ 1048576 := by omega
    obtain ⟨l, o, w, p, now, hl31, hn, hd⟩ := DwFnChains.four_ex x hx'
    have hc6 := chainB_len l o w p now
    have hj1 : ∀ b, (b = true → mayB l o w p now = false) → (b = false → goodB l o w p now = true) → laws_FnChains.j1 (8000 + 1) l o w p now (chainB l o w p now).1 (mayB l o w p now) b = some true := by
      intro b h1 h2
      simp only [laws_FnChains.j1]
      cases b with
      | true => rw [if_pos rfl, h1 rfl]; rfl
      | false =>
        rw [if_neg (by decide)]
        by_cases c : (l.length : Int) > 12
        · rw [if_pos c]
        · rw [if_neg c]
          exact tail_l0 l hl31 o w p now (h2 rfl) 7 (-1) (by omega) rfl _ (by omega)
    have hbad : goodB l o w p now = false → laws_FnChains.j1 (8000 + 1) l o w p now (chainB l o w p now).1 (mayB l o w p now) true = some true := fun h => hj1 true (fun _ => by unfold mayB; rw [h]; rfl) (fun h => by cases h)
    refine ⟨8000 + 1 + 1, ?_⟩
    unfold laws_FnChains.f laws_big.f
    rw [decide_eq_false hl]
    simp only [Option.bind_some, Bool.false_eq_true, if_false]
    unfold spec_DrawChainOf.f
    rw [hd _ (by omega)]
    simp only [Option.bind_some]
    rw [impl_chainOf _ (by omega) _ _ _ _ _ (by omega), spec_chainOf _ (by omega) _ _ _ _ _ (by omega)]
    simp only [Option.bind_some, bne_self_eq_false, Bool.false_eq_true, if_false]
    rw [sameI _ (by omega) _ (by omega)]
    simp only [Option.bind_some, if_true]
    rw [impl_may _ (by omega) _ _ _ _ _ (by omega), chainB_snd]
    simp only [Option.bind_some, bne_self_eq_false]
    rw [laws_FnChains.j0, if_neg (by decide), spec_oks l (by omega) _ (by omega)]
    simp only [Option.bind_some]
    have hgd : goodB l o w p now = (okGs l && (decide (1 ≤ o ∧ o ≤ 40) && (decide (1 ≤ w ∧ w ≤ 40) && (decide (1 ≤ p ∧ p ≤ 999) && decide (0 ≤ now ∧ now ≤ 20000))))) := rfl
    by_cases c0 : okGs l = true
    · rw [if_pos c0]
      by_cases c1 : o < 1
      · rw [if_pos c1]; exact hbad (by rw [hgd, decide_eq_false (show ¬ (1 ≤ o ∧ o ≤ 40) by omega)]; simp)
      · rw [if_neg c1]
        by_cases c2 : o > 40
        · rw [if_pos c2]; exact hbad (by rw [hgd, decide_eq_false (show ¬ (1 ≤ o ∧ o ≤ 40) by omega)]; simp)
        · rw [if_neg c2]
          by_cases c3 : w < 1
          · rw [if_pos c3]; exact hbad (by rw [hgd, decide_eq_false (show ¬ (1 ≤ w ∧ w ≤ 40) by omega)]; simp)
          · rw [if_neg c3]
            by_cases c4 : w > 40
            · rw [if_pos c4]; exact hbad (by rw [hgd, decide_eq_false (show ¬ (1 ≤ w ∧ w ≤ 40) by omega)]; simp)
            · rw [if_neg c4]
              by_cases c5 : p < 1
              · rw [if_pos c5]; exact hbad (by rw [hgd, decide_eq_false (show ¬ (1 ≤ p ∧ p ≤ 999) by omega)]; simp)
              · rw [if_neg c5]
                by_cases c6 : p > 999
                · rw [if_pos c6]; exact hbad (by rw [hgd, decide_eq_false (show ¬ (1 ≤ p ∧ p ≤ 999) by omega)]; simp)
                · rw [if_neg c6]
                  by_cases c7 : now < 0
                  · rw [if_pos c7]; exact hbad (by rw [hgd, decide_eq_false (show ¬ (0 ≤ now ∧ now ≤ 20000) by omega)]; simp)
                  · rw [if_neg c7]
                    by_cases c8 : now > 20000
                    · rw [decide_eq_true c8]; exact hbad (by rw [hgd, decide_eq_false (show ¬ (0 ≤ now ∧ now ≤ 20000) by omega)]; simp)
                    · rw [decide_eq_false c8]
                      refine hj1 false (fun h => by cases h) (fun _ => ?_)
                      rw [hgd, c0, decide_eq_true (show 1 ≤ o ∧ o ≤ 40 by omega), decide_eq_true (show 1 ≤ w ∧ w ≤ 40 by omega), decide_eq_true (show 1 ≤ p ∧ p ≤ 999 by omega), decide_eq_true (show 0 ≤ now ∧ now ≤ 20000 by omega)]
                      rfl
    · rw [if_neg c0]; exact hbad (by rw [hgd, show okGs l = false by simpa using c0]; rfl)

end Go.Proofs.Ytcpjfkagbnoagaa.Pure
