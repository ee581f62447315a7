/- Calling a grant off, and the grants that a right needs (plain). -/
import Derived.Test.YtcpjfkagbnoagaaGnFnRevoking
import Derived.Test.YtcpjfkagbnoagaaGxFnRevoking
namespace Go.Proofs.Ytcpjfkagbnoagaa.GcFnRevoking
open Go.RowKit Go.Proofs.Ytcpjfkagbnoagaa.QFnRevoking Go.Proofs.Ytcpjfkagbnoagaa.GrFnRevoking Go.Proofs.YtcpjfkagbnoagaaW.PrintWords Go.Proofs.YtcpjfkagbnoagaaW.PrintLast
set_option linter.unusedVariables false
set_option linter.unusedSimpArgs false

def rv (l : List S25) (a : Int) : List S25 × Bool :=
  if okGs l = true then (if 0 ≤ a ∧ a ≤ (l.length : Int) - 1 then (if (rd_T25 l a).f6 = true then (l, false) else (l.set a.toNat ⟨(rd_T25 l a).f0, (rd_T25 l a).f1, (rd_T25 l a).f2, (rd_T25 l a).f3, (rd_T25 l a).f4, (rd_T25 l a).f5, true⟩, true)) else (l, false)) else (l, false)
theorem rv_len (l : List S25) (a : Int) : (rv l a).1.length = l.length := by
  unfold rv
  (repeat' split) <;> simp
theorem rv_at (l : List S25) (i : Nat) (hi : i < l.length) : rv l (i : Int) = if okGs l = true then (if l[i].f6 = true then (l, false) else (offL l i, true)) else (l, false) := by
  unfold rv
  rw [if_pos (show 0 ≤ (i : Int) ∧ (i : Int) ≤ (l.length : Int) - 1 by omega), rd_at hi, Int.toNat_natCast, offL_at hi]
  rfl
theorem spec_rv (l : List S25) (hl : l.length ≤ 1048576) (a : Int) : ∀ k, l.length < k → spec_Revoke.f k l a = some (rv l a) := by
  intro k hk
  unfold spec_Revoke.f rv
  simp only [Option.bind_some, List.nil_append, List.length_nil, Nat.zero_add]
  rw [if_pos (by omega), spec_oks l hl k hk]
  simp only [Option.bind_some]
  rw [w64 (by omega) (by omega), sin]
  simp only [Option.bind_some, decide_eq_true_eq]
  by_cases h1 : okGs l = true
  · rw [if_pos h1, if_pos h1]
    by_cases h2 : 0 ≤ a ∧ a ≤ (l.length : Int) - 1
    · rw [if_pos h2, if_pos h2, if_pos h2.1, if_pos (by omega)]
      by_cases h3 : (rd_T25 l a).f6 = true
      · rw [if_pos h3, if_pos h3]
      · rw [if_neg h3, if_neg h3, if_pos (by omega)]
    · rw [if_neg h2, if_neg h2]
  · rw [if_neg h1, if_neg h1]
theorem impl_rv (l : List S25) (hl : l.length ≤ 1048576) (a : Int) : ∀ k, l.length < k → impl_Revoke.f k l a = some (rv l a) := by
  intro k hk
  unfold impl_Revoke.f impl_Grant_68.f rv
  rw [if_pos (by omega), impl_oks l hl k hk]
  simp only [Option.bind_some]
  rw [w64 (by omega) (by omega), win]
  simp only [Option.bind_some, decide_eq_true_eq]
  by_cases h1 : okGs l = true
  · rw [if_pos h1, if_pos h1]
    by_cases h2 : 0 ≤ a ∧ a ≤ (l.length : Int) - 1
    · rw [if_pos h2, if_pos h2, if_pos h2.1, if_pos (by omega)]
      by_cases h3 : (rd_T25 l a).f6 = true
      · rw [if_pos h3, if_pos h3]
      · rw [if_neg h3, if_neg h3, if_pos (by omega)]
    · rw [if_neg h2, if_neg h2]
  · rw [if_neg h1, if_neg h1]
theorem sameG_l0 (l : List S25) (hl : l.length ≤ 1048576) : ∀ (d i : Nat), i + d = l.length → ∀ k, d < k → laws_sameGrants.l0 k l l (i : Int) = some true := by
  intro d
  induction d with
  | zero =>
    intro i hi k hk
    obtain ⟨m, rfl, _⟩ := succ_of hk
    simp only [laws_sameGrants.l0]
    rw [if_neg (by omega)]
  | succ d ih =>
    intro i hi k hk
    obtain ⟨m, rfl, hm⟩ := succ_of hk
    have e1 : wrap64 ((i : Int) + 1) = ((i + 1 : Nat) : Int) := w64 (by omega) (by omega)
    simp only [laws_sameGrants.l0, beq_self_eq_true, Bool.not_true, Bool.or_false, Bool.false_eq_true, if_false]
    rw [if_pos (by omega), if_pos (by omega), if_pos (by omega), e1]
    exact ih (i + 1) (by omega) m (by omega)
theorem sameG (l : List S25) (hl : l.length ≤ 1048576) : ∀ k, l.length < k → laws_sameGrants.f k l l = some true := by
  intro k hk
  unfold laws_sameGrants.f
  rw [if_pos rfl]
  exact sameG_l0 l hl l.length 0 (by omega) k hk
theorem needB_mem (l : List S25) (o w p n : Int) : ∀ (d i : Nat) (out : List Int) (v : Int), v ∈ needB l o w p n i d out ↔ v ∈ out ∨ ∃ j : Nat, i ≤ j ∧ j < i + d ∧ v = (j : Int) ∧ mayB (offL l j) o w p n = false := by
  intro d
  induction d with
  | zero =>
    intro i out v
    simp only [needB]
    exact ⟨.inl, fun h => h.elim id (fun ⟨j, h1, h2, _⟩ => by omega)⟩
  | succ d ih =>
    intro i out v
    simp only [needB]
    rw [ih]
    by_cases hm : mayB (offL l i) o w p n = true
    · rw [if_pos hm]
      constructor
      · rintro (h | ⟨j, h1, h2, h3, h4⟩)
        · exact .inl h
        · exact .inr ⟨j, by omega, by omega, h3, h4⟩
      · rintro (h | ⟨j, h1, h2, h3, h4⟩)
        · exact .inl h
        · by_cases he : j = i
          · subst he; rw [hm] at h4; cases h4
          · exact .inr ⟨j, by omega, by omega, h3, h4⟩
    · have hm' : mayB (offL l i) o w p n = false := by simpa using hm
      rw [if_neg hm, List.mem_append, List.mem_singleton]
      constructor
      · rintro ((h | h) | ⟨j, h1, h2, h3, h4⟩)
        · exact .inl h
        · exact .inr ⟨i, by omega, by omega, h, hm'⟩
        · exact .inr ⟨j, by omega, by omega, h3, h4⟩
      · rintro (h | ⟨j, h1, h2, h3, h4⟩)
        · exact .inl (.inl h)
        · by_cases he : j = i
          · subst he; exact .inl (.inr h3)
          · exact .inr ⟨j, by omega, by omega, h3, h4⟩
theorem needB_up (l : List S25) (o w p n : Int) : ∀ (d i : Nat) (out : List Int), out.Pairwise (· < ·) → (∀ v ∈ out, v < (i : Int)) → (needB l o w p n i d out).Pairwise (· < ·) := by
  intro d
  induction d with
  | zero => intro i out h _; exact h
  | succ d ih =>
    intro i out h1 h2
    simp only [needB]
    refine ih _ _ ?_ ?_
    · split
      · exact h1
      · rw [List.pairwise_append]
        exact ⟨h1, List.pairwise_singleton _ _, fun a ha b hb => by
          have := h2 a ha
          rw [List.mem_singleton.1 hb]; omega⟩
    · intro v hv
      split at hv
      · have := h2 v hv; omega
      · rcases List.mem_append.1 hv with h | h
        · have := h2 v h; omega
        · rw [List.mem_singleton.1 h]; omega
theorem needed_mem {l : List S25} {o w p n v : Int} : v ∈ needed l o w p n ↔ mayB l o w p n = true ∧ ∃ j : Nat, j < l.length ∧ v = (j : Int) ∧ mayB (offL l j) o w p n = false := by
  unfold needed
  cases hm : mayB l o w p n with
  | false => simp
  | true =>
    rw [if_pos rfl, needB_mem]
    constructor
    · rintro (h | ⟨j, h1, h2, h3, h4⟩)
      · cases h
      · exact ⟨rfl, j, by omega, h3, h4⟩
    · rintro ⟨_, j, h2, h3, h4⟩
      exact .inr ⟨j, by omega, by omega, h3, h4⟩
theorem needed_up (l : List S25) (o w p n : Int) : (needed l o w p n).Pairwise (· < ·) := by
  unfold needed
  split
  · exact needB_up l o w p n _ 0 [] List.Pairwise.nil (fun v hv => by cases hv)
  · exact List.Pairwise.nil
theorem off_ap (p n : Int) (y : S25) : ap p n (offG y) = false := by
  cases h : ap p n (offG y) with
  | false => rfl
  | true => have := (ap_true h).2.1; cases this
theorem offG_ok (y : S25) : okG (offG y) = okG y := rfl
theorem offL_oks {l : List S25} {i : Nat} (hi : i < l.length) (h : okGs l = true) : okGs (offL l i) = true := by
  rw [offL_at hi]
  unfold okGs at h ⊢
  simp only [Bool.and_eq_true, decide_eq_true_eq, List.length_set, List.all_eq_true] at h ⊢
  refine ⟨h.1, fun g hg => ?_⟩
  rcases List.mem_or_eq_of_mem_set hg with h2 | rfl
  · exact h.2 g h2
  · exact (offG_ok _).trans (h.2 _ (List.getElem_mem hi))
theorem off_good {l : List S25} {i : Nat} {o w p n : Int} (hi : i < l.length) (h : goodB l o w p n = true) : goodB (offL l i) o w p n = true := by
  unfold goodB at h ⊢
  simp only [Bool.and_eq_true] at h ⊢
  exact ⟨offL_oks hi h.1, h.2⟩
/-- Calling a grant off gives nobody a right. -/
theorem off_less {l : List S25} {i : Nat} {o w p n : Int} (hi : i < l.length) (hok : okGs l = true) (h : mayB (offL l i) o w p n = true) : mayB l o w p n = true := by
  unfold mayB goodB at h ⊢
  simp only [Bool.and_eq_true] at h ⊢
  refine ⟨⟨hok, h.1.2⟩, Rt.may_mono (fun g hg ha => ?_) (Int.le_refl _) h.2⟩
  rw [offL_at hi] at hg
  rcases List.mem_or_eq_of_mem_set hg with h2 | rfl
  · exact ⟨h2, ha⟩
  · rw [off_ap] at ha; cases ha
/-- Every grant that is needed lies in the chain. -/
theorem need_chain {l : List S25} {o w p n v : Int} (h : v ∈ needed l o w p n) : v ∈ (chainB l o w p n).1 := by
  obtain ⟨hm, j, hj, rfl, hf⟩ := needed_mem.1 h
  have hg := may_good hm
  have hr : mayR l p n w 0 o = true := by
    unfold mayB at hm
    simp only [Bool.and_eq_true] at hm
    exact hm.2
  obtain ⟨k, r, hk, hc, hG, _⟩ := Rt.chain_true hr
  have hc' : (chainB l o w p n).1 = r := by
    unfold chainB
    rw [if_pos hg]
    exact congrArg Prod.fst hc
  rw [hc']
  apply Classical.byContradiction
  intro hn
  have hG' := hG.keep (l' := offL l j) (app' := ap p n) (fr' := fun g => g.f0) (to' := fun g => g.f1) (dep' := fun g => g.f3) (fun i g hi hg ha => by
    have hne : i ≠ j := fun he => hn (he ▸ hi)
    refine ⟨g, ?_, ha, rfl, rfl, rfl⟩
    rw [offL_at hj, List.getElem?_set_ne (fun h => hne h.symm)]
    exact hg)
  have : mayB (offL l j) o w p n = true := by
    unfold mayB
    simp only [Bool.and_eq_true]
    exact ⟨off_good hj hg, Rt.may_iff.2 ⟨k, hk, hG'.reach⟩⟩
  rw [this] at hf; cases hf
theorem nodup_le : ∀ (a c : List Int), a.Pairwise (· < ·) → (∀ v ∈ a, v ∈ c) → a.length ≤ c.length := by
  intro a
  induction a with
  | nil => intro c _ _; simp
  | cons x t ih =>
    intro c h1 h2
    have hx : x ∈ c := h2 x (List.mem_cons_self ..)
    rw [List.pairwise_cons] at h1
    have h3 := ih (c.erase x) h1.2 (fun v hv => (List.mem_erase_of_ne (by have := h1.1 v hv; omega)).2 (h2 v (List.mem_cons_of_mem _ hv)))
    rw [List.length_erase_of_mem hx] at h3
    have : 0 < c.length := List.length_pos_of_mem hx
    simp only [List.length_cons]; omega
theorem needed_six (l : List S25) (o w p n : Int) : (needed l o w p n).length ≤ 6 :=
  Nat.le_trans (nodup_le _ _ (needed_up l o w p n) (fun _ h => need_chain h)) (chainB_len l o w p n)
end Go.Proofs.Ytcpjfkagbnoagaa.GcFnRevoking
