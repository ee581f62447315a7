/- Chains of grants: what the program and the reference compute, as plain functions (no memory, no Go). -/
import Derived.Test.YtcpjfkagbnoagaaGrFnGranting
import Derived.Test.YtcpjfkagbnoagaaQFnGrantingx0
import Derived.Test.YtcpjfkagbnoagaaQFnGrantingx1
import Derived.Test.YtcpjfkagbnoagaaQFnGrantingx2
import Derived.Test.YtcpjfkagbnoagaaQFnGrantingx3
import Derived.Test.YtcpjfkagbnoagaaQFnGrantingx4
import Derived.Test.YtcpjfkagbnoagaaQFnGrantingx5
import Derived.Test.YtcpjfkagbnoagaaQFnGrantingx6
import Derived.Test.YtcpjfkagbnoagaaQFnGrantingx7
import Derived.Test.YtcpjfkagbnoagaaQFnGrantingx8
import Derived.Test.YtcpjfkagbnoagaaQFnGrantingx9
namespace Go.Proofs.Ytcpjfkagbnoagaa.GcFnGranting
open Go.RowKit Go.Proofs.Ytcpjfkagbnoagaa.QFnGranting Go.Proofs.Ytcpjfkagbnoagaa.GrFnGranting Go.Proofs.YtcpjfkagbnoagaaW.PrintWords Go.Proofs.YtcpjfkagbnoagaaW.PrintLast
set_option linter.unusedVariables false
set_option linter.unusedSimpArgs false

theorem rd_at {l : List S25} {i : Nat} (h : i < l.length) : rd_T25 l (i : Int) = l[i] := by
  unfold rd_T25
  simp [List.getD_eq_getElem?_getD, h]

theorem spec_ap (p n : Int) (g : S25) : spec_Applies.f g.f0 g.f1 g.f2 g.f3 g.f4 g.f5 g.f6 p n = some (ap p n g) := by
  rw [← ap_some p n g]
  unfold spec_Applies.f impl_Applies.f
  rw [spec_ok, impl_ok]

theorem win (x a b : Int) : impl_within.f x a b = some (decide (a ≤ x ∧ x ≤ b)) := by
  unfold impl_within.f
  by_cases h : x ≥ a
  · rw [if_pos h]; simp [h]
  · rw [if_neg h, decide_eq_false (fun h2 => h (by omega))]
theorem sin (x a b : Int) : spec_l01In.f x a b = some (decide (a ≤ x ∧ x ≤ b)) := by
  obtain ⟨r, h1, h2⟩ := in_same x a b
  rw [h1, ← h2, win]

/-- A grant that applies is right, and applies now. -/
theorem ap_true {p n : Int} {g : S25} (h : ap p n g = true) : okG g = true ∧ g.f6 = false ∧ (g.f2 = 0 ∨ g.f2 = p) ∧ g.f4 ≤ n ∧ n < g.f5 := by
  have h2 := spec_ap p n g
  unfold spec_Applies.f at h2
  rw [spec_ok, h] at h2
  simp only [Option.bind_some] at h2
  by_cases h3 : okG g = true
  · rw [if_pos h3] at h2
    by_cases h4 : g.f6 = true
    · rw [if_pos h4] at h2; cases h2
    · rw [if_neg h4] at h2
      by_cases h5 : g.f2 = 0
      · rw [if_pos h5] at h2
        by_cases h6 : g.f4 ≤ n
        · rw [if_pos h6] at h2
          simp only [Option.some.injEq, decide_eq_true_eq] at h2
          exact ⟨h3, by simpa using h4, .inl h5, h6, h2⟩
        · rw [if_neg h6] at h2; cases h2
      · rw [if_neg h5] at h2
        by_cases h7 : g.f2 = p
        · rw [if_pos h7] at h2
          by_cases h6 : g.f4 ≤ n
          · rw [if_pos h6] at h2
            simp only [Option.some.injEq, decide_eq_true_eq] at h2
            exact ⟨h3, by simpa using h4, .inr h7, h6, h2⟩
          · rw [if_neg h6] at h2; cases h2
        · rw [if_neg h7] at h2; cases h2
  · rw [if_neg h3] at h2; cases h2
theorem ap_mk {p n : Int} {g : S25} (h1 : okG g = true) (h2 : g.f6 = false) (h3 : g.f2 = 0 ∨ g.f2 = p) (h4 : g.f4 ≤ n) (h5 : n < g.f5) : ap p n g = true := by
  have h := spec_ap p n g
  unfold spec_Applies.f at h
  rw [spec_ok, h1, h2] at h
  simp only [Option.bind_some, if_true, Bool.false_eq_true, if_false] at h
  by_cases h6 : g.f2 = 0
  · rw [if_pos h6, if_pos h4] at h
    have := Option.some.inj h
    rw [← this]; exact decide_eq_true h5
  · have h7 : g.f2 = p := h3.resolve_left h6
    rw [if_neg h6, if_pos h7, if_pos h4] at h
    have := Option.some.inj h
    rw [← this]; exact decide_eq_true h5

theorem okG_true {y : S25} (h : okG y = true) : (1 ≤ y.f0 ∧ y.f0 ≤ 40) ∧ (1 ≤ y.f1 ∧ y.f1 ≤ 40) ∧ y.f0 ≠ y.f1 ∧ (0 ≤ y.f2 ∧ y.f2 ≤ 999) ∧ (0 ≤ y.f3 ∧ y.f3 ≤ 5) ∧ (0 ≤ y.f4 ∧ y.f4 ≤ 20000) ∧ (0 ≤ y.f5 ∧ y.f5 ≤ 20000) ∧ y.f4 < y.f5 := by
  have h2 := spec_ok y
  rw [h] at h2
  unfold spec_GrantOk.f spec_l05Person.f spec_l05Time.f at h2
  simp only [sin, Option.bind_some] at h2
  repeat' (split at h2)
  all_goals simp_all
theorem okG_mk {y : S25} (h : (1 ≤ y.f0 ∧ y.f0 ≤ 40) ∧ (1 ≤ y.f1 ∧ y.f1 ≤ 40) ∧ y.f0 ≠ y.f1 ∧ (0 ≤ y.f2 ∧ y.f2 ≤ 999) ∧ (0 ≤ y.f3 ∧ y.f3 ≤ 5) ∧ (0 ≤ y.f4 ∧ y.f4 ≤ 20000) ∧ (0 ≤ y.f5 ∧ y.f5 ≤ 20000) ∧ y.f4 < y.f5) : okG y = true := by
  obtain ⟨h1, h2, h3, h4, h5, h6, h7, h8⟩ := h
  have h9 := spec_ok y
  unfold spec_GrantOk.f spec_l05Person.f spec_l05Time.f at h9
  simp only [sin, Option.bind_some, h1, h2, h4, h5, h6, h7, h8, and_self, decide_true, if_true, ne_eq, h3, if_false, not_false_eq_true, reduceIte, and_true, true_and] at h9
  simpa [h3, h8] using h9.symm

/-- Is a question of a chain right? -/
def goodB (l : List S25) (o w p n : Int) : Bool := okGs l && (decide (1 ≤ o ∧ o ≤ 40) && (decide (1 ≤ w ∧ w ≤ 40) && (decide (1 ≤ p ∧ p ≤ 999) && decide (0 ≤ n ∧ n ≤ 20000))))
theorem spec_good (l : List S25) (hl : l.length ≤ 1048576) (o w p n : Int) : ∀ k, l.length < k → spec_l05Good.f k l o w p n = some (goodB l o w p n) := by
  intro k hk
  unfold spec_l05Good.f spec_l05Person.f spec_l05Time.f goodB
  rw [spec_oks l hl k hk]
  simp only [sin, Option.bind_some]
  cases okGs l <;> cases decide (1 ≤ o ∧ o ≤ 40) <;> cases decide (1 ≤ w ∧ w ≤ 40) <;> cases decide (1 ≤ p ∧ p ≤ 999) <;> simp
theorem impl_good (l : List S25) (hl : l.length ≤ 1048576) (o w p n : Int) : ∀ k, l.length < k → impl_askOk.f k l o w p n = some (goodB l o w p n) := by
  intro k hk
  unfold impl_askOk.f impl_personOk.f impl_timeOk.f goodB
  rw [impl_oks l hl k hk]
  simp only [win, Option.bind_some]
  cases okGs l <;> cases decide (1 ≤ o ∧ o ≤ 40) <;> cases decide (1 ≤ w ∧ w ≤ 40) <;> cases decide (1 ≤ p ∧ p ≤ 999) <;> simp

abbrev chn (l : List S25) (p n w sp o : Int) : List Int × Bool := Rt.chain (·.f0) (·.f1) (·.f3) (ap p n) l w sp o
abbrev mayR (l : List S25) (p n w sp o : Int) : Bool := Rt.may (·.f0) (·.f1) (·.f3) (ap p n) l w sp o
theorem impl_chain_eq (l : List S25) (hl : l.length ≤ 1000000) (o w p n sp : Int) (h0 : 0 ≤ sp) (h1 : sp ≤ 1000000) : impl_chain.f l o w p n sp = some (chn l p n w sp o) := by
  unfold impl_chain.f
  rw [if_pos ⟨hl, h0, h1⟩]
def chainB (l : List S25) (o w p n : Int) : List Int × Bool := if goodB l o w p n = true then chn l p n w 0 o else ([], false)
def mayB (l : List S25) (o w p n : Int) : Bool := goodB l o w p n && mayR l p n w 0 o
theorem chainB_snd (l : List S25) (o w p n : Int) : (chainB l o w p n).2 = mayB l o w p n := by
  unfold chainB mayB
  cases goodB l o w p n with
  | false => rfl
  | true => simp only [if_true, Bool.true_and]; exact Rt.chain_snd
theorem good_len {l : List S25} {o w p n : Int} (h : goodB l o w p n = true) : l.length ≤ 30 := by
  unfold goodB okGs at h
  simp only [Bool.and_eq_true, decide_eq_true_eq] at h
  exact h.1.1
theorem chainB_len (l : List S25) (o w p n : Int) : (chainB l o w p n).1.length ≤ 6 := by
  unfold chainB
  cases goodB l o w p n with
  | false => simp
  | true =>
    rw [if_pos rfl]
    cases hM : mayR l p n w 0 o with
    | false => rw [show chn l p n w 0 o = ([], false) from Rt.chain_false hM]; simp
    | true =>
      obtain ⟨m, r, h1, h2, h3, _⟩ := Rt.chain_true hM
      rw [show chn l p n w 0 o = (r, true) from h2]
      have := h3.len
      simp only
      omega
theorem impl_chainOf (l : List S25) (hl : l.length ≤ 1048576) (o w p n : Int) : ∀ k, l.length < k → impl_ChainOf.f k l o w p n = some (chainB l o w p n) := by
  intro k hk
  unfold impl_ChainOf.f chainB
  rw [impl_good l hl o w p n k hk]
  simp only [Option.bind_some]
  cases h : goodB l o w p n with
  | false => simp
  | true =>
    have := good_len h
    rw [if_pos rfl, if_pos rfl, impl_chain_eq l (by omega) o w p n 0 (by omega) (by omega)]
    rfl
theorem impl_may (l : List S25) (hl : l.length ≤ 1048576) (o w p n : Int) : ∀ k, l.length < k → impl_MayTake.f k l o w p n = some (mayB l o w p n) := by
  intro k hk
  unfold impl_MayTake.f
  rw [impl_chainOf l hl o w p n k hk]
  simp only [Option.bind_some, chainB_snd]

/-! The reference's table of reach. -/
def rowR (l : List S25) (p n w sp : Int) (h : Nat) : List Bool := (List.range 41).map fun q : Nat => rch l p n w sp h (q : Int)
def rowI (l : List S25) (p n w sp : Int) (h i : Nat) : List Bool := (List.range 41).map fun q : Nat => (l.take i).any (nxt l p n w sp h (q : Int))
def rowsR (l : List S25) (p n w sp : Int) (m : Nat) : List (List Bool) := (List.range m).map (rowR l p n w sp)
theorem rowR_len (l : List S25) (p n w sp : Int) (h : Nat) : (rowR l p n w sp h).length = 41 := by simp [rowR]
theorem rowI_len (l : List S25) (p n w sp : Int) (h i : Nat) : (rowI l p n w sp h i).length = 41 := by simp [rowI]
theorem rowsR_len (l : List S25) (p n w sp : Int) (m : Nat) : (rowsR l p n w sp m).length = m := by simp [rowsR]
theorem rows_rd (l : List S25) (p n w sp : Int) (m j : Nat) (h : j < m) : rd_L4 (rowsR l p n w sp m) (j : Int) = rowR l p n w sp j := by
  unfold rd_L4 rowsR
  simp [List.getD_eq_getElem?_getD, h]
theorem row_rd (l : List S25) (p n w sp : Int) (h : Nat) (q : Int) (h0 : 0 ≤ q) (h1 : q < 41) : rdOf false (rowR l p n w sp h) q = rch l p n w sp h q := by
  unfold rdOf rowR
  obtain ⟨m, rfl⟩ : ∃ m : Nat, q = (m : Int) := ⟨q.toNat, by omega⟩
  have hm : m < 41 := by omega
  simp [List.getD_eq_getElem?_getD, hm]
theorem rowI_all (l : List S25) (p n w sp : Int) (h : Nat) : rowI l p n w sp h l.length = rowR l p n w sp (h + 1) := by
  unfold rowI rowR
  rw [List.take_length]
  rfl
theorem rowI_zero (l : List S25) (p n w sp : Int) (h : Nat) : rowI l p n w sp h 0 = List.replicate 41 false := by
  unfold rowI
  apply List.ext_getElem?
  intro i
  by_cases hi : i < 41
  · rw [List.getElem?_map, List.getElem?_range hi, List.getElem?_replicate, if_pos hi]; simp
  · rw [List.getElem?_eq_none (by rw [List.length_map, List.length_range]; omega), List.getElem?_eq_none (by rw [List.length_replicate]; omega)]
theorem rowR_zero (l : List S25) (p n w sp : Int) (h0 : 0 ≤ w) (h1 : w < 41) : rowR l p n w sp 0 = (List.replicate 41 false).set w.toNat true := by
  unfold rowR
  apply List.ext_getElem?
  intro i
  obtain ⟨m, rfl⟩ : ∃ m : Nat, w = (m : Int) := ⟨w.toNat, by omega⟩
  have hm : m < 41 := by omega
  by_cases hi : i < 41
  · simp only [List.getElem?_map, List.getElem?_range hi, Option.map_some, List.getElem?_set, List.length_replicate, Int.toNat_natCast, rch, Rt.reach]
    by_cases e : m = i
    · subst e; simp [hm]
    · rw [if_neg e, List.getElem?_replicate, if_pos hi]
      have : ((i : Int) == (m : Int)) = false := beq_eq_false_iff_ne.mpr (by omega)
      rw [this]
  · simp [hi]
theorem rowI_put (l : List S25) (p n w sp : Int) (h i : Nat) (hi : i < l.length) (hA : ap p n l[i] = true) (hD : decide (l[i].f3 ≥ (h : Int) + sp) = true) (hR : rch l p n w sp h l[i].f1 = true) :
    (rowI l p n w sp h i).set l[i].f0.toNat true = rowI l p n w sp h (i + 1) := by
  have hb := (okG_true (ap_true hA).1).1
  unfold rowI
  apply List.ext_getElem?
  intro j
  obtain ⟨m, hm⟩ : ∃ m : Nat, l[i].f0 = (m : Int) := ⟨l[i].f0.toNat, by omega⟩
  have hl : l[i]? = some l[i] := List.getElem?_eq_getElem hi
  by_cases hj : j < 41
  · simp only [List.getElem?_set, List.getElem?_map, List.getElem?_range hj, Option.map_some, List.length_map, List.length_range]
    rw [any_take _ hl, hm, Int.toNat_natCast]
    by_cases e : m = j
    · subst e
      rw [if_pos rfl, if_pos (by omega)]
      simp only [nxt, hA, hD, hR, Bool.true_and, hm, decide_true, Bool.or_true]
    · rw [if_neg e]
      have : nxt l p n w sp h (j : Int) l[i] = false := by
        simp only [nxt, hA, hD, hR, Bool.true_and, hm]
        exact decide_eq_false (by omega)
      rw [this, Bool.or_false]
  · rw [List.getElem?_set]
    have h2 : ((List.range 41).map fun q : Nat => (l.take (i + 1)).any (nxt l p n w sp h (q : Int)))[j]? = none := List.getElem?_eq_none (by rw [List.length_map, List.length_range]; omega)
    have h3 : ((List.range 41).map fun q : Nat => (l.take i).any (nxt l p n w sp h (q : Int)))[j]? = none := List.getElem?_eq_none (by rw [List.length_map, List.length_range]; omega)
    rw [h2, h3, List.length_map, List.length_range]
    split <;> (try rfl)
    split <;> (try rfl)
    omega
theorem rowI_keep (l : List S25) (p n w sp : Int) (h i : Nat) (hi : i < l.length) (hF : ∀ q, nxt l p n w sp h q l[i] = false) : rowI l p n w sp h (i + 1) = rowI l p n w sp h i := by
  unfold rowI
  apply List.map_congr_left
  intro q _
  rw [any_take _ (List.getElem?_eq_getElem hi), hF, Bool.or_false]

theorem reach_l1 (l : List S25) (hl : l.length ≤ 30) (p n w sp : Int) (h0 : 0 ≤ sp) (h1 : sp ≤ 5) (h : Nat) (hh : h ≤ 5) : ∀ (d i m : Nat), i + d = l.length →
    spec_l05Reach.l1 (2 * d + (m + 1)) l p n sp (rowsR l p n w sp (h + 1)) ((h + 1 : Nat) : Int) (rowI l p n w sp h i) (i : Int) = spec_l05Reach.l0 m l p n sp (rowsR l p n w sp (h + 2)) ((h + 2 : Nat) : Int) := by
  intro d
  induction d with
  | zero =>
    intro i m hi
    have : i = l.length := by omega
    subst this
    rw [show 2 * 0 + (m + 1) = m + 1 by omega]
    simp only [spec_l05Reach.l1]
    rw [if_neg (by omega), if_pos (by rw [rowsR_len]; omega), rowI_all, w64 (by omega) (by omega)]
    congr 1
    · simp only [rowsR, List.range_succ, List.map_append, List.map_cons, List.map_nil]
  | succ d ih =>
    intro i m hi
    have hil : i < l.length := by omega
    have e1 : wrap64 ((i : Int) + 1) = ((i + 1 : Nat) : Int) := w64 (by omega) (by omega)
    have e2 : wrap64 (((h + 1 : Nat) : Int) - 1) = (h : Int) := by rw [w64 (by omega) (by omega)]; omega
    rw [show 2 * (d + 1) + (m + 1) = (2 * d + (m + 1)) + 1 + 1 by omega]
    simp only [spec_l05Reach.l1]
    rw [if_pos (by omega), if_pos (by omega), rd_at hil, spec_ap, e2]
    simp only [Option.bind_some]
    have hlen := rowI_len l p n w sp h i
    have e3 : wrap64 ((h : Int) + sp) = (h : Int) + sp := w64 (by omega) (by omega)
    cases hA : ap p n l[i] with
    | false =>
      rw [if_neg (by simp)]
      simp only [spec_l05Reach.j2]
      rw [if_neg (by simp), e1, ← rowI_keep l p n w sp h i hil (fun q => by simp [nxt, hA])]
      exact ih (i + 1) m (by omega)
    | true =>
      have hb := okG_true (ap_true hA).1
      rw [if_pos rfl, e3]
      by_cases hD : l[i].f3 ≥ (h : Int) + sp
      · rw [if_pos hD, if_pos (by omega), if_pos (by rw [rowsR_len]; omega), if_pos (by omega), rows_rd l p n w sp (h + 1) h (by omega), if_pos (by rw [rowR_len]; omega), row_rd l p n w sp h _ (by omega) (by omega)]
        simp only [spec_l05Reach.j2]
        cases hR : rch l p n w sp h l[i].f1 with
        | true =>
          rw [if_pos rfl, if_pos (by omega), if_pos (by rw [hlen]; omega), e1, rowI_put l p n w sp h i hil hA (decide_eq_true hD) hR]
          exact ih (i + 1) m (by omega)
        | false =>
          rw [if_neg (by simp), e1, ← rowI_keep l p n w sp h i hil (fun q => by simp only [nxt, hR, Bool.false_and, Bool.and_false])]
          exact ih (i + 1) m (by omega)
      · rw [if_neg hD]
        simp only [spec_l05Reach.j2]
        rw [if_neg (by simp), e1, ← rowI_keep l p n w sp h i hil (fun q => by simp only [nxt, decide_eq_false hD, Bool.false_and, Bool.and_false])]
        exact ih (i + 1) m (by omega)

theorem reach_l0 (l : List S25) (hl : l.length ≤ 30) (p n w sp : Int) (h0 : 0 ≤ sp) (h1 : sp ≤ 5) : ∀ (d t m : Nat), t + d = 6 →
    spec_l05Reach.l0 ((2 * l.length + 2) * d + (m + 1)) l p n sp (rowsR l p n w sp (t + 1)) ((t + 1 : Nat) : Int) = some (rowsR l p n w sp 7) := by
  intro d
  induction d with
  | zero =>
    intro t m ht
    have : t = 6 := by omega
    subst this
    rw [show (2 * l.length + 2) * 0 + (m + 1) = m + 1 by omega]
    simp only [spec_l05Reach.l0]
    rw [if_neg (by omega)]
  | succ d ih =>
    intro t m ht
    rw [show (2 * l.length + 2) * (d + 1) + (m + 1) = (2 * l.length + (((2 * l.length + 2) * d + (m + 1)) + 1)) + 1 by rw [Nat.mul_add]; omega]
    simp only [spec_l05Reach.l0]
    rw [if_pos (by omega), if_pos (by omega)]
    have h2 := reach_l1 l hl p n w sp h0 h1 t (by omega) l.length 0 ((2 * l.length + 2) * d + (m + 1)) (by omega)
    rw [rowI_zero] at h2
    exact h2.trans (ih (t + 1) m (by omega))

theorem spec_reach (l : List S25) (hl : l.length ≤ 30) (w p n sp : Int) (hw : 0 ≤ w) (hw' : w < 41) (h0 : 0 ≤ sp) (h1 : sp ≤ 5) : ∀ k, 400 ≤ k → spec_l05Reach.f k l w p n sp = some (rowsR l p n w sp 7) := by
  intro k hk
  unfold spec_l05Reach.f
  rw [if_pos (by omega), if_pos hw, if_pos hw']
  have hm : (2 * l.length + 2) * 6 ≤ 372 := by omega
  obtain ⟨m, rfl⟩ : ∃ m, k = (2 * l.length + 2) * 6 + (m + 1) := ⟨k - (2 * l.length + 2) * 6 - 1, by omega⟩
  have h2 := reach_l0 l hl p n w sp h0 h1 6 0 m (by omega)
  rw [← rowR_zero l p n w sp hw hw']
  exact h2

theorem short_l0 (l : List S25) (p n w sp o : Int) (ho : 0 ≤ o) (ho' : o < 41) : ∀ (d t m : Nat), t + d = 7 →
    spec_l05Short.l0 (d + (m + 1)) (rowsR l p n w sp 7) o (t : Int) = some (match Rt.short (·.f0) (·.f1) (·.f3) (ap p n) l w sp o t d with | some j => (j : Int) | none => -1) := by
  intro d
  induction d with
  | zero =>
    intro t m ht
    rw [show 0 + (m + 1) = m + 1 by omega]
    simp only [spec_l05Short.l0]
    rw [if_neg (by rw [rowsR_len]; omega)]
    rfl
  | succ d ih =>
    intro t m ht
    rw [show d + 1 + (m + 1) = (d + (m + 1)) + 1 by omega]
    simp only [spec_l05Short.l0]
    rw [if_pos (by rw [rowsR_len]; omega), if_pos (by omega), if_pos ho, rows_rd l p n w sp 7 t (by omega), if_pos (by rw [rowR_len]; omega), row_rd l p n w sp t o ho ho', w64 (by omega) (by omega)]
    cases hR : rch l p n w sp t o with
    | true =>
      have hS : Rt.short (·.f0) (·.f1) (·.f3) (ap p n) l w sp o t (d + 1) = some t := by
        simp only [Rt.short]; exact if_pos hR
      rw [if_pos rfl, hS]
    | false =>
      have hS : Rt.short (·.f0) (·.f1) (·.f3) (ap p n) l w sp o t (d + 1) = Rt.short (·.f0) (·.f1) (·.f3) (ap p n) l w sp o (t + 1) d := by
        simp only [Rt.short]; exact if_neg (fun h => by rw [show Rt.reach (·.f0) (·.f1) (·.f3) (ap p n) l w sp t o = false from hR] at h; cases h)
      rw [if_neg (by simp), hS]
      exact ih (t + 1) m (by omega)
theorem spec_short (l : List S25) (p n w sp o : Int) (ho : 0 ≤ o) (ho' : o < 41) : ∀ k, 8 ≤ k → spec_l05Short.f k (rowsR l p n w sp 7) o = some (match Rt.short (·.f0) (·.f1) (·.f3) (ap p n) l w sp o 0 7 with | some j => (j : Int) | none => -1) := by
  intro k hk
  unfold spec_l05Short.f
  obtain ⟨m, rfl⟩ : ∃ m, k = 7 + (m + 1) := ⟨k - 8, by omega⟩
  exact short_l0 l p n w sp o ho ho' 7 0 m (by omega)

abbrev pathR (l : List S25) (p n w : Int) (h : Nat) (at_ : Int) (out : List Int) : List Int := Rt.path (·.f0) (·.f1) (·.f3) (ap p n) l w 0 h at_ out
end Go.Proofs.Ytcpjfkagbnoagaa.GcFnGranting
