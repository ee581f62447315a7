/- Resync, plain: both packages' answer is one. -/
import Derived.Test.YtdhinnolfpacgaaDoorCtFnResync
namespace Go.Proofs.YtdhinnolfpacgaaDoor.CrFnResync
open Go.RowKit Go.Proofs.YtdhinnolfpacgaaDoor.QFnResync Go.Proofs.YtdhinnolfpacgaaDoor.CbFnResync Go.Proofs.YtdhinnolfpacgaaDoor.CtFnResync Go.Proofs.YtdhinnolfpacgaaDoorW.PrintWords Go.Proofs.YtdhinnolfpacgaaDoorW.PrintLast Go.Lib
def two (s : Int) (x y : ByteArray) (n : Int) : Bool := decide (code s n = x.toList ∧ code s (n + 1) = y.toList)
def manyR (n : Int) : Nat := (min (n + 39) 1000000 - n).toNat
def pairV (s n : Int) (x y : ByteArray) : Int := find (two s x y) (manyR n) n
def nextR (s n : Int) (x y : ByteArray) : Int := if pairV s n x y < 0 then -1 else pairV s n x y + 2
def resyncV (s n t p u : Int) (x y : ByteArray) (now : Int) : L6 := tryG (nextR s n x y) s n t p u now
theorem manyR_le (n : Int) : manyR n ≤ 39 := by unfold manyR; omega
theorem pair_spec_l (s0 n0 t p u : Int) (x y : ByteArray) (hb : 0 ≤ n0 ∧ n0 ≤ 1000001) : ∀ (d k : Nat) (n : Int), n0 ≤ n → n ≤ 1000001 → d = (min (n0 + 39) 1000000 - n).toNat → 40 + 2 * d ≤ k →
    spec_l03Pair.l0 k x y n s0 n0 t p u = some (find (two s0 x y) d n) := by
  have hw : wrap64 (n0 + 40) = n0 + 40 := by unfold wrap64; omega
  intro d
  induction d with
  | zero =>
    intro k n h0 h1 hd hk
    obtain ⟨k1, rfl⟩ : ∃ k1, k = k1 + 2 := ⟨k - 2, by omega⟩
    have hn : wrap64 (n + 1) = n + 1 := by unfold wrap64; omega
    rw [spec_l03Pair.l0, hn, hw]
    by_cases h : n + 1 ≤ 1000000
    · rw [if_pos h, spec_l03Pair.j1, if_neg (by simp; omega)]; rfl
    · rw [if_neg h, spec_l03Pair.j1, if_neg (by simp)]; rfl
  | succ d ih =>
    intro k n h0 h1 hd hk
    obtain ⟨k1, rfl⟩ : ∃ k1, k = k1 + 2 := ⟨k - 2, by omega⟩
    have hn : wrap64 (n + 1) = n + 1 := by unfold wrap64; omega
    have next := ih k1 (n + 1) (by omega) (by omega) (by omega) (by omega)
    rw [spec_l03Pair.l0, hn, hw, if_pos (by omega), spec_l03Pair.j1, if_pos (by simp; omega), code_spec _ _ _ (by omega)]
    simp only [Option.bind_some, B_toList, hn]
    unfold find two
    by_cases hc : code s0 n = x.toList
    · rw [if_pos hc, code_spec _ _ _ (by omega)]
      simp only [Option.bind_some, B_toList]
      by_cases hd2 : code s0 (n + 1) = y.toList
      · rw [if_pos hd2, if_pos (decide_eq_true ⟨hc, hd2⟩)]
      · rw [if_neg hd2, if_neg (by rw [decide_eq_false (fun h => hd2 h.2)]; decide)]
        exact next
    · rw [if_neg hc, if_neg (by rw [decide_eq_false (fun h => hc h.1)]; decide)]
      exact next
theorem pair_impl_l (s0 n0 t p u : Int) (x y : ByteArray) (hb : 0 ≤ n0 ∧ n0 ≤ 1000001) : ∀ (d k : Nat) (n : Int), n0 ≤ n → n ≤ 1000001 → d = (min (n0 + 39) 1000000 - n).toNat → 40 + 2 * d ≤ k →
    impl_Resync.cl0 k x y n s0 n0 t p u = some (if find (two s0 x y) d n < 0 then -1 else find (two s0 x y) d n + 2) := by
  have hw : wrap64 ((wrap64 (n0 + 40)) - 1) = n0 + 39 := by unfold wrap64; omega
  intro d
  induction d with
  | zero =>
    intro k n h0 h1 hd hk
    obtain ⟨k1, rfl⟩ : ∃ k1, k = k1 + 2 := ⟨k - 2, by omega⟩
    have hn : wrap64 (n + 1) = n + 1 := by unfold wrap64; omega
    rw [impl_Resync.cl0, hn, hw, cnt_impl]
    by_cases h : n + 1 ≤ n0 + 39
    · rw [if_pos h]
      simp only [Option.bind_some]
      rw [impl_Resync.cj1, if_neg (by simp; omega)]; rfl
    · rw [if_neg h, impl_Resync.cj1, if_neg (by simp)]; rfl
  | succ d ih =>
    intro k n h0 h1 hd hk
    obtain ⟨k1, rfl⟩ : ∃ k1, k = k1 + 2 := ⟨k - 2, by omega⟩
    have hn : wrap64 (n + 1) = n + 1 := by unfold wrap64; omega
    have next := ih k1 (n + 1) (by omega) (by omega) (by omega) (by omega)
    rw [impl_Resync.cl0, hn, hw, cnt_impl, if_pos (by omega)]
    simp only [Option.bind_some]
    rw [impl_Resync.cj1, if_pos (by simp; omega), code_impl _ _ _ (by omega)]
    simp only [Option.bind_some, B_toList, hn]
    unfold find two
    by_cases hc : code s0 n = x.toList
    · rw [if_pos hc, code_impl _ _ _ (by omega)]
      simp only [Option.bind_some, B_toList]
      by_cases hd2 : code s0 (n + 1) = y.toList
      · have e1 : (if decide (code s0 n = x.toList ∧ code s0 (n + 1) = y.toList) = true then n else find (fun n => decide (code s0 n = x.toList ∧ code s0 (n + 1) = y.toList)) d (n + 1)) = n := if_pos (decide_eq_true ⟨hc, hd2⟩)
        have hw2 : wrap64 (n + 2) = n + 2 := by unfold wrap64; omega
        rw [if_pos hd2, hw2]
        show _ = some (if (if decide (code s0 n = x.toList ∧ code s0 (n + 1) = y.toList) = true then n else find (two s0 x y) d (n + 1)) < 0 then -1 else (if decide (code s0 n = x.toList ∧ code s0 (n + 1) = y.toList) = true then n else find (two s0 x y) d (n + 1)) + 2)
        rw [if_pos (decide_eq_true ⟨hc, hd2⟩), if_neg (by omega)]
      · rw [if_neg hd2, if_neg (c := decide (code s0 n = x.toList ∧ code s0 (n + 1) = y.toList) = true) (by rw [decide_eq_false (fun h => hd2 h.2)]; decide)]
        exact next
    · rw [if_neg hc, if_neg (c := decide (code s0 n = x.toList ∧ code s0 (n + 1) = y.toList) = true) (by rw [decide_eq_false (fun h => hc h.1)]; decide)]
      exact next
theorem pair_le (s n : Int) (x y : ByteArray) (h0 : 0 ≤ n) (h1 : n ≤ 1000001) : pairV s n x y = -1 ∨ (n ≤ pairV s n x y ∧ pairV s n x y < n + 39 ∧ pairV s n x y + 1 ≤ 1000000) := by
  unfold pairV
  rcases find_le (two s x y) (manyR n) n with e | ⟨a, b, c⟩
  · exact Or.inl e
  · have hm : (manyR n : Int) = max (min (n + 39) 1000000 - n) 0 := by unfold manyR; omega
    exact Or.inr ⟨a, by omega, by omega⟩
theorem pair_spec (k : Nat) (s n t p u : Int) (x y : ByteArray) (ho : okL s n t p u = true) (hk : 130 ≤ k) : spec_l03Pair.f k s n t p u x y = some (pairV s n x y) := by
  obtain ⟨_, _, b1, b2, _⟩ := ok_parts ho
  have := manyR_le n
  unfold spec_l03Pair.f
  rw [pair_spec_l s n t p u x y ⟨b1, b2⟩ (manyR n) k n (Int.le_refl _) b2 rfl (by omega)]
  rfl
theorem rclo_impl (k : Nat) (s n t p u : Int) (x y : ByteArray) (ho : okL s n t p u = true) (hk : 130 ≤ k) : impl_Resync.cf k s n t p u x y = some (nextR s n x y) := by
  obtain ⟨_, _, b1, b2, _⟩ := ok_parts ho
  have := manyR_le n
  unfold impl_Resync.cf
  rw [pair_impl_l s n t p u x y ⟨b1, b2⟩ (manyR n) k n (Int.le_refl _) b2 rfl (by omega)]
  rfl
theorem resync_spec (k : Nat) (s n t p u : Int) (x y : ByteArray) (now : Int) (hk : 140 ≤ k) : spec_Resync.f k s n t p u x y now = some (resyncV s n t p u x y now) := by
  obtain ⟨k1, rfl⟩ : ∃ k1, k = k1 + 1 := ⟨k - 1, by omega⟩
  unfold spec_Resync.f resyncV tryG
  rw [lock_spec]
  simp only [Option.bind_some]
  by_cases ho : okL s n t p u = true
  · rw [if_pos ho, in_spec]
    simp only [Option.bind_some]
    rw [spec_Resync.j0]
    by_cases hn : 0 ≤ now ∧ now ≤ 20000
    · have hc : okL s n t p u = true ∧ 0 ≤ now ∧ now ≤ 20000 := ⟨ho, hn.1, hn.2⟩
      rw [if_neg (by simp only [decide_eq_true hn]; decide), if_pos hc]
      by_cases hu : now < u
      · rw [if_pos hu, if_pos hu]
      · rw [if_neg hu, if_neg hu, pair_spec k1 _ _ _ _ _ _ _ ho (by omega)]
        simp only [Option.bind_some]
        unfold nextR
        obtain ⟨_, _, b1, b2, _⟩ := ok_parts ho
        rcases pair_le s n x y b1 b2 with e | ⟨e1, e2, e3⟩
        · rw [e, if_neg (by decide), if_pos (by decide), enter_spec k1 _ _ _ _ _ _ _ ho hn.1 hn.2 (by omega)]
          rfl
        · rw [if_pos (by omega), if_neg (by omega), show wrap64 (pairV s n x y + 2) = pairV s n x y + 2 by unfold wrap64; omega, enter_spec k1 _ _ _ _ _ _ _ ho hn.1 hn.2 (by omega)]
          rfl
    · rw [if_pos (by simp only [decide_eq_false hn]; decide), if_neg (fun h => hn h.2)]
  · rw [if_neg ho, if_neg (fun h => ho h.1), spec_Resync.j0, if_pos rfl]
theorem rtried_impl (nx : Nat → Option Int) (v : Int) (k : Nat) (s n t p u now : Int) (hnx : okL s n t p u = true → ∀ m, 130 ≤ m → nx m = some v) (hk : 140 ≤ k) : impl_Resync.tf nx k s n t p u now = some (tryG v s n t p u now) := by
  obtain ⟨k1, rfl⟩ : ∃ k1, k = k1 + 1 := ⟨k - 1, by omega⟩
  unfold impl_Resync.tf tryG
  rw [lock_impl]
  simp only [Option.bind_some]
  by_cases ho : okL s n t p u = true
  · rw [if_pos ho, time_impl]
    simp only [Option.bind_some]
    rw [impl_Resync.j0]
    by_cases hn : 0 ≤ now ∧ now ≤ 20000
    · have hc : okL s n t p u = true ∧ 0 ≤ now ∧ now ≤ 20000 := ⟨ho, hn.1, hn.2⟩
      rw [if_neg (by simp only [decide_eq_true hn]; decide), if_pos hc]
      by_cases hu : now < u
      · rw [if_pos hu, if_pos hu]
      · rw [if_neg hu, if_neg hu, hnx ho k1 (by omega)]
        simp only [Option.bind_some]
        obtain ⟨_, _, _, _, q1, q2, q3, q4, _, _⟩ := ok_parts ho
        have hp := pw_le p q3 q4
        unfold enter
        by_cases hv : v ≥ 0
        · rw [if_pos hv, if_pos hv]
        · rw [if_neg hv, if_neg hv]
          by_cases ht : t < 2
          · rw [if_pos ht, if_pos ht, show wrap64 (t + 1) = t + 1 by unfold wrap64; omega]
          · rw [if_neg ht, if_neg ht, if_pos q3, mn_b p q3 q4, shl_pw p q3 q4, show wrap64 (now + pw p) = now + pw p by unfold wrap64; omega]
    · rw [if_pos (by simp only [decide_eq_false hn]; decide), if_neg (fun h => hn h.2)]
  · rw [if_neg ho, if_neg (fun h => ho h.1), impl_Resync.j0, if_pos rfl]
theorem resync_impl (k : Nat) (s n t p u : Int) (x y : ByteArray) (now : Int) (hk : 140 ≤ k) : impl_Resync.f k s n t p u x y now = some (resyncV s n t p u x y now) := by
  unfold impl_Resync.f resyncV
  rw [rtried_impl _ (nextR s n x y) k s n t p u now (fun ho m hm => rclo_impl m s n t p u x y ho hm) hk]
  rfl
end Go.Proofs.YtdhinnolfpacgaaDoor.CrFnResync
