/- The codes, plain: both packages' texts of a number and codes are one; a code is told for every count. -/
import Derived.Test.YtdhinnolfpacgaaDoorQFnPadsx0
import Derived.Test.YtdhinnolfpacgaaDoorQFnPadsx1
import Derived.Test.YtdhinnolfpacgaaDoorQFnPadsx2
import Derived.Test.YtdhinnolfpacgaaDoorQFnPadsx3
import Derived.Test.YtdhinnolfpacgaaDoorQFnPadsx4
import Derived.Lib.ItoaMem
namespace Go.Proofs.YtdhinnolfpacgaaDoor.CbFnPads
open Go.RowKit Go.Proofs.YtdhinnolfpacgaaDoor.QFnPads Go.Proofs.YtdhinnolfpacgaaDoorW.PrintWords Go.Proofs.YtdhinnolfpacgaaDoorW.PrintLast Go.Lib

theorem le_of_leO {α : Type} {f : Nat → Option α} (h : ∀ k, LeO (f k) (f (k + 1))) {k : Nat} {r : α} (e : f k = some r) : ∀ d, f (k + d) = some r
  | 0 => e
  | d + 1 => h (k + d) r (le_of_leO h e d)
theorem at_least {α : Type} {f : Nat → Option α} (h : ∀ k, LeO (f k) (f (k + 1))) {k m : Nat} {r : α} (e : f k = some r) (hk : k ≤ m) : f m = some r := by
  have := le_of_leO h e (m - k)
  rwa [Nat.add_sub_cancel' hk] at this

/-- Bytes out of a list. -/
def B (l : List UInt8) : ByteArray := ⟨l.toArray⟩
theorem B_app (l m : List UInt8) : B l ++ B m = B (l ++ m) := by
  apply ByteArray.ext
  simp [B]
theorem B_size (l : List UInt8) : (B l).size = l.length := by simp [B, ByteArray.size]
theorem B_toList (l : List UInt8) : (B l).toList = l := by
  rw [ByteArray.toList_eq]
  simp [B]
theorem B_nil : (⟨#[]⟩ : ByteArray) = B [] := rfl
theorem B_48 : (⟨#[48]⟩ : ByteArray) = B [48] := rfl
theorem B_45 : (⟨#[45]⟩ : ByteArray) = B [45] := rfl
theorem str_one (d : Nat) (_ : d < 256) : strOfNums [(d : Int)] = B [UInt8.ofNat d] := by
  simp [strOfNums, B]

theorem fig (d : Nat) (hd : d < 10) : spec_l01Figure.f (d : Int) = some ((48 + d : Nat) : Int) := by
  unfold spec_l01Figure.f
  rw [if_pos (by omega)]
  have : wrap64 (48 + (d : Int)) = 48 + (d : Int) := by unfold wrap64; omega
  rw [this]
  congr 1
  omega

theorem fmt_l0 : ∀ (k m : Nat) (acc : List UInt8), 0 < m → m < 10000000 → nDigits m + 1 ≤ k → nDigits m + acc.length ≤ 100 →
    spec_FormatInt.l0 k (m : Int) false (B acc) = some (B (decDigits m ++ acc)) := by
  intro k
  induction k with
  | zero => intro m acc h0 h1 h2; omega
  | succ k ih =>
    intro m acc h0 h1 h2 h3
    unfold spec_FormatInt.l0
    have hm : Int.tmod (m : Int) 10 = ((m % 10 : Nat) : Int) := by rw [Int.tmod_eq_emod_of_nonneg (by omega)]; omega
    have hd : wrap64 (Int.tdiv (m : Int) 10) = ((m / 10 : Nat) : Int) := by rw [Int.tdiv_eq_ediv_of_nonneg (by omega)]; unfold wrap64; omega
    rw [if_neg (by omega), hm, if_neg (by omega), fig _ (by omega), hd]
    simp only [Option.bind_some]
    rw [str_one _ (by omega), B_app, B_size, B_size, if_pos (by simp; omega)]
    by_cases hz : m < 10
    · have e0 : m / 10 = 0 := by omega
      rw [e0]
      have h9 : nDigits m = 1 := nDigits_small hz
      obtain ⟨k1, rfl⟩ : ∃ k1, k = k1 + 1 := ⟨k - 1, by omega⟩
      unfold spec_FormatInt.l0
      rw [if_pos (by rfl), if_neg (by decide), decDigits_one hz]
      simp [Nat.mod_eq_of_lt hz]
    · have hn : nDigits m = nDigits (m / 10) + 1 := by rw [nDigits, dif_neg hz]
      rw [ih (m / 10) _ (by omega) (by omega) (by omega) (by simp; omega)]
      rw [show decDigits m = decDigits (m / 10) ++ [UInt8.ofNat (48 + m % 10)] by rw [decDigits, dif_neg hz]]
      simp

theorem nDigits_le (m : Nat) (h : m < 10000000) : nDigits m ≤ 7 := by
  rcases Nat.lt_or_ge m 10 with h1 | h1
  · rw [nDigits_small h1]; omega
  rw [nDigits, dif_neg (by omega)]
  rcases Nat.lt_or_ge (m / 10) 10 with h1 | h1
  · rw [nDigits_small h1]; omega
  rw [nDigits, dif_neg (by omega)]
  rcases Nat.lt_or_ge (m / 10 / 10) 10 with h1 | h1
  · rw [nDigits_small h1]; omega
  rw [nDigits, dif_neg (by omega)]
  rcases Nat.lt_or_ge (m / 10 / 10 / 10) 10 with h1 | h1
  · rw [nDigits_small h1]; omega
  rw [nDigits, dif_neg (by omega)]
  rcases Nat.lt_or_ge (m / 10 / 10 / 10 / 10) 10 with h1 | h1
  · rw [nDigits_small h1]; omega
  rw [nDigits, dif_neg (by omega)]
  rcases Nat.lt_or_ge (m / 10 / 10 / 10 / 10 / 10) 10 with h1 | h1
  · rw [nDigits_small h1]; omega
  rw [nDigits, dif_neg (by omega)]
  rcases Nat.lt_or_ge (m / 10 / 10 / 10 / 10 / 10 / 10) 10 with h1 | h1
  · rw [nDigits_small h1]; omega
  omega

theorem itoa_pos (m : Nat) : itoa (m : Int) = decDigits m := itoa_nonneg m
theorem fmt_spec (k m : Nat) (hm : m < 1000000) (hk : 10 ≤ k) : spec_FormatInt.f k (m : Int) = some (B (decDigits m)) := by
  unfold spec_FormatInt.f
  by_cases h0 : m = 0
  · subst h0
    rw [if_pos (by rfl), decDigits_one (by decide)]
    rfl
  · rw [if_neg (by omega), show (decide ((m : Int) < 0)) = false by simp, B_nil, fmt_l0 k m [] (by omega) (by omega) (by have := nDigits_le m (by omega); omega) (by have := nDigits_le m (by omega); simp; omega)]
    simp
theorem fmt_impl (m : Nat) (hm : m < 1000000) : impl_FormatInt.f (m : Int) = some (B (decDigits m)) := by
  unfold impl_FormatInt.f
  rw [if_pos (by omega), itoa_pos]
  rfl

/-- A numeral with zeros ahead, six signs at least. -/
def pad : Nat → List UInt8 → List UInt8
  | 0, l => l
  | d + 1, l => if l.length < 6 then pad d (48 :: l) else l
theorem pad_spec : ∀ (d k : Nat) (l : List UInt8), 6 ≤ d + l.length → d + 1 ≤ k → l.length ≤ 100 → spec_CodeOf.l1 k (B l) = some (B (pad d l)) := by
  intro d
  induction d with
  | zero =>
    intro k l h1 h2 h3
    obtain ⟨k1, rfl⟩ : ∃ k1, k = k1 + 1 := ⟨k - 1, by omega⟩
    unfold spec_CodeOf.l1
    rw [B_size, if_neg (by omega)]
    rfl
  | succ d ih =>
    intro k l h1 h2 h3
    obtain ⟨k1, rfl⟩ : ∃ k1, k = k1 + 1 := ⟨k - 1, by omega⟩
    unfold spec_CodeOf.l1 pad
    rw [B_size]
    by_cases h : l.length < 6
    · rw [if_pos (by omega), if_pos (by omega), if_pos h, B_48, B_app]
      exact ih k1 (48 :: l) (by simp; omega) (by omega) (by simp; omega)
    · rw [if_neg (by omega), if_neg h]
theorem pad_impl : ∀ (d k : Nat) (l : List UInt8), 6 ≤ d + l.length → d + 1 ≤ k → l.length ≤ 100 → impl_CodeOf.l1 k (B l) = some (B (pad d l)) := by
  intro d
  induction d with
  | zero =>
    intro k l h1 h2 h3
    obtain ⟨k1, rfl⟩ : ∃ k1, k = k1 + 1 := ⟨k - 1, by omega⟩
    unfold impl_CodeOf.l1
    rw [B_size, if_neg (by omega)]
    rfl
  | succ d ih =>
    intro k l h1 h2 h3
    obtain ⟨k1, rfl⟩ : ∃ k1, k = k1 + 1 := ⟨k - 1, by omega⟩
    unfold impl_CodeOf.l1 pad
    rw [B_size]
    by_cases h : l.length < 6
    · rw [if_pos (by omega), if_pos (by omega), if_pos h, B_48, B_app]
      exact ih k1 (48 :: l) (by simp; omega) (by omega) (by simp; omega)
    · rw [if_neg (by omega), if_neg h]
theorem digits_short (m : Nat) (h : m < 1000000) : (decDigits m).length ≤ 100 := by
  rw [decDigits_length]; have := nDigits_le m (by omega); omega

def step (x : Nat) : Nat := 48271 * x % 2147483647
def codeN (s n : Nat) : List UInt8 := pad 6 (decDigits (step (step (step ((s + 65537 * n) % 2147483647))) % 1000000))
theorem tm (x : Nat) (m : Nat) : Int.tmod (x : Int) (m : Int) = ((x % m : Nat) : Int) := by rw [Int.tmod_eq_emod_of_nonneg (by omega)]; rfl
theorem step_spec (x : Nat) (h : x < 2147483647) : Int.tmod (wrap64 ((x : Int) * 48271)) 2147483647 = ((step x : Nat) : Int) := by
  have : wrap64 ((x : Int) * 48271) = ((48271 * x : Nat) : Int) := by unfold wrap64; omega
  rw [this]
  exact tm _ _
theorem step_impl (x : Nat) (h : x < 2147483647) : Int.tmod (wrap64 (48271 * (x : Int))) 2147483647 = ((step x : Nat) : Int) := by
  have : wrap64 (48271 * (x : Int)) = ((48271 * x : Nat) : Int) := by unfold wrap64; omega
  rw [this]
  exact tm _ _
theorem step_lt (x : Nat) : step x < 2147483647 := Nat.mod_lt _ (by decide)
theorem w01 : wrap64 (0 + 1) = 1 := by unfold wrap64; omega
theorem w12 : wrap64 (1 + 1) = 2 := by unfold wrap64; omega
theorem w23 : wrap64 (2 + 1) = 3 := by unfold wrap64; omega
theorem rounds_spec (k x : Nat) (h : x < 2147483647) (hk : 20 ≤ k) : spec_CodeOf.l0 k (x : Int) 0 = some (B (pad 6 (decDigits (step (step (step x)) % 1000000)))) := by
  obtain ⟨k1, rfl⟩ : ∃ k1, k = k1 + 4 := ⟨k - 4, by omega⟩
  rw [spec_CodeOf.l0, if_pos (by decide), step_spec x h, w01, spec_CodeOf.l0, if_pos (by decide), step_spec _ (step_lt _), w12, spec_CodeOf.l0, if_pos (by decide), step_spec _ (step_lt _), w23, spec_CodeOf.l0, if_neg (by decide)]
  have e := tm (step (step (step x))) 1000000
  have e' : Int.tmod ((step (step (step x)) : Nat) : Int) 1000000 = ((step (step (step x)) % 1000000 : Nat) : Int) := e
  rw [e', fmt_spec k1 _ (Nat.mod_lt _ (by decide)) (by omega)]
  simp only [Option.bind_some]
  exact pad_spec 6 k1 _ (by omega) (by omega) (digits_short _ (Nat.mod_lt _ (by decide)))
theorem rounds_impl (k x : Nat) (h : x < 2147483647) (hk : 20 ≤ k) : impl_CodeOf.l0 k (x : Int) 0 = some (B (pad 6 (decDigits (step (step (step x)) % 1000000)))) := by
  obtain ⟨k1, rfl⟩ : ∃ k1, k = k1 + 4 := ⟨k - 4, by omega⟩
  rw [impl_CodeOf.l0, if_pos (by decide), step_impl x h, w01, impl_CodeOf.l0, if_pos (by decide), step_impl _ (step_lt _), w12, impl_CodeOf.l0, if_pos (by decide), step_impl _ (step_lt _), w23, impl_CodeOf.l0, if_neg (by decide)]
  have e := tm (step (step (step x))) 1000000
  have e' : Int.tmod ((step (step (step x)) : Nat) : Int) 1000000 = ((step (step (step x)) % 1000000 : Nat) : Int) := e
  rw [e', fmt_impl _ (Nat.mod_lt _ (by decide))]
  simp only [Option.bind_some]
  exact pad_impl 6 k1 _ (by omega) (by omega) (digits_short _ (Nat.mod_lt _ (by decide)))

/-- The code of a count, or nothing. -/
def code (s n : Int) : List UInt8 := if 1 ≤ s ∧ s ≤ 2147483646 ∧ 0 ≤ n ∧ n ≤ 1000000 then codeN s.toNat n.toNat else []
theorem in_spec (a b c : Int) : spec_l01In.f a b c = some (decide (b ≤ a ∧ a ≤ c)) := by
  unfold spec_l01In.f
  by_cases h : a ≥ b
  · rw [if_pos h]; congr 1; simp; omega
  · rw [if_neg h]; congr 1; simp; omega
theorem in_impl (a b c : Int) : impl_within.f a b c = some (decide (b ≤ a ∧ a ≤ c)) := by
  unfold impl_within.f
  by_cases h : a ≥ b
  · rw [if_pos h]; congr 1; simp; omega
  · rw [if_neg h]; congr 1; simp; omega
theorem sec_spec (a : Int) : spec_l03Secret.f a = some (decide (1 ≤ a ∧ a ≤ 2147483646)) := by unfold spec_l03Secret.f; rw [in_spec]; rfl
theorem sec_impl (a : Int) : impl_secretOk.f a = some (decide (1 ≤ a ∧ a ≤ 2147483646)) := by unfold impl_secretOk.f; rw [in_impl]; rfl
theorem cnt_impl (a : Int) : impl_countOk.f a = some (decide (0 ≤ a ∧ a ≤ 1000000)) := by unfold impl_countOk.f; rw [in_impl]; rfl
theorem first_x (s n : Int) (h1 : 1 ≤ s) (h2 : s ≤ 2147483646) (h3 : 0 ≤ n) (h4 : n ≤ 1000000) : Int.tmod (wrap64 (s + (wrap64 (65537 * n)))) 2147483647 = (((s.toNat + 65537 * n.toNat) % 2147483647 : Nat) : Int) := by
  have : wrap64 (s + (wrap64 (65537 * n))) = ((s.toNat + 65537 * n.toNat : Nat) : Int) := by unfold wrap64; omega
  rw [this]
  exact tm _ _
theorem code_spec (k : Nat) (s n : Int) (hk : 21 ≤ k) : spec_CodeOf.f k s n = some (B (code s n)) := by
  obtain ⟨k1, rfl⟩ : ∃ k1, k = k1 + 1 := ⟨k - 1, by omega⟩
  unfold spec_CodeOf.f code
  rw [sec_spec]
  simp only [Option.bind_some]
  by_cases hs : 1 ≤ s ∧ s ≤ 2147483646
  · rw [if_pos (decide_eq_true hs), in_spec]
    simp only [Option.bind_some]
    rw [spec_CodeOf.j0]
    by_cases hn : 0 ≤ n ∧ n ≤ 1000000
    · rw [if_neg (by simp [hn]), first_x s n hs.1 hs.2 hn.1 hn.2, rounds_spec _ _ (Nat.mod_lt _ (by decide)) (by omega), if_pos ⟨hs.1, hs.2, hn.1, hn.2⟩]
      rfl
    · rw [if_pos (by simp only [decide_eq_false hn]; rfl), if_neg (fun h => hn ⟨h.2.2.1, h.2.2.2⟩), B_nil]
  · rw [if_neg (by simpa using hs), if_neg (fun h => hs ⟨h.1, h.2.1⟩)]
    rw [spec_CodeOf.j0]
    rw [if_pos rfl, B_nil]
theorem code_impl (k : Nat) (s n : Int) (hk : 21 ≤ k) : impl_CodeOf.f k s n = some (B (code s n)) := by
  obtain ⟨k1, rfl⟩ : ∃ k1, k = k1 + 1 := ⟨k - 1, by omega⟩
  unfold impl_CodeOf.f code
  rw [sec_impl]
  simp only [Option.bind_some]
  by_cases hs : 1 ≤ s ∧ s ≤ 2147483646
  · rw [if_pos (decide_eq_true hs), cnt_impl]
    simp only [Option.bind_some]
    rw [impl_CodeOf.j0]
    by_cases hn : 0 ≤ n ∧ n ≤ 1000000
    · rw [if_neg (by simp [hn]), first_x s n hs.1 hs.2 hn.1 hn.2, rounds_impl _ _ (Nat.mod_lt _ (by decide)) (by omega), if_pos ⟨hs.1, hs.2, hn.1, hn.2⟩]
      rfl
    · rw [if_pos (by simp only [decide_eq_false hn]; rfl), if_neg (fun h => hn ⟨h.2.2.1, h.2.2.2⟩), B_nil]
  · rw [if_neg (by simpa using hs), if_neg (fun h => hs ⟨h.1, h.2.1⟩)]
    rw [impl_CodeOf.j0]
    rw [if_pos rfl, B_nil]

/-- A right lock. -/
def okL (s n t p u : Int) : Bool := decide (1 ≤ s ∧ s ≤ 2147483646 ∧ 0 ≤ n ∧ n ≤ 1000001 ∧ 0 ≤ t ∧ t ≤ 2 ∧ 0 ≤ p ∧ p ≤ 6 ∧ 0 ≤ u ∧ u ≤ 20064)
theorem lock_impl (s n t p u : Int) : impl_LockOk.f s n t p u = some (okL s n t p u) := by
  unfold impl_LockOk.f okL
  simp only [sec_impl, in_impl, Option.bind_some]
  by_cases h1 : 1 ≤ s ∧ s ≤ 2147483646
  · rw [if_pos (decide_eq_true h1)]
    by_cases h2 : 0 ≤ n ∧ n ≤ 1000001
    · rw [if_pos (decide_eq_true h2)]
      by_cases h3 : 0 ≤ t ∧ t ≤ 2
      · rw [if_pos (decide_eq_true h3)]
        by_cases h4 : 0 ≤ p ∧ p ≤ 6
        · rw [if_pos (decide_eq_true h4)]
          congr 1
          rw [decide_eq_decide]; omega
        · rw [if_neg (by simpa using h4)]; congr 1; symm; rw [decide_eq_false_iff_not]; omega
      · rw [if_neg (by simpa using h3)]; congr 1; symm; rw [decide_eq_false_iff_not]; omega
    · rw [if_neg (by simpa using h2)]; congr 1; symm; rw [decide_eq_false_iff_not]; omega
  · rw [if_neg (by simpa using h1)]; congr 1; symm; rw [decide_eq_false_iff_not]; omega

/-- The first of d numbers from n on that passes, or -1. -/
def find (p : Int → Bool) : Nat → Int → Int
  | 0, _ => -1
  | d + 1, n => if p n = true then n else find p d (n + 1)
/-- How many counts a lock looks at. -/
def many (n w : Int) : Nat := (min (n + w) 1000001 - n).toNat
def same (s : Int) (x : ByteArray) (n : Int) : Bool := decide (code s n = x.toList)
def matchV (s n : Int) (x : ByteArray) : Int := find (same s x) (many n 5) n
theorem match_impl_l (s0 n0 t p u : Int) (x : ByteArray) (ho : okL s0 n0 t p u = true) : ∀ (d k : Nat) (n : Int), n0 ≤ n → d = (min (n0 + 5) 1000001 - n).toNat → 40 + 2 * d ≤ k →
    impl_MatchOf.l0 k x n s0 n0 t p u = some (find (same s0 x) d n) := by
  have hb : 0 ≤ n0 ∧ n0 ≤ 1000001 := by unfold okL at ho; simp only [decide_eq_true_eq] at ho; omega
  have hw : wrap64 (n0 + 5) = n0 + 5 := by unfold wrap64; omega
  intro d
  induction d with
  | zero =>
    intro k n h0 hd hk
    obtain ⟨k1, rfl⟩ : ∃ k1, k = k1 + 2 := ⟨k - 2, by omega⟩
    rw [impl_MatchOf.l0, hw, cnt_impl]
    by_cases h : n < n0 + 5
    · rw [if_pos h]
      simp only [Option.bind_some]
      rw [impl_MatchOf.j1, if_neg (by simp; omega)]; rfl
    · rw [if_neg h, impl_MatchOf.j1, if_neg (by simp)]; rfl
  | succ d ih =>
    intro k n h0 hd hk
    obtain ⟨k1, rfl⟩ : ∃ k1, k = k1 + 2 := ⟨k - 2, by omega⟩
    rw [impl_MatchOf.l0, hw, cnt_impl, if_pos (by omega)]
    simp only [Option.bind_some]
    rw [impl_MatchOf.j1, if_pos (by simp; omega), code_impl _ _ _ (by omega)]
    simp only [Option.bind_some, B_toList]
    have hn : wrap64 (n + 1) = n + 1 := by unfold wrap64; omega
    unfold find same
    by_cases hc : code s0 n = x.toList
    · rw [if_pos hc, if_pos (decide_eq_true hc)]
    · rw [if_neg hc, if_neg (by simpa using hc), hn]
      exact ih k1 (n + 1) (by omega) (by omega) (by omega)
theorem many5 (n : Int) : many n 5 ≤ 5 := by unfold many; omega
theorem match_impl (k : Nat) (s n t p u : Int) (x : ByteArray) (hk : 50 ≤ k) : impl_MatchOf.f k s n t p u x = some (if okL s n t p u = true then matchV s n x else -1) := by
  unfold impl_MatchOf.f
  rw [lock_impl]
  simp only [Option.bind_some]
  by_cases ho : okL s n t p u = true
  · have := many5 n
    rw [if_pos ho, if_pos ho, match_impl_l s n t p u x ho (many n 5) k n (Int.le_refl _) rfl (by omega)]; rfl
  · rw [if_neg ho, if_neg ho]
end Go.Proofs.YtdhinnolfpacgaaDoor.CbFnPads
