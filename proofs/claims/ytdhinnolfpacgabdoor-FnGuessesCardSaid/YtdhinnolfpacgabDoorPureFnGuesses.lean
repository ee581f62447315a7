/- Nobody who has only wrong codes gets more of them tried than one who tries as soon as it is possible, and that one gets as many as MostWrong tells: for every code (plain). -/
import Derived.Test.YtdhinnolfpacgabDoorCgFnGuesses
namespace Go.Proofs.YtdhinnolfpacgabDoor.Pure
open Go.RowKit Go.Proofs.YtdhinnolfpacgabDoor.QFnGuesses Go.Proofs.YtdhinnolfpacgabDoor.CbFnGuesses Go.Proofs.YtdhinnolfpacgabDoor.CtFnGuesses Go.Proofs.YtdhinnolfpacgabDoor.CgFnGuesses Go.Proofs.YtdhinnolfpacgabDoor.DwFnGuesses Go.Proofs.YtdhinnolfpacgabDoorW.PrintWords Go.Proofs.YtdhinnolfpacgabDoorW.PrintLast
theorem w1 {x : Int} (h0 : -1000000 ≤ x) (h1 : x ≤ 1000000000) : wrap64 (x + 1) = x + 1 := by unfold wrap64; omega
/-- One who tries as soon as it is possible: how often, by a count of rounds. -/
def sim : Nat → Bool → Int → Int → Int → Int → Int → Int → Option Int
  | 0, _, _, _, _, _, _, _ => none
  | k + 1, false, all, e, now, t, p, u => if now ≤ e then sim k true all e now t p u else some all
  | k + 1, true, all, e, now, t, p, u => if now < u then sim k false all e (now + 1) t p u else if t < 2 then sim k true (all + 1) e now (t + 1) p u else sim k true (all + 1) e now 0 (min 6 (p + 1)) (now + pw p)
theorem okS {s t p u : Int} (hs : 1 ≤ s ∧ s ≤ 10000) (a : 0 ≤ t ∧ t ≤ 2) (b : 0 ≤ p ∧ p ≤ 6) (c : 0 ≤ u ∧ u ≤ 1000) : okL s 0 t p u = true := by
  unfold okL
  rw [decide_eq_true_eq]
  omega
theorem sim_law (s x8 x9 e A M1 : Int) (hs : 1 ≤ s ∧ s ≤ 10000) (he : e ≤ 200) (hM : ∀ m, 100 ≤ m → impl_MostWrong.f m x8 = some M1) (h9 : x9 ≤ M1) (hA : ∀ m, 100 ≤ m → impl_MostWrong.f m e = some A) :
    ∀ (k : Nat) (b : Bool) (all now t p u : Int), sim k b all e now t p u = some A → 0 ≤ now → now ≤ e + 1 → (b = true → now ≤ e) → 0 ≤ all → all + k ≤ 1000000 → 0 ≤ t ∧ t ≤ 2 → 0 ≤ p ∧ p ≤ 6 → 0 ≤ u ∧ u ≤ 1000 →
      (if b = true then laws_FnGuesses.l3 (k + 100) x8 x9 all e now s 0 t p u else laws_FnGuesses.l2 (k + 100) x8 x9 all e now s 0 t p u) = some true := by
  intro k
  induction k with
  | zero => intro b all now t p u h; unfold sim at h; exact absurd h (by simp)
  | succ k ih =>
    intro b all now t p u h n0 n1 nb a0 ak ht hp hu
    have e1 : k + 1 + 100 = (k + 100) + 1 := by omega
    rw [e1]
    cases b with
    | false =>
      rw [if_neg (by decide)]
      unfold sim at h
      rw [laws_FnGuesses.l2]
      by_cases c : now ≤ e
      · rw [if_pos c] at h
        rw [if_pos c]
        have := ih true all now t p u h n0 n1 (fun _ => c) a0 (by omega) ht hp hu
        rwa [if_pos rfl] at this
      · rw [if_neg c] at h
        obtain rfl := Option.some.inj h
        rw [if_neg c, hM _ (by omega)]
        simp only [Option.bind_some]
        rw [if_pos h9, hA _ (by omega)]
        simp
    | true =>
      rw [if_pos rfl]
      unfold sim at h
      have c := nb rfl
      have ho := okS hs ht hp hu
      have hq := pw_le p hp.1 hp.2
      have ew : (⟨#[119, 114, 111, 110, 103]⟩ : ByteArray) = wrong := rfl
      rw [laws_FnGuesses.l3, ew, try_spec _ _ _ _ _ _ _ _ (by omega), try_wrong _ _ _ _ _ _ ho n0 (by omega)]
      simp only [Option.bind_some]
      unfold tryW
      by_cases c1 : now < u
      · rw [if_pos c1] at h
        rw [if_pos c1]
        simp only
        rw [if_pos (by trivial), w1 (by omega) (by omega)]
        have := ih false all (now + 1) t p u h (by omega) (by omega) (fun q => by cases q) a0 (by omega) ht hp hu
        rwa [if_neg (by decide)] at this
      · rw [if_neg c1] at h
        rw [if_neg c1]
        by_cases c2 : t < 2
        · rw [if_pos c2] at h
          rw [if_pos c2]
          simp only
          rw [if_neg (by decide), w1 (by omega) (by omega)]
          have := ih true (all + 1) now (t + 1) p u h n0 n1 (fun _ => c) (by omega) (by omega) (by omega) hp hu
          rwa [if_pos rfl] at this
        · rw [if_neg c2] at h
          rw [if_neg c2]
          simp only
          rw [if_neg (by decide), w1 (by omega) (by omega)]
          have := ih true (all + 1) now 0 (min 6 (p + 1)) (now + pw p) h n0 n1 (fun _ => c) (by omega) (by omega) (by omega) (by omega) (by omega)
          rwa [if_pos rfl] at this
theorem sim_chk : ((List.range 121).all fun (e : Nat) => match sim 1000 false 0 (e : Int) 0 0 0 0 with | some A => impl_MostWrong.f 100 (e : Int) == some A && (List.range 7).all fun (p : Nat) => decide (pw p - 1 ≤ (e : Int) → 3 * ((p : Int) + 1) ≤ A) | none => false) = true := by kernel_rfl
theorem sim_at (e : Int) (h0 : 0 ≤ e) (h1 : e ≤ 120) : ∃ A, sim 1000 false 0 e 0 0 0 0 = some A ∧ (∀ m, 100 ≤ m → impl_MostWrong.f m e = some A) ∧ ∀ p, 0 ≤ p → p ≤ 6 → pw p - 1 ≤ e → 3 * (p + 1) ≤ A := by
  obtain ⟨q, rfl⟩ : ∃ q : Nat, e = q := ⟨e.toNat, by omega⟩
  have h := List.all_eq_true.mp sim_chk q (List.mem_range.mpr (by omega))
  cases hs : sim 1000 false 0 (q : Int) 0 0 0 0 with
  | none => rw [hs] at h; exact absurd h (by simp)
  | some A =>
    rw [hs] at h
    simp only [Bool.and_eq_true, beq_iff_eq] at h
    refine ⟨A, rfl, fun m hm => at_least (fun k => impl_MostWrong.mono (q : Int) k) h.1 hm, fun p p0 p6 hp => ?_⟩
    obtain ⟨r, rfl⟩ : ∃ r : Nat, p = r := ⟨p.toNat, by omega⟩
    exact of_decide_eq_true (List.all_eq_true.mp h.2 r (List.mem_range.mpr (by omega))) hp
theorem most_le {n t p u now A : Int} (h : St n t p u now) (hA : ∀ p, 0 ≤ p → p ≤ 6 → pw p - 1 ≤ now → 3 * (p + 1) ≤ A) (hn : 0 ≤ now) : n ≤ A := by
  have := h.c; have := h.t0; have := h.t2; have := h.p0; have := h.p6
  by_cases ht : 0 < t
  · have := hA p h.p0 h.p6 (h.l1 ht); omega
  · by_cases hp : 0 < p
    · have := hA (p - 1) (by omega) (by omega) (h.l0 hp); omega
    · have z := hA 0 (by omega) (by omega) (by have : pw 0 = 1 := by decide
                                               omega)
      omega
theorem law_l1 (r : List Int) (s m0 m1 m2 m3 m4 : Int) (hs : 1 ≤ s ∧ s ≤ 10000) (now i : Int) (hn0 : 0 ≤ now) (hn : now ≤ 60) (hi : 0 ≤ i ∧ i ≤ 12) : ∀ (c : Nat) (n t p u : Int), St n t p u now → 0 ≤ u → c ≤ 4 →
    ∃ n' t' p' u', St n' t' p' u' now ∧ 0 ≤ u' ∧ ∀ k, 100 ≤ k → laws_FnGuesses.l1 (k + 2 * c + 1) r now n i (c : Int) s 0 t p u m0 m1 m2 m3 m4 = laws_FnGuesses.l0 k r now n' (i + 1) s 0 t' p' u' m0 m1 m2 m3 m4 := by
  intro c
  induction c with
  | zero =>
    intro n t p u h hu _
    refine ⟨n, t, p, u, h, hu, fun k hk => ?_⟩
    rw [laws_FnGuesses.l1, if_neg (by decide), w1 (by omega) (by omega)]
  | succ c ih =>
    intro n t p u h hu hc
    have a1 := h.c; have a2 := h.t0; have a3 := h.t2; have a4 := h.p0; have a5 := h.p6; have a6 := h.u1
    have ho : okL s 0 t p u = true := okS hs ⟨a2, a3⟩ ⟨a4, a5⟩ ⟨hu, by omega⟩
    have hq := pw_le p a4 a5
    have ew : (⟨#[119, 114, 111, 110, 103]⟩ : ByteArray) = wrong := rfl
    have ec : wrap64 (((c + 1 : Nat) : Int) - 1) = (c : Int) := by unfold wrap64; omega
    have step : ∀ (n1 t1 p1 u1 res : Int), tryW s 0 t p u now = (s, 0, t1, p1, u1, res) → (n1 = if res = 1 then n else n + 1) → ∀ k, 100 ≤ k →
        laws_FnGuesses.l1 (k + 2 * (c + 1) + 1) r now n i ((c + 1 : Nat) : Int) s 0 t p u m0 m1 m2 m3 m4 = laws_FnGuesses.l1 (k + 2 * c + 1) r now n1 i (c : Int) s 0 t1 p1 u1 m0 m1 m2 m3 m4 := by
      intro n1 t1 p1 u1 res e en k hk
      have e1 : k + 2 * (c + 1) + 1 = (k + 2 * c + 1) + 1 + 1 := by omega
      rw [e1, laws_FnGuesses.l1, if_pos (by omega), ew, try_impl _ _ _ _ _ _ _ _ (by omega), try_wrong _ _ _ _ _ _ ho hn0 (by omega), e]
      simp only [Option.bind_some]
      rw [try_spec _ _ _ _ _ _ _ _ (by omega), try_wrong _ _ _ _ _ _ ho hn0 (by omega), e]
      simp only [Option.bind_some]
      rw [if_neg (by simp), laws_FnGuesses.j3, if_neg (by simp), ec]
      by_cases hr : res = 1
      · rw [if_pos hr] at en ⊢
        rw [en]
      · rw [if_neg hr] at en ⊢
        rw [en, w1 (by omega) (by omega)]
    by_cases c1 : now < u
    · obtain ⟨n', t', p', u', g1, g2, g3⟩ := ih n t p u h hu (by omega)
      refine ⟨n', t', p', u', g1, g2, fun k hk => ?_⟩
      rw [step n t p u 1 (by unfold tryW; rw [if_pos c1]) rfl k hk]
      exact g3 k hk
    · by_cases c2 : t < 2
      · obtain ⟨n', t', p', u', g1, g2, g3⟩ := ih (n + 1) (t + 1) p u (h.one c1 c2) hu (by omega)
        refine ⟨n', t', p', u', g1, g2, fun k hk => ?_⟩
        rw [step (n + 1) (t + 1) p u 2 (by unfold tryW; rw [if_neg c1, if_pos c2]) rfl k hk]
        exact g3 k hk
      · obtain ⟨n', t', p', u', g1, g2, g3⟩ := ih (n + 1) 0 (min 6 (p + 1)) (now + pw p) (h.pause c1 c2 hn) (by omega) (by omega)
        refine ⟨n', t', p', u', g1, g2, fun k hk => ?_⟩
        rw [step (n + 1) 0 (min 6 (p + 1)) (now + pw p) 3 (by unfold tryW; rw [if_neg c1, if_neg c2]) rfl k hk]
        exact g3 k hk
theorem tm_pos (x m : Int) (h : 0 ≤ x) : Int.tmod x m = x % m := Int.tmod_eq_emod_of_nonneg h
theorem law_l0 (r : List Int) (r1 : r.length = 12) (r2 : ∀ y ∈ r, 0 ≤ y ∧ y < 10000) (s : Int) (hs : 1 ≤ s ∧ s ≤ 10000) : ∀ (d k : Nat) (i n now t p u : Int), i + d = 12 → 0 ≤ i → St n t p u now → 0 ≤ u → 0 ≤ now → now ≤ 5 * i → 1200 + 12 * d ≤ k →
    laws_FnGuesses.l0 k r now n i s 0 t p u s 0 0 0 0 = some true := by
  intro d
  induction d with
  | zero =>
    intro k i n now t p u hi h0 h hu n0 n1 hk
    obtain ⟨k2, rfl⟩ : ∃ k2, k = k2 + 1 := ⟨k - 1, by omega⟩
    have q := place r r1 r2 1 (by omega) (by omega)
    rw [laws_FnGuesses.l0, if_neg (by omega), if_pos (by omega), tm_pos _ _ q.1]
    obtain ⟨M1, _, hM, hMp⟩ := sim_at now n0 (by omega)
    obtain ⟨A, hA, hAm, _⟩ := sim_at (rd r 1 % 120) (by omega) (by omega)
    have hl := sim_law s now n (rd r 1 % 120) A M1 hs (by omega) hM (most_le h hMp n0) hAm 1000 false 0 0 0 0 0 hA (by omega) (by omega) (fun q => by cases q) (by omega) (by omega) (by omega) (by omega) (by omega)
    rw [if_neg (by decide)] at hl
    exact at_least (f := fun k => laws_FnGuesses.l2 k now n 0 (rd r 1 % 120) 0 s 0 0 0 0) (fun k => (laws_FnGuesses.mono_l k).2.2.2.2.1 _ _ _ _ _ _ _ _ _ _) hl (by omega)
  | succ d ih =>
    intro k i n now t p u hi h0 h hu n0 n1 hk
    have q := place r r1 r2 i (by omega) (by omega)
    have q' := place r r1 r2 (11 - i) (by omega) (by omega)
    have e11 : wrap64 (11 - i) = 11 - i := by unfold wrap64; omega
    have enow : wrap64 (now + (Int.tmod (rd r i) 6)) = now + rd r i % 6 := by rw [tm_pos _ _ q.1]; unfold wrap64; omega
    have hc0 : 0 ≤ rd r (11 - i) % 5 ∧ rd r (11 - i) % 5 ≤ 4 := by omega
    obtain ⟨c, ec⟩ : ∃ c : Nat, rd r (11 - i) % 5 = c := ⟨(rd r (11 - i) % 5).toNat, by omega⟩
    obtain ⟨n', t', p', u', g1, g2, g3⟩ := law_l1 r s s 0 0 0 0 hs (now + rd r i % 6) i (by omega) (by omega) ⟨by omega, by omega⟩ c n t p u (h.later (by omega)) hu (by omega)
    obtain ⟨k2, rfl⟩ : ∃ k2, k = (k2 + 2 * c + 1) + 1 := ⟨k - (2 * c + 2), by omega⟩
    rw [laws_FnGuesses.l0, if_pos (by omega), if_pos (by omega), if_pos (by omega), e11, if_pos (by omega), if_pos (by omega), enow, tm_pos _ _ q'.1, ec, g3 k2 (by omega)]
    exact ih k2 (i + 1) n' _ t' p' u' (by omega) (by omega) g1 g2 (by omega) (by omega) (by omega)
theorem FnGuesses : laws_FnGuesses.Pure := by
  intro x hx
  intros
  by_cases hl : (x.length : Int) > 1048576
  · refine ⟨1, ?_⟩
    unfold laws_FnGuesses.f laws_big.f
    rw [decide_eq_true hl]
    rfl
  · have hx' : x.length ≤ 1048576 := by omega
    obtain ⟨r, r1, r2, hP⟩ := places_ex x hx'
    have q := place r r1 r2 0 (by omega) (by omega)
    have es : wrap64 (1 + rd r 0) = 1 + rd r 0 := by unfold wrap64; omega
    have ho : okL (1 + rd r 0) 0 0 0 0 = true := okS ⟨by omega, by omega⟩ ⟨by omega, by omega⟩ ⟨by omega, by omega⟩ ⟨by omega, by omega⟩
    refine ⟨5000, ?_⟩
    unfold laws_FnGuesses.f laws_big.f
    rw [decide_eq_false hl]
    simp only [Option.bind_some]
    rw [if_neg (by decide), hP 5000 (by omega)]
    simp only [Option.bind_some]
    rw [if_pos (by omega), es]
    unfold impl_NewLock.f spec_NewLock.f
    rw [lock_impl, ho, sec_spec, decide_eq_true (by omega : 1 ≤ 1 + rd r 0 ∧ 1 + rd r 0 ≤ 2147483646)]
    simp only [Option.bind_some, if_true]
    rw [if_pos (by omega)]
    obtain ⟨k2, ek⟩ : ∃ k2, 5000 = k2 + 1 := ⟨4999, rfl⟩
    rw [ek, laws_FnGuesses.j0, if_neg (by simp)]
    have pz : pw 0 = 1 := by decide
    exact law_l0 r r1 r2 (1 + rd r 0) ⟨by omega, by omega⟩ 12 k2 0 0 0 0 0 0 (by omega) (by omega) ⟨by omega, by omega, by omega, by omega, by omega, by omega, by omega, fun h => by omega, fun h => by omega⟩ (by omega) (by omega) (by omega) (by omega)
end Go.Proofs.YtdhinnolfpacgabDoor.Pure
