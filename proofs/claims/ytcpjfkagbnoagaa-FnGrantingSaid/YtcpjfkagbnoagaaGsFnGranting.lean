/- How deep a right may be handed on (plain). -/
import Derived.Test.YtcpjfkagbnoagaaGcFnGranting
namespace Go.Proofs.Ytcpjfkagbnoagaa.GcFnGranting
open Go.RowKit Go.Proofs.Ytcpjfkagbnoagaa.QFnGranting Go.Proofs.Ytcpjfkagbnoagaa.GrFnGranting Go.Proofs.YtcpjfkagbnoagaaW.PrintWords Go.Proofs.YtcpjfkagbnoagaaW.PrintLast
set_option linter.unusedVariables false
set_option linter.unusedSimpArgs false

/-- The greatest spare depth up to d with which there is a chain. -/
def sparB (l : List S25) (p n w o : Int) : Nat → Int
  | 0 => 0
  | d + 1 => if mayR l p n w ((d + 1 : Nat) : Int) o = true then ((d + 1 : Nat) : Int) else sparB l p n w o d
def spareB (l : List S25) (o w p n : Int) : Int := if mayB l o w p n = true then sparB l p n w o 5 else -1
theorem may_less {l : List S25} {p n w o sp sp' : Int} (h : sp' ≤ sp) (hm : mayR l p n w sp o = true) : mayR l p n w sp' o = true := Rt.may_mono (fun g hg ha => ⟨hg, ha⟩) h hm
theorem impl_spare (l : List S25) (hl : l.length ≤ 1048576) (o w p n : Int) : ∀ k, l.length + 500 ≤ k → impl_SpareOf.f k l o w p n = some (spareB l o w p n) := by
  intro k hk
  unfold impl_SpareOf.f spareB
  rw [impl_may l hl o w p n k (by omega)]
  simp only [Option.bind_some]
  cases hM : mayB l o w p n with
  | false => simp
  | true =>
    rw [if_pos rfl, if_pos rfl]
    have hg : goodB l o w p n = true := by
      unfold mayB at hM
      simp only [Bool.and_eq_true] at hM
      exact hM.1
    have hlen := good_len hg
    have key : ∀ (d : Nat), d ≤ 5 → ∀ k, d < k → impl_SpareOf.l0 k l o w p n (d : Int) = some (sparB l p n w o d) := by
      intro d
      induction d with
      | zero =>
        intro _ k hk
        obtain ⟨m, rfl, _⟩ := succ_of hk
        simp only [impl_SpareOf.l0]
        rw [if_neg (by omega)]
        rfl
      | succ d ih =>
        intro hd k hk
        obtain ⟨m, rfl, hm⟩ := succ_of hk
        simp only [impl_SpareOf.l0]
        rw [if_pos (by omega), impl_chain_eq l (by omega) o w p n _ (by omega) (by omega)]
        simp only [Option.bind_some, sparB, Rt.chain_snd]
        cases hR : mayR l p n w ((d + 1 : Nat) : Int) o with
        | true => rw [if_pos hR, if_pos rfl]
        | false =>
          rw [if_neg (by rw [show Rt.may (·.f0) (·.f1) (·.f3) (ap p n) l w ((d + 1 : Nat) : Int) o = false from hR]; simp), if_neg (by simp), show wrap64 (((d + 1 : Nat) : Int) - 1) = (d : Int) by rw [w64 (by omega) (by omega)]; omega]
          exact ih (by omega) m (by omega)
    exact key 5 (by omega) k (by omega)
theorem spec_spare (l : List S25) (hl : l.length ≤ 1048576) (o w p n : Int) : ∀ k, l.length + 500 ≤ k → spec_SpareOf.f k l o w p n = some (spareB l o w p n) := by
  intro k hk
  unfold spec_SpareOf.f spareB
  rw [spec_good l hl o w p n k (by omega)]
  simp only [Option.bind_some]
  cases hg : goodB l o w p n with
  | false =>
    have : mayB l o w p n = false := by unfold mayB; rw [hg]; rfl
    simp [this]
  | true =>
    have hlen := good_len hg
    have hb := hg
    unfold goodB at hb
    simp only [Bool.and_eq_true, decide_eq_true_eq] at hb
    rw [if_pos rfl]
    have hstep : ∀ (d : Nat), d ≤ 5 → ∀ k, 400 ≤ k → (spec_l05Reach.f k l w p n (d : Int)).bind (fun t => (spec_l05Short.f k t o).bind fun t2 => some (decide (t2 ≥ 0))) = some (mayR l p n w (d : Int) o) := by
      intro d hd k hk
      rw [spec_reach l hlen w p n (d : Int) (by omega) (by omega) (by omega) (by omega) k hk]
      simp only [Option.bind_some]
      rw [spec_short l p n w (d : Int) o (by omega) (by omega) k (by omega)]
      simp only [Option.bind_some]
      unfold mayR Rt.may
      cases Rt.short (·.f0) (·.f1) (·.f3) (ap p n) l w (d : Int) o 0 7 with
      | none => rfl
      | some j => simp
    have key : ∀ (d : Nat), d ≤ 5 → ∀ k, 402 + d < k → spec_SpareOf.l0 k l o w p n (d : Int) = some (if mayR l p n w 0 o = true then sparB l p n w o d else -1) := by
      intro d
      induction d with
      | zero =>
        intro _ k hk
        obtain ⟨m, rfl, hm⟩ := succ_of hk
        obtain ⟨m2, rfl, hm2⟩ := succ_of (show 401 < m by omega)
        simp only [spec_SpareOf.l0]
        rw [if_pos (by omega)]
        have h2 := hstep 0 (by omega) (m2 + 1) (by omega)
        rw [spec_reach l hlen w p n _ (by omega) (by omega) (by omega) (by omega) (m2 + 1) (by omega)] at h2 ⊢
        simp only [Option.bind_some] at h2 ⊢
        rw [spec_short l p n w _ o (by omega) (by omega) (m2 + 1) (by omega)] at h2 ⊢
        simp only [Option.bind_some, Option.some.injEq] at h2 ⊢
        have h3 : decide ((match Rt.short (·.f0) (·.f1) (·.f3) (ap p n) l w ((0 : Nat) : Int) o 0 7 with | some j => (j : Int) | none => -1) ≥ 0) = mayR l p n w 0 o := h2
        have hx : ∀ z : Int, decide (z ≥ 0) = mayR l p n w 0 o → (if z ≥ 0 then some ((0 : Nat) : Int) else if wrap64 (((0 : Nat) : Int) - 1) ≥ 0 then (spec_l05Reach.f m2 l w p n (wrap64 (((0 : Nat) : Int) - 1))).bind fun t142 => (spec_l05Short.f m2 t142 o).bind fun t145 => if t145 ≥ 0 then some (wrap64 (((0 : Nat) : Int) - 1)) else spec_SpareOf.l0 m2 l o w p n (wrap64 (wrap64 (((0 : Nat) : Int) - 1) - 1)) else some (-1)) = some (if mayR l p n w 0 o = true then sparB l p n w o 0 else -1) := by
          intro z hz
          rw [← hz]
          by_cases hc : z ≥ 0
          · rw [if_pos hc, if_pos (decide_eq_true hc)]; rfl
          · rw [if_neg hc, if_neg (by rw [w64 (by omega) (by omega)]; omega), if_neg (by rw [decide_eq_false hc]; simp)]
        exact hx _ h3
      | succ d ih =>
        intro hd k hk
        obtain ⟨m, rfl, hm⟩ := succ_of hk
        simp only [spec_SpareOf.l0]
        rw [if_pos (by omega)]
        have h2 := hstep (d + 1) hd m (by omega)
        rw [spec_reach l hlen w p n _ (by omega) (by omega) (by omega) (by omega) m (by omega)] at h2 ⊢
        simp only [Option.bind_some] at h2 ⊢
        rw [spec_short l p n w _ o (by omega) (by omega) m (by omega)] at h2 ⊢
        simp only [Option.bind_some, Option.some.injEq, sparB] at h2 ⊢
        have hx : ∀ z : Int, decide (z ≥ 0) = mayR l p n w ((d + 1 : Nat) : Int) o → (if z ≥ 0 then some ((d + 1 : Nat) : Int) else spec_SpareOf.l0 m l o w p n (wrap64 (((d + 1 : Nat) : Int) - 1))) = some (if mayR l p n w 0 o = true then (if mayR l p n w ((d + 1 : Nat) : Int) o = true then ((d + 1 : Nat) : Int) else sparB l p n w o d) else -1) := by
          intro z hz
          by_cases hc : z ≥ 0
          · have hm1 : mayR l p n w ((d + 1 : Nat) : Int) o = true := hz.symm.trans (decide_eq_true hc)
            have hm0 : mayR l p n w 0 o = true := may_less (show (0 : Int) ≤ ((d + 1 : Nat) : Int) by omega) hm1
            rw [if_pos hc, if_pos hm0, if_pos hm1]
          · have hm1 : mayR l p n w ((d + 1 : Nat) : Int) o = false := hz.symm.trans (decide_eq_false hc)
            rw [if_neg hc, show wrap64 (((d + 1 : Nat) : Int) - 1) = (d : Int) by rw [w64 (by omega) (by omega)]; omega, ih (by omega) m (by omega), hm1]
            simp
        exact hx _ h2
    rw [show (5 : Int) = ((5 : Nat) : Int) from rfl, key 5 (by omega) k (by omega)]
    unfold mayB
    rw [hg, Bool.true_and]
end Go.Proofs.Ytcpjfkagbnoagaa.GcFnGranting
