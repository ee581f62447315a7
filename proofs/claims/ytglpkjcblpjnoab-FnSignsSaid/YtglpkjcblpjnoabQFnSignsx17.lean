-- Printed functions and their walks: by print.py, turned by wip/tools/myprint.py and split4.py.
import Derived.Test.YtglpkjcblpjnoabQFnSignsx13
import Derived.Test.YtglpkjcblpjnoabQFnSignsx14
import Derived.Test.YtglpkjcblpjnoabQFnSignsx15
import Derived.Test.YtglpkjcblpjnoabQFnSignsx16
namespace Go.Proofs.Ytglpkjcblpjnoab.QFnSigns
open Go.RowKit Go.Proofs.YtglpkjcblpjnoabW.PrintWords Go.Proofs.YtglpkjcblpjnoabW.PrintLast Go.Proofs.YtglpkjcblpjnoabW.PrintMore
attribute [local go_sem] max2_int min2_int max_two min_two max_three min_three max_four min_four   -- for this text's walks alone
set_option linter.unusedVariables false
set_option linter.unusedSimpArgs false
attribute [local go_sem high] eqA50

/-- The law's walk, out of the four. -/
theorem laws_FnSigns.calls (k : Nat) (A0 : Option Addr) (c0 : Nat) (l0 : List Int) (r : Bool) (w : World) (hr0 : Kd.C (Kd.int .u8) w A0 l0.length l0) (hc0 : l0.length ≤ c0) (h : laws_FnSigns.f k l0 = some r) :
  Calls Try.prog 10 #[.slice A0 l0.length c0] w fun e w' => e = .returned (.bool r) ∧ Below w.heap.size w w' := by
 cases e : spec_DrawSignsOf.f k l0 with
 | none => exact laws_FnSigns.callsA k A0 c0 l0 r w hr0 hc0 h (fun bt hb => by rw [e] at hb; cases hb)
 | some b =>
  by_cases c1 : b.2.2.2.2.2.1 = 0
  · by_cases c2 : b.2.2.2.2.2.2.1 = 1
    · exact laws_FnSigns.callsA k A0 c0 l0 r w hr0 hc0 h (fun bt hb => by rw [e] at hb; obtain rfl := Option.some.inj hb; exact ⟨c1, c2⟩)
    · exact laws_FnSigns.callsB k A0 c0 l0 r w hr0 hc0 h (fun bt hb => by rw [e] at hb; obtain rfl := Option.some.inj hb; exact ⟨c1, c2⟩)
  · by_cases c2 : b.2.2.2.2.2.2.1 = 1
    · exact laws_FnSigns.callsC k A0 c0 l0 r w hr0 hc0 h (fun bt hb => by rw [e] at hb; obtain rfl := Option.some.inj hb; exact ⟨c1, c2⟩)
    · exact laws_FnSigns.callsD k A0 c0 l0 r w hr0 hc0 h (fun bt hb => by rw [e] at hb; obtain rfl := Option.some.inj hb; exact ⟨c1, c2⟩)

/-- THE ONE PURE STATEMENT of laws_FnSigns: yours. -/
def laws_FnSigns.Pure : Prop := ∀ (l0 : List Int), l0.length ≤ maxLen → l0.length * 1 ≤ 140737488351232 → (∀ x ∈ l0, (Lit.int .u8 x).wf = true) → ∃ k, laws_FnSigns.f k l0 = some true
theorem laws_FnSigns.walk (P : laws_FnSigns.Pure) (a0 : Option Addr) (len0 cap0 : Nat) (z0 : List Int) (w : World) (w0 : (a0 = none ∧ len0 = 0 ∧ cap0 = 0 ∧ z0 = []) ∨ ∃ x, a0 = some x ∧ len0 ≤ cap0 ∧ cap0 ≤ maxLen ∧ z0.length = cap0 ∧ (∀ i, i < z0.length → w.cell? (x.add i) = some (.int .u8 (z0.getD i 0))) ∧ ∀ n ∈ z0, (Lit.int .u8 n).wf = true) (y0 : len0 * 1 ≤ 140737488351232) :
  Calls Try.prog 10 #[.slice a0 len0 cap0] w fun e w' => e = .returned (.bool true) ∧ Below w.heap.size w w' := by
 obtain ⟨l0, rfl, hr0, hm0, hw0, hc0⟩ := ReadsInt.ofRowC w0
 obtain ⟨k, h⟩ := P l0 hm0 y0 hw0
 refine (laws_FnSigns.calls k _ _ l0 true w (Kd.C_of_reads (d := (0 : Int)) (h1 := fun _ => rfl) hr0) hc0 h).mono ?_
 rintro e w' ⟨rfl, hd⟩
 exact ⟨rfl, hd⟩

end Go.Proofs.Ytglpkjcblpjnoab.QFnSigns
