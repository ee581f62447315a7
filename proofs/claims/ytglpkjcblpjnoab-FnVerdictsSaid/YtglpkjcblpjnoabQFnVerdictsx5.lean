-- Printed functions and their walks: by print.py, turned by wip/tools/myprint.py.
import Derived.Test.YtglpkjcblpjnoabQFnVerdictsx0
import Derived.Test.YtglpkjcblpjnoabQFnVerdictsx4
namespace Go.Proofs.Ytglpkjcblpjnoab.QFnVerdicts
open Go.RowKit Go.Proofs.YtglpkjcblpjnoabW.PrintWords Go.Proofs.YtglpkjcblpjnoabW.PrintLast Go.Proofs.YtglpkjcblpjnoabW.PrintMore
attribute [local go_sem] max2_int min2_int max_two min_two max_three min_three max_four min_four   -- for this text's walks alone
set_option linter.unusedVariables false
set_option linter.unusedSimpArgs false

/-- A state of type 81 at block g of W; what its slices lead to came in by w0. -/
def IsS81 (w0 W : World) (g : Nat) (f0 : List Int) (f1 : Int) (f2 : Int) : Prop := ∃ A0 c0, W.heap[g]? = some (.cells #[.slice A0 f0.length c0, .int .i64 f1, .int .i64 f2] 81 (0, 0)) ∧ w0.heap.size ≤ g ∧ Kd.C (Kd.int .u8) w0 A0 f0.length f0
theorem IsS81.grown {w0 W : World} {g : Nat} {f0 : List Int} {f1 : Int} {f2 : Int} {W1 : World} {row : Option Nat} (h : IsS81 w0 W g f0 f1 f2) (hw : W.grownBy W1 row) (hne : some g ≠ row) : IsS81 w0 W1 g f0 f1 f2 := by
 obtain ⟨A0, c0, hb, hg, hr0⟩ := h
 exact ⟨A0, c0, blk_grown hb hw hne, hg, hr0⟩
theorem IsS81.own_neN {w0 W : World} {g : Nat} {f0 : List Int} {f1 : Int} {f2 : Int} {α : Type} {d : Kd α} {e : Nat} {base : Nat} {ok : Nat → Prop} {v : Value} {xs : List α} (h : IsS81 w0 W g f0 f1 f2) (ho : Kd.N d e W base ok v xs) (ht : e ≠ 81) : some g ≠ v.ownBlock := by
 obtain ⟨A0, c0, hb, hg, hr0⟩ := h
 exact Kd.N_ne ho hb ht
theorem IsS81.fresh {w0 W : World} {g : Nat} {f0 : List Int} {f1 : Int} {f2 : Int} (h : IsS81 w0 W g f0 f1 f2) : ∀ k, W.heap.size ≤ k → k ≠ g := by
 obtain ⟨A0, c0, hb, hg, hr0⟩ := h
 exact Kd.freshB hb
theorem IsS81.kept {w0 W : World} {g : Nat} {f0 : List Int} {f1 : Int} {f2 : Int} {W1 : World} {S : Nat → Prop} (h : IsS81 w0 W g f0 f1 f2) (hk : Kept W W1 S) (hne : ¬ S g) : IsS81 w0 W1 g f0 f1 f2 := by
 obtain ⟨A0, c0, hb, hg, hr0⟩ := h
 exact ⟨A0, c0, blk_kept hb hk hne, hg, hr0⟩
theorem IsS81.below {w0 W : World} {g : Nat} {f0 : List Int} {f1 : Int} {f2 : Int} {W1 : World} (h : IsS81 w0 W g f0 f1 f2) (hw : Below W.heap.size W W1) : IsS81 w0 W1 g f0 f1 f2 := h.grown (grown_of_below hw none) (by simp)
theorem IsS81.alloc {w0 W : World} {g : Nat} {f0 : List Int} {f1 : Int} {f2 : Int} (h : IsS81 w0 W g f0 f1 f2) (o : Obj) : IsS81 w0 (W.alloc o) g f0 f1 f2 := h.below (below_alloc (Below.refl _ _) o)
theorem IsS81.drewN {w0 W : World} {g : Nat} {f0 : List Int} {f1 : Int} {f2 : Int} (h : IsS81 w0 W g f0 f1 f2) (m : Nat) : IsS81 w0 (W.drewN m) g f0 f1 f2 := h
theorem IsS81.drew {w0 W : World} {g : Nat} {f0 : List Int} {f1 : Int} {f2 : Int} (h : IsS81 w0 W g f0 f1 f2) : IsS81 w0 W.drew g f0 f1 f2 := h
theorem IsS81.at_ {w0 W : World} {g : Nat} {f0 : List Int} {f1 : Int} {f2 : Int} {w' : World} {m : Nat} (hq : W.drewN m = w') (h : IsS81 w0 W g f0 f1 f2) : IsS81 w0 w' g f0 f1 f2 := by subst hq; exact IsS81.drewN h m
theorem IsS81.apart {w0 W : World} {g : Nat} {f0 : List Int} {f1 : Int} {f2 : Int} {α : Type} {d : Kd α} {e : Nat} {base : Nat} {ok : Nat → Prop} {v : Value} {xs : List α} (h : IsS81 w0 W g f0 f1 f2) (ho : d.R e W base ok v xs) (ht : ∀ q, q ∈ e :: d.E → q ≠ 81) : d.R e W base (fun k => ok k ∧ k ≠ g) v xs := by
 obtain ⟨A0, c0, hb, hg, hr0⟩ := h
 exact Kd.R_types ho hb ht
theorem IsS81.own_ne {w0 W : World} {g : Nat} {f0 : List Int} {f1 : Int} {f2 : Int} {α : Type} {d : Kd α} {e : Nat} {base : Nat} {ok : Nat → Prop} {v : Value} {xs : List α} (h : IsS81 w0 W g f0 f1 f2) (ho : d.R e W base ok v xs) (ht : e ≠ 81) : some g ≠ v.ownBlock := by
 obtain ⟨A0, c0, hb, hg, hr0⟩ := h
 exact Kd.R_ne ho hb ht
theorem IsS81.apartQ {w0 W : World} {g : Nat} {f0 : List Int} {f1 : Int} {f2 : Int} {α : Type} {d : Kd α} {e : Nat} {base : Nat} {ok : Nat → Prop} {v : Value} {xs : List α} (h : IsS81 w0 W g f0 f1 f2) (ho : d.Q e W base ok v xs) (ht : ∀ q, q ∈ e :: d.E → q ≠ 81) : d.Q e W base (fun k => ok k ∧ k ≠ g) v xs := by
 obtain ⟨A0, c0, hb, hg, hr0⟩ := h
 exact Kd.Q_types ho hb ht
theorem IsS81.own_neQ {w0 W : World} {g : Nat} {f0 : List Int} {f1 : Int} {f2 : Int} {α : Type} {d : Kd α} {e : Nat} {base : Nat} {ok : Nat → Prop} {v : Value} {xs : List α} (h : IsS81 w0 W g f0 f1 f2) (ho : d.Q e W base ok v xs) (ht : e ≠ 81) : some g ≠ v.ownBlock := by
 obtain ⟨A0, c0, hb, hg, hr0⟩ := h
 exact Kd.Q_ne ho hb ht
theorem IsS81.apartS {w0 W : World} {g : Nat} {f0 : List Int} {f1 : Int} {f2 : Int} {α : Type} {d : Kd α} {e : Nat} {base : Nat} {ok : Nat → Prop} {v : Value} {xs : List α} (h : IsS81 w0 W g f0 f1 f2) (ho : d.S e W base ok v xs) (ht : ∀ q, q ∈ e :: d.E → q ≠ 81) : d.S e W base (fun k => ok k ∧ k ≠ g) v xs := by
 obtain ⟨A0, c0, hb, hg, hr0⟩ := h
 exact Kd.S_types ho hb ht
theorem IsS81.own_neS {w0 W : World} {g : Nat} {f0 : List Int} {f1 : Int} {f2 : Int} {α : Type} {d : Kd α} {e : Nat} {base : Nat} {ok : Nat → Prop} {v : Value} {xs : List α} (h : IsS81 w0 W g f0 f1 f2) (ho : d.S e W base ok v xs) (ht : e ≠ 81) : some g ≠ v.ownBlock := by
 obtain ⟨A0, c0, hb, hg, hr0⟩ := h
 exact Kd.S_ne ho hb ht
theorem IsS81.lt {w0 W : World} {g : Nat} {f0 : List Int} {f1 : Int} {f2 : Int} (h : IsS81 w0 W g f0 f1 f2) : g < W.heap.size := by
 obtain ⟨A0, c0, hb, hg, hr0⟩ := h
 exact blk_lt hb
theorem IsS81.ge {w0 W : World} {g : Nat} {f0 : List Int} {f1 : Int} {f2 : Int} (h : IsS81 w0 W g f0 f1 f2) : w0.heap.size ≤ g := by
 obtain ⟨A0, c0, hb, hg, hr0⟩ := h
 exact hg
theorem IsS81.ne_blk {w0 W : World} {g : Nat} {f0 : List Int} {f1 : Int} {f2 : Int} {a : Nat} {cs : Array Value} {t : TypeId} {fr : Nat × Nat} (h : IsS81 w0 W g f0 f1 f2) (hb2 : W.heap[a]? = some (.cells cs t fr)) (ht : t ≠ 81) : g ≠ a := by
 obtain ⟨A0, c0, hb, hg, hr0⟩ := h
 rintro rfl
 rw [hb] at hb2
 injection hb2 with hb2
 injection hb2 with _ ht2
 exact ht ht2.symm
theorem IsS81.far {w0 W : World} {g : Nat} {f0 : List Int} {f1 : Int} {f2 : Int} {p : Addr} (h : IsS81 w0 W g f0 f1 f2) (hne : g ≠ p.block) (u : Value) : IsS81 w0 (W.setCell p u) g f0 f1 f2 := by
 obtain ⟨A0, c0, hb, hg, hr0⟩ := h
 exact ⟨A0, c0, blk_far hb hne u, hg, hr0⟩
theorem cellS81_0 {W : World} {g : Nat} {A0 : Option Addr} {c0 : Nat} {f0 : List Int} {f1 : Int} {f2 : Int} (h : W.heap[g]? = some (.cells #[.slice A0 f0.length c0, .int .i64 f1, .int .i64 f2] 81 (0, 0))) : W.cell? ⟨g, 0, none⟩ = some (.slice A0 f0.length c0) := (blk_cell h 0).trans rfl
theorem cellS81_1 {W : World} {g : Nat} {A0 : Option Addr} {c0 : Nat} {f0 : List Int} {f1 : Int} {f2 : Int} (h : W.heap[g]? = some (.cells #[.slice A0 f0.length c0, .int .i64 f1, .int .i64 f2] 81 (0, 0))) : W.cell? ⟨g, 1, none⟩ = some (.int .i64 f1) := (blk_cell h 1).trans rfl
theorem IsS81.set_1 {w0 W : World} {g : Nat} {f0 : List Int} {f1 : Int} {f2 : Int} (h : IsS81 w0 W g f0 f1 f2) (x : Int) : IsS81 w0 (W.setCell ⟨g, 1, none⟩ (.int .i64 x)) g f0 x f2 := by
 obtain ⟨A0, c0, hb, hg, hr0⟩ := h
 exact ⟨A0, c0, by simpa using blk_set hb 1 (.int .i64 x), hg, hr0⟩
theorem cellS81_2 {W : World} {g : Nat} {A0 : Option Addr} {c0 : Nat} {f0 : List Int} {f1 : Int} {f2 : Int} (h : W.heap[g]? = some (.cells #[.slice A0 f0.length c0, .int .i64 f1, .int .i64 f2] 81 (0, 0))) : W.cell? ⟨g, 2, none⟩ = some (.int .i64 f2) := (blk_cell h 2).trans rfl
theorem IsS81.set_2 {w0 W : World} {g : Nat} {f0 : List Int} {f1 : Int} {f2 : Int} (h : IsS81 w0 W g f0 f1 f2) (x : Int) : IsS81 w0 (W.setCell ⟨g, 2, none⟩ (.int .i64 x)) g f0 f1 x := by
 obtain ⟨A0, c0, hb, hg, hr0⟩ := h
 exact ⟨A0, c0, by simpa using blk_set hb 2 (.int .i64 x), hg, hr0⟩
theorem IsS81.new (w0 W : World) (A0 : Option Addr) (c0 : Nat) (f0 : List Int) (f1 : Int) (f2 : Int) (hB : Below w0.heap.size w0 W) (hr0 : Kd.C (Kd.int .u8) w0 A0 f0.length f0) : IsS81 w0 (W.alloc (.cells #[.slice A0 f0.length c0, .int .i64 f1, .int .i64 f2] 81)) W.heap.size f0 f1 f2 := ⟨A0, c0, by simpa using heap_alloc_new W _, hB.size, hr0⟩

/-! ### spec_l01New: function 59 -/
def spec_l01New.l0 : Nat → List Int → Int → Int → Option (List Int × Int × Int)
 | 0, _, _, _ => none
 | k + 1, x0, x3, x4 => if x4 < (x0.length : Int) then (if x4 < 4000 then (if 0 ≤ x4 then (spec_l01New.l0 k x0 (Go.bits .and .i64 (wrap64 ((wrap64 ((wrap64 (x3 * 131)) + (wrap64 (rd x0 x4)))) + 7)) 1073741823) (wrap64 (x4 + 1))) else (none)) else (some (x0, 0, x3))) else (some (x0, 0, x3))
def spec_l01New.f (k : Nat) (l0 : List Int) : Option (List Int × Int × Int) := spec_l01New.l0 k l0 (wrap64 (33183 + (l0.length : Int))) 0
theorem spec_l01New.mono_l : ∀ k, (∀ y0 y1 y2, LeO (spec_l01New.l0 k y0 y1 y2) (spec_l01New.l0 (k + 1) y0 y1 y2))
 | 0 => fun _ _ _ r h => by simp [spec_l01New.l0] at h
 | k + 1 => by
  have ih0 := spec_l01New.mono_l k
  ·intro y0 y1 y2
   unfold spec_l01New.l0
   repeat' first
   | (with_reducible exact ih0 _ _ _)
   | (with_reducible exact LeO.refl _)
   | (with_reducible exact LeO.none _)
   | (with_reducible refine LeO.ite ?_ ?_)
   | (with_reducible refine LeO.bind ?_ (fun _ => ?_))
   | exact ih0 _ _ _
   | exact LeO.none _
   | refine LeO.ite ?_ ?_
   | refine LeO.bind ?_ (fun _ => ?_)
theorem spec_l01New.mono : ∀ a0 k, LeO (spec_l01New.f k a0) (spec_l01New.f (k + 1) a0) := by
 intro a0 k
 have ih0 := spec_l01New.mono_l k
 unfold spec_l01New.f
 repeat' first
   | (with_reducible exact ih0 _ _ _)
   | (with_reducible exact LeO.refl _)
   | (with_reducible exact LeO.none _)
   | (with_reducible refine LeO.ite ?_ ?_)
   | (with_reducible refine LeO.bind ?_ (fun _ => ?_))
   | exact ih0 _ _ _
   | exact LeO.none _
   | refine LeO.ite ?_ ?_
   | refine LeO.bind ?_ (fun _ => ?_)
set_option maxHeartbeats 8000000 in
set_option maxRecDepth 100000 in
theorem spec_l01New.calls (k : Nat) (A0 : Option Addr) (c0 : Nat) (l0 : List Int) (r1 : List Int) (r2 : Int) (r3 : Int) (w0 w : World) (hB : Below w0.heap.size w0 w) (hr0 : Kd.C (Kd.int .u8) w0 A0 l0.length l0) (hc0 : l0.length ≤ c0) (h : spec_l01New.f k l0 = some (r1, r2, r3)) :
  Calls Try.prog 59 #[.slice A0 l0.length c0] w fun e w' => ∃ g_ : Nat, e = .returned (.pointer (some ⟨g_, 0, none⟩)) ∧ IsS81 w0 w' g_ r1 r2 r3 ∧ Below w0.heap.size w0 w' ∧ Below w.heap.size w w' := by
 have hu81 := Try.underlying81
 have HR0 := aM hr0
 have HC0 := aM hc0
 clear hr0 hc0
 have HBW := aM (Below.refl w.heap.size w)
 have HW0 := aM hB.size
 have HB := aM hB
 clear hB
 have H : (spec_l01New.l0 k l0 (wrap64 (33183 + (l0.length : Int))) 0) = some (r1, r2, r3) := h
 clear h
 have H' := aM H
 clear H
 go_enter Try.func59, Try.ntmps59
 go_wp2
 go_loopg [3, 4] k (fun kq v3 v4 w' => ∃ (x3_1 : Int) (x4_1 : Int), v3 = .int .i64 x3_1 ∧ v4 = .int .i64 x4_1 ∧ Aside0 (spec_l01New.l0 kq l0 x3_1 x4_1 = some (r1, r2, r3)) ∧ Aside0 (kq ≤ k) ∧ Aside0 (Below w0.heap.size w0 w') ∧ Aside0 (Below w.heap.size w w'))
 case atStart => exact ⟨(wrap64 (33183 + (l0.length : Int))), (0), zs, zs, H', ⟨Nat.le_refl _⟩, ⟨zb⟩, ⟨zw⟩⟩
 case round =>
  clear H'
  obtain ⟨x3_1, x4_1, rfl, rfl, HA, HK1, HB, HBW⟩ := hrel
  cases gk with
  | zero => exact absurd HA.out (by simp [spec_l01New.l0])
  | succ k1 =>
   have H := HA.out
   clear HA
   simp only [spec_l01New.l0] at H
   by_cases c2 : x4_1 < (l0.length : Int)
   ·rw [if_pos c2] at H
    have c2b0 : decide (x4_1 < (l0.length : Int)) = true := decide_eq_true c2
    clear c2
    by_cases c3 : x4_1 < 4000
    ·rw [if_pos c3] at H
     have c3b0 : decide (x4_1 < 4000) = true := decide_eq_true c3
     clear c3
     by_cases c4 : 0 ≤ x4_1
     ·rw [if_pos c4] at H
      have c4b0 : decide (0 ≤ x4_1) = true := decide_eq_true c4
      clear c4
      have H' := aM H
      clear H
      have p158 : 0 ≤ (x4_1 : Int) := of_decide_eq_true (by first | (with_reducible assumption) | assumption)
      have q158 : x4_1 < (l0.length : Int) := of_decide_eq_true (by first | (with_reducible assumption) | assumption)
      obtain ⟨ad158, e158, hx158_0⟩ := Kd.at_int HR0.out x4_1 p158 q158
      cases e158
      replace hx158_0 := pw_cell_below HB.out hx158_0
      replace p158 := eq_true p158
      replace q158 := eq_true q158
      go_wp2
      go_roundg k1
      case measure => have := HK1.out; omega
      case rel => exact ⟨(Go.bits .and .i64 (wrap64 ((wrap64 ((wrap64 (x3_1 * 131)) + (wrap64 (rd l0 x4_1)))) + 7)) 1073741823), (wrap64 (x4_1 + 1)), zs, zs, H', ⟨by have := HK1.out; omega⟩, ⟨zb⟩, ⟨zw⟩⟩
     ·rw [if_neg c4] at H
      exact absurd H (by simp)
    ·rw [if_neg c3] at H
     have c3b0 : decide (x4_1 < 4000) = false := decide_eq_false c3
     clear c3
     simp only [Option.some.injEq, Prod.mk.injEq] at H
     obtain ⟨rfl, rfl, rfl⟩ := H
     go_wp2_with (first | ((with_reducible refine gate_dst (N := 31) rfl ?_); refine box_event ?hg (N := 31) ?hd (cs := #[.slice A0 l0.length c0, .int .i64 0, .int .i64 x3_1]) (t := 81) ?hr ?_; (case hd => rfl); (case hg => rfl); (case hr => exact zg); intro gb159 hg w5 hbox hb; have n0_ := aM (below_step HBW.out hb); have n1_ := aM (below_step (zb) hb); have n2_ := aM (hbox); have n3_ := aM ((by rw [hg]; exact (below_size (zw)) : w.heap.size ≤ gb159)); have n4_ := aM ((Nat.le_trans HW0.out (by rw [hg]; exact (below_size (zw)) : w.heap.size ≤ gb159) : w0.heap.size ≤ gb159)); clear HBW; clear HB; have HBW := n0_; have HB := n1_; have BK159 := n2_; have GW159 := n3_; have GE159 := n4_; clear n0_ n1_ n2_ n3_ n4_; clear hb hbox hg))
     go_ret
     exact ⟨_, rfl, (show IsS81 w0 _ gb159 l0 0 x3_1 from ⟨_, _, by refine pq ?_; exact BK159.out, GE159.out, HR0.out⟩), zb, zw⟩
   ·rw [if_neg c2] at H
    have c2b0 : decide (x4_1 < (l0.length : Int)) = false := decide_eq_false c2
    clear c2
    simp only [Option.some.injEq, Prod.mk.injEq] at H
    obtain ⟨rfl, rfl, rfl⟩ := H
    go_wp2_with (first | ((with_reducible refine gate_dst (N := 31) rfl ?_); refine box_event ?hg (N := 31) ?hd (cs := #[.slice A0 l0.length c0, .int .i64 0, .int .i64 x3_1]) (t := 81) ?hr ?_; (case hd => rfl); (case hg => rfl); (case hr => exact zg); intro gb160 hg w6 hbox hb; have n0_ := aM (below_step HBW.out hb); have n1_ := aM (below_step (zb) hb); have n2_ := aM (hbox); have n3_ := aM ((by rw [hg]; exact (below_size (zw)) : w.heap.size ≤ gb160)); have n4_ := aM ((Nat.le_trans HW0.out (by rw [hg]; exact (below_size (zw)) : w.heap.size ≤ gb160) : w0.heap.size ≤ gb160)); clear HBW; clear HB; have HBW := n0_; have HB := n1_; have BK160 := n2_; have GW160 := n3_; have GE160 := n4_; clear n0_ n1_ n2_ n3_ n4_; clear hb hbox hg))
    go_ret
    exact ⟨_, rfl, (show IsS81 w0 _ gb160 l0 0 x3_1 from ⟨_, _, by refine pq ?_; exact BK160.out, GE160.out, HR0.out⟩), zb, zw⟩

/-! ### spec_Relent: function 17 -/
def spec_Relent.j0 : Nat → Bool → Int → Int → Bool → Bool → Bool → Option (Int × Int × Bool × Bool × Bool × Bool)
 | 0, _, _, _, _, _, _ => none
 | k + 1, x12, x162000, x162001, x162002, x162003, x162004 => if x12 = true then (some (x162000, x162001, x162002, x162003, x162004, false)) else (if x162001 = 4 then (some (x162000, 3, x162002, x162003, !x162004, true)) else (some (x162000, 5, x162002, false, x162004, true)))
def spec_Relent.f (k : Nat) (a0_0 : Int) (a0_1 : Int) (a0_2 : Bool) (a0_3 : Bool) (a0_4 : Bool) : Option (Int × Int × Bool × Bool × Bool × Bool) := (spec_DoorOk.f k a0_0 a0_1 a0_2 a0_3 a0_4).bind fun t163 => (if t163 = true then ((spec_l01In.f a0_1 2 4).bind fun t164 => (spec_Relent.j0 k (!t164) a0_0 a0_1 a0_2 a0_3 a0_4)) else (spec_Relent.j0 k true a0_0 a0_1 a0_2 a0_3 a0_4))
theorem spec_Relent.mono_l : ∀ k, (∀ y0 y1 y2 y3 y4 y5, LeO (spec_Relent.j0 k y0 y1 y2 y3 y4 y5) (spec_Relent.j0 (k + 1) y0 y1 y2 y3 y4 y5))
 | 0 => fun _ _ _ _ _ _ r h => by simp [spec_Relent.j0] at h
 | k + 1 => by
  have ih0 := spec_Relent.mono_l k
  ·intro y0 y1 y2 y3 y4 y5
   unfold spec_Relent.j0
   repeat' first
   | (with_reducible exact ih0 _ _ _ _ _ _)
   | (with_reducible exact spec_DoorOk.mono _ _ _ _ _ _)
   | (with_reducible exact LeO.refl _)
   | (with_reducible exact LeO.none _)
   | (with_reducible refine LeO.ite ?_ ?_)
   | (with_reducible refine LeO.bind ?_ (fun _ => ?_))
   | exact ih0 _ _ _ _ _ _
   | exact spec_DoorOk.mono _ _ _ _ _ _
   | exact LeO.none _
   | refine LeO.ite ?_ ?_
   | refine LeO.bind ?_ (fun _ => ?_)
theorem spec_Relent.mono : ∀ a0 a1 a2 a3 a4 k, LeO (spec_Relent.f k a0 a1 a2 a3 a4) (spec_Relent.f (k + 1) a0 a1 a2 a3 a4) := by
 intro a0 a1 a2 a3 a4 k
 have ih0 := spec_Relent.mono_l k
 unfold spec_Relent.f
 repeat' first
   | (with_reducible exact ih0 _ _ _ _ _ _)
   | (with_reducible exact spec_DoorOk.mono _ _ _ _ _ _)
   | (with_reducible exact LeO.refl _)
   | (with_reducible exact LeO.none _)
   | (with_reducible refine LeO.ite ?_ ?_)
   | (with_reducible refine LeO.bind ?_ (fun _ => ?_))
   | exact ih0 _ _ _ _ _ _
   | exact spec_DoorOk.mono _ _ _ _ _ _
   | exact LeO.none _
   | refine LeO.ite ?_ ?_
   | refine LeO.bind ?_ (fun _ => ?_)
set_option maxHeartbeats 8000000 in
set_option maxRecDepth 100000 in
theorem spec_Relent.calls (k : Nat) (a0_0 : Int) (a0_1 : Int) (a0_2 : Bool) (a0_3 : Bool) (a0_4 : Bool) (r1 : Int) (r2 : Int) (r3 : Bool) (r4 : Bool) (r5 : Bool) (r6 : Bool) (w : World) (h : spec_Relent.f k a0_0 a0_1 a0_2 a0_3 a0_4 = some (r1, r2, r3, r4, r5, r6)) :
  Calls Try.prog 17 #[.agg #[.int .i64 a0_0, .int .i64 a0_1, .bool a0_2, .bool a0_3, .bool a0_4]] w fun e w' => e = .returned (.tuple #[.agg #[.int .i64 r1, .int .i64 r2, .bool r3, .bool r4, .bool r5], .bool r6]) ∧ Below w.heap.size w w' := by
 have hu24 := Try.underlying24
 have HB := aM (Below.refl w.heap.size w)
 have H : ((spec_DoorOk.f k a0_0 a0_1 a0_2 a0_3 a0_4).bind fun t163 => (if t163 = true then ((spec_l01In.f a0_1 2 4).bind fun t164 => (spec_Relent.j0 k (!t164) a0_0 a0_1 a0_2 a0_3 a0_4)) else (spec_Relent.j0 k true a0_0 a0_1 a0_2 a0_3 a0_4))) = some (r1, r2, r3, r4, r5, r6) := h
 clear h
 have HC2 := aM H
 clear H
 go_enter Try.func17, Try.ntmps17
 go_upto_region 1 with (first | ((with_reducible refine gate_dst (N := 1) rfl ?_); refine box_event ?hg (N := 1) ?hd (cs := #[.int .i64 a0_0, .int .i64 a0_1, .bool a0_2, .bool a0_3, .bool a0_4]) (t := 24) ?hr ?_; (case hd => rfl); (case hg => rfl); (case hr => exact zg); intro gb161 hg w3 hbox hb; have n0_ := aM (below_step (zb) hb); have n1_ := aM (hbox); have n2_ := aM ((by rw [hg]; exact (below_size (zb)) : w.heap.size ≤ gb161)); have n3_ := aM ((by rw [hg]; exact (below_size (zb)) : w.heap.size ≤ gb161)); clear HB; have HB := n0_; have BK161 := n1_; have GW161 := n2_; have GE161 := n3_; clear n0_ n1_ n2_ n3_; clear hb hbox hg) | ((with_reducible refine gate_dst (N := 2) rfl ?_); refine box_event ?hg (N := 2) ?hd (cs := #[.int .i64 0, .int .i64 0, .bool false, .bool false, .bool false]) (t := 24) ?hr ?_; (case hd => rfl); (case hg => rfl); (case hr => exact zg); intro gb162 hg w4 hbox hb; have n0_ := aM (bb BK161.out hb); have n1_ := aM (below_step (zb) hb); have n2_ := aM (hbox); have n3_ := aM ((by rw [hg]; exact (below_size (zb)) : w.heap.size ≤ gb162)); have n4_ := aM ((by rw [hg]; exact (below_size (zb)) : w.heap.size ≤ gb162)); have n5_ := aM ((by rw [hg]; exact Nat.ne_of_lt (nl BK161.out) : gb161 ≠ gb162)); have n6_ := aM ((by rw [hg]; exact Nat.ne_of_gt (nl BK161.out) : gb162 ≠ gb161)); clear BK161; clear HB; have BK161 := n0_; have HB := n1_; have BK162 := n2_; have GW162 := n3_; have GE162 := n4_; have NB161_162 := n5_; have NB162_161 := n6_; clear n0_ n1_ n2_ n3_ n4_ n5_ n6_; clear hb hbox hg))
 (try simp only [Act.put, List.setIfInBounds_toArray, List.set_cons_zero, List.set_cons_succ])
 go_cut [12] (fun v12 wc => ∃ (kq : Nat) (x12_1 : Bool), v12 = .bool x12_1 ∧ Aside0 (spec_Relent.j0 kq x12_1 a0_0 a0_1 a0_2 a0_3 a0_4 = some (r1, r2, r3, r4, r5, r6)) ∧ Aside0 (kq ≤ k) ∧ Aside0 (wc.heap[gb161]? = some (.cells #[.int .i64 a0_0, .int .i64 a0_1, .bool a0_2, .bool a0_3, .bool a0_4] 24 (0, 0))) ∧ Aside0 (wc.heap[gb162]? = some (.cells #[.int .i64 0, .int .i64 0, .bool false, .bool false, .bool false] 24 (0, 0))) ∧ Aside0 (Below w.heap.size w wc))
 case first =>
  have H := HC2.out
  clear HC2
  replace H := Option.bind_eq_some_iff.mp H
  obtain ⟨t163, A50, H⟩ := H
  replace H : (if t163 = true then ((spec_l01In.f a0_1 2 4).bind fun t164 => (spec_Relent.j0 k (!t164) a0_0 a0_1 a0_2 a0_3 a0_4)) else (spec_Relent.j0 k true a0_0 a0_1 a0_2 a0_3 a0_4)) = some (r1, r2, r3, r4, r5, r6) := H
  have A5 := aM A50
  clear A50
  by_cases c6 : t163 = true
  ·subst c6
   have H1 : ((spec_l01In.f a0_1 2 4).bind fun t164 => (spec_Relent.j0 k (!t164) a0_0 a0_1 a0_2 a0_3 a0_4)) = some (r1, r2, r3, r4, r5, r6) := by rw [if_pos rfl] at H; exact H
   clear H
   have H := H1
   clear H1
   replace H := Option.bind_eq_some_iff.mp H
   obtain ⟨t164, A70, H⟩ := H
   replace H : (spec_Relent.j0 k (!t164) a0_0 a0_1 a0_2 a0_3 a0_4) = some (r1, r2, r3, r4, r5, r6) := H
   have A7 := aM A70
   clear A70
   have H' := aM H
   clear H
   have hnb8 := NB161_162.out
   have hnc8 := NB162_161.out
   obtain ⟨hcz9_0, hcz9_1, hcz9_2, hcz9_3, hcz9_4, hfz9_0, hfz9_1, hfz9_2, hfz9_3, hfz9_4⟩ := cells5 BK161.out
   go_wp2_with (first | ((with_reducible refine gate_callee (f := 51) rfl ?_); refine goesL_ (some 5) rfl rfl Try.func51 (by kernel_rfl) rfl #[.agg #[.int .i64 a0_0, .int .i64 a0_1, .bool a0_2, .bool a0_3, .bool a0_4]] rfl za ?_; (with_reducible refine (spec_DoorOk.calls k a0_0 a0_1 a0_2 a0_3 a0_4 true _ A5.out).mono ?_); rintro e w10 ⟨rfl, hb⟩; refine ⟨_, rfl, ?_⟩; have n0_ := aM (bb BK161.out hb); have n1_ := aM (bb BK162.out hb); have n2_ := aM (below_step (zb) hb); clear BK161; clear BK162; clear HB; have BK161 := n0_; have BK162 := n1_; have HB := n2_; clear n0_ n1_ n2_; (try clear hb); (try clear hb2); (try clear hk); (try clear hi); obtain ⟨hcz11_0, hcz11_1, hcz11_2, hcz11_3, hcz11_4, hfz11_0, hfz11_1, hfz11_2, hfz11_3, hfz11_4⟩ := cells5 BK161.out) | (go_at_call 56; (with_reducible refine (spec_l01In.calls a0_1 2 4 t164 _ A7.out).mono ?_); rintro e w' ⟨rfl, ⟨nd, rfl⟩⟩))
   go_meet
   case rel => exact ⟨_, (!t164), zs, H', ⟨by first | omega | exact Nat.le_refl _⟩, ⟨by exact pk BK161.out⟩, ⟨by exact pk BK162.out⟩, ⟨zb⟩⟩
  ·replace c6 := Bool.eq_false_iff.mpr c6
   subst c6
   have H1 : (spec_Relent.j0 k true a0_0 a0_1 a0_2 a0_3 a0_4) = some (r1, r2, r3, r4, r5, r6) := by rw [if_neg (show ¬ (false = true) by decide)] at H; exact H
   clear H
   have H := H1
   clear H1
   have H' := aM H
   clear H
   have hnb12 := NB161_162.out
   have hnc12 := NB162_161.out
   obtain ⟨hcz13_0, hcz13_1, hcz13_2, hcz13_3, hcz13_4, hfz13_0, hfz13_1, hfz13_2, hfz13_3, hfz13_4⟩ := cells5 BK161.out
   go_wp2_with (first | ((with_reducible refine gate_callee (f := 51) rfl ?_); refine goesL_ (some 5) rfl rfl Try.func51 (by kernel_rfl) rfl #[.agg #[.int .i64 a0_0, .int .i64 a0_1, .bool a0_2, .bool a0_3, .bool a0_4]] rfl za ?_; (with_reducible refine (spec_DoorOk.calls k a0_0 a0_1 a0_2 a0_3 a0_4 false _ A5.out).mono ?_); rintro e w14 ⟨rfl, hb⟩; refine ⟨_, rfl, ?_⟩; have n0_ := aM (bb BK161.out hb); have n1_ := aM (bb BK162.out hb); have n2_ := aM (below_step (zb) hb); clear BK161; clear BK162; clear HB; have BK161 := n0_; have BK162 := n1_; have HB := n2_; clear n0_ n1_ n2_; (try clear hb); (try clear hb2); (try clear hk); (try clear hi)))
   go_meet
   case rel => exact ⟨_, (true), zs, H', ⟨by first | omega | exact Nat.le_refl _⟩, ⟨by exact pk BK161.out⟩, ⟨by exact pk BK162.out⟩, ⟨zb⟩⟩
 case rest =>
  clear HC2
  try clear c1
  try clear p2
  try clear c5
  try clear c6
  try clear c8
  try clear c12
  try clear hcz11_0 hcz11_1 hcz11_2 hcz11_3 hcz11_4 hfz11_0 hfz11_1 hfz11_2 hfz11_3 hfz11_4
  try clear hcz13_0 hcz13_1 hcz13_2 hcz13_3 hcz13_4 hfz13_0 hfz13_1 hfz13_2 hfz13_3 hfz13_4
  try clear hcz9_0 hcz9_1 hcz9_2 hcz9_3 hcz9_4 hfz9_0 hfz9_1 hfz9_2 hfz9_3 hfz9_4
  obtain ⟨kq, x12_1, rfl, HA, HJ1, BK161, BK162, HB⟩ := hcut
  cases kq with
  | zero => exact absurd HA.out (by simp [spec_Relent.j0])
  | succ kj1 =>
   have H := HA.out
   clear HA
   simp only [spec_Relent.j0] at H
   by_cases c15 : x12_1 = true
   ·subst c15
    have H1 : (some (a0_0, a0_1, a0_2, a0_3, a0_4, false)) = some (r1, r2, r3, r4, r5, r6) := by rw [if_pos rfl] at H; exact H
    clear H
    have H := H1
    clear H1
    simp only [Option.some.injEq, Prod.mk.injEq] at H
    obtain ⟨rfl, rfl, rfl, rfl, rfl, rfl⟩ := H
    have hnb16 := NB161_162.out
    have hnc16 := NB162_161.out
    obtain ⟨hcz17_0, hcz17_1, hcz17_2, hcz17_3, hcz17_4, hfz17_0, hfz17_1, hfz17_2, hfz17_3, hfz17_4⟩ := cells5 BK161.out
    obtain ⟨hcz18_0, hcz18_1, hcz18_2, hcz18_3, hcz18_4, hfz18_0, hfz18_1, hfz18_2, hfz18_3, hfz18_4⟩ := cells5 BK162.out
    go_wp2
    refine bodyPost_ret (results_ct rfl _ _ gb162 24 #[.int .i64 a0_0, .int .i64 a0_1, .bool a0_2, .bool a0_3, .bool a0_4] (0, 0) _ rfl (by refine pq ?_; refine blk_put (cs := #[.int .i64 a0_0, .int .i64 a0_1, .bool a0_2, .bool a0_3, .bool false]) ?_ 4 _ rfl; refine pq ?_; refine blk_put (cs := #[.int .i64 a0_0, .int .i64 a0_1, .bool a0_2, .bool false, .bool false]) ?_ 3 _ rfl; refine pq ?_; refine blk_put (cs := #[.int .i64 a0_0, .int .i64 a0_1, .bool false, .bool false, .bool false]) ?_ 2 _ rfl; refine pq ?_; refine blk_put (cs := #[.int .i64 a0_0, .int .i64 0, .bool false, .bool false, .bool false]) ?_ 1 _ rfl; refine pq ?_; refine blk_put (cs := #[.int .i64 0, .int .i64 0, .bool false, .bool false, .bool false]) ?_ 0 _ rfl; refine pq ?_; exact BK162.out) Try.underlying24 rfl (by kernel_rfl)) rfl ?_
    exact ⟨zr, zb⟩
   ·replace c15 := Bool.eq_false_iff.mpr c15
    subst c15
    have H1 : (if a0_1 = 4 then (some (a0_0, 3, a0_2, a0_3, !a0_4, true)) else (some (a0_0, 5, a0_2, false, a0_4, true))) = some (r1, r2, r3, r4, r5, r6) := by rw [if_neg (show ¬ (false = true) by decide)] at H; exact H
    clear H
    have H := H1
    clear H1
    by_cases c19 : a0_1 = 4
    ·rw [if_pos c19] at H
     have c19b0 : (a0_1 == 4) = true := beq_iff_eq.mpr c19
     have c19b1 : (a0_1 != 4) = false := bne_eq_false_iff_eq.mpr c19
     clear c19
     simp only [Option.some.injEq, Prod.mk.injEq] at H
     obtain ⟨rfl, rfl, rfl, rfl, rfl, rfl⟩ := H
     have hnb20 := NB161_162.out
     have hnc20 := NB162_161.out
     obtain ⟨hcz21_0, hcz21_1, hcz21_2, hcz21_3, hcz21_4, hfz21_0, hfz21_1, hfz21_2, hfz21_3, hfz21_4⟩ := cells5 BK161.out
     obtain ⟨hcz22_0, hcz22_1, hcz22_2, hcz22_3, hcz22_4, hfz22_0, hfz22_1, hfz22_2, hfz22_3, hfz22_4⟩ := cells5 BK162.out
     go_wp2
     refine bodyPost_ret (results_ct rfl _ _ gb162 24 #[.int .i64 a0_0, .int .i64 3, .bool a0_2, .bool a0_3, .bool (!a0_4)] (0, 0) _ rfl (by refine pq ?_; refine blk_put (cs := #[.int .i64 a0_0, .int .i64 3, .bool a0_2, .bool a0_3, .bool false]) ?_ 4 _ rfl; refine pq ?_; refine blk_put (cs := #[.int .i64 a0_0, .int .i64 3, .bool a0_2, .bool false, .bool false]) ?_ 3 _ rfl; refine pq ?_; refine blk_put (cs := #[.int .i64 a0_0, .int .i64 3, .bool false, .bool false, .bool false]) ?_ 2 _ rfl; refine pq ?_; refine blk_put (cs := #[.int .i64 a0_0, .int .i64 0, .bool false, .bool false, .bool false]) ?_ 1 _ rfl; refine pq ?_; refine blk_put (cs := #[.int .i64 0, .int .i64 0, .bool false, .bool false, .bool false]) ?_ 0 _ rfl; refine pq ?_; refine blk_far ?_ NB162_161.out _; refine pq ?_; refine blk_far ?_ NB162_161.out _; refine pq ?_; exact BK162.out) Try.underlying24 rfl (by kernel_rfl)) rfl ?_
     exact ⟨zr, zb⟩
    ·rw [if_neg c19] at H
     have c19b0 : (a0_1 == 4) = false := beq_eq_false_iff_ne.mpr c19
     have c19b1 : (a0_1 != 4) = true := bne_iff_ne.mpr c19
     simp only [Option.some.injEq, Prod.mk.injEq] at H
     obtain ⟨rfl, rfl, rfl, rfl, rfl, rfl⟩ := H
     have hnb23 := NB161_162.out
     have hnc23 := NB162_161.out
     obtain ⟨hcz24_0, hcz24_1, hcz24_2, hcz24_3, hcz24_4, hfz24_0, hfz24_1, hfz24_2, hfz24_3, hfz24_4⟩ := cells5 BK161.out
     obtain ⟨hcz25_0, hcz25_1, hcz25_2, hcz25_3, hcz25_4, hfz25_0, hfz25_1, hfz25_2, hfz25_3, hfz25_4⟩ := cells5 BK162.out
     go_wp2
     refine bodyPost_ret (results_ct rfl _ _ gb162 24 #[.int .i64 a0_0, .int .i64 5, .bool a0_2, .bool false, .bool a0_4] (0, 0) _ rfl (by refine pq ?_; refine blk_put (cs := #[.int .i64 a0_0, .int .i64 5, .bool a0_2, .bool false, .bool false]) ?_ 4 _ rfl; refine pq ?_; refine blk_put (cs := #[.int .i64 a0_0, .int .i64 5, .bool a0_2, .bool false, .bool false]) ?_ 3 _ rfl; refine pq ?_; refine blk_put (cs := #[.int .i64 a0_0, .int .i64 5, .bool false, .bool false, .bool false]) ?_ 2 _ rfl; refine pq ?_; refine blk_put (cs := #[.int .i64 a0_0, .int .i64 0, .bool false, .bool false, .bool false]) ?_ 1 _ rfl; refine pq ?_; refine blk_put (cs := #[.int .i64 0, .int .i64 0, .bool false, .bool false, .bool false]) ?_ 0 _ rfl; refine pq ?_; refine blk_far ?_ NB162_161.out _; refine pq ?_; refine blk_far ?_ NB162_161.out _; refine pq ?_; exact BK162.out) Try.underlying24 rfl (by kernel_rfl)) rfl ?_
     exact ⟨zr, zb⟩

/-! ### spec_l04Dark: function 52 -/
def spec_l04Dark.f (k : Nat) (a0_0 : Int) (a0_1 : Int) (a0_2 : Bool) (a0_3 : Bool) (a0_4 : Bool) : Option (Bool) := (spec_DoorOk.f k a0_0 a0_1 a0_2 a0_3 a0_4).bind fun t166 => (if t166 = true then (if a0_0 = 0 then (some false) else (some (a0_1 == 0))) else (some false))
theorem spec_l04Dark.mono : ∀ a0 a1 a2 a3 a4 k, LeO (spec_l04Dark.f k a0 a1 a2 a3 a4) (spec_l04Dark.f (k + 1) a0 a1 a2 a3 a4) := by
 intro a0 a1 a2 a3 a4 k
 unfold spec_l04Dark.f
 repeat' first
   | (with_reducible exact spec_DoorOk.mono _ _ _ _ _ _)
   | (with_reducible exact LeO.refl _)
   | (with_reducible exact LeO.none _)
   | (with_reducible refine LeO.ite ?_ ?_)
   | (with_reducible refine LeO.bind ?_ (fun _ => ?_))
   | exact spec_DoorOk.mono _ _ _ _ _ _
   | exact LeO.none _
   | refine LeO.ite ?_ ?_
   | refine LeO.bind ?_ (fun _ => ?_)
set_option maxHeartbeats 8000000 in
set_option maxRecDepth 100000 in
theorem spec_l04Dark.calls (k : Nat) (a0_0 : Int) (a0_1 : Int) (a0_2 : Bool) (a0_3 : Bool) (a0_4 : Bool) (r : Bool) (w : World) (h : spec_l04Dark.f k a0_0 a0_1 a0_2 a0_3 a0_4 = some r) :
  Calls Try.prog 52 #[.agg #[.int .i64 a0_0, .int .i64 a0_1, .bool a0_2, .bool a0_3, .bool a0_4]] w fun e w' => e = .returned (.bool r) ∧ Below w.heap.size w w' := by
 have hu24 := Try.underlying24
 have HB := aM (Below.refl w.heap.size w)
 have H : ((spec_DoorOk.f k a0_0 a0_1 a0_2 a0_3 a0_4).bind fun t166 => (if t166 = true then (if a0_0 = 0 then (some false) else (some (a0_1 == 0))) else (some false))) = some r := h
 clear h
 replace H := Option.bind_eq_some_iff.mp H
 obtain ⟨t166, A20, H⟩ := H
 replace H : (if t166 = true then (if a0_0 = 0 then (some false) else (some (a0_1 == 0))) else (some false)) = some r := H
 have A2 := aM A20
 clear A20
 by_cases c3 : t166 = true
 ·subst c3
  have H1 : (if a0_0 = 0 then (some false) else (some (a0_1 == 0))) = some r := by rw [if_pos rfl] at H; exact H
  clear H
  have H := H1
  clear H1
  by_cases c4 : a0_0 = 0
  ·rw [if_pos c4] at H
   have c4b0 : (a0_0 == 0) = true := beq_iff_eq.mpr c4
   have c4b1 : (a0_0 != 0) = false := bne_eq_false_iff_eq.mpr c4
   clear c4
   obtain rfl := Option.some.inj H
   go_enter Try.func52, Try.ntmps52
   go_wp2_with (first | ((with_reducible refine gate_dst (N := 1) rfl ?_); refine box_event ?hg (N := 1) ?hd (cs := #[.int .i64 a0_0, .int .i64 a0_1, .bool a0_2, .bool a0_3, .bool a0_4]) (t := 24) ?hr ?_; (case hd => rfl); (case hg => rfl); (case hr => exact zg); intro gb165 hg w5 hbox hb; have n0_ := aM (below_step (zb) hb); have n1_ := aM (hbox); have n2_ := aM ((by rw [hg]; exact (below_size (zb)) : w.heap.size ≤ gb165)); have n3_ := aM ((by rw [hg]; exact (below_size (zb)) : w.heap.size ≤ gb165)); clear HB; have HB := n0_; have BK165 := n1_; have GW165 := n2_; have GE165 := n3_; clear n0_ n1_ n2_ n3_; clear hb hbox hg; obtain ⟨hcz6_0, hcz6_1, hcz6_2, hcz6_3, hcz6_4, hfz6_0, hfz6_1, hfz6_2, hfz6_3, hfz6_4⟩ := cells5 BK165.out) | ((with_reducible refine gate_callee (f := 51) rfl ?_); refine goesL_ (some 4) rfl rfl Try.func51 (by kernel_rfl) rfl #[.agg #[.int .i64 a0_0, .int .i64 a0_1, .bool a0_2, .bool a0_3, .bool a0_4]] rfl za ?_; (with_reducible refine (spec_DoorOk.calls k a0_0 a0_1 a0_2 a0_3 a0_4 true _ A2.out).mono ?_); rintro e w7 ⟨rfl, hb⟩; refine ⟨_, rfl, ?_⟩; have n0_ := aM (bb BK165.out hb); have n1_ := aM (below_step (zb) hb); clear BK165; clear HB; have BK165 := n0_; have HB := n1_; clear n0_ n1_; (try clear hb); (try clear hb2); (try clear hk); (try clear hi); obtain ⟨hcz8_0, hcz8_1, hcz8_2, hcz8_3, hcz8_4, hfz8_0, hfz8_1, hfz8_2, hfz8_3, hfz8_4⟩ := cells5 BK165.out))
   go_ret
   exact ⟨zr, zb⟩
  ·rw [if_neg c4] at H
   have c4b0 : (a0_0 == 0) = false := beq_eq_false_iff_ne.mpr c4
   have c4b1 : (a0_0 != 0) = true := bne_iff_ne.mpr c4
   obtain rfl := Option.some.inj H
   go_enter Try.func52, Try.ntmps52
   go_wp2_with (first | ((with_reducible refine gate_dst (N := 1) rfl ?_); refine box_event ?hg (N := 1) ?hd (cs := #[.int .i64 a0_0, .int .i64 a0_1, .bool a0_2, .bool a0_3, .bool a0_4]) (t := 24) ?hr ?_; (case hd => rfl); (case hg => rfl); (case hr => exact zg); intro gb165 hg w9 hbox hb; have n0_ := aM (below_step (zb) hb); have n1_ := aM (hbox); have n2_ := aM ((by rw [hg]; exact (below_size (zb)) : w.heap.size ≤ gb165)); have n3_ := aM ((by rw [hg]; exact (below_size (zb)) : w.heap.size ≤ gb165)); clear HB; have HB := n0_; have BK165 := n1_; have GW165 := n2_; have GE165 := n3_; clear n0_ n1_ n2_ n3_; clear hb hbox hg; obtain ⟨hcz10_0, hcz10_1, hcz10_2, hcz10_3, hcz10_4, hfz10_0, hfz10_1, hfz10_2, hfz10_3, hfz10_4⟩ := cells5 BK165.out) | ((with_reducible refine gate_callee (f := 51) rfl ?_); refine goesL_ (some 4) rfl rfl Try.func51 (by kernel_rfl) rfl #[.agg #[.int .i64 a0_0, .int .i64 a0_1, .bool a0_2, .bool a0_3, .bool a0_4]] rfl za ?_; (with_reducible refine (spec_DoorOk.calls k a0_0 a0_1 a0_2 a0_3 a0_4 true _ A2.out).mono ?_); rintro e w11 ⟨rfl, hb⟩; refine ⟨_, rfl, ?_⟩; have n0_ := aM (bb BK165.out hb); have n1_ := aM (below_step (zb) hb); clear BK165; clear HB; have BK165 := n0_; have HB := n1_; clear n0_ n1_; (try clear hb); (try clear hb2); (try clear hk); (try clear hi); obtain ⟨hcz12_0, hcz12_1, hcz12_2, hcz12_3, hcz12_4, hfz12_0, hfz12_1, hfz12_2, hfz12_3, hfz12_4⟩ := cells5 BK165.out))
   go_ret
   exact ⟨zr, zb⟩
 ·replace c3 := Bool.eq_false_iff.mpr c3
  subst c3
  have H1 : (some false) = some r := by rw [if_neg (show ¬ (false = true) by decide)] at H; exact H
  clear H
  have H := H1
  clear H1
  obtain rfl := Option.some.inj H
  go_enter Try.func52, Try.ntmps52
  go_wp2_with (first | ((with_reducible refine gate_dst (N := 1) rfl ?_); refine box_event ?hg (N := 1) ?hd (cs := #[.int .i64 a0_0, .int .i64 a0_1, .bool a0_2, .bool a0_3, .bool a0_4]) (t := 24) ?hr ?_; (case hd => rfl); (case hg => rfl); (case hr => exact zg); intro gb165 hg w13 hbox hb; have n0_ := aM (below_step (zb) hb); have n1_ := aM (hbox); have n2_ := aM ((by rw [hg]; exact (below_size (zb)) : w.heap.size ≤ gb165)); have n3_ := aM ((by rw [hg]; exact (below_size (zb)) : w.heap.size ≤ gb165)); clear HB; have HB := n0_; have BK165 := n1_; have GW165 := n2_; have GE165 := n3_; clear n0_ n1_ n2_ n3_; clear hb hbox hg; obtain ⟨hcz14_0, hcz14_1, hcz14_2, hcz14_3, hcz14_4, hfz14_0, hfz14_1, hfz14_2, hfz14_3, hfz14_4⟩ := cells5 BK165.out) | ((with_reducible refine gate_callee (f := 51) rfl ?_); refine goesL_ (some 4) rfl rfl Try.func51 (by kernel_rfl) rfl #[.agg #[.int .i64 a0_0, .int .i64 a0_1, .bool a0_2, .bool a0_3, .bool a0_4]] rfl za ?_; (with_reducible refine (spec_DoorOk.calls k a0_0 a0_1 a0_2 a0_3 a0_4 false _ A2.out).mono ?_); rintro e w15 ⟨rfl, hb⟩; refine ⟨_, rfl, ?_⟩; have n0_ := aM (bb BK165.out hb); have n1_ := aM (below_step (zb) hb); clear BK165; clear HB; have BK165 := n0_; have HB := n1_; clear n0_ n1_; (try clear hb); (try clear hb2); (try clear hk); (try clear hi)))
  go_ret
  exact ⟨zr, zb⟩

/-! ### spec_Hand: function 19 -/
mutual
def spec_Hand.j0 : Nat → Int → Bool → Int → Int → Bool → Bool → Bool → Option (Int × Int × Bool × Bool × Bool × Bool)
 | 0, _, _, _, _, _, _, _ => none
 | k + 1, x1, x11, x168000, x168001, x168002, x168003, x168004 => if x11 = true then (some (x168000, x168001, x168002, true, x168004, true)) else (if x1 = 2 then (spec_Hand.j1 k x1 x168003 x168000 x168001 x168002 x168003 x168004) else (spec_Hand.j1 k x1 false x168000 x168001 x168002 x168003 x168004))
def spec_Hand.j1 : Nat → Int → Bool → Int → Int → Bool → Bool → Bool → Option (Int × Int × Bool × Bool × Bool × Bool)
 | 0, _, _, _, _, _, _, _ => none
 | k + 1, x1, x24, x168000, x168001, x168002, x168003, x168004 => if x24 = true then (some (x168000, x168001, x168002, x168003, !x168004, true)) else (if x1 = 3 then (if x168003 = true then (some (x168000, x168001, x168002, false, x168004, true)) else (some (x168000, x168001, x168002, x168003, x168004, false))) else (some (x168000, x168001, x168002, x168003, x168004, false)))
end
def spec_Hand.f (k : Nat) (a0_0 : Int) (a0_1 : Int) (a0_2 : Bool) (a0_3 : Bool) (a0_4 : Bool) (a1 : Int) : Option (Int × Int × Bool × Bool × Bool × Bool) := (spec_l04Dark.f k a0_0 a0_1 a0_2 a0_3 a0_4).bind fun t169 => (if t169 = true then (if a1 = 1 then (if a0_2 = true then (spec_Hand.j0 k a1 (!a0_3) a0_0 a0_1 a0_2 a0_3 a0_4) else (spec_Hand.j0 k a1 false a0_0 a0_1 a0_2 a0_3 a0_4)) else (spec_Hand.j0 k a1 false a0_0 a0_1 a0_2 a0_3 a0_4)) else (some (a0_0, a0_1, a0_2, a0_3, a0_4, false)))
theorem spec_Hand.mono_l : ∀ k, (∀ y0 y1 y2 y3 y4 y5 y6, LeO (spec_Hand.j0 k y0 y1 y2 y3 y4 y5 y6) (spec_Hand.j0 (k + 1) y0 y1 y2 y3 y4 y5 y6)) ∧ (∀ y0 y1 y2 y3 y4 y5 y6, LeO (spec_Hand.j1 k y0 y1 y2 y3 y4 y5 y6) (spec_Hand.j1 (k + 1) y0 y1 y2 y3 y4 y5 y6))
 | 0 => ⟨fun _ _ _ _ _ _ _ r h => by simp [spec_Hand.j0] at h, fun _ _ _ _ _ _ _ r h => by simp [spec_Hand.j1] at h⟩
 | k + 1 => by
  obtain ⟨ih0, ih1⟩ := spec_Hand.mono_l k
  refine ⟨?_, ?_⟩
  ·intro y0 y1 y2 y3 y4 y5 y6
   unfold spec_Hand.j0
   repeat' first
   | (with_reducible exact ih0 _ _ _ _ _ _ _)
   | (with_reducible exact ih1 _ _ _ _ _ _ _)
   | (with_reducible exact spec_l04Dark.mono _ _ _ _ _ _)
   | (with_reducible exact LeO.refl _)
   | (with_reducible exact LeO.none _)
   | (with_reducible refine LeO.ite ?_ ?_)
   | (with_reducible refine LeO.bind ?_ (fun _ => ?_))
   | exact ih0 _ _ _ _ _ _ _
   | exact ih1 _ _ _ _ _ _ _
   | exact spec_l04Dark.mono _ _ _ _ _ _
   | exact LeO.none _
   | refine LeO.ite ?_ ?_
   | refine LeO.bind ?_ (fun _ => ?_)
  ·intro y0 y1 y2 y3 y4 y5 y6
   unfold spec_Hand.j1
   repeat' first
   | (with_reducible exact ih0 _ _ _ _ _ _ _)
   | (with_reducible exact ih1 _ _ _ _ _ _ _)
   | (with_reducible exact spec_l04Dark.mono _ _ _ _ _ _)
   | (with_reducible exact LeO.refl _)
   | (with_reducible exact LeO.none _)
   | (with_reducible refine LeO.ite ?_ ?_)
   | (with_reducible refine LeO.bind ?_ (fun _ => ?_))
   | exact ih0 _ _ _ _ _ _ _
   | exact ih1 _ _ _ _ _ _ _
   | exact spec_l04Dark.mono _ _ _ _ _ _
   | exact LeO.none _
   | refine LeO.ite ?_ ?_
   | refine LeO.bind ?_ (fun _ => ?_)
theorem spec_Hand.mono : ∀ a0 a1 a2 a3 a4 a5 k, LeO (spec_Hand.f k a0 a1 a2 a3 a4 a5) (spec_Hand.f (k + 1) a0 a1 a2 a3 a4 a5) := by
 intro a0 a1 a2 a3 a4 a5 k
 obtain ⟨ih0, ih1⟩ := spec_Hand.mono_l k
 unfold spec_Hand.f
 repeat' first
   | (with_reducible exact ih0 _ _ _ _ _ _ _)
   | (with_reducible exact ih1 _ _ _ _ _ _ _)
   | (with_reducible exact spec_l04Dark.mono _ _ _ _ _ _)
   | (with_reducible exact LeO.refl _)
   | (with_reducible exact LeO.none _)
   | (with_reducible refine LeO.ite ?_ ?_)
   | (with_reducible refine LeO.bind ?_ (fun _ => ?_))
   | exact ih0 _ _ _ _ _ _ _
   | exact ih1 _ _ _ _ _ _ _
   | exact spec_l04Dark.mono _ _ _ _ _ _
   | exact LeO.none _
   | refine LeO.ite ?_ ?_
   | refine LeO.bind ?_ (fun _ => ?_)
set_option maxHeartbeats 8000000 in
set_option maxRecDepth 100000 in
theorem spec_Hand.calls (k : Nat) (a0_0 : Int) (a0_1 : Int) (a0_2 : Bool) (a0_3 : Bool) (a0_4 : Bool) (a1 : Int) (r1 : Int) (r2 : Int) (r3 : Bool) (r4 : Bool) (r5 : Bool) (r6 : Bool) (w : World) (h : spec_Hand.f k a0_0 a0_1 a0_2 a0_3 a0_4 a1 = some (r1, r2, r3, r4, r5, r6)) :
  Calls Try.prog 19 #[.agg #[.int .i64 a0_0, .int .i64 a0_1, .bool a0_2, .bool a0_3, .bool a0_4], .int .i64 a1] w fun e w' => e = .returned (.tuple #[.agg #[.int .i64 r1, .int .i64 r2, .bool r3, .bool r4, .bool r5], .bool r6]) ∧ Below w.heap.size w w' := by
 have hu24 := Try.underlying24
 have HB := aM (Below.refl w.heap.size w)
 have H : ((spec_l04Dark.f k a0_0 a0_1 a0_2 a0_3 a0_4).bind fun t169 => (if t169 = true then (if a1 = 1 then (if a0_2 = true then (spec_Hand.j0 k a1 (!a0_3) a0_0 a0_1 a0_2 a0_3 a0_4) else (spec_Hand.j0 k a1 false a0_0 a0_1 a0_2 a0_3 a0_4)) else (spec_Hand.j0 k a1 false a0_0 a0_1 a0_2 a0_3 a0_4)) else (some (a0_0, a0_1, a0_2, a0_3, a0_4, false)))) = some (r1, r2, r3, r4, r5, r6) := h
 clear h
 replace H := Option.bind_eq_some_iff.mp H
 obtain ⟨t169, A30, H⟩ := H
 replace H : (if t169 = true then (if a1 = 1 then (if a0_2 = true then (spec_Hand.j0 k a1 (!a0_3) a0_0 a0_1 a0_2 a0_3 a0_4) else (spec_Hand.j0 k a1 false a0_0 a0_1 a0_2 a0_3 a0_4)) else (spec_Hand.j0 k a1 false a0_0 a0_1 a0_2 a0_3 a0_4)) else (some (a0_0, a0_1, a0_2, a0_3, a0_4, false))) = some (r1, r2, r3, r4, r5, r6) := H
 have A3 := aM A30
 clear A30
 by_cases c4 : t169 = true
 ·subst c4
  have H1 : (if a1 = 1 then (if a0_2 = true then (spec_Hand.j0 k a1 (!a0_3) a0_0 a0_1 a0_2 a0_3 a0_4) else (spec_Hand.j0 k a1 false a0_0 a0_1 a0_2 a0_3 a0_4)) else (spec_Hand.j0 k a1 false a0_0 a0_1 a0_2 a0_3 a0_4)) = some (r1, r2, r3, r4, r5, r6) := by rw [if_pos rfl] at H; exact H
  clear H
  have H := H1
  clear H1
  have HC5 := aM H
  clear H
  go_enter Try.func19, Try.ntmps19
  go_upto_region 4 with (first | ((with_reducible refine gate_dst (N := 2) rfl ?_); refine box_event ?hg (N := 2) ?hd (cs := #[.int .i64 a0_0, .int .i64 a0_1, .bool a0_2, .bool a0_3, .bool a0_4]) (t := 24) ?hr ?_; (case hd => rfl); (case hg => rfl); (case hr => exact zg); intro gb167 hg w6 hbox hb; have n0_ := aM (below_step (zb) hb); have n1_ := aM (hbox); have n2_ := aM ((by rw [hg]; exact (below_size (zb)) : w.heap.size ≤ gb167)); have n3_ := aM ((by rw [hg]; exact (below_size (zb)) : w.heap.size ≤ gb167)); clear HB; have HB := n0_; have BK167 := n1_; have GW167 := n2_; have GE167 := n3_; clear n0_ n1_ n2_ n3_; clear hb hbox hg) | ((with_reducible refine gate_dst (N := 4) rfl ?_); refine box_event ?hg (N := 4) ?hd (cs := #[.int .i64 0, .int .i64 0, .bool false, .bool false, .bool false]) (t := 24) ?hr ?_; (case hd => rfl); (case hg => rfl); (case hr => exact zg); intro gb168 hg w7 hbox hb; have n0_ := aM (bb BK167.out hb); have n1_ := aM (below_step (zb) hb); have n2_ := aM (hbox); have n3_ := aM ((by rw [hg]; exact (below_size (zb)) : w.heap.size ≤ gb168)); have n4_ := aM ((by rw [hg]; exact (below_size (zb)) : w.heap.size ≤ gb168)); have n5_ := aM ((by rw [hg]; exact Nat.ne_of_lt (nl BK167.out) : gb167 ≠ gb168)); have n6_ := aM ((by rw [hg]; exact Nat.ne_of_gt (nl BK167.out) : gb168 ≠ gb167)); clear BK167; clear HB; have BK167 := n0_; have HB := n1_; have BK168 := n2_; have GW168 := n3_; have GE168 := n4_; have NB167_168 := n5_; have NB168_167 := n6_; clear n0_ n1_ n2_ n3_ n4_ n5_ n6_; clear hb hbox hg; have hnb8 := NB167_168.out; have hnc8 := NB168_167.out; obtain ⟨hcz9_0, hcz9_1, hcz9_2, hcz9_3, hcz9_4, hfz9_0, hfz9_1, hfz9_2, hfz9_3, hfz9_4⟩ := cells5 BK167.out) | ((with_reducible refine gate_callee (f := 52) rfl ?_); refine goesL_ (some 7) rfl rfl Try.func52 (by kernel_rfl) rfl #[.agg #[.int .i64 a0_0, .int .i64 a0_1, .bool a0_2, .bool a0_3, .bool a0_4]] rfl za ?_; (with_reducible refine (spec_l04Dark.calls k a0_0 a0_1 a0_2 a0_3 a0_4 true _ A3.out).mono ?_); rintro e w10 ⟨rfl, hb⟩; refine ⟨_, rfl, ?_⟩; have n0_ := aM (bb BK167.out hb); have n1_ := aM (bb BK168.out hb); have n2_ := aM (below_step (zb) hb); clear BK167; clear BK168; clear HB; have BK167 := n0_; have BK168 := n1_; have HB := n2_; clear n0_ n1_ n2_; (try clear hb); (try clear hb2); (try clear hk); (try clear hi)))
  (try simp only [Act.put, List.setIfInBounds_toArray, List.set_cons_zero, List.set_cons_succ])
  go_cut [11] (fun v11 wc => ∃ (kq : Nat) (x11_4 : Bool), v11 = .bool x11_4 ∧ Aside0 (spec_Hand.j0 kq a1 x11_4 a0_0 a0_1 a0_2 a0_3 a0_4 = some (r1, r2, r3, r4, r5, r6)) ∧ Aside0 (kq ≤ k) ∧ Aside0 (wc.heap[gb167]? = some (.cells #[.int .i64 a0_0, .int .i64 a0_1, .bool a0_2, .bool a0_3, .bool a0_4] 24 (0, 0))) ∧ Aside0 (wc.heap[gb168]? = some (.cells #[.int .i64 0, .int .i64 0, .bool false, .bool false, .bool false] 24 (0, 0))) ∧ Aside0 (Below w.heap.size w wc))
  case first =>
   have H := HC5.out
   clear HC5
   by_cases c11 : a1 = 1
   ·rw [if_pos c11] at H
    have c11b0 : (a1 == 1) = true := beq_iff_eq.mpr c11
    have c11b1 : (a1 != 1) = false := bne_eq_false_iff_eq.mpr c11
    clear c11
    (first | rw [c11b0] | (simp only [i64_w, i32_w]; rw [c11b0]) | skip)
    by_cases c12 : a0_2 = true
    ·subst c12
     have H1 : (spec_Hand.j0 k a1 (!a0_3) a0_0 a0_1 true a0_3 a0_4) = some (r1, r2, r3, r4, r5, r6) := by rw [if_pos rfl] at H; exact H
     clear H
     have H := H1
     clear H1
     have H' := aM H
     clear H
     have hnb13 := NB167_168.out
     have hnc13 := NB168_167.out
     obtain ⟨hcz14_0, hcz14_1, hcz14_2, hcz14_3, hcz14_4, hfz14_0, hfz14_1, hfz14_2, hfz14_3, hfz14_4⟩ := cells5 BK167.out
     go_wp2
     go_meet
     case rel => exact ⟨_, (!a0_3), zs, H', ⟨by first | omega | exact Nat.le_refl _⟩, ⟨by exact pk BK167.out⟩, ⟨by exact pk BK168.out⟩, ⟨zb⟩⟩
    ·replace c12 := Bool.eq_false_iff.mpr c12
     subst c12
     have H1 : (spec_Hand.j0 k a1 false a0_0 a0_1 false a0_3 a0_4) = some (r1, r2, r3, r4, r5, r6) := by rw [if_neg (show ¬ (false = true) by decide)] at H; exact H
     clear H
     have H := H1
     clear H1
     have H' := aM H
     clear H
     have hnb15 := NB167_168.out
     have hnc15 := NB168_167.out
     obtain ⟨hcz16_0, hcz16_1, hcz16_2, hcz16_3, hcz16_4, hfz16_0, hfz16_1, hfz16_2, hfz16_3, hfz16_4⟩ := cells5 BK167.out
     go_wp2
     go_meet
     case rel => exact ⟨_, (false), zs, H', ⟨by first | omega | exact Nat.le_refl _⟩, ⟨by exact pk BK167.out⟩, ⟨by exact pk BK168.out⟩, ⟨zb⟩⟩
   ·rw [if_neg c11] at H
    have c11b0 : (a1 == 1) = false := beq_eq_false_iff_ne.mpr c11
    have c11b1 : (a1 != 1) = true := bne_iff_ne.mpr c11
    (first | rw [c11b0] | (simp only [i64_w, i32_w]; rw [c11b0]) | skip)
    have H' := aM H
    clear H
    go_wp2
    go_meet
    case rel => exact ⟨_, (false), zs, H', ⟨by first | omega | exact Nat.le_refl _⟩, ⟨by exact pk BK167.out⟩, ⟨by exact pk BK168.out⟩, ⟨zb⟩⟩
  case rest =>
   clear HC5
   try clear c1
   try clear p2
   try clear c4
   try clear c5
   try clear c8
   try clear c11
   try clear c11b0
   try clear c11b1
   try clear c12
   try clear c13
   try clear c15
   try clear hcz14_0 hcz14_1 hcz14_2 hcz14_3 hcz14_4 hfz14_0 hfz14_1 hfz14_2 hfz14_3 hfz14_4
   try clear hcz16_0 hcz16_1 hcz16_2 hcz16_3 hcz16_4 hfz16_0 hfz16_1 hfz16_2 hfz16_3 hfz16_4
   try clear hcz9_0 hcz9_1 hcz9_2 hcz9_3 hcz9_4 hfz9_0 hfz9_1 hfz9_2 hfz9_3 hfz9_4
   obtain ⟨kq, x11_4, rfl, HA, HJ4, BK167, BK168, HB⟩ := hcut
   cases kq with
   | zero => exact absurd HA.out (by simp [spec_Hand.j0])
   | succ kj4 =>
    have H := HA.out
    clear HA
    simp only [spec_Hand.j0] at H
    by_cases c17 : x11_4 = true
    ·subst c17
     have H1 : (some (a0_0, a0_1, a0_2, true, a0_4, true)) = some (r1, r2, r3, r4, r5, r6) := by rw [if_pos rfl] at H; exact H
     clear H
     have H := H1
     clear H1
     simp only [Option.some.injEq, Prod.mk.injEq] at H
     obtain ⟨rfl, rfl, rfl, rfl, rfl, rfl⟩ := H
     have hnb18 := NB167_168.out
     have hnc18 := NB168_167.out
     obtain ⟨hcz19_0, hcz19_1, hcz19_2, hcz19_3, hcz19_4, hfz19_0, hfz19_1, hfz19_2, hfz19_3, hfz19_4⟩ := cells5 BK167.out
     obtain ⟨hcz20_0, hcz20_1, hcz20_2, hcz20_3, hcz20_4, hfz20_0, hfz20_1, hfz20_2, hfz20_3, hfz20_4⟩ := cells5 BK168.out
     go_wp2
     refine bodyPost_ret (results_ct rfl _ _ gb168 24 #[.int .i64 a0_0, .int .i64 a0_1, .bool a0_2, .bool true, .bool a0_4] (0, 0) _ rfl (by refine pq ?_; refine blk_put (cs := #[.int .i64 a0_0, .int .i64 a0_1, .bool a0_2, .bool true, .bool false]) ?_ 4 _ rfl; refine pq ?_; refine blk_put (cs := #[.int .i64 a0_0, .int .i64 a0_1, .bool a0_2, .bool false, .bool false]) ?_ 3 _ rfl; refine pq ?_; refine blk_put (cs := #[.int .i64 a0_0, .int .i64 a0_1, .bool false, .bool false, .bool false]) ?_ 2 _ rfl; refine pq ?_; refine blk_put (cs := #[.int .i64 a0_0, .int .i64 0, .bool false, .bool false, .bool false]) ?_ 1 _ rfl; refine pq ?_; refine blk_put (cs := #[.int .i64 0, .int .i64 0, .bool false, .bool false, .bool false]) ?_ 0 _ rfl; refine pq ?_; refine blk_far ?_ NB168_167.out _; refine pq ?_; exact BK168.out) Try.underlying24 rfl (by kernel_rfl)) rfl ?_
     exact ⟨zr, zb⟩
    ·replace c17 := Bool.eq_false_iff.mpr c17
     subst c17
     have H1 : (if a1 = 2 then (spec_Hand.j1 kj4 a1 a0_3 a0_0 a0_1 a0_2 a0_3 a0_4) else (spec_Hand.j1 kj4 a1 false a0_0 a0_1 a0_2 a0_3 a0_4)) = some (r1, r2, r3, r4, r5, r6) := by rw [if_neg (show ¬ (false = true) by decide)] at H; exact H
     clear H
     have H := H1
     clear H1
     have HC21 := aM H
     clear H
     go_upto_region 6 with (fail)
     go_cut [24] (fun v24 wc => ∃ (kq : Nat) (x24_20 : Bool), v24 = .bool x24_20 ∧ Aside0 (spec_Hand.j1 kq a1 x24_20 a0_0 a0_1 a0_2 a0_3 a0_4 = some (r1, r2, r3, r4, r5, r6)) ∧ Aside0 (kq ≤ kj4) ∧ Aside0 (wc.heap[gb167]? = some (.cells #[.int .i64 a0_0, .int .i64 a0_1, .bool a0_2, .bool a0_3, .bool a0_4] 24 (0, 0))) ∧ Aside0 (wc.heap[gb168]? = some (.cells #[.int .i64 0, .int .i64 0, .bool false, .bool false, .bool false] 24 (0, 0))) ∧ Aside0 (Below w.heap.size w wc))
     case first =>
      have H := HC21.out
      clear HC21
      by_cases c22 : a1 = 2
      ·rw [if_pos c22] at H
       have c22b0 : (a1 == 2) = true := beq_iff_eq.mpr c22
       have c22b1 : (a1 != 2) = false := bne_eq_false_iff_eq.mpr c22
       clear c22
       (first | rw [c22b0] | (simp only [i64_w, i32_w]; rw [c22b0]) | skip)
       have H' := aM H
       clear H
       have hnb23 := NB167_168.out
       have hnc23 := NB168_167.out
       obtain ⟨hcz24_0, hcz24_1, hcz24_2, hcz24_3, hcz24_4, hfz24_0, hfz24_1, hfz24_2, hfz24_3, hfz24_4⟩ := cells5 BK167.out
       go_wp2
       go_meet
       case rel => exact ⟨_, (a0_3), zs, H', ⟨by have := HJ4.out; first | omega | exact Nat.le_refl _⟩, ⟨by exact pk BK167.out⟩, ⟨by exact pk BK168.out⟩, ⟨zb⟩⟩
      ·rw [if_neg c22] at H
       have c22b0 : (a1 == 2) = false := beq_eq_false_iff_ne.mpr c22
       have c22b1 : (a1 != 2) = true := bne_iff_ne.mpr c22
       (first | rw [c22b0] | (simp only [i64_w, i32_w]; rw [c22b0]) | skip)
       have H' := aM H
       clear H
       go_wp2
       go_meet
       case rel => exact ⟨_, (false), zs, H', ⟨by have := HJ4.out; first | omega | exact Nat.le_refl _⟩, ⟨by exact pk BK167.out⟩, ⟨by exact pk BK168.out⟩, ⟨zb⟩⟩
     case rest =>
      clear HC21
      try clear c1
      try clear c2
      try clear p2
      try clear c4
      try clear c5
      try clear c8
      try clear c11
      try clear c11b0
      try clear c11b1
      try clear c12
      try clear c13
      try clear c15
      try clear c17
      try clear c18
      try clear c19
      try clear c22
      try clear c22b0
      try clear c22b1
      try clear c23
      try clear hcz14_0 hcz14_1 hcz14_2 hcz14_3 hcz14_4 hfz14_0 hfz14_1 hfz14_2 hfz14_3 hfz14_4
      try clear hcz16_0 hcz16_1 hcz16_2 hcz16_3 hcz16_4 hfz16_0 hfz16_1 hfz16_2 hfz16_3 hfz16_4
      try clear hcz19_0 hcz19_1 hcz19_2 hcz19_3 hcz19_4 hfz19_0 hfz19_1 hfz19_2 hfz19_3 hfz19_4
      try clear hcz20_0 hcz20_1 hcz20_2 hcz20_3 hcz20_4 hfz20_0 hfz20_1 hfz20_2 hfz20_3 hfz20_4
      try clear hcz24_0 hcz24_1 hcz24_2 hcz24_3 hcz24_4 hfz24_0 hfz24_1 hfz24_2 hfz24_3 hfz24_4
      try clear hcz9_0 hcz9_1 hcz9_2 hcz9_3 hcz9_4 hfz9_0 hfz9_1 hfz9_2 hfz9_3 hfz9_4
      try clear p2
      obtain ⟨kq, x24_20, rfl, HA, HJ20, BK167, BK168, HB⟩ := hcut
      cases kq with
      | zero => exact absurd HA.out (by simp [spec_Hand.j1])
      | succ kj20 =>
       have H := HA.out
       clear HA
       simp only [spec_Hand.j1] at H
       by_cases c25 : x24_20 = true
       ·subst c25
        have H1 : (some (a0_0, a0_1, a0_2, a0_3, !a0_4, true)) = some (r1, r2, r3, r4, r5, r6) := by rw [if_pos rfl] at H; exact H
        clear H
        have H := H1
        clear H1
        simp only [Option.some.injEq, Prod.mk.injEq] at H
        obtain ⟨rfl, rfl, rfl, rfl, rfl, rfl⟩ := H
        have hnb26 := NB167_168.out
        have hnc26 := NB168_167.out
        obtain ⟨hcz27_0, hcz27_1, hcz27_2, hcz27_3, hcz27_4, hfz27_0, hfz27_1, hfz27_2, hfz27_3, hfz27_4⟩ := cells5 BK167.out
        obtain ⟨hcz28_0, hcz28_1, hcz28_2, hcz28_3, hcz28_4, hfz28_0, hfz28_1, hfz28_2, hfz28_3, hfz28_4⟩ := cells5 BK168.out
        go_wp2
        refine bodyPost_ret (results_ct rfl _ _ gb168 24 #[.int .i64 a0_0, .int .i64 a0_1, .bool a0_2, .bool a0_3, .bool (!a0_4)] (0, 0) _ rfl (by refine pq ?_; refine blk_put (cs := #[.int .i64 a0_0, .int .i64 a0_1, .bool a0_2, .bool a0_3, .bool false]) ?_ 4 _ rfl; refine pq ?_; refine blk_put (cs := #[.int .i64 a0_0, .int .i64 a0_1, .bool a0_2, .bool false, .bool false]) ?_ 3 _ rfl; refine pq ?_; refine blk_put (cs := #[.int .i64 a0_0, .int .i64 a0_1, .bool false, .bool false, .bool false]) ?_ 2 _ rfl; refine pq ?_; refine blk_put (cs := #[.int .i64 a0_0, .int .i64 0, .bool false, .bool false, .bool false]) ?_ 1 _ rfl; refine pq ?_; refine blk_put (cs := #[.int .i64 0, .int .i64 0, .bool false, .bool false, .bool false]) ?_ 0 _ rfl; refine pq ?_; refine blk_far ?_ NB168_167.out _; refine pq ?_; exact BK168.out) Try.underlying24 rfl (by kernel_rfl)) rfl ?_
        exact ⟨zr, zb⟩
       ·replace c25 := Bool.eq_false_iff.mpr c25
        subst c25
        have H1 : (if a1 = 3 then (if a0_3 = true then (some (a0_0, a0_1, a0_2, false, a0_4, true)) else (some (a0_0, a0_1, a0_2, a0_3, a0_4, false))) else (some (a0_0, a0_1, a0_2, a0_3, a0_4, false))) = some (r1, r2, r3, r4, r5, r6) := by rw [if_neg (show ¬ (false = true) by decide)] at H; exact H
        clear H
        have H := H1
        clear H1
        by_cases c29 : a1 = 3
        ·rw [if_pos c29] at H
         have c29b0 : (a1 == 3) = true := beq_iff_eq.mpr c29
         have c29b1 : (a1 != 3) = false := bne_eq_false_iff_eq.mpr c29
         clear c29
         by_cases c30 : a0_3 = true
         ·subst c30
          have H1 : (some (a0_0, a0_1, a0_2, false, a0_4, true)) = some (r1, r2, r3, r4, r5, r6) := by rw [if_pos rfl] at H; exact H
          clear H
          have H := H1
          clear H1
          simp only [Option.some.injEq, Prod.mk.injEq] at H
          obtain ⟨rfl, rfl, rfl, rfl, rfl, rfl⟩ := H
          have hnb31 := NB167_168.out
          have hnc31 := NB168_167.out
          obtain ⟨hcz32_0, hcz32_1, hcz32_2, hcz32_3, hcz32_4, hfz32_0, hfz32_1, hfz32_2, hfz32_3, hfz32_4⟩ := cells5 BK167.out
          obtain ⟨hcz33_0, hcz33_1, hcz33_2, hcz33_3, hcz33_4, hfz33_0, hfz33_1, hfz33_2, hfz33_3, hfz33_4⟩ := cells5 BK168.out
          go_wp2
          refine bodyPost_ret (results_ct rfl _ _ gb168 24 #[.int .i64 a0_0, .int .i64 a0_1, .bool a0_2, .bool false, .bool a0_4] (0, 0) _ rfl (by refine pq ?_; refine blk_put (cs := #[.int .i64 a0_0, .int .i64 a0_1, .bool a0_2, .bool false, .bool false]) ?_ 4 _ rfl; refine pq ?_; refine blk_put (cs := #[.int .i64 a0_0, .int .i64 a0_1, .bool a0_2, .bool false, .bool false]) ?_ 3 _ rfl; refine pq ?_; refine blk_put (cs := #[.int .i64 a0_0, .int .i64 a0_1, .bool false, .bool false, .bool false]) ?_ 2 _ rfl; refine pq ?_; refine blk_put (cs := #[.int .i64 a0_0, .int .i64 0, .bool false, .bool false, .bool false]) ?_ 1 _ rfl; refine pq ?_; refine blk_put (cs := #[.int .i64 0, .int .i64 0, .bool false, .bool false, .bool false]) ?_ 0 _ rfl; refine pq ?_; refine blk_far ?_ NB168_167.out _; refine pq ?_; exact BK168.out) Try.underlying24 rfl (by kernel_rfl)) rfl ?_
          exact ⟨zr, zb⟩
         ·replace c30 := Bool.eq_false_iff.mpr c30
          subst c30
          have H1 : (some (a0_0, a0_1, a0_2, false, a0_4, false)) = some (r1, r2, r3, r4, r5, r6) := by rw [if_neg (show ¬ (false = true) by decide)] at H; exact H
          clear H
          have H := H1
          clear H1
          simp only [Option.some.injEq, Prod.mk.injEq] at H
          obtain ⟨rfl, rfl, rfl, rfl, rfl, rfl⟩ := H
          have hnb34 := NB167_168.out
          have hnc34 := NB168_167.out
          obtain ⟨hcz35_0, hcz35_1, hcz35_2, hcz35_3, hcz35_4, hfz35_0, hfz35_1, hfz35_2, hfz35_3, hfz35_4⟩ := cells5 BK167.out
          obtain ⟨hcz36_0, hcz36_1, hcz36_2, hcz36_3, hcz36_4, hfz36_0, hfz36_1, hfz36_2, hfz36_3, hfz36_4⟩ := cells5 BK168.out
          go_wp2
          refine bodyPost_ret (results_ct rfl _ _ gb168 24 #[.int .i64 a0_0, .int .i64 a0_1, .bool a0_2, .bool false, .bool a0_4] (0, 0) _ rfl (by refine pq ?_; refine blk_put (cs := #[.int .i64 a0_0, .int .i64 a0_1, .bool a0_2, .bool false, .bool false]) ?_ 4 _ rfl; refine pq ?_; refine blk_put (cs := #[.int .i64 a0_0, .int .i64 a0_1, .bool a0_2, .bool false, .bool false]) ?_ 3 _ rfl; refine pq ?_; refine blk_put (cs := #[.int .i64 a0_0, .int .i64 a0_1, .bool false, .bool false, .bool false]) ?_ 2 _ rfl; refine pq ?_; refine blk_put (cs := #[.int .i64 a0_0, .int .i64 0, .bool false, .bool false, .bool false]) ?_ 1 _ rfl; refine pq ?_; refine blk_put (cs := #[.int .i64 0, .int .i64 0, .bool false, .bool false, .bool false]) ?_ 0 _ rfl; refine pq ?_; exact BK168.out) Try.underlying24 rfl (by kernel_rfl)) rfl ?_
          exact ⟨zr, zb⟩
        ·rw [if_neg c29] at H
         have c29b0 : (a1 == 3) = false := beq_eq_false_iff_ne.mpr c29
         have c29b1 : (a1 != 3) = true := bne_iff_ne.mpr c29
         simp only [Option.some.injEq, Prod.mk.injEq] at H
         obtain ⟨rfl, rfl, rfl, rfl, rfl, rfl⟩ := H
         have hnb37 := NB167_168.out
         have hnc37 := NB168_167.out
         obtain ⟨hcz38_0, hcz38_1, hcz38_2, hcz38_3, hcz38_4, hfz38_0, hfz38_1, hfz38_2, hfz38_3, hfz38_4⟩ := cells5 BK167.out
         obtain ⟨hcz39_0, hcz39_1, hcz39_2, hcz39_3, hcz39_4, hfz39_0, hfz39_1, hfz39_2, hfz39_3, hfz39_4⟩ := cells5 BK168.out
         go_wp2
         refine bodyPost_ret (results_ct rfl _ _ gb168 24 #[.int .i64 a0_0, .int .i64 a0_1, .bool a0_2, .bool a0_3, .bool a0_4] (0, 0) _ rfl (by refine pq ?_; refine blk_put (cs := #[.int .i64 a0_0, .int .i64 a0_1, .bool a0_2, .bool a0_3, .bool false]) ?_ 4 _ rfl; refine pq ?_; refine blk_put (cs := #[.int .i64 a0_0, .int .i64 a0_1, .bool a0_2, .bool false, .bool false]) ?_ 3 _ rfl; refine pq ?_; refine blk_put (cs := #[.int .i64 a0_0, .int .i64 a0_1, .bool false, .bool false, .bool false]) ?_ 2 _ rfl; refine pq ?_; refine blk_put (cs := #[.int .i64 a0_0, .int .i64 0, .bool false, .bool false, .bool false]) ?_ 1 _ rfl; refine pq ?_; refine blk_put (cs := #[.int .i64 0, .int .i64 0, .bool false, .bool false, .bool false]) ?_ 0 _ rfl; refine pq ?_; exact BK168.out) Try.underlying24 rfl (by kernel_rfl)) rfl ?_
         exact ⟨zr, zb⟩
 ·replace c4 := Bool.eq_false_iff.mpr c4
  subst c4
  have H1 : (some (a0_0, a0_1, a0_2, a0_3, a0_4, false)) = some (r1, r2, r3, r4, r5, r6) := by rw [if_neg (show ¬ (false = true) by decide)] at H; exact H
  clear H
  have H := H1
  clear H1
  simp only [Option.some.injEq, Prod.mk.injEq] at H
  obtain ⟨rfl, rfl, rfl, rfl, rfl, rfl⟩ := H
  go_enter Try.func19, Try.ntmps19
  go_wp2_with (first | ((with_reducible refine gate_dst (N := 2) rfl ?_); refine box_event ?hg (N := 2) ?hd (cs := #[.int .i64 a0_0, .int .i64 a0_1, .bool a0_2, .bool a0_3, .bool a0_4]) (t := 24) ?hr ?_; (case hd => rfl); (case hg => rfl); (case hr => exact zg); intro gb167 hg w40 hbox hb; have n0_ := aM (below_step (zb) hb); have n1_ := aM (hbox); have n2_ := aM ((by rw [hg]; exact (below_size (zb)) : w.heap.size ≤ gb167)); have n3_ := aM ((by rw [hg]; exact (below_size (zb)) : w.heap.size ≤ gb167)); clear HB; have HB := n0_; have BK167 := n1_; have GW167 := n2_; have GE167 := n3_; clear n0_ n1_ n2_ n3_; clear hb hbox hg) | ((with_reducible refine gate_dst (N := 4) rfl ?_); refine box_event ?hg (N := 4) ?hd (cs := #[.int .i64 0, .int .i64 0, .bool false, .bool false, .bool false]) (t := 24) ?hr ?_; (case hd => rfl); (case hg => rfl); (case hr => exact zg); intro gb168 hg w41 hbox hb; have n0_ := aM (bb BK167.out hb); have n1_ := aM (below_step (zb) hb); have n2_ := aM (hbox); have n3_ := aM ((by rw [hg]; exact (below_size (zb)) : w.heap.size ≤ gb168)); have n4_ := aM ((by rw [hg]; exact (below_size (zb)) : w.heap.size ≤ gb168)); have n5_ := aM ((by rw [hg]; exact Nat.ne_of_lt (nl BK167.out) : gb167 ≠ gb168)); have n6_ := aM ((by rw [hg]; exact Nat.ne_of_gt (nl BK167.out) : gb168 ≠ gb167)); clear BK167; clear HB; have BK167 := n0_; have HB := n1_; have BK168 := n2_; have GW168 := n3_; have GE168 := n4_; have NB167_168 := n5_; have NB168_167 := n6_; clear n0_ n1_ n2_ n3_ n4_ n5_ n6_; clear hb hbox hg; have hnb42 := NB167_168.out; have hnc42 := NB168_167.out; obtain ⟨hcz43_0, hcz43_1, hcz43_2, hcz43_3, hcz43_4, hfz43_0, hfz43_1, hfz43_2, hfz43_3, hfz43_4⟩ := cells5 BK167.out) | ((with_reducible refine gate_callee (f := 52) rfl ?_); refine goesL_ (some 7) rfl rfl Try.func52 (by kernel_rfl) rfl #[.agg #[.int .i64 a0_0, .int .i64 a0_1, .bool a0_2, .bool a0_3, .bool a0_4]] rfl za ?_; (with_reducible refine (spec_l04Dark.calls k a0_0 a0_1 a0_2 a0_3 a0_4 false _ A3.out).mono ?_); rintro e w44 ⟨rfl, hb⟩; refine ⟨_, rfl, ?_⟩; have n0_ := aM (bb BK167.out hb); have n1_ := aM (bb BK168.out hb); have n2_ := aM (below_step (zb) hb); clear BK167; clear BK168; clear HB; have BK167 := n0_; have BK168 := n1_; have HB := n2_; clear n0_ n1_ n2_; (try clear hb); (try clear hb2); (try clear hk); (try clear hi); obtain ⟨hcz45_0, hcz45_1, hcz45_2, hcz45_3, hcz45_4, hfz45_0, hfz45_1, hfz45_2, hfz45_3, hfz45_4⟩ := cells5 BK167.out; obtain ⟨hcz46_0, hcz46_1, hcz46_2, hcz46_3, hcz46_4, hfz46_0, hfz46_1, hfz46_2, hfz46_3, hfz46_4⟩ := cells5 BK168.out))
  refine bodyPost_ret (results_ct rfl _ _ gb168 24 #[.int .i64 a0_0, .int .i64 a0_1, .bool a0_2, .bool a0_3, .bool a0_4] (0, 0) _ rfl (by refine pq ?_; refine blk_put (cs := #[.int .i64 a0_0, .int .i64 a0_1, .bool a0_2, .bool a0_3, .bool false]) ?_ 4 _ rfl; refine pq ?_; refine blk_put (cs := #[.int .i64 a0_0, .int .i64 a0_1, .bool a0_2, .bool false, .bool false]) ?_ 3 _ rfl; refine pq ?_; refine blk_put (cs := #[.int .i64 a0_0, .int .i64 a0_1, .bool false, .bool false, .bool false]) ?_ 2 _ rfl; refine pq ?_; refine blk_put (cs := #[.int .i64 a0_0, .int .i64 0, .bool false, .bool false, .bool false]) ?_ 1 _ rfl; refine pq ?_; refine blk_put (cs := #[.int .i64 0, .int .i64 0, .bool false, .bool false, .bool false]) ?_ 0 _ rfl; refine pq ?_; exact BK168.out) Try.underlying24 rfl (by kernel_rfl)) rfl ?_
  exact ⟨zr, zb⟩

end Go.Proofs.Ytglpkjcblpjnoab.QFnVerdicts
