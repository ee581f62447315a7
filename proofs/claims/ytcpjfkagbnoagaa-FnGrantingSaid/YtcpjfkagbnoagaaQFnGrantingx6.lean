-- Printed functions and their walks: by print.py, turned by wip/tools/myprint.py.
import Derived.Test.YtcpjfkagbnoagaaQFnGrantingx0
import Derived.Test.YtcpjfkagbnoagaaQFnGrantingx5
namespace Go.Proofs.Ytcpjfkagbnoagaa.QFnGranting
open Go.RowKit Go.Proofs.YtcpjfkagbnoagaaW.PrintWords Go.Proofs.YtcpjfkagbnoagaaW.PrintLast Go.Proofs.YtcpjfkagbnoagaaW.PrintMore
attribute [local go_sem] max2_int min2_int max_two min_two max_three min_three max_four min_four   -- for this text's walks alone
set_option linter.unusedVariables false
set_option linter.unusedSimpArgs false

/-! ### spec_l05Reach: function 73, walked by hand -/
mutual
def spec_l05Reach.l0 : Nat → List (S25) → Int → Int → Int → List (List Bool) → Int → Option ((List (List Bool)))
 | 0, _, _, _, _, _, _ => none
 | k + 1, x0, x2, x3, x4, x11, x12 => if x12 ≤ 6 then (if 41 ≤ 281474976710656 then (spec_l05Reach.l1 k x0 x2 x3 x4 x11 x12 (List.replicate 41 false) 0) else (none)) else (some x11)
def spec_l05Reach.l1 : Nat → List (S25) → Int → Int → Int → List (List Bool) → Int → List Bool → Int → Option ((List (List Bool)))
 | 0, _, _, _, _, _, _, _, _ => none
 | k + 1, x0, x2, x3, x4, x11, x12, x13, x14 => if x14 < (x0.length : Int) then (if 0 ≤ x14 then ((spec_Applies.f ((rd_T25 x0 x14).f0) ((rd_T25 x0 x14).f1) ((rd_T25 x0 x14).f2) ((rd_T25 x0 x14).f3) ((rd_T25 x0 x14).f4) ((rd_T25 x0 x14).f5) ((rd_T25 x0 x14).f6) x2 x3).bind fun t184 => (if t184 = true then (if ((rd_T25 x0 x14).f3) ≥ (wrap64 ((wrap64 (x12 - 1)) + x4)) then (if 0 ≤ (wrap64 (x12 - 1)) then (if (wrap64 (x12 - 1)) < (x11.length : Int) then (if 0 ≤ ((rd_T25 x0 x14).f1) then (if ((rd_T25 x0 x14).f1) < ((rd_L4 x11 (wrap64 (x12 - 1))).length : Int) then (spec_l05Reach.j2 k x0 x2 x3 x4 x11 x12 x13 x14 (rdOf false (rd_L4 x11 (wrap64 (x12 - 1))) ((rd_T25 x0 x14).f1)) ((rd_T25 x0 x14).f0) ((rd_T25 x0 x14).f1) ((rd_T25 x0 x14).f2) ((rd_T25 x0 x14).f3) ((rd_T25 x0 x14).f4) ((rd_T25 x0 x14).f5) ((rd_T25 x0 x14).f6)) else (none)) else (none)) else (none)) else (none)) else (spec_l05Reach.j2 k x0 x2 x3 x4 x11 x12 x13 x14 false ((rd_T25 x0 x14).f0) ((rd_T25 x0 x14).f1) ((rd_T25 x0 x14).f2) ((rd_T25 x0 x14).f3) ((rd_T25 x0 x14).f4) ((rd_T25 x0 x14).f5) ((rd_T25 x0 x14).f6))) else (spec_l05Reach.j2 k x0 x2 x3 x4 x11 x12 x13 x14 false ((rd_T25 x0 x14).f0) ((rd_T25 x0 x14).f1) ((rd_T25 x0 x14).f2) ((rd_T25 x0 x14).f3) ((rd_T25 x0 x14).f4) ((rd_T25 x0 x14).f5) ((rd_T25 x0 x14).f6)))) else (none)) else (if x11.length < 5864062014805 then (spec_l05Reach.l0 k x0 x2 x3 x4 (x11 ++ [x13]) (wrap64 (x12 + 1))) else (none))
def spec_l05Reach.j2 : Nat → List (S25) → Int → Int → Int → List (List Bool) → Int → List Bool → Int → Bool → Int → Int → Int → Int → Int → Int → Bool → Option ((List (List Bool)))
 | 0, _, _, _, _, _, _, _, _, _, _, _, _, _, _, _, _ => none
 | k + 1, x0, x2, x3, x4, x11, x12, x13, x14, x61, x184000, x184001, x184002, x184003, x184004, x184005, x184006 => if x61 = true then (if 0 ≤ x184000 then (if x184000 < (x13.length : Int) then (spec_l05Reach.l1 k x0 x2 x3 x4 x11 x12 (x13.set (x184000 : Int).toNat true) (wrap64 (x14 + 1))) else (none)) else (none)) else (spec_l05Reach.l1 k x0 x2 x3 x4 x11 x12 x13 (wrap64 (x14 + 1)))
end
def spec_l05Reach.f (k : Nat) (l0 : List (S25)) (a1 : Int) (a2 : Int) (a3 : Int) (a4 : Int) : Option ((List (List Bool))) := if 41 ≤ 281474976710656 then (if 0 ≤ a1 then (if a1 < 41 then (spec_l05Reach.l0 k l0 a2 a3 a4 (([((List.replicate 41 false).set (a1 : Int).toNat true)] : List (List Bool))) 1) else (none)) else (none)) else (none)
theorem spec_l05Reach.mono_l : ∀ k, (∀ y0 y1 y2 y3 y4 y5, LeO (spec_l05Reach.l0 k y0 y1 y2 y3 y4 y5) (spec_l05Reach.l0 (k + 1) y0 y1 y2 y3 y4 y5)) ∧ (∀ y0 y1 y2 y3 y4 y5 y6 y7, LeO (spec_l05Reach.l1 k y0 y1 y2 y3 y4 y5 y6 y7) (spec_l05Reach.l1 (k + 1) y0 y1 y2 y3 y4 y5 y6 y7)) ∧ (∀ y0 y1 y2 y3 y4 y5 y6 y7 y8 y9 y10 y11 y12 y13 y14 y15, LeO (spec_l05Reach.j2 k y0 y1 y2 y3 y4 y5 y6 y7 y8 y9 y10 y11 y12 y13 y14 y15) (spec_l05Reach.j2 (k + 1) y0 y1 y2 y3 y4 y5 y6 y7 y8 y9 y10 y11 y12 y13 y14 y15))
 | 0 => ⟨fun _ _ _ _ _ _ r h => by simp [spec_l05Reach.l0] at h, fun _ _ _ _ _ _ _ _ r h => by simp [spec_l05Reach.l1] at h, fun _ _ _ _ _ _ _ _ _ _ _ _ _ _ _ _ r h => by simp [spec_l05Reach.j2] at h⟩
 | k + 1 => by
  obtain ⟨ih0, ih1, ih2⟩ := spec_l05Reach.mono_l k
  refine ⟨?_, ?_, ?_⟩
  ·intro y0 y1 y2 y3 y4 y5
   unfold spec_l05Reach.l0
   repeat' first
   | (with_reducible exact ih0 _ _ _ _ _ _)
   | (with_reducible exact ih1 _ _ _ _ _ _ _ _)
   | (with_reducible exact ih2 _ _ _ _ _ _ _ _ _ _ _ _ _ _ _ _)
   | (with_reducible exact LeO.refl _)
   | (with_reducible exact LeO.none _)
   | (with_reducible refine LeO.ite ?_ ?_)
   | (with_reducible refine LeO.bind ?_ (fun _ => ?_))
   | exact ih0 _ _ _ _ _ _
   | exact ih1 _ _ _ _ _ _ _ _
   | exact ih2 _ _ _ _ _ _ _ _ _ _ _ _ _ _ _ _
   | exact LeO.none _
   | refine LeO.ite ?_ ?_
   | refine LeO.bind ?_ (fun _ => ?_)
  ·intro y0 y1 y2 y3 y4 y5 y6 y7
   unfold spec_l05Reach.l1
   repeat' first
   | (with_reducible exact ih0 _ _ _ _ _ _)
   | (with_reducible exact ih1 _ _ _ _ _ _ _ _)
   | (with_reducible exact ih2 _ _ _ _ _ _ _ _ _ _ _ _ _ _ _ _)
   | (with_reducible exact LeO.refl _)
   | (with_reducible exact LeO.none _)
   | (with_reducible refine LeO.ite ?_ ?_)
   | (with_reducible refine LeO.bind ?_ (fun _ => ?_))
   | exact ih0 _ _ _ _ _ _
   | exact ih1 _ _ _ _ _ _ _ _
   | exact ih2 _ _ _ _ _ _ _ _ _ _ _ _ _ _ _ _
   | exact LeO.none _
   | refine LeO.ite ?_ ?_
   | refine LeO.bind ?_ (fun _ => ?_)
  ·intro y0 y1 y2 y3 y4 y5 y6 y7 y8 y9 y10 y11 y12 y13 y14 y15
   unfold spec_l05Reach.j2
   repeat' first
   | (with_reducible exact ih0 _ _ _ _ _ _)
   | (with_reducible exact ih1 _ _ _ _ _ _ _ _)
   | (with_reducible exact ih2 _ _ _ _ _ _ _ _ _ _ _ _ _ _ _ _)
   | (with_reducible exact LeO.refl _)
   | (with_reducible exact LeO.none _)
   | (with_reducible refine LeO.ite ?_ ?_)
   | (with_reducible refine LeO.bind ?_ (fun _ => ?_))
   | exact ih0 _ _ _ _ _ _
   | exact ih1 _ _ _ _ _ _ _ _
   | exact ih2 _ _ _ _ _ _ _ _ _ _ _ _ _ _ _ _
   | exact LeO.none _
   | refine LeO.ite ?_ ?_
   | refine LeO.bind ?_ (fun _ => ?_)
theorem spec_l05Reach.mono : ∀ a0 a1 a2 a3 a4 k, LeO (spec_l05Reach.f k a0 a1 a2 a3 a4) (spec_l05Reach.f (k + 1) a0 a1 a2 a3 a4) := by
 intro a0 a1 a2 a3 a4 k
 obtain ⟨ih0, ih1, ih2⟩ := spec_l05Reach.mono_l k
 unfold spec_l05Reach.f
 repeat' first
   | (with_reducible exact ih0 _ _ _ _ _ _)
   | (with_reducible exact ih1 _ _ _ _ _ _ _ _)
   | (with_reducible exact ih2 _ _ _ _ _ _ _ _ _ _ _ _ _ _ _ _)
   | (with_reducible exact LeO.refl _)
   | (with_reducible exact LeO.none _)
   | (with_reducible refine LeO.ite ?_ ?_)
   | (with_reducible refine LeO.bind ?_ (fun _ => ?_))
   | exact ih0 _ _ _ _ _ _
   | exact ih1 _ _ _ _ _ _ _ _
   | exact ih2 _ _ _ _ _ _ _ _ _ _ _ _ _ _ _ _
   | exact LeO.none _
   | refine LeO.ite ?_ ?_
   | refine LeO.bind ?_ (fun _ => ?_)
def spec_l05Reach.T11 : Bool × List (List Nat × List Nat) := (true, [([], []), ([], []), ([], []), ([0, 1, 2], [0, 1, 2]), ([3, 3], [3]), ([4], [4]), ([5, 4], [4, 5]), ([4], [4]), ([7, 4], [4, 7]), ([4], [4]), ([8, 9, 4], [4, 8, 9]), ([6, 10, 4], [4, 6, 10]), ([4, 11], [4, 11]), ([12, 4], [12]), ([13], [13]), ([13], [13]), ([15, 13], [13, 15]), ([14, 16, 13], [13, 14, 16]), ([17, 13], [13, 17]), ([13], [13]), ([19, 13], [13, 19]), ([18, 20, 13], [13, 18, 20]), ([21, 13], [13, 21]), ([13, 22], [13, 22])])
def spec_l05Reach.B11 : List Nat := [0, 0, 0, 7, 15, 31, 63, 31, 159, 31, 927, 2047, 4095, 8191, 16383, 16383, 49151, 131071, 262143, 16383, 540671, 2097151, 4194303, 8388607]
theorem spec_l05Reach.tab11 : rtab .any (opsOf Try.f73 11) = spec_l05Reach.T11 := by kernel_rfl
theorem spec_l05Reach.bits11 : waitsOk spec_l05Reach.T11.2 spec_l05Reach.B11 = true := by kernel_rfl
set_option maxHeartbeats 8000000 in
set_option maxRecDepth 100000 in
theorem spec_l05Reach.calls (k : Nat) (A0 : Option Addr) (c0 : Nat) (l0 : List (S25)) (a1 : Int) (a2 : Int) (a3 : Int) (a4 : Int) (r : List (List Bool)) (w : World) (hr0 : Kd.C k25 w A0 l0.length l0) (hc0 : l0.length ≤ c0) (h : spec_l05Reach.f k l0 a1 a2 a3 a4 = some r) :
  Calls Try.prog 73 #[.slice A0 l0.length c0, .int .i64 a1, .int .i64 a2, .int .i64 a3, .int .i64 a4] w fun e w' => ∃ v0_ : Value, e = .returned (v0_) ∧ Kd.N (Kd.slice 4 Kd.bool) 71 w' w.heap.size (fun k_ => (w.heap.size ≤ k_)) v0_ r ∧ Below w.heap.size w w' := by
 have hu25 := Try.underlying25
 have HR0 := aM hr0
 have HC0 := aM hc0
 clear hr0 hc0
 have HB := aM (Below.refl w.heap.size w)
 have H : (if 41 ≤ 281474976710656 then (if 0 ≤ a1 then (if a1 < 41 then (spec_l05Reach.l0 k l0 a2 a3 a4 (([((List.replicate 41 false).set (a1 : Int).toNat true)] : List (List Bool))) 1) else (none)) else (none)) else (none)) = some r := h
 clear h
 by_cases c6 : ¬ (41 ≤ 281474976710656)
 ·rw [if_neg c6] at H
  exact absurd H (by simp)
 replace c6 := Decidable.not_not.mp c6
 rw [if_pos c6] at H
 clear c6
 by_cases c8 : ¬ (0 ≤ a1)
 ·rw [if_neg c8] at H
  exact absurd H (by simp)
 replace c8 := Decidable.not_not.mp c8
 rw [if_pos c8] at H
 by_cases c9 : a1 < 41
 ·rw [if_pos c9] at H
  obtain ⟨y170, hy170⟩ : ∃ y_ : List Bool, y_ = (List.replicate 41 false) := ⟨_, rfl⟩
  have hl170 : y170.length = 41 := by rw [hy170]; exact List.length_replicate
  obtain ⟨y171, hy171⟩ : ∃ y_ : List Bool, y_ = (y170.set (a1 : Int).toNat true) := ⟨_, rfl⟩
  have hl171 : y171.length = y170.length := by rw [hy171]; exact List.length_set
  obtain ⟨y173, hy173⟩ : ∃ y_ : List (List Bool), y_ = (([y171] : List (List Bool))) := ⟨_, rfl⟩
  replace H : (spec_l05Reach.l0 k l0 a2 a3 a4 y173 1) = some r := by rw [hy173, hy171, hy170]; exact H
  have Ny170 := aM hy170
  have Ny171 := aM hy171
  have Ny173 := aM hy173
  have Nl170 := aM hl170
  have Nl171 := aM hl171
  have Nc8 := aM c8
  have Nc9 := aM c9
  clear hy170 hy171 hy173 hl170 hl171 c8 c9
  have H' := aM H
  clear H
  go_enter Try.func73, Try.ntmps73
  go_upto_region 2 with (first | ((with_reducible refine gate_dst (N := 16) rfl ?_); refine Kd.R_make Kd.bool _ 4 rfl (N := 16) rfl 71 _ _ rfl 41 rfl rfl Try.underlying71 (.bool false) 1 info4 rfl (by decide) (by omega) false (ok := fun _ => True) (okp := fun _ => True) rfl (fun _ hk => hk) trivial (by omega) (by omega) (Below.refl _ _) (Nat.le_refl _) ?_; intro v171 w7 ho8 hb hg_ hnew_; clear hg_ hnew_; (first | rw [← Ny170.out] at ho8 | (simp only [Int.reduceToNat] at ho8; rw [← Ny170.out] at ho8)); have n0_ := aM (Kd.R_lower (Kd.R_newM (M := fun k_ => (w.heap.size ≤ k_)) ho8 (below_size (by repeat (first | (with_reducible first | exact HB.out | apply eA | apply eN | apply eD) | exact HB.out))) (fun k_ h_ => h_)) (below_size (by repeat (first | (with_reducible first | exact HB.out | apply eA | apply eN | apply eD) | exact HB.out)))); have n1_ := aM (below_step (by repeat (first | (with_reducible first | exact HB.out | apply eA | apply eN | apply eD) | exact HB.out)) hb); clear HB; have HO172 := n0_; have HB := n1_; clear n0_ n1_; clear hb ho8; obtain ⟨Ao9, co9, eo9⟩ := Kd.R_slice HO172.out; subst eo9) | ((with_reducible refine gate_dst (N := 17) rfl ?_); refine Kd.R_lit (Kd.raw 1) _ 71 ?hg (N := 17) ?hd (xs := ([[.slice Ao9 y170.length co9]] : List (List Value))) (inner := [.slice Ao9 y170.length co9]) (ok := fun _ => True) (okp := fun _ => True) ?hr ?hp (fun _ hk => hk) trivial (Below.refl _ _) (Nat.le_refl _) (by simp) ?_; (case hd => rfl); (case hg => rfl); (case hr => first | (go_simp; done) | (go_simp; rfl)); (case hp => exact Reps.one ⟨rfl, rfl, fun u hu => by rw [List.mem_singleton.1 hu]; rfl⟩ (Reps.none _ _)); intro v174 w10 ho11 hb hg_ hnew_; clear hg_ hnew_; have HO173 := aM (Kd.R_elder' HO172.out (Kd.R_base ho11) hb); have HX := aM (Kd.R_lower ho11 (below_size HB.out)); have HB2 := aM (below_step HB.out hb); clear HB HO172; have HB := HB2; clear HB2; clear hb ho11))
  have hsz : 0 < y170.length := by rw [Nl170.out]; decide
  have p42 : 0 ≤ (a1 : Int) := Nc8.out
  have q42 : (a1 : Int) < ((y170.length : Int) : Int) := by rw [Nl170.out]; exact Nc9.out
  obtain ⟨go42, co42, eo42, gb42, gl42, cl42, HG42⟩ := Kd.R_form HO173.out hsz
  injection eo42 with ea_ en_ ec_
  subst ea_
  subst ec_
  clear en_
  have GB42 := aM gb42
  clear gb42 gl42 HG42
  obtain ⟨hx42_0, hf42_0⟩ := Kd.R_celln false HO173.out (a1 : Int) p42 q42
  obtain ⟨g10, c10, e10, gb10, gl10, cl10, HG10⟩ := Kd.R_form HX.out (by simp)
  simp only [List.length_cons, List.length_nil, Nat.zero_add] at e10
  subst e10
  clear gl10 HG10
  have Hne : Aside0 (go42 ≠ g10) := aM (fun e_ => (HO173.out.1 go42 (by simp [Value.ownBlock])).2 (by simp [Value.ownBlock, e_]))
  obtain ⟨c_, hcl_, hM_, hcc_, hff_⟩ := Kd.R_elem HX.out [] 0 (by omega) (by simp)
  have hx10 : w10.cell? ⟨g10, 0, none⟩ = some (.slice (some ⟨go42, 0, none⟩) y170.length co9) := by
    have h_ := hcc_ 0 (.slice (some ⟨go42, 0, none⟩) y170.length co9) (by rw [hM_.1]; rfl)
    simpa using h_
  clear hcc_ hff_ hM_ hcl_ hsz
  replace p42 := eq_true p42
  replace q42 := eq_true q42
  have HP44 := Kd.R_putg HO173.out (a1 : Int) true
  go_wp2_with (first | ((with_reducible refine gate_store (t := 4) (p := 22) rfl ?_); refine store_event (t := 4) (p := 22) (v := ?vo_w45) (w1 := (w10.setCell ⟨go42, (a1 : Int).toNat, none⟩ (.bool true))) ?hg ?ho ?hn ?hr ?_; (case ho => rfl); (case hg => rfl); (case hn => rfl); (case hr => first | (go_simp; done) | (go_simp; rfl)); intro w45 hw; have HO174 : Aside0 (Kd.R Kd.bool 4 w45 w.heap.size (fun k_ => (w.heap.size ≤ k_) ∧ some k_ ≠ (Value.slice (some ⟨g10, 0, none⟩) 1 c10).ownBlock) (.slice (some ⟨go42, 0, none⟩) y170.length co9) y171) := aM (by rw [hw, Ny171.out]; exact Kd.R_mono HP44.1 (fun k_ hk => ⟨hk.1.1, hk.2⟩)); have HX2 : Aside0 ((Kd.raw 1).R 71 w45 w.heap.size (fun k => some k = (Value.slice (some ⟨g10, 0, none⟩) 1 c10).ownBlock) (.slice (some ⟨g10, 0, none⟩) 1 c10) [[.slice (some ⟨go42, 0, none⟩) y170.length co9]]) := aM (by rw [hw]; exact Kd.R_far (Kd.raw_tight HX.out) (p := ⟨go42, (a1 : Int).toNat, none⟩) (fun k hk e_ => Hne.out ((show go42 = k from e_.symm).trans (by simpa [Value.ownBlock] using hk))) _); have HB2 : Aside0 (Below w.heap.size w w45) := aM (by rw [hw]; exact below_set HB.out GB42.out); clear HB HP44 HO173 HX; have HB := HB2; clear HB2; clear hw))
  have HO175 : Aside0 (Kd.N (Kd.slice 4 Kd.bool) 71 w45 w.heap.size (fun k_ => (w.heap.size ≤ k_)) (.slice (some ⟨g10, 0, none⟩) 1 c10) y173) := aM (by
    refine ⟨fun k hk => ?_, [[.slice (some ⟨go42, 0, none⟩) y170.length co9]], by rw [Ny173.out]; rfl, HX2.out, fun j x c hx hc => ?_⟩
    · simp [Value.ownBlock] at hk
      rw [← hk]; exact gb10
    · cases j with
      | zero =>
        rw [Ny173.out] at hx
        simp only [List.getElem?_cons_zero, Option.some.injEq] at hx hc
        subst hx hc
        have h_ := HO174.out
        rw [← Nl171.out] at h_ ⊢
        exact Kd.FK_slice_mk (Kd.R_reads' h_).2.1 (Kd.R_F h_)
      | succ j => rw [Ny173.out] at hx; simp at hx)
  go_loopg [11, 12] k (fun kq v11 v12 w' => ∃ (x11_1 : List (List Bool)) (x12_1 : Int), v12 = .int .i64 x12_1 ∧ Aside0 (spec_l05Reach.l0 kq l0 a2 a3 a4 x11_1 x12_1 = some r) ∧ Aside0 (kq ≤ k) ∧ Aside0 (Kd.N (Kd.slice 4 Kd.bool) 71 w' w.heap.size (fun k_ => (w.heap.size ≤ k_)) v11 x11_1) ∧ Aside0 (Below w.heap.size w w'))
  case atStart => exact ⟨(y173), (1), (by first | rfl | (simp; done) | (simp [*]; done)), H', ⟨Nat.le_refl _⟩, ⟨by (with_reducible repeat (first | apply Kd.N_alloc | apply Kd.N_drewN | apply Kd.N_drew)); exact HO175.out⟩, ⟨by repeat (first | (with_reducible first | exact HB.out | apply eA | apply eN | apply eD) | exact HB.out)⟩⟩
  case round =>
   clear H'
   try clear p2
   try clear c6
   try clear c6b0
   try clear c6b1
   try clear c7
   obtain ⟨x11_1, x12_1, rfl, HA, HK1, HO_11, HB⟩ := hrel
   obtain ⟨A11_, c11_, e11_⟩ := Kd.N_slice HO_11.out
   subst e11_
   cases gk with
   | zero => exact absurd HA.out (by simp [spec_l05Reach.l0])
   | succ k1 =>
    have H := HA.out
    clear HA
    simp only [spec_l05Reach.l0] at H
    by_cases c12 : x12_1 ≤ 6
    ·rw [if_pos c12] at H
     have c12b0 : decide (x12_1 ≤ 6) = true := decide_eq_true c12
     clear c12
     by_cases c13 : 41 ≤ 281474976710656
     ·rw [if_pos c13] at H
      have c13b0 := eq_true c13
      have c13b1 : decide (41 ≤ 281474976710656) = true := decide_eq_true c13
      clear c13
      obtain ⟨y176, hy176⟩ : ∃ y_ : List Bool, y_ = (List.replicate 41 false) := ⟨_, rfl⟩
      replace H : (spec_l05Reach.l1 k1 l0 a2 a3 a4 x11_1 x12_1 y176 0) = some r := by first | (rw [hy176]; with_reducible exact H) | (have H2_ := (Option.bind_some _ _).symm.trans H; rw [hy176]; with_reducible exact H2_) | (have H2_ := (Option.bind_some _ _).symm.trans H; with_reducible exact H2_) | with_reducible exact H | (rw [hy176]; exact H) | exact H
      have Ny176 := aM hy176
      clear hy176
      have H' := aM H
      clear H
      go_wp2_with (first | ((with_reducible refine gate_dst (N := 27) rfl ?_); refine Kd.R_make Kd.bool _ 4 rfl (N := 27) rfl 71 _ _ rfl 41 rfl rfl Try.underlying71 (.bool false) 1 info4 rfl (by decide) (by omega) false (ok := fun _ => True) (okp := fun _ => True) rfl (fun _ hk => hk) trivial (by omega) (by omega) (Below.refl _ _) (Nat.le_refl _) ?_; intro v177 w14 ho15 hb hg_ hnew_; clear hg_ hnew_; (first | rw [← Ny176.out] at ho15 | (simp only [Int.reduceToNat] at ho15; rw [← Ny176.out] at ho15)); have n0_ := aM (Kd.N_elder' (by (with_reducible repeat (first | apply Kd.N_alloc | apply Kd.N_drewN | apply Kd.N_drew)); exact HO_11.out) (Kd.R_base ho15) hb); have n1_ := aM (Kd.R_lower (Kd.R_newM (M := fun k_ => (w.heap.size ≤ k_)) ho15 (below_size (by repeat (first | (with_reducible first | exact HB.out | apply eA | apply eN | apply eD) | exact HB.out))) (fun k_ h_ => h_)) (below_size (by repeat (first | (with_reducible first | exact HB.out | apply eA | apply eN | apply eD) | exact HB.out)))); have n2_ := aM (below_step (by repeat (first | (with_reducible first | exact HB.out | apply eA | apply eN | apply eD) | exact HB.out)) hb); clear HO_11; clear HB; have HO_11 := n0_; have HO178 := n1_; have HB := n2_; clear n0_ n1_ n2_; clear hb ho15))
      go_loopg [14] k1 (fun kq v14 w' => ∃ (x13_2 : List Bool) (x14_2 : Int), v14 = .int .i64 x14_2 ∧ Aside0 (spec_l05Reach.l1 kq l0 a2 a3 a4 x11_1 x12_1 x13_2 x14_2 = some r) ∧ Aside0 (kq ≤ k1) ∧ Aside0 (Kd.N (Kd.slice 4 Kd.bool) 71 w' w.heap.size (fun k_ => (w.heap.size ≤ k_) ∧ some k_ ≠ (v177 : Value).ownBlock) (.slice A11_ x11_1.length c11_) x11_1) ∧ Aside0 (Kd.R Kd.bool 4 w' w.heap.size (fun k_ => (w.heap.size ≤ k_)) v177 x13_2) ∧ Aside0 (Below w.heap.size w w'))
      case atStart => exact ⟨(y176), (0), (by first | rfl | (simp; done) | (simp [*]; done)), H', ⟨Nat.le_refl _⟩, ⟨by (with_reducible repeat (first | apply Kd.N_alloc | apply Kd.N_drewN | apply Kd.N_drew)); exact HO_11.out⟩, ⟨by (with_reducible repeat (first | apply Kd.R_alloc | apply Kd.R_drewN | apply Kd.R_drew)); exact Kd.R_mono HO178.out (fun _ hk => hk.1)⟩, ⟨by repeat (first | (with_reducible first | exact HB.out | apply eA | apply eN | apply eD) | exact HB.out)⟩⟩
      case round =>
       clear H'
       try clear c1
       try clear p2
       try clear c6
       try clear c6b0
       try clear c6b1
       try clear c7
       try clear c12
       try clear c12b0
       try clear c13
       try clear c13b0
       try clear c13b1
       try clear p2
       obtain ⟨x13_2, x14_2, rfl, HA, HK2, HO_11, HO_13, HB⟩ := hrel
       cases gk with
       | zero => exact absurd HA.out (by simp [spec_l05Reach.l1])
       | succ k2 =>
        have H := HA.out
        clear HA
        simp only [spec_l05Reach.l1] at H
        by_cases c16 : x14_2 < (l0.length : Int)
        ·rw [if_pos c16] at H
         have c16b0 : decide (x14_2 < (l0.length : Int)) = true := decide_eq_true c16
         clear c16
         by_cases c17 : 0 ≤ x14_2
         ·rw [if_pos c17] at H
          have c17b0 : decide (0 ≤ x14_2) = true := decide_eq_true c17
          clear c17
          have HC18 := aM H
          clear H
          have p182 : 0 ≤ (x14_2 : Int) := of_decide_eq_true (by first | (with_reducible assumption) | assumption)
          have q182 : x14_2 < (l0.length : Int) := of_decide_eq_true (by first | (with_reducible assumption) | assumption)
          obtain ⟨ad182, e182, hx182_0, hx182_1, hx182_2, hx182_3, hx182_4, hx182_5, hx182_6⟩ := at_T25 HR0.out x14_2 p182 q182
          cases e182
          replace hx182_0 := (HB.out.cell (World.block_lt_of_cell? w _ hx182_0)).trans hx182_0
          replace hx182_1 := (HB.out.cell (World.block_lt_of_cell? w _ hx182_1)).trans hx182_1
          replace hx182_2 := (HB.out.cell (World.block_lt_of_cell? w _ hx182_2)).trans hx182_2
          replace hx182_3 := (HB.out.cell (World.block_lt_of_cell? w _ hx182_3)).trans hx182_3
          replace hx182_4 := (HB.out.cell (World.block_lt_of_cell? w _ hx182_4)).trans hx182_4
          replace hx182_5 := (HB.out.cell (World.block_lt_of_cell? w _ hx182_5)).trans hx182_5
          replace hx182_6 := (HB.out.cell (World.block_lt_of_cell? w _ hx182_6)).trans hx182_6
          replace p182 := eq_true p182
          replace q182 := eq_true q182
          go_upto_region 11 with (first | ((with_reducible refine gate_dst (N := 15) rfl ?_); refine box_event ?hg (N := 15) ?hd (cs := #[.int .i64 0, .int .i64 0, .int .i64 0, .int .i64 0, .int .i64 0, .int .i64 0, .bool false]) (t := 25) ?hr ?_; (case hd => rfl); (case hg => rfl); (case hr => first | (go_simp; done) | (go_simp; rfl)); intro gb183 hg w19 hbox hb; have n0_ := aM (Kd.N_below (Kd.N_elderB (by (with_reducible repeat (first | apply Kd.N_alloc | apply Kd.N_drewN | apply Kd.N_drew)); exact HO_11.out) gb183 (Nat.le_of_eq hg.symm)) hb); have n1_ := aM (Kd.R_below (by (with_reducible repeat (first | apply Kd.R_alloc | apply Kd.R_drewN | apply Kd.R_drew)); exact HO_13.out) hb); have n2_ := aM (below_step (by repeat (first | (with_reducible first | exact HB.out | apply eA | apply eN | apply eD) | exact HB.out)) hb); have n3_ := aM (hbox); have n4_ := aM ((by rw [hg]; exact (below_size (by repeat (first | (with_reducible first | exact HB.out | apply eA | apply eN | apply eD) | exact HB.out))) : w.heap.size ≤ gb183)); have n5_ := aM ((by rw [hg]; exact (below_size (by repeat (first | (with_reducible first | exact HB.out | apply eA | apply eN | apply eD) | exact HB.out))) : w.heap.size ≤ gb183)); clear HO_11; clear HO_13; clear HB; have HO_11 := n0_; have HO_13 := n1_; have HB := n2_; have BK183 := n3_; have GW183 := n4_; have GE183 := n5_; clear n0_ n1_ n2_ n3_ n4_ n5_; clear hb hbox hg; obtain ⟨hcz20_0, hcz20_1, hcz20_2, hcz20_3, hcz20_4, hcz20_5, hcz20_6, hfz20_0, hfz20_1, hfz20_2, hfz20_3, hfz20_4, hfz20_5, hfz20_6⟩ := cells7 BK183.out))
          (try simp only [Act.put, List.setIfInBounds_toArray, List.set_cons_zero, List.set_cons_succ])
          go_cut [61] (fun v61 wc => ∃ (kq : Nat) (x61_17 : Bool), v61 = .bool x61_17 ∧ Aside0 (spec_l05Reach.j2 kq l0 a2 a3 a4 x11_1 x12_1 x13_2 x14_2 x61_17 ((rd_T25 l0 x14_2).f0) ((rd_T25 l0 x14_2).f1) ((rd_T25 l0 x14_2).f2) ((rd_T25 l0 x14_2).f3) ((rd_T25 l0 x14_2).f4) ((rd_T25 l0 x14_2).f5) ((rd_T25 l0 x14_2).f6) = some r) ∧ Aside0 (kq ≤ k2) ∧ Aside0 (Kd.N (Kd.slice 4 Kd.bool) 71 wc w.heap.size (fun k_ => (w.heap.size ≤ k_) ∧ some k_ ≠ (v177 : Value).ownBlock ∧ k_ ≠ gb183) (.slice A11_ x11_1.length c11_) x11_1) ∧ Aside0 (Kd.R Kd.bool 4 wc w.heap.size (fun k_ => (w.heap.size ≤ k_)) v177 x13_2) ∧ Aside0 (wc.heap[gb183]? = some (.cells #[.int .i64 ((rd_T25 l0 x14_2).f0), .int .i64 ((rd_T25 l0 x14_2).f1), .int .i64 ((rd_T25 l0 x14_2).f2), .int .i64 ((rd_T25 l0 x14_2).f3), .int .i64 ((rd_T25 l0 x14_2).f4), .int .i64 ((rd_T25 l0 x14_2).f5), .bool ((rd_T25 l0 x14_2).f6)] 25 (0, 0))) ∧ Aside0 (Below w.heap.size w wc))
          case first =>
           have H := HC18.out
           clear HC18
           replace H := Option.bind_eq_some_iff.mp H
           obtain ⟨t184, A210, H⟩ := H
           replace H : (if t184 = true then (if ((rd_T25 l0 x14_2).f3) ≥ (wrap64 ((wrap64 (x12_1 - 1)) + a4)) then (if 0 ≤ (wrap64 (x12_1 - 1)) then (if (wrap64 (x12_1 - 1)) < (x11_1.length : Int) then (if 0 ≤ ((rd_T25 l0 x14_2).f1) then (if ((rd_T25 l0 x14_2).f1) < ((rd_L4 x11_1 (wrap64 (x12_1 - 1))).length : Int) then (spec_l05Reach.j2 k2 l0 a2 a3 a4 x11_1 x12_1 x13_2 x14_2 (rdOf false (rd_L4 x11_1 (wrap64 (x12_1 - 1))) ((rd_T25 l0 x14_2).f1)) ((rd_T25 l0 x14_2).f0) ((rd_T25 l0 x14_2).f1) ((rd_T25 l0 x14_2).f2) ((rd_T25 l0 x14_2).f3) ((rd_T25 l0 x14_2).f4) ((rd_T25 l0 x14_2).f5) ((rd_T25 l0 x14_2).f6)) else (none)) else (none)) else (none)) else (none)) else (spec_l05Reach.j2 k2 l0 a2 a3 a4 x11_1 x12_1 x13_2 x14_2 false ((rd_T25 l0 x14_2).f0) ((rd_T25 l0 x14_2).f1) ((rd_T25 l0 x14_2).f2) ((rd_T25 l0 x14_2).f3) ((rd_T25 l0 x14_2).f4) ((rd_T25 l0 x14_2).f5) ((rd_T25 l0 x14_2).f6))) else (spec_l05Reach.j2 k2 l0 a2 a3 a4 x11_1 x12_1 x13_2 x14_2 false ((rd_T25 l0 x14_2).f0) ((rd_T25 l0 x14_2).f1) ((rd_T25 l0 x14_2).f2) ((rd_T25 l0 x14_2).f3) ((rd_T25 l0 x14_2).f4) ((rd_T25 l0 x14_2).f5) ((rd_T25 l0 x14_2).f6))) = some r := H
           have A21 := aM A210
           clear A210
           by_cases c22 : t184 = true
           ·subst c22
            have H1 : (if ((rd_T25 l0 x14_2).f3) ≥ (wrap64 ((wrap64 (x12_1 - 1)) + a4)) then (if 0 ≤ (wrap64 (x12_1 - 1)) then (if (wrap64 (x12_1 - 1)) < (x11_1.length : Int) then (if 0 ≤ ((rd_T25 l0 x14_2).f1) then (if ((rd_T25 l0 x14_2).f1) < ((rd_L4 x11_1 (wrap64 (x12_1 - 1))).length : Int) then (spec_l05Reach.j2 k2 l0 a2 a3 a4 x11_1 x12_1 x13_2 x14_2 (rdOf false (rd_L4 x11_1 (wrap64 (x12_1 - 1))) ((rd_T25 l0 x14_2).f1)) ((rd_T25 l0 x14_2).f0) ((rd_T25 l0 x14_2).f1) ((rd_T25 l0 x14_2).f2) ((rd_T25 l0 x14_2).f3) ((rd_T25 l0 x14_2).f4) ((rd_T25 l0 x14_2).f5) ((rd_T25 l0 x14_2).f6)) else (none)) else (none)) else (none)) else (none)) else (spec_l05Reach.j2 k2 l0 a2 a3 a4 x11_1 x12_1 x13_2 x14_2 false ((rd_T25 l0 x14_2).f0) ((rd_T25 l0 x14_2).f1) ((rd_T25 l0 x14_2).f2) ((rd_T25 l0 x14_2).f3) ((rd_T25 l0 x14_2).f4) ((rd_T25 l0 x14_2).f5) ((rd_T25 l0 x14_2).f6))) = some r := by rw [if_pos rfl] at H; exact H
            clear H
            have H := H1
            clear H1
            by_cases c23 : ((rd_T25 l0 x14_2).f3) ≥ (wrap64 ((wrap64 (x12_1 - 1)) + a4))
            ·rw [if_pos c23] at H
             have c23b0 : decide ((wrap64 ((wrap64 (x12_1 - 1)) + a4)) ≤ ((rd_T25 l0 x14_2).f3)) = true := decide_eq_true c23
             clear c23
             (first | rw [c23b0] | (simp only [i64_w, i32_w]; rw [c23b0]) | skip)
             obtain ⟨ji24, hji24⟩ : ∃ j_ : Int, (wrap64 (x12_1 - 1)) = j_ := ⟨_, rfl⟩
             replace H : (if 0 ≤ (ji24) then (if (ji24) < (x11_1.length : Int) then (if 0 ≤ ((rd_T25 l0 x14_2).f1) then (if ((rd_T25 l0 x14_2).f1) < ((rd_L4 x11_1 (ji24)).length : Int) then (spec_l05Reach.j2 k2 l0 a2 a3 a4 x11_1 x12_1 x13_2 x14_2 (rdOf false (rd_L4 x11_1 (ji24)) ((rd_T25 l0 x14_2).f1)) ((rd_T25 l0 x14_2).f0) ((rd_T25 l0 x14_2).f1) ((rd_T25 l0 x14_2).f2) ((rd_T25 l0 x14_2).f3) ((rd_T25 l0 x14_2).f4) ((rd_T25 l0 x14_2).f5) ((rd_T25 l0 x14_2).f6)) else (none)) else (none)) else (none)) else (none)) = some r := by first | (rw [hji24] at H; exact H) | (simp only [hji24] at H ⊢; exact H)
             (try rw [hji24] at c23b0)
             (try rw [hji24] at A21)
             have hji24w : (IntKind.i64.wrap (x12_1 - 1)) = ji24 := (i64_w _).trans hji24
             by_cases c25 : 0 ≤ (ji24)
             ·rw [if_pos c25] at H
              have c25b0 : decide (0 ≤ (ji24)) = true := decide_eq_true c25
              clear c25
              by_cases c26 : (ji24) < (x11_1.length : Int)
              ·rw [if_pos c26] at H
               have c26b0 : decide ((ji24) < (x11_1.length : Int)) = true := decide_eq_true c26
               clear c26
               by_cases c27 : 0 ≤ ((rd_T25 l0 x14_2).f1)
               ·rw [if_pos c27] at H
                have c27b0 : decide (0 ≤ ((rd_T25 l0 x14_2).f1)) = true := decide_eq_true c27
                clear c27
                by_cases c28 : ((rd_T25 l0 x14_2).f1) < ((rd_L4 x11_1 (ji24)).length : Int)
                ·rw [if_pos c28] at H
                 have c28b0 : decide (((rd_T25 l0 x14_2).f1) < ((rd_L4 x11_1 (ji24)).length : Int)) = true := decide_eq_true c28
                 clear c28
                 have H' := aM H
                 clear H
                 try go_wp2
                 have n0_ : Aside0 (Kd.N (Kd.slice 4 Kd.bool) 71 (((((((w19.setCell ⟨gb183, 0, none⟩ (.int .i64 ((rd_T25 l0 x14_2).f0))).setCell ⟨gb183, 1, none⟩ (.int .i64 ((rd_T25 l0 x14_2).f1))).setCell ⟨gb183, 2, none⟩ (.int .i64 ((rd_T25 l0 x14_2).f2))).setCell ⟨gb183, 3, none⟩ (.int .i64 ((rd_T25 l0 x14_2).f3))).setCell ⟨gb183, 4, none⟩ (.int .i64 ((rd_T25 l0 x14_2).f4))).setCell ⟨gb183, 5, none⟩ (.int .i64 ((rd_T25 l0 x14_2).f5))).setCell ⟨gb183, 6, none⟩ (.bool ((rd_T25 l0 x14_2).f6))) w.heap.size (fun k_ => (w.heap.size ≤ k_) ∧ some k_ ≠ (v177 : Value).ownBlock ∧ k_ ≠ gb183) (.slice A11_ x11_1.length c11_) x11_1) := ⟨by (with_reducible repeat (first | apply Kd.N_alloc | apply Kd.N_drewN | apply Kd.N_drew)); exact Kd.N_mono (Kd.N_far (p := ⟨gb183, 6, none⟩) (Kd.N_far (p := ⟨gb183, 5, none⟩) (Kd.N_far (p := ⟨gb183, 4, none⟩) (Kd.N_far (p := ⟨gb183, 3, none⟩) (Kd.N_far (p := ⟨gb183, 2, none⟩) (Kd.N_far (p := ⟨gb183, 1, none⟩) (Kd.N_far (p := ⟨gb183, 0, none⟩) (Kd.N_mono HO_11.out (fun k_ hk => (⟨hk, hk.2⟩ : _ ∧ k_ ≠ gb183))) (fun _ hk => hk.2) (.int .i64 ((rd_T25 l0 x14_2).f0))) (fun _ hk => hk.2) (.int .i64 ((rd_T25 l0 x14_2).f1))) (fun _ hk => hk.2) (.int .i64 ((rd_T25 l0 x14_2).f2))) (fun _ hk => hk.2) (.int .i64 ((rd_T25 l0 x14_2).f3))) (fun _ hk => hk.2) (.int .i64 ((rd_T25 l0 x14_2).f4))) (fun _ hk => hk.2) (.int .i64 ((rd_T25 l0 x14_2).f5))) (fun _ hk => hk.2) (.bool ((rd_T25 l0 x14_2).f6))) (fun _ hk => ⟨hk.1.1.1, ⟨hk.1.1.2, hk.1.2⟩⟩)⟩
                 have n1_ : Aside0 (Kd.R Kd.bool 4 (((((((w19.setCell ⟨gb183, 0, none⟩ (.int .i64 ((rd_T25 l0 x14_2).f0))).setCell ⟨gb183, 1, none⟩ (.int .i64 ((rd_T25 l0 x14_2).f1))).setCell ⟨gb183, 2, none⟩ (.int .i64 ((rd_T25 l0 x14_2).f2))).setCell ⟨gb183, 3, none⟩ (.int .i64 ((rd_T25 l0 x14_2).f3))).setCell ⟨gb183, 4, none⟩ (.int .i64 ((rd_T25 l0 x14_2).f4))).setCell ⟨gb183, 5, none⟩ (.int .i64 ((rd_T25 l0 x14_2).f5))).setCell ⟨gb183, 6, none⟩ (.bool ((rd_T25 l0 x14_2).f6))) w.heap.size (fun k_ => (w.heap.size ≤ k_)) v177 x13_2) := ⟨by (with_reducible repeat (first | apply Kd.R_alloc | apply Kd.R_drewN | apply Kd.R_drew)); exact Kd.R_mono (Kd.R_far (p := ⟨gb183, 6, none⟩) (Kd.R_far (p := ⟨gb183, 5, none⟩) (Kd.R_far (p := ⟨gb183, 4, none⟩) (Kd.R_far (p := ⟨gb183, 3, none⟩) (Kd.R_far (p := ⟨gb183, 2, none⟩) (Kd.R_far (p := ⟨gb183, 1, none⟩) (Kd.R_far (p := ⟨gb183, 0, none⟩) (Kd.R_types HO_13.out BK183.out (by decide)) (fun _ hk => hk.2) (.int .i64 ((rd_T25 l0 x14_2).f0))) (fun _ hk => hk.2) (.int .i64 ((rd_T25 l0 x14_2).f1))) (fun _ hk => hk.2) (.int .i64 ((rd_T25 l0 x14_2).f2))) (fun _ hk => hk.2) (.int .i64 ((rd_T25 l0 x14_2).f3))) (fun _ hk => hk.2) (.int .i64 ((rd_T25 l0 x14_2).f4))) (fun _ hk => hk.2) (.int .i64 ((rd_T25 l0 x14_2).f5))) (fun _ hk => hk.2) (.bool ((rd_T25 l0 x14_2).f6))) (fun _ hk => hk.1)⟩
                 have n2_ : Aside0 ((((((((w19.setCell ⟨gb183, 0, none⟩ (.int .i64 ((rd_T25 l0 x14_2).f0))).setCell ⟨gb183, 1, none⟩ (.int .i64 ((rd_T25 l0 x14_2).f1))).setCell ⟨gb183, 2, none⟩ (.int .i64 ((rd_T25 l0 x14_2).f2))).setCell ⟨gb183, 3, none⟩ (.int .i64 ((rd_T25 l0 x14_2).f3))).setCell ⟨gb183, 4, none⟩ (.int .i64 ((rd_T25 l0 x14_2).f4))).setCell ⟨gb183, 5, none⟩ (.int .i64 ((rd_T25 l0 x14_2).f5))).setCell ⟨gb183, 6, none⟩ (.bool ((rd_T25 l0 x14_2).f6))).heap[gb183]? = some (.cells #[.int .i64 ((rd_T25 l0 x14_2).f0), .int .i64 ((rd_T25 l0 x14_2).f1), .int .i64 ((rd_T25 l0 x14_2).f2), .int .i64 ((rd_T25 l0 x14_2).f3), .int .i64 ((rd_T25 l0 x14_2).f4), .int .i64 ((rd_T25 l0 x14_2).f5), .bool ((rd_T25 l0 x14_2).f6)] 25 (0, 0))) := ⟨by (with_reducible repeat (first | refine bN ?_ _ | refine bD ?_ | refine bA ?_ _)); refine blk_put (cs := #[.int .i64 ((rd_T25 l0 x14_2).f0), .int .i64 ((rd_T25 l0 x14_2).f1), .int .i64 ((rd_T25 l0 x14_2).f2), .int .i64 ((rd_T25 l0 x14_2).f3), .int .i64 ((rd_T25 l0 x14_2).f4), .int .i64 ((rd_T25 l0 x14_2).f5), .bool false]) ?_ 6 _ rfl; (with_reducible repeat (first | refine bN ?_ _ | refine bD ?_ | refine bA ?_ _)); refine blk_put (cs := #[.int .i64 ((rd_T25 l0 x14_2).f0), .int .i64 ((rd_T25 l0 x14_2).f1), .int .i64 ((rd_T25 l0 x14_2).f2), .int .i64 ((rd_T25 l0 x14_2).f3), .int .i64 ((rd_T25 l0 x14_2).f4), .int .i64 0, .bool false]) ?_ 5 _ rfl; (with_reducible repeat (first | refine bN ?_ _ | refine bD ?_ | refine bA ?_ _)); refine blk_put (cs := #[.int .i64 ((rd_T25 l0 x14_2).f0), .int .i64 ((rd_T25 l0 x14_2).f1), .int .i64 ((rd_T25 l0 x14_2).f2), .int .i64 ((rd_T25 l0 x14_2).f3), .int .i64 0, .int .i64 0, .bool false]) ?_ 4 _ rfl; (with_reducible repeat (first | refine bN ?_ _ | refine bD ?_ | refine bA ?_ _)); refine blk_put (cs := #[.int .i64 ((rd_T25 l0 x14_2).f0), .int .i64 ((rd_T25 l0 x14_2).f1), .int .i64 ((rd_T25 l0 x14_2).f2), .int .i64 0, .int .i64 0, .int .i64 0, .bool false]) ?_ 3 _ rfl; (with_reducible repeat (first | refine bN ?_ _ | refine bD ?_ | refine bA ?_ _)); refine blk_put (cs := #[.int .i64 ((rd_T25 l0 x14_2).f0), .int .i64 ((rd_T25 l0 x14_2).f1), .int .i64 0, .int .i64 0, .int .i64 0, .int .i64 0, .bool false]) ?_ 2 _ rfl; (with_reducible repeat (first | refine bN ?_ _ | refine bD ?_ | refine bA ?_ _)); refine blk_put (cs := #[.int .i64 ((rd_T25 l0 x14_2).f0), .int .i64 0, .int .i64 0, .int .i64 0, .int .i64 0, .int .i64 0, .bool false]) ?_ 1 _ rfl; (with_reducible repeat (first | refine bN ?_ _ | refine bD ?_ | refine bA ?_ _)); refine blk_put (cs := #[.int .i64 0, .int .i64 0, .int .i64 0, .int .i64 0, .int .i64 0, .int .i64 0, .bool false]) ?_ 0 _ rfl; (with_reducible repeat (first | refine bN ?_ _ | refine bD ?_ | refine bA ?_ _)); exact BK183.out⟩
                 have n3_ : Aside0 (Below w.heap.size w (((((((w19.setCell ⟨gb183, 0, none⟩ (.int .i64 ((rd_T25 l0 x14_2).f0))).setCell ⟨gb183, 1, none⟩ (.int .i64 ((rd_T25 l0 x14_2).f1))).setCell ⟨gb183, 2, none⟩ (.int .i64 ((rd_T25 l0 x14_2).f2))).setCell ⟨gb183, 3, none⟩ (.int .i64 ((rd_T25 l0 x14_2).f3))).setCell ⟨gb183, 4, none⟩ (.int .i64 ((rd_T25 l0 x14_2).f4))).setCell ⟨gb183, 5, none⟩ (.int .i64 ((rd_T25 l0 x14_2).f5))).setCell ⟨gb183, 6, none⟩ (.bool ((rd_T25 l0 x14_2).f6)))) := ⟨by repeat (first | (with_reducible first | exact HB.out | apply eA | apply eN | apply eD | refine eS ?_ GE183.out) | exact HB.out)⟩
                 (try clear HO_11)
                 (try clear HO_13)
                 (try clear BK183)
                 (try clear HB)
                 generalize (((((((w19.setCell ⟨gb183, 0, none⟩ (.int .i64 ((rd_T25 l0 x14_2).f0))).setCell ⟨gb183, 1, none⟩ (.int .i64 ((rd_T25 l0 x14_2).f1))).setCell ⟨gb183, 2, none⟩ (.int .i64 ((rd_T25 l0 x14_2).f2))).setCell ⟨gb183, 3, none⟩ (.int .i64 ((rd_T25 l0 x14_2).f3))).setCell ⟨gb183, 4, none⟩ (.int .i64 ((rd_T25 l0 x14_2).f4))).setCell ⟨gb183, 5, none⟩ (.int .i64 ((rd_T25 l0 x14_2).f5))).setCell ⟨gb183, 6, none⟩ (.bool ((rd_T25 l0 x14_2).f6))) = w29 at n0_ n1_ n2_ n3_ ⊢
                 have HO_11 := n0_
                 have HO_13 := n1_
                 have BK183 := n2_
                 have HB := n3_
                 clear n0_ n1_ n2_ n3_
                 have n0_ := aM (Kd.N_drew HO_11.out)
                 have n1_ := aM (Kd.R_drew HO_13.out)
                 have n2_ := aM (blk_drew BK183.out)
                 have n3_ := aM (below_drew1 HB.out)
                 clear HO_11
                 clear HO_13
                 clear BK183
                 clear HB
                 have HO_11 := n0_
                 have HO_13 := n1_
                 have BK183 := n2_
                 have HB := n3_
                 clear n0_ n1_ n2_ n3_
                 have p185 : 0 ≤ ((ji24) : Int) := of_decide_eq_true (by first | (with_reducible assumption) | assumption)
                 have q185 : (ji24) < (x11_1.length : Int) := of_decide_eq_true (by first | (with_reducible assumption) | assumption)
                 obtain ⟨ad185, A185_0, c185_0, e185, hx185_0, hl185_0, hi185_0⟩ := at_L4 (Kd.N_reads' HO_11.out).2.2 (ji24) p185 q185
                 cases e185
                 obtain ⟨ce185, hce185, hMe185, hcc185⟩ := Kd.N_get HO_11.out [] (ji24) p185 (by first | exact q185 | exact of_decide_eq_true (by first | (with_reducible assumption) | assumption) | (have e_ := (Kd.N_reads' HO_11.out).1; omega))
                 obtain ⟨ua185_0, uc185_0, rfl, ul185_0, ge185_0⟩ := Kd.FK_slice_open hMe185
                 have hv185_0 := hcc185 0 _ rfl
                 rw [Nat.add_zero, show ((Kd.slice 4 Kd.bool)).sz = 1 from rfl, Nat.mul_one] at hv185_0
                 replace hv185_0 := Option.some.inj (hv185_0.symm.trans hx185_0)
                 injection hv185_0 with hva_ hvn_ hvc_
                 rw [hva_] at ge185_0
                 rw [hvc_] at ul185_0
                 have HL185_0 := aM (show Kd.V Kd.bool 4 _ w.heap.size _ _ (rd_L4 x11_1 (ji24)) from Kd.V_mk ul185_0 ge185_0)
                 clear hva_ hvn_ hvc_ ge185_0 ul185_0
                 clear hcc185 hce185
                 have HR185_0 := aM hi185_0
                 have HC185_0 := aM hl185_0
                 clear hi185_0 hl185_0
                 replace p185 := eq_true p185
                 replace q185 := eq_true q185
                 have p186 : 0 ≤ (((rd_T25 l0 x14_2).f1) : Int) := of_decide_eq_true (by first | (with_reducible assumption) | assumption)
                 have q186 : ((rd_T25 l0 x14_2).f1) < ((rd_L4 x11_1 (ji24)).length : Int) := of_decide_eq_true (by first | (with_reducible assumption) | assumption)
                 obtain ⟨ad186, e186, hx186_0⟩ := Kd.at_bool (by repeat (first | (with_reducible exact HR185_0.out) | (with_reducible refine Kd.C_alloc ?_ _) | (with_reducible refine Kd.C_drewN ?_ _) | (with_reducible refine Kd.C_drew ?_) | exact HR185_0.out)) ((rd_T25 l0 x14_2).f1) p186 q186
                 cases e186
                 replace p186 := eq_true p186
                 replace q186 := eq_true q186
                 refine start_ (n := 24) (S := fun w' => w'.cell? ⟨gb183, 0, none⟩ = some (.int .i64 ((rd_T25 l0 x14_2).f0)) ∧ w'.cell? ⟨gb183, 1, none⟩ = some (.int .i64 ((rd_T25 l0 x14_2).f1)) ∧ w'.cell? ⟨gb183, 2, none⟩ = some (.int .i64 ((rd_T25 l0 x14_2).f2)) ∧ w'.cell? ⟨gb183, 3, none⟩ = some (.int .i64 ((rd_T25 l0 x14_2).f3)) ∧ w'.cell? ⟨gb183, 4, none⟩ = some (.int .i64 ((rd_T25 l0 x14_2).f4)) ∧ w'.cell? ⟨gb183, 5, none⟩ = some (.int .i64 ((rd_T25 l0 x14_2).f5)) ∧ w'.cell? ⟨gb183, 6, none⟩ = some (.bool ((rd_T25 l0 x14_2).f6)) ∧ w'.cell? (ad185.add ((ji24)).toNat) = some (.slice (some ad186) (rd_L4 x11_1 (ji24)).length c185_0) ∧ w'.cell? (ad186.add (((rd_T25 l0 x14_2).f1)).toNat) = some (.bool (rdOf false (rd_L4 x11_1 (ji24)) ((rd_T25 l0 x14_2).f1)))) (ds := []) #[false, false, false, false, false, false, false, false, false, false, false, false, false, false, false, false, false, false, false, false, false, false, false, false] (by kernel_rfl) rfl rfl ⟨(blk_cell BK183.out 0).trans rfl, (blk_cell BK183.out 1).trans rfl, (blk_cell BK183.out 2).trans rfl, (blk_cell BK183.out 3).trans rfl, (blk_cell BK183.out 4).trans rfl, (blk_cell BK183.out 5).trans rfl, (blk_cell BK183.out 6).trans rfl, hx185_0, hx186_0⟩ (fun hHeld => ?_); refine with_tabW spec_l05Reach.tab11 spec_l05Reach.bits11 (fun HT_ HW_ => ?_)
                 generalize w29.drew = w30 at HO_11 HO_13 BK183 HB HL185_0 HR185_0 hx185_0 hx186_0 hHeld ⊢
                 refine pure_ (i := 1) (N := some 39) (v := ?_) (a' := ?_) #[false, true, false, false, false, false, false, false, false, false, false, false, false, false, false, false, false, false, false, false, false, false, false, false] rfl rfl (any_of HT_.out (by kernel_rfl)) (fun _ _ _ h => h) (Or.inl ⟨by rfl, ?_⟩) ?_ ?_
                 rotate_left
                 ·intro w'
                  go_simp
                  with_reducible rfl
                 rotate_left
                 ·simp only [Act.put, List.setIfInBounds_toArray, List.set_cons_zero, List.set_cons_succ, i64_w, i32_w]
                  rfl
                 refine pure_ (i := 2) (N := some 40) (v := ?_) (a' := ?_) #[false, true, true, false, false, false, false, false, false, false, false, false, false, false, false, false, false, false, false, false, false, false, false, false] rfl rfl (any_of HT_.out (by kernel_rfl)) (fun _ _ _ h => h) (Or.inl ⟨by rfl, ?_⟩) ?_ ?_
                 rotate_left
                 ·intro w'
                  go_simp
                  with_reducible rfl
                 rotate_left
                 ·simp only [Act.put, List.setIfInBounds_toArray, List.set_cons_zero, List.set_cons_succ, i64_w, i32_w]
                  rfl
                 refine take_ (i := 0) (N := some 38) (v := ?_) (a' := ?_) #[true, true, true, false, false, false, false, false, false, false, false, false, false, false, false, false, false, false, false, false, false, false, false, false] rfl rfl (take_ofW HT_.out HW_.out (by kernel_rfl)) (fun _ _ _ h => h) (Or.inl ⟨by rfl, ?_⟩) hHeld ?_ ?_
                 rotate_left
                 ·rintro w' ⟨s0, s1, s2, s3, s4, s5, s6, s7, s8⟩
                  go_simp
                  with_reducible rfl
                 rotate_left
                 ·simp only [Act.put, List.setIfInBounds_toArray, List.set_cons_zero, List.set_cons_succ, i64_w, i32_w]
                  rfl
                 refine one_ (i := 3) (N := some 41) #[true, true, true, true, false, false, false, false, false, false, false, false, false, false, false, false, false, false, false, false, false, false, false, false] rfl rfl (one_of HT_.out (by kernel_rfl)) (by decide) (fun K hK => ?_)
                 refine goes_ Try.func21 (by kernel_rfl) rfl #[.agg #[.int .i64 ((rd_T25 l0 x14_2).f0), .int .i64 ((rd_T25 l0 x14_2).f1), .int .i64 ((rd_T25 l0 x14_2).f2), .int .i64 ((rd_T25 l0 x14_2).f3), .int .i64 ((rd_T25 l0 x14_2).f4), .int .i64 ((rd_T25 l0 x14_2).f5), .bool ((rd_T25 l0 x14_2).f6)], .int .i64 a2, .int .i64 a3] (by rfl) rfl rfl (by (try simp only [List.map_toArray, List.map_cons, List.map_nil]); first | done | rfl | (simp only [List.length_drop, List.length_take]; rfl)) ?_
                 with_reducible refine (spec_Applies.calls ((rd_T25 l0 x14_2).f0) ((rd_T25 l0 x14_2).f1) ((rd_T25 l0 x14_2).f2) ((rd_T25 l0 x14_2).f3) ((rd_T25 l0 x14_2).f4) ((rd_T25 l0 x14_2).f5) ((rd_T25 l0 x14_2).f6) a2 a3 true _ A21.out).mono ?_
                 rintro e w31 ⟨rfl, hb⟩
                 have HS7_ := (hb.cell (World.block_lt_of_cell? _ _ (hHeld.2.2.2.2.2.2.2.1))).trans (hHeld.2.2.2.2.2.2.2.1)
                 have HS8_ := (hb.cell (World.block_lt_of_cell? _ _ (hHeld.2.2.2.2.2.2.2.2))).trans (hHeld.2.2.2.2.2.2.2.2)
                 refine ⟨_, rfl, ?_⟩
                 have n0_ := aM (Kd.N_below (by (with_reducible repeat (first | apply Kd.N_alloc | apply Kd.N_drewN | apply Kd.N_drew)); exact HO_11.out) hb)
                 have n1_ := aM (Kd.R_below (by (with_reducible repeat (first | apply Kd.R_alloc | apply Kd.R_drewN | apply Kd.R_drew)); exact HO_13.out) hb)
                 have n2_ := aM (blk_below (g := gb183) (o := .cells #[.int .i64 ((rd_T25 l0 x14_2).f0), .int .i64 ((rd_T25 l0 x14_2).f1), .int .i64 ((rd_T25 l0 x14_2).f2), .int .i64 ((rd_T25 l0 x14_2).f3), .int .i64 ((rd_T25 l0 x14_2).f4), .int .i64 ((rd_T25 l0 x14_2).f5), .bool ((rd_T25 l0 x14_2).f6)] 25 (0, 0)) (by exact pk BK183.out) hb)
                 have n3_ := aM (below_step (by repeat (first | (with_reducible first | exact HB.out | apply eA | apply eN | apply eD | refine eS ?_ GE183.out) | exact HB.out)) hb)
                 clear HO_11
                 clear HO_13
                 clear BK183
                 clear HB
                 have HO_11 := n0_
                 have HO_13 := n1_
                 have BK183 := n2_
                 have HB := n3_
                 clear n0_ n1_ n2_ n3_
                 (try clear hb)
                 (try clear hb2)
                 (try clear hk)
                 (try clear hi)
                 obtain ⟨Ao32, co32, eo32⟩ := Kd.N_slice HO_11.out
                 (first | subst eo32 | (injection eo32 with f1_ f2_ f3_; have f4_ := f1_.symm; have f5_ := f3_.symm; clear f1_ f2_ f3_; subst f4_; subst f5_))
                 refine hK.out _ _ ⟨(blk_cell BK183.out 0).trans rfl, (blk_cell BK183.out 1).trans rfl, (blk_cell BK183.out 2).trans rfl, (blk_cell BK183.out 3).trans rfl, (blk_cell BK183.out 4).trans rfl, (blk_cell BK183.out 5).trans rfl, (blk_cell BK183.out 6).trans rfl, HS7_, HS8_⟩ (fun hHeld => ?_)
                 clear hK K
                 refine norm_ (a' := ?_) ?_ ?_
                 rotate_left
                 ·show Act.put _ (some 41) _ = _
                  simp only [Act.put, List.setIfInBounds_toArray, List.set_cons_zero, List.set_cons_succ, i64_w, i32_w]
                  rfl
                 refine pure_ (i := 4) (N := some 42) (v := ?_) (a' := ?_) #[true, true, true, true, true, false, false, false, false, false, false, false, false, false, false, false, false, false, false, false, false, false, false, false] rfl rfl (any_of HT_.out (by kernel_rfl)) (fun _ _ _ h => h) (Or.inl ⟨by rfl, ?_⟩) ?_ ?_
                 rotate_left
                 ·intro w'
                  go_simp
                  with_reducible rfl
                 rotate_left
                 ·simp only [Act.put, List.setIfInBounds_toArray, List.set_cons_zero, List.set_cons_succ, i64_w, i32_w]
                  rfl
                 refine pure_ (i := 5) (N := some 43) (v := ?_) (a' := ?_) #[true, true, true, true, true, true, false, false, false, false, false, false, false, false, false, false, false, false, false, false, false, false, false, false] rfl rfl (any_of HT_.out (by kernel_rfl)) (fun _ _ _ h => h) (Or.inl ⟨by rfl, ?_⟩) ?_ ?_
                 rotate_left
                 ·intro w'
                  go_simp
                  with_reducible rfl
                 rotate_left
                 ·simp only [Act.put, List.setIfInBounds_toArray, List.set_cons_zero, List.set_cons_succ, i64_w, i32_w]
                  rfl
                 refine pure_ (i := 7) (N := some 45) (v := ?_) (a' := ?_) #[true, true, true, true, true, true, false, true, false, false, false, false, false, false, false, false, false, false, false, false, false, false, false, false] rfl rfl (any_of HT_.out (by kernel_rfl)) (fun _ _ _ h => h) (Or.inl ⟨by rfl, ?_⟩) ?_ ?_
                 rotate_left
                 ·intro w'
                  go_simp
                  with_reducible rfl
                 rotate_left
                 ·simp only [Act.put, List.setIfInBounds_toArray, List.set_cons_zero, List.set_cons_succ, i64_w, i32_w]
                  rfl
                 refine pure_ (i := 8) (N := some 46) (v := ?_) (a' := ?_) #[true, true, true, true, true, true, false, true, true, false, false, false, false, false, false, false, false, false, false, false, false, false, false, false] rfl rfl (any_of HT_.out (by kernel_rfl)) (fun _ _ _ h => h) (Or.inl ⟨by rfl, ?_⟩) ?_ ?_
                 rotate_left
                 ·intro w'
                  go_simp
                  with_reducible rfl
                 rotate_left
                 ·simp only [Act.put, List.setIfInBounds_toArray, List.set_cons_zero, List.set_cons_succ, i64_w, i32_w]
                  rfl
                 refine pure_ (i := 9) (N := some 47) (v := ?_) (a' := ?_) #[true, true, true, true, true, true, false, true, true, true, false, false, false, false, false, false, false, false, false, false, false, false, false, false] rfl rfl (any_of HT_.out (by kernel_rfl)) (fun _ _ _ h => h) (Or.inl ⟨by rfl, ?_⟩) ?_ ?_
                 rotate_left
                 ·intro w'
                  go_simp
                  with_reducible rfl
                 rotate_left
                 ·simp only [Act.put, List.setIfInBounds_toArray, List.set_cons_zero, List.set_cons_succ, i64_w, i32_w]
                  rfl
                 refine pure_ (i := 10) (N := some 48) (v := ?_) (a' := ?_) #[true, true, true, true, true, true, false, true, true, true, true, false, false, false, false, false, false, false, false, false, false, false, false, false] rfl rfl (any_of HT_.out (by kernel_rfl)) (fun _ _ _ h => h) (Or.inl ⟨by rfl, ?_⟩) ?_ ?_
                 rotate_left
                 ·intro w'
                  go_simp
                  with_reducible rfl
                 rotate_left
                 ·simp only [Act.put, List.setIfInBounds_toArray, List.set_cons_zero, List.set_cons_succ, i64_w, i32_w]
                  rfl
                 refine take_ (i := 6) (N := some 44) (v := ?_) (a' := ?_) #[true, true, true, true, true, true, true, true, true, true, true, false, false, false, false, false, false, false, false, false, false, false, false, false] rfl rfl (take_ofW HT_.out HW_.out (by kernel_rfl)) (fun _ _ _ h => h) (Or.inl ⟨by rfl, ?_⟩) hHeld ?_ ?_
                 rotate_left
                 ·rintro w' ⟨s0, s1, s2, s3, s4, s5, s6, s7, s8⟩
                  go_simp
                  with_reducible rfl
                 rotate_left
                 ·simp only [Act.put, List.setIfInBounds_toArray, List.set_cons_zero, List.set_cons_succ, i64_w, i32_w]
                  rfl
                 refine pure_ (i := 11) (N := some 49) (v := ?_) (a' := ?_) #[true, true, true, true, true, true, true, true, true, true, true, true, false, false, false, false, false, false, false, false, false, false, false, false] rfl rfl (any_of HT_.out (by kernel_rfl)) (fun _ _ _ h => h) (Or.inl ⟨by rfl, ?_⟩) ?_ ?_
                 rotate_left
                 ·intro w'
                  go_simp
                  with_reducible rfl
                 rotate_left
                 ·simp only [Act.put, List.setIfInBounds_toArray, List.set_cons_zero, List.set_cons_succ, i64_w, i32_w]
                  rfl
                 refine pure_ (i := 12) (N := some 50) (v := ?_) (a' := ?_) #[true, true, true, true, true, true, true, true, true, true, true, true, true, false, false, false, false, false, false, false, false, false, false, false] rfl rfl (any_of HT_.out (by kernel_rfl)) (fun _ _ _ h => h) (Or.inl ⟨by rfl, ?_⟩) ?_ ?_
                 rotate_left
                 ·intro w'
                  go_simp
                  with_reducible rfl
                 rotate_left
                 ·simp only [Act.put, List.setIfInBounds_toArray, List.set_cons_zero, List.set_cons_succ, i64_w, i32_w]
                  rfl
                 refine pure_ (i := 13) (N := some 51) (v := ?_) (a' := ?_) #[true, true, true, true, true, true, true, true, true, true, true, true, true, true, false, false, false, false, false, false, false, false, false, false] rfl rfl (any_of HT_.out (by kernel_rfl)) (fun _ _ _ h => h) (Or.inl ⟨by rfl, ?_⟩) ?_ ?_
                 rotate_left
                 ·intro w'
                  go_simp
                  with_reducible rfl
                 rotate_left
                 ·simp only [Act.put, List.setIfInBounds_toArray, List.set_cons_zero, List.set_cons_succ, i64_w, i32_w]
                  rfl
                 refine pure_ (i := 14) (N := some 52) (v := ?_) (a' := ?_) #[true, true, true, true, true, true, true, true, true, true, true, true, true, true, true, false, false, false, false, false, false, false, false, false] rfl rfl (any_of HT_.out (by kernel_rfl)) (fun _ _ _ h => h) (Or.inl ⟨by rfl, ?_⟩) ?_ ?_
                 rotate_left
                 ·intro w'
                  go_simp
                  with_reducible rfl
                 rotate_left
                 ·simp only [Act.put, List.setIfInBounds_toArray, List.set_cons_zero, List.set_cons_succ, i64_w, i32_w]
                  rfl
                 refine pure_ (i := 15) (N := some 53) (v := ?_) (a' := ?_) #[true, true, true, true, true, true, true, true, true, true, true, true, true, true, true, true, false, false, false, false, false, false, false, false] rfl rfl (any_of HT_.out (by kernel_rfl)) (fun _ _ _ h => h) (Or.inl ⟨by rfl, ?_⟩) ?_ ?_
                 rotate_left
                 ·intro w'
                  go_simp
                  with_reducible rfl
                 rotate_left
                 ·simp only [Act.put, List.setIfInBounds_toArray, List.set_cons_zero, List.set_cons_succ, i64_w, i32_w]
                  rfl
                 refine pure_ (i := 16) (N := some 54) (v := ?_) (a' := ?_) #[true, true, true, true, true, true, true, true, true, true, true, true, true, true, true, true, true, false, false, false, false, false, false, false] rfl rfl (any_of HT_.out (by kernel_rfl)) (fun _ _ _ h => h) (Or.inl ⟨by rfl, ?_⟩) ?_ ?_
                 rotate_left
                 ·intro w'
                  go_simp
                  with_reducible rfl
                 rotate_left
                 ·simp only [Act.put, List.setIfInBounds_toArray, List.set_cons_zero, List.set_cons_succ, i64_w, i32_w]
                  rfl
                 refine pure_ (i := 17) (N := some 55) (v := ?_) (a' := ?_) #[true, true, true, true, true, true, true, true, true, true, true, true, true, true, true, true, true, true, false, false, false, false, false, false] rfl rfl (any_of HT_.out (by kernel_rfl)) (fun _ _ _ h => h) (Or.inl ⟨by rfl, ?_⟩) ?_ ?_
                 rotate_left
                 ·intro w'
                  go_simp
                  with_reducible rfl
                 rotate_left
                 ·simp only [Act.put, List.setIfInBounds_toArray, List.set_cons_zero, List.set_cons_succ, i64_w, i32_w]
                  rfl
                 refine pure_ (i := 19) (N := some 57) (v := ?_) (a' := ?_) #[true, true, true, true, true, true, true, true, true, true, true, true, true, true, true, true, true, true, false, true, false, false, false, false] rfl rfl (any_of HT_.out (by kernel_rfl)) (fun _ _ _ h => h) (Or.inl ⟨by rfl, ?_⟩) ?_ ?_
                 rotate_left
                 ·intro w'
                  go_simp
                  with_reducible rfl
                 rotate_left
                 ·simp only [Act.put, List.setIfInBounds_toArray, List.set_cons_zero, List.set_cons_succ, i64_w, i32_w]
                  rfl
                 refine take_ (i := 18) (N := some 56) (v := ?_) (a' := ?_) #[true, true, true, true, true, true, true, true, true, true, true, true, true, true, true, true, true, true, true, true, false, false, false, false] rfl rfl (take_ofW HT_.out HW_.out (by kernel_rfl)) (fun _ _ _ h => h) (Or.inl ⟨by rfl, ?_⟩) hHeld ?_ ?_
                 rotate_left
                 ·rintro w' ⟨s0, s1, s2, s3, s4, s5, s6, s7, s8⟩
                  go_simp
                  with_reducible rfl
                 rotate_left
                 ·simp only [Act.put, List.setIfInBounds_toArray, List.set_cons_zero, List.set_cons_succ, i64_w, i32_w]
                  rfl
                 refine take_ (i := 20) (N := some 58) (v := ?_) (a' := ?_) #[true, true, true, true, true, true, true, true, true, true, true, true, true, true, true, true, true, true, true, true, true, false, false, false] rfl rfl (take_ofW HT_.out HW_.out (by kernel_rfl)) (fun _ _ _ h => h) (Or.inl ⟨by rfl, ?_⟩) hHeld ?_ ?_
                 rotate_left
                 ·rintro w' ⟨s0, s1, s2, s3, s4, s5, s6, s7, s8⟩
                  go_simp
                  with_reducible rfl
                 rotate_left
                 ·simp only [Act.put, List.setIfInBounds_toArray, List.set_cons_zero, List.set_cons_succ, i64_w, i32_w]
                  rfl
                 refine pure_ (i := 21) (N := some 59) (v := ?_) (a' := ?_) #[true, true, true, true, true, true, true, true, true, true, true, true, true, true, true, true, true, true, true, true, true, true, false, false] rfl rfl (any_of HT_.out (by kernel_rfl)) (fun _ _ _ h => h) (Or.inl ⟨by rfl, ?_⟩) ?_ ?_
                 rotate_left
                 ·intro w'
                  go_simp
                  with_reducible rfl
                 rotate_left
                 ·simp only [Act.put, List.setIfInBounds_toArray, List.set_cons_zero, List.set_cons_succ, i64_w, i32_w]
                  rfl
                 refine take_ (i := 22) (N := some 60) (v := ?_) (a' := ?_) #[true, true, true, true, true, true, true, true, true, true, true, true, true, true, true, true, true, true, true, true, true, true, true, false] rfl rfl (take_ofW HT_.out HW_.out (by kernel_rfl)) (fun _ _ _ h => h) (Or.inl ⟨by rfl, ?_⟩) hHeld ?_ ?_
                 rotate_left
                 ·rintro w' ⟨s0, s1, s2, s3, s4, s5, s6, s7, s8⟩
                  go_simp
                  with_reducible rfl
                 rotate_left
                 ·simp only [Act.put, List.setIfInBounds_toArray, List.set_cons_zero, List.set_cons_succ, i64_w, i32_w]
                  rfl
                 refine pure_ (i := 23) (N := some 61) (v := ?_) (a' := ?_) #[true, true, true, true, true, true, true, true, true, true, true, true, true, true, true, true, true, true, true, true, true, true, true, true] rfl rfl (any_of HT_.out (by kernel_rfl)) (fun _ _ _ h => h) (Or.inl ⟨by rfl, ?_⟩) ?_ ?_
                 rotate_left
                 ·intro w'
                  go_simp
                  with_reducible rfl
                 rotate_left
                 ·simp only [Act.put, List.setIfInBounds_toArray, List.set_cons_zero, List.set_cons_succ, i64_w, i32_w]
                  rfl
                 refine done_ (done_of HT_.out (by kernel_rfl)) ?_
                 try go_wp2
                 go_meet
                 case rel => exact ⟨_, (rdOf false (rd_L4 x11_1 (ji24)) ((rd_T25 l0 x14_2).f1)), (by first | rfl | (simp; done) | (simp only [← hji24] <;> (first | rfl | simp)) | (simp [*]; done)), H', ⟨by have := HK1.out; have := HK2.out; first | omega | exact Nat.le_refl _⟩, ⟨by (with_reducible repeat (first | apply Kd.N_alloc | apply Kd.N_drewN | apply Kd.N_drew)); exact HO_11.out⟩, ⟨by (with_reducible repeat (first | apply Kd.R_alloc | apply Kd.R_drewN | apply Kd.R_drew)); exact HO_13.out⟩, ⟨by exact pk BK183.out⟩, ⟨by repeat (first | (with_reducible first | exact HB.out | apply eA | apply eN | apply eD | refine eS ?_ GE183.out) | exact HB.out)⟩⟩
                ·rw [if_neg c28] at H
                 exact absurd H (by simp)
               ·rw [if_neg c27] at H
                exact absurd H (by simp)
              ·rw [if_neg c26] at H
               exact absurd H (by simp)
             ·rw [if_neg c25] at H
              exact absurd H (by simp)
            ·rw [if_neg c23] at H
             have c23b0 : decide ((wrap64 ((wrap64 (x12_1 - 1)) + a4)) ≤ ((rd_T25 l0 x14_2).f3)) = false := decide_eq_false c23
             clear c23
             (first | rw [c23b0] | (simp only [i64_w, i32_w]; rw [c23b0]) | skip)
             have H' := aM H
             clear H
             try go_wp2
             have n0_ : Aside0 (Kd.N (Kd.slice 4 Kd.bool) 71 (((((((w19.setCell ⟨gb183, 0, none⟩ (.int .i64 ((rd_T25 l0 x14_2).f0))).setCell ⟨gb183, 1, none⟩ (.int .i64 ((rd_T25 l0 x14_2).f1))).setCell ⟨gb183, 2, none⟩ (.int .i64 ((rd_T25 l0 x14_2).f2))).setCell ⟨gb183, 3, none⟩ (.int .i64 ((rd_T25 l0 x14_2).f3))).setCell ⟨gb183, 4, none⟩ (.int .i64 ((rd_T25 l0 x14_2).f4))).setCell ⟨gb183, 5, none⟩ (.int .i64 ((rd_T25 l0 x14_2).f5))).setCell ⟨gb183, 6, none⟩ (.bool ((rd_T25 l0 x14_2).f6))) w.heap.size (fun k_ => (w.heap.size ≤ k_) ∧ some k_ ≠ (v177 : Value).ownBlock ∧ k_ ≠ gb183) (.slice A11_ x11_1.length c11_) x11_1) := ⟨by (with_reducible repeat (first | apply Kd.N_alloc | apply Kd.N_drewN | apply Kd.N_drew)); exact Kd.N_mono (Kd.N_far (p := ⟨gb183, 6, none⟩) (Kd.N_far (p := ⟨gb183, 5, none⟩) (Kd.N_far (p := ⟨gb183, 4, none⟩) (Kd.N_far (p := ⟨gb183, 3, none⟩) (Kd.N_far (p := ⟨gb183, 2, none⟩) (Kd.N_far (p := ⟨gb183, 1, none⟩) (Kd.N_far (p := ⟨gb183, 0, none⟩) (Kd.N_mono HO_11.out (fun k_ hk => (⟨hk, hk.2⟩ : _ ∧ k_ ≠ gb183))) (fun _ hk => hk.2) (.int .i64 ((rd_T25 l0 x14_2).f0))) (fun _ hk => hk.2) (.int .i64 ((rd_T25 l0 x14_2).f1))) (fun _ hk => hk.2) (.int .i64 ((rd_T25 l0 x14_2).f2))) (fun _ hk => hk.2) (.int .i64 ((rd_T25 l0 x14_2).f3))) (fun _ hk => hk.2) (.int .i64 ((rd_T25 l0 x14_2).f4))) (fun _ hk => hk.2) (.int .i64 ((rd_T25 l0 x14_2).f5))) (fun _ hk => hk.2) (.bool ((rd_T25 l0 x14_2).f6))) (fun _ hk => ⟨hk.1.1.1, ⟨hk.1.1.2, hk.1.2⟩⟩)⟩
             have n1_ : Aside0 (Kd.R Kd.bool 4 (((((((w19.setCell ⟨gb183, 0, none⟩ (.int .i64 ((rd_T25 l0 x14_2).f0))).setCell ⟨gb183, 1, none⟩ (.int .i64 ((rd_T25 l0 x14_2).f1))).setCell ⟨gb183, 2, none⟩ (.int .i64 ((rd_T25 l0 x14_2).f2))).setCell ⟨gb183, 3, none⟩ (.int .i64 ((rd_T25 l0 x14_2).f3))).setCell ⟨gb183, 4, none⟩ (.int .i64 ((rd_T25 l0 x14_2).f4))).setCell ⟨gb183, 5, none⟩ (.int .i64 ((rd_T25 l0 x14_2).f5))).setCell ⟨gb183, 6, none⟩ (.bool ((rd_T25 l0 x14_2).f6))) w.heap.size (fun k_ => (w.heap.size ≤ k_)) v177 x13_2) := ⟨by (with_reducible repeat (first | apply Kd.R_alloc | apply Kd.R_drewN | apply Kd.R_drew)); exact Kd.R_mono (Kd.R_far (p := ⟨gb183, 6, none⟩) (Kd.R_far (p := ⟨gb183, 5, none⟩) (Kd.R_far (p := ⟨gb183, 4, none⟩) (Kd.R_far (p := ⟨gb183, 3, none⟩) (Kd.R_far (p := ⟨gb183, 2, none⟩) (Kd.R_far (p := ⟨gb183, 1, none⟩) (Kd.R_far (p := ⟨gb183, 0, none⟩) (Kd.R_types HO_13.out BK183.out (by decide)) (fun _ hk => hk.2) (.int .i64 ((rd_T25 l0 x14_2).f0))) (fun _ hk => hk.2) (.int .i64 ((rd_T25 l0 x14_2).f1))) (fun _ hk => hk.2) (.int .i64 ((rd_T25 l0 x14_2).f2))) (fun _ hk => hk.2) (.int .i64 ((rd_T25 l0 x14_2).f3))) (fun _ hk => hk.2) (.int .i64 ((rd_T25 l0 x14_2).f4))) (fun _ hk => hk.2) (.int .i64 ((rd_T25 l0 x14_2).f5))) (fun _ hk => hk.2) (.bool ((rd_T25 l0 x14_2).f6))) (fun _ hk => hk.1)⟩
             have n2_ : Aside0 ((((((((w19.setCell ⟨gb183, 0, none⟩ (.int .i64 ((rd_T25 l0 x14_2).f0))).setCell ⟨gb183, 1, none⟩ (.int .i64 ((rd_T25 l0 x14_2).f1))).setCell ⟨gb183, 2, none⟩ (.int .i64 ((rd_T25 l0 x14_2).f2))).setCell ⟨gb183, 3, none⟩ (.int .i64 ((rd_T25 l0 x14_2).f3))).setCell ⟨gb183, 4, none⟩ (.int .i64 ((rd_T25 l0 x14_2).f4))).setCell ⟨gb183, 5, none⟩ (.int .i64 ((rd_T25 l0 x14_2).f5))).setCell ⟨gb183, 6, none⟩ (.bool ((rd_T25 l0 x14_2).f6))).heap[gb183]? = some (.cells #[.int .i64 ((rd_T25 l0 x14_2).f0), .int .i64 ((rd_T25 l0 x14_2).f1), .int .i64 ((rd_T25 l0 x14_2).f2), .int .i64 ((rd_T25 l0 x14_2).f3), .int .i64 ((rd_T25 l0 x14_2).f4), .int .i64 ((rd_T25 l0 x14_2).f5), .bool ((rd_T25 l0 x14_2).f6)] 25 (0, 0))) := ⟨by (with_reducible repeat (first | refine bN ?_ _ | refine bD ?_ | refine bA ?_ _)); refine blk_put (cs := #[.int .i64 ((rd_T25 l0 x14_2).f0), .int .i64 ((rd_T25 l0 x14_2).f1), .int .i64 ((rd_T25 l0 x14_2).f2), .int .i64 ((rd_T25 l0 x14_2).f3), .int .i64 ((rd_T25 l0 x14_2).f4), .int .i64 ((rd_T25 l0 x14_2).f5), .bool false]) ?_ 6 _ rfl; (with_reducible repeat (first | refine bN ?_ _ | refine bD ?_ | refine bA ?_ _)); refine blk_put (cs := #[.int .i64 ((rd_T25 l0 x14_2).f0), .int .i64 ((rd_T25 l0 x14_2).f1), .int .i64 ((rd_T25 l0 x14_2).f2), .int .i64 ((rd_T25 l0 x14_2).f3), .int .i64 ((rd_T25 l0 x14_2).f4), .int .i64 0, .bool false]) ?_ 5 _ rfl; (with_reducible repeat (first | refine bN ?_ _ | refine bD ?_ | refine bA ?_ _)); refine blk_put (cs := #[.int .i64 ((rd_T25 l0 x14_2).f0), .int .i64 ((rd_T25 l0 x14_2).f1), .int .i64 ((rd_T25 l0 x14_2).f2), .int .i64 ((rd_T25 l0 x14_2).f3), .int .i64 0, .int .i64 0, .bool false]) ?_ 4 _ rfl; (with_reducible repeat (first | refine bN ?_ _ | refine bD ?_ | refine bA ?_ _)); refine blk_put (cs := #[.int .i64 ((rd_T25 l0 x14_2).f0), .int .i64 ((rd_T25 l0 x14_2).f1), .int .i64 ((rd_T25 l0 x14_2).f2), .int .i64 0, .int .i64 0, .int .i64 0, .bool false]) ?_ 3 _ rfl; (with_reducible repeat (first | refine bN ?_ _ | refine bD ?_ | refine bA ?_ _)); refine blk_put (cs := #[.int .i64 ((rd_T25 l0 x14_2).f0), .int .i64 ((rd_T25 l0 x14_2).f1), .int .i64 0, .int .i64 0, .int .i64 0, .int .i64 0, .bool false]) ?_ 2 _ rfl; (with_reducible repeat (first | refine bN ?_ _ | refine bD ?_ | refine bA ?_ _)); refine blk_put (cs := #[.int .i64 ((rd_T25 l0 x14_2).f0), .int .i64 0, .int .i64 0, .int .i64 0, .int .i64 0, .int .i64 0, .bool false]) ?_ 1 _ rfl; (with_reducible repeat (first | refine bN ?_ _ | refine bD ?_ | refine bA ?_ _)); refine blk_put (cs := #[.int .i64 0, .int .i64 0, .int .i64 0, .int .i64 0, .int .i64 0, .int .i64 0, .bool false]) ?_ 0 _ rfl; (with_reducible repeat (first | refine bN ?_ _ | refine bD ?_ | refine bA ?_ _)); exact BK183.out⟩
             have n3_ : Aside0 (Below w.heap.size w (((((((w19.setCell ⟨gb183, 0, none⟩ (.int .i64 ((rd_T25 l0 x14_2).f0))).setCell ⟨gb183, 1, none⟩ (.int .i64 ((rd_T25 l0 x14_2).f1))).setCell ⟨gb183, 2, none⟩ (.int .i64 ((rd_T25 l0 x14_2).f2))).setCell ⟨gb183, 3, none⟩ (.int .i64 ((rd_T25 l0 x14_2).f3))).setCell ⟨gb183, 4, none⟩ (.int .i64 ((rd_T25 l0 x14_2).f4))).setCell ⟨gb183, 5, none⟩ (.int .i64 ((rd_T25 l0 x14_2).f5))).setCell ⟨gb183, 6, none⟩ (.bool ((rd_T25 l0 x14_2).f6)))) := ⟨by repeat (first | (with_reducible first | exact HB.out | apply eA | apply eN | apply eD | refine eS ?_ GE183.out) | exact HB.out)⟩
             (try clear HO_11)
             (try clear HO_13)
             (try clear BK183)
             (try clear HB)
             generalize (((((((w19.setCell ⟨gb183, 0, none⟩ (.int .i64 ((rd_T25 l0 x14_2).f0))).setCell ⟨gb183, 1, none⟩ (.int .i64 ((rd_T25 l0 x14_2).f1))).setCell ⟨gb183, 2, none⟩ (.int .i64 ((rd_T25 l0 x14_2).f2))).setCell ⟨gb183, 3, none⟩ (.int .i64 ((rd_T25 l0 x14_2).f3))).setCell ⟨gb183, 4, none⟩ (.int .i64 ((rd_T25 l0 x14_2).f4))).setCell ⟨gb183, 5, none⟩ (.int .i64 ((rd_T25 l0 x14_2).f5))).setCell ⟨gb183, 6, none⟩ (.bool ((rd_T25 l0 x14_2).f6))) = w33 at n0_ n1_ n2_ n3_ ⊢
             have HO_11 := n0_
             have HO_13 := n1_
             have BK183 := n2_
             have HB := n3_
             clear n0_ n1_ n2_ n3_
             have n0_ := aM (Kd.N_drew HO_11.out)
             have n1_ := aM (Kd.R_drew HO_13.out)
             have n2_ := aM (blk_drew BK183.out)
             have n3_ := aM (below_drew1 HB.out)
             clear HO_11
             clear HO_13
             clear BK183
             clear HB
             have HO_11 := n0_
             have HO_13 := n1_
             have BK183 := n2_
             have HB := n3_
             clear n0_ n1_ n2_ n3_
             refine start_ (n := 24) (S := fun w' => w'.cell? ⟨gb183, 0, none⟩ = some (.int .i64 ((rd_T25 l0 x14_2).f0)) ∧ w'.cell? ⟨gb183, 1, none⟩ = some (.int .i64 ((rd_T25 l0 x14_2).f1)) ∧ w'.cell? ⟨gb183, 2, none⟩ = some (.int .i64 ((rd_T25 l0 x14_2).f2)) ∧ w'.cell? ⟨gb183, 3, none⟩ = some (.int .i64 ((rd_T25 l0 x14_2).f3)) ∧ w'.cell? ⟨gb183, 4, none⟩ = some (.int .i64 ((rd_T25 l0 x14_2).f4)) ∧ w'.cell? ⟨gb183, 5, none⟩ = some (.int .i64 ((rd_T25 l0 x14_2).f5)) ∧ w'.cell? ⟨gb183, 6, none⟩ = some (.bool ((rd_T25 l0 x14_2).f6))) (ds := []) #[false, false, false, false, false, false, false, false, false, false, false, false, false, false, false, false, false, false, false, false, false, false, false, false] (by kernel_rfl) rfl rfl ⟨(blk_cell BK183.out 0).trans rfl, (blk_cell BK183.out 1).trans rfl, (blk_cell BK183.out 2).trans rfl, (blk_cell BK183.out 3).trans rfl, (blk_cell BK183.out 4).trans rfl, (blk_cell BK183.out 5).trans rfl, (blk_cell BK183.out 6).trans rfl⟩ (fun hHeld => ?_); refine with_tabW spec_l05Reach.tab11 spec_l05Reach.bits11 (fun HT_ HW_ => ?_)
             generalize w33.drew = w34 at HO_11 HO_13 BK183 HB hHeld ⊢
             refine pure_ (i := 1) (N := some 39) (v := ?_) (a' := ?_) #[false, true, false, false, false, false, false, false, false, false, false, false, false, false, false, false, false, false, false, false, false, false, false, false] rfl rfl (any_of HT_.out (by kernel_rfl)) (fun _ _ _ h => h) (Or.inl ⟨by rfl, ?_⟩) ?_ ?_
             rotate_left
             ·intro w'
              go_simp
              with_reducible rfl
             rotate_left
             ·simp only [Act.put, List.setIfInBounds_toArray, List.set_cons_zero, List.set_cons_succ, i64_w, i32_w]
              rfl
             refine pure_ (i := 2) (N := some 40) (v := ?_) (a' := ?_) #[false, true, true, false, false, false, false, false, false, false, false, false, false, false, false, false, false, false, false, false, false, false, false, false] rfl rfl (any_of HT_.out (by kernel_rfl)) (fun _ _ _ h => h) (Or.inl ⟨by rfl, ?_⟩) ?_ ?_
             rotate_left
             ·intro w'
              go_simp
              with_reducible rfl
             rotate_left
             ·simp only [Act.put, List.setIfInBounds_toArray, List.set_cons_zero, List.set_cons_succ, i64_w, i32_w]
              rfl
             refine take_ (i := 0) (N := some 38) (v := ?_) (a' := ?_) #[true, true, true, false, false, false, false, false, false, false, false, false, false, false, false, false, false, false, false, false, false, false, false, false] rfl rfl (take_ofW HT_.out HW_.out (by kernel_rfl)) (fun _ _ _ h => h) (Or.inl ⟨by rfl, ?_⟩) hHeld ?_ ?_
             rotate_left
             ·rintro w' ⟨s0, s1, s2, s3, s4, s5, s6⟩
              go_simp
              with_reducible rfl
             rotate_left
             ·simp only [Act.put, List.setIfInBounds_toArray, List.set_cons_zero, List.set_cons_succ, i64_w, i32_w]
              rfl
             refine one_ (i := 3) (N := some 41) #[true, true, true, true, false, false, false, false, false, false, false, false, false, false, false, false, false, false, false, false, false, false, false, false] rfl rfl (one_of HT_.out (by kernel_rfl)) (by decide) (fun K hK => ?_)
             refine goes_ Try.func21 (by kernel_rfl) rfl #[.agg #[.int .i64 ((rd_T25 l0 x14_2).f0), .int .i64 ((rd_T25 l0 x14_2).f1), .int .i64 ((rd_T25 l0 x14_2).f2), .int .i64 ((rd_T25 l0 x14_2).f3), .int .i64 ((rd_T25 l0 x14_2).f4), .int .i64 ((rd_T25 l0 x14_2).f5), .bool ((rd_T25 l0 x14_2).f6)], .int .i64 a2, .int .i64 a3] (by rfl) rfl rfl (by (try simp only [List.map_toArray, List.map_cons, List.map_nil]); first | done | rfl | (simp only [List.length_drop, List.length_take]; rfl)) ?_
             with_reducible refine (spec_Applies.calls ((rd_T25 l0 x14_2).f0) ((rd_T25 l0 x14_2).f1) ((rd_T25 l0 x14_2).f2) ((rd_T25 l0 x14_2).f3) ((rd_T25 l0 x14_2).f4) ((rd_T25 l0 x14_2).f5) ((rd_T25 l0 x14_2).f6) a2 a3 true _ A21.out).mono ?_
             rintro e w35 ⟨rfl, hb⟩
             refine ⟨_, rfl, ?_⟩
             have n0_ := aM (Kd.N_below (by (with_reducible repeat (first | apply Kd.N_alloc | apply Kd.N_drewN | apply Kd.N_drew)); exact HO_11.out) hb)
             have n1_ := aM (Kd.R_below (by (with_reducible repeat (first | apply Kd.R_alloc | apply Kd.R_drewN | apply Kd.R_drew)); exact HO_13.out) hb)
             have n2_ := aM (blk_below (g := gb183) (o := .cells #[.int .i64 ((rd_T25 l0 x14_2).f0), .int .i64 ((rd_T25 l0 x14_2).f1), .int .i64 ((rd_T25 l0 x14_2).f2), .int .i64 ((rd_T25 l0 x14_2).f3), .int .i64 ((rd_T25 l0 x14_2).f4), .int .i64 ((rd_T25 l0 x14_2).f5), .bool ((rd_T25 l0 x14_2).f6)] 25 (0, 0)) (by exact pk BK183.out) hb)
             have n3_ := aM (below_step (by repeat (first | (with_reducible first | exact HB.out | apply eA | apply eN | apply eD | refine eS ?_ GE183.out) | exact HB.out)) hb)
             clear HO_11
             clear HO_13
             clear BK183
             clear HB
             have HO_11 := n0_
             have HO_13 := n1_
             have BK183 := n2_
             have HB := n3_
             clear n0_ n1_ n2_ n3_
             (try clear hb)
             (try clear hb2)
             (try clear hk)
             (try clear hi)
             refine hK.out _ _ ⟨(blk_cell BK183.out 0).trans rfl, (blk_cell BK183.out 1).trans rfl, (blk_cell BK183.out 2).trans rfl, (blk_cell BK183.out 3).trans rfl, (blk_cell BK183.out 4).trans rfl, (blk_cell BK183.out 5).trans rfl, (blk_cell BK183.out 6).trans rfl⟩ (fun hHeld => ?_)
             clear hK K
             refine norm_ (a' := ?_) ?_ ?_
             rotate_left
             ·show Act.put _ (some 41) _ = _
              simp only [Act.put, List.setIfInBounds_toArray, List.set_cons_zero, List.set_cons_succ, i64_w, i32_w]
              rfl
             refine pure_ (i := 4) (N := some 42) (v := ?_) (a' := ?_) #[true, true, true, true, true, false, false, false, false, false, false, false, false, false, false, false, false, false, false, false, false, false, false, false] rfl rfl (any_of HT_.out (by kernel_rfl)) (fun _ _ _ h => h) (Or.inl ⟨by rfl, ?_⟩) ?_ ?_
             rotate_left
             ·intro w'
              go_simp
              with_reducible rfl
             rotate_left
             ·simp only [Act.put, List.setIfInBounds_toArray, List.set_cons_zero, List.set_cons_succ, i64_w, i32_w]
              rfl
             refine pure_ (i := 5) (N := some 43) (v := ?_) (a' := ?_) #[true, true, true, true, true, true, false, false, false, false, false, false, false, false, false, false, false, false, false, false, false, false, false, false] rfl rfl (any_of HT_.out (by kernel_rfl)) (fun _ _ _ h => h) (Or.inl ⟨by rfl, ?_⟩) ?_ ?_
             rotate_left
             ·intro w'
              go_simp
              with_reducible rfl
             rotate_left
             ·simp only [Act.put, List.setIfInBounds_toArray, List.set_cons_zero, List.set_cons_succ, i64_w, i32_w]
              rfl
             refine pure_ (i := 7) (N := some 45) (v := ?_) (a' := ?_) #[true, true, true, true, true, true, false, true, false, false, false, false, false, false, false, false, false, false, false, false, false, false, false, false] rfl rfl (any_of HT_.out (by kernel_rfl)) (fun _ _ _ h => h) (Or.inl ⟨by rfl, ?_⟩) ?_ ?_
             rotate_left
             ·intro w'
              go_simp
              with_reducible rfl
             rotate_left
             ·simp only [Act.put, List.setIfInBounds_toArray, List.set_cons_zero, List.set_cons_succ, i64_w, i32_w]
              rfl
             refine pure_ (i := 8) (N := some 46) (v := ?_) (a' := ?_) #[true, true, true, true, true, true, false, true, true, false, false, false, false, false, false, false, false, false, false, false, false, false, false, false] rfl rfl (any_of HT_.out (by kernel_rfl)) (fun _ _ _ h => h) (Or.inl ⟨by rfl, ?_⟩) ?_ ?_
             rotate_left
             ·intro w'
              go_simp
              with_reducible rfl
             rotate_left
             ·simp only [Act.put, List.setIfInBounds_toArray, List.set_cons_zero, List.set_cons_succ, i64_w, i32_w]
              rfl
             refine pure_ (i := 9) (N := some 47) (v := ?_) (a' := ?_) #[true, true, true, true, true, true, false, true, true, true, false, false, false, false, false, false, false, false, false, false, false, false, false, false] rfl rfl (any_of HT_.out (by kernel_rfl)) (fun _ _ _ h => h) (Or.inl ⟨by rfl, ?_⟩) ?_ ?_
             rotate_left
             ·intro w'
              go_simp
              with_reducible rfl
             rotate_left
             ·simp only [Act.put, List.setIfInBounds_toArray, List.set_cons_zero, List.set_cons_succ, i64_w, i32_w]
              rfl
             refine pure_ (i := 10) (N := some 48) (v := ?_) (a' := ?_) #[true, true, true, true, true, true, false, true, true, true, true, false, false, false, false, false, false, false, false, false, false, false, false, false] rfl rfl (any_of HT_.out (by kernel_rfl)) (fun _ _ _ h => h) (Or.inl ⟨by rfl, ?_⟩) ?_ ?_
             rotate_left
             ·intro w'
              go_simp
              with_reducible rfl
             rotate_left
             ·simp only [Act.put, List.setIfInBounds_toArray, List.set_cons_zero, List.set_cons_succ, i64_w, i32_w]
              rfl
             refine take_ (i := 6) (N := some 44) (v := ?_) (a' := ?_) #[true, true, true, true, true, true, true, true, true, true, true, false, false, false, false, false, false, false, false, false, false, false, false, false] rfl rfl (take_ofW HT_.out HW_.out (by kernel_rfl)) (fun _ _ _ h => h) (Or.inl ⟨by rfl, ?_⟩) hHeld ?_ ?_
             rotate_left
             ·rintro w' ⟨s0, s1, s2, s3, s4, s5, s6⟩
              go_simp
              with_reducible rfl
             rotate_left
             ·simp only [Act.put, List.setIfInBounds_toArray, List.set_cons_zero, List.set_cons_succ, i64_w, i32_w]
              rfl
             refine pure_ (i := 11) (N := some 49) (v := ?_) (a' := ?_) #[true, true, true, true, true, true, true, true, true, true, true, true, false, false, false, false, false, false, false, false, false, false, false, false] rfl rfl (any_of HT_.out (by kernel_rfl)) (fun _ _ _ h => h) (Or.inl ⟨by rfl, ?_⟩) ?_ ?_
             rotate_left
             ·intro w'
              go_simp
              with_reducible rfl
             rotate_left
             ·simp only [Act.put, List.setIfInBounds_toArray, List.set_cons_zero, List.set_cons_succ, i64_w, i32_w]
              rfl
             refine pure_ (i := 12) (N := some 50) (v := ?_) (a' := ?_) #[true, true, true, true, true, true, true, true, true, true, true, true, true, false, false, false, false, false, false, false, false, false, false, false] rfl rfl (any_of HT_.out (by kernel_rfl)) (fun _ _ _ h => h) (Or.inl ⟨by rfl, ?_⟩) ?_ ?_
             rotate_left
             ·intro w'
              go_simp
              with_reducible rfl
             rotate_left
             ·simp only [Act.put, List.setIfInBounds_toArray, List.set_cons_zero, List.set_cons_succ, i64_w, i32_w]
              rfl
             refine pure_ (i := 13) (N := some 51) (v := ?_) (a' := ?_) #[true, true, true, true, true, true, true, true, true, true, true, true, true, true, false, false, false, false, false, false, false, false, false, false] rfl rfl (any_of HT_.out (by kernel_rfl)) (fun _ _ _ h => h) (Or.inl ⟨by rfl, ?_⟩) ?_ ?_
             rotate_left
             ·intro w'
              go_simp
              with_reducible rfl
             rotate_left
             ·simp only [Act.put, List.setIfInBounds_toArray, List.set_cons_zero, List.set_cons_succ, i64_w, i32_w]
              rfl
             refine pure_ (i := 14) (N := some 52) (v := undef) (a' := ?_) #[true, true, true, true, true, true, true, true, true, true, true, true, true, true, true, false, false, false, false, false, false, false, false, false] rfl rfl (any_of HT_.out (by kernel_rfl)) (fun _ _ _ h => h) (Or.inr ⟨by rfl, rfl⟩) ?_ ?_
             rotate_left
             ·simp only [Act.put, List.setIfInBounds_toArray, List.set_cons_zero, List.set_cons_succ, i64_w, i32_w]
              rfl
             refine pure_ (i := 15) (N := some 53) (v := undef) (a' := ?_) #[true, true, true, true, true, true, true, true, true, true, true, true, true, true, true, true, false, false, false, false, false, false, false, false] rfl rfl (any_of HT_.out (by kernel_rfl)) (fun _ _ _ h => h) (Or.inr ⟨by rfl, rfl⟩) ?_ ?_
             rotate_left
             ·simp only [Act.put, List.setIfInBounds_toArray, List.set_cons_zero, List.set_cons_succ, i64_w, i32_w]
              rfl
             refine pure_ (i := 16) (N := some 54) (v := undef) (a' := ?_) #[true, true, true, true, true, true, true, true, true, true, true, true, true, true, true, true, true, false, false, false, false, false, false, false] rfl rfl (any_of HT_.out (by kernel_rfl)) (fun _ _ _ h => h) (Or.inr ⟨by rfl, rfl⟩) ?_ ?_
             rotate_left
             ·simp only [Act.put, List.setIfInBounds_toArray, List.set_cons_zero, List.set_cons_succ, i64_w, i32_w]
              rfl
             refine pure_ (i := 17) (N := some 55) (v := undef) (a' := ?_) #[true, true, true, true, true, true, true, true, true, true, true, true, true, true, true, true, true, true, false, false, false, false, false, false] rfl rfl (any_of HT_.out (by kernel_rfl)) (fun _ _ _ h => h) (Or.inr ⟨by rfl, rfl⟩) ?_ ?_
             rotate_left
             ·simp only [Act.put, List.setIfInBounds_toArray, List.set_cons_zero, List.set_cons_succ, i64_w, i32_w]
              rfl
             refine pure_ (i := 18) (N := some 56) (v := undef) (a' := ?_) #[true, true, true, true, true, true, true, true, true, true, true, true, true, true, true, true, true, true, true, false, false, false, false, false] rfl rfl (any_of HT_.out (by kernel_rfl)) (fun _ _ _ h => h) (Or.inr ⟨by rfl, rfl⟩) ?_ ?_
             rotate_left
             ·simp only [Act.put, List.setIfInBounds_toArray, List.set_cons_zero, List.set_cons_succ, i64_w, i32_w]
              rfl
             refine pure_ (i := 19) (N := some 57) (v := undef) (a' := ?_) #[true, true, true, true, true, true, true, true, true, true, true, true, true, true, true, true, true, true, true, true, false, false, false, false] rfl rfl (any_of HT_.out (by kernel_rfl)) (fun _ _ _ h => h) (Or.inr ⟨by rfl, rfl⟩) ?_ ?_
             rotate_left
             ·simp only [Act.put, List.setIfInBounds_toArray, List.set_cons_zero, List.set_cons_succ, i64_w, i32_w]
              rfl
             refine pure_ (i := 20) (N := some 58) (v := undef) (a' := ?_) #[true, true, true, true, true, true, true, true, true, true, true, true, true, true, true, true, true, true, true, true, true, false, false, false] rfl rfl (any_of HT_.out (by kernel_rfl)) (fun _ _ _ h => h) (Or.inr ⟨by rfl, rfl⟩) ?_ ?_
             rotate_left
             ·simp only [Act.put, List.setIfInBounds_toArray, List.set_cons_zero, List.set_cons_succ, i64_w, i32_w]
              rfl
             refine pure_ (i := 21) (N := some 59) (v := undef) (a' := ?_) #[true, true, true, true, true, true, true, true, true, true, true, true, true, true, true, true, true, true, true, true, true, true, false, false] rfl rfl (any_of HT_.out (by kernel_rfl)) (fun _ _ _ h => h) (Or.inr ⟨by rfl, rfl⟩) ?_ ?_
             rotate_left
             ·simp only [Act.put, List.setIfInBounds_toArray, List.set_cons_zero, List.set_cons_succ, i64_w, i32_w]
              rfl
             refine pure_ (i := 22) (N := some 60) (v := undef) (a' := ?_) #[true, true, true, true, true, true, true, true, true, true, true, true, true, true, true, true, true, true, true, true, true, true, true, false] rfl rfl (any_of HT_.out (by kernel_rfl)) (fun _ _ _ h => h) (Or.inr ⟨by rfl, rfl⟩) ?_ ?_
             rotate_left
             ·simp only [Act.put, List.setIfInBounds_toArray, List.set_cons_zero, List.set_cons_succ, i64_w, i32_w]
              rfl
             refine pure_ (i := 23) (N := some 61) (v := ?_) (a' := ?_) #[true, true, true, true, true, true, true, true, true, true, true, true, true, true, true, true, true, true, true, true, true, true, true, true] rfl rfl (any_of HT_.out (by kernel_rfl)) (fun _ _ _ h => h) (Or.inl ⟨by rfl, ?_⟩) ?_ ?_
             rotate_left
             ·intro w'
              go_simp
              with_reducible rfl
             rotate_left
             ·simp only [Act.put, List.setIfInBounds_toArray, List.set_cons_zero, List.set_cons_succ, i64_w, i32_w]
              rfl
             refine done_ (done_of HT_.out (by kernel_rfl)) ?_
             try go_wp2
             go_meet
             case rel => exact ⟨_, (false), (by first | rfl | (simp; done) | (simp [*]; done)), H', ⟨by have := HK1.out; have := HK2.out; first | omega | exact Nat.le_refl _⟩, ⟨by (with_reducible repeat (first | apply Kd.N_alloc | apply Kd.N_drewN | apply Kd.N_drew)); exact HO_11.out⟩, ⟨by (with_reducible repeat (first | apply Kd.R_alloc | apply Kd.R_drewN | apply Kd.R_drew)); exact HO_13.out⟩, ⟨by exact pk BK183.out⟩, ⟨by repeat (first | (with_reducible first | exact HB.out | apply eA | apply eN | apply eD | refine eS ?_ GE183.out) | exact HB.out)⟩⟩
           ·replace c22 := Bool.eq_false_iff.mpr c22
            subst c22
            have H1 : (spec_l05Reach.j2 k2 l0 a2 a3 a4 x11_1 x12_1 x13_2 x14_2 false ((rd_T25 l0 x14_2).f0) ((rd_T25 l0 x14_2).f1) ((rd_T25 l0 x14_2).f2) ((rd_T25 l0 x14_2).f3) ((rd_T25 l0 x14_2).f4) ((rd_T25 l0 x14_2).f5) ((rd_T25 l0 x14_2).f6)) = some r := by rw [if_neg (show ¬ (false = true) by decide)] at H; exact H
            clear H
            have H := H1
            clear H1
            have H' := aM H
            clear H
            try go_wp2
            have n0_ : Aside0 (Kd.N (Kd.slice 4 Kd.bool) 71 (((((((w19.setCell ⟨gb183, 0, none⟩ (.int .i64 ((rd_T25 l0 x14_2).f0))).setCell ⟨gb183, 1, none⟩ (.int .i64 ((rd_T25 l0 x14_2).f1))).setCell ⟨gb183, 2, none⟩ (.int .i64 ((rd_T25 l0 x14_2).f2))).setCell ⟨gb183, 3, none⟩ (.int .i64 ((rd_T25 l0 x14_2).f3))).setCell ⟨gb183, 4, none⟩ (.int .i64 ((rd_T25 l0 x14_2).f4))).setCell ⟨gb183, 5, none⟩ (.int .i64 ((rd_T25 l0 x14_2).f5))).setCell ⟨gb183, 6, none⟩ (.bool ((rd_T25 l0 x14_2).f6))) w.heap.size (fun k_ => (w.heap.size ≤ k_) ∧ some k_ ≠ (v177 : Value).ownBlock ∧ k_ ≠ gb183) (.slice A11_ x11_1.length c11_) x11_1) := ⟨by (with_reducible repeat (first | apply Kd.N_alloc | apply Kd.N_drewN | apply Kd.N_drew)); exact Kd.N_mono (Kd.N_far (p := ⟨gb183, 6, none⟩) (Kd.N_far (p := ⟨gb183, 5, none⟩) (Kd.N_far (p := ⟨gb183, 4, none⟩) (Kd.N_far (p := ⟨gb183, 3, none⟩) (Kd.N_far (p := ⟨gb183, 2, none⟩) (Kd.N_far (p := ⟨gb183, 1, none⟩) (Kd.N_far (p := ⟨gb183, 0, none⟩) (Kd.N_mono HO_11.out (fun k_ hk => (⟨hk, hk.2⟩ : _ ∧ k_ ≠ gb183))) (fun _ hk => hk.2) (.int .i64 ((rd_T25 l0 x14_2).f0))) (fun _ hk => hk.2) (.int .i64 ((rd_T25 l0 x14_2).f1))) (fun _ hk => hk.2) (.int .i64 ((rd_T25 l0 x14_2).f2))) (fun _ hk => hk.2) (.int .i64 ((rd_T25 l0 x14_2).f3))) (fun _ hk => hk.2) (.int .i64 ((rd_T25 l0 x14_2).f4))) (fun _ hk => hk.2) (.int .i64 ((rd_T25 l0 x14_2).f5))) (fun _ hk => hk.2) (.bool ((rd_T25 l0 x14_2).f6))) (fun _ hk => ⟨hk.1.1.1, ⟨hk.1.1.2, hk.1.2⟩⟩)⟩
            have n1_ : Aside0 (Kd.R Kd.bool 4 (((((((w19.setCell ⟨gb183, 0, none⟩ (.int .i64 ((rd_T25 l0 x14_2).f0))).setCell ⟨gb183, 1, none⟩ (.int .i64 ((rd_T25 l0 x14_2).f1))).setCell ⟨gb183, 2, none⟩ (.int .i64 ((rd_T25 l0 x14_2).f2))).setCell ⟨gb183, 3, none⟩ (.int .i64 ((rd_T25 l0 x14_2).f3))).setCell ⟨gb183, 4, none⟩ (.int .i64 ((rd_T25 l0 x14_2).f4))).setCell ⟨gb183, 5, none⟩ (.int .i64 ((rd_T25 l0 x14_2).f5))).setCell ⟨gb183, 6, none⟩ (.bool ((rd_T25 l0 x14_2).f6))) w.heap.size (fun k_ => (w.heap.size ≤ k_)) v177 x13_2) := ⟨by (with_reducible repeat (first | apply Kd.R_alloc | apply Kd.R_drewN | apply Kd.R_drew)); exact Kd.R_mono (Kd.R_far (p := ⟨gb183, 6, none⟩) (Kd.R_far (p := ⟨gb183, 5, none⟩) (Kd.R_far (p := ⟨gb183, 4, none⟩) (Kd.R_far (p := ⟨gb183, 3, none⟩) (Kd.R_far (p := ⟨gb183, 2, none⟩) (Kd.R_far (p := ⟨gb183, 1, none⟩) (Kd.R_far (p := ⟨gb183, 0, none⟩) (Kd.R_types HO_13.out BK183.out (by decide)) (fun _ hk => hk.2) (.int .i64 ((rd_T25 l0 x14_2).f0))) (fun _ hk => hk.2) (.int .i64 ((rd_T25 l0 x14_2).f1))) (fun _ hk => hk.2) (.int .i64 ((rd_T25 l0 x14_2).f2))) (fun _ hk => hk.2) (.int .i64 ((rd_T25 l0 x14_2).f3))) (fun _ hk => hk.2) (.int .i64 ((rd_T25 l0 x14_2).f4))) (fun _ hk => hk.2) (.int .i64 ((rd_T25 l0 x14_2).f5))) (fun _ hk => hk.2) (.bool ((rd_T25 l0 x14_2).f6))) (fun _ hk => hk.1)⟩
            have n2_ : Aside0 ((((((((w19.setCell ⟨gb183, 0, none⟩ (.int .i64 ((rd_T25 l0 x14_2).f0))).setCell ⟨gb183, 1, none⟩ (.int .i64 ((rd_T25 l0 x14_2).f1))).setCell ⟨gb183, 2, none⟩ (.int .i64 ((rd_T25 l0 x14_2).f2))).setCell ⟨gb183, 3, none⟩ (.int .i64 ((rd_T25 l0 x14_2).f3))).setCell ⟨gb183, 4, none⟩ (.int .i64 ((rd_T25 l0 x14_2).f4))).setCell ⟨gb183, 5, none⟩ (.int .i64 ((rd_T25 l0 x14_2).f5))).setCell ⟨gb183, 6, none⟩ (.bool ((rd_T25 l0 x14_2).f6))).heap[gb183]? = some (.cells #[.int .i64 ((rd_T25 l0 x14_2).f0), .int .i64 ((rd_T25 l0 x14_2).f1), .int .i64 ((rd_T25 l0 x14_2).f2), .int .i64 ((rd_T25 l0 x14_2).f3), .int .i64 ((rd_T25 l0 x14_2).f4), .int .i64 ((rd_T25 l0 x14_2).f5), .bool ((rd_T25 l0 x14_2).f6)] 25 (0, 0))) := ⟨by (with_reducible repeat (first | refine bN ?_ _ | refine bD ?_ | refine bA ?_ _)); refine blk_put (cs := #[.int .i64 ((rd_T25 l0 x14_2).f0), .int .i64 ((rd_T25 l0 x14_2).f1), .int .i64 ((rd_T25 l0 x14_2).f2), .int .i64 ((rd_T25 l0 x14_2).f3), .int .i64 ((rd_T25 l0 x14_2).f4), .int .i64 ((rd_T25 l0 x14_2).f5), .bool false]) ?_ 6 _ rfl; (with_reducible repeat (first | refine bN ?_ _ | refine bD ?_ | refine bA ?_ _)); refine blk_put (cs := #[.int .i64 ((rd_T25 l0 x14_2).f0), .int .i64 ((rd_T25 l0 x14_2).f1), .int .i64 ((rd_T25 l0 x14_2).f2), .int .i64 ((rd_T25 l0 x14_2).f3), .int .i64 ((rd_T25 l0 x14_2).f4), .int .i64 0, .bool false]) ?_ 5 _ rfl; (with_reducible repeat (first | refine bN ?_ _ | refine bD ?_ | refine bA ?_ _)); refine blk_put (cs := #[.int .i64 ((rd_T25 l0 x14_2).f0), .int .i64 ((rd_T25 l0 x14_2).f1), .int .i64 ((rd_T25 l0 x14_2).f2), .int .i64 ((rd_T25 l0 x14_2).f3), .int .i64 0, .int .i64 0, .bool false]) ?_ 4 _ rfl; (with_reducible repeat (first | refine bN ?_ _ | refine bD ?_ | refine bA ?_ _)); refine blk_put (cs := #[.int .i64 ((rd_T25 l0 x14_2).f0), .int .i64 ((rd_T25 l0 x14_2).f1), .int .i64 ((rd_T25 l0 x14_2).f2), .int .i64 0, .int .i64 0, .int .i64 0, .bool false]) ?_ 3 _ rfl; (with_reducible repeat (first | refine bN ?_ _ | refine bD ?_ | refine bA ?_ _)); refine blk_put (cs := #[.int .i64 ((rd_T25 l0 x14_2).f0), .int .i64 ((rd_T25 l0 x14_2).f1), .int .i64 0, .int .i64 0, .int .i64 0, .int .i64 0, .bool false]) ?_ 2 _ rfl; (with_reducible repeat (first | refine bN ?_ _ | refine bD ?_ | refine bA ?_ _)); refine blk_put (cs := #[.int .i64 ((rd_T25 l0 x14_2).f0), .int .i64 0, .int .i64 0, .int .i64 0, .int .i64 0, .int .i64 0, .bool false]) ?_ 1 _ rfl; (with_reducible repeat (first | refine bN ?_ _ | refine bD ?_ | refine bA ?_ _)); refine blk_put (cs := #[.int .i64 0, .int .i64 0, .int .i64 0, .int .i64 0, .int .i64 0, .int .i64 0, .bool false]) ?_ 0 _ rfl; (with_reducible repeat (first | refine bN ?_ _ | refine bD ?_ | refine bA ?_ _)); exact BK183.out⟩
            have n3_ : Aside0 (Below w.heap.size w (((((((w19.setCell ⟨gb183, 0, none⟩ (.int .i64 ((rd_T25 l0 x14_2).f0))).setCell ⟨gb183, 1, none⟩ (.int .i64 ((rd_T25 l0 x14_2).f1))).setCell ⟨gb183, 2, none⟩ (.int .i64 ((rd_T25 l0 x14_2).f2))).setCell ⟨gb183, 3, none⟩ (.int .i64 ((rd_T25 l0 x14_2).f3))).setCell ⟨gb183, 4, none⟩ (.int .i64 ((rd_T25 l0 x14_2).f4))).setCell ⟨gb183, 5, none⟩ (.int .i64 ((rd_T25 l0 x14_2).f5))).setCell ⟨gb183, 6, none⟩ (.bool ((rd_T25 l0 x14_2).f6)))) := ⟨by repeat (first | (with_reducible first | exact HB.out | apply eA | apply eN | apply eD | refine eS ?_ GE183.out) | exact HB.out)⟩
            (try clear HO_11)
            (try clear HO_13)
            (try clear BK183)
            (try clear HB)
            generalize (((((((w19.setCell ⟨gb183, 0, none⟩ (.int .i64 ((rd_T25 l0 x14_2).f0))).setCell ⟨gb183, 1, none⟩ (.int .i64 ((rd_T25 l0 x14_2).f1))).setCell ⟨gb183, 2, none⟩ (.int .i64 ((rd_T25 l0 x14_2).f2))).setCell ⟨gb183, 3, none⟩ (.int .i64 ((rd_T25 l0 x14_2).f3))).setCell ⟨gb183, 4, none⟩ (.int .i64 ((rd_T25 l0 x14_2).f4))).setCell ⟨gb183, 5, none⟩ (.int .i64 ((rd_T25 l0 x14_2).f5))).setCell ⟨gb183, 6, none⟩ (.bool ((rd_T25 l0 x14_2).f6))) = w36 at n0_ n1_ n2_ n3_ ⊢
            have HO_11 := n0_
            have HO_13 := n1_
            have BK183 := n2_
            have HB := n3_
            clear n0_ n1_ n2_ n3_
            have n0_ := aM (Kd.N_drew HO_11.out)
            have n1_ := aM (Kd.R_drew HO_13.out)
            have n2_ := aM (blk_drew BK183.out)
            have n3_ := aM (below_drew1 HB.out)
            clear HO_11
            clear HO_13
            clear BK183
            clear HB
            have HO_11 := n0_
            have HO_13 := n1_
            have BK183 := n2_
            have HB := n3_
            clear n0_ n1_ n2_ n3_
            refine start_ (n := 24) (S := fun w' => w'.cell? ⟨gb183, 0, none⟩ = some (.int .i64 ((rd_T25 l0 x14_2).f0)) ∧ w'.cell? ⟨gb183, 1, none⟩ = some (.int .i64 ((rd_T25 l0 x14_2).f1)) ∧ w'.cell? ⟨gb183, 2, none⟩ = some (.int .i64 ((rd_T25 l0 x14_2).f2)) ∧ w'.cell? ⟨gb183, 3, none⟩ = some (.int .i64 ((rd_T25 l0 x14_2).f3)) ∧ w'.cell? ⟨gb183, 4, none⟩ = some (.int .i64 ((rd_T25 l0 x14_2).f4)) ∧ w'.cell? ⟨gb183, 5, none⟩ = some (.int .i64 ((rd_T25 l0 x14_2).f5)) ∧ w'.cell? ⟨gb183, 6, none⟩ = some (.bool ((rd_T25 l0 x14_2).f6))) (ds := []) #[false, false, false, false, false, false, false, false, false, false, false, false, false, false, false, false, false, false, false, false, false, false, false, false] (by kernel_rfl) rfl rfl ⟨(blk_cell BK183.out 0).trans rfl, (blk_cell BK183.out 1).trans rfl, (blk_cell BK183.out 2).trans rfl, (blk_cell BK183.out 3).trans rfl, (blk_cell BK183.out 4).trans rfl, (blk_cell BK183.out 5).trans rfl, (blk_cell BK183.out 6).trans rfl⟩ (fun hHeld => ?_); refine with_tabW spec_l05Reach.tab11 spec_l05Reach.bits11 (fun HT_ HW_ => ?_)
            generalize w36.drew = w37 at HO_11 HO_13 BK183 HB hHeld ⊢
            refine pure_ (i := 1) (N := some 39) (v := ?_) (a' := ?_) #[false, true, false, false, false, false, false, false, false, false, false, false, false, false, false, false, false, false, false, false, false, false, false, false] rfl rfl (any_of HT_.out (by kernel_rfl)) (fun _ _ _ h => h) (Or.inl ⟨by rfl, ?_⟩) ?_ ?_
            rotate_left
            ·intro w'
             go_simp
             with_reducible rfl
            rotate_left
            ·simp only [Act.put, List.setIfInBounds_toArray, List.set_cons_zero, List.set_cons_succ, i64_w, i32_w]
             rfl
            refine pure_ (i := 2) (N := some 40) (v := ?_) (a' := ?_) #[false, true, true, false, false, false, false, false, false, false, false, false, false, false, false, false, false, false, false, false, false, false, false, false] rfl rfl (any_of HT_.out (by kernel_rfl)) (fun _ _ _ h => h) (Or.inl ⟨by rfl, ?_⟩) ?_ ?_
            rotate_left
            ·intro w'
             go_simp
             with_reducible rfl
            rotate_left
            ·simp only [Act.put, List.setIfInBounds_toArray, List.set_cons_zero, List.set_cons_succ, i64_w, i32_w]
             rfl
            refine take_ (i := 0) (N := some 38) (v := ?_) (a' := ?_) #[true, true, true, false, false, false, false, false, false, false, false, false, false, false, false, false, false, false, false, false, false, false, false, false] rfl rfl (take_ofW HT_.out HW_.out (by kernel_rfl)) (fun _ _ _ h => h) (Or.inl ⟨by rfl, ?_⟩) hHeld ?_ ?_
            rotate_left
            ·rintro w' ⟨s0, s1, s2, s3, s4, s5, s6⟩
             go_simp
             with_reducible rfl
            rotate_left
            ·simp only [Act.put, List.setIfInBounds_toArray, List.set_cons_zero, List.set_cons_succ, i64_w, i32_w]
             rfl
            refine one_ (i := 3) (N := some 41) #[true, true, true, true, false, false, false, false, false, false, false, false, false, false, false, false, false, false, false, false, false, false, false, false] rfl rfl (one_of HT_.out (by kernel_rfl)) (by decide) (fun K hK => ?_)
            refine goes_ Try.func21 (by kernel_rfl) rfl #[.agg #[.int .i64 ((rd_T25 l0 x14_2).f0), .int .i64 ((rd_T25 l0 x14_2).f1), .int .i64 ((rd_T25 l0 x14_2).f2), .int .i64 ((rd_T25 l0 x14_2).f3), .int .i64 ((rd_T25 l0 x14_2).f4), .int .i64 ((rd_T25 l0 x14_2).f5), .bool ((rd_T25 l0 x14_2).f6)], .int .i64 a2, .int .i64 a3] (by rfl) rfl rfl (by (try simp only [List.map_toArray, List.map_cons, List.map_nil]); first | done | rfl | (simp only [List.length_drop, List.length_take]; rfl)) ?_
            with_reducible refine (spec_Applies.calls ((rd_T25 l0 x14_2).f0) ((rd_T25 l0 x14_2).f1) ((rd_T25 l0 x14_2).f2) ((rd_T25 l0 x14_2).f3) ((rd_T25 l0 x14_2).f4) ((rd_T25 l0 x14_2).f5) ((rd_T25 l0 x14_2).f6) a2 a3 false _ A21.out).mono ?_
            rintro e w38 ⟨rfl, hb⟩
            refine ⟨_, rfl, ?_⟩
            have n0_ := aM (Kd.N_below (by (with_reducible repeat (first | apply Kd.N_alloc | apply Kd.N_drewN | apply Kd.N_drew)); exact HO_11.out) hb)
            have n1_ := aM (Kd.R_below (by (with_reducible repeat (first | apply Kd.R_alloc | apply Kd.R_drewN | apply Kd.R_drew)); exact HO_13.out) hb)
            have n2_ := aM (blk_below (g := gb183) (o := .cells #[.int .i64 ((rd_T25 l0 x14_2).f0), .int .i64 ((rd_T25 l0 x14_2).f1), .int .i64 ((rd_T25 l0 x14_2).f2), .int .i64 ((rd_T25 l0 x14_2).f3), .int .i64 ((rd_T25 l0 x14_2).f4), .int .i64 ((rd_T25 l0 x14_2).f5), .bool ((rd_T25 l0 x14_2).f6)] 25 (0, 0)) (by exact pk BK183.out) hb)
            have n3_ := aM (below_step (by repeat (first | (with_reducible first | exact HB.out | apply eA | apply eN | apply eD | refine eS ?_ GE183.out) | exact HB.out)) hb)
            clear HO_11
            clear HO_13
            clear BK183
            clear HB
            have HO_11 := n0_
            have HO_13 := n1_
            have BK183 := n2_
            have HB := n3_
            clear n0_ n1_ n2_ n3_
            (try clear hb)
            (try clear hb2)
            (try clear hk)
            (try clear hi)
            refine hK.out _ _ ⟨(blk_cell BK183.out 0).trans rfl, (blk_cell BK183.out 1).trans rfl, (blk_cell BK183.out 2).trans rfl, (blk_cell BK183.out 3).trans rfl, (blk_cell BK183.out 4).trans rfl, (blk_cell BK183.out 5).trans rfl, (blk_cell BK183.out 6).trans rfl⟩ (fun hHeld => ?_)
            clear hK K
            refine norm_ (a' := ?_) ?_ ?_
            rotate_left
            ·show Act.put _ (some 41) _ = _
             simp only [Act.put, List.setIfInBounds_toArray, List.set_cons_zero, List.set_cons_succ, i64_w, i32_w]
             rfl
            refine pure_ (i := 4) (N := some 42) (v := ?_) (a' := ?_) #[true, true, true, true, true, false, false, false, false, false, false, false, false, false, false, false, false, false, false, false, false, false, false, false] rfl rfl (any_of HT_.out (by kernel_rfl)) (fun _ _ _ h => h) (Or.inl ⟨by rfl, ?_⟩) ?_ ?_
            rotate_left
            ·intro w'
             go_simp
             with_reducible rfl
            rotate_left
            ·simp only [Act.put, List.setIfInBounds_toArray, List.set_cons_zero, List.set_cons_succ, i64_w, i32_w]
             rfl
            refine pure_ (i := 5) (N := some 43) (v := undef) (a' := ?_) #[true, true, true, true, true, true, false, false, false, false, false, false, false, false, false, false, false, false, false, false, false, false, false, false] rfl rfl (any_of HT_.out (by kernel_rfl)) (fun _ _ _ h => h) (Or.inr ⟨by rfl, rfl⟩) ?_ ?_
            rotate_left
            ·simp only [Act.put, List.setIfInBounds_toArray, List.set_cons_zero, List.set_cons_succ, i64_w, i32_w]
             rfl
            refine pure_ (i := 6) (N := some 44) (v := undef) (a' := ?_) #[true, true, true, true, true, true, true, false, false, false, false, false, false, false, false, false, false, false, false, false, false, false, false, false] rfl rfl (any_of HT_.out (by kernel_rfl)) (fun _ _ _ h => h) (Or.inr ⟨by rfl, rfl⟩) ?_ ?_
            rotate_left
            ·simp only [Act.put, List.setIfInBounds_toArray, List.set_cons_zero, List.set_cons_succ, i64_w, i32_w]
             rfl
            refine pure_ (i := 7) (N := some 45) (v := undef) (a' := ?_) #[true, true, true, true, true, true, true, true, false, false, false, false, false, false, false, false, false, false, false, false, false, false, false, false] rfl rfl (any_of HT_.out (by kernel_rfl)) (fun _ _ _ h => h) (Or.inr ⟨by rfl, rfl⟩) ?_ ?_
            rotate_left
            ·simp only [Act.put, List.setIfInBounds_toArray, List.set_cons_zero, List.set_cons_succ, i64_w, i32_w]
             rfl
            refine pure_ (i := 8) (N := some 46) (v := undef) (a' := ?_) #[true, true, true, true, true, true, true, true, true, false, false, false, false, false, false, false, false, false, false, false, false, false, false, false] rfl rfl (any_of HT_.out (by kernel_rfl)) (fun _ _ _ h => h) (Or.inr ⟨by rfl, rfl⟩) ?_ ?_
            rotate_left
            ·simp only [Act.put, List.setIfInBounds_toArray, List.set_cons_zero, List.set_cons_succ, i64_w, i32_w]
             rfl
            refine pure_ (i := 9) (N := some 47) (v := undef) (a' := ?_) #[true, true, true, true, true, true, true, true, true, true, false, false, false, false, false, false, false, false, false, false, false, false, false, false] rfl rfl (any_of HT_.out (by kernel_rfl)) (fun _ _ _ h => h) (Or.inr ⟨by rfl, rfl⟩) ?_ ?_
            rotate_left
            ·simp only [Act.put, List.setIfInBounds_toArray, List.set_cons_zero, List.set_cons_succ, i64_w, i32_w]
             rfl
            refine pure_ (i := 10) (N := some 48) (v := undef) (a' := ?_) #[true, true, true, true, true, true, true, true, true, true, true, false, false, false, false, false, false, false, false, false, false, false, false, false] rfl rfl (any_of HT_.out (by kernel_rfl)) (fun _ _ _ h => h) (Or.inr ⟨by rfl, rfl⟩) ?_ ?_
            rotate_left
            ·simp only [Act.put, List.setIfInBounds_toArray, List.set_cons_zero, List.set_cons_succ, i64_w, i32_w]
             rfl
            refine pure_ (i := 11) (N := some 49) (v := undef) (a' := ?_) #[true, true, true, true, true, true, true, true, true, true, true, true, false, false, false, false, false, false, false, false, false, false, false, false] rfl rfl (any_of HT_.out (by kernel_rfl)) (fun _ _ _ h => h) (Or.inr ⟨by rfl, rfl⟩) ?_ ?_
            rotate_left
            ·simp only [Act.put, List.setIfInBounds_toArray, List.set_cons_zero, List.set_cons_succ, i64_w, i32_w]
             rfl
            refine pure_ (i := 12) (N := some 50) (v := ?_) (a' := ?_) #[true, true, true, true, true, true, true, true, true, true, true, true, true, false, false, false, false, false, false, false, false, false, false, false] rfl rfl (any_of HT_.out (by kernel_rfl)) (fun _ _ _ h => h) (Or.inl ⟨by rfl, ?_⟩) ?_ ?_
            rotate_left
            ·intro w'
             go_simp
             with_reducible rfl
            rotate_left
            ·simp only [Act.put, List.setIfInBounds_toArray, List.set_cons_zero, List.set_cons_succ, i64_w, i32_w]
             rfl
            refine pure_ (i := 13) (N := some 51) (v := ?_) (a' := ?_) #[true, true, true, true, true, true, true, true, true, true, true, true, true, true, false, false, false, false, false, false, false, false, false, false] rfl rfl (any_of HT_.out (by kernel_rfl)) (fun _ _ _ h => h) (Or.inl ⟨by rfl, ?_⟩) ?_ ?_
            rotate_left
            ·intro w'
             go_simp
             with_reducible rfl
            rotate_left
            ·simp only [Act.put, List.setIfInBounds_toArray, List.set_cons_zero, List.set_cons_succ, i64_w, i32_w]
             rfl
            refine pure_ (i := 14) (N := some 52) (v := undef) (a' := ?_) #[true, true, true, true, true, true, true, true, true, true, true, true, true, true, true, false, false, false, false, false, false, false, false, false] rfl rfl (any_of HT_.out (by kernel_rfl)) (fun _ _ _ h => h) (Or.inr ⟨by rfl, rfl⟩) ?_ ?_
            rotate_left
            ·simp only [Act.put, List.setIfInBounds_toArray, List.set_cons_zero, List.set_cons_succ, i64_w, i32_w]
             rfl
            refine pure_ (i := 15) (N := some 53) (v := undef) (a' := ?_) #[true, true, true, true, true, true, true, true, true, true, true, true, true, true, true, true, false, false, false, false, false, false, false, false] rfl rfl (any_of HT_.out (by kernel_rfl)) (fun _ _ _ h => h) (Or.inr ⟨by rfl, rfl⟩) ?_ ?_
            rotate_left
            ·simp only [Act.put, List.setIfInBounds_toArray, List.set_cons_zero, List.set_cons_succ, i64_w, i32_w]
             rfl
            refine pure_ (i := 16) (N := some 54) (v := undef) (a' := ?_) #[true, true, true, true, true, true, true, true, true, true, true, true, true, true, true, true, true, false, false, false, false, false, false, false] rfl rfl (any_of HT_.out (by kernel_rfl)) (fun _ _ _ h => h) (Or.inr ⟨by rfl, rfl⟩) ?_ ?_
            rotate_left
            ·simp only [Act.put, List.setIfInBounds_toArray, List.set_cons_zero, List.set_cons_succ, i64_w, i32_w]
             rfl
            refine pure_ (i := 17) (N := some 55) (v := undef) (a' := ?_) #[true, true, true, true, true, true, true, true, true, true, true, true, true, true, true, true, true, true, false, false, false, false, false, false] rfl rfl (any_of HT_.out (by kernel_rfl)) (fun _ _ _ h => h) (Or.inr ⟨by rfl, rfl⟩) ?_ ?_
            rotate_left
            ·simp only [Act.put, List.setIfInBounds_toArray, List.set_cons_zero, List.set_cons_succ, i64_w, i32_w]
             rfl
            refine pure_ (i := 18) (N := some 56) (v := undef) (a' := ?_) #[true, true, true, true, true, true, true, true, true, true, true, true, true, true, true, true, true, true, true, false, false, false, false, false] rfl rfl (any_of HT_.out (by kernel_rfl)) (fun _ _ _ h => h) (Or.inr ⟨by rfl, rfl⟩) ?_ ?_
            rotate_left
            ·simp only [Act.put, List.setIfInBounds_toArray, List.set_cons_zero, List.set_cons_succ, i64_w, i32_w]
             rfl
            refine pure_ (i := 19) (N := some 57) (v := undef) (a' := ?_) #[true, true, true, true, true, true, true, true, true, true, true, true, true, true, true, true, true, true, true, true, false, false, false, false] rfl rfl (any_of HT_.out (by kernel_rfl)) (fun _ _ _ h => h) (Or.inr ⟨by rfl, rfl⟩) ?_ ?_
            rotate_left
            ·simp only [Act.put, List.setIfInBounds_toArray, List.set_cons_zero, List.set_cons_succ, i64_w, i32_w]
             rfl
            refine pure_ (i := 20) (N := some 58) (v := undef) (a' := ?_) #[true, true, true, true, true, true, true, true, true, true, true, true, true, true, true, true, true, true, true, true, true, false, false, false] rfl rfl (any_of HT_.out (by kernel_rfl)) (fun _ _ _ h => h) (Or.inr ⟨by rfl, rfl⟩) ?_ ?_
            rotate_left
            ·simp only [Act.put, List.setIfInBounds_toArray, List.set_cons_zero, List.set_cons_succ, i64_w, i32_w]
             rfl
            refine pure_ (i := 21) (N := some 59) (v := undef) (a' := ?_) #[true, true, true, true, true, true, true, true, true, true, true, true, true, true, true, true, true, true, true, true, true, true, false, false] rfl rfl (any_of HT_.out (by kernel_rfl)) (fun _ _ _ h => h) (Or.inr ⟨by rfl, rfl⟩) ?_ ?_
            rotate_left
            ·simp only [Act.put, List.setIfInBounds_toArray, List.set_cons_zero, List.set_cons_succ, i64_w, i32_w]
             rfl
            refine pure_ (i := 22) (N := some 60) (v := undef) (a' := ?_) #[true, true, true, true, true, true, true, true, true, true, true, true, true, true, true, true, true, true, true, true, true, true, true, false] rfl rfl (any_of HT_.out (by kernel_rfl)) (fun _ _ _ h => h) (Or.inr ⟨by rfl, rfl⟩) ?_ ?_
            rotate_left
            ·simp only [Act.put, List.setIfInBounds_toArray, List.set_cons_zero, List.set_cons_succ, i64_w, i32_w]
             rfl
            refine pure_ (i := 23) (N := some 61) (v := ?_) (a' := ?_) #[true, true, true, true, true, true, true, true, true, true, true, true, true, true, true, true, true, true, true, true, true, true, true, true] rfl rfl (any_of HT_.out (by kernel_rfl)) (fun _ _ _ h => h) (Or.inl ⟨by rfl, ?_⟩) ?_ ?_
            rotate_left
            ·intro w'
             go_simp
             with_reducible rfl
            rotate_left
            ·simp only [Act.put, List.setIfInBounds_toArray, List.set_cons_zero, List.set_cons_succ, i64_w, i32_w]
             rfl
            refine done_ (done_of HT_.out (by kernel_rfl)) ?_
            try go_wp2
            go_meet
            case rel => exact ⟨_, (false), (by first | rfl | (simp; done) | (simp [*]; done)), H', ⟨by have := HK1.out; have := HK2.out; first | omega | exact Nat.le_refl _⟩, ⟨by (with_reducible repeat (first | apply Kd.N_alloc | apply Kd.N_drewN | apply Kd.N_drew)); exact HO_11.out⟩, ⟨by (with_reducible repeat (first | apply Kd.R_alloc | apply Kd.R_drewN | apply Kd.R_drew)); exact HO_13.out⟩, ⟨by exact pk BK183.out⟩, ⟨by repeat (first | (with_reducible first | exact HB.out | apply eA | apply eN | apply eD | refine eS ?_ GE183.out) | exact HB.out)⟩⟩
          case rest =>
           clear HC18
           try clear p1
           try clear q1
           try clear hx1
           try clear c2
           try clear p2
           try clear p6
           try clear p18
           try clear q18
           try clear hx18
           try clear c21
           try clear c22
           try clear c23
           try clear c23b0
           try clear c25
           try clear c26
           try clear c27
           try clear c28
           try clear hx186_0
           try clear p186
           try clear q186
           obtain ⟨kq, x61_17, rfl, HA, HJ17, HO_11, HO_13, BK183, HB⟩ := hcut
           cases kq with
           | zero => exact absurd HA.out (by simp [spec_l05Reach.j2])
           | succ kj17 =>
            have H := HA.out
            clear HA
            simp only [spec_l05Reach.j2] at H
            by_cases c39 : x61_17 = true
            ·subst c39
             have H1 : (if 0 ≤ ((rd_T25 l0 x14_2).f0) then (if ((rd_T25 l0 x14_2).f0) < (x13_2.length : Int) then (spec_l05Reach.l1 kj17 l0 a2 a3 a4 x11_1 x12_1 (x13_2.set (((rd_T25 l0 x14_2).f0) : Int).toNat true) (wrap64 (x14_2 + 1))) else (none)) else (none)) = some r := by rw [if_pos rfl] at H; exact H
             clear H
             have H := H1
             clear H1
             by_cases c40 : 0 ≤ ((rd_T25 l0 x14_2).f0)
             ·rw [if_pos c40] at H
              have c40b0 : decide (0 ≤ ((rd_T25 l0 x14_2).f0)) = true := decide_eq_true c40
              clear c40
              by_cases c41 : ((rd_T25 l0 x14_2).f0) < (x13_2.length : Int)
              ·rw [if_pos c41] at H
               have c41b0 : decide (((rd_T25 l0 x14_2).f0) < (x13_2.length : Int)) = true := decide_eq_true c41
               clear c41
               obtain ⟨y187, hy187⟩ : ∃ y_ : List Bool, y_ = (x13_2.set (((rd_T25 l0 x14_2).f0) : Int).toNat true) := ⟨_, rfl⟩
               replace H : (spec_l05Reach.l1 kj17 l0 a2 a3 a4 x11_1 x12_1 y187 (wrap64 (x14_2 + 1))) = some r := by first | (rw [hy187]; with_reducible exact H) | (have H2_ := (Option.bind_some _ _).symm.trans H; rw [hy187]; with_reducible exact H2_) | (have H2_ := (Option.bind_some _ _).symm.trans H; with_reducible exact H2_) | with_reducible exact H | (rw [hy187]; exact H) | exact H
               have Ny187 := aM hy187
               clear hy187
               have H' := aM H
               clear H
               obtain ⟨hcz43_0, hcz43_1, hcz43_2, hcz43_3, hcz43_4, hcz43_5, hcz43_6, hfz43_0, hfz43_1, hfz43_2, hfz43_3, hfz43_4, hfz43_5, hfz43_6⟩ := cells7 BK183.out
               have p42 : 0 ≤ (((rd_T25 l0 x14_2).f0) : Int) := of_decide_eq_true (by first | (with_reducible assumption) | assumption)
               have q42 : (((rd_T25 l0 x14_2).f0) : Int) < ((x13_2.length : Int) : Int) := of_decide_eq_true (by first | (with_reducible assumption) | assumption)
               obtain ⟨go42, co42, eo42, gb42, gl42, cl42, HG42⟩ := Kd.R_form HO_13.out (by omega)
               (first | cases eo42 | (injection eo42 with ea_ en_ ec_; (first | subst ea_ | (injection ea_ with ea_; subst ea_)); subst ec_; clear en_))
               have GB42 := aM gb42
               have GG42 := aM HG42
               clear gb42 gl42 HG42
               obtain ⟨hx42_0, hf42_0⟩ := Kd.R_celln false HO_13.out (((rd_T25 l0 x14_2).f0) : Int) p42 q42
               replace p42 := eq_true p42
               replace q42 := eq_true q42
               have HP44 := Kd.R_putg HO_13.out (((rd_T25 l0 x14_2).f0) : Int) true
               go_wp2_with (first | ((with_reducible refine gate_store (t := 4) (p := 65) rfl ?_); refine store_event (t := 4) (p := 65) (v := ?vo_w45) (w1 := (wc.setCell ⟨go42, (((rd_T25 l0 x14_2).f0) : Int).toNat, none⟩ (.bool true))) ?hg ?ho ?hn ?hr ?_; (case ho => rfl); (case hg => rfl); (case hn => rfl); (case hr => first | (go_simp; done) | (go_simp; rfl)); intro w45 hw; have hg : wc.grownBy w45 (some go42) := (by rw [hw]; exact HP44.2); have hp_ : Kd.R Kd.bool 4 w45 w.heap.size (fun k_ => (w.heap.size ≤ k_)) (.slice (some ⟨go42, 0, none⟩) x13_2.length co42) y187 := (by rw [hw, Ny187.out]; exact HP44.1); clear HP44; have n0_ := aM (Kd.N_afterv (v := (.slice (some ⟨go42, 0, none⟩) x13_2.length co42)) (v1 := (.slice (some ⟨go42, 0, none⟩) x13_2.length co42)) (ok := (fun k_ => (w.heap.size ≤ k_) ∧ k_ ≠ gb183)) (by (with_reducible repeat (first | apply Kd.N_alloc | apply Kd.N_drewN | apply Kd.N_drew)); exact Kd.N_mono HO_11.out (fun _ hk => ⟨⟨hk.1, hk.2.2⟩, hk.2.1⟩)) hg (.inl rfl)); have n1_ := aM (hp_); have n2_ := aM (blk_grown (g := gb183) (o := .cells #[.int .i64 ((rd_T25 l0 x14_2).f0), .int .i64 ((rd_T25 l0 x14_2).f1), .int .i64 ((rd_T25 l0 x14_2).f2), .int .i64 ((rd_T25 l0 x14_2).f3), .int .i64 ((rd_T25 l0 x14_2).f4), .int .i64 ((rd_T25 l0 x14_2).f5), .bool ((rd_T25 l0 x14_2).f6)] 25 (0, 0)) (by exact pk BK183.out) hg (Kd.R_ne HO_13.out BK183.out (by decide))); have n3_ := aM ((by rw [hw]; exact below_set (HB.out) GB42.out : Below w.heap.size w w45)); clear HO_11; clear HO_13; clear BK183; clear HB; have HO_11 := n0_; have HO_13 := n1_; have BK183 := n2_; have HB := n3_; clear n0_ n1_ n2_ n3_; clear hg hw hp_))
               go_roundg kj17
               case measure => have := HK1.out; have := HK2.out; have := HJ17.out; omega
               case rel => exact ⟨(y187), (wrap64 (x14_2 + 1)), (by first | rfl | (simp; done) | (simp [*]; done)), H', ⟨by have := HK1.out; have := HK2.out; have := HJ17.out; omega⟩, ⟨by (with_reducible repeat (first | apply Kd.N_alloc | apply Kd.N_drewN | apply Kd.N_drew)); exact Kd.N_mono HO_11.out (fun _ hk => ⟨hk.1.1, hk.2⟩)⟩, ⟨by (with_reducible repeat (first | apply Kd.R_alloc | apply Kd.R_drewN | apply Kd.R_drew)); exact HO_13.out⟩, ⟨by repeat (first | (with_reducible first | exact HB.out | apply eA | apply eN | apply eD | refine eS ?_ GE183.out) | exact HB.out)⟩⟩
              ·rw [if_neg c41] at H
               exact absurd H (by simp)
             ·rw [if_neg c40] at H
              exact absurd H (by simp)
            ·replace c39 := Bool.eq_false_iff.mpr c39
             subst c39
             have H1 : (spec_l05Reach.l1 kj17 l0 a2 a3 a4 x11_1 x12_1 x13_2 (wrap64 (x14_2 + 1))) = some r := by rw [if_neg (show ¬ (false = true) by decide)] at H; exact H
             clear H
             have H := H1
             clear H1
             have H' := aM H
             clear H
             go_wp2
             go_roundg kj17
             case measure => have := HK1.out; have := HK2.out; have := HJ17.out; omega
             case rel => exact ⟨(x13_2), (wrap64 (x14_2 + 1)), (by first | rfl | (simp; done) | (simp [*]; done)), H', ⟨by have := HK1.out; have := HK2.out; have := HJ17.out; omega⟩, ⟨by (with_reducible repeat (first | apply Kd.N_alloc | apply Kd.N_drewN | apply Kd.N_drew)); exact Kd.N_mono HO_11.out (fun _ hk => ⟨hk.1, hk.2.1⟩)⟩, ⟨by (with_reducible repeat (first | apply Kd.R_alloc | apply Kd.R_drewN | apply Kd.R_drew)); exact HO_13.out⟩, ⟨by repeat (first | (with_reducible first | exact HB.out | apply eA | apply eN | apply eD | refine eS ?_ GE183.out) | exact HB.out)⟩⟩
         ·rw [if_neg c17] at H
          exact absurd H (by simp)
        ·rw [if_neg c16] at H
         have c16b0 : decide (x14_2 < (l0.length : Int)) = false := decide_eq_false c16
         clear c16
         by_cases c46 : x11_1.length < 5864062014805
         ·rw [if_pos c46] at H
          have LMc46 := aM c46
          clear c46
          obtain ⟨y179, hy179⟩ : ∃ y_ : List (List Bool), y_ = (x11_1 ++ [x13_2]) := ⟨_, rfl⟩
          replace H : (spec_l05Reach.l0 k2 l0 a2 a3 a4 y179 (wrap64 (x12_1 + 1))) = some r := by first | (rw [hy179]; with_reducible exact H) | (have H2_ := (Option.bind_some _ _).symm.trans H; rw [hy179]; with_reducible exact H2_) | (have H2_ := (Option.bind_some _ _).symm.trans H; with_reducible exact H2_) | with_reducible exact H | (rw [hy179]; exact H) | exact H
          have Ny179 := aM hy179
          clear hy179
          have H' := aM H
          clear H
          obtain ⟨Ao48, co48, eo48⟩ := Kd.R_slice HO_13.out
          subst eo48
          go_wp2_with (first | ((with_reducible refine gate_builtin (b := .append) (xs := #[.tmp 66, .tmp 68]) rfl ?_); at_builtin; refine Kd.N_append (Kd.slice 4 Kd.bool) (w0 := w) w.heap.size rfl (.tmp 66) (.tmp 68) 68 71 (.slice none 0 0) 24 rfl Try.underlying68 info71 rfl (by decide) (by omega) (.slice A11_ x11_1.length c11_) x11_1 x13_2 [.slice Ao48 x13_2.length co48] (fun k_ => (w.heap.size ≤ k_)) (fun k_ => ((fun k_ => (w.heap.size ≤ k_))) k_ ∧ some k_ ≠ ((.slice A11_ x11_1.length c11_) : Value).ownBlock) rfl rfl ?aP (fun _ hk => hk) ?aF ?aO ?aB ?aS ?aL ?_; (case aP => exact (Kd.FK_slice_mk (Kd.R_reads' (Kd.R_mono (ok' := (fun k_ => ((fun k_ => (w.heap.size ≤ k_))) k_ ∧ some k_ ≠ ((.slice A11_ x11_1.length c11_) : Value).ownBlock)) (Kd.R_apart' (HO_13.out) (Kd.N_typed HO_11.out) (by decide)) (fun k_ hk => ⟨hk.1, hk.2⟩))).2.1 (Kd.R_F (Kd.R_mono (ok' := (fun k_ => ((fun k_ => (w.heap.size ≤ k_))) k_ ∧ some k_ ≠ ((.slice A11_ x11_1.length c11_) : Value).ownBlock)) (Kd.R_apart' (HO_13.out) (Kd.N_typed HO_11.out) (by decide)) (fun k_ hk => ⟨hk.1, hk.2⟩))))); (case aB => exact (by repeat (first | (with_reducible first | exact HB.out | apply eA | apply eN | apply eD) | exact HB.out))); (case aF => exact (fun k_ hk => (Nat.le_trans (below_size (by repeat (first | (with_reducible first | exact HB.out | apply eA | apply eN | apply eD) | exact HB.out))) hk))); (case aO => exact (by (with_reducible repeat (first | apply Kd.N_alloc | apply Kd.N_drewN | apply Kd.N_drew)); exact Kd.N_mono HO_11.out (fun _ hk => hk.1))); (case aS => exact (below_size (by repeat (first | (with_reducible first | exact HB.out | apply eA | apply eN | apply eD) | exact HB.out)))); (case aL => have := LMc46.out; omega); intro v180 w47 ho hb hg hat; rw [← Ny179.out] at ho; have n0_ := aM (hb); have n1_ := aM (ho); clear HB; clear HO_11; clear HO_13; have HB := n0_; have HO181 := n1_; clear n0_ n1_; clear ho hb hg hat))
          go_roundg k2
          case measure => have := HK1.out; have := HK2.out; omega
          case rel => exact ⟨(y179), (wrap64 (x12_1 + 1)), (by first | rfl | (simp; done) | (simp [*]; done)), H', ⟨by have := HK1.out; have := HK2.out; omega⟩, ⟨by (with_reducible repeat (first | apply Kd.N_alloc | apply Kd.N_drewN | apply Kd.N_drew)); exact HO181.out⟩, ⟨by repeat (first | (with_reducible first | exact HB.out | apply eA | apply eN | apply eD) | exact HB.out)⟩⟩
         ·rw [if_neg c46] at H
          exact absurd H (by simp)
     ·rw [if_neg c13] at H
      exact absurd H (by simp)
    ·rw [if_neg c12] at H
     have c12b0 : decide (x12_1 ≤ 6) = false := decide_eq_false c12
     clear c12
     obtain rfl := Option.some.inj H
     go_wp2
     go_ret
     exact ⟨_, by first | rfl | (simp [errW_none, errW_some] <;> rfl) | (simp [*, errW_none, errW_some] <;> rfl), by (with_reducible repeat (first | apply Kd.N_alloc | apply Kd.N_drewN | apply Kd.N_drew)); exact HO_11.out, by repeat (first | (with_reducible first | exact HB.out | apply eA | apply eN | apply eD) | exact HB.out)⟩
 ·rw [if_neg c9] at H
  exact absurd H (by simp)


end Go.Proofs.Ytcpjfkagbnoagaa.QFnGranting
