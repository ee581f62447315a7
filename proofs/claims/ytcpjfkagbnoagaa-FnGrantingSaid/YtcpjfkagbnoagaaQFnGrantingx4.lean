-- Printed functions and their walks: by print.py, turned by wip/tools/myprint.py.
import Derived.Test.YtcpjfkagbnoagaaQFnGrantingx0
import Derived.Test.YtcpjfkagbnoagaaQFnGrantingx2
import Derived.Test.YtcpjfkagbnoagaaQFnGrantingx3
namespace Go.Proofs.Ytcpjfkagbnoagaa.QFnGranting
open Go.RowKit Go.Proofs.YtcpjfkagbnoagaaW.PrintWords Go.Proofs.YtcpjfkagbnoagaaW.PrintLast Go.Proofs.YtcpjfkagbnoagaaW.PrintMore
attribute [local go_sem] max2_int min2_int max_two min_two max_three min_three max_four min_four   -- for this text's walks alone
set_option linter.unusedVariables false
set_option linter.unusedSimpArgs false

/-! ### impl_chain: function 71, walked by hand -/
/-- Block r is a map from whole numbers to true, with just the keys of S. -/
def IsMap (W : World) (r : Nat) (S : Int → Bool) : Prop :=
  ∃ es clock, W.heap[r]? = some (.map es clock) ∧ (∀ e ∈ es.toList, ∃ k, e.key = .int .i64 k ∧ e.val = .bool true) ∧ ∀ k, S k = true ↔ ∃ e ∈ es.toList, e.key = .int .i64 k
theorem isKey_int {q : IntKind} (k : Int) : MapKept.IsKey (.int q) (.int q k) := by simp [MapKept.IsKey]
theorem IsMap.lt {W : World} {r : Nat} {S : Int → Bool} (h : IsMap W r S) : r < W.heap.size := by
  obtain ⟨es, clock, hb, _⟩ := h
  exact (Array.getElem?_eq_some_iff.1 hb).1
theorem IsMap.step {W W' : World} {r : Nat} {S : Int → Bool} (h : IsMap W r S) (hb : W'.heap[r]? = W.heap[r]?) : IsMap W' r S := by
  obtain ⟨es, clock, h1, h2⟩ := h
  exact ⟨es, clock, hb.trans h1, h2⟩
theorem IsMap.below {W W' : World} {r : Nat} {S : Int → Bool} (h : IsMap W r S) (hb : Below W.heap.size W W') : IsMap W' r S := h.step (hb.block r h.lt)
theorem IsMap.grown {W W' : World} {r : Nat} {row : Option Nat} {S : Int → Bool} (h : IsMap W r S) (hg : W.grownBy W' row) (hne : some r ≠ row) : IsMap W' r S := h.step (hg.block r h.lt hne)
theorem IsMap.congr {W : World} {r : Nat} {S S' : Int → Bool} (h : IsMap W r S) (he : ∀ k, S k = S' k) : IsMap W r S' := by
  obtain ⟨es, clock, h1, h2, h3⟩ := h
  exact ⟨es, clock, h1, h2, fun k => by rw [← he]; exact h3 k⟩
/-- A row's block is no map's. -/
theorem IsMap.ne_row {α : Type} {d : Kd α} {e base : Nat} {ok : Nat → Prop} {W : World} {v : Value} {xs : List α} {r : Nat} {S : Int → Bool} (h : IsMap W r S) (hr : d.R e W base ok v xs) : some r ≠ v.ownBlock := by
  intro he
  obtain ⟨cells, hc⟩ := Kd.R_typed hr r he.symm
  obtain ⟨es, clock, h1, _⟩ := h
  rw [hc] at h1
  cases h1
theorem IsMap.ne_cells {W : World} {r g t : Nat} {cs : Array Value} {z : Nat × Nat} {S : Int → Bool} (h : IsMap W r S) (hg : W.heap[g]? = some (.cells cs t z)) : r ≠ g := by
  rintro rfl
  obtain ⟨es, clock, h1, _⟩ := h
  rw [hg] at h1
  cases h1
theorem IsMap.made (W : World) : IsMap (W.alloc (.map #[] 0)) W.heap.size (fun _ => false) := by
  refine ⟨#[], 0, (MapKept.heap_alloc W _).1, by simp, fun k => by simp⟩
theorem zero4 (W : World) : (zeroValue 4).run Try.prog W = .ok (.bool false) W := by
  obtain ⟨i0, hi, hz0, hz1, hz2⟩ := info_parts info4
  simp [zeroValue, typeInfo, hi, hz0, Result.andThen]
theorem IsMap.lookup {W : World} {r : Nat} {S : Int → Bool} (h : IsMap W r S) (k : Int) : (Instr.lookup 80 (.map (some r)) (.int .i64 k) false).run Try.prog W = .ok (.bool (S k)) W := by
  obtain ⟨es, clock, hb, hk, hS⟩ := h
  have h80 := Try.underlying80
  have h3 := Try.underlying3
  have hkeys : ∀ x ∈ es.toList, MapKept.IsKey (.int .i64) x.key := fun x hx => by
    obtain ⟨k', e1, _⟩ := hk x hx
    rw [e1]; exact isKey_int k'
  rcases MapKept.findNow_spec (isKey_int (q := .i64) k) es.toList 0 hkeys with ⟨h1, h2⟩ | ⟨j, e, h1, h2, h3'⟩
  · have hf : S k = false := by
      cases hs : S k with
      | false => rfl
      | true => obtain ⟨e, he, hek⟩ := (hS k).1 hs; exact absurd hek (h2 e he)
    unfold Instr.lookup
    simp [run_underlying h80, Result.andThen, MapKept.run_getObj_map hb, MapKept.run_checkKey h3 (isKey_int k), MapKept.run_findKey h3 h1, zero4, hf]
  · have hm : e ∈ es.toList := List.mem_of_getElem? h2
    have ht : S k = true := (hS k).2 ⟨e, hm, h3'⟩
    obtain ⟨k', _, hv⟩ := hk e hm
    unfold Instr.lookup
    simp [run_underlying h80, Result.andThen, MapKept.run_getObj_map hb, MapKept.run_checkKey h3 (isKey_int k), MapKept.run_findKey h3 h1, hv, ht]
theorem IsMap.update {W : World} {r : Nat} {S : Int → Bool} (h : IsMap W r S) (k : Int) : ∃ W', (Instr.mapUpdate 80 (.map (some r)) (.int .i64 k) (.bool true)).run Try.prog W = .ok () W' ∧ IsMap W' r (fun x => S x || x == k) ∧ W.grownBy W' (some r) := by
  obtain ⟨es, clock, hb, hk, hS⟩ := h
  have h80 := Try.underlying80
  have h3 := Try.underlying3
  have hkeys : ∀ x ∈ es.toList, MapKept.IsKey (.int .i64) x.key := fun x hx => by
    obtain ⟨k', e1, _⟩ := hk x hx
    rw [e1]; exact isKey_int k'
  have hset : ∀ o : Obj, W.grownBy { W with heap := W.heap.setIfInBounds r o } (some r) := fun o => ⟨rfl, rfl, rfl, by simp, fun i _ hi => (MapKept.heap_set hb).2 i (fun e => hi (by rw [e]))⟩
  rcases MapKept.findNow_spec (isKey_int (q := .i64) k) es.toList 0 hkeys with ⟨h1, h2⟩ | ⟨j, e, h1, h2, h3'⟩
  · refine ⟨{ W with heap := W.heap.setIfInBounds r (.map (es.push { key := .int .i64 k, val := .bool true, born := clock }) (clock + 1)) }, ?_, ⟨_, _, (MapKept.heap_set hb).1, ?_, ?_⟩, hset _⟩
    · unfold Instr.mapUpdate
      simp [run_underlying h80, Result.andThen, MapKept.run_getObj_map hb, MapKept.run_checkKey h3 (isKey_int k), MapKept.run_findKey h3 h1, MapKept.run_setObj_map _ hb]
    · intro x hx
      simp only [Array.toList_push, List.mem_append, List.mem_singleton] at hx
      rcases hx with hx | rfl
      · exact hk x hx
      · exact ⟨k, rfl, rfl⟩
    · intro y
      simp only [Array.toList_push, List.mem_append, List.mem_singleton, Bool.or_eq_true, beq_iff_eq]
      constructor
      · rintro (hy | rfl)
        · obtain ⟨e, he, hek⟩ := (hS y).1 hy; exact ⟨e, .inl he, hek⟩
        · exact ⟨_, .inr rfl, rfl⟩
      · rintro ⟨e, he | rfl, hek⟩
        · exact .inl ((hS y).2 ⟨e, he, hek⟩)
        · right; injection hek with _ hek; exact hek.symm
  · have hm : e ∈ es.toList := List.mem_of_getElem? h2
    have hSk : S k = true := (hS k).2 ⟨e, hm, h3'⟩
    obtain ⟨k', hek, hv⟩ := hk e hm
    have hj : es[j]? = some e := by rw [← h2]; simp
    have hkk : e.key = .int .i64 k := h3'
    have hmod : es.modify j (fun e' => { e' with key := .int .i64 k, val := .bool true }) = es := by
      apply Array.ext_getElem?
      intro i
      rw [Array.getElem?_modify]
      split
      · rename_i hij
        subst hij
        rw [hj]
        simp only [Option.map_some]
        congr 1
        rw [← hkk, ← hv]
      · rfl
    refine ⟨{ W with heap := W.heap.setIfInBounds r (.map es clock) }, ?_, ⟨_, _, (MapKept.heap_set hb).1, hk, ?_⟩, hset _⟩
    · unfold Instr.mapUpdate
      simp [run_underlying h80, Result.andThen, MapKept.run_getObj_map hb, MapKept.run_checkKey h3 (isKey_int k), MapKept.run_findKey h3 h1, hj, hkk, Instr.keyThatStays, Instr.sameBits, MapKept.run_setObj_map _ hb, hmod]
    · intro y
      rw [← hS y]
      constructor
      · intro h; simp only [Bool.or_eq_true, beq_iff_eq] at h
        rcases h with h | rfl
        · exact h
        · exact hSk
      · intro h; simp [h]
section
variable {P : Program} {ops : Array Oper} {rest : List Oper} {o : Oper} {a : Act} {Q : Exit → Act → World → Prop}
theorem makeMap_event {W : World} (hgd : o.guard = none) {N : Tmp} (_hd : o.dst = some N) (hop : o.op = .makeMap 80 none)
    (h : ∀ r w1, r = W.heap.size → IsMap w1 r (fun _ => false) → Below W.heap.size W w1 → wpList P ops Q rest (a.put o.dst (.map (some r))) w1) : wpList P ops Q (o :: rest) a W := by
  refine Kd.event_run hgd (w1 := W.alloc (.map #[] 0)) (v := .map (some W.heap.size)) ?_ (h _ _ rfl (IsMap.made W) (below_alloc (Below.refl _ _) _))
  simp [execOp, hop, run_makeMap, Result.andThen]
theorem mapPut_event {ops : Array Oper} {rest : List Oper} {o : Oper} {a : Act} {Q : Exit → Act → World → Prop} {W : World} {r : Nat} {S : Int → Bool} {m x v : Operand} (hgd : o.guard = none) (hop : o.op = .mapUpdate 80 m x v ∨ o.op = .insert 80 m x v) (k : Int)
    (hm : a.eval m = .map (some r)) (hx : a.eval x = .int .i64 k) (hv : a.eval v = .bool true) (hS : IsMap W r S)
    (hK : ∀ w1, IsMap w1 r (fun z => S z || z == k) → W.grownBy w1 (some r) → wpList Try.prog ops Q rest (a.put o.dst undef) w1) : wpList Try.prog ops Q (o :: rest) a W := by
  refine wpList_plain hgd fun K' hK' => ?_
  obtain ⟨w1, hrun, h1, h2⟩ := hS.update k
  unfold Oper.wp
  rcases hop with hop | hop <;> (simp [execOp, hop, hm, hx, hv, hrun, Result.andThen]; exact hK' _ _ (hK w1 h1 h2))
end
/-- The maps of a list of blocks, one after the other. -/
def MapsOk (W : World) (B : Nat) (ms : List Nat) (F : Nat → Int → Bool) : Prop := ∀ j r : Nat, ms[j]? = some r → B ≤ r ∧ IsMap W r (F j)
theorem MapsOk.below {W W' : World} {B : Nat} {ms : List Nat} {F : Nat → Int → Bool} (h : MapsOk W B ms F) (hb : Below W.heap.size W W') : MapsOk W' B ms F := fun j r hj => ⟨(h j r hj).1, (h j r hj).2.below hb⟩
theorem MapsOk.grown_row {α : Type} {d : Kd α} {e base : Nat} {ok : Nat → Prop} {v : Value} {xs : List α} {W W' : World} {B : Nat} {ms : List Nat} {F : Nat → Int → Bool} (h : MapsOk W B ms F) (hr : d.R e W base ok v xs) (hg : W.grownBy W' v.ownBlock) : MapsOk W' B ms F :=
  fun j r hj => ⟨(h j r hj).1, (h j r hj).2.grown hg ((h j r hj).2.ne_row hr)⟩
theorem MapsOk.grown_cells {W W' : World} {g t : Nat} {cs : Array Value} {z : Nat × Nat} {B : Nat} {ms : List Nat} {F : Nat → Int → Bool} (h : MapsOk W B ms F) (hb : W.heap[g]? = some (.cells cs t z)) (hg : W.grownBy W' (some g)) : MapsOk W' B ms F :=
  fun j r hj => ⟨(h j r hj).1, (h j r hj).2.grown hg (fun e => (h j r hj).2.ne_cells hb (by injection e))⟩
theorem MapsOk.grown_map {W W' : World} {r : Nat} {B : Nat} {ms : List Nat} {F : Nat → Int → Bool} (h : MapsOk W B ms F) (hne : ∀ j s : Nat, ms[j]? = some s → s ≠ r) (hg : W.grownBy W' (some r)) : MapsOk W' B ms F :=
  fun j s hj => ⟨(h j s hj).1, (h j s hj).2.grown hg (fun e => hne j s hj (by injection e))⟩
theorem MapsOk.snoc {W : World} {B r : Nat} {ms : List Nat} {F : Nat → Int → Bool} (h : MapsOk W B ms F) (hB : B ≤ r) (hr : IsMap W r (F ms.length)) : MapsOk W B (ms ++ [r]) F := by
  intro j s hj
  rcases Nat.lt_or_ge j ms.length with hl | hl
  · rw [List.getElem?_append_left hl] at hj; exact h j s hj
  · rw [List.getElem?_append_right hl] at hj
    have : j = ms.length := by
      rcases Nat.lt_or_ge (j - ms.length) 1 with h1 | h1
      · omega
      · rw [List.getElem?_eq_none (by simpa using h1)] at hj; cases hj
    subst this
    simp at hj; subst hj; exact ⟨hB, hr⟩
/-- A row's block stands while a map is written. -/
theorem R_mapPut {α : Type} {d : Kd α} {e base r : Nat} {ok : Nat → Prop} {v : Value} {xs : List α} {W W' : World} {S : Int → Bool} (h : d.R e W base ok v xs) (hm : IsMap W r S) (hg : W.grownBy W' (some r)) : d.R e W' base ok v xs := by
  refine Kd.R_mono (Kd.R_move (Kd.R_bound h) (fun k hk => hg.block k hk.2.2.1 (fun he => ?_))) (fun _ hk => hk.1)
  obtain ⟨_, _, _, q, _, cells, hc⟩ := hk
  injection he with he
  subst he
  obtain ⟨es, clock, h1, _⟩ := hm
  rw [hc] at h1
  cases h1
theorem blk_mapPut {r g t : Nat} {cs : Array Value} {z : Nat × Nat} {W W' : World} {S : Int → Bool} (h : W.heap[g]? = some (.cells cs t z)) (hm : IsMap W r S) (hg : W.grownBy W' (some r)) : W'.heap[g]? = some (.cells cs t z) :=
  (hg.block g (blk_lt h) (fun he => hm.ne_cells h (by injection he with he; exact he.symm))).trans h
abbrev fillW (W : World) (g : Nat) (x : S25) : World := ((((((W.setCell ⟨g, 0, none⟩ (.int .i64 x.f0)).setCell ⟨g, 1, none⟩ (.int .i64 x.f1)).setCell ⟨g, 2, none⟩ (.int .i64 x.f2)).setCell ⟨g, 3, none⟩ (.int .i64 x.f3)).setCell ⟨g, 4, none⟩ (.int .i64 x.f4)).setCell ⟨g, 5, none⟩ (.int .i64 x.f5)).setCell ⟨g, 6, none⟩ (.bool x.f6)
theorem fill_blk {W : World} {g : Nat} {x : S25} (h : W.heap[g]? = some (.cells #[.int .i64 0, .int .i64 0, .int .i64 0, .int .i64 0, .int .i64 0, .int .i64 0, .bool false] 25 (0, 0))) :
    (fillW W g x).heap[g]? = some (.cells #[.int .i64 x.f0, .int .i64 x.f1, .int .i64 x.f2, .int .i64 x.f3, .int .i64 x.f4, .int .i64 x.f5, .bool x.f6] 25 (0, 0)) :=
  blk_put (blk_put (blk_put (blk_put (blk_put (blk_put (blk_put h 0 _ rfl) 1 _ rfl) 2 _ rfl) 3 _ rfl) 4 _ rfl) 5 _ rfl) 6 _ rfl
theorem grown_trans_row {W W1 W2 : World} {g : Nat} (h1 : W.grownBy W1 (some g)) (h2 : W1.grownBy W2 (some g)) : W.grownBy W2 (some g) := h1.trans h2
theorem grown_cell (W : World) (g j : Nat) (v : Value) : W.grownBy (W.setCell ⟨g, j, none⟩ v) (some g) :=
  ⟨rfl, rfl, rfl, by simp [World.setCell], fun k _ hne => Below.heap_setCell W ⟨g, j, none⟩ v k (fun e => hne (by rw [e]))⟩
theorem fill_grown (W : World) (g : Nat) (x : S25) : W.grownBy (fillW W g x) (some g) :=
  (((((( grown_cell W g 0 _).trans (grown_cell _ g 1 _)).trans (grown_cell _ g 2 _)).trans (grown_cell _ g 3 _)).trans (grown_cell _ g 4 _)).trans (grown_cell _ g 5 _)).trans (grown_cell _ g 6 _)
/-- A row of maps: their blocks. -/
def kMap : Kd Nat := Kd.scalar (fun r : Nat => Value.map (some r)) (fun _ => rfl)
theorem kMap_cell {W : World} {base go n' co : Nat} {ok : Nat → Prop} {ms : List Nat} (h : kMap.R 80 W base ok (.slice (some ⟨go, 0, none⟩) n' co) ms) {n r : Nat} (hn : ms[n]? = some r) (i : Int) (hi : i = (n : Int)) : W.cell? ⟨go, i.toNat, none⟩ = some (.map (some r)) := by
  have hl : n < ms.length := (List.getElem?_eq_some_iff.1 hn).1
  have he : n' = ms.length := (Kd.R_reads' h).1
  have h2 := (Kd.R_celln (enc := fun r : Nat => Value.map (some r)) (0 : Nat) h i (by omega) (by omega)).1
  rw [h2, hi]
  simp [rdOf, hn]
/-- A row stands while a block of another type is written. -/
theorem R_cells {α : Type} {d : Kd α} {e base g t : Nat} {cs : Array Value} {ok : Nat → Prop} {v : Value} {xs : List α} {W W' : World} (h : d.R e W base ok v xs) (hb : W.heap[g]? = some (.cells cs t (0, 0))) (ht : ∀ q, q ∈ e :: d.E → q ≠ t) (hg : W.grownBy W' (some g)) : d.R e W' base ok v xs :=
  Kd.R_mono (Kd.R_move (Kd.R_bound (Kd.R_types h hb ht)) (fun k hk => hg.block k hk.2.2.1 (fun he => hk.1.2 (by injection he)))) (fun _ hk => hk.1.1)
theorem keepC {W W' : World} {p : Addr} {v : Value} (hb : Below W.heap.size W W') (h : W.cell? p = some v) : W'.cell? p = some v := (hb.cell (World.block_lt_of_cell? W _ h)).trans h
theorem any_take {α : Type} (f : α → Bool) {l : List α} {i : Nat} {y : α} (h : l[i]? = some y) : (l.take (i + 1)).any f = ((l.take i).any f || f y) := by
  rw [List.take_add_one, h, List.any_append]; simp
theorem MapsOk.drew {W : World} {B : Nat} {ms : List Nat} {F : Nat → Int → Bool} (h : MapsOk W B ms F) : MapsOk W.drew B ms F := fun j r hj => ⟨(h j r hj).1, (h j r hj).2.step rfl⟩
theorem IsMap.drew {W : World} {r : Nat} {S : Int → Bool} (h : IsMap W r S) : IsMap W.drew r S := h.step rfl
theorem fill_event {ops : Array Oper} {rest : List Oper} {o : Oper} {a : Act} {Q : Exit → Act → World → Prop} {W : World} {g : Nat} {y : S25} (p : Tmp) (v : Operand) (hgd : o.guard = none) (ho : o.op = .store 25 (.tmp p) v) (hN : o.dst = none)
    (hp : a.eval (.tmp p) = .pointer (some ⟨g, 0, none⟩)) (hv : a.eval v = .agg #[.int .i64 y.f0, .int .i64 y.f1, .int .i64 y.f2, .int .i64 y.f3, .int .i64 y.f4, .int .i64 y.f5, .bool y.f6])
    (hb : W.heap[g]? = some (.cells #[.int .i64 0, .int .i64 0, .int .i64 0, .int .i64 0, .int .i64 0, .int .i64 0, .bool false] 25 (0, 0)))
    (h : ∀ w1, w1.heap[g]? = some (.cells #[.int .i64 y.f0, .int .i64 y.f1, .int .i64 y.f2, .int .i64 y.f3, .int .i64 y.f4, .int .i64 y.f5, .bool y.f6] 25 (0, 0)) → W.grownBy w1 (some g) → wpList Try.prog ops Q rest a w1) : wpList Try.prog ops Q (o :: rest) a W := by
  obtain ⟨hcz0, hcz1, hcz2, hcz3, hcz4, hcz5, hcz6, hfz0, hfz1, hfz2, hfz3, hfz4, hfz5, hfz6⟩ := cells7 hb
  have hu25 := Try.underlying25
  refine store_event (t := 25) (p := p) (v := v) (w1 := fillW W g y) hgd ho hN ?_ (fun w' hw => h w' (by rw [hw]; exact fill_blk hb) (by rw [hw]; exact fill_grown _ _ _))
  unfold execOp
  rw [ho]
  simp only [hp, hv]
  first | (go_simp; done) | (go_simp; rfl)
theorem info80 : (Try.prog.info? 80).map (fun i => (i.zero, i.size, i.bytes)) = some (some (.map none), 1, 8) := by kernel_rfl
theorem info3_ : (Try.prog.info? 3).map (fun i => (i.zero, i.size, i.bytes)) = some (some (.int .i64 0), 1, 8) := by kernel_rfl
def ap (parcel now : Int) (g : S25) : Bool := (impl_Applies.f g.f0 g.f1 g.f2 g.f3 g.f4 g.f5 g.f6 parcel now).getD false
theorem within_ex (a b c : Int) : ∃ r, impl_within.f a b c = some r := by unfold impl_within.f; split <;> exact ⟨_, rfl⟩
theorem person_ex (a : Int) : ∃ r, impl_personOk.f a = some r := by obtain ⟨r, h⟩ := within_ex a 1 40; exact ⟨r, by unfold impl_personOk.f; rw [h]; rfl⟩
theorem time_ex (a : Int) : ∃ r, impl_timeOk.f a = some r := by obtain ⟨r, h⟩ := within_ex a 0 20000; exact ⟨r, by unfold impl_timeOk.f; rw [h]; rfl⟩
theorem grant_ex (a b c d e f : Int) (g : Bool) : ∃ r, impl_GrantOk.f a b c d e f g = some r := by
  obtain ⟨r1, h1⟩ := person_ex a
  obtain ⟨r2, h2⟩ := person_ex b
  obtain ⟨r3, h3⟩ := within_ex c 0 999
  obtain ⟨r4, h4⟩ := within_ex d 0 5
  obtain ⟨r5, h5⟩ := time_ex e
  obtain ⟨r6, h6⟩ := time_ex f
  unfold impl_GrantOk.f
  simp only [h1, h2, h3, h4, h5, h6, Option.bind_some]
  repeat' split
  all_goals exact ⟨_, rfl⟩
theorem ap_some (parcel now : Int) (g : S25) : impl_Applies.f g.f0 g.f1 g.f2 g.f3 g.f4 g.f5 g.f6 parcel now = some (ap parcel now g) := by
  obtain ⟨r, h⟩ : ∃ r, impl_Applies.f g.f0 g.f1 g.f2 g.f3 g.f4 g.f5 g.f6 parcel now = some r := by
    obtain ⟨r1, h1⟩ := grant_ex g.f0 g.f1 g.f2 g.f3 g.f4 g.f5 g.f6
    unfold impl_Applies.f
    simp only [h1, Option.bind_some]
    repeat' split
    all_goals exact ⟨_, rfl⟩
  unfold ap
  rw [h]; rfl
abbrev rch (l : List S25) (parcel now who sp : Int) (n : Nat) (p : Int) : Bool := Rt.reach (·.f0) (·.f1) (·.f3) (ap parcel now) l who sp n p
abbrev nxt (l : List S25) (parcel now who sp : Int) (n : Nat) (p : Int) (g : S25) : Bool := ap parcel now g && (decide (g.f3 ≥ (n : Int) + sp) && (rch l parcel now who sp n g.f1 && decide (g.f0 = p)))
abbrev hopB (l : List S25) (parcel now who sp : Int) (k : Nat) (at_ : Int) (g : S25) : Bool := Rt.hop (·.f0) (·.f1) (·.f3) (ap parcel now) l who sp k at_ g
theorem hop_eval {l : List S25} {parcel now who sp at_ : Int} {k : Nat} {y : S25} {b0 bA bD bR : Bool} (h0 : decide (y.f0 = at_) = b0) (hA : ap parcel now y = bA) (hD : decide (y.f3 ≥ (k : Int) + sp) = bD) (hR : rch l parcel now who sp k y.f1 = bR) : hopB l parcel now who sp k at_ y = (b0 && (bA && (bD && bR))) := by
  subst h0 hA hD hR; rfl
theorem no_hop {l : List S25} {parcel now who sp at_ : Int} {k i : Nat} {y : S25} (h : ∀ j g, j < i → l[j]? = some g → hopB l parcel now who sp k at_ g = false) (hy : l[i]? = some y) (hn : hopB l parcel now who sp k at_ y = false) :
    ∀ j g, j < i + 1 → l[j]? = some g → hopB l parcel now who sp k at_ g = false := by
  intro j g hj hg
  by_cases e : j = i
  · subst e
    rw [hy] at hg
    cases hg
    exact hn
  · exact h j g (by omega) hg
theorem path_hop {l : List S25} {parcel now who sp at_ ii : Int} {k i : Nat} {y : S25} {out : List Int} (h : ∀ j g, j < i → l[j]? = some g → hopB l parcel now who sp k at_ g = false) (hy : l[i]? = some y) (hn : hopB l parcel now who sp k at_ y = true) (hi : ii = (i : Int)) :
    Rt.path (·.f0) (·.f1) (·.f3) (ap parcel now) l who sp (k + 1) at_ out = Rt.path (·.f0) (·.f1) (·.f3) (ap parcel now) l who sp k y.f1 (out ++ [ii]) := by
  have hl : i < l.length := (List.getElem?_eq_some_iff.1 hy).1
  have hf : l.findIdx? (Rt.hop (·.f0) (·.f1) (·.f3) (ap parcel now) l who sp k at_) = some i := by
    rw [List.findIdx?_eq_some_iff_getElem]
    refine ⟨hl, ?_, fun j hj => ?_⟩
    · have := (List.getElem?_eq_some_iff.1 hy).2
      rw [this]; exact hn
    · have := h j l[j] hj (List.getElem?_eq_getElem (by omega))
      simpa using this
  simp only [Rt.path, hf, hy, hi]
theorem path_none {l : List S25} {parcel now who sp at_ : Int} {k : Nat} {out : List Int} (h : ∀ (j : Nat) (g : S25), l[j]? = some g → hopB l parcel now who sp k at_ g = false) :
    Rt.path (·.f0) (·.f1) (·.f3) (ap parcel now) l who sp (k + 1) at_ out = Rt.path (·.f0) (·.f1) (·.f3) (ap parcel now) l who sp k at_ out := by
  have hf : l.findIdx? (Rt.hop (·.f0) (·.f1) (·.f3) (ap parcel now) l who sp k at_) = none := by
    rw [List.findIdx?_eq_none_iff]
    intro x hx
    obtain ⟨j, hj⟩ := List.mem_iff_getElem?.1 hx
    exact h j x hj
  simp only [Rt.path, hf]
def impl_chain.f (l0 : List (S25)) (a1 : Int) (a2 : Int) (a3 : Int) (a4 : Int) (a5 : Int) : Option (List Int × Bool) :=
  if l0.length ≤ 1000000 ∧ 0 ≤ a5 ∧ a5 ≤ 1000000 then some (Rt.chain (·.f0) (·.f1) (·.f3) (ap a3 a4) l0 a2 a5 a1) else none
def impl_chain.T15 : Bool × List (List Nat × List Nat) := (true, [([], []), ([0], [0]), ([], []), ([1, 2], [1, 2]), ([3], [3]), ([4], [4]), ([4], [4]), ([4], [4]), ([5, 6, 7, 4, 4], [4, 5, 6, 7]), ([4, 8], [4, 8]), ([9, 8], [9]), ([10], [10]), ([11, 10], [10, 11]), ([10], [10]), ([13, 10], [10, 13]), ([10], [10]), ([14, 15, 10], [10, 14, 15]), ([12, 16, 10], [10, 12, 16]), ([10, 17], [10, 17]), ([18, 10], [18]), ([19], [19]), ([19], [19]), ([21, 19], [19, 21]), ([20, 22, 19], [19, 20, 22]), ([23, 19], [19, 23]), ([19], [19]), ([25, 19], [19, 25]), ([24, 26, 19], [19, 24, 26]), ([19, 27], [19, 27])])
def impl_chain.B15 : List Nat := [0, 1, 0, 7, 15, 31, 31, 31, 255, 511, 1023, 2047, 4095, 2047, 10239, 2047, 59391, 131071, 262143, 524287, 1048575, 1048575, 3145727, 8388607, 16777215, 1048575, 34603007, 134217727, 268435455]
theorem impl_chain.tab15 : rtab .any (opsOf Try.f71 15) = impl_chain.T15 := by kernel_rfl
theorem impl_chain.bits15 : waitsOk impl_chain.T15.2 impl_chain.B15 = true := by kernel_rfl
def impl_chain.T24 : Bool × List (List Nat × List Nat) := (true, [([], []), ([], []), ([], []), ([0, 1, 2], [0, 1, 2]), ([3, 3], [3]), ([4], [4]), ([5, 4], [4, 5]), ([4], [4]), ([4], [4]), ([7, 8, 4], [4, 7, 8]), ([6, 9, 4], [4, 6, 9]), ([4, 10], [4, 10]), ([11, 4], [11]), ([12], [12]), ([12], [12]), ([13, 14, 12], [12, 13, 14]), ([15, 12], [12, 15]), ([12], [12]), ([17, 12], [12, 17]), ([16, 18, 12], [12, 16, 18]), ([12, 19], [12, 19])])
def impl_chain.B24 : List Nat := [0, 0, 0, 7, 15, 31, 63, 31, 31, 415, 1023, 2047, 4095, 8191, 8191, 32767, 65535, 8191, 139263, 524287, 1048575]
theorem impl_chain.tab24 : rtab .any (opsOf Try.f71 24) = impl_chain.T24 := by kernel_rfl
theorem impl_chain.bits24 : waitsOk impl_chain.T24.2 impl_chain.B24 = true := by kernel_rfl
theorem w64_id (x : Int) (h1 : -9223372036854775808 ≤ x) (h2 : x ≤ 9223372036854775807) : wrap64 x = x := by unfold wrap64; omega
set_option maxHeartbeats 40000000 in
set_option maxRecDepth 100000 in
theorem impl_chain.calls (A0 : Option Addr) (c0 : Nat) (l0 : List (S25)) (a1 : Int) (a2 : Int) (a3 : Int) (a4 : Int) (a5 : Int) (r1 : List Int) (r2 : Bool) (w : World) (hr0 : Kd.C k25 w A0 l0.length l0) (hc0 : l0.length ≤ c0) (h : impl_chain.f l0 a1 a2 a3 a4 a5 = some (r1, r2)) :
  Calls Try.prog 71 #[.slice A0 l0.length c0, .int .i64 a1, .int .i64 a2, .int .i64 a3, .int .i64 a4, .int .i64 a5] w fun e w' => ∃ v0_ : Value, e = .returned (.tuple #[v0_, .bool r2]) ∧ Kd.R (Kd.int .i64) 3 w' w.heap.size (fun _ => True) v0_ r1 ∧ Below w.heap.size w w' := by
 have hu25 := Try.underlying25
 unfold impl_chain.f at h
 by_cases hb : ¬ (l0.length ≤ 1000000 ∧ 0 ≤ a5 ∧ a5 ≤ 1000000)
 ·rw [if_neg hb] at h
  exact absurd h (by simp)
 replace hb := Decidable.not_not.mp hb
 rw [if_pos hb] at h
 obtain ⟨hlen, ha5, ha5'⟩ := hb
 have HH : Aside0 (Rt.chain (·.f0) (·.f1) (·.f3) (ap a3 a4) l0 a2 a5 a1 = (r1, r2)) := aM (Option.some.inj h)
 clear h
 have HR0 := aM hr0
 have HC0 := aM hc0
 clear hr0 hc0
 have HB := aM (Below.refl w.heap.size w)
 go_enter Try.func71, Try.ntmps71
 go_wp2_with (first | ((with_reducible refine gate_dst (N := 25) rfl ?_); refine makeMap_event rfl (N := 25) rfl rfl ?_; intro rm w1 hrm hm hb; have HMm := aM hm; have Hrm : Aside0 (w.heap.size ≤ rm) := aM (by rw [hrm]; exact below_size HB.out); replace HB := aM (below_step HB.out hb); clear hm hb hrm) | (refine mapPut_event rfl (Or.inr rfl) a2 rfl rfl rfl HMm.out ?_; intro w2 hm hg; replace HB : Aside0 (Below w.heap.size w w2) := aM (HB.out.grown hg (below_size HB.out) (fun k hk => by injection hk with hk; rw [← hk]; exact Hrm.out)); replace HMm := aM hm; clear hm hg) | ((with_reducible refine gate_builtin (b := .append) (xs := #[.tmp 24, .tmp 28]) rfl ?_); at_builtin; refine Kd.R_append kMap (w0 := w) w.heap.size rfl (.tmp 24) (.tmp 28) 79 80 (.map none) 8 rfl Try.underlying79 info80 rfl (by decide) (by omega) (.slice none 0 0) [] rm [.map (some rm)] (fun _ => True) (fun _ => False) rfl rfl ?aP (fun _ hk => hk.elim) ?aF ?aO ?aB ?aS ?aL ?_; (case aP => exact rfl); (case aB => exact HB.out); (case aF => exact (fun _ _ => trivial)); (case aO => exact Kd.R_nil _ _ _ _ _); (case aS => exact below_size HB.out); (case aL => simp); intro v3 w3 ho hb hg hat; have HO14 := aM ho; have HMs : Aside0 (MapsOk w3 w.heap.size [rm] (rch l0 a3 a4 a2 a5)) := aM (MapsOk.snoc (ms := []) (fun j r hj => by simp at hj) Hrm.out ((HMm.out.grown hg (by simp [Value.ownBlock])).congr (fun k => by simp [rch, Rt.reach]))); replace HB := aM hb; clear ho hb hg hat))
 go_loopg [14, 15] 7 (fun gk v14 v15 w' => ∃ (n : Nat) (ni : Int) (ms : List Nat), v15 = .int .i64 ni ∧ Aside0 (ni = (n : Int)) ∧ Aside0 (n + gk = 7) ∧ Aside0 (kMap.R 80 w' w.heap.size (fun _ => True) v14 ms) ∧ Aside0 (ms.length = n + 1) ∧ Aside0 (MapsOk w' w.heap.size ms (rch l0 a3 a4 a2 a5)) ∧ Aside0 (∀ m, m < n → rch l0 a3 a4 a2 a5 m a1 = false) ∧ Aside0 (Below w.heap.size w w'))
 case atStart => exact ⟨0, 0, [rm], rfl, ⟨rfl⟩, ⟨rfl⟩, HO14, ⟨rfl⟩, HMs, ⟨fun m hm => absurd hm (Nat.not_lt_zero _)⟩, HB⟩
 case round =>
  clear HO14 HMs HB HMm Hrm
  obtain ⟨n, ni, ms, rfl, Nni, HG, HO14, HL, HMs, HN, HB⟩ := hrel
  by_cases hn : n ≤ 6
  ·obtain ⟨ga, hga⟩ : ∃ ga, gk = ga + 1 := ⟨gk - 1, by have := HG.out; omega⟩
   subst hga
   obtain ⟨rn, hrn⟩ : ∃ rn, ms[n]? = some rn := ⟨_, List.getElem?_eq_getElem (by have := HL.out; omega)⟩
   obtain ⟨go14, co14, eo14, gb14, gl14, cl14, HG14⟩ := Kd.R_form HO14.out (by have := HL.out; omega)
   subst eo14
   have Nrn := aM hrn
   have hx14 := kMap_cell HO14.out hrn ni Nni.out
   have hmap := (HMs.out n rn hrn).2
   have hlk := hmap.lookup a1
   have p1 : (0 : Int) ≤ ni := by have := Nni.out; omega
   have q1 : ni < (ms.length : Int) := by have := HL.out; have := Nni.out; omega
   have p2 : ni ≤ 6 := by have := Nni.out; omega
   have b6 : decide (ni ≤ 6) = true := decide_eq_true p2
   have Nmap := aM hmap
   clear hmap hrn gl14 HG14
   by_cases hr : rch l0 a3 a4 a2 a5 n a1 = true
   ·rw [hr] at hlk
    have Nhr := aM hr
    clear hr
    have hch : Rt.chain (·.f0) (·.f1) (·.f3) (ap a3 a4) l0 a2 a5 a1 = (Rt.path (·.f0) (·.f1) (·.f3) (ap a3 a4) l0 a2 a5 n a1 [], true) := Rt.chain_found hn HN.out Nhr.out
    have hch2 := hch.symm.trans HH.out
    injection hch2 with hp1 hp2
    subst hp2
    have HPa := aM hp1
    clear hch hp1 HH
    have HO16 : Aside0 (Kd.R (Kd.int .i64) 3 w w.heap.size (fun _ => True) (.slice none 0 0) []) := aM (Kd.R_nil _ _ _ _ _)
    clear HO16
    go_wp2
    go_loopg [16, 17, 18] n (fun gk v16 v17 v18 w' => ∃ (k : Nat) (ki at_ : Int) (out : List Int), v17 = .int .i64 at_ ∧ v18 = .int .i64 ki ∧ Aside0 (ki = (k : Int)) ∧ Aside0 (k = gk) ∧ Aside0 (out.length + k ≤ n) ∧ Aside0 (Rt.path (·.f0) (·.f1) (·.f3) (ap a3 a4) l0 a2 a5 k at_ out = r1) ∧ Aside0 (Kd.R (Kd.int .i64) 3 w' w.heap.size (fun _ => True) v16 out) ∧ Aside0 (kMap.R 80 w' w.heap.size (fun _ => True) (.slice (some ⟨go14, 0, none⟩) ms.length co14) ms) ∧ Aside0 (MapsOk w' w.heap.size ms (rch l0 a3 a4 a2 a5)) ∧ Aside0 (Below w.heap.size w w'))
    case atStart => exact ⟨n, ni, a1, [], rfl, rfl, Nni, ⟨rfl⟩, ⟨by simp⟩, HPa, ⟨Kd.R_nil _ _ _ _ _⟩, HO14, HMs, HB⟩
    case round =>
     clear HO14 HMs HB hx14 hlk Nmap HPa
     obtain ⟨kk, ki, at_, out, rfl, rfl, Nki, HG3, HOL, HP, HO16, HO14, HMs, HB⟩ := hrel
     cases kk with
     | zero =>
      have b7 : decide (0 < ki) = false := decide_eq_false (by have := Nki.out; omega)
      go_wp2
      go_ret2
      have hp := HP.out
      simp only [Rt.path] at hp
      subst hp
      exact ⟨_, rfl, HO16.out, HB.out⟩
     | succ k =>
      have b7 : decide (0 < ki) = true := decide_eq_true (by have := Nki.out; omega)
      have hkn : k < n := by have := HOL.out; omega
      obtain ⟨rk, hrk⟩ : ∃ rk, ms[k]? = some rk := ⟨_, List.getElem?_eq_getElem (by have := HL.out; omega)⟩
      have Nrk := aM hrk
      obtain ⟨kj, hji⟩ : ∃ j_ : Int, (wrap64 (ki - 1)) = j_ := ⟨_, rfl⟩
      have Nkj : Aside0 (kj = (k : Int)) := aM (by have := Nki.out; rw [← hji, w64_id _ (by omega) (by omega)]; omega)
      have Nji := aM hji
      clear hrk hji
      obtain ⟨gc, hgc⟩ : ∃ gc, gk = gc + 1 := ⟨gk - 1, by have := HG3.out; omega⟩
      subst hgc
      go_wp2
      go_loopg [16, 17, 48] l0.length (fun gk v16 v17 v48 w' => ∃ (i : Nat) (ii : Int), v48 = .int .i64 ii ∧ v17 = .int .i64 at_ ∧ Aside0 (ii = (i : Int)) ∧ Aside0 (i + gk = l0.length) ∧ Aside0 (∀ j g, j < i → l0[j]? = some g → hopB l0 a3 a4 a2 a5 k at_ g = false) ∧ Aside0 (Kd.R (Kd.int .i64) 3 w' w.heap.size (fun _ => True) v16 out) ∧ Aside0 (kMap.R 80 w' w.heap.size (fun _ => True) (.slice (some ⟨go14, 0, none⟩) ms.length co14) ms) ∧ Aside0 (MapsOk w' w.heap.size ms (rch l0 a3 a4 a2 a5)) ∧ Aside0 (Below w.heap.size w w'))
      case atStart => exact ⟨0, 0, rfl, rfl, ⟨rfl⟩, ⟨Nat.zero_add _⟩, ⟨fun j g hj => absurd hj (Nat.not_lt_zero _)⟩, HO16, HO14, HMs, HB⟩
      case round =>
       clear HO16 HO14 HMs HB
       obtain ⟨i, ii, rfl, rfl, Nii, HG2, HNH, HO16, HO14, HMs, HB⟩ := hrel
       by_cases hi : i < l0.length
       ·have p3 : (0 : Int) ≤ ii := by have := Nii.out; omega
        have q3 : ii < (l0.length : Int) := by have := Nii.out; omega
        have b3 : decide (ii < (l0.length : Int)) = true := decide_eq_true q3
        have Nhi := aM hi
        clear hi
        obtain ⟨ad3, e3, hy0, hy1, hy2, hy3, hy4, hy5, hy6⟩ := at_T25 HR0.out ii p3 q3
        cases e3
        replace hy0 := (HB.out.cell (World.block_lt_of_cell? w _ hy0)).trans hy0
        replace hy1 := (HB.out.cell (World.block_lt_of_cell? w _ hy1)).trans hy1
        replace hy2 := (HB.out.cell (World.block_lt_of_cell? w _ hy2)).trans hy2
        replace hy3 := (HB.out.cell (World.block_lt_of_cell? w _ hy3)).trans hy3
        replace hy4 := (HB.out.cell (World.block_lt_of_cell? w _ hy4)).trans hy4
        replace hy5 := (HB.out.cell (World.block_lt_of_cell? w _ hy5)).trans hy5
        replace hy6 := (HB.out.cell (World.block_lt_of_cell? w _ hy6)).trans hy6
        obtain ⟨y, hy⟩ : ∃ y, y = rd_T25 l0 ii := ⟨_, rfl⟩
        rw [← hy] at hy0 hy1 hy2 hy3 hy4 hy5 hy6
        have Ny := aM hy
        clear hy
        have Nyl : Aside0 (l0[i]? = some y) := aM (by rw [Ny.out, Nii.out]; simp only [rd_T25, Int.toNat_natCast, List.getD_eq_getElem?_getD, List.getElem?_eq_getElem Nhi.out, Option.getD_some])
        replace p3 := eq_true p3
        replace q3 := eq_true q3
        go_upto_region 15 with (first | ((with_reducible refine gate_dst (N := 20) rfl ?_); refine box_event ?hg (N := 20) ?hd (cs := #[.int .i64 0, .int .i64 0, .int .i64 0, .int .i64 0, .int .i64 0, .int .i64 0, .bool false]) (t := 25) ?hr ?_; (case hd => rfl); (case hg => rfl); (case hr => first | (go_simp; done) | (go_simp; rfl)); intro gb hg w5 hbox hb; have BK := aM hbox; have GB : Aside0 (w.heap.size ≤ gb) := aM (by rw [hg]; exact below_size HB.out); replace HO14 := aM (Kd.R_below HO14.out hb); replace HMs := aM (HMs.out.below hb); replace HO16 := aM (Kd.R_below HO16.out hb); replace HB := aM (below_step HB.out hb); clear hbox hb hg; obtain ⟨hcz0, hcz1, hcz2, hcz3, hcz4, hcz5, hcz6, hfz0, hfz1, hfz2, hfz3, hfz4, hfz5, hfz6⟩ := cells7 BK.out) | ((with_reducible refine gate_store (t := 25) (p := 20) rfl ?_); refine fill_event (y := y) 20 _ rfl rfl rfl rfl rfl BK.out ?_; intro w6 hbk hgr; have HO14_ := aM (R_cells HO14.out BK.out (by decide) hgr); have HMs_ := aM (HMs.out.grown_cells BK.out hgr); have HO16_ := aM (R_cells HO16.out BK.out (by decide) hgr); have HB_ : Aside0 (Below w.heap.size w w6) := aM (HB.out.grown hgr (below_size HB.out) (fun k hk => by injection hk with hk; rw [← hk]; exact GB.out)); clear HO14 HMs HB BK HO16 hcz0 hcz1 hcz2 hcz3 hcz4 hcz5 hcz6 hfz0 hfz1 hfz2 hfz3 hfz4 hfz5 hfz6; have HO14 := HO14_; have HMs := HMs_; have HB := HB_; have HO16 := HO16_; have BK := aM hbk; clear hbk hgr HO14_ HMs_ HB_ HO16_))
        obtain ⟨gj, hgj⟩ : ∃ gj, gk = gj + 1 := ⟨gk - 1, by have := HG2.out; have := Nhi.out; omega⟩
        subst hgj
        have u3 : ii ≤ 1000000 := by have := Nii.out; have := Nhi.out; omega
        have u4 : 0 ≤ ii := by have := Nii.out; omega
        have ND : Aside0 ((decide (wrap64 (kj + a5) ≤ y.f3)) = decide (y.f3 ≥ (k : Int) + a5)) := aM (by have := Nkj.out; rw [w64_id _ (by omega) (by omega), Nkj.out])
        obtain ⟨bR, hR⟩ : ∃ bR, rch l0 a3 a4 a2 a5 k y.f1 = bR := ⟨_, rfl⟩
        have cR := aM hR
        clear hR
        have hji := Nji.out
        have hjiw : (IntKind.i64.wrap (ki - 1)) = kj := (i64_w _).trans hji
        have p4 : (0 : Int) ≤ kj := by have := Nkj.out; omega
        have q4 : kj < (ms.length : Int) := by have := Nkj.out; have := HL.out; omega
        replace p4 := eq_true p4
        replace q4 := eq_true q4
        go_wp2_with fail
        by_cases h0 : y.f0 = at_
        ·have h0b : (y.f0 == at_) = true := beq_iff_eq.mpr h0
         have h0c : (y.f0 != at_) = false := bne_eq_false_iff_eq.mpr h0
         have N0 : Aside0 (decide (y.f0 = at_) = true) := aM (decide_eq_true h0)
         clear h0
         cases hA : ap a3 a4 y with
         | false =>
          have HA : Aside0 (impl_Applies.f y.f0 y.f1 y.f2 y.f3 y.f4 y.f5 y.f6 a3 a4 = some false) := aM (by rw [ap_some, hA])
          have NA := aM hA
          clear hA
          have HO14_ := aM (Kd.R_drew HO14.out)
          have HMs_ := aM (HMs.out.drew)
          have HO16_ := aM (Kd.R_drew HO16.out)
          have BK_ := aM (blk_drew BK.out)
          have HB_ := aM (below_drew1 HB.out)
          clear HO14 HMs HO16 BK HB
          have HO14 := HO14_
          have HMs := HMs_
          have HO16 := HO16_
          have BK := BK_
          have HB := HB_
          clear HO14_ HMs_ HO16_ BK_ HB_
          refine start_ (n := 29) (S := fun w' => w'.cell? ⟨gb, 0, none⟩ = some (.int .i64 y.f0) ∧ w'.cell? ⟨gb, 1, none⟩ = some (.int .i64 y.f1) ∧ w'.cell? ⟨gb, 2, none⟩ = some (.int .i64 y.f2) ∧ w'.cell? ⟨gb, 3, none⟩ = some (.int .i64 y.f3) ∧ w'.cell? ⟨gb, 4, none⟩ = some (.int .i64 y.f4) ∧ w'.cell? ⟨gb, 5, none⟩ = some (.int .i64 y.f5) ∧ w'.cell? ⟨gb, 6, none⟩ = some (.bool y.f6) ∧ w'.cell? ⟨go14, kj.toNat, none⟩ = some (.map (some rk)) ∧ (Instr.lookup 80 (.map (some rk)) (.int .i64 y.f1) false).run Try.prog w' = .ok (.bool bR) w') (ds := []) #[false, false, false, false, false, false, false, false, false, false, false, false, false, false, false, false, false, false, false, false, false, false, false, false, false, false, false, false, false] (by kernel_rfl) rfl rfl ⟨(blk_cell BK.out 0).trans rfl, (blk_cell BK.out 1).trans rfl, (blk_cell BK.out 2).trans rfl, (blk_cell BK.out 3).trans rfl, (blk_cell BK.out 4).trans rfl, (blk_cell BK.out 5).trans rfl, (blk_cell BK.out 6).trans rfl, kMap_cell HO14.out Nrk.out kj Nkj.out, (by have h_ := ((HMs.out k rk Nrk.out).2).lookup y.f1; rw [cR.out] at h_; exact h_)⟩ (fun hHeld => ?_); refine with_tabW impl_chain.tab15 impl_chain.bits15 (fun HT_ HW_ => ?_)
          generalize w6.drew = wd_ at HO14 HMs HO16 BK HB hHeld ⊢
          refine pure_ (i := 0) (N := some 53) (v := ?_) (a' := ?_) #[true, false, false, false, false, false, false, false, false, false, false, false, false, false, false, false, false, false, false, false, false, false, false, false, false, false, false, false, false] rfl rfl (any_of HT_.out (by kernel_rfl)) (fun _ _ _ h => h) (Or.inl ⟨by rfl, ?_⟩) ?_ ?_
          rotate_left
          ·intro w'
           go_simp
           with_reducible rfl
          rotate_left
          ·simp only [Act.put, List.setIfInBounds_toArray, List.set_cons_zero, List.set_cons_succ, i64_w, i32_w]
           rfl
          refine pure_ (i := 2) (N := some 55) (v := ?_) (a' := ?_) #[true, false, true, false, false, false, false, false, false, false, false, false, false, false, false, false, false, false, false, false, false, false, false, false, false, false, false, false, false] rfl rfl (any_of HT_.out (by kernel_rfl)) (fun _ _ _ h => h) (Or.inl ⟨by rfl, ?_⟩) ?_ ?_
          rotate_left
          ·intro w'
           go_simp
           with_reducible rfl
          rotate_left
          ·simp only [Act.put, List.setIfInBounds_toArray, List.set_cons_zero, List.set_cons_succ, i64_w, i32_w]
           rfl
          refine take_ (i := 1) (N := some 54) (v := ?_) (a' := ?_) #[true, true, true, false, false, false, false, false, false, false, false, false, false, false, false, false, false, false, false, false, false, false, false, false, false, false, false, false, false] rfl rfl (take_ofW HT_.out HW_.out (by kernel_rfl)) (fun _ _ _ h => h) (Or.inl ⟨by rfl, ?_⟩) hHeld ?_ ?_
          rotate_left
          ·rintro w' ⟨s0, s1, s2, s3, s4, s5, s6, s7, s8⟩
           go_simp
           with_reducible rfl
          rotate_left
          ·simp only [Act.put, List.setIfInBounds_toArray, List.set_cons_zero, List.set_cons_succ, i64_w, i32_w]
           rfl
          refine pure_ (i := 3) (N := some 56) (v := ?_) (a' := ?_) #[true, true, true, true, false, false, false, false, false, false, false, false, false, false, false, false, false, false, false, false, false, false, false, false, false, false, false, false, false] rfl rfl (any_of HT_.out (by kernel_rfl)) (fun _ _ _ h => h) (Or.inl ⟨by rfl, ?_⟩) ?_ ?_
          rotate_left
          ·intro w'
           go_simp
           with_reducible rfl
          rotate_left
          ·simp only [Act.put, List.setIfInBounds_toArray, List.set_cons_zero, List.set_cons_succ, i64_w, i32_w]
           rfl
          refine pure_ (i := 4) (N := some 57) (v := ?_) (a' := ?_) #[true, true, true, true, true, false, false, false, false, false, false, false, false, false, false, false, false, false, false, false, false, false, false, false, false, false, false, false, false] rfl rfl (any_of HT_.out (by kernel_rfl)) (fun _ _ _ h => h) (Or.inl ⟨by rfl, ?_⟩) ?_ ?_
          rotate_left
          ·intro w'
           go_simp
           with_reducible rfl
          rotate_left
          ·simp only [Act.put, List.setIfInBounds_toArray, List.set_cons_zero, List.set_cons_succ, i64_w, i32_w]
           rfl
          refine pure_ (i := 6) (N := some 59) (v := ?_) (a' := ?_) #[true, true, true, true, true, false, true, false, false, false, false, false, false, false, false, false, false, false, false, false, false, false, false, false, false, false, false, false, false] rfl rfl (any_of HT_.out (by kernel_rfl)) (fun _ _ _ h => h) (Or.inl ⟨by rfl, ?_⟩) ?_ ?_
          rotate_left
          ·intro w'
           go_simp
           with_reducible rfl
          rotate_left
          ·simp only [Act.put, List.setIfInBounds_toArray, List.set_cons_zero, List.set_cons_succ, i64_w, i32_w]
           rfl
          refine pure_ (i := 7) (N := some 60) (v := ?_) (a' := ?_) #[true, true, true, true, true, false, true, true, false, false, false, false, false, false, false, false, false, false, false, false, false, false, false, false, false, false, false, false, false] rfl rfl (any_of HT_.out (by kernel_rfl)) (fun _ _ _ h => h) (Or.inl ⟨by rfl, ?_⟩) ?_ ?_
          rotate_left
          ·intro w'
           go_simp
           with_reducible rfl
          rotate_left
          ·simp only [Act.put, List.setIfInBounds_toArray, List.set_cons_zero, List.set_cons_succ, i64_w, i32_w]
           rfl
          refine take_ (i := 5) (N := some 58) (v := ?_) (a' := ?_) #[true, true, true, true, true, true, true, true, false, false, false, false, false, false, false, false, false, false, false, false, false, false, false, false, false, false, false, false, false] rfl rfl (take_ofW HT_.out HW_.out (by kernel_rfl)) (fun _ _ _ h => h) (Or.inl ⟨by rfl, ?_⟩) hHeld ?_ ?_
          rotate_left
          ·rintro w' ⟨s0, s1, s2, s3, s4, s5, s6, s7, s8⟩
           go_simp
           with_reducible rfl
          rotate_left
          ·simp only [Act.put, List.setIfInBounds_toArray, List.set_cons_zero, List.set_cons_succ, i64_w, i32_w]
           rfl
          refine one_ (i := 8) (N := some 61) #[true, true, true, true, true, true, true, true, true, false, false, false, false, false, false, false, false, false, false, false, false, false, false, false, false, false, false, false, false] rfl rfl (one_of HT_.out (by kernel_rfl)) (by decide) (fun K hK => ?_)
          refine goes_ Try.func22 (by kernel_rfl) rfl #[.agg #[.int .i64 y.f0, .int .i64 y.f1, .int .i64 y.f2, .int .i64 y.f3, .int .i64 y.f4, .int .i64 y.f5, .bool y.f6], .int .i64 a3, .int .i64 a4] (by rfl) rfl rfl (by (try simp only [List.map_toArray, List.map_cons, List.map_nil]); first | done | rfl | (simp only [List.length_drop, List.length_take]; rfl)) ?_
          with_reducible refine (impl_Applies.calls y.f0 y.f1 y.f2 y.f3 y.f4 y.f5 y.f6 a3 a4 false _ HA.out).mono ?_
          rintro e wz_ ⟨rfl, hb⟩
          refine ⟨_, rfl, ?_⟩
          have HO14_ := aM (Kd.R_below HO14.out hb)
          have HMs_ := aM (HMs.out.below hb)
          have HO16_ := aM (Kd.R_below HO16.out hb)
          have BK_ := aM (blk_below BK.out hb)
          have HB_ := aM (below_step HB.out hb)
          clear hb HO14 HMs HO16 BK HB
          have HO14 := HO14_
          have HMs := HMs_
          have HO16 := HO16_
          have BK := BK_
          have HB := HB_
          clear HO14_ HMs_ HO16_ BK_ HB_
          refine hK.out _ _ ⟨(blk_cell BK.out 0).trans rfl, (blk_cell BK.out 1).trans rfl, (blk_cell BK.out 2).trans rfl, (blk_cell BK.out 3).trans rfl, (blk_cell BK.out 4).trans rfl, (blk_cell BK.out 5).trans rfl, (blk_cell BK.out 6).trans rfl, kMap_cell HO14.out Nrk.out kj Nkj.out, (by have h_ := ((HMs.out k rk Nrk.out).2).lookup y.f1; rw [cR.out] at h_; exact h_)⟩ (fun hHeld => ?_)
          clear hK K
          refine norm_ (a' := ?_) ?_ ?_
          rotate_left
          ·show Act.put _ (some 61) _ = _
           simp only [Act.put, List.setIfInBounds_toArray, List.set_cons_zero, List.set_cons_succ, i64_w, i32_w]
           rfl
          refine pure_ (i := 9) (N := some 62) (v := ?_) (a' := ?_) #[true, true, true, true, true, true, true, true, true, true, false, false, false, false, false, false, false, false, false, false, false, false, false, false, false, false, false, false, false] rfl rfl (any_of HT_.out (by kernel_rfl)) (fun _ _ _ h => h) (Or.inl ⟨by rfl, ?_⟩) ?_ ?_
          rotate_left
          ·intro w'
           go_simp
           with_reducible rfl
          rotate_left
          ·simp only [Act.put, List.setIfInBounds_toArray, List.set_cons_zero, List.set_cons_succ, i64_w, i32_w]
           rfl
          refine pure_ (i := 10) (N := some 63) (v := ?_) (a' := ?_) #[true, true, true, true, true, true, true, true, true, true, true, false, false, false, false, false, false, false, false, false, false, false, false, false, false, false, false, false, false] rfl rfl (any_of HT_.out (by kernel_rfl)) (fun _ _ _ h => h) (Or.inl ⟨by rfl, ?_⟩) ?_ ?_
          rotate_left
          ·intro w'
           go_simp
           with_reducible rfl
          rotate_left
          ·simp only [Act.put, List.setIfInBounds_toArray, List.set_cons_zero, List.set_cons_succ, i64_w, i32_w]
           rfl
          refine pure_ (i := 11) (N := some 64) (v := undef) (a' := ?_) #[true, true, true, true, true, true, true, true, true, true, true, true, false, false, false, false, false, false, false, false, false, false, false, false, false, false, false, false, false] rfl rfl (any_of HT_.out (by kernel_rfl)) (fun _ _ _ h => h) (Or.inr ⟨by rfl, rfl⟩) ?_ ?_
          rotate_left
          ·simp only [Act.put, List.setIfInBounds_toArray, List.set_cons_zero, List.set_cons_succ, i64_w, i32_w]
           rfl
          refine pure_ (i := 12) (N := some 65) (v := undef) (a' := ?_) #[true, true, true, true, true, true, true, true, true, true, true, true, true, false, false, false, false, false, false, false, false, false, false, false, false, false, false, false, false] rfl rfl (any_of HT_.out (by kernel_rfl)) (fun _ _ _ h => h) (Or.inr ⟨by rfl, rfl⟩) ?_ ?_
          rotate_left
          ·simp only [Act.put, List.setIfInBounds_toArray, List.set_cons_zero, List.set_cons_succ, i64_w, i32_w]
           rfl
          refine pure_ (i := 13) (N := some 66) (v := undef) (a' := ?_) #[true, true, true, true, true, true, true, true, true, true, true, true, true, true, false, false, false, false, false, false, false, false, false, false, false, false, false, false, false] rfl rfl (any_of HT_.out (by kernel_rfl)) (fun _ _ _ h => h) (Or.inr ⟨by rfl, rfl⟩) ?_ ?_
          rotate_left
          ·simp only [Act.put, List.setIfInBounds_toArray, List.set_cons_zero, List.set_cons_succ, i64_w, i32_w]
           rfl
          refine pure_ (i := 14) (N := some 67) (v := undef) (a' := ?_) #[true, true, true, true, true, true, true, true, true, true, true, true, true, true, true, false, false, false, false, false, false, false, false, false, false, false, false, false, false] rfl rfl (any_of HT_.out (by kernel_rfl)) (fun _ _ _ h => h) (Or.inr ⟨by rfl, rfl⟩) ?_ ?_
          rotate_left
          ·simp only [Act.put, List.setIfInBounds_toArray, List.set_cons_zero, List.set_cons_succ, i64_w, i32_w]
           rfl
          refine pure_ (i := 15) (N := some 68) (v := undef) (a' := ?_) #[true, true, true, true, true, true, true, true, true, true, true, true, true, true, true, true, false, false, false, false, false, false, false, false, false, false, false, false, false] rfl rfl (any_of HT_.out (by kernel_rfl)) (fun _ _ _ h => h) (Or.inr ⟨by rfl, rfl⟩) ?_ ?_
          rotate_left
          ·simp only [Act.put, List.setIfInBounds_toArray, List.set_cons_zero, List.set_cons_succ, i64_w, i32_w]
           rfl
          refine pure_ (i := 16) (N := some 69) (v := undef) (a' := ?_) #[true, true, true, true, true, true, true, true, true, true, true, true, true, true, true, true, true, false, false, false, false, false, false, false, false, false, false, false, false] rfl rfl (any_of HT_.out (by kernel_rfl)) (fun _ _ _ h => h) (Or.inr ⟨by rfl, rfl⟩) ?_ ?_
          rotate_left
          ·simp only [Act.put, List.setIfInBounds_toArray, List.set_cons_zero, List.set_cons_succ, i64_w, i32_w]
           rfl
          refine pure_ (i := 17) (N := some 70) (v := undef) (a' := ?_) #[true, true, true, true, true, true, true, true, true, true, true, true, true, true, true, true, true, true, false, false, false, false, false, false, false, false, false, false, false] rfl rfl (any_of HT_.out (by kernel_rfl)) (fun _ _ _ h => h) (Or.inr ⟨by rfl, rfl⟩) ?_ ?_
          rotate_left
          ·simp only [Act.put, List.setIfInBounds_toArray, List.set_cons_zero, List.set_cons_succ, i64_w, i32_w]
           rfl
          refine pure_ (i := 18) (N := some 71) (v := ?_) (a' := ?_) #[true, true, true, true, true, true, true, true, true, true, true, true, true, true, true, true, true, true, true, false, false, false, false, false, false, false, false, false, false] rfl rfl (any_of HT_.out (by kernel_rfl)) (fun _ _ _ h => h) (Or.inl ⟨by rfl, ?_⟩) ?_ ?_
          rotate_left
          ·intro w'
           go_simp
           with_reducible rfl
          rotate_left
          ·simp only [Act.put, List.setIfInBounds_toArray, List.set_cons_zero, List.set_cons_succ, i64_w, i32_w]
           rfl
          refine pure_ (i := 19) (N := some 72) (v := ?_) (a' := ?_) #[true, true, true, true, true, true, true, true, true, true, true, true, true, true, true, true, true, true, true, true, false, false, false, false, false, false, false, false, false] rfl rfl (any_of HT_.out (by kernel_rfl)) (fun _ _ _ h => h) (Or.inl ⟨by rfl, ?_⟩) ?_ ?_
          rotate_left
          ·intro w'
           go_simp
           with_reducible rfl
          rotate_left
          ·simp only [Act.put, List.setIfInBounds_toArray, List.set_cons_zero, List.set_cons_succ, i64_w, i32_w]
           rfl
          refine pure_ (i := 20) (N := some 73) (v := undef) (a' := ?_) #[true, true, true, true, true, true, true, true, true, true, true, true, true, true, true, true, true, true, true, true, true, false, false, false, false, false, false, false, false] rfl rfl (any_of HT_.out (by kernel_rfl)) (fun _ _ _ h => h) (Or.inr ⟨by rfl, rfl⟩) ?_ ?_
          rotate_left
          ·simp only [Act.put, List.setIfInBounds_toArray, List.set_cons_zero, List.set_cons_succ, i64_w, i32_w]
           rfl
          refine pure_ (i := 21) (N := some 74) (v := undef) (a' := ?_) #[true, true, true, true, true, true, true, true, true, true, true, true, true, true, true, true, true, true, true, true, true, true, false, false, false, false, false, false, false] rfl rfl (any_of HT_.out (by kernel_rfl)) (fun _ _ _ h => h) (Or.inr ⟨by rfl, rfl⟩) ?_ ?_
          rotate_left
          ·simp only [Act.put, List.setIfInBounds_toArray, List.set_cons_zero, List.set_cons_succ, i64_w, i32_w]
           rfl
          refine pure_ (i := 22) (N := some 75) (v := undef) (a' := ?_) #[true, true, true, true, true, true, true, true, true, true, true, true, true, true, true, true, true, true, true, true, true, true, true, false, false, false, false, false, false] rfl rfl (any_of HT_.out (by kernel_rfl)) (fun _ _ _ h => h) (Or.inr ⟨by rfl, rfl⟩) ?_ ?_
          rotate_left
          ·simp only [Act.put, List.setIfInBounds_toArray, List.set_cons_zero, List.set_cons_succ, i64_w, i32_w]
           rfl
          refine pure_ (i := 23) (N := some 76) (v := undef) (a' := ?_) #[true, true, true, true, true, true, true, true, true, true, true, true, true, true, true, true, true, true, true, true, true, true, true, true, false, false, false, false, false] rfl rfl (any_of HT_.out (by kernel_rfl)) (fun _ _ _ h => h) (Or.inr ⟨by rfl, rfl⟩) ?_ ?_
          rotate_left
          ·simp only [Act.put, List.setIfInBounds_toArray, List.set_cons_zero, List.set_cons_succ, i64_w, i32_w]
           rfl
          refine pure_ (i := 24) (N := some 77) (v := undef) (a' := ?_) #[true, true, true, true, true, true, true, true, true, true, true, true, true, true, true, true, true, true, true, true, true, true, true, true, true, false, false, false, false] rfl rfl (any_of HT_.out (by kernel_rfl)) (fun _ _ _ h => h) (Or.inr ⟨by rfl, rfl⟩) ?_ ?_
          rotate_left
          ·simp only [Act.put, List.setIfInBounds_toArray, List.set_cons_zero, List.set_cons_succ, i64_w, i32_w]
           rfl
          refine pure_ (i := 25) (N := some 78) (v := undef) (a' := ?_) #[true, true, true, true, true, true, true, true, true, true, true, true, true, true, true, true, true, true, true, true, true, true, true, true, true, true, false, false, false] rfl rfl (any_of HT_.out (by kernel_rfl)) (fun _ _ _ h => h) (Or.inr ⟨by rfl, rfl⟩) ?_ ?_
          rotate_left
          ·simp only [Act.put, List.setIfInBounds_toArray, List.set_cons_zero, List.set_cons_succ, i64_w, i32_w]
           rfl
          refine pure_ (i := 26) (N := some 79) (v := undef) (a' := ?_) #[true, true, true, true, true, true, true, true, true, true, true, true, true, true, true, true, true, true, true, true, true, true, true, true, true, true, true, false, false] rfl rfl (any_of HT_.out (by kernel_rfl)) (fun _ _ _ h => h) (Or.inr ⟨by rfl, rfl⟩) ?_ ?_
          rotate_left
          ·simp only [Act.put, List.setIfInBounds_toArray, List.set_cons_zero, List.set_cons_succ, i64_w, i32_w]
           rfl
          refine pure_ (i := 27) (N := some 80) (v := undef) (a' := ?_) #[true, true, true, true, true, true, true, true, true, true, true, true, true, true, true, true, true, true, true, true, true, true, true, true, true, true, true, true, false] rfl rfl (any_of HT_.out (by kernel_rfl)) (fun _ _ _ h => h) (Or.inr ⟨by rfl, rfl⟩) ?_ ?_
          rotate_left
          ·simp only [Act.put, List.setIfInBounds_toArray, List.set_cons_zero, List.set_cons_succ, i64_w, i32_w]
           rfl
          refine pure_ (i := 28) (N := some 81) (v := ?_) (a' := ?_) #[true, true, true, true, true, true, true, true, true, true, true, true, true, true, true, true, true, true, true, true, true, true, true, true, true, true, true, true, true] rfl rfl (any_of HT_.out (by kernel_rfl)) (fun _ _ _ h => h) (Or.inl ⟨by rfl, ?_⟩) ?_ ?_
          rotate_left
          ·intro w'
           go_simp
           with_reducible rfl
          rotate_left
          ·simp only [Act.put, List.setIfInBounds_toArray, List.set_cons_zero, List.set_cons_succ, i64_w, i32_w]
           rfl
          refine done_ (done_of HT_.out (by kernel_rfl)) ?_
          go_wp2
          go_roundg gj
          case measure => omega
          case rel => exact ⟨i + 1, ii + 1, (by first | rfl | (rw [w64_id _ (by omega) (by omega)])), rfl, ⟨by have := Nii.out; omega⟩, ⟨by have := HG2.out; omega⟩, ⟨no_hop HNH.out Nyl.out ((hop_eval N0.out NA.out rfl rfl).trans (by simp))⟩, HO16, HO14, HMs, HB⟩
         | true =>
          have HA : Aside0 (impl_Applies.f y.f0 y.f1 y.f2 y.f3 y.f4 y.f5 y.f6 a3 a4 = some true) := aM (by rw [ap_some, hA])
          have NA := aM hA
          clear hA
          cases bD : decide (wrap64 (kj + a5) ≤ y.f3) with
          | false =>
           have NDD : Aside0 (decide (y.f3 ≥ (k : Int) + a5) = false) := aM (by rw [← ND.out]; exact bD)
           have HO14_ := aM (Kd.R_drew HO14.out)
           have HMs_ := aM (HMs.out.drew)
           have HO16_ := aM (Kd.R_drew HO16.out)
           have BK_ := aM (blk_drew BK.out)
           have HB_ := aM (below_drew1 HB.out)
           clear HO14 HMs HO16 BK HB
           have HO14 := HO14_
           have HMs := HMs_
           have HO16 := HO16_
           have BK := BK_
           have HB := HB_
           clear HO14_ HMs_ HO16_ BK_ HB_
           refine start_ (n := 29) (S := fun w' => w'.cell? ⟨gb, 0, none⟩ = some (.int .i64 y.f0) ∧ w'.cell? ⟨gb, 1, none⟩ = some (.int .i64 y.f1) ∧ w'.cell? ⟨gb, 2, none⟩ = some (.int .i64 y.f2) ∧ w'.cell? ⟨gb, 3, none⟩ = some (.int .i64 y.f3) ∧ w'.cell? ⟨gb, 4, none⟩ = some (.int .i64 y.f4) ∧ w'.cell? ⟨gb, 5, none⟩ = some (.int .i64 y.f5) ∧ w'.cell? ⟨gb, 6, none⟩ = some (.bool y.f6) ∧ w'.cell? ⟨go14, kj.toNat, none⟩ = some (.map (some rk)) ∧ (Instr.lookup 80 (.map (some rk)) (.int .i64 y.f1) false).run Try.prog w' = .ok (.bool bR) w') (ds := []) #[false, false, false, false, false, false, false, false, false, false, false, false, false, false, false, false, false, false, false, false, false, false, false, false, false, false, false, false, false] (by kernel_rfl) rfl rfl ⟨(blk_cell BK.out 0).trans rfl, (blk_cell BK.out 1).trans rfl, (blk_cell BK.out 2).trans rfl, (blk_cell BK.out 3).trans rfl, (blk_cell BK.out 4).trans rfl, (blk_cell BK.out 5).trans rfl, (blk_cell BK.out 6).trans rfl, kMap_cell HO14.out Nrk.out kj Nkj.out, (by have h_ := ((HMs.out k rk Nrk.out).2).lookup y.f1; rw [cR.out] at h_; exact h_)⟩ (fun hHeld => ?_); refine with_tabW impl_chain.tab15 impl_chain.bits15 (fun HT_ HW_ => ?_)
           generalize w6.drew = wd_ at HO14 HMs HO16 BK HB hHeld ⊢
           refine pure_ (i := 0) (N := some 53) (v := ?_) (a' := ?_) #[true, false, false, false, false, false, false, false, false, false, false, false, false, false, false, false, false, false, false, false, false, false, false, false, false, false, false, false, false] rfl rfl (any_of HT_.out (by kernel_rfl)) (fun _ _ _ h => h) (Or.inl ⟨by rfl, ?_⟩) ?_ ?_
           rotate_left
           ·intro w'
            go_simp
            with_reducible rfl
           rotate_left
           ·simp only [Act.put, List.setIfInBounds_toArray, List.set_cons_zero, List.set_cons_succ, i64_w, i32_w]
            rfl
           refine pure_ (i := 2) (N := some 55) (v := ?_) (a' := ?_) #[true, false, true, false, false, false, false, false, false, false, false, false, false, false, false, false, false, false, false, false, false, false, false, false, false, false, false, false, false] rfl rfl (any_of HT_.out (by kernel_rfl)) (fun _ _ _ h => h) (Or.inl ⟨by rfl, ?_⟩) ?_ ?_
           rotate_left
           ·intro w'
            go_simp
            with_reducible rfl
           rotate_left
           ·simp only [Act.put, List.setIfInBounds_toArray, List.set_cons_zero, List.set_cons_succ, i64_w, i32_w]
            rfl
           refine take_ (i := 1) (N := some 54) (v := ?_) (a' := ?_) #[true, true, true, false, false, false, false, false, false, false, false, false, false, false, false, false, false, false, false, false, false, false, false, false, false, false, false, false, false] rfl rfl (take_ofW HT_.out HW_.out (by kernel_rfl)) (fun _ _ _ h => h) (Or.inl ⟨by rfl, ?_⟩) hHeld ?_ ?_
           rotate_left
           ·rintro w' ⟨s0, s1, s2, s3, s4, s5, s6, s7, s8⟩
            go_simp
            with_reducible rfl
           rotate_left
           ·simp only [Act.put, List.setIfInBounds_toArray, List.set_cons_zero, List.set_cons_succ, i64_w, i32_w]
            rfl
           refine pure_ (i := 3) (N := some 56) (v := ?_) (a' := ?_) #[true, true, true, true, false, false, false, false, false, false, false, false, false, false, false, false, false, false, false, false, false, false, false, false, false, false, false, false, false] rfl rfl (any_of HT_.out (by kernel_rfl)) (fun _ _ _ h => h) (Or.inl ⟨by rfl, ?_⟩) ?_ ?_
           rotate_left
           ·intro w'
            go_simp
            with_reducible rfl
           rotate_left
           ·simp only [Act.put, List.setIfInBounds_toArray, List.set_cons_zero, List.set_cons_succ, i64_w, i32_w]
            rfl
           refine pure_ (i := 4) (N := some 57) (v := ?_) (a' := ?_) #[true, true, true, true, true, false, false, false, false, false, false, false, false, false, false, false, false, false, false, false, false, false, false, false, false, false, false, false, false] rfl rfl (any_of HT_.out (by kernel_rfl)) (fun _ _ _ h => h) (Or.inl ⟨by rfl, ?_⟩) ?_ ?_
           rotate_left
           ·intro w'
            go_simp
            with_reducible rfl
           rotate_left
           ·simp only [Act.put, List.setIfInBounds_toArray, List.set_cons_zero, List.set_cons_succ, i64_w, i32_w]
            rfl
           refine pure_ (i := 6) (N := some 59) (v := ?_) (a' := ?_) #[true, true, true, true, true, false, true, false, false, false, false, false, false, false, false, false, false, false, false, false, false, false, false, false, false, false, false, false, false] rfl rfl (any_of HT_.out (by kernel_rfl)) (fun _ _ _ h => h) (Or.inl ⟨by rfl, ?_⟩) ?_ ?_
           rotate_left
           ·intro w'
            go_simp
            with_reducible rfl
           rotate_left
           ·simp only [Act.put, List.setIfInBounds_toArray, List.set_cons_zero, List.set_cons_succ, i64_w, i32_w]
            rfl
           refine pure_ (i := 7) (N := some 60) (v := ?_) (a' := ?_) #[true, true, true, true, true, false, true, true, false, false, false, false, false, false, false, false, false, false, false, false, false, false, false, false, false, false, false, false, false] rfl rfl (any_of HT_.out (by kernel_rfl)) (fun _ _ _ h => h) (Or.inl ⟨by rfl, ?_⟩) ?_ ?_
           rotate_left
           ·intro w'
            go_simp
            with_reducible rfl
           rotate_left
           ·simp only [Act.put, List.setIfInBounds_toArray, List.set_cons_zero, List.set_cons_succ, i64_w, i32_w]
            rfl
           refine take_ (i := 5) (N := some 58) (v := ?_) (a' := ?_) #[true, true, true, true, true, true, true, true, false, false, false, false, false, false, false, false, false, false, false, false, false, false, false, false, false, false, false, false, false] rfl rfl (take_ofW HT_.out HW_.out (by kernel_rfl)) (fun _ _ _ h => h) (Or.inl ⟨by rfl, ?_⟩) hHeld ?_ ?_
           rotate_left
           ·rintro w' ⟨s0, s1, s2, s3, s4, s5, s6, s7, s8⟩
            go_simp
            with_reducible rfl
           rotate_left
           ·simp only [Act.put, List.setIfInBounds_toArray, List.set_cons_zero, List.set_cons_succ, i64_w, i32_w]
            rfl
           refine one_ (i := 8) (N := some 61) #[true, true, true, true, true, true, true, true, true, false, false, false, false, false, false, false, false, false, false, false, false, false, false, false, false, false, false, false, false] rfl rfl (one_of HT_.out (by kernel_rfl)) (by decide) (fun K hK => ?_)
           refine goes_ Try.func22 (by kernel_rfl) rfl #[.agg #[.int .i64 y.f0, .int .i64 y.f1, .int .i64 y.f2, .int .i64 y.f3, .int .i64 y.f4, .int .i64 y.f5, .bool y.f6], .int .i64 a3, .int .i64 a4] (by rfl) rfl rfl (by (try simp only [List.map_toArray, List.map_cons, List.map_nil]); first | done | rfl | (simp only [List.length_drop, List.length_take]; rfl)) ?_
           with_reducible refine (impl_Applies.calls y.f0 y.f1 y.f2 y.f3 y.f4 y.f5 y.f6 a3 a4 true _ HA.out).mono ?_
           rintro e wz_ ⟨rfl, hb⟩
           refine ⟨_, rfl, ?_⟩
           have HO14_ := aM (Kd.R_below HO14.out hb)
           have HMs_ := aM (HMs.out.below hb)
           have HO16_ := aM (Kd.R_below HO16.out hb)
           have BK_ := aM (blk_below BK.out hb)
           have HB_ := aM (below_step HB.out hb)
           clear hb HO14 HMs HO16 BK HB
           have HO14 := HO14_
           have HMs := HMs_
           have HO16 := HO16_
           have BK := BK_
           have HB := HB_
           clear HO14_ HMs_ HO16_ BK_ HB_
           refine hK.out _ _ ⟨(blk_cell BK.out 0).trans rfl, (blk_cell BK.out 1).trans rfl, (blk_cell BK.out 2).trans rfl, (blk_cell BK.out 3).trans rfl, (blk_cell BK.out 4).trans rfl, (blk_cell BK.out 5).trans rfl, (blk_cell BK.out 6).trans rfl, kMap_cell HO14.out Nrk.out kj Nkj.out, (by have h_ := ((HMs.out k rk Nrk.out).2).lookup y.f1; rw [cR.out] at h_; exact h_)⟩ (fun hHeld => ?_)
           clear hK K
           refine norm_ (a' := ?_) ?_ ?_
           rotate_left
           ·show Act.put _ (some 61) _ = _
            simp only [Act.put, List.setIfInBounds_toArray, List.set_cons_zero, List.set_cons_succ, i64_w, i32_w]
            rfl
           refine pure_ (i := 9) (N := some 62) (v := ?_) (a' := ?_) #[true, true, true, true, true, true, true, true, true, true, false, false, false, false, false, false, false, false, false, false, false, false, false, false, false, false, false, false, false] rfl rfl (any_of HT_.out (by kernel_rfl)) (fun _ _ _ h => h) (Or.inl ⟨by rfl, ?_⟩) ?_ ?_
           rotate_left
           ·intro w'
            go_simp
            with_reducible rfl
           rotate_left
           ·simp only [Act.put, List.setIfInBounds_toArray, List.set_cons_zero, List.set_cons_succ, i64_w, i32_w]
            rfl
           refine pure_ (i := 10) (N := some 63) (v := ?_) (a' := ?_) #[true, true, true, true, true, true, true, true, true, true, true, false, false, false, false, false, false, false, false, false, false, false, false, false, false, false, false, false, false] rfl rfl (any_of HT_.out (by kernel_rfl)) (fun _ _ _ h => h) (Or.inl ⟨by rfl, ?_⟩) ?_ ?_
           rotate_left
           ·intro w'
            go_simp
            with_reducible rfl
           rotate_left
           ·simp only [Act.put, List.setIfInBounds_toArray, List.set_cons_zero, List.set_cons_succ, i64_w, i32_w]
            rfl
           refine pure_ (i := 11) (N := some 64) (v := ?_) (a' := ?_) #[true, true, true, true, true, true, true, true, true, true, true, true, false, false, false, false, false, false, false, false, false, false, false, false, false, false, false, false, false] rfl rfl (any_of HT_.out (by kernel_rfl)) (fun _ _ _ h => h) (Or.inl ⟨by rfl, ?_⟩) ?_ ?_
           rotate_left
           ·intro w'
            go_simp
            with_reducible rfl
           rotate_left
           ·simp only [Act.put, List.setIfInBounds_toArray, List.set_cons_zero, List.set_cons_succ, i64_w, i32_w]
            rfl
           refine pure_ (i := 13) (N := some 66) (v := ?_) (a' := ?_) #[true, true, true, true, true, true, true, true, true, true, true, true, false, true, false, false, false, false, false, false, false, false, false, false, false, false, false, false, false] rfl rfl (any_of HT_.out (by kernel_rfl)) (fun _ _ _ h => h) (Or.inl ⟨by rfl, ?_⟩) ?_ ?_
           rotate_left
           ·intro w'
            go_simp
            with_reducible rfl
           rotate_left
           ·simp only [Act.put, List.setIfInBounds_toArray, List.set_cons_zero, List.set_cons_succ, i64_w, i32_w]
            rfl
           refine pure_ (i := 14) (N := some 67) (v := ?_) (a' := ?_) #[true, true, true, true, true, true, true, true, true, true, true, true, false, true, true, false, false, false, false, false, false, false, false, false, false, false, false, false, false] rfl rfl (any_of HT_.out (by kernel_rfl)) (fun _ _ _ h => h) (Or.inl ⟨by rfl, ?_⟩) ?_ ?_
           rotate_left
           ·intro w'
            go_simp
            with_reducible rfl
           rotate_left
           ·simp only [Act.put, List.setIfInBounds_toArray, List.set_cons_zero, List.set_cons_succ, i64_w, i32_w]
            rfl
           refine pure_ (i := 15) (N := some 68) (v := ?_) (a' := ?_) #[true, true, true, true, true, true, true, true, true, true, true, true, false, true, true, true, false, false, false, false, false, false, false, false, false, false, false, false, false] rfl rfl (any_of HT_.out (by kernel_rfl)) (fun _ _ _ h => h) (Or.inl ⟨by rfl, ?_⟩) ?_ ?_
           rotate_left
           ·intro w'
            go_simp
            with_reducible rfl
           rotate_left
           ·simp only [Act.put, List.setIfInBounds_toArray, List.set_cons_zero, List.set_cons_succ, i64_w, i32_w]
            rfl
           refine pure_ (i := 16) (N := some 69) (v := ?_) (a' := ?_) #[true, true, true, true, true, true, true, true, true, true, true, true, false, true, true, true, true, false, false, false, false, false, false, false, false, false, false, false, false] rfl rfl (any_of HT_.out (by kernel_rfl)) (fun _ _ _ h => h) (Or.inl ⟨by rfl, ?_⟩) ?_ ?_
           rotate_left
           ·intro w'
            go_simp
            with_reducible rfl
           rotate_left
           ·simp only [Act.put, List.setIfInBounds_toArray, List.set_cons_zero, List.set_cons_succ, i64_w, i32_w]
            rfl
           refine take_ (i := 12) (N := some 65) (v := ?_) (a' := ?_) #[true, true, true, true, true, true, true, true, true, true, true, true, true, true, true, true, true, false, false, false, false, false, false, false, false, false, false, false, false] rfl rfl (take_ofW HT_.out HW_.out (by kernel_rfl)) (fun _ _ _ h => h) (Or.inl ⟨by rfl, ?_⟩) hHeld ?_ ?_
           rotate_left
           ·rintro w' ⟨s0, s1, s2, s3, s4, s5, s6, s7, s8⟩
            go_simp
            with_reducible rfl
           rotate_left
           ·simp only [Act.put, List.setIfInBounds_toArray, List.set_cons_zero, List.set_cons_succ, i64_w, i32_w]
            rfl
           refine pure_ (i := 17) (N := some 70) (v := ?_) (a' := ?_) #[true, true, true, true, true, true, true, true, true, true, true, true, true, true, true, true, true, true, false, false, false, false, false, false, false, false, false, false, false] rfl rfl (any_of HT_.out (by kernel_rfl)) (fun _ _ _ h => h) (Or.inl ⟨by rfl, ?_⟩) ?_ ?_
           rotate_left
           ·intro w'
            go_simp
            with_reducible rfl
           rotate_left
           ·simp only [Act.put, List.setIfInBounds_toArray, List.set_cons_zero, List.set_cons_succ, i64_w, i32_w]
            rfl
           refine pure_ (i := 18) (N := some 71) (v := ?_) (a' := ?_) #[true, true, true, true, true, true, true, true, true, true, true, true, true, true, true, true, true, true, true, false, false, false, false, false, false, false, false, false, false] rfl rfl (any_of HT_.out (by kernel_rfl)) (fun _ _ _ h => h) (Or.inl ⟨by rfl, ?_⟩) ?_ ?_
           rotate_left
           ·intro w'
            go_simp
            with_reducible rfl
           rotate_left
           ·simp only [Act.put, List.setIfInBounds_toArray, List.set_cons_zero, List.set_cons_succ, i64_w, i32_w]
            rfl
           refine pure_ (i := 19) (N := some 72) (v := ?_) (a' := ?_) #[true, true, true, true, true, true, true, true, true, true, true, true, true, true, true, true, true, true, true, true, false, false, false, false, false, false, false, false, false] rfl rfl (any_of HT_.out (by kernel_rfl)) (fun _ _ _ h => h) (Or.inl ⟨by rfl, ?_⟩) ?_ ?_
           rotate_left
           ·intro w'
            go_simp
            with_reducible rfl
           rotate_left
           ·simp only [Act.put, List.setIfInBounds_toArray, List.set_cons_zero, List.set_cons_succ, i64_w, i32_w]
            rfl
           refine pure_ (i := 20) (N := some 73) (v := undef) (a' := ?_) #[true, true, true, true, true, true, true, true, true, true, true, true, true, true, true, true, true, true, true, true, true, false, false, false, false, false, false, false, false] rfl rfl (any_of HT_.out (by kernel_rfl)) (fun _ _ _ h => h) (Or.inr ⟨by rfl, rfl⟩) ?_ ?_
           rotate_left
           ·simp only [Act.put, List.setIfInBounds_toArray, List.set_cons_zero, List.set_cons_succ, i64_w, i32_w]
            rfl
           refine pure_ (i := 21) (N := some 74) (v := undef) (a' := ?_) #[true, true, true, true, true, true, true, true, true, true, true, true, true, true, true, true, true, true, true, true, true, true, false, false, false, false, false, false, false] rfl rfl (any_of HT_.out (by kernel_rfl)) (fun _ _ _ h => h) (Or.inr ⟨by rfl, rfl⟩) ?_ ?_
           rotate_left
           ·simp only [Act.put, List.setIfInBounds_toArray, List.set_cons_zero, List.set_cons_succ, i64_w, i32_w]
            rfl
           refine pure_ (i := 22) (N := some 75) (v := undef) (a' := ?_) #[true, true, true, true, true, true, true, true, true, true, true, true, true, true, true, true, true, true, true, true, true, true, true, false, false, false, false, false, false] rfl rfl (any_of HT_.out (by kernel_rfl)) (fun _ _ _ h => h) (Or.inr ⟨by rfl, rfl⟩) ?_ ?_
           rotate_left
           ·simp only [Act.put, List.setIfInBounds_toArray, List.set_cons_zero, List.set_cons_succ, i64_w, i32_w]
            rfl
           refine pure_ (i := 23) (N := some 76) (v := undef) (a' := ?_) #[true, true, true, true, true, true, true, true, true, true, true, true, true, true, true, true, true, true, true, true, true, true, true, true, false, false, false, false, false] rfl rfl (any_of HT_.out (by kernel_rfl)) (fun _ _ _ h => h) (Or.inr ⟨by rfl, rfl⟩) ?_ ?_
           rotate_left
           ·simp only [Act.put, List.setIfInBounds_toArray, List.set_cons_zero, List.set_cons_succ, i64_w, i32_w]
            rfl
           refine pure_ (i := 24) (N := some 77) (v := undef) (a' := ?_) #[true, true, true, true, true, true, true, true, true, true, true, true, true, true, true, true, true, true, true, true, true, true, true, true, true, false, false, false, false] rfl rfl (any_of HT_.out (by kernel_rfl)) (fun _ _ _ h => h) (Or.inr ⟨by rfl, rfl⟩) ?_ ?_
           rotate_left
           ·simp only [Act.put, List.setIfInBounds_toArray, List.set_cons_zero, List.set_cons_succ, i64_w, i32_w]
            rfl
           refine pure_ (i := 25) (N := some 78) (v := undef) (a' := ?_) #[true, true, true, true, true, true, true, true, true, true, true, true, true, true, true, true, true, true, true, true, true, true, true, true, true, true, false, false, false] rfl rfl (any_of HT_.out (by kernel_rfl)) (fun _ _ _ h => h) (Or.inr ⟨by rfl, rfl⟩) ?_ ?_
           rotate_left
           ·simp only [Act.put, List.setIfInBounds_toArray, List.set_cons_zero, List.set_cons_succ, i64_w, i32_w]
            rfl
           refine pure_ (i := 26) (N := some 79) (v := undef) (a' := ?_) #[true, true, true, true, true, true, true, true, true, true, true, true, true, true, true, true, true, true, true, true, true, true, true, true, true, true, true, false, false] rfl rfl (any_of HT_.out (by kernel_rfl)) (fun _ _ _ h => h) (Or.inr ⟨by rfl, rfl⟩) ?_ ?_
           rotate_left
           ·simp only [Act.put, List.setIfInBounds_toArray, List.set_cons_zero, List.set_cons_succ, i64_w, i32_w]
            rfl
           refine pure_ (i := 27) (N := some 80) (v := undef) (a' := ?_) #[true, true, true, true, true, true, true, true, true, true, true, true, true, true, true, true, true, true, true, true, true, true, true, true, true, true, true, true, false] rfl rfl (any_of HT_.out (by kernel_rfl)) (fun _ _ _ h => h) (Or.inr ⟨by rfl, rfl⟩) ?_ ?_
           rotate_left
           ·simp only [Act.put, List.setIfInBounds_toArray, List.set_cons_zero, List.set_cons_succ, i64_w, i32_w]
            rfl
           refine pure_ (i := 28) (N := some 81) (v := ?_) (a' := ?_) #[true, true, true, true, true, true, true, true, true, true, true, true, true, true, true, true, true, true, true, true, true, true, true, true, true, true, true, true, true] rfl rfl (any_of HT_.out (by kernel_rfl)) (fun _ _ _ h => h) (Or.inl ⟨by rfl, ?_⟩) ?_ ?_
           rotate_left
           ·intro w'
            go_simp
            with_reducible rfl
           rotate_left
           ·simp only [Act.put, List.setIfInBounds_toArray, List.set_cons_zero, List.set_cons_succ, i64_w, i32_w]
            rfl
           refine done_ (done_of HT_.out (by kernel_rfl)) ?_
           go_wp2
           go_roundg gj
           case measure => omega
           case rel => exact ⟨i + 1, ii + 1, (by first | rfl | (rw [w64_id _ (by omega) (by omega)])), rfl, ⟨by have := Nii.out; omega⟩, ⟨by have := HG2.out; omega⟩, ⟨no_hop HNH.out Nyl.out ((hop_eval N0.out NA.out NDD.out rfl).trans (by simp))⟩, HO16, HO14, HMs, HB⟩
          | true =>
           have NDD : Aside0 (decide (y.f3 ≥ (k : Int) + a5) = true) := aM (by rw [← ND.out]; exact bD)
           have HO14_ := aM (Kd.R_drew HO14.out)
           have HMs_ := aM (HMs.out.drew)
           have HO16_ := aM (Kd.R_drew HO16.out)
           have BK_ := aM (blk_drew BK.out)
           have HB_ := aM (below_drew1 HB.out)
           clear HO14 HMs HO16 BK HB
           have HO14 := HO14_
           have HMs := HMs_
           have HO16 := HO16_
           have BK := BK_
           have HB := HB_
           clear HO14_ HMs_ HO16_ BK_ HB_
           refine start_ (n := 29) (S := fun w' => w'.cell? ⟨gb, 0, none⟩ = some (.int .i64 y.f0) ∧ w'.cell? ⟨gb, 1, none⟩ = some (.int .i64 y.f1) ∧ w'.cell? ⟨gb, 2, none⟩ = some (.int .i64 y.f2) ∧ w'.cell? ⟨gb, 3, none⟩ = some (.int .i64 y.f3) ∧ w'.cell? ⟨gb, 4, none⟩ = some (.int .i64 y.f4) ∧ w'.cell? ⟨gb, 5, none⟩ = some (.int .i64 y.f5) ∧ w'.cell? ⟨gb, 6, none⟩ = some (.bool y.f6) ∧ w'.cell? ⟨go14, kj.toNat, none⟩ = some (.map (some rk)) ∧ (Instr.lookup 80 (.map (some rk)) (.int .i64 y.f1) false).run Try.prog w' = .ok (.bool bR) w') (ds := []) #[false, false, false, false, false, false, false, false, false, false, false, false, false, false, false, false, false, false, false, false, false, false, false, false, false, false, false, false, false] (by kernel_rfl) rfl rfl ⟨(blk_cell BK.out 0).trans rfl, (blk_cell BK.out 1).trans rfl, (blk_cell BK.out 2).trans rfl, (blk_cell BK.out 3).trans rfl, (blk_cell BK.out 4).trans rfl, (blk_cell BK.out 5).trans rfl, (blk_cell BK.out 6).trans rfl, kMap_cell HO14.out Nrk.out kj Nkj.out, (by have h_ := ((HMs.out k rk Nrk.out).2).lookup y.f1; rw [cR.out] at h_; exact h_)⟩ (fun hHeld => ?_); refine with_tabW impl_chain.tab15 impl_chain.bits15 (fun HT_ HW_ => ?_)
           generalize w6.drew = wd_ at HO14 HMs HO16 BK HB hHeld ⊢
           refine pure_ (i := 0) (N := some 53) (v := ?_) (a' := ?_) #[true, false, false, false, false, false, false, false, false, false, false, false, false, false, false, false, false, false, false, false, false, false, false, false, false, false, false, false, false] rfl rfl (any_of HT_.out (by kernel_rfl)) (fun _ _ _ h => h) (Or.inl ⟨by rfl, ?_⟩) ?_ ?_
           rotate_left
           ·intro w'
            go_simp
            with_reducible rfl
           rotate_left
           ·simp only [Act.put, List.setIfInBounds_toArray, List.set_cons_zero, List.set_cons_succ, i64_w, i32_w]
            rfl
           refine pure_ (i := 2) (N := some 55) (v := ?_) (a' := ?_) #[true, false, true, false, false, false, false, false, false, false, false, false, false, false, false, false, false, false, false, false, false, false, false, false, false, false, false, false, false] rfl rfl (any_of HT_.out (by kernel_rfl)) (fun _ _ _ h => h) (Or.inl ⟨by rfl, ?_⟩) ?_ ?_
           rotate_left
           ·intro w'
            go_simp
            with_reducible rfl
           rotate_left
           ·simp only [Act.put, List.setIfInBounds_toArray, List.set_cons_zero, List.set_cons_succ, i64_w, i32_w]
            rfl
           refine take_ (i := 1) (N := some 54) (v := ?_) (a' := ?_) #[true, true, true, false, false, false, false, false, false, false, false, false, false, false, false, false, false, false, false, false, false, false, false, false, false, false, false, false, false] rfl rfl (take_ofW HT_.out HW_.out (by kernel_rfl)) (fun _ _ _ h => h) (Or.inl ⟨by rfl, ?_⟩) hHeld ?_ ?_
           rotate_left
           ·rintro w' ⟨s0, s1, s2, s3, s4, s5, s6, s7, s8⟩
            go_simp
            with_reducible rfl
           rotate_left
           ·simp only [Act.put, List.setIfInBounds_toArray, List.set_cons_zero, List.set_cons_succ, i64_w, i32_w]
            rfl
           refine pure_ (i := 3) (N := some 56) (v := ?_) (a' := ?_) #[true, true, true, true, false, false, false, false, false, false, false, false, false, false, false, false, false, false, false, false, false, false, false, false, false, false, false, false, false] rfl rfl (any_of HT_.out (by kernel_rfl)) (fun _ _ _ h => h) (Or.inl ⟨by rfl, ?_⟩) ?_ ?_
           rotate_left
           ·intro w'
            go_simp
            with_reducible rfl
           rotate_left
           ·simp only [Act.put, List.setIfInBounds_toArray, List.set_cons_zero, List.set_cons_succ, i64_w, i32_w]
            rfl
           refine pure_ (i := 4) (N := some 57) (v := ?_) (a' := ?_) #[true, true, true, true, true, false, false, false, false, false, false, false, false, false, false, false, false, false, false, false, false, false, false, false, false, false, false, false, false] rfl rfl (any_of HT_.out (by kernel_rfl)) (fun _ _ _ h => h) (Or.inl ⟨by rfl, ?_⟩) ?_ ?_
           rotate_left
           ·intro w'
            go_simp
            with_reducible rfl
           rotate_left
           ·simp only [Act.put, List.setIfInBounds_toArray, List.set_cons_zero, List.set_cons_succ, i64_w, i32_w]
            rfl
           refine pure_ (i := 6) (N := some 59) (v := ?_) (a' := ?_) #[true, true, true, true, true, false, true, false, false, false, false, false, false, false, false, false, false, false, false, false, false, false, false, false, false, false, false, false, false] rfl rfl (any_of HT_.out (by kernel_rfl)) (fun _ _ _ h => h) (Or.inl ⟨by rfl, ?_⟩) ?_ ?_
           rotate_left
           ·intro w'
            go_simp
            with_reducible rfl
           rotate_left
           ·simp only [Act.put, List.setIfInBounds_toArray, List.set_cons_zero, List.set_cons_succ, i64_w, i32_w]
            rfl
           refine pure_ (i := 7) (N := some 60) (v := ?_) (a' := ?_) #[true, true, true, true, true, false, true, true, false, false, false, false, false, false, false, false, false, false, false, false, false, false, false, false, false, false, false, false, false] rfl rfl (any_of HT_.out (by kernel_rfl)) (fun _ _ _ h => h) (Or.inl ⟨by rfl, ?_⟩) ?_ ?_
           rotate_left
           ·intro w'
            go_simp
            with_reducible rfl
           rotate_left
           ·simp only [Act.put, List.setIfInBounds_toArray, List.set_cons_zero, List.set_cons_succ, i64_w, i32_w]
            rfl
           refine take_ (i := 5) (N := some 58) (v := ?_) (a' := ?_) #[true, true, true, true, true, true, true, true, false, false, false, false, false, false, false, false, false, false, false, false, false, false, false, false, false, false, false, false, false] rfl rfl (take_ofW HT_.out HW_.out (by kernel_rfl)) (fun _ _ _ h => h) (Or.inl ⟨by rfl, ?_⟩) hHeld ?_ ?_
           rotate_left
           ·rintro w' ⟨s0, s1, s2, s3, s4, s5, s6, s7, s8⟩
            go_simp
            with_reducible rfl
           rotate_left
           ·simp only [Act.put, List.setIfInBounds_toArray, List.set_cons_zero, List.set_cons_succ, i64_w, i32_w]
            rfl
           refine one_ (i := 8) (N := some 61) #[true, true, true, true, true, true, true, true, true, false, false, false, false, false, false, false, false, false, false, false, false, false, false, false, false, false, false, false, false] rfl rfl (one_of HT_.out (by kernel_rfl)) (by decide) (fun K hK => ?_)
           refine goes_ Try.func22 (by kernel_rfl) rfl #[.agg #[.int .i64 y.f0, .int .i64 y.f1, .int .i64 y.f2, .int .i64 y.f3, .int .i64 y.f4, .int .i64 y.f5, .bool y.f6], .int .i64 a3, .int .i64 a4] (by rfl) rfl rfl (by (try simp only [List.map_toArray, List.map_cons, List.map_nil]); first | done | rfl | (simp only [List.length_drop, List.length_take]; rfl)) ?_
           with_reducible refine (impl_Applies.calls y.f0 y.f1 y.f2 y.f3 y.f4 y.f5 y.f6 a3 a4 true _ HA.out).mono ?_
           rintro e wz_ ⟨rfl, hb⟩
           refine ⟨_, rfl, ?_⟩
           have HO14_ := aM (Kd.R_below HO14.out hb)
           have HMs_ := aM (HMs.out.below hb)
           have HO16_ := aM (Kd.R_below HO16.out hb)
           have BK_ := aM (blk_below BK.out hb)
           have HB_ := aM (below_step HB.out hb)
           clear hb HO14 HMs HO16 BK HB
           have HO14 := HO14_
           have HMs := HMs_
           have HO16 := HO16_
           have BK := BK_
           have HB := HB_
           clear HO14_ HMs_ HO16_ BK_ HB_
           refine hK.out _ _ ⟨(blk_cell BK.out 0).trans rfl, (blk_cell BK.out 1).trans rfl, (blk_cell BK.out 2).trans rfl, (blk_cell BK.out 3).trans rfl, (blk_cell BK.out 4).trans rfl, (blk_cell BK.out 5).trans rfl, (blk_cell BK.out 6).trans rfl, kMap_cell HO14.out Nrk.out kj Nkj.out, (by have h_ := ((HMs.out k rk Nrk.out).2).lookup y.f1; rw [cR.out] at h_; exact h_)⟩ (fun hHeld => ?_)
           clear hK K
           refine norm_ (a' := ?_) ?_ ?_
           rotate_left
           ·show Act.put _ (some 61) _ = _
            simp only [Act.put, List.setIfInBounds_toArray, List.set_cons_zero, List.set_cons_succ, i64_w, i32_w]
            rfl
           refine pure_ (i := 9) (N := some 62) (v := ?_) (a' := ?_) #[true, true, true, true, true, true, true, true, true, true, false, false, false, false, false, false, false, false, false, false, false, false, false, false, false, false, false, false, false] rfl rfl (any_of HT_.out (by kernel_rfl)) (fun _ _ _ h => h) (Or.inl ⟨by rfl, ?_⟩) ?_ ?_
           rotate_left
           ·intro w'
            go_simp
            with_reducible rfl
           rotate_left
           ·simp only [Act.put, List.setIfInBounds_toArray, List.set_cons_zero, List.set_cons_succ, i64_w, i32_w]
            rfl
           refine pure_ (i := 10) (N := some 63) (v := ?_) (a' := ?_) #[true, true, true, true, true, true, true, true, true, true, true, false, false, false, false, false, false, false, false, false, false, false, false, false, false, false, false, false, false] rfl rfl (any_of HT_.out (by kernel_rfl)) (fun _ _ _ h => h) (Or.inl ⟨by rfl, ?_⟩) ?_ ?_
           rotate_left
           ·intro w'
            go_simp
            with_reducible rfl
           rotate_left
           ·simp only [Act.put, List.setIfInBounds_toArray, List.set_cons_zero, List.set_cons_succ, i64_w, i32_w]
            rfl
           refine pure_ (i := 11) (N := some 64) (v := ?_) (a' := ?_) #[true, true, true, true, true, true, true, true, true, true, true, true, false, false, false, false, false, false, false, false, false, false, false, false, false, false, false, false, false] rfl rfl (any_of HT_.out (by kernel_rfl)) (fun _ _ _ h => h) (Or.inl ⟨by rfl, ?_⟩) ?_ ?_
           rotate_left
           ·intro w'
            go_simp
            with_reducible rfl
           rotate_left
           ·simp only [Act.put, List.setIfInBounds_toArray, List.set_cons_zero, List.set_cons_succ, i64_w, i32_w]
            rfl
           refine pure_ (i := 13) (N := some 66) (v := ?_) (a' := ?_) #[true, true, true, true, true, true, true, true, true, true, true, true, false, true, false, false, false, false, false, false, false, false, false, false, false, false, false, false, false] rfl rfl (any_of HT_.out (by kernel_rfl)) (fun _ _ _ h => h) (Or.inl ⟨by rfl, ?_⟩) ?_ ?_
           rotate_left
           ·intro w'
            go_simp
            with_reducible rfl
           rotate_left
           ·simp only [Act.put, List.setIfInBounds_toArray, List.set_cons_zero, List.set_cons_succ, i64_w, i32_w]
            rfl
           refine pure_ (i := 14) (N := some 67) (v := ?_) (a' := ?_) #[true, true, true, true, true, true, true, true, true, true, true, true, false, true, true, false, false, false, false, false, false, false, false, false, false, false, false, false, false] rfl rfl (any_of HT_.out (by kernel_rfl)) (fun _ _ _ h => h) (Or.inl ⟨by rfl, ?_⟩) ?_ ?_
           rotate_left
           ·intro w'
            go_simp
            with_reducible rfl
           rotate_left
           ·simp only [Act.put, List.setIfInBounds_toArray, List.set_cons_zero, List.set_cons_succ, i64_w, i32_w]
            rfl
           refine pure_ (i := 15) (N := some 68) (v := ?_) (a' := ?_) #[true, true, true, true, true, true, true, true, true, true, true, true, false, true, true, true, false, false, false, false, false, false, false, false, false, false, false, false, false] rfl rfl (any_of HT_.out (by kernel_rfl)) (fun _ _ _ h => h) (Or.inl ⟨by rfl, ?_⟩) ?_ ?_
           rotate_left
           ·intro w'
            go_simp
            with_reducible rfl
           rotate_left
           ·simp only [Act.put, List.setIfInBounds_toArray, List.set_cons_zero, List.set_cons_succ, i64_w, i32_w]
            rfl
           refine pure_ (i := 16) (N := some 69) (v := ?_) (a' := ?_) #[true, true, true, true, true, true, true, true, true, true, true, true, false, true, true, true, true, false, false, false, false, false, false, false, false, false, false, false, false] rfl rfl (any_of HT_.out (by kernel_rfl)) (fun _ _ _ h => h) (Or.inl ⟨by rfl, ?_⟩) ?_ ?_
           rotate_left
           ·intro w'
            go_simp
            with_reducible rfl
           rotate_left
           ·simp only [Act.put, List.setIfInBounds_toArray, List.set_cons_zero, List.set_cons_succ, i64_w, i32_w]
            rfl
           refine take_ (i := 12) (N := some 65) (v := ?_) (a' := ?_) #[true, true, true, true, true, true, true, true, true, true, true, true, true, true, true, true, true, false, false, false, false, false, false, false, false, false, false, false, false] rfl rfl (take_ofW HT_.out HW_.out (by kernel_rfl)) (fun _ _ _ h => h) (Or.inl ⟨by rfl, ?_⟩) hHeld ?_ ?_
           rotate_left
           ·rintro w' ⟨s0, s1, s2, s3, s4, s5, s6, s7, s8⟩
            go_simp
            with_reducible rfl
           rotate_left
           ·simp only [Act.put, List.setIfInBounds_toArray, List.set_cons_zero, List.set_cons_succ, i64_w, i32_w]
            rfl
           refine pure_ (i := 17) (N := some 70) (v := ?_) (a' := ?_) #[true, true, true, true, true, true, true, true, true, true, true, true, true, true, true, true, true, true, false, false, false, false, false, false, false, false, false, false, false] rfl rfl (any_of HT_.out (by kernel_rfl)) (fun _ _ _ h => h) (Or.inl ⟨by rfl, ?_⟩) ?_ ?_
           rotate_left
           ·intro w'
            go_simp
            with_reducible rfl
           rotate_left
           ·simp only [Act.put, List.setIfInBounds_toArray, List.set_cons_zero, List.set_cons_succ, i64_w, i32_w]
            rfl
           refine pure_ (i := 18) (N := some 71) (v := ?_) (a' := ?_) #[true, true, true, true, true, true, true, true, true, true, true, true, true, true, true, true, true, true, true, false, false, false, false, false, false, false, false, false, false] rfl rfl (any_of HT_.out (by kernel_rfl)) (fun _ _ _ h => h) (Or.inl ⟨by rfl, ?_⟩) ?_ ?_
           rotate_left
           ·intro w'
            go_simp
            with_reducible rfl
           rotate_left
           ·simp only [Act.put, List.setIfInBounds_toArray, List.set_cons_zero, List.set_cons_succ, i64_w, i32_w]
            rfl
           refine pure_ (i := 19) (N := some 72) (v := ?_) (a' := ?_) #[true, true, true, true, true, true, true, true, true, true, true, true, true, true, true, true, true, true, true, true, false, false, false, false, false, false, false, false, false] rfl rfl (any_of HT_.out (by kernel_rfl)) (fun _ _ _ h => h) (Or.inl ⟨by rfl, ?_⟩) ?_ ?_
           rotate_left
           ·intro w'
            go_simp
            with_reducible rfl
           rotate_left
           ·simp only [Act.put, List.setIfInBounds_toArray, List.set_cons_zero, List.set_cons_succ, i64_w, i32_w]
            rfl
           refine pure_ (i := 20) (N := some 73) (v := ?_) (a' := ?_) #[true, true, true, true, true, true, true, true, true, true, true, true, true, true, true, true, true, true, true, true, true, false, false, false, false, false, false, false, false] rfl rfl (any_of HT_.out (by kernel_rfl)) (fun _ _ _ h => h) (Or.inl ⟨by rfl, ?_⟩) ?_ ?_
           rotate_left
           ·intro w'
            go_simp
            with_reducible rfl
           rotate_left
           ·simp only [Act.put, List.setIfInBounds_toArray, List.set_cons_zero, List.set_cons_succ, i64_w, i32_w]
            rfl
           refine pure_ (i := 21) (N := some 74) (v := ?_) (a' := ?_) #[true, true, true, true, true, true, true, true, true, true, true, true, true, true, true, true, true, true, true, true, true, true, false, false, false, false, false, false, false] rfl rfl (any_of HT_.out (by kernel_rfl)) (fun _ _ _ h => h) (Or.inl ⟨by rfl, ?_⟩) ?_ ?_
           rotate_left
           ·intro w'
            go_simp
            with_reducible rfl
           rotate_left
           ·simp only [Act.put, List.setIfInBounds_toArray, List.set_cons_zero, List.set_cons_succ, i64_w, i32_w]
            rfl
           refine pure_ (i := 22) (N := some 75) (v := ?_) (a' := ?_) #[true, true, true, true, true, true, true, true, true, true, true, true, true, true, true, true, true, true, true, true, true, true, true, false, false, false, false, false, false] rfl rfl (any_of HT_.out (by kernel_rfl)) (fun _ _ _ h => h) (Or.inl ⟨by rfl, ?_⟩) ?_ ?_
           rotate_left
           ·intro w'
            go_simp
            with_reducible rfl
           rotate_left
           ·simp only [Act.put, List.setIfInBounds_toArray, List.set_cons_zero, List.set_cons_succ, i64_w, i32_w]
            rfl
           refine pure_ (i := 23) (N := some 76) (v := ?_) (a' := ?_) #[true, true, true, true, true, true, true, true, true, true, true, true, true, true, true, true, true, true, true, true, true, true, true, true, false, false, false, false, false] rfl rfl (any_of HT_.out (by kernel_rfl)) (fun _ _ _ h => h) (Or.inl ⟨by rfl, ?_⟩) ?_ ?_
           rotate_left
           ·intro w'
            go_simp
            with_reducible rfl
           rotate_left
           ·simp only [Act.put, List.setIfInBounds_toArray, List.set_cons_zero, List.set_cons_succ, i64_w, i32_w]
            rfl
           refine pure_ (i := 25) (N := some 78) (v := ?_) (a' := ?_) #[true, true, true, true, true, true, true, true, true, true, true, true, true, true, true, true, true, true, true, true, true, true, true, true, false, true, false, false, false] rfl rfl (any_of HT_.out (by kernel_rfl)) (fun _ _ _ h => h) (Or.inl ⟨by rfl, ?_⟩) ?_ ?_
           rotate_left
           ·intro w'
            go_simp
            with_reducible rfl
           rotate_left
           ·simp only [Act.put, List.setIfInBounds_toArray, List.set_cons_zero, List.set_cons_succ, i64_w, i32_w]
            rfl
           refine take_ (i := 24) (N := some 77) (v := ?_) (a' := ?_) #[true, true, true, true, true, true, true, true, true, true, true, true, true, true, true, true, true, true, true, true, true, true, true, true, true, true, false, false, false] rfl rfl (take_ofW HT_.out HW_.out (by kernel_rfl)) (fun _ _ _ h => h) (Or.inl ⟨by rfl, ?_⟩) hHeld ?_ ?_
           rotate_left
           ·rintro w' ⟨s0, s1, s2, s3, s4, s5, s6, s7, s8⟩
            go_simp
            with_reducible rfl
           rotate_left
           ·simp only [Act.put, List.setIfInBounds_toArray, List.set_cons_zero, List.set_cons_succ, i64_w, i32_w]
            rfl
           refine take_ (i := 26) (N := some 79) (v := ?_) (a' := ?_) #[true, true, true, true, true, true, true, true, true, true, true, true, true, true, true, true, true, true, true, true, true, true, true, true, true, true, true, false, false] rfl rfl (take_ofW HT_.out HW_.out (by kernel_rfl)) (fun _ _ _ h => h) (Or.inl ⟨by rfl, ?_⟩) hHeld ?_ ?_
           rotate_left
           ·rintro w' ⟨s0, s1, s2, s3, s4, s5, s6, s7, s8⟩
            go_simp
            with_reducible rfl
           rotate_left
           ·simp only [Act.put, List.setIfInBounds_toArray, List.set_cons_zero, List.set_cons_succ, i64_w, i32_w]
            rfl
           refine take_ (i := 27) (N := some 80) (v := ?_) (a' := ?_) #[true, true, true, true, true, true, true, true, true, true, true, true, true, true, true, true, true, true, true, true, true, true, true, true, true, true, true, true, false] rfl rfl (take_ofW HT_.out HW_.out (by kernel_rfl)) (fun _ _ _ h => h) (Or.inl ⟨by rfl, ?_⟩) hHeld ?_ ?_
           rotate_left
           ·rintro w' ⟨s0, s1, s2, s3, s4, s5, s6, s7, s8⟩
            go_simp
            with_reducible rfl
           rotate_left
           ·simp only [Act.put, List.setIfInBounds_toArray, List.set_cons_zero, List.set_cons_succ, i64_w, i32_w]
            rfl
           refine pure_ (i := 28) (N := some 81) (v := ?_) (a' := ?_) #[true, true, true, true, true, true, true, true, true, true, true, true, true, true, true, true, true, true, true, true, true, true, true, true, true, true, true, true, true] rfl rfl (any_of HT_.out (by kernel_rfl)) (fun _ _ _ h => h) (Or.inl ⟨by rfl, ?_⟩) ?_ ?_
           rotate_left
           ·intro w'
            go_simp
            with_reducible rfl
           rotate_left
           ·simp only [Act.put, List.setIfInBounds_toArray, List.set_cons_zero, List.set_cons_succ, i64_w, i32_w]
            rfl
           refine done_ (done_of HT_.out (by kernel_rfl)) ?_
           cases bR with
           | false =>
            go_wp2
            go_roundg gj
            case measure => omega
            case rel => exact ⟨i + 1, ii + 1, (by first | rfl | (rw [w64_id _ (by omega) (by omega)])), rfl, ⟨by have := Nii.out; omega⟩, ⟨by have := HG2.out; omega⟩, ⟨no_hop HNH.out Nyl.out (hop_eval N0.out NA.out NDD.out cR.out)⟩, HO16, HO14, HMs, HB⟩
           | true =>
            obtain ⟨hcz0, hcz1, hcz2, hcz3, hcz4, hcz5, hcz6, hfz0, hfz1, hfz2, hfz3, hfz4, hfz5, hfz6⟩ := cells7 BK.out
            go_wp2_with (first | ((with_reducible refine gate_builtin (b := .append) (xs := #[.tmp 82, .tmp 84]) rfl ?_); at_builtin; refine Kd.R_append (Kd.int .i64) (w0 := w) w.heap.size rfl (.tmp 82) (.tmp 84) 47 3 (.int .i64 0) 8 rfl Try.underlying47 info3_ rfl (by decide) (by omega) u16 out ii [.int .i64 ii] (fun _ => True) (fun _ => False) rfl rfl ?aP (fun _ hk => hk.elim) ?aF ?aO ?aB ?aS ?aL ?_; (case aP => exact rfl); (case aB => exact HB.out); (case aF => exact (fun _ _ => trivial)); (case aO => exact HO16.out); (case aS => exact below_size HB.out); (case aL => have := HOL.out; omega); intro v7 w7 ho hb hg hat; have HO14_ := aM (Kd.R_over HO14.out HO16.out (by decide) hg); have HMs_ := aM (HMs.out.grown_row HO16.out hg); have BK_ := aM (blk_grown BK.out hg (Kd.R_ne HO16.out BK.out (by decide))); clear HO14 HMs HO16 BK HB hcz0 hcz1 hcz2 hcz3 hcz4 hcz5 hcz6 hfz0 hfz1 hfz2 hfz3 hfz4 hfz5 hfz6; have HO14 := HO14_; have HMs := HMs_; have BK := BK_; have HO16 := aM ho; have HB := aM hb; clear HO14_ HMs_ BK_ ho hb hg hat; obtain ⟨hcz0, hcz1, hcz2, hcz3, hcz4, hcz5, hcz6, hfz0, hfz1, hfz2, hfz3, hfz4, hfz5, hfz6⟩ := cells7 BK.out))
            go_roundg gc
            case measure => omega
            case rel => exact ⟨k, kj, y.f1, out ++ [ii], rfl, (by first | rfl | (rw [hji]) | (rw [hjiw])), Nkj, ⟨by have := HG3.out; omega⟩, ⟨by have := HOL.out; simp only [List.length_append, List.length_cons, List.length_nil]; omega⟩, ⟨by rw [← HP.out]; exact (path_hop HNH.out Nyl.out (hop_eval N0.out NA.out NDD.out cR.out) Nii.out).symm⟩, HO16, HO14, HMs, HB⟩
        ·have h0b : (y.f0 == at_) = false := beq_eq_false_iff_ne.mpr h0
         have h0c : (y.f0 != at_) = true := bne_iff_ne.mpr h0
         have N0 : Aside0 (decide (y.f0 = at_) = false) := aM (decide_eq_false h0)
         clear h0
         have HO14_ := aM (Kd.R_drew HO14.out)
         have HMs_ := aM (HMs.out.drew)
         have HO16_ := aM (Kd.R_drew HO16.out)
         have BK_ := aM (blk_drew BK.out)
         have HB_ := aM (below_drew1 HB.out)
         clear HO14 HMs HO16 BK HB
         have HO14 := HO14_
         have HMs := HMs_
         have HO16 := HO16_
         have BK := BK_
         have HB := HB_
         clear HO14_ HMs_ HO16_ BK_ HB_
         refine start_ (n := 29) (S := fun w' => w'.cell? ⟨gb, 0, none⟩ = some (.int .i64 y.f0) ∧ w'.cell? ⟨gb, 1, none⟩ = some (.int .i64 y.f1) ∧ w'.cell? ⟨gb, 2, none⟩ = some (.int .i64 y.f2) ∧ w'.cell? ⟨gb, 3, none⟩ = some (.int .i64 y.f3) ∧ w'.cell? ⟨gb, 4, none⟩ = some (.int .i64 y.f4) ∧ w'.cell? ⟨gb, 5, none⟩ = some (.int .i64 y.f5) ∧ w'.cell? ⟨gb, 6, none⟩ = some (.bool y.f6) ∧ w'.cell? ⟨go14, kj.toNat, none⟩ = some (.map (some rk)) ∧ (Instr.lookup 80 (.map (some rk)) (.int .i64 y.f1) false).run Try.prog w' = .ok (.bool bR) w') (ds := []) #[false, false, false, false, false, false, false, false, false, false, false, false, false, false, false, false, false, false, false, false, false, false, false, false, false, false, false, false, false] (by kernel_rfl) rfl rfl ⟨(blk_cell BK.out 0).trans rfl, (blk_cell BK.out 1).trans rfl, (blk_cell BK.out 2).trans rfl, (blk_cell BK.out 3).trans rfl, (blk_cell BK.out 4).trans rfl, (blk_cell BK.out 5).trans rfl, (blk_cell BK.out 6).trans rfl, kMap_cell HO14.out Nrk.out kj Nkj.out, (by have h_ := ((HMs.out k rk Nrk.out).2).lookup y.f1; rw [cR.out] at h_; exact h_)⟩ (fun hHeld => ?_); refine with_tabW impl_chain.tab15 impl_chain.bits15 (fun HT_ HW_ => ?_)
         generalize w6.drew = wd_ at HO14 HMs HO16 BK HB hHeld ⊢
         refine pure_ (i := 0) (N := some 53) (v := ?_) (a' := ?_) #[true, false, false, false, false, false, false, false, false, false, false, false, false, false, false, false, false, false, false, false, false, false, false, false, false, false, false, false, false] rfl rfl (any_of HT_.out (by kernel_rfl)) (fun _ _ _ h => h) (Or.inl ⟨by rfl, ?_⟩) ?_ ?_
         rotate_left
         ·intro w'
          go_simp
          with_reducible rfl
         rotate_left
         ·simp only [Act.put, List.setIfInBounds_toArray, List.set_cons_zero, List.set_cons_succ, i64_w, i32_w]
          rfl
         refine pure_ (i := 2) (N := some 55) (v := ?_) (a' := ?_) #[true, false, true, false, false, false, false, false, false, false, false, false, false, false, false, false, false, false, false, false, false, false, false, false, false, false, false, false, false] rfl rfl (any_of HT_.out (by kernel_rfl)) (fun _ _ _ h => h) (Or.inl ⟨by rfl, ?_⟩) ?_ ?_
         rotate_left
         ·intro w'
          go_simp
          with_reducible rfl
         rotate_left
         ·simp only [Act.put, List.setIfInBounds_toArray, List.set_cons_zero, List.set_cons_succ, i64_w, i32_w]
          rfl
         refine take_ (i := 1) (N := some 54) (v := ?_) (a' := ?_) #[true, true, true, false, false, false, false, false, false, false, false, false, false, false, false, false, false, false, false, false, false, false, false, false, false, false, false, false, false] rfl rfl (take_ofW HT_.out HW_.out (by kernel_rfl)) (fun _ _ _ h => h) (Or.inl ⟨by rfl, ?_⟩) hHeld ?_ ?_
         rotate_left
         ·rintro w' ⟨s0, s1, s2, s3, s4, s5, s6, s7, s8⟩
          go_simp
          with_reducible rfl
         rotate_left
         ·simp only [Act.put, List.setIfInBounds_toArray, List.set_cons_zero, List.set_cons_succ, i64_w, i32_w]
          rfl
         refine pure_ (i := 3) (N := some 56) (v := ?_) (a' := ?_) #[true, true, true, true, false, false, false, false, false, false, false, false, false, false, false, false, false, false, false, false, false, false, false, false, false, false, false, false, false] rfl rfl (any_of HT_.out (by kernel_rfl)) (fun _ _ _ h => h) (Or.inl ⟨by rfl, ?_⟩) ?_ ?_
         rotate_left
         ·intro w'
          go_simp
          with_reducible rfl
         rotate_left
         ·simp only [Act.put, List.setIfInBounds_toArray, List.set_cons_zero, List.set_cons_succ, i64_w, i32_w]
          rfl
         refine pure_ (i := 4) (N := some 57) (v := ?_) (a' := ?_) #[true, true, true, true, true, false, false, false, false, false, false, false, false, false, false, false, false, false, false, false, false, false, false, false, false, false, false, false, false] rfl rfl (any_of HT_.out (by kernel_rfl)) (fun _ _ _ h => h) (Or.inl ⟨by rfl, ?_⟩) ?_ ?_
         rotate_left
         ·intro w'
          go_simp
          with_reducible rfl
         rotate_left
         ·simp only [Act.put, List.setIfInBounds_toArray, List.set_cons_zero, List.set_cons_succ, i64_w, i32_w]
          rfl
         refine pure_ (i := 5) (N := some 58) (v := undef) (a' := ?_) #[true, true, true, true, true, true, false, false, false, false, false, false, false, false, false, false, false, false, false, false, false, false, false, false, false, false, false, false, false] rfl rfl (any_of HT_.out (by kernel_rfl)) (fun _ _ _ h => h) (Or.inr ⟨by rfl, rfl⟩) ?_ ?_
         rotate_left
         ·simp only [Act.put, List.setIfInBounds_toArray, List.set_cons_zero, List.set_cons_succ, i64_w, i32_w]
          rfl
         refine pure_ (i := 6) (N := some 59) (v := undef) (a' := ?_) #[true, true, true, true, true, true, true, false, false, false, false, false, false, false, false, false, false, false, false, false, false, false, false, false, false, false, false, false, false] rfl rfl (any_of HT_.out (by kernel_rfl)) (fun _ _ _ h => h) (Or.inr ⟨by rfl, rfl⟩) ?_ ?_
         rotate_left
         ·simp only [Act.put, List.setIfInBounds_toArray, List.set_cons_zero, List.set_cons_succ, i64_w, i32_w]
          rfl
         refine pure_ (i := 7) (N := some 60) (v := undef) (a' := ?_) #[true, true, true, true, true, true, true, true, false, false, false, false, false, false, false, false, false, false, false, false, false, false, false, false, false, false, false, false, false] rfl rfl (any_of HT_.out (by kernel_rfl)) (fun _ _ _ h => h) (Or.inr ⟨by rfl, rfl⟩) ?_ ?_
         rotate_left
         ·simp only [Act.put, List.setIfInBounds_toArray, List.set_cons_zero, List.set_cons_succ, i64_w, i32_w]
          rfl
         refine pure_ (i := 8) (N := some 61) (v := undef) (a' := ?_) #[true, true, true, true, true, true, true, true, true, false, false, false, false, false, false, false, false, false, false, false, false, false, false, false, false, false, false, false, false] rfl rfl (any_of HT_.out (by kernel_rfl)) (fun _ _ _ h => h) (Or.inr ⟨by rfl, rfl⟩) ?_ ?_
         rotate_left
         ·simp only [Act.put, List.setIfInBounds_toArray, List.set_cons_zero, List.set_cons_succ, i64_w, i32_w]
          rfl
         refine pure_ (i := 9) (N := some 62) (v := ?_) (a' := ?_) #[true, true, true, true, true, true, true, true, true, true, false, false, false, false, false, false, false, false, false, false, false, false, false, false, false, false, false, false, false] rfl rfl (any_of HT_.out (by kernel_rfl)) (fun _ _ _ h => h) (Or.inl ⟨by rfl, ?_⟩) ?_ ?_
         rotate_left
         ·intro w'
          go_simp
          with_reducible rfl
         rotate_left
         ·simp only [Act.put, List.setIfInBounds_toArray, List.set_cons_zero, List.set_cons_succ, i64_w, i32_w]
          rfl
         refine pure_ (i := 10) (N := some 63) (v := ?_) (a' := ?_) #[true, true, true, true, true, true, true, true, true, true, true, false, false, false, false, false, false, false, false, false, false, false, false, false, false, false, false, false, false] rfl rfl (any_of HT_.out (by kernel_rfl)) (fun _ _ _ h => h) (Or.inl ⟨by rfl, ?_⟩) ?_ ?_
         rotate_left
         ·intro w'
          go_simp
          with_reducible rfl
         rotate_left
         ·simp only [Act.put, List.setIfInBounds_toArray, List.set_cons_zero, List.set_cons_succ, i64_w, i32_w]
          rfl
         refine pure_ (i := 11) (N := some 64) (v := undef) (a' := ?_) #[true, true, true, true, true, true, true, true, true, true, true, true, false, false, false, false, false, false, false, false, false, false, false, false, false, false, false, false, false] rfl rfl (any_of HT_.out (by kernel_rfl)) (fun _ _ _ h => h) (Or.inr ⟨by rfl, rfl⟩) ?_ ?_
         rotate_left
         ·simp only [Act.put, List.setIfInBounds_toArray, List.set_cons_zero, List.set_cons_succ, i64_w, i32_w]
          rfl
         refine pure_ (i := 12) (N := some 65) (v := undef) (a' := ?_) #[true, true, true, true, true, true, true, true, true, true, true, true, true, false, false, false, false, false, false, false, false, false, false, false, false, false, false, false, false] rfl rfl (any_of HT_.out (by kernel_rfl)) (fun _ _ _ h => h) (Or.inr ⟨by rfl, rfl⟩) ?_ ?_
         rotate_left
         ·simp only [Act.put, List.setIfInBounds_toArray, List.set_cons_zero, List.set_cons_succ, i64_w, i32_w]
          rfl
         refine pure_ (i := 13) (N := some 66) (v := undef) (a' := ?_) #[true, true, true, true, true, true, true, true, true, true, true, true, true, true, false, false, false, false, false, false, false, false, false, false, false, false, false, false, false] rfl rfl (any_of HT_.out (by kernel_rfl)) (fun _ _ _ h => h) (Or.inr ⟨by rfl, rfl⟩) ?_ ?_
         rotate_left
         ·simp only [Act.put, List.setIfInBounds_toArray, List.set_cons_zero, List.set_cons_succ, i64_w, i32_w]
          rfl
         refine pure_ (i := 14) (N := some 67) (v := undef) (a' := ?_) #[true, true, true, true, true, true, true, true, true, true, true, true, true, true, true, false, false, false, false, false, false, false, false, false, false, false, false, false, false] rfl rfl (any_of HT_.out (by kernel_rfl)) (fun _ _ _ h => h) (Or.inr ⟨by rfl, rfl⟩) ?_ ?_
         rotate_left
         ·simp only [Act.put, List.setIfInBounds_toArray, List.set_cons_zero, List.set_cons_succ, i64_w, i32_w]
          rfl
         refine pure_ (i := 15) (N := some 68) (v := undef) (a' := ?_) #[true, true, true, true, true, true, true, true, true, true, true, true, true, true, true, true, false, false, false, false, false, false, false, false, false, false, false, false, false] rfl rfl (any_of HT_.out (by kernel_rfl)) (fun _ _ _ h => h) (Or.inr ⟨by rfl, rfl⟩) ?_ ?_
         rotate_left
         ·simp only [Act.put, List.setIfInBounds_toArray, List.set_cons_zero, List.set_cons_succ, i64_w, i32_w]
          rfl
         refine pure_ (i := 16) (N := some 69) (v := undef) (a' := ?_) #[true, true, true, true, true, true, true, true, true, true, true, true, true, true, true, true, true, false, false, false, false, false, false, false, false, false, false, false, false] rfl rfl (any_of HT_.out (by kernel_rfl)) (fun _ _ _ h => h) (Or.inr ⟨by rfl, rfl⟩) ?_ ?_
         rotate_left
         ·simp only [Act.put, List.setIfInBounds_toArray, List.set_cons_zero, List.set_cons_succ, i64_w, i32_w]
          rfl
         refine pure_ (i := 17) (N := some 70) (v := undef) (a' := ?_) #[true, true, true, true, true, true, true, true, true, true, true, true, true, true, true, true, true, true, false, false, false, false, false, false, false, false, false, false, false] rfl rfl (any_of HT_.out (by kernel_rfl)) (fun _ _ _ h => h) (Or.inr ⟨by rfl, rfl⟩) ?_ ?_
         rotate_left
         ·simp only [Act.put, List.setIfInBounds_toArray, List.set_cons_zero, List.set_cons_succ, i64_w, i32_w]
          rfl
         refine pure_ (i := 18) (N := some 71) (v := ?_) (a' := ?_) #[true, true, true, true, true, true, true, true, true, true, true, true, true, true, true, true, true, true, true, false, false, false, false, false, false, false, false, false, false] rfl rfl (any_of HT_.out (by kernel_rfl)) (fun _ _ _ h => h) (Or.inl ⟨by rfl, ?_⟩) ?_ ?_
         rotate_left
         ·intro w'
          go_simp
          with_reducible rfl
         rotate_left
         ·simp only [Act.put, List.setIfInBounds_toArray, List.set_cons_zero, List.set_cons_succ, i64_w, i32_w]
          rfl
         refine pure_ (i := 19) (N := some 72) (v := ?_) (a' := ?_) #[true, true, true, true, true, true, true, true, true, true, true, true, true, true, true, true, true, true, true, true, false, false, false, false, false, false, false, false, false] rfl rfl (any_of HT_.out (by kernel_rfl)) (fun _ _ _ h => h) (Or.inl ⟨by rfl, ?_⟩) ?_ ?_
         rotate_left
         ·intro w'
          go_simp
          with_reducible rfl
         rotate_left
         ·simp only [Act.put, List.setIfInBounds_toArray, List.set_cons_zero, List.set_cons_succ, i64_w, i32_w]
          rfl
         refine pure_ (i := 20) (N := some 73) (v := undef) (a' := ?_) #[true, true, true, true, true, true, true, true, true, true, true, true, true, true, true, true, true, true, true, true, true, false, false, false, false, false, false, false, false] rfl rfl (any_of HT_.out (by kernel_rfl)) (fun _ _ _ h => h) (Or.inr ⟨by rfl, rfl⟩) ?_ ?_
         rotate_left
         ·simp only [Act.put, List.setIfInBounds_toArray, List.set_cons_zero, List.set_cons_succ, i64_w, i32_w]
          rfl
         refine pure_ (i := 21) (N := some 74) (v := undef) (a' := ?_) #[true, true, true, true, true, true, true, true, true, true, true, true, true, true, true, true, true, true, true, true, true, true, false, false, false, false, false, false, false] rfl rfl (any_of HT_.out (by kernel_rfl)) (fun _ _ _ h => h) (Or.inr ⟨by rfl, rfl⟩) ?_ ?_
         rotate_left
         ·simp only [Act.put, List.setIfInBounds_toArray, List.set_cons_zero, List.set_cons_succ, i64_w, i32_w]
          rfl
         refine pure_ (i := 22) (N := some 75) (v := undef) (a' := ?_) #[true, true, true, true, true, true, true, true, true, true, true, true, true, true, true, true, true, true, true, true, true, true, true, false, false, false, false, false, false] rfl rfl (any_of HT_.out (by kernel_rfl)) (fun _ _ _ h => h) (Or.inr ⟨by rfl, rfl⟩) ?_ ?_
         rotate_left
         ·simp only [Act.put, List.setIfInBounds_toArray, List.set_cons_zero, List.set_cons_succ, i64_w, i32_w]
          rfl
         refine pure_ (i := 23) (N := some 76) (v := undef) (a' := ?_) #[true, true, true, true, true, true, true, true, true, true, true, true, true, true, true, true, true, true, true, true, true, true, true, true, false, false, false, false, false] rfl rfl (any_of HT_.out (by kernel_rfl)) (fun _ _ _ h => h) (Or.inr ⟨by rfl, rfl⟩) ?_ ?_
         rotate_left
         ·simp only [Act.put, List.setIfInBounds_toArray, List.set_cons_zero, List.set_cons_succ, i64_w, i32_w]
          rfl
         refine pure_ (i := 24) (N := some 77) (v := undef) (a' := ?_) #[true, true, true, true, true, true, true, true, true, true, true, true, true, true, true, true, true, true, true, true, true, true, true, true, true, false, false, false, false] rfl rfl (any_of HT_.out (by kernel_rfl)) (fun _ _ _ h => h) (Or.inr ⟨by rfl, rfl⟩) ?_ ?_
         rotate_left
         ·simp only [Act.put, List.setIfInBounds_toArray, List.set_cons_zero, List.set_cons_succ, i64_w, i32_w]
          rfl
         refine pure_ (i := 25) (N := some 78) (v := undef) (a' := ?_) #[true, true, true, true, true, true, true, true, true, true, true, true, true, true, true, true, true, true, true, true, true, true, true, true, true, true, false, false, false] rfl rfl (any_of HT_.out (by kernel_rfl)) (fun _ _ _ h => h) (Or.inr ⟨by rfl, rfl⟩) ?_ ?_
         rotate_left
         ·simp only [Act.put, List.setIfInBounds_toArray, List.set_cons_zero, List.set_cons_succ, i64_w, i32_w]
          rfl
         refine pure_ (i := 26) (N := some 79) (v := undef) (a' := ?_) #[true, true, true, true, true, true, true, true, true, true, true, true, true, true, true, true, true, true, true, true, true, true, true, true, true, true, true, false, false] rfl rfl (any_of HT_.out (by kernel_rfl)) (fun _ _ _ h => h) (Or.inr ⟨by rfl, rfl⟩) ?_ ?_
         rotate_left
         ·simp only [Act.put, List.setIfInBounds_toArray, List.set_cons_zero, List.set_cons_succ, i64_w, i32_w]
          rfl
         refine pure_ (i := 27) (N := some 80) (v := undef) (a' := ?_) #[true, true, true, true, true, true, true, true, true, true, true, true, true, true, true, true, true, true, true, true, true, true, true, true, true, true, true, true, false] rfl rfl (any_of HT_.out (by kernel_rfl)) (fun _ _ _ h => h) (Or.inr ⟨by rfl, rfl⟩) ?_ ?_
         rotate_left
         ·simp only [Act.put, List.setIfInBounds_toArray, List.set_cons_zero, List.set_cons_succ, i64_w, i32_w]
          rfl
         refine pure_ (i := 28) (N := some 81) (v := ?_) (a' := ?_) #[true, true, true, true, true, true, true, true, true, true, true, true, true, true, true, true, true, true, true, true, true, true, true, true, true, true, true, true, true] rfl rfl (any_of HT_.out (by kernel_rfl)) (fun _ _ _ h => h) (Or.inl ⟨by rfl, ?_⟩) ?_ ?_
         rotate_left
         ·intro w'
          go_simp
          with_reducible rfl
         rotate_left
         ·simp only [Act.put, List.setIfInBounds_toArray, List.set_cons_zero, List.set_cons_succ, i64_w, i32_w]
          rfl
         refine done_ (done_of HT_.out (by kernel_rfl)) ?_
         go_wp2
         go_roundg gj
         case measure => omega
         case rel => exact ⟨i + 1, ii + 1, (by first | rfl | (rw [w64_id _ (by omega) (by omega)])), rfl, ⟨by have := Nii.out; omega⟩, ⟨by have := HG2.out; omega⟩, ⟨no_hop HNH.out Nyl.out (hop_eval N0.out rfl rfl rfl)⟩, HO16, HO14, HMs, HB⟩
       ·have b3 : decide (ii < (l0.length : Int)) = false := decide_eq_false (by have := Nii.out; omega)
        have Nhi : Aside0 (l0.length ≤ i) := aM (by omega)
        clear hi
        have hji := Nji.out
        have hjiw : (IntKind.i64.wrap (ki - 1)) = kj := (i64_w _).trans hji
        go_wp2
        go_roundg gc
        case measure => omega
        case rel => exact ⟨k, kj, at_, out, rfl, (by first | rfl | (rw [hji]) | (rw [hjiw])), Nkj, ⟨by have := HG3.out; omega⟩, ⟨by have := HOL.out; omega⟩, ⟨by rw [← HP.out]; exact (path_none (fun j g hj => HNH.out j g (by have := (List.getElem?_eq_some_iff.1 hj).1; have := Nhi.out; omega) hj)).symm⟩, HO16, HO14, HMs, HB⟩
   ·replace hr := Bool.eq_false_iff.mpr hr
    rw [hr] at hlk
    have Nhr := aM hr
    clear hr
    go_wp2_with (first | ((with_reducible refine gate_dst (N := 90) rfl ?_); refine makeMap_event rfl (N := 90) rfl rfl ?_; intro rN w4 hrm hm hb; have HMN := aM hm; have HNE : Aside0 (∀ j s : Nat, ms[j]? = some s → s ≠ rN) := aM (fun j s hj e_ => by have := (HMs.out j s hj).2.lt; omega); have HrN : Aside0 (w.heap.size ≤ rN) := aM (by rw [hrm]; exact below_size HB.out); replace HO14 := aM (Kd.R_below HO14.out hb); replace HMs := aM (HMs.out.below hb); replace HB := aM (below_step HB.out hb); clear hm hb hrm))
    go_loopg [93] l0.length (fun gk v93 w' => ∃ (i : Nat) (ii : Int), v93 = .int .i64 ii ∧ Aside0 (ii = (i : Int)) ∧ Aside0 (i + gk = l0.length) ∧ Aside0 (IsMap w' rN (fun p => (l0.take i).any (nxt l0 a3 a4 a2 a5 n p))) ∧ Aside0 (kMap.R 80 w' w.heap.size (fun _ => True) (.slice (some ⟨go14, 0, none⟩) ms.length co14) ms) ∧ Aside0 (MapsOk w' w.heap.size ms (rch l0 a3 a4 a2 a5)) ∧ Aside0 (Below w.heap.size w w'))
    case atStart => exact ⟨0, 0, rfl, ⟨rfl⟩, ⟨Nat.zero_add _⟩, ⟨HMN.out.congr (fun k => by simp)⟩, HO14, HMs, HB⟩
    case round =>
     clear HO14 HMs HB HMN hx14 hlk Nmap
     obtain ⟨i, ii, rfl, Nii, HG2, HMN, HO14, HMs, HB⟩ := hrel
     by_cases hi : i < l0.length
     ·have p3 : (0 : Int) ≤ ii := by have := Nii.out; omega
      have q3 : ii < (l0.length : Int) := by have := Nii.out; omega
      have b3 : decide (ii < (l0.length : Int)) = true := decide_eq_true q3
      have Nhi := aM hi
      clear hi
      obtain ⟨ad3, e3, hy0, hy1, hy2, hy3, hy4, hy5, hy6⟩ := at_T25 HR0.out ii p3 q3
      cases e3
      replace hy0 := (HB.out.cell (World.block_lt_of_cell? w _ hy0)).trans hy0
      replace hy1 := (HB.out.cell (World.block_lt_of_cell? w _ hy1)).trans hy1
      replace hy2 := (HB.out.cell (World.block_lt_of_cell? w _ hy2)).trans hy2
      replace hy3 := (HB.out.cell (World.block_lt_of_cell? w _ hy3)).trans hy3
      replace hy4 := (HB.out.cell (World.block_lt_of_cell? w _ hy4)).trans hy4
      replace hy5 := (HB.out.cell (World.block_lt_of_cell? w _ hy5)).trans hy5
      replace hy6 := (HB.out.cell (World.block_lt_of_cell? w _ hy6)).trans hy6
      obtain ⟨y, hy⟩ : ∃ y, y = rd_T25 l0 ii := ⟨_, rfl⟩
      rw [← hy] at hy0 hy1 hy2 hy3 hy4 hy5 hy6
      have Ny := aM hy
      clear hy
      replace p3 := eq_true p3
      replace q3 := eq_true q3
      go_upto_region 24 with (first | ((with_reducible refine gate_dst (N := 23) rfl ?_); refine box_event ?hg (N := 23) ?hd (cs := #[.int .i64 0, .int .i64 0, .int .i64 0, .int .i64 0, .int .i64 0, .int .i64 0, .bool false]) (t := 25) ?hr ?_; (case hd => rfl); (case hg => rfl); (case hr => first | (go_simp; done) | (go_simp; rfl)); intro gb hg w5 hbox hb; have BK := aM hbox; have GB : Aside0 (w.heap.size ≤ gb) := aM (by rw [hg]; exact below_size HB.out); replace HO14 := aM (Kd.R_below HO14.out hb); replace HMs := aM (HMs.out.below hb); replace HMN := aM (HMN.out.below hb); replace HB := aM (below_step HB.out hb); clear hbox hb hg; obtain ⟨hcz0, hcz1, hcz2, hcz3, hcz4, hcz5, hcz6, hfz0, hfz1, hfz2, hfz3, hfz4, hfz5, hfz6⟩ := cells7 BK.out) | ((with_reducible refine gate_store (t := 25) (p := 23) rfl ?_); refine fill_event (y := y) 23 _ rfl rfl rfl rfl rfl BK.out ?_; intro w6 hbk hgr; have HO14_ := aM (R_cells HO14.out BK.out (by decide) hgr); have HMs_ := aM (HMs.out.grown_cells BK.out hgr); have HMN_ := aM (HMN.out.grown hgr (fun e => HMN.out.ne_cells BK.out (by injection e))); have HB_ : Aside0 (Below w.heap.size w w6) := aM (HB.out.grown hgr (below_size HB.out) (fun k hk => by injection hk with hk; rw [← hk]; exact GB.out)); clear HO14 HMs HB BK HMN hcz0 hcz1 hcz2 hcz3 hcz4 hcz5 hcz6 hfz0 hfz1 hfz2 hfz3 hfz4 hfz5 hfz6; have HO14 := HO14_; have HMs := HMs_; have HB := HB_; have HMN := HMN_; have BK := aM hbk; clear hbk hgr HO14_ HMs_ HB_ HMN_))
      have Nyl : Aside0 (l0[i]? = some y) := aM (by rw [Ny.out, Nii.out]; simp only [rd_T25, Int.toNat_natCast, List.getD_eq_getElem?_getD, List.getElem?_eq_getElem Nhi.out, Option.getD_some])
      obtain ⟨gj, hgj⟩ : ∃ gj, gk = gj + 1 := ⟨gk - 1, by have := HG2.out; have := Nhi.out; omega⟩
      subst hgj
      have u3 : ii ≤ 1000000 := by have := Nii.out; have := Nhi.out; omega
      have u4 : 0 ≤ ii := by have := Nii.out; omega
      have ND : Aside0 ((decide (wrap64 (ni + a5) ≤ y.f3)) = decide (y.f3 ≥ (n : Int) + a5)) := aM (by rw [w64_id _ (by omega) (by omega), Nni.out])
      obtain ⟨bR, hR⟩ : ∃ bR, rch l0 a3 a4 a2 a5 n y.f1 = bR := ⟨_, rfl⟩
      have cR := aM hR
      clear hR
      go_wp2_with fail
      cases hA : ap a3 a4 y with
      | false =>
       have HA : Aside0 (impl_Applies.f y.f0 y.f1 y.f2 y.f3 y.f4 y.f5 y.f6 a3 a4 = some false) := aM (by rw [ap_some, hA])
       have NA := aM hA
       clear hA
       have HO14_ := aM (Kd.R_drew HO14.out)
       have HMs_ := aM (HMs.out.drew)
       have HMN_ := aM (HMN.out.drew)
       have BK_ := aM (blk_drew BK.out)
       have HB_ := aM (below_drew1 HB.out)
       clear HO14 HMs HMN BK HB
       have HO14 := HO14_
       have HMs := HMs_
       have HMN := HMN_
       have BK := BK_
       have HB := HB_
       clear HO14_ HMs_ HMN_ BK_ HB_
       refine start_ (n := 21) (S := fun w' => w'.cell? ⟨gb, 0, none⟩ = some (.int .i64 y.f0) ∧ w'.cell? ⟨gb, 1, none⟩ = some (.int .i64 y.f1) ∧ w'.cell? ⟨gb, 2, none⟩ = some (.int .i64 y.f2) ∧ w'.cell? ⟨gb, 3, none⟩ = some (.int .i64 y.f3) ∧ w'.cell? ⟨gb, 4, none⟩ = some (.int .i64 y.f4) ∧ w'.cell? ⟨gb, 5, none⟩ = some (.int .i64 y.f5) ∧ w'.cell? ⟨gb, 6, none⟩ = some (.bool y.f6) ∧ w'.cell? ⟨go14, ni.toNat, none⟩ = some (.map (some rn)) ∧ (Instr.lookup 80 (.map (some rn)) (.int .i64 y.f1) false).run Try.prog w' = .ok (.bool bR) w') (ds := []) #[false, false, false, false, false, false, false, false, false, false, false, false, false, false, false, false, false, false, false, false, false] (by kernel_rfl) rfl rfl ⟨(blk_cell BK.out 0).trans rfl, (blk_cell BK.out 1).trans rfl, (blk_cell BK.out 2).trans rfl, (blk_cell BK.out 3).trans rfl, (blk_cell BK.out 4).trans rfl, (blk_cell BK.out 5).trans rfl, (blk_cell BK.out 6).trans rfl, kMap_cell HO14.out Nrn.out ni Nni.out, (by have h_ := ((HMs.out n rn Nrn.out).2).lookup y.f1; rw [cR.out] at h_; exact h_)⟩ (fun hHeld => ?_); refine with_tabW impl_chain.tab24 impl_chain.bits24 (fun HT_ HW_ => ?_)
       generalize w6.drew = wd_ at HO14 HMs HMN BK HB hHeld ⊢
       refine pure_ (i := 1) (N := some 98) (v := ?_) (a' := ?_) #[false, true, false, false, false, false, false, false, false, false, false, false, false, false, false, false, false, false, false, false, false] rfl rfl (any_of HT_.out (by kernel_rfl)) (fun _ _ _ h => h) (Or.inl ⟨by rfl, ?_⟩) ?_ ?_
       rotate_left
       ·intro w'
        go_simp
        with_reducible rfl
       rotate_left
       ·simp only [Act.put, List.setIfInBounds_toArray, List.set_cons_zero, List.set_cons_succ, i64_w, i32_w]
        rfl
       refine pure_ (i := 2) (N := some 99) (v := ?_) (a' := ?_) #[false, true, true, false, false, false, false, false, false, false, false, false, false, false, false, false, false, false, false, false, false] rfl rfl (any_of HT_.out (by kernel_rfl)) (fun _ _ _ h => h) (Or.inl ⟨by rfl, ?_⟩) ?_ ?_
       rotate_left
       ·intro w'
        go_simp
        with_reducible rfl
       rotate_left
       ·simp only [Act.put, List.setIfInBounds_toArray, List.set_cons_zero, List.set_cons_succ, i64_w, i32_w]
        rfl
       refine take_ (i := 0) (N := some 97) (v := ?_) (a' := ?_) #[true, true, true, false, false, false, false, false, false, false, false, false, false, false, false, false, false, false, false, false, false] rfl rfl (take_ofW HT_.out HW_.out (by kernel_rfl)) (fun _ _ _ h => h) (Or.inl ⟨by rfl, ?_⟩) hHeld ?_ ?_
       rotate_left
       ·rintro w' ⟨s0, s1, s2, s3, s4, s5, s6, s7, s8⟩
        go_simp
        with_reducible rfl
       rotate_left
       ·simp only [Act.put, List.setIfInBounds_toArray, List.set_cons_zero, List.set_cons_succ, i64_w, i32_w]
        rfl
       refine one_ (i := 3) (N := some 100) #[true, true, true, true, false, false, false, false, false, false, false, false, false, false, false, false, false, false, false, false, false] rfl rfl (one_of HT_.out (by kernel_rfl)) (by decide) (fun K hK => ?_)
       refine goes_ Try.func22 (by kernel_rfl) rfl #[.agg #[.int .i64 y.f0, .int .i64 y.f1, .int .i64 y.f2, .int .i64 y.f3, .int .i64 y.f4, .int .i64 y.f5, .bool y.f6], .int .i64 a3, .int .i64 a4] (by rfl) rfl rfl (by (try simp only [List.map_toArray, List.map_cons, List.map_nil]); first | done | rfl | (simp only [List.length_drop, List.length_take]; rfl)) ?_
       with_reducible refine (impl_Applies.calls y.f0 y.f1 y.f2 y.f3 y.f4 y.f5 y.f6 a3 a4 false _ HA.out).mono ?_
       rintro e wz_ ⟨rfl, hb⟩
       refine ⟨_, rfl, ?_⟩
       have HO14_ := aM (Kd.R_below HO14.out hb)
       have HMs_ := aM (HMs.out.below hb)
       have HMN_ := aM (HMN.out.below hb)
       have BK_ := aM (blk_below BK.out hb)
       have HB_ := aM (below_step HB.out hb)
       clear hb HO14 HMs HMN BK HB
       have HO14 := HO14_
       have HMs := HMs_
       have HMN := HMN_
       have BK := BK_
       have HB := HB_
       clear HO14_ HMs_ HMN_ BK_ HB_
       refine hK.out _ _ ⟨(blk_cell BK.out 0).trans rfl, (blk_cell BK.out 1).trans rfl, (blk_cell BK.out 2).trans rfl, (blk_cell BK.out 3).trans rfl, (blk_cell BK.out 4).trans rfl, (blk_cell BK.out 5).trans rfl, (blk_cell BK.out 6).trans rfl, kMap_cell HO14.out Nrn.out ni Nni.out, (by have h_ := ((HMs.out n rn Nrn.out).2).lookup y.f1; rw [cR.out] at h_; exact h_)⟩ (fun hHeld => ?_)
       clear hK K
       refine norm_ (a' := ?_) ?_ ?_
       rotate_left
       ·show Act.put _ (some 100) _ = _
        simp only [Act.put, List.setIfInBounds_toArray, List.set_cons_zero, List.set_cons_succ, i64_w, i32_w]
        rfl
       refine pure_ (i := 4) (N := some 101) (v := ?_) (a' := ?_) #[true, true, true, true, true, false, false, false, false, false, false, false, false, false, false, false, false, false, false, false, false] rfl rfl (any_of HT_.out (by kernel_rfl)) (fun _ _ _ h => h) (Or.inl ⟨by rfl, ?_⟩) ?_ ?_
       rotate_left
       ·intro w'
        go_simp
        with_reducible rfl
       rotate_left
       ·simp only [Act.put, List.setIfInBounds_toArray, List.set_cons_zero, List.set_cons_succ, i64_w, i32_w]
        rfl
       refine pure_ (i := 5) (N := some 102) (v := undef) (a' := ?_) #[true, true, true, true, true, true, false, false, false, false, false, false, false, false, false, false, false, false, false, false, false] rfl rfl (any_of HT_.out (by kernel_rfl)) (fun _ _ _ h => h) (Or.inr ⟨by rfl, rfl⟩) ?_ ?_
       rotate_left
       ·simp only [Act.put, List.setIfInBounds_toArray, List.set_cons_zero, List.set_cons_succ, i64_w, i32_w]
        rfl
       refine pure_ (i := 6) (N := some 103) (v := undef) (a' := ?_) #[true, true, true, true, true, true, true, false, false, false, false, false, false, false, false, false, false, false, false, false, false] rfl rfl (any_of HT_.out (by kernel_rfl)) (fun _ _ _ h => h) (Or.inr ⟨by rfl, rfl⟩) ?_ ?_
       rotate_left
       ·simp only [Act.put, List.setIfInBounds_toArray, List.set_cons_zero, List.set_cons_succ, i64_w, i32_w]
        rfl
       refine pure_ (i := 7) (N := some 104) (v := undef) (a' := ?_) #[true, true, true, true, true, true, true, true, false, false, false, false, false, false, false, false, false, false, false, false, false] rfl rfl (any_of HT_.out (by kernel_rfl)) (fun _ _ _ h => h) (Or.inr ⟨by rfl, rfl⟩) ?_ ?_
       rotate_left
       ·simp only [Act.put, List.setIfInBounds_toArray, List.set_cons_zero, List.set_cons_succ, i64_w, i32_w]
        rfl
       refine pure_ (i := 8) (N := some 105) (v := undef) (a' := ?_) #[true, true, true, true, true, true, true, true, true, false, false, false, false, false, false, false, false, false, false, false, false] rfl rfl (any_of HT_.out (by kernel_rfl)) (fun _ _ _ h => h) (Or.inr ⟨by rfl, rfl⟩) ?_ ?_
       rotate_left
       ·simp only [Act.put, List.setIfInBounds_toArray, List.set_cons_zero, List.set_cons_succ, i64_w, i32_w]
        rfl
       refine pure_ (i := 9) (N := some 106) (v := undef) (a' := ?_) #[true, true, true, true, true, true, true, true, true, true, false, false, false, false, false, false, false, false, false, false, false] rfl rfl (any_of HT_.out (by kernel_rfl)) (fun _ _ _ h => h) (Or.inr ⟨by rfl, rfl⟩) ?_ ?_
       rotate_left
       ·simp only [Act.put, List.setIfInBounds_toArray, List.set_cons_zero, List.set_cons_succ, i64_w, i32_w]
        rfl
       refine pure_ (i := 10) (N := some 107) (v := undef) (a' := ?_) #[true, true, true, true, true, true, true, true, true, true, true, false, false, false, false, false, false, false, false, false, false] rfl rfl (any_of HT_.out (by kernel_rfl)) (fun _ _ _ h => h) (Or.inr ⟨by rfl, rfl⟩) ?_ ?_
       rotate_left
       ·simp only [Act.put, List.setIfInBounds_toArray, List.set_cons_zero, List.set_cons_succ, i64_w, i32_w]
        rfl
       refine pure_ (i := 11) (N := some 108) (v := ?_) (a' := ?_) #[true, true, true, true, true, true, true, true, true, true, true, true, false, false, false, false, false, false, false, false, false] rfl rfl (any_of HT_.out (by kernel_rfl)) (fun _ _ _ h => h) (Or.inl ⟨by rfl, ?_⟩) ?_ ?_
       rotate_left
       ·intro w'
        go_simp
        with_reducible rfl
       rotate_left
       ·simp only [Act.put, List.setIfInBounds_toArray, List.set_cons_zero, List.set_cons_succ, i64_w, i32_w]
        rfl
       refine pure_ (i := 12) (N := some 109) (v := ?_) (a' := ?_) #[true, true, true, true, true, true, true, true, true, true, true, true, true, false, false, false, false, false, false, false, false] rfl rfl (any_of HT_.out (by kernel_rfl)) (fun _ _ _ h => h) (Or.inl ⟨by rfl, ?_⟩) ?_ ?_
       rotate_left
       ·intro w'
        go_simp
        with_reducible rfl
       rotate_left
       ·simp only [Act.put, List.setIfInBounds_toArray, List.set_cons_zero, List.set_cons_succ, i64_w, i32_w]
        rfl
       refine pure_ (i := 13) (N := some 110) (v := undef) (a' := ?_) #[true, true, true, true, true, true, true, true, true, true, true, true, true, true, false, false, false, false, false, false, false] rfl rfl (any_of HT_.out (by kernel_rfl)) (fun _ _ _ h => h) (Or.inr ⟨by rfl, rfl⟩) ?_ ?_
       rotate_left
       ·simp only [Act.put, List.setIfInBounds_toArray, List.set_cons_zero, List.set_cons_succ, i64_w, i32_w]
        rfl
       refine pure_ (i := 14) (N := some 111) (v := undef) (a' := ?_) #[true, true, true, true, true, true, true, true, true, true, true, true, true, true, true, false, false, false, false, false, false] rfl rfl (any_of HT_.out (by kernel_rfl)) (fun _ _ _ h => h) (Or.inr ⟨by rfl, rfl⟩) ?_ ?_
       rotate_left
       ·simp only [Act.put, List.setIfInBounds_toArray, List.set_cons_zero, List.set_cons_succ, i64_w, i32_w]
        rfl
       refine pure_ (i := 15) (N := some 112) (v := undef) (a' := ?_) #[true, true, true, true, true, true, true, true, true, true, true, true, true, true, true, true, false, false, false, false, false] rfl rfl (any_of HT_.out (by kernel_rfl)) (fun _ _ _ h => h) (Or.inr ⟨by rfl, rfl⟩) ?_ ?_
       rotate_left
       ·simp only [Act.put, List.setIfInBounds_toArray, List.set_cons_zero, List.set_cons_succ, i64_w, i32_w]
        rfl
       refine pure_ (i := 16) (N := some 113) (v := undef) (a' := ?_) #[true, true, true, true, true, true, true, true, true, true, true, true, true, true, true, true, true, false, false, false, false] rfl rfl (any_of HT_.out (by kernel_rfl)) (fun _ _ _ h => h) (Or.inr ⟨by rfl, rfl⟩) ?_ ?_
       rotate_left
       ·simp only [Act.put, List.setIfInBounds_toArray, List.set_cons_zero, List.set_cons_succ, i64_w, i32_w]
        rfl
       refine pure_ (i := 17) (N := some 114) (v := undef) (a' := ?_) #[true, true, true, true, true, true, true, true, true, true, true, true, true, true, true, true, true, true, false, false, false] rfl rfl (any_of HT_.out (by kernel_rfl)) (fun _ _ _ h => h) (Or.inr ⟨by rfl, rfl⟩) ?_ ?_
       rotate_left
       ·simp only [Act.put, List.setIfInBounds_toArray, List.set_cons_zero, List.set_cons_succ, i64_w, i32_w]
        rfl
       refine pure_ (i := 18) (N := some 115) (v := undef) (a' := ?_) #[true, true, true, true, true, true, true, true, true, true, true, true, true, true, true, true, true, true, true, false, false] rfl rfl (any_of HT_.out (by kernel_rfl)) (fun _ _ _ h => h) (Or.inr ⟨by rfl, rfl⟩) ?_ ?_
       rotate_left
       ·simp only [Act.put, List.setIfInBounds_toArray, List.set_cons_zero, List.set_cons_succ, i64_w, i32_w]
        rfl
       refine pure_ (i := 19) (N := some 116) (v := undef) (a' := ?_) #[true, true, true, true, true, true, true, true, true, true, true, true, true, true, true, true, true, true, true, true, false] rfl rfl (any_of HT_.out (by kernel_rfl)) (fun _ _ _ h => h) (Or.inr ⟨by rfl, rfl⟩) ?_ ?_
       rotate_left
       ·simp only [Act.put, List.setIfInBounds_toArray, List.set_cons_zero, List.set_cons_succ, i64_w, i32_w]
        rfl
       refine pure_ (i := 20) (N := some 117) (v := ?_) (a' := ?_) #[true, true, true, true, true, true, true, true, true, true, true, true, true, true, true, true, true, true, true, true, true] rfl rfl (any_of HT_.out (by kernel_rfl)) (fun _ _ _ h => h) (Or.inl ⟨by rfl, ?_⟩) ?_ ?_
       rotate_left
       ·intro w'
        go_simp
        with_reducible rfl
       rotate_left
       ·simp only [Act.put, List.setIfInBounds_toArray, List.set_cons_zero, List.set_cons_succ, i64_w, i32_w]
        rfl
       refine done_ (done_of HT_.out (by kernel_rfl)) ?_
       go_wp2
       go_roundg gj
       case measure => omega
       case rel => exact ⟨i + 1, ii + 1, (by first | rfl | (rw [w64_id _ (by omega) (by omega)])), ⟨by have := Nii.out; omega⟩, ⟨by have := HG2.out; omega⟩, ⟨HMN.out.congr (fun k => by rw [any_take _ Nyl.out]; simp [nxt, NA.out])⟩, HO14, HMs, HB⟩
      | true =>
       have HA : Aside0 (impl_Applies.f y.f0 y.f1 y.f2 y.f3 y.f4 y.f5 y.f6 a3 a4 = some true) := aM (by rw [ap_some, hA])
       have NA := aM hA
       clear hA
       cases bD : decide (wrap64 (ni + a5) ≤ y.f3) with
       | false =>
        have NDD : Aside0 (decide (y.f3 ≥ (n : Int) + a5) = false) := aM (by rw [← ND.out]; exact bD)
        have HO14_ := aM (Kd.R_drew HO14.out)
        have HMs_ := aM (HMs.out.drew)
        have HMN_ := aM (HMN.out.drew)
        have BK_ := aM (blk_drew BK.out)
        have HB_ := aM (below_drew1 HB.out)
        clear HO14 HMs HMN BK HB
        have HO14 := HO14_
        have HMs := HMs_
        have HMN := HMN_
        have BK := BK_
        have HB := HB_
        clear HO14_ HMs_ HMN_ BK_ HB_
        refine start_ (n := 21) (S := fun w' => w'.cell? ⟨gb, 0, none⟩ = some (.int .i64 y.f0) ∧ w'.cell? ⟨gb, 1, none⟩ = some (.int .i64 y.f1) ∧ w'.cell? ⟨gb, 2, none⟩ = some (.int .i64 y.f2) ∧ w'.cell? ⟨gb, 3, none⟩ = some (.int .i64 y.f3) ∧ w'.cell? ⟨gb, 4, none⟩ = some (.int .i64 y.f4) ∧ w'.cell? ⟨gb, 5, none⟩ = some (.int .i64 y.f5) ∧ w'.cell? ⟨gb, 6, none⟩ = some (.bool y.f6) ∧ w'.cell? ⟨go14, ni.toNat, none⟩ = some (.map (some rn)) ∧ (Instr.lookup 80 (.map (some rn)) (.int .i64 y.f1) false).run Try.prog w' = .ok (.bool bR) w') (ds := []) #[false, false, false, false, false, false, false, false, false, false, false, false, false, false, false, false, false, false, false, false, false] (by kernel_rfl) rfl rfl ⟨(blk_cell BK.out 0).trans rfl, (blk_cell BK.out 1).trans rfl, (blk_cell BK.out 2).trans rfl, (blk_cell BK.out 3).trans rfl, (blk_cell BK.out 4).trans rfl, (blk_cell BK.out 5).trans rfl, (blk_cell BK.out 6).trans rfl, kMap_cell HO14.out Nrn.out ni Nni.out, (by have h_ := ((HMs.out n rn Nrn.out).2).lookup y.f1; rw [cR.out] at h_; exact h_)⟩ (fun hHeld => ?_); refine with_tabW impl_chain.tab24 impl_chain.bits24 (fun HT_ HW_ => ?_)
        generalize w6.drew = wd_ at HO14 HMs HMN BK HB hHeld ⊢
        refine pure_ (i := 1) (N := some 98) (v := ?_) (a' := ?_) #[false, true, false, false, false, false, false, false, false, false, false, false, false, false, false, false, false, false, false, false, false] rfl rfl (any_of HT_.out (by kernel_rfl)) (fun _ _ _ h => h) (Or.inl ⟨by rfl, ?_⟩) ?_ ?_
        rotate_left
        ·intro w'
         go_simp
         with_reducible rfl
        rotate_left
        ·simp only [Act.put, List.setIfInBounds_toArray, List.set_cons_zero, List.set_cons_succ, i64_w, i32_w]
         rfl
        refine pure_ (i := 2) (N := some 99) (v := ?_) (a' := ?_) #[false, true, true, false, false, false, false, false, false, false, false, false, false, false, false, false, false, false, false, false, false] rfl rfl (any_of HT_.out (by kernel_rfl)) (fun _ _ _ h => h) (Or.inl ⟨by rfl, ?_⟩) ?_ ?_
        rotate_left
        ·intro w'
         go_simp
         with_reducible rfl
        rotate_left
        ·simp only [Act.put, List.setIfInBounds_toArray, List.set_cons_zero, List.set_cons_succ, i64_w, i32_w]
         rfl
        refine take_ (i := 0) (N := some 97) (v := ?_) (a' := ?_) #[true, true, true, false, false, false, false, false, false, false, false, false, false, false, false, false, false, false, false, false, false] rfl rfl (take_ofW HT_.out HW_.out (by kernel_rfl)) (fun _ _ _ h => h) (Or.inl ⟨by rfl, ?_⟩) hHeld ?_ ?_
        rotate_left
        ·rintro w' ⟨s0, s1, s2, s3, s4, s5, s6, s7, s8⟩
         go_simp
         with_reducible rfl
        rotate_left
        ·simp only [Act.put, List.setIfInBounds_toArray, List.set_cons_zero, List.set_cons_succ, i64_w, i32_w]
         rfl
        refine one_ (i := 3) (N := some 100) #[true, true, true, true, false, false, false, false, false, false, false, false, false, false, false, false, false, false, false, false, false] rfl rfl (one_of HT_.out (by kernel_rfl)) (by decide) (fun K hK => ?_)
        refine goes_ Try.func22 (by kernel_rfl) rfl #[.agg #[.int .i64 y.f0, .int .i64 y.f1, .int .i64 y.f2, .int .i64 y.f3, .int .i64 y.f4, .int .i64 y.f5, .bool y.f6], .int .i64 a3, .int .i64 a4] (by rfl) rfl rfl (by (try simp only [List.map_toArray, List.map_cons, List.map_nil]); first | done | rfl | (simp only [List.length_drop, List.length_take]; rfl)) ?_
        with_reducible refine (impl_Applies.calls y.f0 y.f1 y.f2 y.f3 y.f4 y.f5 y.f6 a3 a4 true _ HA.out).mono ?_
        rintro e wz_ ⟨rfl, hb⟩
        refine ⟨_, rfl, ?_⟩
        have HO14_ := aM (Kd.R_below HO14.out hb)
        have HMs_ := aM (HMs.out.below hb)
        have HMN_ := aM (HMN.out.below hb)
        have BK_ := aM (blk_below BK.out hb)
        have HB_ := aM (below_step HB.out hb)
        clear hb HO14 HMs HMN BK HB
        have HO14 := HO14_
        have HMs := HMs_
        have HMN := HMN_
        have BK := BK_
        have HB := HB_
        clear HO14_ HMs_ HMN_ BK_ HB_
        refine hK.out _ _ ⟨(blk_cell BK.out 0).trans rfl, (blk_cell BK.out 1).trans rfl, (blk_cell BK.out 2).trans rfl, (blk_cell BK.out 3).trans rfl, (blk_cell BK.out 4).trans rfl, (blk_cell BK.out 5).trans rfl, (blk_cell BK.out 6).trans rfl, kMap_cell HO14.out Nrn.out ni Nni.out, (by have h_ := ((HMs.out n rn Nrn.out).2).lookup y.f1; rw [cR.out] at h_; exact h_)⟩ (fun hHeld => ?_)
        clear hK K
        refine norm_ (a' := ?_) ?_ ?_
        rotate_left
        ·show Act.put _ (some 100) _ = _
         simp only [Act.put, List.setIfInBounds_toArray, List.set_cons_zero, List.set_cons_succ, i64_w, i32_w]
         rfl
        refine pure_ (i := 4) (N := some 101) (v := ?_) (a' := ?_) #[true, true, true, true, true, false, false, false, false, false, false, false, false, false, false, false, false, false, false, false, false] rfl rfl (any_of HT_.out (by kernel_rfl)) (fun _ _ _ h => h) (Or.inl ⟨by rfl, ?_⟩) ?_ ?_
        rotate_left
        ·intro w'
         go_simp
         with_reducible rfl
        rotate_left
        ·simp only [Act.put, List.setIfInBounds_toArray, List.set_cons_zero, List.set_cons_succ, i64_w, i32_w]
         rfl
        refine pure_ (i := 5) (N := some 102) (v := ?_) (a' := ?_) #[true, true, true, true, true, true, false, false, false, false, false, false, false, false, false, false, false, false, false, false, false] rfl rfl (any_of HT_.out (by kernel_rfl)) (fun _ _ _ h => h) (Or.inl ⟨by rfl, ?_⟩) ?_ ?_
        rotate_left
        ·intro w'
         go_simp
         with_reducible rfl
        rotate_left
        ·simp only [Act.put, List.setIfInBounds_toArray, List.set_cons_zero, List.set_cons_succ, i64_w, i32_w]
         rfl
        refine pure_ (i := 7) (N := some 104) (v := ?_) (a' := ?_) #[true, true, true, true, true, true, false, true, false, false, false, false, false, false, false, false, false, false, false, false, false] rfl rfl (any_of HT_.out (by kernel_rfl)) (fun _ _ _ h => h) (Or.inl ⟨by rfl, ?_⟩) ?_ ?_
        rotate_left
        ·intro w'
         go_simp
         with_reducible rfl
        rotate_left
        ·simp only [Act.put, List.setIfInBounds_toArray, List.set_cons_zero, List.set_cons_succ, i64_w, i32_w]
         rfl
        refine pure_ (i := 8) (N := some 105) (v := ?_) (a' := ?_) #[true, true, true, true, true, true, false, true, true, false, false, false, false, false, false, false, false, false, false, false, false] rfl rfl (any_of HT_.out (by kernel_rfl)) (fun _ _ _ h => h) (Or.inl ⟨by rfl, ?_⟩) ?_ ?_
        rotate_left
        ·intro w'
         go_simp
         with_reducible rfl
        rotate_left
        ·simp only [Act.put, List.setIfInBounds_toArray, List.set_cons_zero, List.set_cons_succ, i64_w, i32_w]
         rfl
        refine pure_ (i := 9) (N := some 106) (v := ?_) (a' := ?_) #[true, true, true, true, true, true, false, true, true, true, false, false, false, false, false, false, false, false, false, false, false] rfl rfl (any_of HT_.out (by kernel_rfl)) (fun _ _ _ h => h) (Or.inl ⟨by rfl, ?_⟩) ?_ ?_
        rotate_left
        ·intro w'
         go_simp
         with_reducible rfl
        rotate_left
        ·simp only [Act.put, List.setIfInBounds_toArray, List.set_cons_zero, List.set_cons_succ, i64_w, i32_w]
         rfl
        refine take_ (i := 6) (N := some 103) (v := ?_) (a' := ?_) #[true, true, true, true, true, true, true, true, true, true, false, false, false, false, false, false, false, false, false, false, false] rfl rfl (take_ofW HT_.out HW_.out (by kernel_rfl)) (fun _ _ _ h => h) (Or.inl ⟨by rfl, ?_⟩) hHeld ?_ ?_
        rotate_left
        ·rintro w' ⟨s0, s1, s2, s3, s4, s5, s6, s7, s8⟩
         go_simp
         with_reducible rfl
        rotate_left
        ·simp only [Act.put, List.setIfInBounds_toArray, List.set_cons_zero, List.set_cons_succ, i64_w, i32_w]
         rfl
        refine pure_ (i := 10) (N := some 107) (v := ?_) (a' := ?_) #[true, true, true, true, true, true, true, true, true, true, true, false, false, false, false, false, false, false, false, false, false] rfl rfl (any_of HT_.out (by kernel_rfl)) (fun _ _ _ h => h) (Or.inl ⟨by rfl, ?_⟩) ?_ ?_
        rotate_left
        ·intro w'
         go_simp
         with_reducible rfl
        rotate_left
        ·simp only [Act.put, List.setIfInBounds_toArray, List.set_cons_zero, List.set_cons_succ, i64_w, i32_w]
         rfl
        refine pure_ (i := 11) (N := some 108) (v := ?_) (a' := ?_) #[true, true, true, true, true, true, true, true, true, true, true, true, false, false, false, false, false, false, false, false, false] rfl rfl (any_of HT_.out (by kernel_rfl)) (fun _ _ _ h => h) (Or.inl ⟨by rfl, ?_⟩) ?_ ?_
        rotate_left
        ·intro w'
         go_simp
         with_reducible rfl
        rotate_left
        ·simp only [Act.put, List.setIfInBounds_toArray, List.set_cons_zero, List.set_cons_succ, i64_w, i32_w]
         rfl
        refine pure_ (i := 12) (N := some 109) (v := ?_) (a' := ?_) #[true, true, true, true, true, true, true, true, true, true, true, true, true, false, false, false, false, false, false, false, false] rfl rfl (any_of HT_.out (by kernel_rfl)) (fun _ _ _ h => h) (Or.inl ⟨by rfl, ?_⟩) ?_ ?_
        rotate_left
        ·intro w'
         go_simp
         with_reducible rfl
        rotate_left
        ·simp only [Act.put, List.setIfInBounds_toArray, List.set_cons_zero, List.set_cons_succ, i64_w, i32_w]
         rfl
        refine pure_ (i := 13) (N := some 110) (v := undef) (a' := ?_) #[true, true, true, true, true, true, true, true, true, true, true, true, true, true, false, false, false, false, false, false, false] rfl rfl (any_of HT_.out (by kernel_rfl)) (fun _ _ _ h => h) (Or.inr ⟨by rfl, rfl⟩) ?_ ?_
        rotate_left
        ·simp only [Act.put, List.setIfInBounds_toArray, List.set_cons_zero, List.set_cons_succ, i64_w, i32_w]
         rfl
        refine pure_ (i := 14) (N := some 111) (v := undef) (a' := ?_) #[true, true, true, true, true, true, true, true, true, true, true, true, true, true, true, false, false, false, false, false, false] rfl rfl (any_of HT_.out (by kernel_rfl)) (fun _ _ _ h => h) (Or.inr ⟨by rfl, rfl⟩) ?_ ?_
        rotate_left
        ·simp only [Act.put, List.setIfInBounds_toArray, List.set_cons_zero, List.set_cons_succ, i64_w, i32_w]
         rfl
        refine pure_ (i := 15) (N := some 112) (v := undef) (a' := ?_) #[true, true, true, true, true, true, true, true, true, true, true, true, true, true, true, true, false, false, false, false, false] rfl rfl (any_of HT_.out (by kernel_rfl)) (fun _ _ _ h => h) (Or.inr ⟨by rfl, rfl⟩) ?_ ?_
        rotate_left
        ·simp only [Act.put, List.setIfInBounds_toArray, List.set_cons_zero, List.set_cons_succ, i64_w, i32_w]
         rfl
        refine pure_ (i := 16) (N := some 113) (v := undef) (a' := ?_) #[true, true, true, true, true, true, true, true, true, true, true, true, true, true, true, true, true, false, false, false, false] rfl rfl (any_of HT_.out (by kernel_rfl)) (fun _ _ _ h => h) (Or.inr ⟨by rfl, rfl⟩) ?_ ?_
        rotate_left
        ·simp only [Act.put, List.setIfInBounds_toArray, List.set_cons_zero, List.set_cons_succ, i64_w, i32_w]
         rfl
        refine pure_ (i := 17) (N := some 114) (v := undef) (a' := ?_) #[true, true, true, true, true, true, true, true, true, true, true, true, true, true, true, true, true, true, false, false, false] rfl rfl (any_of HT_.out (by kernel_rfl)) (fun _ _ _ h => h) (Or.inr ⟨by rfl, rfl⟩) ?_ ?_
        rotate_left
        ·simp only [Act.put, List.setIfInBounds_toArray, List.set_cons_zero, List.set_cons_succ, i64_w, i32_w]
         rfl
        refine pure_ (i := 18) (N := some 115) (v := undef) (a' := ?_) #[true, true, true, true, true, true, true, true, true, true, true, true, true, true, true, true, true, true, true, false, false] rfl rfl (any_of HT_.out (by kernel_rfl)) (fun _ _ _ h => h) (Or.inr ⟨by rfl, rfl⟩) ?_ ?_
        rotate_left
        ·simp only [Act.put, List.setIfInBounds_toArray, List.set_cons_zero, List.set_cons_succ, i64_w, i32_w]
         rfl
        refine pure_ (i := 19) (N := some 116) (v := undef) (a' := ?_) #[true, true, true, true, true, true, true, true, true, true, true, true, true, true, true, true, true, true, true, true, false] rfl rfl (any_of HT_.out (by kernel_rfl)) (fun _ _ _ h => h) (Or.inr ⟨by rfl, rfl⟩) ?_ ?_
        rotate_left
        ·simp only [Act.put, List.setIfInBounds_toArray, List.set_cons_zero, List.set_cons_succ, i64_w, i32_w]
         rfl
        refine pure_ (i := 20) (N := some 117) (v := ?_) (a' := ?_) #[true, true, true, true, true, true, true, true, true, true, true, true, true, true, true, true, true, true, true, true, true] rfl rfl (any_of HT_.out (by kernel_rfl)) (fun _ _ _ h => h) (Or.inl ⟨by rfl, ?_⟩) ?_ ?_
        rotate_left
        ·intro w'
         go_simp
         with_reducible rfl
        rotate_left
        ·simp only [Act.put, List.setIfInBounds_toArray, List.set_cons_zero, List.set_cons_succ, i64_w, i32_w]
         rfl
        refine done_ (done_of HT_.out (by kernel_rfl)) ?_
        go_wp2
        go_roundg gj
        case measure => omega
        case rel => exact ⟨i + 1, ii + 1, (by first | rfl | (rw [w64_id _ (by omega) (by omega)])), ⟨by have := Nii.out; omega⟩, ⟨by have := HG2.out; omega⟩, ⟨HMN.out.congr (fun k => by rw [any_take _ Nyl.out]; simp [nxt, NDD.out])⟩, HO14, HMs, HB⟩
       | true =>
        have NDD : Aside0 (decide (y.f3 ≥ (n : Int) + a5) = true) := aM (by rw [← ND.out]; exact bD)
        have HO14_ := aM (Kd.R_drew HO14.out)
        have HMs_ := aM (HMs.out.drew)
        have HMN_ := aM (HMN.out.drew)
        have BK_ := aM (blk_drew BK.out)
        have HB_ := aM (below_drew1 HB.out)
        clear HO14 HMs HMN BK HB
        have HO14 := HO14_
        have HMs := HMs_
        have HMN := HMN_
        have BK := BK_
        have HB := HB_
        clear HO14_ HMs_ HMN_ BK_ HB_
        refine start_ (n := 21) (S := fun w' => w'.cell? ⟨gb, 0, none⟩ = some (.int .i64 y.f0) ∧ w'.cell? ⟨gb, 1, none⟩ = some (.int .i64 y.f1) ∧ w'.cell? ⟨gb, 2, none⟩ = some (.int .i64 y.f2) ∧ w'.cell? ⟨gb, 3, none⟩ = some (.int .i64 y.f3) ∧ w'.cell? ⟨gb, 4, none⟩ = some (.int .i64 y.f4) ∧ w'.cell? ⟨gb, 5, none⟩ = some (.int .i64 y.f5) ∧ w'.cell? ⟨gb, 6, none⟩ = some (.bool y.f6) ∧ w'.cell? ⟨go14, ni.toNat, none⟩ = some (.map (some rn)) ∧ (Instr.lookup 80 (.map (some rn)) (.int .i64 y.f1) false).run Try.prog w' = .ok (.bool bR) w') (ds := []) #[false, false, false, false, false, false, false, false, false, false, false, false, false, false, false, false, false, false, false, false, false] (by kernel_rfl) rfl rfl ⟨(blk_cell BK.out 0).trans rfl, (blk_cell BK.out 1).trans rfl, (blk_cell BK.out 2).trans rfl, (blk_cell BK.out 3).trans rfl, (blk_cell BK.out 4).trans rfl, (blk_cell BK.out 5).trans rfl, (blk_cell BK.out 6).trans rfl, kMap_cell HO14.out Nrn.out ni Nni.out, (by have h_ := ((HMs.out n rn Nrn.out).2).lookup y.f1; rw [cR.out] at h_; exact h_)⟩ (fun hHeld => ?_); refine with_tabW impl_chain.tab24 impl_chain.bits24 (fun HT_ HW_ => ?_)
        generalize w6.drew = wd_ at HO14 HMs HMN BK HB hHeld ⊢
        refine pure_ (i := 1) (N := some 98) (v := ?_) (a' := ?_) #[false, true, false, false, false, false, false, false, false, false, false, false, false, false, false, false, false, false, false, false, false] rfl rfl (any_of HT_.out (by kernel_rfl)) (fun _ _ _ h => h) (Or.inl ⟨by rfl, ?_⟩) ?_ ?_
        rotate_left
        ·intro w'
         go_simp
         with_reducible rfl
        rotate_left
        ·simp only [Act.put, List.setIfInBounds_toArray, List.set_cons_zero, List.set_cons_succ, i64_w, i32_w]
         rfl
        refine pure_ (i := 2) (N := some 99) (v := ?_) (a' := ?_) #[false, true, true, false, false, false, false, false, false, false, false, false, false, false, false, false, false, false, false, false, false] rfl rfl (any_of HT_.out (by kernel_rfl)) (fun _ _ _ h => h) (Or.inl ⟨by rfl, ?_⟩) ?_ ?_
        rotate_left
        ·intro w'
         go_simp
         with_reducible rfl
        rotate_left
        ·simp only [Act.put, List.setIfInBounds_toArray, List.set_cons_zero, List.set_cons_succ, i64_w, i32_w]
         rfl
        refine take_ (i := 0) (N := some 97) (v := ?_) (a' := ?_) #[true, true, true, false, false, false, false, false, false, false, false, false, false, false, false, false, false, false, false, false, false] rfl rfl (take_ofW HT_.out HW_.out (by kernel_rfl)) (fun _ _ _ h => h) (Or.inl ⟨by rfl, ?_⟩) hHeld ?_ ?_
        rotate_left
        ·rintro w' ⟨s0, s1, s2, s3, s4, s5, s6, s7, s8⟩
         go_simp
         with_reducible rfl
        rotate_left
        ·simp only [Act.put, List.setIfInBounds_toArray, List.set_cons_zero, List.set_cons_succ, i64_w, i32_w]
         rfl
        refine one_ (i := 3) (N := some 100) #[true, true, true, true, false, false, false, false, false, false, false, false, false, false, false, false, false, false, false, false, false] rfl rfl (one_of HT_.out (by kernel_rfl)) (by decide) (fun K hK => ?_)
        refine goes_ Try.func22 (by kernel_rfl) rfl #[.agg #[.int .i64 y.f0, .int .i64 y.f1, .int .i64 y.f2, .int .i64 y.f3, .int .i64 y.f4, .int .i64 y.f5, .bool y.f6], .int .i64 a3, .int .i64 a4] (by rfl) rfl rfl (by (try simp only [List.map_toArray, List.map_cons, List.map_nil]); first | done | rfl | (simp only [List.length_drop, List.length_take]; rfl)) ?_
        with_reducible refine (impl_Applies.calls y.f0 y.f1 y.f2 y.f3 y.f4 y.f5 y.f6 a3 a4 true _ HA.out).mono ?_
        rintro e wz_ ⟨rfl, hb⟩
        refine ⟨_, rfl, ?_⟩
        have HO14_ := aM (Kd.R_below HO14.out hb)
        have HMs_ := aM (HMs.out.below hb)
        have HMN_ := aM (HMN.out.below hb)
        have BK_ := aM (blk_below BK.out hb)
        have HB_ := aM (below_step HB.out hb)
        clear hb HO14 HMs HMN BK HB
        have HO14 := HO14_
        have HMs := HMs_
        have HMN := HMN_
        have BK := BK_
        have HB := HB_
        clear HO14_ HMs_ HMN_ BK_ HB_
        refine hK.out _ _ ⟨(blk_cell BK.out 0).trans rfl, (blk_cell BK.out 1).trans rfl, (blk_cell BK.out 2).trans rfl, (blk_cell BK.out 3).trans rfl, (blk_cell BK.out 4).trans rfl, (blk_cell BK.out 5).trans rfl, (blk_cell BK.out 6).trans rfl, kMap_cell HO14.out Nrn.out ni Nni.out, (by have h_ := ((HMs.out n rn Nrn.out).2).lookup y.f1; rw [cR.out] at h_; exact h_)⟩ (fun hHeld => ?_)
        clear hK K
        refine norm_ (a' := ?_) ?_ ?_
        rotate_left
        ·show Act.put _ (some 100) _ = _
         simp only [Act.put, List.setIfInBounds_toArray, List.set_cons_zero, List.set_cons_succ, i64_w, i32_w]
         rfl
        refine pure_ (i := 4) (N := some 101) (v := ?_) (a' := ?_) #[true, true, true, true, true, false, false, false, false, false, false, false, false, false, false, false, false, false, false, false, false] rfl rfl (any_of HT_.out (by kernel_rfl)) (fun _ _ _ h => h) (Or.inl ⟨by rfl, ?_⟩) ?_ ?_
        rotate_left
        ·intro w'
         go_simp
         with_reducible rfl
        rotate_left
        ·simp only [Act.put, List.setIfInBounds_toArray, List.set_cons_zero, List.set_cons_succ, i64_w, i32_w]
         rfl
        refine pure_ (i := 5) (N := some 102) (v := ?_) (a' := ?_) #[true, true, true, true, true, true, false, false, false, false, false, false, false, false, false, false, false, false, false, false, false] rfl rfl (any_of HT_.out (by kernel_rfl)) (fun _ _ _ h => h) (Or.inl ⟨by rfl, ?_⟩) ?_ ?_
        rotate_left
        ·intro w'
         go_simp
         with_reducible rfl
        rotate_left
        ·simp only [Act.put, List.setIfInBounds_toArray, List.set_cons_zero, List.set_cons_succ, i64_w, i32_w]
         rfl
        refine pure_ (i := 7) (N := some 104) (v := ?_) (a' := ?_) #[true, true, true, true, true, true, false, true, false, false, false, false, false, false, false, false, false, false, false, false, false] rfl rfl (any_of HT_.out (by kernel_rfl)) (fun _ _ _ h => h) (Or.inl ⟨by rfl, ?_⟩) ?_ ?_
        rotate_left
        ·intro w'
         go_simp
         with_reducible rfl
        rotate_left
        ·simp only [Act.put, List.setIfInBounds_toArray, List.set_cons_zero, List.set_cons_succ, i64_w, i32_w]
         rfl
        refine pure_ (i := 8) (N := some 105) (v := ?_) (a' := ?_) #[true, true, true, true, true, true, false, true, true, false, false, false, false, false, false, false, false, false, false, false, false] rfl rfl (any_of HT_.out (by kernel_rfl)) (fun _ _ _ h => h) (Or.inl ⟨by rfl, ?_⟩) ?_ ?_
        rotate_left
        ·intro w'
         go_simp
         with_reducible rfl
        rotate_left
        ·simp only [Act.put, List.setIfInBounds_toArray, List.set_cons_zero, List.set_cons_succ, i64_w, i32_w]
         rfl
        refine pure_ (i := 9) (N := some 106) (v := ?_) (a' := ?_) #[true, true, true, true, true, true, false, true, true, true, false, false, false, false, false, false, false, false, false, false, false] rfl rfl (any_of HT_.out (by kernel_rfl)) (fun _ _ _ h => h) (Or.inl ⟨by rfl, ?_⟩) ?_ ?_
        rotate_left
        ·intro w'
         go_simp
         with_reducible rfl
        rotate_left
        ·simp only [Act.put, List.setIfInBounds_toArray, List.set_cons_zero, List.set_cons_succ, i64_w, i32_w]
         rfl
        refine take_ (i := 6) (N := some 103) (v := ?_) (a' := ?_) #[true, true, true, true, true, true, true, true, true, true, false, false, false, false, false, false, false, false, false, false, false] rfl rfl (take_ofW HT_.out HW_.out (by kernel_rfl)) (fun _ _ _ h => h) (Or.inl ⟨by rfl, ?_⟩) hHeld ?_ ?_
        rotate_left
        ·rintro w' ⟨s0, s1, s2, s3, s4, s5, s6, s7, s8⟩
         go_simp
         with_reducible rfl
        rotate_left
        ·simp only [Act.put, List.setIfInBounds_toArray, List.set_cons_zero, List.set_cons_succ, i64_w, i32_w]
         rfl
        refine pure_ (i := 10) (N := some 107) (v := ?_) (a' := ?_) #[true, true, true, true, true, true, true, true, true, true, true, false, false, false, false, false, false, false, false, false, false] rfl rfl (any_of HT_.out (by kernel_rfl)) (fun _ _ _ h => h) (Or.inl ⟨by rfl, ?_⟩) ?_ ?_
        rotate_left
        ·intro w'
         go_simp
         with_reducible rfl
        rotate_left
        ·simp only [Act.put, List.setIfInBounds_toArray, List.set_cons_zero, List.set_cons_succ, i64_w, i32_w]
         rfl
        refine pure_ (i := 11) (N := some 108) (v := ?_) (a' := ?_) #[true, true, true, true, true, true, true, true, true, true, true, true, false, false, false, false, false, false, false, false, false] rfl rfl (any_of HT_.out (by kernel_rfl)) (fun _ _ _ h => h) (Or.inl ⟨by rfl, ?_⟩) ?_ ?_
        rotate_left
        ·intro w'
         go_simp
         with_reducible rfl
        rotate_left
        ·simp only [Act.put, List.setIfInBounds_toArray, List.set_cons_zero, List.set_cons_succ, i64_w, i32_w]
         rfl
        refine pure_ (i := 12) (N := some 109) (v := ?_) (a' := ?_) #[true, true, true, true, true, true, true, true, true, true, true, true, true, false, false, false, false, false, false, false, false] rfl rfl (any_of HT_.out (by kernel_rfl)) (fun _ _ _ h => h) (Or.inl ⟨by rfl, ?_⟩) ?_ ?_
        rotate_left
        ·intro w'
         go_simp
         with_reducible rfl
        rotate_left
        ·simp only [Act.put, List.setIfInBounds_toArray, List.set_cons_zero, List.set_cons_succ, i64_w, i32_w]
         rfl
        refine pure_ (i := 13) (N := some 110) (v := ?_) (a' := ?_) #[true, true, true, true, true, true, true, true, true, true, true, true, true, true, false, false, false, false, false, false, false] rfl rfl (any_of HT_.out (by kernel_rfl)) (fun _ _ _ h => h) (Or.inl ⟨by rfl, ?_⟩) ?_ ?_
        rotate_left
        ·intro w'
         go_simp
         with_reducible rfl
        rotate_left
        ·simp only [Act.put, List.setIfInBounds_toArray, List.set_cons_zero, List.set_cons_succ, i64_w, i32_w]
         rfl
        refine pure_ (i := 14) (N := some 111) (v := ?_) (a' := ?_) #[true, true, true, true, true, true, true, true, true, true, true, true, true, true, true, false, false, false, false, false, false] rfl rfl (any_of HT_.out (by kernel_rfl)) (fun _ _ _ h => h) (Or.inl ⟨by rfl, ?_⟩) ?_ ?_
        rotate_left
        ·intro w'
         go_simp
         with_reducible rfl
        rotate_left
        ·simp only [Act.put, List.setIfInBounds_toArray, List.set_cons_zero, List.set_cons_succ, i64_w, i32_w]
         rfl
        refine pure_ (i := 15) (N := some 112) (v := ?_) (a' := ?_) #[true, true, true, true, true, true, true, true, true, true, true, true, true, true, true, true, false, false, false, false, false] rfl rfl (any_of HT_.out (by kernel_rfl)) (fun _ _ _ h => h) (Or.inl ⟨by rfl, ?_⟩) ?_ ?_
        rotate_left
        ·intro w'
         go_simp
         with_reducible rfl
        rotate_left
        ·simp only [Act.put, List.setIfInBounds_toArray, List.set_cons_zero, List.set_cons_succ, i64_w, i32_w]
         rfl
        refine pure_ (i := 17) (N := some 114) (v := ?_) (a' := ?_) #[true, true, true, true, true, true, true, true, true, true, true, true, true, true, true, true, false, true, false, false, false] rfl rfl (any_of HT_.out (by kernel_rfl)) (fun _ _ _ h => h) (Or.inl ⟨by rfl, ?_⟩) ?_ ?_
        rotate_left
        ·intro w'
         go_simp
         with_reducible rfl
        rotate_left
        ·simp only [Act.put, List.setIfInBounds_toArray, List.set_cons_zero, List.set_cons_succ, i64_w, i32_w]
         rfl
        refine take_ (i := 16) (N := some 113) (v := ?_) (a' := ?_) #[true, true, true, true, true, true, true, true, true, true, true, true, true, true, true, true, true, true, false, false, false] rfl rfl (take_ofW HT_.out HW_.out (by kernel_rfl)) (fun _ _ _ h => h) (Or.inl ⟨by rfl, ?_⟩) hHeld ?_ ?_
        rotate_left
        ·rintro w' ⟨s0, s1, s2, s3, s4, s5, s6, s7, s8⟩
         go_simp
         with_reducible rfl
        rotate_left
        ·simp only [Act.put, List.setIfInBounds_toArray, List.set_cons_zero, List.set_cons_succ, i64_w, i32_w]
         rfl
        refine take_ (i := 18) (N := some 115) (v := ?_) (a' := ?_) #[true, true, true, true, true, true, true, true, true, true, true, true, true, true, true, true, true, true, true, false, false] rfl rfl (take_ofW HT_.out HW_.out (by kernel_rfl)) (fun _ _ _ h => h) (Or.inl ⟨by rfl, ?_⟩) hHeld ?_ ?_
        rotate_left
        ·rintro w' ⟨s0, s1, s2, s3, s4, s5, s6, s7, s8⟩
         go_simp
         with_reducible rfl
        rotate_left
        ·simp only [Act.put, List.setIfInBounds_toArray, List.set_cons_zero, List.set_cons_succ, i64_w, i32_w]
         rfl
        refine take_ (i := 19) (N := some 116) (v := ?_) (a' := ?_) #[true, true, true, true, true, true, true, true, true, true, true, true, true, true, true, true, true, true, true, true, false] rfl rfl (take_ofW HT_.out HW_.out (by kernel_rfl)) (fun _ _ _ h => h) (Or.inl ⟨by rfl, ?_⟩) hHeld ?_ ?_
        rotate_left
        ·rintro w' ⟨s0, s1, s2, s3, s4, s5, s6, s7, s8⟩
         go_simp
         with_reducible rfl
        rotate_left
        ·simp only [Act.put, List.setIfInBounds_toArray, List.set_cons_zero, List.set_cons_succ, i64_w, i32_w]
         rfl
        refine pure_ (i := 20) (N := some 117) (v := ?_) (a' := ?_) #[true, true, true, true, true, true, true, true, true, true, true, true, true, true, true, true, true, true, true, true, true] rfl rfl (any_of HT_.out (by kernel_rfl)) (fun _ _ _ h => h) (Or.inl ⟨by rfl, ?_⟩) ?_ ?_
        rotate_left
        ·intro w'
         go_simp
         with_reducible rfl
        rotate_left
        ·simp only [Act.put, List.setIfInBounds_toArray, List.set_cons_zero, List.set_cons_succ, i64_w, i32_w]
         rfl
        refine done_ (done_of HT_.out (by kernel_rfl)) ?_
        cases bR with
        | false =>
         go_wp2
         go_roundg gj
         case measure => omega
         case rel => exact ⟨i + 1, ii + 1, (by first | rfl | (rw [w64_id _ (by omega) (by omega)])), ⟨by have := Nii.out; omega⟩, ⟨by have := HG2.out; omega⟩, ⟨HMN.out.congr (fun k => by rw [any_take _ Nyl.out]; simp [nxt, cR.out])⟩, HO14, HMs, HB⟩
        | true =>
         obtain ⟨hcz0, hcz1, hcz2, hcz3, hcz4, hcz5, hcz6, hfz0, hfz1, hfz2, hfz3, hfz4, hfz5, hfz6⟩ := cells7 BK.out
         go_wp2_with (first | (refine mapPut_event rfl (Or.inl rfl) y.f0 rfl rfl rfl HMN.out ?_; intro w8 hm hg; have HB_ : Aside0 (Below w.heap.size w w8) := aM (HB.out.grown hg (below_size HB.out) (fun k hk => by injection hk with hk; rw [← hk]; exact HrN.out)); replace HO14 := aM (R_mapPut HO14.out HMN.out hg); replace HMs := aM (HMs.out.grown_map HNE.out hg); clear HB; have HB := HB_; clear HB_; replace HMN := aM hm; clear hm hg))
         go_roundg gj
         case measure => omega
         case rel => exact ⟨i + 1, ii + 1, (by first | rfl | (rw [w64_id _ (by omega) (by omega)])), ⟨by have := Nii.out; omega⟩, ⟨by have := HG2.out; omega⟩, ⟨HMN.out.congr (fun k => by rw [any_take _ Nyl.out]; simp [nxt, NA.out, NDD.out, cR.out, eq_comm, Bool.beq_eq_decide_eq]; try rfl)⟩, HO14, HMs, HB⟩
     ·have b3 : decide (ii < (l0.length : Int)) = false := decide_eq_false (by have := Nii.out; omega)
      have Nhi : Aside0 (l0.length ≤ i) := aM (by omega)
      clear hi
      go_wp2_with (first | ((with_reducible refine gate_builtin (b := .append) (xs := #[.tmp 122, .tmp 124]) rfl ?_); at_builtin; refine Kd.R_append kMap (w0 := w) w.heap.size rfl (.tmp 122) (.tmp 124) 79 80 (.map none) 8 rfl Try.underlying79 info80 rfl (by decide) (by omega) (.slice (some ⟨go14, 0, none⟩) ms.length co14) ms rN [.map (some rN)] (fun _ => True) (fun _ => False) rfl rfl ?aP (fun _ hk => hk.elim) ?aF ?aO ?aB ?aS ?aL ?_; (case aP => exact rfl); (case aB => exact HB.out); (case aF => exact (fun _ _ => trivial)); (case aO => exact HO14.out); (case aS => exact below_size HB.out); (case aL => have := HL.out; omega); intro v7 w7 ho hb hg hat; have HM7 : Aside0 (MapsOk w7 w.heap.size (ms ++ [rN]) (rch l0 a3 a4 a2 a5)) := aM (MapsOk.snoc (HMs.out.grown_row HO14.out hg) HrN.out (by rw [HL.out]; exact (HMN.out.grown hg (HMN.out.ne_row HO14.out)).congr (fun k => by rw [List.take_of_length_le Nhi.out]; rfl))); clear HO14 HB HMs; have HO14 := aM ho; have HB := aM hb; clear ho hb hg hat))
      go_roundg ga
      case measure => omega
      case rel => exact ⟨n + 1, ni + 1, ms ++ [rN], (by first | rfl | (rw [w64_id _ (by omega) (by omega)])), ⟨by have := Nni.out; omega⟩, ⟨by have := HG.out; omega⟩, HO14, ⟨by rw [List.length_append, HL.out]; rfl⟩, HM7, ⟨fun m hm => by
        by_cases hmn : m < n
        · exact HN.out m hmn
        · have : m = n := by omega
          rw [this]; exact Nhr.out⟩, HB⟩
  ·have b6 : decide (ni ≤ 6) = false := decide_eq_false (by have := Nni.out; omega)
   have hn7 : n = 7 := by have := HG.out; omega
   have Nn := aM hn7
   clear hn7 hn
   go_wp2
   go_ret2
   have h_ := HH.out
   have hm : Rt.may (·.f0) (·.f1) (·.f3) (ap a3 a4) l0 a2 a5 a1 = false := by
    cases hq : Rt.may (·.f0) (·.f1) (·.f3) (ap a3 a4) l0 a2 a5 a1 with
    | false => rfl
    | true =>
      obtain ⟨m, h1, h2⟩ := Rt.may_iff.1 hq
      exact absurd ((HN.out m (by have := Nn.out; omega)).symm.trans h2) (by simp)
   rw [Rt.chain_false hm] at h_
   injection h_ with h1 h2
   subst h1 h2
   exact ⟨_, rfl, Kd.R_nil _ _ _ _ _, HB.out⟩

end Go.Proofs.Ytcpjfkagbnoagaa.QFnGranting
