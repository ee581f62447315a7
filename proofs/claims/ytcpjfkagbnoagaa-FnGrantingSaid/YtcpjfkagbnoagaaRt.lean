/- The plain law of chains of grants. -/
namespace Go.Proofs.Ytcpjfkagbnoagaa.Rt
variable {G : Type}

/-- Is there a chain of n grants from p to who, each with enough depth, sp to spare. -/
def reach (fr to dep : G → Int) (app : G → Bool) (l : List G) (who sp : Int) : Nat → Int → Bool
  | 0, p => p == who
  | n + 1, p => l.any fun g => app g && (decide (dep g ≥ n + sp) && (reach fr to dep app l who sp n (to g) && decide (fr g = p)))

def hop (fr to dep : G → Int) (app : G → Bool) (l : List G) (who sp : Int) (k : Nat) (at_ : Int) (g : G) : Bool :=
  decide (fr g = at_) && (app g && (decide (dep g ≥ k + sp) && reach fr to dep app l who sp k (to g)))

/-- The chain itself: the first grant that leads on, n times. -/
def path (fr to dep : G → Int) (app : G → Bool) (l : List G) (who sp : Int) : Nat → Int → List Int → List Int
  | 0, _, out => out
  | k + 1, at_, out =>
    match l.findIdx? (hop fr to dep app l who sp k at_) with
    | some i => path fr to dep app l who sp k (match l[i]? with | some g => to g | none => at_) (out ++ [(i : Int)])
    | none => path fr to dep app l who sp k at_ out

def short (fr to dep : G → Int) (app : G → Bool) (l : List G) (who sp owner : Int) (from_ : Nat) : Nat → Option Nat
  | 0 => none
  | d + 1 => if reach fr to dep app l who sp from_ owner then some from_ else short fr to dep app l who sp owner (from_ + 1) d

def may (fr to dep : G → Int) (app : G → Bool) (l : List G) (who sp owner : Int) : Bool := (short fr to dep app l who sp owner 0 7).isSome

def chain (fr to dep : G → Int) (app : G → Bool) (l : List G) (who sp owner : Int) : List Int × Bool :=
  match short fr to dep app l who sp owner 0 7 with
  | some n => (path fr to dep app l who sp n owner [], true)
  | none => ([], false)

section
variable {fr to dep : G → Int} {app app' : G → Bool} {l l' : List G} {who sp sp' owner : Int}

theorem reach_succ {n : Nat} {p : Int} : reach fr to dep app l who sp (n + 1) p = true ↔ ∃ g ∈ l, app g = true ∧ dep g ≥ n + sp ∧ reach fr to dep app l who sp n (to g) = true ∧ fr g = p := by
  simp [reach, List.any_eq_true]

theorem reach_mono (hl : ∀ g ∈ l, app g = true → g ∈ l' ∧ app' g = true) (hs : sp' ≤ sp) : ∀ (n : Nat) (p : Int), reach fr to dep app l who sp n p = true → reach fr to dep app' l' who sp' n p = true := by
  intro n
  induction n with
  | zero => intro p h; simpa [reach] using h
  | succ n ih =>
    intro p h
    obtain ⟨g, hg, ha, hd, hr, hf⟩ := reach_succ.1 h
    exact reach_succ.2 ⟨g, (hl g hg ha).1, (hl g hg ha).2, by omega, ih _ hr, hf⟩

theorem short_some {f d n : Nat} (h : short fr to dep app l who sp owner f d = some n) : f ≤ n ∧ n < f + d ∧ reach fr to dep app l who sp n owner = true ∧ ∀ m, f ≤ m → m < n → reach fr to dep app l who sp m owner = false := by
  induction d generalizing f with
  | zero => simp [short] at h
  | succ d ih =>
    simp only [short] at h
    split at h
    · rename_i hr
      cases h
      exact ⟨Nat.le_refl _, by omega, hr, fun m h1 h2 => by omega⟩
    · rename_i hr
      obtain ⟨h1, h2, h3, h4⟩ := ih h
      refine ⟨by omega, by omega, h3, fun m h5 h6 => ?_⟩
      by_cases e : m = f
      · subst e; simpa using hr
      · exact h4 m (by omega) h6

theorem short_none {f d : Nat} (h : short fr to dep app l who sp owner f d = none) : ∀ m, f ≤ m → m < f + d → reach fr to dep app l who sp m owner = false := by
  induction d generalizing f with
  | zero => intro m h1 h2; omega
  | succ d ih =>
    simp only [short] at h
    split at h
    · cases h
    · rename_i hr
      intro m h1 h2
      by_cases e : m = f
      · subst e; simpa using hr
      · exact ih h m (by omega) (by omega)

theorem may_iff : may fr to dep app l who sp owner = true ↔ ∃ n, n ≤ 6 ∧ reach fr to dep app l who sp n owner = true := by
  unfold may
  cases h : short fr to dep app l who sp owner 0 7 with
  | none =>
    simp only [Option.isSome_none]
    constructor
    · intro h; cases h
    · rintro ⟨n, h1, h2⟩; rw [short_none h n (by omega) (by omega)] at h2; cases h2
  | some n =>
    obtain ⟨_, h2, h3, _⟩ := short_some h
    simp only [Option.isSome_some, true_iff]
    exact ⟨n, by omega, h3⟩

theorem may_mono (hl : ∀ g ∈ l, app g = true → g ∈ l' ∧ app' g = true) (hs : sp' ≤ sp) (h : may fr to dep app l who sp owner = true) : may fr to dep app' l' who sp' owner = true := by
  obtain ⟨n, h1, h2⟩ := may_iff.1 h
  exact may_iff.2 ⟨n, h1, reach_mono hl hs n _ h2⟩

theorem chain_snd : (chain fr to dep app l who sp owner).2 = may fr to dep app l who sp owner := by
  unfold chain may
  cases short fr to dep app l who sp owner 0 7 <;> rfl

/-- A hop is there where there is a chain. -/
theorem hop_ex {k : Nat} {p : Int} (h : reach fr to dep app l who sp (k + 1) p = true) : ∃ (i : Nat) (g : G), l.findIdx? (hop fr to dep app l who sp k p) = some i ∧ l[i]? = some g ∧ hop fr to dep app l who sp k p g = true := by
  obtain ⟨g, hg, ha, hd, hr, hf⟩ := reach_succ.1 h
  have hh : hop fr to dep app l who sp k p g = true := by simp [hop, ha, hd, hr, hf]
  cases hi : l.findIdx? (hop fr to dep app l who sp k p) with
  | none =>
    rw [List.findIdx?_eq_none_iff] at hi
    rw [hi g hg] at hh; cases hh
  | some i =>
    rw [List.findIdx?_eq_some_iff_getElem] at hi
    obtain ⟨h1, h2, _⟩ := hi
    exact ⟨i, l[i], rfl, List.getElem?_eq_getElem h1, h2⟩

/-- What a chain that was found is. -/
inductive Good (fr to dep : G → Int) (app : G → Bool) (l : List G) (who sp : Int) : Nat → Int → List Int → Prop
  | nil : Good fr to dep app l who sp 0 who []
  | cons {k : Nat} {p : Int} {i : Nat} {g : G} {r : List Int} : l[i]? = some g → fr g = p → app g = true → dep g ≥ k + sp → Good fr to dep app l who sp k (to g) r → Good fr to dep app l who sp (k + 1) p ((i : Int) :: r)

theorem Good.len {n : Nat} {p : Int} {r : List Int} (h : Good fr to dep app l who sp n p r) : r.length = n := by
  induction h with
  | nil => rfl
  | cons _ _ _ _ _ ih => simp [ih]

theorem Good.reach {n : Nat} {p : Int} {r : List Int} (h : Good fr to dep app l who sp n p r) : reach fr to dep app l who sp n p = true := by
  induction h with
  | nil => simp [Go.Proofs.Ytcpjfkagbnoagaa.Rt.reach]
  | cons h1 h2 h3 h4 _ ih => exact reach_succ.2 ⟨_, List.mem_of_getElem? h1, h3, h4, ih, h2⟩

theorem path_good : ∀ (n : Nat) (p : Int) (out : List Int), Go.Proofs.Ytcpjfkagbnoagaa.Rt.reach fr to dep app l who sp n p = true → ∃ r, path fr to dep app l who sp n p out = out ++ r ∧ Good fr to dep app l who sp n p r := by
  intro n
  induction n with
  | zero =>
    intro p out h
    have : p = who := by simpa [Go.Proofs.Ytcpjfkagbnoagaa.Rt.reach] using h
    subst this
    exact ⟨[], by simp [path], .nil⟩
  | succ k ih =>
    intro p out h
    obtain ⟨i, g, h1, h2, h3⟩ := hop_ex h
    simp only [hop, Bool.and_eq_true, decide_eq_true_eq] at h3
    obtain ⟨hf, ha, hd, hr⟩ := h3
    obtain ⟨r, e, hg⟩ := ih (to g) (out ++ [(i : Int)]) hr
    refine ⟨(i : Int) :: r, ?_, .cons h2 hf ha hd hg⟩
    simp only [path, h1, h2, e, List.append_assoc, List.singleton_append]

theorem chain_true (h : may fr to dep app l who sp owner = true) : ∃ n r, n ≤ 6 ∧ chain fr to dep app l who sp owner = (r, true) ∧ Good fr to dep app l who sp n owner r ∧ ∀ m, m < n → Go.Proofs.Ytcpjfkagbnoagaa.Rt.reach fr to dep app l who sp m owner = false := by
  unfold chain may at *
  cases hs : short fr to dep app l who sp owner 0 7 with
  | none => rw [hs] at h; cases h
  | some n =>
    obtain ⟨_, h2, h3, h4⟩ := short_some hs
    obtain ⟨r, e, hg⟩ := path_good n owner [] h3
    exact ⟨n, r, by omega, by simp only [e, List.nil_append], hg, fun m hm => h4 m (by omega) hm⟩

theorem chain_found {n : Nat} (hn : n ≤ 6) (h0 : ∀ m, m < n → reach fr to dep app l who sp m owner = false) (h1 : reach fr to dep app l who sp n owner = true) : chain fr to dep app l who sp owner = (path fr to dep app l who sp n owner [], true) := by
  unfold chain
  cases hs : short fr to dep app l who sp owner 0 7 with
  | none => rw [short_none hs n (by omega) (by omega)] at h1; cases h1
  | some m =>
    obtain ⟨_, h2, h3, h4⟩ := short_some hs
    have : m = n := by
      rcases Nat.lt_trichotomy m n with h | h | h
      · rw [h0 m h] at h3; cases h3
      · exact h
      · rw [h4 n (by omega) h] at h1; cases h1
    rw [this]

theorem chain_false (h : may fr to dep app l who sp owner = false) : chain fr to dep app l who sp owner = ([], false) := by
  unfold chain may at *
  cases hs : short fr to dep app l who sp owner 0 7 with
  | none => rfl
  | some n => rw [hs] at h; cases h
end

/-- Where a grant that is not in a chain no longer applies, the chain stays. -/
theorem Good.keep {fr to dep : G → Int} {app app' : G → Bool} {l l' : List G} {who sp : Int} {fr' to' dep' : G → Int} {n : Nat} {p : Int} {r : List Int} (h : Good fr to dep app l who sp n p r)
    (hk : ∀ (i : Nat) (g : G), (i : Int) ∈ r → l[i]? = some g → app g = true → ∃ g', l'[i]? = some g' ∧ app' g' = true ∧ fr' g' = fr g ∧ to' g' = to g ∧ dep' g' = dep g) : Good fr' to' dep' app' l' who sp n p r := by
  induction h with
  | nil => exact .nil
  | cons h1 h2 h3 h4 _ ih =>
    obtain ⟨g', e1, e2, e3, e4, e5⟩ := hk _ _ (List.mem_cons_self ..) h1 h3
    refine .cons e1 (by rw [e3, h2]) e2 (by rw [e5]; exact h4) ?_
    rw [e4]
    exact ih fun i g hi hg ha => hk i g (List.mem_cons_of_mem _ hi) hg ha
end Go.Proofs.Ytcpjfkagbnoagaa.Rt
