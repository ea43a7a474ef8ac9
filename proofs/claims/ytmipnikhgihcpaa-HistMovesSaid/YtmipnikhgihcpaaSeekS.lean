/- Plain facts on borders and places of a word in a line: no program stands here. -/
import Derived.Test.YtmipnikhgihcpaaBase
namespace Go.Proofs.Ytmipnikhgihcpaa
set_option linter.unusedVariables false
set_option linter.unusedSimpArgs false

def Bord (p : List Int) (n k : Nat) : Prop := k < n ∧ ∀ j, j < k → ix p j = ix p (n - k + j)
def MaxB (p : List Int) (n k : Nat) : Prop := Bord p n k ∧ ∀ k', Bord p n k' → k' ≤ k

theorem MaxB.unique {p : List Int} {n k k' : Nat} (h : MaxB p n k) (h' : MaxB p n k') : k = k' := Nat.le_antisymm (h'.2 k h.1) (h.2 k' h'.1)
theorem bord_zero {p : List Int} {n : Nat} (h : 0 < n) : Bord p n 0 := ⟨h, fun j hj => by omega⟩
theorem maxB_one (p : List Int) : MaxB p 1 0 := ⟨bord_zero (by omega), fun k h => by have := h.1; omega⟩

theorem bord_succ {p : List Int} {n k : Nat} (hn : 1 ≤ n) : Bord p (n + 1) (k + 1) ↔ Bord p n k ∧ ix p k = ix p n := by
  constructor
  · rintro ⟨h1, h2⟩
    refine ⟨⟨by omega, fun j hj => ?_⟩, ?_⟩
    · have := h2 j (by omega)
      rwa [show n + 1 - (k + 1) + j = n - k + j from by omega] at this
    · have := h2 k (by omega)
      rwa [show n + 1 - (k + 1) + k = n from by omega] at this
  · rintro ⟨⟨h1, h2⟩, h3⟩
    refine ⟨by omega, fun j hj => ?_⟩
    rw [show n + 1 - (k + 1) + j = n - k + j from by omega]
    by_cases h : j = k
    · subst h; rw [show n - j + j = n from by omega]; exact h3
    · exact h2 j (by omega)

theorem bord_bord {p : List Int} {n k k' : Nat} (h : Bord p n k) (hk : k' < k) : Bord p n k' ↔ Bord p k k' := by
  obtain ⟨h1, h2⟩ := h
  constructor
  · rintro ⟨h3, h4⟩
    refine ⟨hk, fun j hj => ?_⟩
    rw [h4 j hj, h2 (k - k' + j) (by omega)]
    congr 1; omega
  · rintro ⟨h3, h4⟩
    refine ⟨by omega, fun j hj => ?_⟩
    rw [h4 j hj, h2 (k - k' + j) (by omega)]
    congr 1; omega

def InB (p : List Int) (i k : Nat) : Prop := Bord p i k ∧ ∀ k', Bord p i k' → ix p k' = ix p i → k' ≤ k
theorem InB.start {p : List Int} {i k : Nat} (h : MaxB p i k) : InB p i k := ⟨h.1, fun k' hk _ => h.2 k' hk⟩
theorem InB.step {p : List Int} {i k b : Nat} (h : InB p i k) (h0 : 0 < k) (hne : ix p k ≠ ix p i) (hb : MaxB p k b) : InB p i b := by
  refine ⟨(bord_bord h.1 hb.1.1).2 hb.1, fun k' hk' he => ?_⟩
  have hle := h.2 k' hk' he
  rcases Nat.lt_or_ge k' k with hlt | hge
  · exact hb.2 k' ((bord_bord h.1 hlt).1 hk')
  · have : k' = k := by omega
    subst this; exact absurd he hne
theorem InB.hit {p : List Int} {i k : Nat} (h : InB p i k) (he : ix p k = ix p i) (hi : 1 ≤ i) : MaxB p (i + 1) (k + 1) := by
  refine ⟨(bord_succ hi).2 ⟨h.1, he⟩, fun k' hk' => ?_⟩
  cases k' with
  | zero => omega
  | succ m =>
    obtain ⟨h1, h2⟩ := (bord_succ hi).1 hk'
    have := h.2 m h1 h2; omega
theorem InB.miss {p : List Int} {i : Nat} (h : InB p i 0) (he : ix p 0 ≠ ix p i) (hi : 1 ≤ i) : MaxB p (i + 1) 0 := by
  refine ⟨bord_zero (by omega), fun k' hk' => ?_⟩
  cases k' with
  | zero => omega
  | succ m =>
    obtain ⟨h1, h2⟩ := (bord_succ hi).1 hk'
    have h3 := h.2 m h1 h2
    have : m = 0 := by omega
    subst this; exact absurd h2 he

theorem ix_take {p : List Int} {n i : Nat} (h : i < n) : ix (p.take n) i = ix p i := by simp [ix, h]
theorem ix_drop {p : List Int} {n i : Nat} : ix (p.drop n) i = ix p (n + i) := by simp [ix]
theorem bord_take {p : List Int} {n k : Nat} : Bord (p.take n) n k ↔ Bord p n k := by
  constructor
  · rintro ⟨h1, h2⟩
    exact ⟨h1, fun j hj => by have := h2 j hj; rwa [ix_take (by omega), ix_take (by omega)] at this⟩
  · rintro ⟨h1, h2⟩
    exact ⟨h1, fun j hj => by rw [ix_take (by omega), ix_take (by omega)]; exact h2 j hj⟩
theorem maxB_take {p : List Int} {n k : Nat} : MaxB (p.take n) n k ↔ MaxB p n k := by simp [MaxB, bord_take]
theorem bord_eq {p : List Int} {n k : Nat} (hn : p.length = n) (hk : k < n) : (p.take k = p.drop (n - k)) ↔ Bord p n k := by
  constructor
  · intro h
    refine ⟨hk, fun j hj => ?_⟩
    have : ix (p.take k) j = ix (p.drop (n - k)) j := by rw [h]
    rwa [ix_take hj, ix_drop] at this
  · rintro ⟨_, h⟩
    apply ix_ext (by simp; omega)
    intro j hj
    have hj' : j < k := by simp at hj; omega
    rw [ix_take hj', ix_drop, h j hj']

def Suf (p s : List Int) (i k : Nat) : Prop := k ≤ i ∧ ∀ j, j < k → ix p j = ix s (i - k + j)
theorem suf_zero (p s : List Int) (i : Nat) : Suf p s i 0 := ⟨by omega, fun j hj => by omega⟩
theorem suf_succ {p s : List Int} {i k : Nat} : Suf p s (i + 1) (k + 1) ↔ Suf p s i k ∧ ix p k = ix s i := by
  constructor
  · rintro ⟨h1, h2⟩
    refine ⟨⟨by omega, fun j hj => ?_⟩, ?_⟩
    · have := h2 j (by omega)
      rwa [show i + 1 - (k + 1) + j = i - k + j from by omega] at this
    · have := h2 k (by omega)
      rwa [show i + 1 - (k + 1) + k = i from by omega] at this
  · rintro ⟨⟨h1, h2⟩, h3⟩
    refine ⟨by omega, fun j hj => ?_⟩
    rw [show i + 1 - (k + 1) + j = i - k + j from by omega]
    by_cases h : j = k
    · subst h; rw [show i - j + j = i from by omega]; exact h3
    · exact h2 j (by omega)
theorem suf_bord {p s : List Int} {i k k' : Nat} (h : Suf p s i k) (hk : k' < k) : Suf p s i k' ↔ Bord p k k' := by
  obtain ⟨h1, h2⟩ := h
  constructor
  · rintro ⟨h3, h4⟩
    refine ⟨hk, fun j hj => ?_⟩
    rw [h4 j hj, h2 (k - k' + j) (by omega)]
    congr 1; omega
  · rintro ⟨h3, h4⟩
    refine ⟨by omega, fun j hj => ?_⟩
    rw [h4 j hj, h2 (k - k' + j) (by omega)]
    congr 1; omega

def MaxS (p s : List Int) (m i k : Nat) : Prop := k < m ∧ Suf p s i k ∧ ∀ k', k' < m → Suf p s i k' → k' ≤ k
def InS (p s : List Int) (m i k : Nat) : Prop := k < m ∧ Suf p s i k ∧ ∀ k', k' < m → Suf p s i k' → ix p k' = ix s i → k' ≤ k
def Top (p s : List Int) (m i k : Nat) : Prop := k ≤ m ∧ Suf p s i k ∧ ∀ k', k' ≤ m → Suf p s i k' → k' ≤ k
theorem InS.start {p s : List Int} {m i k : Nat} (h : MaxS p s m i k) : InS p s m i k := ⟨h.1, h.2.1, fun k' hk hs _ => h.2.2 k' hk hs⟩
theorem InS.step {p s : List Int} {m i k b : Nat} (h : InS p s m i k) (h0 : 0 < k) (hne : ix p k ≠ ix s i) (hb : MaxB p k b) : InS p s m i b := by
  have hbk := hb.1.1
  refine ⟨by have := h.1; omega, (suf_bord h.2.1 hbk).2 hb.1, fun k' hk' hs he => ?_⟩
  have hle := h.2.2 k' hk' hs he
  rcases Nat.lt_or_ge k' k with hlt | hge
  · exact hb.2 k' ((suf_bord h.2.1 hlt).1 hs)
  · have : k' = k := by omega
    subst this; exact absurd he hne
theorem InS.hit {p s : List Int} {m i k : Nat} (h : InS p s m i k) (he : ix p k = ix s i) : Top p s m (i + 1) (k + 1) := by
  refine ⟨h.1, suf_succ.2 ⟨h.2.1, he⟩, fun k' hk' hs => ?_⟩
  cases k' with
  | zero => omega
  | succ j =>
    obtain ⟨h1, h2⟩ := suf_succ.1 hs
    have := h.2.2 j (by omega) h1 h2; omega
theorem InS.miss {p s : List Int} {m i : Nat} (h : InS p s m i 0) (he : ix p 0 ≠ ix s i) : Top p s m (i + 1) 0 := by
  refine ⟨by omega, suf_zero _ _ _, fun k' hk' hs => ?_⟩
  cases k' with
  | zero => omega
  | succ j =>
    obtain ⟨h1, h2⟩ := suf_succ.1 hs
    have h3 := h.2.2 j (by omega) h1 h2
    have : j = 0 := by omega
    subst this; exact absurd h2 he
theorem Top.full {p s : List Int} {m i b : Nat} (h : Top p s m i m) (hb : MaxB p m b) : MaxS p s m i b := by
  refine ⟨hb.1.1, (suf_bord h.2.1 hb.1.1).2 hb.1, fun k' hk' hs => hb.2 k' ((suf_bord h.2.1 hk').1 hs)⟩
theorem Top.part {p s : List Int} {m i k : Nat} (h : Top p s m i k) (hk : k < m) : MaxS p s m i k ∧ ¬ Suf p s i m :=
  ⟨⟨hk, h.2.1, fun k' hk' hs => h.2.2 k' (by omega) hs⟩, fun hs => by have := h.2.2 m (Nat.le_refl _) hs; omega⟩
theorem maxS_zero {p s : List Int} {m : Nat} (hm : 0 < m) : MaxS p s m 0 0 := ⟨hm, suf_zero _ _ _, fun k' _ hs => hs.1⟩

/-- does p stand at place t of s? -/
def standsB (p s : List Int) (t : Nat) : Bool := decide (p = (s.drop t).take p.length)
theorem stands_suf {p s : List Int} {t : Nat} (ht : t + p.length ≤ s.length) : standsB p s t = true ↔ Suf p s (t + p.length) p.length := by
  unfold standsB
  rw [decide_eq_true_eq]
  constructor
  · intro h
    refine ⟨by omega, fun j hj => ?_⟩
    have : ix p j = ix ((s.drop t).take p.length) j := by rw [← h]
    rw [ix_take hj, ix_drop] at this
    rw [this]; congr 1; omega
  · rintro ⟨_, h⟩
    apply ix_ext (by simp; omega)
    intro j hj
    rw [ix_take hj, ix_drop, h j hj]; congr 1; omega

def placesN (p s : List Int) (n : Nat) : List Nat := (List.range n).filter (standsB p s)
theorem placesN_succ (p s : List Int) (n : Nat) : placesN p s (n + 1) = placesN p s n ++ (if standsB p s n = true then [n] else []) := by
  unfold placesN
  rw [List.range_succ, List.filter_append]
  congr 1
  simp [List.filter_cons]
/-- all places, as numbers of Go -/
def placesS (p s : List Int) (n : Nat) : List Int := (placesN p s n).map fun (t : Nat) => (t : Int)
theorem placesS_succ_yes {p s : List Int} {n : Nat} (h : standsB p s n = true) : placesS p s (n + 1) = placesS p s n ++ [(n : Int)] := by
  unfold placesS; rw [placesN_succ, if_pos h]; simp
theorem placesS_succ_no {p s : List Int} {n : Nat} (h : ¬ standsB p s n = true) : placesS p s (n + 1) = placesS p s n := by
  unfold placesS; rw [placesN_succ, if_neg h]; simp
theorem placesS_length (p s : List Int) (n : Nat) : (placesS p s n).length ≤ n := by
  unfold placesS placesN
  rw [List.length_map]
  exact Nat.le_trans (List.length_filter_le _ _) (by simp)
theorem placesS_range {p s : List Int} {n : Nat} {x : Int} (h : x ∈ placesS p s n) : 0 ≤ x ∧ x < n := by
  unfold placesS placesN at h
  obtain ⟨t, ht, rfl⟩ := List.mem_map.1 h
  have := (List.mem_filter.1 ht).1
  rw [List.mem_range] at this
  omega
theorem placesS_nil {s : List Int} {n : Nat} : placesS [] s n = (List.range n).map fun (t : Nat) => (t : Int) := by
  unfold placesS placesN
  rw [List.filter_eq_self.2 (by intro a _; simp [standsB])]

def headFrom (l : List Int) (from' : Int) : Option Int := (l.filter fun x => decide (from' ≤ x)).head?
def lastBefore (l : List Int) (b : Int) : Option Int := (l.filter fun x => decide (x < b)).getLast?

end Go.Proofs.Ytmipnikhgihcpaa
