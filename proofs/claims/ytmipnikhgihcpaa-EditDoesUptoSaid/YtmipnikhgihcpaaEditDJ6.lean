/- LiftEditDoes, part 6: joined from the texts SeekS ObjQ Obj7 ObjP Do5 Do6 Do7 Rep DoP Dr3 Mot6. No condition of its own. -/
import Derived.Test.YtmipnikhgihcpaaEditDJ1
import Derived.Test.YtmipnikhgihcpaaEditDJ2
import Derived.Test.YtmipnikhgihcpaaEditDJ5
import Derived.Deep.RegionHeld3
import Derived.Laws.CopyOwn
import Derived.Shelf.Bits.Mul64
import Derived.Deep.RegionLaw
import Derived.Deep.DeepCutAuto
import Derived.Deep.CutBlock
set_option linter.unusedVariables false
set_option linter.unusedSimpArgs false
namespace Go.Proofs.Ytmipnikhgihcpaa
def Bord (p : List Int) (n k : Nat) : Prop := k < n ∧ ∀ j, j < k → ix p j = ix p (n - k + j)
def MaxB (p : List Int) (n k : Nat) : Prop := Bord p n k ∧ ∀ k', Bord p n k' → k' ≤ k
theorem bord_succ {p : List Int} {n k : Nat} (hn : 1 ≤ n) : Bord p (n + 1) (k + 1) ↔ Bord p n k ∧ ix p k = ix p n := by
 constructor
 ·rintro ⟨h1, h2⟩
  refine ⟨⟨by omega, fun j hj => ?_⟩, ?_⟩
  ·have := h2 j (by omega)
   rwa [show n + 1 - (k + 1) + j = n - k + j from by omega] at this
  ·have := h2 k (by omega)
   rwa [show n + 1 - (k + 1) + k = n from by omega] at this
 ·rintro ⟨⟨h1, h2⟩, h3⟩
  refine ⟨by omega, fun j hj => ?_⟩
  rw [show n + 1 - (k + 1) + j = n - k + j from by omega]
  by_cases h : j = k
  ·subst h; rw [show n - j + j = n from by omega]; exact h3
  ·exact h2 j (by omega)
theorem bord_bord {p : List Int} {n k k' : Nat} (h : Bord p n k) (hk : k' < k) : Bord p n k' ↔ Bord p k k' := by
 obtain ⟨h1, h2⟩ := h
 constructor
 ·rintro ⟨h3, h4⟩
  refine ⟨hk, fun j hj => ?_⟩
  rw [h4 j hj, h2 (k - k' + j) (by omega)]
  congr 1; omega
 ·rintro ⟨h3, h4⟩
  refine ⟨by omega, fun j hj => ?_⟩
  rw [h4 j hj, h2 (k - k' + j) (by omega)]
  congr 1; omega
def InB (p : List Int) (i k : Nat) : Prop := Bord p i k ∧ ∀ k', Bord p i k' → ix p k' = ix p i → k' ≤ k
theorem InB.step {p : List Int} {i k b : Nat} (h : InB p i k) (h0 : 0 < k) (hne : ix p k ≠ ix p i) (hb : MaxB p k b) : InB p i b := by
 refine ⟨(bord_bord h.1 hb.1.1).2 hb.1, fun k' hk' he => ?_⟩
 have hle := h.2 k' hk' he
 rcases Nat.lt_or_ge k' k with hlt | hge
 ·exact hb.2 k' ((bord_bord h.1 hlt).1 hk')
 ·have : k' = k := by omega
  subst this; exact absurd he hne
theorem InB.hit {p : List Int} {i k : Nat} (h : InB p i k) (he : ix p k = ix p i) (hi : 1 ≤ i) : MaxB p (i + 1) (k + 1) := by
 refine ⟨(bord_succ hi).2 ⟨h.1, he⟩, fun k' hk' => ?_⟩
 cases k' with
 | zero => omega
 | succ m =>
  obtain ⟨h1, h2⟩ := (bord_succ hi).1 hk'
  have := h.2 m h1 h2; omega
theorem ix_take {p : List Int} {n i : Nat} (h : i < n) : ix (p.take n) i = ix p i := by simp [ix, h]
theorem ix_drop {p : List Int} {n i : Nat} : ix (p.drop n) i = ix p (n + i) := by simp [ix]
def Suf (p s : List Int) (i k : Nat) : Prop := k ≤ i ∧ ∀ j, j < k → ix p j = ix s (i - k + j)
theorem suf_succ {p s : List Int} {i k : Nat} : Suf p s (i + 1) (k + 1) ↔ Suf p s i k ∧ ix p k = ix s i := by
 constructor
 ·rintro ⟨h1, h2⟩
  refine ⟨⟨by omega, fun j hj => ?_⟩, ?_⟩
  ·have := h2 j (by omega)
   rwa [show i + 1 - (k + 1) + j = i - k + j from by omega] at this
  ·have := h2 k (by omega)
   rwa [show i + 1 - (k + 1) + k = i from by omega] at this
 ·rintro ⟨⟨h1, h2⟩, h3⟩
  refine ⟨by omega, fun j hj => ?_⟩
  rw [show i + 1 - (k + 1) + j = i - k + j from by omega]
  by_cases h : j = k
  ·subst h; rw [show i - j + j = i from by omega]; exact h3
  ·exact h2 j (by omega)
theorem suf_bord {p s : List Int} {i k k' : Nat} (h : Suf p s i k) (hk : k' < k) : Suf p s i k' ↔ Bord p k k' := by
 obtain ⟨h1, h2⟩ := h
 constructor
 ·rintro ⟨h3, h4⟩
  refine ⟨hk, fun j hj => ?_⟩
  rw [h4 j hj, h2 (k - k' + j) (by omega)]
  congr 1; omega
 ·rintro ⟨h3, h4⟩
  refine ⟨by omega, fun j hj => ?_⟩
  rw [h4 j hj, h2 (k - k' + j) (by omega)]
  congr 1; omega
def MaxS (p s : List Int) (m i k : Nat) : Prop := k < m ∧ Suf p s i k ∧ ∀ k', k' < m → Suf p s i k' → k' ≤ k
def InS (p s : List Int) (m i k : Nat) : Prop := k < m ∧ Suf p s i k ∧ ∀ k', k' < m → Suf p s i k' → ix p k' = ix s i → k' ≤ k
def Top (p s : List Int) (m i k : Nat) : Prop := k ≤ m ∧ Suf p s i k ∧ ∀ k', k' ≤ m → Suf p s i k' → k' ≤ k
theorem InS.step {p s : List Int} {m i k b : Nat} (h : InS p s m i k) (h0 : 0 < k) (hne : ix p k ≠ ix s i) (hb : MaxB p k b) : InS p s m i b := by
 have hbk := hb.1.1
 refine ⟨by have := h.1; omega, (suf_bord h.2.1 hbk).2 hb.1, fun k' hk' hs he => ?_⟩
 have hle := h.2.2 k' hk' hs he
 rcases Nat.lt_or_ge k' k with hlt | hge
 ·exact hb.2 k' ((suf_bord h.2.1 hlt).1 hs)
 ·have : k' = k := by omega
  subst this; exact absurd he hne
theorem InS.hit {p s : List Int} {m i k : Nat} (h : InS p s m i k) (he : ix p k = ix s i) : Top p s m (i + 1) (k + 1) := by
 refine ⟨h.1, suf_succ.2 ⟨h.2.1, he⟩, fun k' hk' hs => ?_⟩
 cases k' with
 | zero => omega
 | succ j =>
  obtain ⟨h1, h2⟩ := suf_succ.1 hs
  have := h.2.2 j (by omega) h1 h2; omega
theorem Top.full {p s : List Int} {m i b : Nat} (h : Top p s m i m) (hb : MaxB p m b) : MaxS p s m i b := by
 refine ⟨hb.1.1, (suf_bord h.2.1 hb.1.1).2 hb.1, fun k' hk' hs => hb.2 k' ((suf_bord h.2.1 hk').1 hs)⟩
def standsB (p s : List Int) (t : Nat) : Bool := decide (p = (s.drop t).take p.length)
theorem stands_suf {p s : List Int} {t : Nat} (ht : t + p.length ≤ s.length) : standsB p s t = true ↔ Suf p s (t + p.length) p.length := by
 unfold standsB
 rw [decide_eq_true_eq]
 constructor
 ·intro h
  refine ⟨by omega, fun j hj => ?_⟩
  have : ix p j = ix ((s.drop t).take p.length) j := by rw [← h]
  rw [ix_take hj, ix_drop] at this
  rw [this]; congr 1; omega
 ·rintro ⟨_, h⟩
  apply ix_ext (by simp; omega)
  intro j hj
  rw [ix_take hj, ix_drop, h j hj]; congr 1; omega
def placesN (p s : List Int) (n : Nat) : List Nat := (List.range n).filter (standsB p s)
theorem placesN_succ (p s : List Int) (n : Nat) : placesN p s (n + 1) = placesN p s n ++ (if standsB p s n = true then [n] else []) := by
 unfold placesN
 rw [List.range_succ, List.filter_append]
 congr 1
 simp [List.filter_cons]
def placesS (p s : List Int) (n : Nat) : List Int := (placesN p s n).map fun (t : Nat) => (t : Int)
theorem placesS_succ_yes {p s : List Int} {n : Nat} (h : standsB p s n = true) : placesS p s (n + 1) = placesS p s n ++ [(n : Int)] := by
 unfold placesS; rw [placesN_succ, if_pos h]; simp
theorem placesS_succ_no {p s : List Int} {n : Nat} (h : ¬ standsB p s n = true) : placesS p s (n + 1) = placesS p s n := by
 unfold placesS; rw [placesN_succ, if_neg h]; simp
theorem placesS_length (p s : List Int) (n : Nat) : (placesS p s n).length ≤ n := by
 unfold placesS placesN
 rw [List.length_map]
 exact Nat.le_trans (List.length_filter_le _ _) (by simp)
end Go.Proofs.Ytmipnikhgihcpaa
namespace Go.Proofs.Ytmipnikhgihcpaa
open Go.RowKit
theorem stands_one {q : Int} {l : List Int} {t : Nat} (ht : t < l.length) : standsB [q] l t = true ↔ ix l t = q := by
 unfold standsB
 rw [decide_eq_true_eq, List.length_singleton, List.take_one, List.head?_drop, ix_eq ht, List.getElem?_eq_getElem ht]
 simp [eq_comm]
structure QPl (l : List Int) (q : Int) (j : Nat) (P : List Int) : Prop where
 par : (P.length % 2 = 0 ∧ quoteS l q j = -1) ∨ (P.length % 2 = 1 ∧ quoteS l q j = ix P (P.length - 1))
 low : ∀ m, m < P.length → 0 ≤ ix P m ∧ ix P m < j
 up : ∀ a b, a < b → b < P.length → ix P a < ix P b
 hit : ∀ m, 2 * m + 1 < P.length → ∃ t : Nat, ix P (2 * m + 1) = t ∧ t < j ∧ ix l t = q ∧ quoteS l q t = ix P (2 * m)
 all : ∀ t, t < j → ix l t = q → 0 ≤ quoteS l q t → ∃ m, 2 * m + 1 < P.length ∧ ix P (2 * m + 1) = t
theorem QPl.zero (l : List Int) (q : Int) : QPl l q 0 [] :=
 ⟨.inl ⟨rfl, rfl⟩, fun m hm => by simp at hm, fun a b _ hb => by simp at hb, fun m hm => by simp at hm, fun t ht => by omega⟩
theorem QPl.skip {l : List Int} {q : Int} {j : Nat} {P : List Int} (h : QPl l q j P) (hq : ix l j ≠ q) : QPl l q (j + 1) P := by
 have hs : quoteS l q (j + 1) = quoteS l q j := by rw [quoteS, if_pos hq]
 refine ⟨by rw [hs]; exact h.par, fun m hm => ⟨(h.low m hm).1, by have := (h.low m hm).2; omega⟩, h.up, fun m hm => ?_, fun t ht h1 h2 => ?_⟩
 ·obtain ⟨t, h1, h2, h3⟩ := h.hit m hm
  exact ⟨t, h1, by omega, h3⟩
 ·rcases Nat.lt_succ_iff_lt_or_eq.1 ht with h' | rfl
  ·exact h.all t h' h1 h2
  ·exact absurd h1 hq
theorem QPl.push {l : List Int} {q : Int} {j : Nat} {P : List Int} (h : QPl l q j P) (hq : ix l j = q) : QPl l q (j + 1) (P ++ [(j : Int)]) := by
 have hs : quoteS l q (j + 1) = if quoteS l q j < 0 then (j : Int) else -1 := by rw [quoteS, if_neg (by simpa using hq)]
 have hl : (P ++ [(j : Int)]).length = P.length + 1 := by simp
 have hix : ∀ m, m < P.length → ix (P ++ [(j : Int)]) m = ix P m := fun m hm => ix_append_left hm
 have hla : ix (P ++ [(j : Int)]) P.length = j := by have := ix_append_right (xs := P) (ys := [(j : Int)]) (i := 0); simp [ix]
 refine ⟨?_, fun m hm => ?_, fun a b hab hb => ?_, fun m hm => ?_, fun t ht h1 h2 => ?_⟩
 ·rw [hs, hl]
  rcases h.par with ⟨p1, p2⟩ | ⟨p1, p2⟩
  ·rw [p2, if_pos (by decide)]
   exact .inr ⟨by omega, by rw [Nat.add_sub_cancel, hla]⟩
  ·have := (h.low (P.length - 1) (by omega)).1
   rw [p2, if_neg (by omega)]
   exact .inl ⟨by omega, rfl⟩
 ·rw [hl] at hm
  rcases Nat.lt_succ_iff_lt_or_eq.1 hm with h' | rfl
  ·rw [hix m h']
   exact ⟨(h.low m h').1, by have := (h.low m h').2; omega⟩
  ·rw [hla]; omega
 ·rw [hl] at hb
  rcases Nat.lt_succ_iff_lt_or_eq.1 hb with h' | rfl
  ·rw [hix a (by omega), hix b h']; exact h.up a b hab h'
  ·rw [hix a hab, hla]; exact (h.low a hab).2
 ·rw [hl] at hm
  rcases Nat.lt_succ_iff_lt_or_eq.1 hm with h' | h'
  ·obtain ⟨t, h1, h2, h3, h4⟩ := h.hit m h'
   exact ⟨t, by rw [hix _ h']; exact h1, by omega, h3, by rw [hix _ (by omega)]; exact h4⟩
  ·refine ⟨j, by rw [h', hla], by omega, hq, ?_⟩
   rcases h.par with ⟨p1, p2⟩ | ⟨p1, p2⟩
   ·omega
   ·rw [p2, hix _ (by omega)]
    congr 1
    omega
 ·rcases Nat.lt_succ_iff_lt_or_eq.1 ht with h' | rfl
  ·obtain ⟨m, h3, h4⟩ := h.all t h' h1 h2
   exact ⟨m, by rw [hl]; omega, by rw [hix _ h3]; exact h4⟩
  ·rcases h.par with ⟨p1, p2⟩ | ⟨p1, p2⟩
   ·omega
   ·refine ⟨P.length / 2, by rw [hl]; omega, ?_⟩
    rw [show 2 * (P.length / 2) + 1 = P.length from by omega, hla]
theorem QPl.run (l : List Int) (q : Int) (j : Nat) (hj : j ≤ l.length) : QPl l q j (placesS [q] l j) := by
 induction j with
 | zero => exact QPl.zero l q
 | succ j ih =>
  by_cases h : ix l j = q
  ·rw [placesS_succ_yes ((stands_one (by omega)).2 h)]
   exact (ih (by omega)).push h
  ·rw [placesS_succ_no (fun hc => h ((stands_one (by omega)).1 hc))]
   exact (ih (by omega)).skip h
theorem quotes_no {l P : List Int} {q : Int} {k : Nat} (h : QPl l q l.length P) (h1 : ∀ m, 2 * m + 1 < P.length → ix P (2 * m + 1) < k) (i : Nat) (hi : i < l.length) : ¬ QFound l k q i := fun hf => by
 obtain ⟨m, g1, g2⟩ := h.all i hi hf.1 hf.2.1
 have := h1 m g1
 have := hf.2.2
 omega
def QuotesP (l : List Int) (k : Nat) (around : Bool) (q a b er : Int) : Prop :=
 (∃ i, i < l.length ∧ QFound l k q i ∧ (∀ j, j < i → ¬ QFound l k q j) ∧
   a = (if around = true then quoteS l q i else quoteS l q i + 1) ∧ b = (if around = true then (i : Int) + 1 else (i : Int)) ∧ er = 0) ∨
  ((∀ i, i < l.length → ¬ QFound l k q i) ∧ a = 0 ∧ b = 0 ∧ er = 6)
def BracketsP (l ps : List Int) (k : Nat) (around : Bool) (o a b er : Int) : Prop :=
 (∃ i, i < l.length ∧ i ≤ k ∧ BFound l ps k o i ∧ (∀ j, i < j → j ≤ k → j < l.length → ¬ BFound l ps k o j) ∧
   a = (if around = true then (i : Int) else (i : Int) + 1) ∧ b = (if around = true then ix ps i + 1 else ix ps i) ∧ er = 0) ∨
  ((∀ i, i < l.length → i ≤ k → ¬ BFound l ps k o i) ∧ a = 0 ∧ b = 0 ∧ er = 6)
def OfWP (l : List Int) (around : Bool) (k : Nat) (big : Bool) (a b er : Int) : Prop :=
 (l.length = 0 ∧ a = 0 ∧ b = 0 ∧ er = 6) ∨ (0 < l.length ∧ er = 0 ∧ ∃ f t : Nat, a = f ∧ b = t ∧ WordsP l big around k f t)
theorem QuotesP.one {l : List Int} {k : Nat} {around : Bool} {q a b er a' b' er' : Int} (h : QuotesP l k around q a b er) (h' : QuotesP l k around q a' b' er') : a = a' ∧ b = b' ∧ er = er' := by
 rcases h with ⟨i, h1, h2, h3, rfl, rfl, rfl⟩ | ⟨h1, rfl, rfl, rfl⟩ <;> rcases h' with ⟨i', g1, g2, g3, rfl, rfl, rfl⟩ | ⟨g1, rfl, rfl, rfl⟩
 ·obtain rfl : i = i' := by
   rcases Nat.lt_trichotomy i i' with h | h | h
   ·exact absurd h2 (g3 i h)
   ·exact h
   ·exact absurd g2 (h3 i' h)
  exact ⟨rfl, rfl, rfl⟩
 ·exact absurd h2 (g1 i h1)
 ·exact absurd g2 (h1 i' g1)
 ·exact ⟨rfl, rfl, rfl⟩
theorem BracketsP.one {l ps : List Int} {k : Nat} {around : Bool} {o a b er a' b' er' : Int} (h : BracketsP l ps k around o a b er) (h' : BracketsP l ps k around o a' b' er') : a = a' ∧ b = b' ∧ er = er' := by
 rcases h with ⟨i, h1, h2, h3, h4, rfl, rfl, rfl⟩ | ⟨h1, rfl, rfl, rfl⟩ <;> rcases h' with ⟨i', g1, g2, g3, g4, rfl, rfl, rfl⟩ | ⟨g1, rfl, rfl, rfl⟩
 ·obtain rfl : i = i' := by
   rcases Nat.lt_trichotomy i i' with h | h | h
   ·exact absurd g3 (h4 i' h g2 g1)
   ·exact h
   ·exact absurd h3 (g4 i h h2 h1)
  exact ⟨rfl, rfl, rfl⟩
 ·exact absurd h3 (g1 i h1 h2)
 ·exact absurd g3 (h1 i' g1 g2)
 ·exact ⟨rfl, rfl, rfl⟩
theorem OfWP.one {l : List Int} {around big : Bool} {k : Nat} {a b er a' b' er' : Int} (h : OfWP l around k big a b er) (h' : OfWP l around k big a' b' er') : a = a' ∧ b = b' ∧ er = er' := by
 rcases h with ⟨h0, rfl, rfl, rfl⟩ | ⟨h0, rfl, f, t, rfl, rfl, h1⟩ <;> rcases h' with ⟨g0, rfl, rfl, rfl⟩ | ⟨g0, rfl, f', t', rfl, rfl, g1⟩
 ·exact ⟨rfl, rfl, rfl⟩
 ·omega
 ·omega
 ·obtain ⟨rfl, rfl⟩ := h1.one g1; exact ⟨rfl, rfl, rfl⟩
def OfP (l ps : List Int) (around : Bool) (k : Nat) (key a b er : Int) : Prop :=
 if key = 119 then OfWP l around k false a b er
 else if key = 87 then OfWP l around k true a b er
 else if key = 34 ∨ key = 39 ∨ key = 96 then QuotesP l k around key a b er
 else if openS key = 0 then a = 0 ∧ b = 0 ∧ er = 9
 else BracketsP l ps k around (openS key) a b er
theorem OfP.one {l ps : List Int} {around : Bool} {k : Nat} {key a b er a' b' er' : Int} (h : OfP l ps around k key a b er) (h' : OfP l ps around k key a' b' er') : a = a' ∧ b = b' ∧ er = er' := by
 unfold OfP at h h'
 split at h
 ·rename_i e; rw [if_pos e] at h'; exact h.one h'
 ·rename_i e; rw [if_neg e] at h'
  split at h
  ·rename_i e; rw [if_pos e] at h'; exact h.one h'
  ·rename_i e; rw [if_neg e] at h'
   split at h
   ·rename_i e; rw [if_pos e] at h'; exact h.one h'
   ·rename_i e; rw [if_neg e] at h'
    split at h
    ·rename_i e; rw [if_pos e] at h'
     obtain ⟨rfl, rfl, rfl⟩ := h
     obtain ⟨rfl, rfl, rfl⟩ := h'
     exact ⟨rfl, rfl, rfl⟩
    ·rename_i e; rw [if_neg e] at h'; exact h.one h'
def Out3 (P : Int → Int → Int → Prop) (w : World) (e : Ending) (w' : World) : Prop :=
 ∃ a b er : Int, e = .returned (.tuple #[.int .i64 a, .int .i64 b, .int .i64 er]) ∧ P a b er ∧ Below w.heap.size w w'
theorem WordsP.bound {l : List Int} {big around : Bool} {k f t : Nat} (h : WordsP l big around k f t) : f ≤ t ∧ t ≤ l.length := by
 obtain ⟨f0, t0, h1, h2⟩ := h
 have a1 := h1.lo; have a2 := h1.hi; have a3 := h1.len
 split at h2
 ·obtain ⟨rfl, f1, g⟩ := h2
  have b1 := g.lo; have b2 := g.hi; have b3 := g.len
  omega
 ·split at h2
  ·obtain ⟨rfl, t1, g⟩ := h2
   have b1 := g.lo; have b2 := g.hi; have b3 := g.len
   omega
  ·omega
theorem openS_is (key : Int) (h : openS key ≠ 0) : openS (openS key) = openS key ∧ closeS (openS key) ≠ openS key := by
 unfold openS closeS at *
 split
 ·decide
 ·rename_i h1
  rw [if_neg h1] at h
  split
  ·decide
  ·rename_i h2
   rw [if_neg h2] at h
   split
   ·decide
   ·rename_i h3
    rw [if_neg h3] at h
    exact absurd rfl h
theorem part_opener {l : List Int} {n i k : Nat} {o : Int} (hi : i < n) (hx : ix l i = o) (hp : (k : Int) ≤ ix (pRun l n n).out i) (ho : openS o = o) (hc : closeS o ≠ o) (h0 : o ≠ 0) : (i : Int) + 1 ≤ ix (pRun l n n).out i ∧ ix (pRun l n n).out i < n := by
 have h := pairs_partner l n i hi
 unfold PartnerP at h
 rw [hx, ho, if_neg h0, if_neg (Ne.symm hc)] at h
 rcases h with ⟨t, h1, ⟨h2, _⟩, _, h3⟩ | ⟨_, h3⟩
 ·dsimp only at h2 h3
  rcases Nat.eq_zero_or_pos t with rfl | ht
  ·rw [Nat.add_zero, hx] at h2
   exact absurd h2.symm hc
  ·omega
 ·omega
theorem OfP.bound {l : List Int} {n k : Nat} {around : Bool} {key a b er : Int} (hn : l.length = n) (hk : k < n ∨ k = 0) (h : OfP l (pRun l n n).out around k key a b er) (h0 : er = 0) : 0 ≤ a ∧ a ≤ b ∧ b ≤ l.length := by
 have hw : ∀ big, OfWP l around k big a b er → 0 ≤ a ∧ a ≤ b ∧ b ≤ l.length := by
  rintro big (⟨_, _, _, h9⟩ | ⟨_, _, f, t, e1, e2, h9⟩)
  ·omega
  ·have := WordsP.bound h9; omega
 unfold OfP at h
 split at h
 ·exact hw _ h
 split at h
 ·exact hw _ h
 split at h
 ·rcases h with ⟨i, h1, ⟨h2, h3, h4⟩, _, rfl, rfl, _⟩ | ⟨_, _, _, h⟩
  ·have := quoteS_range l key i
   split <;> omega
  ·omega
 split at h
 ·omega
 rename_i hz
 rcases h with ⟨i, h1, h2, ⟨h3, h4⟩, _, rfl, rfl, _⟩ | ⟨_, _, _, h⟩
 ·obtain ⟨g1, g2⟩ := openS_is key hz
  have := part_opener (by omega) h3 h4 g1 g2 hz
  split <;> omega
 ·omega
def FnPost (k n g lk la er : Int) (w : World) (e : Ending) (w' : World) : Prop := e = .returned (.tuple #[.agg #[.int .i64 k, .int .i64 n, .int .i64 g], .agg #[.int .i64 lk, .int .i64 la], .int .i64 er]) ∧ Below w.heap.size w w'
theorem fourC (w : World) (u v x y : Array Value) (e f g h : TypeId) : Blk ((((w.alloc (.cells u e)).alloc (.cells v f)).alloc (.cells x g)).alloc (.cells y h)) w.heap.size u e ∧ Blk ((((w.alloc (.cells u e)).alloc (.cells v f)).alloc (.cells x g)).alloc (.cells y h)) (w.heap.size + 1) v f ∧ Blk ((((w.alloc (.cells u e)).alloc (.cells v f)).alloc (.cells x g)).alloc (.cells y h)) (w.heap.size + 2) x g ∧ Blk ((((w.alloc (.cells u e)).alloc (.cells v f)).alloc (.cells x g)).alloc (.cells y h)) (w.heap.size + 3) y h ∧ Below w.heap.size w ((((w.alloc (.cells u e)).alloc (.cells v f)).alloc (.cells x g)).alloc (.cells y h)) ∧ ((((w.alloc (.cells u e)).alloc (.cells v f)).alloc (.cells x g)).alloc (.cells y h)).heap.size = w.heap.size + 4 := by
 obtain ⟨h1, h2, h3, h4, h5⟩ := threeC w u v x e f g
 have hn := Blk.new (((w.alloc (.cells u e)).alloc (.cells v f)).alloc (.cells x g)) y h
 rw [h5] at hn
 exact ⟨h1.alloc _, h2.alloc _, h3.alloc _, hn, h4.alloc h4.size _, by rw [World.size_alloc, h5]⟩
def regionD (n : Nat) : Code → Option Code
 | .region k o d => if k == n then some (.region k o d) else none
 | .seq a b => match regionD n a with
  | some c => some c
  | none => regionD n b
 | .loop c => regionD n c
 | .block _ c => regionD n c
 | .scope c => regionD n c
 | .cond _ a b => match regionD n a with
  | some c => some c
  | none => regionD n b
 | _ => none
noncomputable def RD7 : Code := ((Try.f221.body.bind (regionD 7)).getD .skip)
set_option maxRecDepth 100000 in
set_option maxHeartbeats 4000000 in
theorem found_r7 (fk fa a b op d e mk mn mg : Int) (w V : World) {Q : Exit → Act → World → Prop} {u0 u1 u6 u8 u9 u10 u11 u12 u13 u14 u15 u16 u17 u18 u19 u20 u21 u22 u23 u24 u25 u26 u27 u28 u29 u30 u31 u32 u33 u34 u35 u36 u37 u38 u39 u40 u41 u42 u43 u44 u45 u46 u47 u48 u49 u50 : Value}
  (hF : Blk V w.heap.size #[.int .i64 fk, .int .i64 fa] 135) (hC : Blk V (w.heap.size + 1) #[.int .i64 a, .int .i64 b, .int .i64 op, .int .i64 d, .int .i64 e] 80) (hR : Blk V (w.heap.size + 2) #[.int .i64 0, .int .i64 0, .int .i64 0] 227) (hL : Blk V (w.heap.size + 3) #[.int .i64 0, .int .i64 0] 135) (hM : Blk V (w.heap.size + 4) #[.int .i64 mk, .int .i64 mn, .int .i64 mg] 227) (hb : Below w.heap.size w V)
  (hQ : ∀ (x22 x23 x24 x25 x26 x27 : Value) (w' : World), Blk w' (w.heap.size + 2) #[.int .i64 mk, .int .i64 mn, .int .i64 mg] 227 ∧ Blk w' (w.heap.size + 3) #[.int .i64 d, .int .i64 e] 135 ∧ Below w.heap.size w w' → Q .normal ⟨(u0 :: u1 :: .pointer (some ⟨w.heap.size, 0, none⟩) :: .pointer (some ⟨w.heap.size + 1, 0, none⟩) :: .pointer (some ⟨w.heap.size + 2, 0, none⟩) :: .pointer (some ⟨w.heap.size + 3, 0, none⟩) :: .int .i64 0 :: .pointer (some ⟨w.heap.size + 4, 0, none⟩) :: u8 :: u9 :: u10 :: u11 :: u12 :: u13 :: u14 :: u15 :: u16 :: u17 :: u18 :: u19 :: u20 :: u21 :: x22 :: x23 :: x24 :: x25 :: x26 :: x27 :: u28 :: u29 :: u30 :: u31 :: u32 :: u33 :: u34 :: u35 :: u36 :: u37 :: u38 :: u39 :: u40 :: u41 :: u42 :: u43 :: u44 :: u45 :: u46 :: u47 :: u48 :: u49 :: u50 :: []).toArray, []⟩ w') :
  Code.wp Try.prog RD7 Q ⟨(u0 :: u1 :: .pointer (some ⟨w.heap.size, 0, none⟩) :: .pointer (some ⟨w.heap.size + 1, 0, none⟩) :: .pointer (some ⟨w.heap.size + 2, 0, none⟩) :: .pointer (some ⟨w.heap.size + 3, 0, none⟩) :: u6 :: .pointer (some ⟨w.heap.size + 4, 0, none⟩) :: u8 :: u9 :: u10 :: u11 :: u12 :: u13 :: u14 :: u15 :: u16 :: u17 :: u18 :: u19 :: u20 :: u21 :: u22 :: u23 :: u24 :: u25 :: u26 :: u27 :: u28 :: u29 :: u30 :: u31 :: u32 :: u33 :: u34 :: u35 :: u36 :: u37 :: u38 :: u39 :: u40 :: u41 :: u42 :: u43 :: u44 :: u45 :: u46 :: u47 :: u48 :: u49 :: u50 :: []).toArray, []⟩ V := by
 obtain ⟨c0, c1, c2, c3, c4⟩ := hC.five
 obtain ⟨p0, p1, -, -⟩ := hF.two
 obtain ⟨m0, m1, m2, q0, q1, q2⟩ := hM.three
 obtain ⟨d0, d1, d2, g0, g1, g2⟩ := hR.three
 obtain ⟨l0, l1, t0, t1⟩ := hL.two
 have HF := Lib.hid (show _ ∧ _ ∧ _ from ⟨((((hR.set 0 (.int .i64 mk)).set 1 (.int .i64 mn)).set 2 (.int .i64 mg)).other (a := ⟨w.heap.size + 3, 0, none⟩) (show w.heap.size + 2 ≠ w.heap.size + 3 by omega) (.int .i64 d)).other (a := ⟨w.heap.size + 3, 1, none⟩) (show w.heap.size + 2 ≠ w.heap.size + 3 by omega) (.int .i64 e), ((((hL.other (a := ⟨w.heap.size + 2, 0, none⟩) (show w.heap.size + 3 ≠ w.heap.size + 2 by omega) (.int .i64 mk)).other (a := ⟨w.heap.size + 2, 1, none⟩) (show w.heap.size + 3 ≠ w.heap.size + 2 by omega) (.int .i64 mn)).other (a := ⟨w.heap.size + 2, 2, none⟩) (show w.heap.size + 3 ≠ w.heap.size + 2 by omega) (.int .i64 mg)).set 0 (.int .i64 d)).set 1 (.int .i64 e), (((((hb.setCell (p := ⟨w.heap.size + 2, 0, none⟩) (by show w.heap.size ≤ w.heap.size + 2; omega) (.int .i64 mk)).setCell (p := ⟨w.heap.size + 2, 1, none⟩) (by show w.heap.size ≤ w.heap.size + 2; omega) (.int .i64 mn)).setCell (p := ⟨w.heap.size + 2, 2, none⟩) (by show w.heap.size ≤ w.heap.size + 2; omega) (.int .i64 mg)).setCell (p := ⟨w.heap.size + 3, 0, none⟩) (by show w.heap.size ≤ w.heap.size + 3; omega) (.int .i64 d)).setCell (p := ⟨w.heap.size + 3, 1, none⟩) (by show w.heap.size ≤ w.heap.size + 3; omega) (.int .i64 e))⟩)
 have HF2 := Lib.hid (show _ ∧ _ ∧ _ from ⟨((((hR.other (a := ⟨w.heap.size + 3, 0, none⟩) (show w.heap.size + 2 ≠ w.heap.size + 3 by omega) (.int .i64 d)).other (a := ⟨w.heap.size + 3, 1, none⟩) (show w.heap.size + 2 ≠ w.heap.size + 3 by omega) (.int .i64 e)).set 0 (.int .i64 mk)).set 1 (.int .i64 mn)).set 2 (.int .i64 mg), ((((hL.set 0 (.int .i64 d)).set 1 (.int .i64 e)).other (a := ⟨w.heap.size + 2, 0, none⟩) (show w.heap.size + 3 ≠ w.heap.size + 2 by omega) (.int .i64 mk)).other (a := ⟨w.heap.size + 2, 1, none⟩) (show w.heap.size + 3 ≠ w.heap.size + 2 by omega) (.int .i64 mn)).other (a := ⟨w.heap.size + 2, 2, none⟩) (show w.heap.size + 3 ≠ w.heap.size + 2 by omega) (.int .i64 mg), (((((hb.setCell (p := ⟨w.heap.size + 3, 0, none⟩) (by show w.heap.size ≤ w.heap.size + 3; omega) (.int .i64 d)).setCell (p := ⟨w.heap.size + 3, 1, none⟩) (by show w.heap.size ≤ w.heap.size + 3; omega) (.int .i64 e)).setCell (p := ⟨w.heap.size + 2, 0, none⟩) (by show w.heap.size ≤ w.heap.size + 2; omega) (.int .i64 mk)).setCell (p := ⟨w.heap.size + 2, 1, none⟩) (by show w.heap.size ≤ w.heap.size + 2; omega) (.int .i64 mn)).setCell (p := ⟨w.heap.size + 2, 2, none⟩) (by show w.heap.size ≤ w.heap.size + 2; omega) (.int .i64 mg))⟩)
 have HQ := Lib.hid hQ
 clear hF hC hM hR hL hb hQ
 conv => arg 2; whnf
 go_region
 all_goals
  first
   | exact HQ.out _ _ _ _ _ _ _ ⟨HF.out.1, HF.out.2.1, HF.out.2.2.drew⟩
   | exact HQ.out _ _ _ _ _ _ _ ⟨HF2.out.1, HF2.out.2.1, HF2.out.2.2.drew⟩
noncomputable def RD11 : Code := ((Try.f221.body.bind (regionD 11)).getD .skip)
set_option maxRecDepth 100000 in
set_option maxHeartbeats 4000000 in
theorem found_r11 (fk fa a b op d e mk mn mg : Int) (w V : World) {Q : Exit → Act → World → Prop} {u0 u1 u6 u8 u9 u10 u11 u12 u13 u14 u15 u16 u17 u18 u19 u20 u21 u22 u23 u24 u25 u26 u27 u28 u29 u30 u31 u32 u33 u34 u35 u36 u37 u38 u39 u40 u41 u42 u43 u44 u45 u46 u47 u48 u49 u50 : Value}
  (hF : Blk V w.heap.size #[.int .i64 fk, .int .i64 fa] 135) (hC : Blk V (w.heap.size + 1) #[.int .i64 a, .int .i64 b, .int .i64 op, .int .i64 d, .int .i64 e] 80) (hR : Blk V (w.heap.size + 2) #[.int .i64 0, .int .i64 0, .int .i64 0] 227) (hL : Blk V (w.heap.size + 3) #[.int .i64 0, .int .i64 0] 135) (hM : Blk V (w.heap.size + 4) #[.int .i64 mk, .int .i64 mn, .int .i64 mg] 227) (hb : Below w.heap.size w V)
  (hQ : ∀ (x34 x35 : Value) (w' : World), Blk w' (w.heap.size + 2) #[.int .i64 mk, .int .i64 mn, .int .i64 mg] 227 ∧ Blk w' (w.heap.size + 3) #[.int .i64 fk, .int .i64 fa] 135 ∧ Below w.heap.size w w' → Q .normal ⟨(u0 :: u1 :: .pointer (some ⟨w.heap.size, 0, none⟩) :: .pointer (some ⟨w.heap.size + 1, 0, none⟩) :: .pointer (some ⟨w.heap.size + 2, 0, none⟩) :: .pointer (some ⟨w.heap.size + 3, 0, none⟩) :: .int .i64 5 :: .pointer (some ⟨w.heap.size + 4, 0, none⟩) :: u8 :: u9 :: u10 :: u11 :: u12 :: u13 :: u14 :: u15 :: u16 :: u17 :: u18 :: u19 :: u20 :: u21 :: u22 :: u23 :: u24 :: u25 :: u26 :: u27 :: u28 :: u29 :: u30 :: u31 :: u32 :: u33 :: x34 :: x35 :: u36 :: u37 :: u38 :: u39 :: u40 :: u41 :: u42 :: u43 :: u44 :: u45 :: u46 :: u47 :: u48 :: u49 :: u50 :: []).toArray, []⟩ w') :
  Code.wp Try.prog RD11 Q ⟨(u0 :: u1 :: .pointer (some ⟨w.heap.size, 0, none⟩) :: .pointer (some ⟨w.heap.size + 1, 0, none⟩) :: .pointer (some ⟨w.heap.size + 2, 0, none⟩) :: .pointer (some ⟨w.heap.size + 3, 0, none⟩) :: u6 :: .pointer (some ⟨w.heap.size + 4, 0, none⟩) :: u8 :: u9 :: u10 :: u11 :: u12 :: u13 :: u14 :: u15 :: u16 :: u17 :: u18 :: u19 :: u20 :: u21 :: u22 :: u23 :: u24 :: u25 :: u26 :: u27 :: u28 :: u29 :: u30 :: u31 :: u32 :: u33 :: u34 :: u35 :: u36 :: u37 :: u38 :: u39 :: u40 :: u41 :: u42 :: u43 :: u44 :: u45 :: u46 :: u47 :: u48 :: u49 :: u50 :: []).toArray, []⟩ V := by
 obtain ⟨c0, c1, c2, c3, c4⟩ := hC.five
 obtain ⟨p0, p1, -, -⟩ := hF.two
 obtain ⟨m0, m1, m2, q0, q1, q2⟩ := hM.three
 obtain ⟨d0, d1, d2, g0, g1, g2⟩ := hR.three
 obtain ⟨l0, l1, t0, t1⟩ := hL.two
 have HF := Lib.hid (show _ ∧ _ ∧ _ from ⟨((((hR.set 0 (.int .i64 mk)).set 1 (.int .i64 mn)).set 2 (.int .i64 mg)).other (a := ⟨w.heap.size + 3, 0, none⟩) (show w.heap.size + 2 ≠ w.heap.size + 3 by omega) (.int .i64 fk)).other (a := ⟨w.heap.size + 3, 1, none⟩) (show w.heap.size + 2 ≠ w.heap.size + 3 by omega) (.int .i64 fa), ((((hL.other (a := ⟨w.heap.size + 2, 0, none⟩) (show w.heap.size + 3 ≠ w.heap.size + 2 by omega) (.int .i64 mk)).other (a := ⟨w.heap.size + 2, 1, none⟩) (show w.heap.size + 3 ≠ w.heap.size + 2 by omega) (.int .i64 mn)).other (a := ⟨w.heap.size + 2, 2, none⟩) (show w.heap.size + 3 ≠ w.heap.size + 2 by omega) (.int .i64 mg)).set 0 (.int .i64 fk)).set 1 (.int .i64 fa), (((((hb.setCell (p := ⟨w.heap.size + 2, 0, none⟩) (by show w.heap.size ≤ w.heap.size + 2; omega) (.int .i64 mk)).setCell (p := ⟨w.heap.size + 2, 1, none⟩) (by show w.heap.size ≤ w.heap.size + 2; omega) (.int .i64 mn)).setCell (p := ⟨w.heap.size + 2, 2, none⟩) (by show w.heap.size ≤ w.heap.size + 2; omega) (.int .i64 mg)).setCell (p := ⟨w.heap.size + 3, 0, none⟩) (by show w.heap.size ≤ w.heap.size + 3; omega) (.int .i64 fk)).setCell (p := ⟨w.heap.size + 3, 1, none⟩) (by show w.heap.size ≤ w.heap.size + 3; omega) (.int .i64 fa))⟩)
 have HF2 := Lib.hid (show _ ∧ _ ∧ _ from ⟨((((hR.other (a := ⟨w.heap.size + 3, 0, none⟩) (show w.heap.size + 2 ≠ w.heap.size + 3 by omega) (.int .i64 fk)).other (a := ⟨w.heap.size + 3, 1, none⟩) (show w.heap.size + 2 ≠ w.heap.size + 3 by omega) (.int .i64 fa)).set 0 (.int .i64 mk)).set 1 (.int .i64 mn)).set 2 (.int .i64 mg), ((((hL.set 0 (.int .i64 fk)).set 1 (.int .i64 fa)).other (a := ⟨w.heap.size + 2, 0, none⟩) (show w.heap.size + 3 ≠ w.heap.size + 2 by omega) (.int .i64 mk)).other (a := ⟨w.heap.size + 2, 1, none⟩) (show w.heap.size + 3 ≠ w.heap.size + 2 by omega) (.int .i64 mn)).other (a := ⟨w.heap.size + 2, 2, none⟩) (show w.heap.size + 3 ≠ w.heap.size + 2 by omega) (.int .i64 mg), (((((hb.setCell (p := ⟨w.heap.size + 3, 0, none⟩) (by show w.heap.size ≤ w.heap.size + 3; omega) (.int .i64 fk)).setCell (p := ⟨w.heap.size + 3, 1, none⟩) (by show w.heap.size ≤ w.heap.size + 3; omega) (.int .i64 fa)).setCell (p := ⟨w.heap.size + 2, 0, none⟩) (by show w.heap.size ≤ w.heap.size + 2; omega) (.int .i64 mk)).setCell (p := ⟨w.heap.size + 2, 1, none⟩) (by show w.heap.size ≤ w.heap.size + 2; omega) (.int .i64 mn)).setCell (p := ⟨w.heap.size + 2, 2, none⟩) (by show w.heap.size ≤ w.heap.size + 2; omega) (.int .i64 mg))⟩)
 have HQ := Lib.hid hQ
 clear hF hC hM hR hL hb hQ
 conv => arg 2; whnf
 go_region
 all_goals
  first
   | exact HQ.out _ _ _ ⟨HF.out.1, HF.out.2.1, HF.out.2.2.drew⟩
   | exact HQ.out _ _ _ ⟨HF2.out.1, HF2.out.2.1, HF2.out.2.2.drew⟩
noncomputable def RD15 : Code := ((Try.f221.body.bind (regionD 15)).getD .skip)
set_option maxRecDepth 100000 in
set_option maxHeartbeats 4000000 in
theorem found_r15 (fk fa a b op d e mk mn mg : Int) (w V : World) {Q : Exit → Act → World → Prop} {u0 u1 u6 u8 u9 u10 u11 u12 u13 u14 u15 u16 u17 u18 u19 u20 u21 u22 u23 u24 u25 u26 u27 u28 u29 u30 u31 u32 u33 u34 u35 u36 u37 u38 u39 u40 u41 u42 u43 u44 u45 u46 u47 u48 u49 u50 : Value}
  (hF : Blk V w.heap.size #[.int .i64 fk, .int .i64 fa] 135) (hC : Blk V (w.heap.size + 1) #[.int .i64 a, .int .i64 b, .int .i64 op, .int .i64 d, .int .i64 e] 80) (hR : Blk V (w.heap.size + 2) #[.int .i64 0, .int .i64 0, .int .i64 0] 227) (hL : Blk V (w.heap.size + 3) #[.int .i64 0, .int .i64 0] 135) (hM : Blk V (w.heap.size + 4) #[.int .i64 mk, .int .i64 mn, .int .i64 mg] 227) (hb : Below w.heap.size w V)
  (hQ : ∀ (x49 x50 : Value) (w' : World), Blk w' (w.heap.size + 2) #[.int .i64 mk, .int .i64 mn, .int .i64 mg] 227 ∧ Blk w' (w.heap.size + 3) #[.int .i64 fk, .int .i64 fa] 135 ∧ Below w.heap.size w w' → Q .normal ⟨(u0 :: u1 :: .pointer (some ⟨w.heap.size, 0, none⟩) :: .pointer (some ⟨w.heap.size + 1, 0, none⟩) :: .pointer (some ⟨w.heap.size + 2, 0, none⟩) :: .pointer (some ⟨w.heap.size + 3, 0, none⟩) :: .int .i64 0 :: .pointer (some ⟨w.heap.size + 4, 0, none⟩) :: u8 :: u9 :: u10 :: u11 :: u12 :: u13 :: u14 :: u15 :: u16 :: u17 :: u18 :: u19 :: u20 :: u21 :: u22 :: u23 :: u24 :: u25 :: u26 :: u27 :: u28 :: u29 :: u30 :: u31 :: u32 :: u33 :: u34 :: u35 :: u36 :: u37 :: u38 :: u39 :: u40 :: u41 :: u42 :: u43 :: u44 :: u45 :: u46 :: u47 :: u48 :: x49 :: x50 :: []).toArray, []⟩ w') :
  Code.wp Try.prog RD15 Q ⟨(u0 :: u1 :: .pointer (some ⟨w.heap.size, 0, none⟩) :: .pointer (some ⟨w.heap.size + 1, 0, none⟩) :: .pointer (some ⟨w.heap.size + 2, 0, none⟩) :: .pointer (some ⟨w.heap.size + 3, 0, none⟩) :: u6 :: .pointer (some ⟨w.heap.size + 4, 0, none⟩) :: u8 :: u9 :: u10 :: u11 :: u12 :: u13 :: u14 :: u15 :: u16 :: u17 :: u18 :: u19 :: u20 :: u21 :: u22 :: u23 :: u24 :: u25 :: u26 :: u27 :: u28 :: u29 :: u30 :: u31 :: u32 :: u33 :: u34 :: u35 :: u36 :: u37 :: u38 :: u39 :: u40 :: u41 :: u42 :: u43 :: u44 :: u45 :: u46 :: u47 :: u48 :: u49 :: u50 :: []).toArray, []⟩ V := by
 obtain ⟨c0, c1, c2, c3, c4⟩ := hC.five
 obtain ⟨p0, p1, -, -⟩ := hF.two
 obtain ⟨m0, m1, m2, q0, q1, q2⟩ := hM.three
 obtain ⟨d0, d1, d2, g0, g1, g2⟩ := hR.three
 obtain ⟨l0, l1, t0, t1⟩ := hL.two
 have HF := Lib.hid (show _ ∧ _ ∧ _ from ⟨((((hR.set 0 (.int .i64 mk)).set 1 (.int .i64 mn)).set 2 (.int .i64 mg)).other (a := ⟨w.heap.size + 3, 0, none⟩) (show w.heap.size + 2 ≠ w.heap.size + 3 by omega) (.int .i64 fk)).other (a := ⟨w.heap.size + 3, 1, none⟩) (show w.heap.size + 2 ≠ w.heap.size + 3 by omega) (.int .i64 fa), ((((hL.other (a := ⟨w.heap.size + 2, 0, none⟩) (show w.heap.size + 3 ≠ w.heap.size + 2 by omega) (.int .i64 mk)).other (a := ⟨w.heap.size + 2, 1, none⟩) (show w.heap.size + 3 ≠ w.heap.size + 2 by omega) (.int .i64 mn)).other (a := ⟨w.heap.size + 2, 2, none⟩) (show w.heap.size + 3 ≠ w.heap.size + 2 by omega) (.int .i64 mg)).set 0 (.int .i64 fk)).set 1 (.int .i64 fa), (((((hb.setCell (p := ⟨w.heap.size + 2, 0, none⟩) (by show w.heap.size ≤ w.heap.size + 2; omega) (.int .i64 mk)).setCell (p := ⟨w.heap.size + 2, 1, none⟩) (by show w.heap.size ≤ w.heap.size + 2; omega) (.int .i64 mn)).setCell (p := ⟨w.heap.size + 2, 2, none⟩) (by show w.heap.size ≤ w.heap.size + 2; omega) (.int .i64 mg)).setCell (p := ⟨w.heap.size + 3, 0, none⟩) (by show w.heap.size ≤ w.heap.size + 3; omega) (.int .i64 fk)).setCell (p := ⟨w.heap.size + 3, 1, none⟩) (by show w.heap.size ≤ w.heap.size + 3; omega) (.int .i64 fa))⟩)
 have HF2 := Lib.hid (show _ ∧ _ ∧ _ from ⟨((((hR.other (a := ⟨w.heap.size + 3, 0, none⟩) (show w.heap.size + 2 ≠ w.heap.size + 3 by omega) (.int .i64 fk)).other (a := ⟨w.heap.size + 3, 1, none⟩) (show w.heap.size + 2 ≠ w.heap.size + 3 by omega) (.int .i64 fa)).set 0 (.int .i64 mk)).set 1 (.int .i64 mn)).set 2 (.int .i64 mg), ((((hL.set 0 (.int .i64 fk)).set 1 (.int .i64 fa)).other (a := ⟨w.heap.size + 2, 0, none⟩) (show w.heap.size + 3 ≠ w.heap.size + 2 by omega) (.int .i64 mk)).other (a := ⟨w.heap.size + 2, 1, none⟩) (show w.heap.size + 3 ≠ w.heap.size + 2 by omega) (.int .i64 mn)).other (a := ⟨w.heap.size + 2, 2, none⟩) (show w.heap.size + 3 ≠ w.heap.size + 2 by omega) (.int .i64 mg), (((((hb.setCell (p := ⟨w.heap.size + 3, 0, none⟩) (by show w.heap.size ≤ w.heap.size + 3; omega) (.int .i64 fk)).setCell (p := ⟨w.heap.size + 3, 1, none⟩) (by show w.heap.size ≤ w.heap.size + 3; omega) (.int .i64 fa)).setCell (p := ⟨w.heap.size + 2, 0, none⟩) (by show w.heap.size ≤ w.heap.size + 2; omega) (.int .i64 mk)).setCell (p := ⟨w.heap.size + 2, 1, none⟩) (by show w.heap.size ≤ w.heap.size + 2; omega) (.int .i64 mn)).setCell (p := ⟨w.heap.size + 2, 2, none⟩) (by show w.heap.size ≤ w.heap.size + 2; omega) (.int .i64 mg))⟩)
 have HQ := Lib.hid hQ
 clear hF hC hM hR hL hb hQ
 conv => arg 2; whnf
 go_region
 all_goals
  first
   | exact HQ.out _ _ _ ⟨HF.out.1, HF.out.2.1, HF.out.2.2.drew⟩
   | exact HQ.out _ _ _ ⟨HF2.out.1, HF2.out.2.1, HF2.out.2.2.drew⟩
set_option maxRecDepth 100000 in
set_option maxHeartbeats 2000000 in
theorem efound_102 (fk fa a b op e : Int) (w : World) : Calls Try.prog 221 #[.agg #[.int .i64 fk, .int .i64 fa], .agg #[.int .i64 a, .int .i64 b, .int .i64 op, .int .i64 102, .int .i64 e]] w (FnPost 102 a e 102 e 0 w) := by
 obtain ⟨hF, hC, hR, hL, hb, hsz⟩ := fourC w #[.int .i64 fk, .int .i64 fa] #[.int .i64 a, .int .i64 b, .int .i64 op, .int .i64 102, .int .i64 e] #[.int .i64 0, .int .i64 0, .int .i64 0] #[.int .i64 0, .int .i64 0] 135 80 227 135
 go_enter Try.func221, Try.ntmps221
 go_upto_region 1 with fail
 generalize ((((w.alloc (.cells #[.int .i64 fk, .int .i64 fa] 135)).alloc (.cells #[.int .i64 a, .int .i64 b, .int .i64 op, .int .i64 102, .int .i64 e] 80)).alloc (.cells #[.int .i64 0, .int .i64 0, .int .i64 0] 227)).alloc (.cells #[.int .i64 0, .int .i64 0] 135)) = w1 at *
 obtain ⟨c0, c1, c2, c3, c4⟩ := hC.five
 have hM := Blk.new w1 #[.int .i64 102, .int .i64 a, .int .i64 e] 227
 rw [hsz] at hM
 have hF := hF.alloc (.cells #[.int .i64 102, .int .i64 a, .int .i64 e] 227)
 have hC := hC.alloc (.cells #[.int .i64 102, .int .i64 a, .int .i64 e] 227)
 have hR := hR.alloc (.cells #[.int .i64 102, .int .i64 a, .int .i64 e] 227)
 have hL := hL.alloc (.cells #[.int .i64 102, .int .i64 a, .int .i64 e] 227)
 have hb := hb.alloc hb.size (.cells #[.int .i64 102, .int .i64 a, .int .i64 e] 227)
 go_upto_region 2 with fail
 clear c0 c1 c2 c3 c4
 generalize (w1.alloc (.cells #[.int .i64 102, .int .i64 a, .int .i64 e] 227)) = w2 at *
 obtain ⟨c0, c1, c2, c3, c4⟩ := hC.five
 obtain ⟨p0, p1, -, -⟩ := hF.two
 obtain ⟨m0, m1, m2, q0, q1, q2⟩ := hM.three
 obtain ⟨d0, d1, d2, g0, g1, g2⟩ := hR.three
 obtain ⟨l0, l1, t0, t1⟩ := hL.two
 go_upto_region 7 with fail
 refine found_r7 fk fa a b op 102 e 102 a e w _ hF hC hR hL hM hb ?_
 clear hF hC hM hR hL hb
 intro x22 x23 x24 x25 x26 x27 w9 hq
 obtain ⟨hR, hL, hb⟩ := hq
 clear c0 c1 c2 c3 c4 p0 p1 m0 m1 m2 q0 q1 q2 d0 d1 d2 g0 g1 g2 l0 l1 t0 t1
 obtain ⟨y0, y1, y2, -, -, -⟩ := Blk.three hR
 obtain ⟨x0, x1, -, -⟩ := Blk.two hL
 dsimp only [Exit.then]
 go_wp2
 refine bodyPost_ret (v := .tuple #[.agg #[.int .i64 102, .int .i64 a, .int .i64 e], .agg #[.int .i64 102, .int .i64 e], .int .i64 0]) (by simp [results, Try.results221, go_sem, y0, y1, y2, x0, x1]) rfl ?_
 exact ⟨rfl, hb⟩
set_option maxRecDepth 100000 in
set_option maxHeartbeats 2000000 in
theorem efound_70 (fk fa a b op e : Int) (w : World) : Calls Try.prog 221 #[.agg #[.int .i64 fk, .int .i64 fa], .agg #[.int .i64 a, .int .i64 b, .int .i64 op, .int .i64 70, .int .i64 e]] w (FnPost 70 a e 70 e 0 w) := by
 obtain ⟨hF, hC, hR, hL, hb, hsz⟩ := fourC w #[.int .i64 fk, .int .i64 fa] #[.int .i64 a, .int .i64 b, .int .i64 op, .int .i64 70, .int .i64 e] #[.int .i64 0, .int .i64 0, .int .i64 0] #[.int .i64 0, .int .i64 0] 135 80 227 135
 go_enter Try.func221, Try.ntmps221
 go_upto_region 1 with fail
 generalize ((((w.alloc (.cells #[.int .i64 fk, .int .i64 fa] 135)).alloc (.cells #[.int .i64 a, .int .i64 b, .int .i64 op, .int .i64 70, .int .i64 e] 80)).alloc (.cells #[.int .i64 0, .int .i64 0, .int .i64 0] 227)).alloc (.cells #[.int .i64 0, .int .i64 0] 135)) = w1 at *
 obtain ⟨c0, c1, c2, c3, c4⟩ := hC.five
 have hM := Blk.new w1 #[.int .i64 70, .int .i64 a, .int .i64 e] 227
 rw [hsz] at hM
 have hF := hF.alloc (.cells #[.int .i64 70, .int .i64 a, .int .i64 e] 227)
 have hC := hC.alloc (.cells #[.int .i64 70, .int .i64 a, .int .i64 e] 227)
 have hR := hR.alloc (.cells #[.int .i64 70, .int .i64 a, .int .i64 e] 227)
 have hL := hL.alloc (.cells #[.int .i64 70, .int .i64 a, .int .i64 e] 227)
 have hb := hb.alloc hb.size (.cells #[.int .i64 70, .int .i64 a, .int .i64 e] 227)
 go_upto_region 2 with fail
 clear c0 c1 c2 c3 c4
 generalize (w1.alloc (.cells #[.int .i64 70, .int .i64 a, .int .i64 e] 227)) = w2 at *
 obtain ⟨c0, c1, c2, c3, c4⟩ := hC.five
 obtain ⟨p0, p1, -, -⟩ := hF.two
 obtain ⟨m0, m1, m2, q0, q1, q2⟩ := hM.three
 obtain ⟨d0, d1, d2, g0, g1, g2⟩ := hR.three
 obtain ⟨l0, l1, t0, t1⟩ := hL.two
 go_upto_region 7 with fail
 refine found_r7 fk fa a b op 70 e 70 a e w _ hF hC hR hL hM hb ?_
 clear hF hC hM hR hL hb
 intro x22 x23 x24 x25 x26 x27 w9 hq
 obtain ⟨hR, hL, hb⟩ := hq
 clear c0 c1 c2 c3 c4 p0 p1 m0 m1 m2 q0 q1 q2 d0 d1 d2 g0 g1 g2 l0 l1 t0 t1
 obtain ⟨y0, y1, y2, -, -, -⟩ := Blk.three hR
 obtain ⟨x0, x1, -, -⟩ := Blk.two hL
 dsimp only [Exit.then]
 go_wp2
 refine bodyPost_ret (v := .tuple #[.agg #[.int .i64 70, .int .i64 a, .int .i64 e], .agg #[.int .i64 70, .int .i64 e], .int .i64 0]) (by simp [results, Try.results221, go_sem, y0, y1, y2, x0, x1]) rfl ?_
 exact ⟨rfl, hb⟩
set_option maxRecDepth 100000 in
set_option maxHeartbeats 2000000 in
theorem efound_116 (fk fa a b op e : Int) (w : World) : Calls Try.prog 221 #[.agg #[.int .i64 fk, .int .i64 fa], .agg #[.int .i64 a, .int .i64 b, .int .i64 op, .int .i64 116, .int .i64 e]] w (FnPost 116 a e 116 e 0 w) := by
 obtain ⟨hF, hC, hR, hL, hb, hsz⟩ := fourC w #[.int .i64 fk, .int .i64 fa] #[.int .i64 a, .int .i64 b, .int .i64 op, .int .i64 116, .int .i64 e] #[.int .i64 0, .int .i64 0, .int .i64 0] #[.int .i64 0, .int .i64 0] 135 80 227 135
 go_enter Try.func221, Try.ntmps221
 go_upto_region 1 with fail
 generalize ((((w.alloc (.cells #[.int .i64 fk, .int .i64 fa] 135)).alloc (.cells #[.int .i64 a, .int .i64 b, .int .i64 op, .int .i64 116, .int .i64 e] 80)).alloc (.cells #[.int .i64 0, .int .i64 0, .int .i64 0] 227)).alloc (.cells #[.int .i64 0, .int .i64 0] 135)) = w1 at *
 obtain ⟨c0, c1, c2, c3, c4⟩ := hC.five
 have hM := Blk.new w1 #[.int .i64 116, .int .i64 a, .int .i64 e] 227
 rw [hsz] at hM
 have hF := hF.alloc (.cells #[.int .i64 116, .int .i64 a, .int .i64 e] 227)
 have hC := hC.alloc (.cells #[.int .i64 116, .int .i64 a, .int .i64 e] 227)
 have hR := hR.alloc (.cells #[.int .i64 116, .int .i64 a, .int .i64 e] 227)
 have hL := hL.alloc (.cells #[.int .i64 116, .int .i64 a, .int .i64 e] 227)
 have hb := hb.alloc hb.size (.cells #[.int .i64 116, .int .i64 a, .int .i64 e] 227)
 go_upto_region 2 with fail
 clear c0 c1 c2 c3 c4
 generalize (w1.alloc (.cells #[.int .i64 116, .int .i64 a, .int .i64 e] 227)) = w2 at *
 obtain ⟨c0, c1, c2, c3, c4⟩ := hC.five
 obtain ⟨p0, p1, -, -⟩ := hF.two
 obtain ⟨m0, m1, m2, q0, q1, q2⟩ := hM.three
 obtain ⟨d0, d1, d2, g0, g1, g2⟩ := hR.three
 obtain ⟨l0, l1, t0, t1⟩ := hL.two
 go_upto_region 7 with fail
 refine found_r7 fk fa a b op 116 e 116 a e w _ hF hC hR hL hM hb ?_
 clear hF hC hM hR hL hb
 intro x22 x23 x24 x25 x26 x27 w9 hq
 obtain ⟨hR, hL, hb⟩ := hq
 clear c0 c1 c2 c3 c4 p0 p1 m0 m1 m2 q0 q1 q2 d0 d1 d2 g0 g1 g2 l0 l1 t0 t1
 obtain ⟨y0, y1, y2, -, -, -⟩ := Blk.three hR
 obtain ⟨x0, x1, -, -⟩ := Blk.two hL
 dsimp only [Exit.then]
 go_wp2
 refine bodyPost_ret (v := .tuple #[.agg #[.int .i64 116, .int .i64 a, .int .i64 e], .agg #[.int .i64 116, .int .i64 e], .int .i64 0]) (by simp [results, Try.results221, go_sem, y0, y1, y2, x0, x1]) rfl ?_
 exact ⟨rfl, hb⟩
set_option maxRecDepth 100000 in
set_option maxHeartbeats 2000000 in
theorem efound_84 (fk fa a b op e : Int) (w : World) : Calls Try.prog 221 #[.agg #[.int .i64 fk, .int .i64 fa], .agg #[.int .i64 a, .int .i64 b, .int .i64 op, .int .i64 84, .int .i64 e]] w (FnPost 84 a e 84 e 0 w) := by
 obtain ⟨hF, hC, hR, hL, hb, hsz⟩ := fourC w #[.int .i64 fk, .int .i64 fa] #[.int .i64 a, .int .i64 b, .int .i64 op, .int .i64 84, .int .i64 e] #[.int .i64 0, .int .i64 0, .int .i64 0] #[.int .i64 0, .int .i64 0] 135 80 227 135
 go_enter Try.func221, Try.ntmps221
 go_upto_region 1 with fail
 generalize ((((w.alloc (.cells #[.int .i64 fk, .int .i64 fa] 135)).alloc (.cells #[.int .i64 a, .int .i64 b, .int .i64 op, .int .i64 84, .int .i64 e] 80)).alloc (.cells #[.int .i64 0, .int .i64 0, .int .i64 0] 227)).alloc (.cells #[.int .i64 0, .int .i64 0] 135)) = w1 at *
 obtain ⟨c0, c1, c2, c3, c4⟩ := hC.five
 have hM := Blk.new w1 #[.int .i64 84, .int .i64 a, .int .i64 e] 227
 rw [hsz] at hM
 have hF := hF.alloc (.cells #[.int .i64 84, .int .i64 a, .int .i64 e] 227)
 have hC := hC.alloc (.cells #[.int .i64 84, .int .i64 a, .int .i64 e] 227)
 have hR := hR.alloc (.cells #[.int .i64 84, .int .i64 a, .int .i64 e] 227)
 have hL := hL.alloc (.cells #[.int .i64 84, .int .i64 a, .int .i64 e] 227)
 have hb := hb.alloc hb.size (.cells #[.int .i64 84, .int .i64 a, .int .i64 e] 227)
 go_upto_region 2 with fail
 clear c0 c1 c2 c3 c4
 generalize (w1.alloc (.cells #[.int .i64 84, .int .i64 a, .int .i64 e] 227)) = w2 at *
 obtain ⟨c0, c1, c2, c3, c4⟩ := hC.five
 obtain ⟨p0, p1, -, -⟩ := hF.two
 obtain ⟨m0, m1, m2, q0, q1, q2⟩ := hM.three
 obtain ⟨d0, d1, d2, g0, g1, g2⟩ := hR.three
 obtain ⟨l0, l1, t0, t1⟩ := hL.two
 go_upto_region 7 with fail
 refine found_r7 fk fa a b op 84 e 84 a e w _ hF hC hR hL hM hb ?_
 clear hF hC hM hR hL hb
 intro x22 x23 x24 x25 x26 x27 w9 hq
 obtain ⟨hR, hL, hb⟩ := hq
 clear c0 c1 c2 c3 c4 p0 p1 m0 m1 m2 q0 q1 q2 d0 d1 d2 g0 g1 g2 l0 l1 t0 t1
 obtain ⟨y0, y1, y2, -, -, -⟩ := Blk.three hR
 obtain ⟨x0, x1, -, -⟩ := Blk.two hL
 dsimp only [Exit.then]
 go_wp2
 refine bodyPost_ret (v := .tuple #[.agg #[.int .i64 84, .int .i64 a, .int .i64 e], .agg #[.int .i64 84, .int .i64 e], .int .i64 0]) (by simp [results, Try.results221, go_sem, y0, y1, y2, x0, x1]) rfl ?_
 exact ⟨rfl, hb⟩
set_option maxRecDepth 100000 in
set_option maxHeartbeats 2000000 in
theorem efound_plain (fk fa a b op d e : Int) (w : World) (h102 : d ≠ 102) (h70 : d ≠ 70) (h116 : d ≠ 116) (h84 : d ≠ 84) (h59 : d ≠ 59) (h44 : d ≠ 44) : Calls Try.prog 221 #[.agg #[.int .i64 fk, .int .i64 fa], .agg #[.int .i64 a, .int .i64 b, .int .i64 op, .int .i64 d, .int .i64 e]] w (FnPost d a e fk fa 0 w) := by
 have n102 : (d == 102) = false := by simpa using h102
 have n70 : (d == 70) = false := by simpa using h70
 have n116 : (d == 116) = false := by simpa using h116
 have n84 : (d == 84) = false := by simpa using h84
 have n59 : (d == 59) = false := by simpa using h59
 have n44 : (d == 44) = false := by simpa using h44
 clear h102 h70 h116 h84 h59 h44
 obtain ⟨hF, hC, hR, hL, hb, hsz⟩ := fourC w #[.int .i64 fk, .int .i64 fa] #[.int .i64 a, .int .i64 b, .int .i64 op, .int .i64 d, .int .i64 e] #[.int .i64 0, .int .i64 0, .int .i64 0] #[.int .i64 0, .int .i64 0] 135 80 227 135
 go_enter Try.func221, Try.ntmps221
 go_upto_region 1 with fail
 generalize ((((w.alloc (.cells #[.int .i64 fk, .int .i64 fa] 135)).alloc (.cells #[.int .i64 a, .int .i64 b, .int .i64 op, .int .i64 d, .int .i64 e] 80)).alloc (.cells #[.int .i64 0, .int .i64 0, .int .i64 0] 227)).alloc (.cells #[.int .i64 0, .int .i64 0] 135)) = w1 at *
 obtain ⟨c0, c1, c2, c3, c4⟩ := hC.five
 have hM := Blk.new w1 #[.int .i64 d, .int .i64 a, .int .i64 e] 227
 rw [hsz] at hM
 have hF := hF.alloc (.cells #[.int .i64 d, .int .i64 a, .int .i64 e] 227)
 have hC := hC.alloc (.cells #[.int .i64 d, .int .i64 a, .int .i64 e] 227)
 have hR := hR.alloc (.cells #[.int .i64 d, .int .i64 a, .int .i64 e] 227)
 have hL := hL.alloc (.cells #[.int .i64 d, .int .i64 a, .int .i64 e] 227)
 have hb := hb.alloc hb.size (.cells #[.int .i64 d, .int .i64 a, .int .i64 e] 227)
 go_upto_region 2 with fail
 clear c0 c1 c2 c3 c4
 generalize (w1.alloc (.cells #[.int .i64 d, .int .i64 a, .int .i64 e] 227)) = w2 at *
 obtain ⟨c0, c1, c2, c3, c4⟩ := hC.five
 obtain ⟨p0, p1, -, -⟩ := hF.two
 obtain ⟨m0, m1, m2, q0, q1, q2⟩ := hM.three
 obtain ⟨d0, d1, d2, g0, g1, g2⟩ := hR.three
 obtain ⟨l0, l1, t0, t1⟩ := hL.two
 go_upto_region 15 with fail
 refine found_r15 fk fa a b op d e d a e w _ hF hC hR hL hM hb ?_
 clear hF hC hM hR hL hb
 intro x49 x50 w9 hq
 obtain ⟨hR, hL, hb⟩ := hq
 clear c0 c1 c2 c3 c4 p0 p1 m0 m1 m2 q0 q1 q2 d0 d1 d2 g0 g1 g2 l0 l1 t0 t1
 obtain ⟨y0, y1, y2, -, -, -⟩ := Blk.three hR
 obtain ⟨x0, x1, -, -⟩ := Blk.two hL
 dsimp only [Exit.then]
 go_wp2
 refine bodyPost_ret (v := .tuple #[.agg #[.int .i64 d, .int .i64 a, .int .i64 e], .agg #[.int .i64 fk, .int .i64 fa], .int .i64 0]) (by simp [results, Try.results221, go_sem, y0, y1, y2, x0, x1]) rfl ?_
 exact ⟨rfl, hb⟩
set_option maxRecDepth 100000 in
set_option maxHeartbeats 2000000 in
theorem efound_none59 (fa a b op e : Int) (w : World) : Calls Try.prog 221 #[.agg #[.int .i64 0, .int .i64 fa], .agg #[.int .i64 a, .int .i64 b, .int .i64 op, .int .i64 59, .int .i64 e]] w (FnPost 59 a e 0 fa 5 w) := by
 obtain ⟨hF, hC, hR, hL, hb, hsz⟩ := fourC w #[.int .i64 0, .int .i64 fa] #[.int .i64 a, .int .i64 b, .int .i64 op, .int .i64 59, .int .i64 e] #[.int .i64 0, .int .i64 0, .int .i64 0] #[.int .i64 0, .int .i64 0] 135 80 227 135
 go_enter Try.func221, Try.ntmps221
 go_upto_region 1 with fail
 generalize ((((w.alloc (.cells #[.int .i64 0, .int .i64 fa] 135)).alloc (.cells #[.int .i64 a, .int .i64 b, .int .i64 op, .int .i64 59, .int .i64 e] 80)).alloc (.cells #[.int .i64 0, .int .i64 0, .int .i64 0] 227)).alloc (.cells #[.int .i64 0, .int .i64 0] 135)) = w1 at *
 obtain ⟨c0, c1, c2, c3, c4⟩ := hC.five
 have hM := Blk.new w1 #[.int .i64 59, .int .i64 a, .int .i64 e] 227
 rw [hsz] at hM
 have hF := hF.alloc (.cells #[.int .i64 59, .int .i64 a, .int .i64 e] 227)
 have hC := hC.alloc (.cells #[.int .i64 59, .int .i64 a, .int .i64 e] 227)
 have hR := hR.alloc (.cells #[.int .i64 59, .int .i64 a, .int .i64 e] 227)
 have hL := hL.alloc (.cells #[.int .i64 59, .int .i64 a, .int .i64 e] 227)
 have hb := hb.alloc hb.size (.cells #[.int .i64 59, .int .i64 a, .int .i64 e] 227)
 go_upto_region 2 with fail
 clear c0 c1 c2 c3 c4
 generalize (w1.alloc (.cells #[.int .i64 59, .int .i64 a, .int .i64 e] 227)) = w2 at *
 obtain ⟨c0, c1, c2, c3, c4⟩ := hC.five
 obtain ⟨p0, p1, -, -⟩ := hF.two
 obtain ⟨m0, m1, m2, q0, q1, q2⟩ := hM.three
 obtain ⟨d0, d1, d2, g0, g1, g2⟩ := hR.three
 obtain ⟨l0, l1, t0, t1⟩ := hL.two
 go_upto_region 11 with fail
 refine found_r11 0 fa a b op 59 e 59 a e w _ hF hC hR hL hM hb ?_
 clear hF hC hM hR hL hb
 intro x34 x35 w9 hq
 obtain ⟨hR, hL, hb⟩ := hq
 clear c0 c1 c2 c3 c4 p0 p1 m0 m1 m2 q0 q1 q2 d0 d1 d2 g0 g1 g2 l0 l1 t0 t1
 obtain ⟨y0, y1, y2, -, -, -⟩ := Blk.three hR
 obtain ⟨x0, x1, -, -⟩ := Blk.two hL
 dsimp only [Exit.then]
 go_wp2
 refine bodyPost_ret (v := .tuple #[.agg #[.int .i64 59, .int .i64 a, .int .i64 e], .agg #[.int .i64 0, .int .i64 fa], .int .i64 5]) (by simp [results, Try.results221, go_sem, y0, y1, y2, x0, x1]) rfl ?_
 exact ⟨rfl, hb⟩
set_option maxRecDepth 100000 in
set_option maxHeartbeats 2000000 in
theorem efound_none44 (fa a b op e : Int) (w : World) : Calls Try.prog 221 #[.agg #[.int .i64 0, .int .i64 fa], .agg #[.int .i64 a, .int .i64 b, .int .i64 op, .int .i64 44, .int .i64 e]] w (FnPost 44 a e 0 fa 5 w) := by
 obtain ⟨hF, hC, hR, hL, hb, hsz⟩ := fourC w #[.int .i64 0, .int .i64 fa] #[.int .i64 a, .int .i64 b, .int .i64 op, .int .i64 44, .int .i64 e] #[.int .i64 0, .int .i64 0, .int .i64 0] #[.int .i64 0, .int .i64 0] 135 80 227 135
 go_enter Try.func221, Try.ntmps221
 go_upto_region 1 with fail
 generalize ((((w.alloc (.cells #[.int .i64 0, .int .i64 fa] 135)).alloc (.cells #[.int .i64 a, .int .i64 b, .int .i64 op, .int .i64 44, .int .i64 e] 80)).alloc (.cells #[.int .i64 0, .int .i64 0, .int .i64 0] 227)).alloc (.cells #[.int .i64 0, .int .i64 0] 135)) = w1 at *
 obtain ⟨c0, c1, c2, c3, c4⟩ := hC.five
 have hM := Blk.new w1 #[.int .i64 44, .int .i64 a, .int .i64 e] 227
 rw [hsz] at hM
 have hF := hF.alloc (.cells #[.int .i64 44, .int .i64 a, .int .i64 e] 227)
 have hC := hC.alloc (.cells #[.int .i64 44, .int .i64 a, .int .i64 e] 227)
 have hR := hR.alloc (.cells #[.int .i64 44, .int .i64 a, .int .i64 e] 227)
 have hL := hL.alloc (.cells #[.int .i64 44, .int .i64 a, .int .i64 e] 227)
 have hb := hb.alloc hb.size (.cells #[.int .i64 44, .int .i64 a, .int .i64 e] 227)
 go_upto_region 2 with fail
 clear c0 c1 c2 c3 c4
 generalize (w1.alloc (.cells #[.int .i64 44, .int .i64 a, .int .i64 e] 227)) = w2 at *
 obtain ⟨c0, c1, c2, c3, c4⟩ := hC.five
 obtain ⟨p0, p1, -, -⟩ := hF.two
 obtain ⟨m0, m1, m2, q0, q1, q2⟩ := hM.three
 obtain ⟨d0, d1, d2, g0, g1, g2⟩ := hR.three
 obtain ⟨l0, l1, t0, t1⟩ := hL.two
 go_upto_region 11 with fail
 refine found_r11 0 fa a b op 44 e 44 a e w _ hF hC hR hL hM hb ?_
 clear hF hC hM hR hL hb
 intro x34 x35 w9 hq
 obtain ⟨hR, hL, hb⟩ := hq
 clear c0 c1 c2 c3 c4 p0 p1 m0 m1 m2 q0 q1 q2 d0 d1 d2 g0 g1 g2 l0 l1 t0 t1
 obtain ⟨y0, y1, y2, -, -, -⟩ := Blk.three hR
 obtain ⟨x0, x1, -, -⟩ := Blk.two hL
 dsimp only [Exit.then]
 go_wp2
 refine bodyPost_ret (v := .tuple #[.agg #[.int .i64 44, .int .i64 a, .int .i64 e], .agg #[.int .i64 0, .int .i64 fa], .int .i64 5]) (by simp [results, Try.results221, go_sem, y0, y1, y2, x0, x1]) rfl ?_
 exact ⟨rfl, hb⟩
set_option maxRecDepth 100000 in
set_option maxHeartbeats 2000000 in
theorem efound_semi (fk fa a b op e : Int) (w : World) (h : fk ≠ 0) : Calls Try.prog 221 #[.agg #[.int .i64 fk, .int .i64 fa], .agg #[.int .i64 a, .int .i64 b, .int .i64 op, .int .i64 59, .int .i64 e]] w (FnPost fk a fa fk fa 0 w) := by
 have n0 : (fk == 0) = false := by simpa using h
 clear h
 obtain ⟨hF, hC, hR, hL, hb, hsz⟩ := fourC w #[.int .i64 fk, .int .i64 fa] #[.int .i64 a, .int .i64 b, .int .i64 op, .int .i64 59, .int .i64 e] #[.int .i64 0, .int .i64 0, .int .i64 0] #[.int .i64 0, .int .i64 0] 135 80 227 135
 go_enter Try.func221, Try.ntmps221
 go_upto_region 1 with fail
 generalize ((((w.alloc (.cells #[.int .i64 fk, .int .i64 fa] 135)).alloc (.cells #[.int .i64 a, .int .i64 b, .int .i64 op, .int .i64 59, .int .i64 e] 80)).alloc (.cells #[.int .i64 0, .int .i64 0, .int .i64 0] 227)).alloc (.cells #[.int .i64 0, .int .i64 0] 135)) = w1 at *
 obtain ⟨c0, c1, c2, c3, c4⟩ := hC.five
 have hM := Blk.new w1 #[.int .i64 59, .int .i64 a, .int .i64 e] 227
 rw [hsz] at hM
 have hF := hF.alloc (.cells #[.int .i64 59, .int .i64 a, .int .i64 e] 227)
 have hC := hC.alloc (.cells #[.int .i64 59, .int .i64 a, .int .i64 e] 227)
 have hR := hR.alloc (.cells #[.int .i64 59, .int .i64 a, .int .i64 e] 227)
 have hL := hL.alloc (.cells #[.int .i64 59, .int .i64 a, .int .i64 e] 227)
 have hb := hb.alloc hb.size (.cells #[.int .i64 59, .int .i64 a, .int .i64 e] 227)
 go_upto_region 2 with fail
 clear c0 c1 c2 c3 c4
 generalize (w1.alloc (.cells #[.int .i64 59, .int .i64 a, .int .i64 e] 227)) = w2 at *
 obtain ⟨c0, c1, c2, c3, c4⟩ := hC.five
 obtain ⟨p0, p1, -, -⟩ := hF.two
 obtain ⟨m0, m1, m2, q0, q1, q2⟩ := hM.three
 obtain ⟨d0, d1, d2, g0, g1, g2⟩ := hR.three
 obtain ⟨l0, l1, t0, t1⟩ := hL.two
 go_upto_region 12 with fail
 go_cut [41] (fun v wx => Blk wx w.heap.size #[.int .i64 fk, .int .i64 fa] 135 ∧ Blk wx (w.heap.size + 1) #[.int .i64 a, .int .i64 b, .int .i64 op, .int .i64 59, .int .i64 e] 80 ∧ Blk wx (w.heap.size + 2) #[.int .i64 0, .int .i64 0, .int .i64 0] 227 ∧ Blk wx (w.heap.size + 3) #[.int .i64 0, .int .i64 0] 135 ∧ Blk wx (w.heap.size + 4) #[.int .i64 fk, .int .i64 a, .int .i64 fa] 227 ∧ Below w.heap.size w wx)
 case first =>
  have HF := Lib.hid (show _ ∧ _ ∧ _ ∧ _ ∧ _ ∧ _ from ⟨((hF.other (a := ⟨w.heap.size + 4, 0, none⟩) (show w.heap.size ≠ w.heap.size + 4 by omega) (.int .i64 fk)).other (a := ⟨w.heap.size + 4, 2, none⟩) (show w.heap.size ≠ w.heap.size + 4 by omega) (.int .i64 fa)), ((hC.other (a := ⟨w.heap.size + 4, 0, none⟩) (show w.heap.size + 1 ≠ w.heap.size + 4 by omega) (.int .i64 fk)).other (a := ⟨w.heap.size + 4, 2, none⟩) (show w.heap.size + 1 ≠ w.heap.size + 4 by omega) (.int .i64 fa)), ((hR.other (a := ⟨w.heap.size + 4, 0, none⟩) (show w.heap.size + 2 ≠ w.heap.size + 4 by omega) (.int .i64 fk)).other (a := ⟨w.heap.size + 4, 2, none⟩) (show w.heap.size + 2 ≠ w.heap.size + 4 by omega) (.int .i64 fa)), ((hL.other (a := ⟨w.heap.size + 4, 0, none⟩) (show w.heap.size + 3 ≠ w.heap.size + 4 by omega) (.int .i64 fk)).other (a := ⟨w.heap.size + 4, 2, none⟩) (show w.heap.size + 3 ≠ w.heap.size + 4 by omega) (.int .i64 fa)), (hM.set 0 (.int .i64 fk)).set 2 (.int .i64 fa), (hb.setCell (p := ⟨w.heap.size + 4, 0, none⟩) (by show w.heap.size ≤ w.heap.size + 4; omega) (.int .i64 fk)).setCell (p := ⟨w.heap.size + 4, 2, none⟩) (by show w.heap.size ≤ w.heap.size + 4; omega) (.int .i64 fa)⟩)
  clear hF hC hM hR hL hb
  go_region
  all_goals
   go_wp2
   go_meet
   exact ⟨HF.out.1, HF.out.2.1, HF.out.2.2.1, HF.out.2.2.2.1, HF.out.2.2.2.2.1, HF.out.2.2.2.2.2.drew⟩
 obtain ⟨hF, hC, hR, hL, hM, hb⟩ := hcut
 clear c0 c1 c2 c3 c4 p0 p1 m0 m1 m2 q0 q1 q2 d0 d1 d2 g0 g1 g2 l0 l1 t0 t1
 obtain ⟨c0, c1, c2, c3, c4⟩ := hC.five
 obtain ⟨p0, p1, -, -⟩ := hF.two
 obtain ⟨m0, m1, m2, q0, q1, q2⟩ := hM.three
 obtain ⟨d0, d1, d2, g0, g1, g2⟩ := hR.three
 obtain ⟨l0, l1, t0, t1⟩ := hL.two
 go_upto_region 15 with fail
 refine found_r15 fk fa a b op 59 e fk a fa w _ hF hC hR hL hM hb ?_
 clear hF hC hM hR hL hb
 intro x49 x50 w9 hq
 obtain ⟨hR, hL, hb⟩ := hq
 clear c0 c1 c2 c3 c4 p0 p1 m0 m1 m2 q0 q1 q2 d0 d1 d2 g0 g1 g2 l0 l1 t0 t1
 obtain ⟨y0, y1, y2, -, -, -⟩ := Blk.three hR
 obtain ⟨x0, x1, -, -⟩ := Blk.two hL
 dsimp only [Exit.then]
 go_wp2
 refine bodyPost_ret (v := .tuple #[.agg #[.int .i64 fk, .int .i64 a, .int .i64 fa], .agg #[.int .i64 fk, .int .i64 fa], .int .i64 0]) (by simp [results, Try.results221, go_sem, y0, y1, y2, x0, x1]) rfl ?_
 exact ⟨rfl, hb⟩
set_option maxRecDepth 100000 in
set_option maxHeartbeats 2000000 in
theorem efound_comma102 (fa a b op e : Int) (w : World) : Calls Try.prog 221 #[.agg #[.int .i64 102, .int .i64 fa], .agg #[.int .i64 a, .int .i64 b, .int .i64 op, .int .i64 44, .int .i64 e]] w (FnPost 70 a fa 102 fa 0 w) := by
 have hx : bits BinOp.xor IntKind.i64 102 32 = 70 := by decide
 obtain ⟨hF, hC, hR, hL, hb, hsz⟩ := fourC w #[.int .i64 102, .int .i64 fa] #[.int .i64 a, .int .i64 b, .int .i64 op, .int .i64 44, .int .i64 e] #[.int .i64 0, .int .i64 0, .int .i64 0] #[.int .i64 0, .int .i64 0] 135 80 227 135
 go_enter Try.func221, Try.ntmps221
 go_upto_region 1 with fail
 generalize ((((w.alloc (.cells #[.int .i64 102, .int .i64 fa] 135)).alloc (.cells #[.int .i64 a, .int .i64 b, .int .i64 op, .int .i64 44, .int .i64 e] 80)).alloc (.cells #[.int .i64 0, .int .i64 0, .int .i64 0] 227)).alloc (.cells #[.int .i64 0, .int .i64 0] 135)) = w1 at *
 obtain ⟨c0, c1, c2, c3, c4⟩ := hC.five
 have hM := Blk.new w1 #[.int .i64 44, .int .i64 a, .int .i64 e] 227
 rw [hsz] at hM
 have hF := hF.alloc (.cells #[.int .i64 44, .int .i64 a, .int .i64 e] 227)
 have hC := hC.alloc (.cells #[.int .i64 44, .int .i64 a, .int .i64 e] 227)
 have hR := hR.alloc (.cells #[.int .i64 44, .int .i64 a, .int .i64 e] 227)
 have hL := hL.alloc (.cells #[.int .i64 44, .int .i64 a, .int .i64 e] 227)
 have hb := hb.alloc hb.size (.cells #[.int .i64 44, .int .i64 a, .int .i64 e] 227)
 go_upto_region 2 with fail
 clear c0 c1 c2 c3 c4
 generalize (w1.alloc (.cells #[.int .i64 44, .int .i64 a, .int .i64 e] 227)) = w2 at *
 obtain ⟨c0, c1, c2, c3, c4⟩ := hC.five
 obtain ⟨p0, p1, -, -⟩ := hF.two
 obtain ⟨m0, m1, m2, q0, q1, q2⟩ := hM.three
 obtain ⟨d0, d1, d2, g0, g1, g2⟩ := hR.three
 obtain ⟨l0, l1, t0, t1⟩ := hL.two
 go_upto_region 12 with fail
 go_cut [41] (fun v wx => Blk wx w.heap.size #[.int .i64 102, .int .i64 fa] 135 ∧ Blk wx (w.heap.size + 1) #[.int .i64 a, .int .i64 b, .int .i64 op, .int .i64 44, .int .i64 e] 80 ∧ Blk wx (w.heap.size + 2) #[.int .i64 0, .int .i64 0, .int .i64 0] 227 ∧ Blk wx (w.heap.size + 3) #[.int .i64 0, .int .i64 0] 135 ∧ Blk wx (w.heap.size + 4) #[.int .i64 102, .int .i64 a, .int .i64 fa] 227 ∧ Below w.heap.size w wx)
 case first =>
  have HF := Lib.hid (show _ ∧ _ ∧ _ ∧ _ ∧ _ ∧ _ from ⟨((hF.other (a := ⟨w.heap.size + 4, 0, none⟩) (show w.heap.size ≠ w.heap.size + 4 by omega) (.int .i64 102)).other (a := ⟨w.heap.size + 4, 2, none⟩) (show w.heap.size ≠ w.heap.size + 4 by omega) (.int .i64 fa)), ((hC.other (a := ⟨w.heap.size + 4, 0, none⟩) (show w.heap.size + 1 ≠ w.heap.size + 4 by omega) (.int .i64 102)).other (a := ⟨w.heap.size + 4, 2, none⟩) (show w.heap.size + 1 ≠ w.heap.size + 4 by omega) (.int .i64 fa)), ((hR.other (a := ⟨w.heap.size + 4, 0, none⟩) (show w.heap.size + 2 ≠ w.heap.size + 4 by omega) (.int .i64 102)).other (a := ⟨w.heap.size + 4, 2, none⟩) (show w.heap.size + 2 ≠ w.heap.size + 4 by omega) (.int .i64 fa)), ((hL.other (a := ⟨w.heap.size + 4, 0, none⟩) (show w.heap.size + 3 ≠ w.heap.size + 4 by omega) (.int .i64 102)).other (a := ⟨w.heap.size + 4, 2, none⟩) (show w.heap.size + 3 ≠ w.heap.size + 4 by omega) (.int .i64 fa)), (hM.set 0 (.int .i64 102)).set 2 (.int .i64 fa), (hb.setCell (p := ⟨w.heap.size + 4, 0, none⟩) (by show w.heap.size ≤ w.heap.size + 4; omega) (.int .i64 102)).setCell (p := ⟨w.heap.size + 4, 2, none⟩) (by show w.heap.size ≤ w.heap.size + 4; omega) (.int .i64 fa)⟩)
  clear hF hC hM hR hL hb
  go_region
  all_goals
   go_wp2
   go_meet
   exact ⟨HF.out.1, HF.out.2.1, HF.out.2.2.1, HF.out.2.2.2.1, HF.out.2.2.2.2.1, HF.out.2.2.2.2.2.drew⟩
 obtain ⟨hF, hC, hR, hL, hM, hb⟩ := hcut
 clear c0 c1 c2 c3 c4 p0 p1 m0 m1 m2 q0 q1 q2 d0 d1 d2 g0 g1 g2 l0 l1 t0 t1
 obtain ⟨c0, c1, c2, c3, c4⟩ := hC.five
 obtain ⟨p0, p1, -, -⟩ := hF.two
 obtain ⟨m0, m1, m2, q0, q1, q2⟩ := hM.three
 obtain ⟨d0, d1, d2, g0, g1, g2⟩ := hR.three
 obtain ⟨l0, l1, t0, t1⟩ := hL.two
 have hF := hF.other (a := ⟨w.heap.size + 4, 0, none⟩) (show w.heap.size ≠ w.heap.size + 4 by omega) (.int .i64 70)
 have hC := hC.other (a := ⟨w.heap.size + 4, 0, none⟩) (show w.heap.size + 1 ≠ w.heap.size + 4 by omega) (.int .i64 70)
 have hR := hR.other (a := ⟨w.heap.size + 4, 0, none⟩) (show w.heap.size + 2 ≠ w.heap.size + 4 by omega) (.int .i64 70)
 have hL := hL.other (a := ⟨w.heap.size + 4, 0, none⟩) (show w.heap.size + 3 ≠ w.heap.size + 4 by omega) (.int .i64 70)
 have hM := hM.set 0 (.int .i64 70)
 have hb := hb.setCell (p := ⟨w.heap.size + 4, 0, none⟩) (by show w.heap.size ≤ w.heap.size + 4; omega) (.int .i64 70)
 go_upto_region 15 with fail
 refine found_r15 102 fa a b op 44 e 70 a fa w _ hF hC hR hL hM hb ?_
 clear hF hC hM hR hL hb
 intro x49 x50 w9 hq
 obtain ⟨hR, hL, hb⟩ := hq
 clear c0 c1 c2 c3 c4 p0 p1 m0 m1 m2 q0 q1 q2 d0 d1 d2 g0 g1 g2 l0 l1 t0 t1
 obtain ⟨y0, y1, y2, -, -, -⟩ := Blk.three hR
 obtain ⟨x0, x1, -, -⟩ := Blk.two hL
 dsimp only [Exit.then]
 go_wp2
 refine bodyPost_ret (v := .tuple #[.agg #[.int .i64 70, .int .i64 a, .int .i64 fa], .agg #[.int .i64 102, .int .i64 fa], .int .i64 0]) (by simp [results, Try.results221, go_sem, y0, y1, y2, x0, x1]) rfl ?_
 exact ⟨rfl, hb⟩
set_option maxRecDepth 100000 in
set_option maxHeartbeats 2000000 in
theorem efound_comma70 (fa a b op e : Int) (w : World) : Calls Try.prog 221 #[.agg #[.int .i64 70, .int .i64 fa], .agg #[.int .i64 a, .int .i64 b, .int .i64 op, .int .i64 44, .int .i64 e]] w (FnPost 102 a fa 70 fa 0 w) := by
 have hx : bits BinOp.xor IntKind.i64 70 32 = 102 := by decide
 obtain ⟨hF, hC, hR, hL, hb, hsz⟩ := fourC w #[.int .i64 70, .int .i64 fa] #[.int .i64 a, .int .i64 b, .int .i64 op, .int .i64 44, .int .i64 e] #[.int .i64 0, .int .i64 0, .int .i64 0] #[.int .i64 0, .int .i64 0] 135 80 227 135
 go_enter Try.func221, Try.ntmps221
 go_upto_region 1 with fail
 generalize ((((w.alloc (.cells #[.int .i64 70, .int .i64 fa] 135)).alloc (.cells #[.int .i64 a, .int .i64 b, .int .i64 op, .int .i64 44, .int .i64 e] 80)).alloc (.cells #[.int .i64 0, .int .i64 0, .int .i64 0] 227)).alloc (.cells #[.int .i64 0, .int .i64 0] 135)) = w1 at *
 obtain ⟨c0, c1, c2, c3, c4⟩ := hC.five
 have hM := Blk.new w1 #[.int .i64 44, .int .i64 a, .int .i64 e] 227
 rw [hsz] at hM
 have hF := hF.alloc (.cells #[.int .i64 44, .int .i64 a, .int .i64 e] 227)
 have hC := hC.alloc (.cells #[.int .i64 44, .int .i64 a, .int .i64 e] 227)
 have hR := hR.alloc (.cells #[.int .i64 44, .int .i64 a, .int .i64 e] 227)
 have hL := hL.alloc (.cells #[.int .i64 44, .int .i64 a, .int .i64 e] 227)
 have hb := hb.alloc hb.size (.cells #[.int .i64 44, .int .i64 a, .int .i64 e] 227)
 go_upto_region 2 with fail
 clear c0 c1 c2 c3 c4
 generalize (w1.alloc (.cells #[.int .i64 44, .int .i64 a, .int .i64 e] 227)) = w2 at *
 obtain ⟨c0, c1, c2, c3, c4⟩ := hC.five
 obtain ⟨p0, p1, -, -⟩ := hF.two
 obtain ⟨m0, m1, m2, q0, q1, q2⟩ := hM.three
 obtain ⟨d0, d1, d2, g0, g1, g2⟩ := hR.three
 obtain ⟨l0, l1, t0, t1⟩ := hL.two
 go_upto_region 12 with fail
 go_cut [41] (fun v wx => Blk wx w.heap.size #[.int .i64 70, .int .i64 fa] 135 ∧ Blk wx (w.heap.size + 1) #[.int .i64 a, .int .i64 b, .int .i64 op, .int .i64 44, .int .i64 e] 80 ∧ Blk wx (w.heap.size + 2) #[.int .i64 0, .int .i64 0, .int .i64 0] 227 ∧ Blk wx (w.heap.size + 3) #[.int .i64 0, .int .i64 0] 135 ∧ Blk wx (w.heap.size + 4) #[.int .i64 70, .int .i64 a, .int .i64 fa] 227 ∧ Below w.heap.size w wx)
 case first =>
  have HF := Lib.hid (show _ ∧ _ ∧ _ ∧ _ ∧ _ ∧ _ from ⟨((hF.other (a := ⟨w.heap.size + 4, 0, none⟩) (show w.heap.size ≠ w.heap.size + 4 by omega) (.int .i64 70)).other (a := ⟨w.heap.size + 4, 2, none⟩) (show w.heap.size ≠ w.heap.size + 4 by omega) (.int .i64 fa)), ((hC.other (a := ⟨w.heap.size + 4, 0, none⟩) (show w.heap.size + 1 ≠ w.heap.size + 4 by omega) (.int .i64 70)).other (a := ⟨w.heap.size + 4, 2, none⟩) (show w.heap.size + 1 ≠ w.heap.size + 4 by omega) (.int .i64 fa)), ((hR.other (a := ⟨w.heap.size + 4, 0, none⟩) (show w.heap.size + 2 ≠ w.heap.size + 4 by omega) (.int .i64 70)).other (a := ⟨w.heap.size + 4, 2, none⟩) (show w.heap.size + 2 ≠ w.heap.size + 4 by omega) (.int .i64 fa)), ((hL.other (a := ⟨w.heap.size + 4, 0, none⟩) (show w.heap.size + 3 ≠ w.heap.size + 4 by omega) (.int .i64 70)).other (a := ⟨w.heap.size + 4, 2, none⟩) (show w.heap.size + 3 ≠ w.heap.size + 4 by omega) (.int .i64 fa)), (hM.set 0 (.int .i64 70)).set 2 (.int .i64 fa), (hb.setCell (p := ⟨w.heap.size + 4, 0, none⟩) (by show w.heap.size ≤ w.heap.size + 4; omega) (.int .i64 70)).setCell (p := ⟨w.heap.size + 4, 2, none⟩) (by show w.heap.size ≤ w.heap.size + 4; omega) (.int .i64 fa)⟩)
  clear hF hC hM hR hL hb
  go_region
  all_goals
   go_wp2
   go_meet
   exact ⟨HF.out.1, HF.out.2.1, HF.out.2.2.1, HF.out.2.2.2.1, HF.out.2.2.2.2.1, HF.out.2.2.2.2.2.drew⟩
 obtain ⟨hF, hC, hR, hL, hM, hb⟩ := hcut
 clear c0 c1 c2 c3 c4 p0 p1 m0 m1 m2 q0 q1 q2 d0 d1 d2 g0 g1 g2 l0 l1 t0 t1
 obtain ⟨c0, c1, c2, c3, c4⟩ := hC.five
 obtain ⟨p0, p1, -, -⟩ := hF.two
 obtain ⟨m0, m1, m2, q0, q1, q2⟩ := hM.three
 obtain ⟨d0, d1, d2, g0, g1, g2⟩ := hR.three
 obtain ⟨l0, l1, t0, t1⟩ := hL.two
 have hF := hF.other (a := ⟨w.heap.size + 4, 0, none⟩) (show w.heap.size ≠ w.heap.size + 4 by omega) (.int .i64 102)
 have hC := hC.other (a := ⟨w.heap.size + 4, 0, none⟩) (show w.heap.size + 1 ≠ w.heap.size + 4 by omega) (.int .i64 102)
 have hR := hR.other (a := ⟨w.heap.size + 4, 0, none⟩) (show w.heap.size + 2 ≠ w.heap.size + 4 by omega) (.int .i64 102)
 have hL := hL.other (a := ⟨w.heap.size + 4, 0, none⟩) (show w.heap.size + 3 ≠ w.heap.size + 4 by omega) (.int .i64 102)
 have hM := hM.set 0 (.int .i64 102)
 have hb := hb.setCell (p := ⟨w.heap.size + 4, 0, none⟩) (by show w.heap.size ≤ w.heap.size + 4; omega) (.int .i64 102)
 go_upto_region 15 with fail
 refine found_r15 70 fa a b op 44 e 102 a fa w _ hF hC hR hL hM hb ?_
 clear hF hC hM hR hL hb
 intro x49 x50 w9 hq
 obtain ⟨hR, hL, hb⟩ := hq
 clear c0 c1 c2 c3 c4 p0 p1 m0 m1 m2 q0 q1 q2 d0 d1 d2 g0 g1 g2 l0 l1 t0 t1
 obtain ⟨y0, y1, y2, -, -, -⟩ := Blk.three hR
 obtain ⟨x0, x1, -, -⟩ := Blk.two hL
 dsimp only [Exit.then]
 go_wp2
 refine bodyPost_ret (v := .tuple #[.agg #[.int .i64 102, .int .i64 a, .int .i64 fa], .agg #[.int .i64 70, .int .i64 fa], .int .i64 0]) (by simp [results, Try.results221, go_sem, y0, y1, y2, x0, x1]) rfl ?_
 exact ⟨rfl, hb⟩
set_option maxRecDepth 100000 in
set_option maxHeartbeats 2000000 in
theorem efound_comma116 (fa a b op e : Int) (w : World) : Calls Try.prog 221 #[.agg #[.int .i64 116, .int .i64 fa], .agg #[.int .i64 a, .int .i64 b, .int .i64 op, .int .i64 44, .int .i64 e]] w (FnPost 84 a fa 116 fa 0 w) := by
 have hx : bits BinOp.xor IntKind.i64 116 32 = 84 := by decide
 obtain ⟨hF, hC, hR, hL, hb, hsz⟩ := fourC w #[.int .i64 116, .int .i64 fa] #[.int .i64 a, .int .i64 b, .int .i64 op, .int .i64 44, .int .i64 e] #[.int .i64 0, .int .i64 0, .int .i64 0] #[.int .i64 0, .int .i64 0] 135 80 227 135
 go_enter Try.func221, Try.ntmps221
 go_upto_region 1 with fail
 generalize ((((w.alloc (.cells #[.int .i64 116, .int .i64 fa] 135)).alloc (.cells #[.int .i64 a, .int .i64 b, .int .i64 op, .int .i64 44, .int .i64 e] 80)).alloc (.cells #[.int .i64 0, .int .i64 0, .int .i64 0] 227)).alloc (.cells #[.int .i64 0, .int .i64 0] 135)) = w1 at *
 obtain ⟨c0, c1, c2, c3, c4⟩ := hC.five
 have hM := Blk.new w1 #[.int .i64 44, .int .i64 a, .int .i64 e] 227
 rw [hsz] at hM
 have hF := hF.alloc (.cells #[.int .i64 44, .int .i64 a, .int .i64 e] 227)
 have hC := hC.alloc (.cells #[.int .i64 44, .int .i64 a, .int .i64 e] 227)
 have hR := hR.alloc (.cells #[.int .i64 44, .int .i64 a, .int .i64 e] 227)
 have hL := hL.alloc (.cells #[.int .i64 44, .int .i64 a, .int .i64 e] 227)
 have hb := hb.alloc hb.size (.cells #[.int .i64 44, .int .i64 a, .int .i64 e] 227)
 go_upto_region 2 with fail
 clear c0 c1 c2 c3 c4
 generalize (w1.alloc (.cells #[.int .i64 44, .int .i64 a, .int .i64 e] 227)) = w2 at *
 obtain ⟨c0, c1, c2, c3, c4⟩ := hC.five
 obtain ⟨p0, p1, -, -⟩ := hF.two
 obtain ⟨m0, m1, m2, q0, q1, q2⟩ := hM.three
 obtain ⟨d0, d1, d2, g0, g1, g2⟩ := hR.three
 obtain ⟨l0, l1, t0, t1⟩ := hL.two
 go_upto_region 12 with fail
 go_cut [41] (fun v wx => Blk wx w.heap.size #[.int .i64 116, .int .i64 fa] 135 ∧ Blk wx (w.heap.size + 1) #[.int .i64 a, .int .i64 b, .int .i64 op, .int .i64 44, .int .i64 e] 80 ∧ Blk wx (w.heap.size + 2) #[.int .i64 0, .int .i64 0, .int .i64 0] 227 ∧ Blk wx (w.heap.size + 3) #[.int .i64 0, .int .i64 0] 135 ∧ Blk wx (w.heap.size + 4) #[.int .i64 116, .int .i64 a, .int .i64 fa] 227 ∧ Below w.heap.size w wx)
 case first =>
  have HF := Lib.hid (show _ ∧ _ ∧ _ ∧ _ ∧ _ ∧ _ from ⟨((hF.other (a := ⟨w.heap.size + 4, 0, none⟩) (show w.heap.size ≠ w.heap.size + 4 by omega) (.int .i64 116)).other (a := ⟨w.heap.size + 4, 2, none⟩) (show w.heap.size ≠ w.heap.size + 4 by omega) (.int .i64 fa)), ((hC.other (a := ⟨w.heap.size + 4, 0, none⟩) (show w.heap.size + 1 ≠ w.heap.size + 4 by omega) (.int .i64 116)).other (a := ⟨w.heap.size + 4, 2, none⟩) (show w.heap.size + 1 ≠ w.heap.size + 4 by omega) (.int .i64 fa)), ((hR.other (a := ⟨w.heap.size + 4, 0, none⟩) (show w.heap.size + 2 ≠ w.heap.size + 4 by omega) (.int .i64 116)).other (a := ⟨w.heap.size + 4, 2, none⟩) (show w.heap.size + 2 ≠ w.heap.size + 4 by omega) (.int .i64 fa)), ((hL.other (a := ⟨w.heap.size + 4, 0, none⟩) (show w.heap.size + 3 ≠ w.heap.size + 4 by omega) (.int .i64 116)).other (a := ⟨w.heap.size + 4, 2, none⟩) (show w.heap.size + 3 ≠ w.heap.size + 4 by omega) (.int .i64 fa)), (hM.set 0 (.int .i64 116)).set 2 (.int .i64 fa), (hb.setCell (p := ⟨w.heap.size + 4, 0, none⟩) (by show w.heap.size ≤ w.heap.size + 4; omega) (.int .i64 116)).setCell (p := ⟨w.heap.size + 4, 2, none⟩) (by show w.heap.size ≤ w.heap.size + 4; omega) (.int .i64 fa)⟩)
  clear hF hC hM hR hL hb
  go_region
  all_goals
   go_wp2
   go_meet
   exact ⟨HF.out.1, HF.out.2.1, HF.out.2.2.1, HF.out.2.2.2.1, HF.out.2.2.2.2.1, HF.out.2.2.2.2.2.drew⟩
 obtain ⟨hF, hC, hR, hL, hM, hb⟩ := hcut
 clear c0 c1 c2 c3 c4 p0 p1 m0 m1 m2 q0 q1 q2 d0 d1 d2 g0 g1 g2 l0 l1 t0 t1
 obtain ⟨c0, c1, c2, c3, c4⟩ := hC.five
 obtain ⟨p0, p1, -, -⟩ := hF.two
 obtain ⟨m0, m1, m2, q0, q1, q2⟩ := hM.three
 obtain ⟨d0, d1, d2, g0, g1, g2⟩ := hR.three
 obtain ⟨l0, l1, t0, t1⟩ := hL.two
 have hF := hF.other (a := ⟨w.heap.size + 4, 0, none⟩) (show w.heap.size ≠ w.heap.size + 4 by omega) (.int .i64 84)
 have hC := hC.other (a := ⟨w.heap.size + 4, 0, none⟩) (show w.heap.size + 1 ≠ w.heap.size + 4 by omega) (.int .i64 84)
 have hR := hR.other (a := ⟨w.heap.size + 4, 0, none⟩) (show w.heap.size + 2 ≠ w.heap.size + 4 by omega) (.int .i64 84)
 have hL := hL.other (a := ⟨w.heap.size + 4, 0, none⟩) (show w.heap.size + 3 ≠ w.heap.size + 4 by omega) (.int .i64 84)
 have hM := hM.set 0 (.int .i64 84)
 have hb := hb.setCell (p := ⟨w.heap.size + 4, 0, none⟩) (by show w.heap.size ≤ w.heap.size + 4; omega) (.int .i64 84)
 go_upto_region 15 with fail
 refine found_r15 116 fa a b op 44 e 84 a fa w _ hF hC hR hL hM hb ?_
 clear hF hC hM hR hL hb
 intro x49 x50 w9 hq
 obtain ⟨hR, hL, hb⟩ := hq
 clear c0 c1 c2 c3 c4 p0 p1 m0 m1 m2 q0 q1 q2 d0 d1 d2 g0 g1 g2 l0 l1 t0 t1
 obtain ⟨y0, y1, y2, -, -, -⟩ := Blk.three hR
 obtain ⟨x0, x1, -, -⟩ := Blk.two hL
 dsimp only [Exit.then]
 go_wp2
 refine bodyPost_ret (v := .tuple #[.agg #[.int .i64 84, .int .i64 a, .int .i64 fa], .agg #[.int .i64 116, .int .i64 fa], .int .i64 0]) (by simp [results, Try.results221, go_sem, y0, y1, y2, x0, x1]) rfl ?_
 exact ⟨rfl, hb⟩
set_option maxRecDepth 100000 in
set_option maxHeartbeats 2000000 in
theorem efound_comma84 (fa a b op e : Int) (w : World) : Calls Try.prog 221 #[.agg #[.int .i64 84, .int .i64 fa], .agg #[.int .i64 a, .int .i64 b, .int .i64 op, .int .i64 44, .int .i64 e]] w (FnPost 116 a fa 84 fa 0 w) := by
 have hx : bits BinOp.xor IntKind.i64 84 32 = 116 := by decide
 obtain ⟨hF, hC, hR, hL, hb, hsz⟩ := fourC w #[.int .i64 84, .int .i64 fa] #[.int .i64 a, .int .i64 b, .int .i64 op, .int .i64 44, .int .i64 e] #[.int .i64 0, .int .i64 0, .int .i64 0] #[.int .i64 0, .int .i64 0] 135 80 227 135
 go_enter Try.func221, Try.ntmps221
 go_upto_region 1 with fail
 generalize ((((w.alloc (.cells #[.int .i64 84, .int .i64 fa] 135)).alloc (.cells #[.int .i64 a, .int .i64 b, .int .i64 op, .int .i64 44, .int .i64 e] 80)).alloc (.cells #[.int .i64 0, .int .i64 0, .int .i64 0] 227)).alloc (.cells #[.int .i64 0, .int .i64 0] 135)) = w1 at *
 obtain ⟨c0, c1, c2, c3, c4⟩ := hC.five
 have hM := Blk.new w1 #[.int .i64 44, .int .i64 a, .int .i64 e] 227
 rw [hsz] at hM
 have hF := hF.alloc (.cells #[.int .i64 44, .int .i64 a, .int .i64 e] 227)
 have hC := hC.alloc (.cells #[.int .i64 44, .int .i64 a, .int .i64 e] 227)
 have hR := hR.alloc (.cells #[.int .i64 44, .int .i64 a, .int .i64 e] 227)
 have hL := hL.alloc (.cells #[.int .i64 44, .int .i64 a, .int .i64 e] 227)
 have hb := hb.alloc hb.size (.cells #[.int .i64 44, .int .i64 a, .int .i64 e] 227)
 go_upto_region 2 with fail
 clear c0 c1 c2 c3 c4
 generalize (w1.alloc (.cells #[.int .i64 44, .int .i64 a, .int .i64 e] 227)) = w2 at *
 obtain ⟨c0, c1, c2, c3, c4⟩ := hC.five
 obtain ⟨p0, p1, -, -⟩ := hF.two
 obtain ⟨m0, m1, m2, q0, q1, q2⟩ := hM.three
 obtain ⟨d0, d1, d2, g0, g1, g2⟩ := hR.three
 obtain ⟨l0, l1, t0, t1⟩ := hL.two
 go_upto_region 12 with fail
 go_cut [41] (fun v wx => Blk wx w.heap.size #[.int .i64 84, .int .i64 fa] 135 ∧ Blk wx (w.heap.size + 1) #[.int .i64 a, .int .i64 b, .int .i64 op, .int .i64 44, .int .i64 e] 80 ∧ Blk wx (w.heap.size + 2) #[.int .i64 0, .int .i64 0, .int .i64 0] 227 ∧ Blk wx (w.heap.size + 3) #[.int .i64 0, .int .i64 0] 135 ∧ Blk wx (w.heap.size + 4) #[.int .i64 84, .int .i64 a, .int .i64 fa] 227 ∧ Below w.heap.size w wx)
 case first =>
  have HF := Lib.hid (show _ ∧ _ ∧ _ ∧ _ ∧ _ ∧ _ from ⟨((hF.other (a := ⟨w.heap.size + 4, 0, none⟩) (show w.heap.size ≠ w.heap.size + 4 by omega) (.int .i64 84)).other (a := ⟨w.heap.size + 4, 2, none⟩) (show w.heap.size ≠ w.heap.size + 4 by omega) (.int .i64 fa)), ((hC.other (a := ⟨w.heap.size + 4, 0, none⟩) (show w.heap.size + 1 ≠ w.heap.size + 4 by omega) (.int .i64 84)).other (a := ⟨w.heap.size + 4, 2, none⟩) (show w.heap.size + 1 ≠ w.heap.size + 4 by omega) (.int .i64 fa)), ((hR.other (a := ⟨w.heap.size + 4, 0, none⟩) (show w.heap.size + 2 ≠ w.heap.size + 4 by omega) (.int .i64 84)).other (a := ⟨w.heap.size + 4, 2, none⟩) (show w.heap.size + 2 ≠ w.heap.size + 4 by omega) (.int .i64 fa)), ((hL.other (a := ⟨w.heap.size + 4, 0, none⟩) (show w.heap.size + 3 ≠ w.heap.size + 4 by omega) (.int .i64 84)).other (a := ⟨w.heap.size + 4, 2, none⟩) (show w.heap.size + 3 ≠ w.heap.size + 4 by omega) (.int .i64 fa)), (hM.set 0 (.int .i64 84)).set 2 (.int .i64 fa), (hb.setCell (p := ⟨w.heap.size + 4, 0, none⟩) (by show w.heap.size ≤ w.heap.size + 4; omega) (.int .i64 84)).setCell (p := ⟨w.heap.size + 4, 2, none⟩) (by show w.heap.size ≤ w.heap.size + 4; omega) (.int .i64 fa)⟩)
  clear hF hC hM hR hL hb
  go_region
  all_goals
   go_wp2
   go_meet
   exact ⟨HF.out.1, HF.out.2.1, HF.out.2.2.1, HF.out.2.2.2.1, HF.out.2.2.2.2.1, HF.out.2.2.2.2.2.drew⟩
 obtain ⟨hF, hC, hR, hL, hM, hb⟩ := hcut
 clear c0 c1 c2 c3 c4 p0 p1 m0 m1 m2 q0 q1 q2 d0 d1 d2 g0 g1 g2 l0 l1 t0 t1
 obtain ⟨c0, c1, c2, c3, c4⟩ := hC.five
 obtain ⟨p0, p1, -, -⟩ := hF.two
 obtain ⟨m0, m1, m2, q0, q1, q2⟩ := hM.three
 obtain ⟨d0, d1, d2, g0, g1, g2⟩ := hR.three
 obtain ⟨l0, l1, t0, t1⟩ := hL.two
 have hF := hF.other (a := ⟨w.heap.size + 4, 0, none⟩) (show w.heap.size ≠ w.heap.size + 4 by omega) (.int .i64 116)
 have hC := hC.other (a := ⟨w.heap.size + 4, 0, none⟩) (show w.heap.size + 1 ≠ w.heap.size + 4 by omega) (.int .i64 116)
 have hR := hR.other (a := ⟨w.heap.size + 4, 0, none⟩) (show w.heap.size + 2 ≠ w.heap.size + 4 by omega) (.int .i64 116)
 have hL := hL.other (a := ⟨w.heap.size + 4, 0, none⟩) (show w.heap.size + 3 ≠ w.heap.size + 4 by omega) (.int .i64 116)
 have hM := hM.set 0 (.int .i64 116)
 have hb := hb.setCell (p := ⟨w.heap.size + 4, 0, none⟩) (by show w.heap.size ≤ w.heap.size + 4; omega) (.int .i64 116)
 go_upto_region 15 with fail
 refine found_r15 84 fa a b op 44 e 116 a fa w _ hF hC hR hL hM hb ?_
 clear hF hC hM hR hL hb
 intro x49 x50 w9 hq
 obtain ⟨hR, hL, hb⟩ := hq
 clear c0 c1 c2 c3 c4 p0 p1 m0 m1 m2 q0 q1 q2 d0 d1 d2 g0 g1 g2 l0 l1 t0 t1
 obtain ⟨y0, y1, y2, -, -, -⟩ := Blk.three hR
 obtain ⟨x0, x1, -, -⟩ := Blk.two hL
 dsimp only [Exit.then]
 go_wp2
 refine bodyPost_ret (v := .tuple #[.agg #[.int .i64 116, .int .i64 a, .int .i64 fa], .agg #[.int .i64 84, .int .i64 fa], .int .i64 0]) (by simp [results, Try.results221, go_sem, y0, y1, y2, x0, x1]) rfl ?_
 exact ⟨rfl, hb⟩
def lkV (fk d : Int) : Int := if fiB d = true then d else fk
def laV (fa d e : Int) : Int := if fiB d = true then e else fa
theorem edit_found (fk fa : Int) (c : C5) (w : World) (h : fk = 0 ∨ fiB fk = true) :
  Calls Try.prog 221 #[.agg #[.int .i64 fk, .int .i64 fa], c.v] w (FnPost (mtK fk c.d) c.a (mtA fk fa c.d c.e) (lkV fk c.d) (laV fa c.d c.e) (mtE fk c.d) w) := by
 obtain ⟨a, b, op, d, e⟩ := c
 unfold C5.v
 dsimp only
 by_cases h102 : d = 102
 ·subst h102; have := efound_102 fk fa a b op e w; simpa [mtK, mtA, mtE, lkV, laV, fiB, flV] using this
 by_cases h70 : d = 70
 ·subst h70; have := efound_70 fk fa a b op e w; simpa [mtK, mtA, mtE, lkV, laV, fiB, flV] using this
 by_cases h116 : d = 116
 ·subst h116; have := efound_116 fk fa a b op e w; simpa [mtK, mtA, mtE, lkV, laV, fiB, flV] using this
 by_cases h84 : d = 84
 ·subst h84; have := efound_84 fk fa a b op e w; simpa [mtK, mtA, mtE, lkV, laV, fiB, flV] using this
 by_cases h59 : d = 59
 ·subst h59
  by_cases hz : fk = 0
  ·subst hz; have := efound_none59 fa a b op e w; simpa [mtK, mtA, mtE, lkV, laV, fiB, flV] using this
  ·have := efound_semi fk fa a b op e w hz; simpa [mtK, mtA, mtE, lkV, laV, fiB, flV, hz] using this
 by_cases h44 : d = 44
 ·subst h44
  by_cases hz : fk = 0
  ·subst hz; have := efound_none44 fa a b op e w; simpa [mtK, mtA, mtE, lkV, laV, fiB, flV] using this
  ·rcases h with h | h
   ·exact absurd h hz
   simp only [fiB, decide_eq_true_eq] at h
   rcases h with rfl | rfl | rfl | rfl
   ·have := efound_comma102 fa a b op e w; simpa [mtK, mtA, mtE, lkV, laV, fiB, flV] using this
   ·have := efound_comma70 fa a b op e w; simpa [mtK, mtA, mtE, lkV, laV, fiB, flV] using this
   ·have := efound_comma116 fa a b op e w; simpa [mtK, mtA, mtE, lkV, laV, fiB, flV] using this
   ·have := efound_comma84 fa a b op e w; simpa [mtK, mtA, mtE, lkV, laV, fiB, flV] using this
 have := efound_plain fk fa a b op d e w h102 h70 h116 h84 h59 h44
 simpa [mtK, mtA, mtE, lkV, laV, fiB, flV, h102, h70, h116, h84, h59, h44] using this
set_option maxHeartbeats 1000000 in
theorem bits_mul64 (x y : Nat) (hx : x < 18446744073709551616) (hy : y < 18446744073709551616) (w : World) :
  Calls Try.prog 263 #[.int .u64 x, .int .u64 y] w fun e w' => e = .returned (.tuple #[.int .u64 ((x * y / 18446744073709551616 : Nat) : Int), .int .u64 ((x * y % 18446744073709551616 : Nat) : Int)]) ∧ w' = w := by
 obtain ⟨bd, bt, bw, hhi⟩ := Lib.mul64_hi x y hx hy
 have ba := Lib.half_mul_le (a := x / 4294967296) (b := y / 4294967296) (by omega) (by omega)
 have bb := Lib.half_mul_le (a := x / 4294967296) (b := y % 4294967296) (by omega) (by omega)
 have bc := Lib.half_mul_le (a := x % 4294967296) (b := y / 4294967296) (by omega) (by omega)
 have ba' : x / 4294967296 * (y / 4294967296) < 18446744073709551616 := by omega
 have bb' : x / 4294967296 * (y % 4294967296) < 18446744073709551616 := by omega
 have bc' : x % 4294967296 * (y / 4294967296) < 18446744073709551616 := by omega
 have bh1 : x / 4294967296 * (y / 4294967296) + (x / 4294967296 * (y % 4294967296) + x % 4294967296 * (y % 4294967296) / 4294967296) / 4294967296 < 18446744073709551616 := by omega
 have bh : x / 4294967296 * (y / 4294967296) + (x / 4294967296 * (y % 4294967296) + x % 4294967296 * (y % 4294967296) / 4294967296) / 4294967296 + ((x / 4294967296 * (y % 4294967296) + x % 4294967296 * (y % 4294967296) / 4294967296) % 4294967296 + x % 4294967296 * (y / 4294967296)) / 4294967296 < 18446744073709551616 := by omega
 go_enter Try.func263, Try.ntmps263
 go_wp2
 simp only [Mul64.maskN x hx, Mul64.maskN y hy, Mul64.divN, Mul64.mulN, Mul64.addN, Mul64.wrapN _ bd, Mul64.wrapN _ bb', Mul64.wrapN _ bt, Mul64.maskN _ bt, Mul64.wrapN _ bc', Mul64.wrapN _ bw, Mul64.wrapN _ ba', Mul64.wrapN _ bh1, Mul64.wrapN _ bh, Mul64.wrapM (x * y)]
 rw [hhi]
 go_ret2
 exact ⟨rfl, rfl⟩
set_option maxHeartbeats 1000000 in
theorem bits_mul (x y : Nat) (hx : x < 18446744073709551616) (hy : y < 18446744073709551616) (w : World) :
  Calls Try.prog 241 #[.int .u64 x, .int .u64 y] w fun e w' => e = .returned (.tuple #[.int .u64 ((x * y / 18446744073709551616 : Nat) : Int), .int .u64 ((x * y % 18446744073709551616 : Nat) : Int)]) ∧ w' = w := by
 go_enter Try.func241, Try.ntmps241
 go_wp2_with fail
 refine (bits_mul64 x y hx hy w).mono ?_
 rintro e w' ⟨rfl, rfl⟩
 go_wp2
 go_ret2
 exact ⟨rfl, rfl⟩
def repS (xs : List Int) (k : Nat) : List Int := (List.replicate k xs).flatten
theorem repS_length (xs : List Int) (k : Nat) : (repS xs k).length = xs.length * k := by simp [repS, Nat.mul_comm]
theorem repS_ix (xs : List Int) (k i : Nat) (h : i < xs.length * k) : ix (repS xs k) i = ix xs (i % xs.length) := by
 induction k generalizing i with
 | zero => simp at h
 | succ k ih =>
  have e : repS xs (k + 1) = xs ++ repS xs k := by simp [repS, List.replicate_succ]
  rw [e]
  by_cases hi : i < xs.length
  ·rw [ix_append_left hi, Nat.mod_eq_of_lt hi]
  ·obtain ⟨j, rfl⟩ : ∃ j, i = xs.length + j := ⟨i - xs.length, by omega⟩
   rw [ix_append_right, ih j (by rw [Nat.mul_succ] at h; omega), Nat.add_mod_left]
noncomputable def putS (I : In) (s : St) (f g : Nat) (x : List Int) : St := { s with O := I.t.take f ++ x ++ I.t.drop g, es := btF I.t (I.t.take f ++ x ++ I.t.drop g) }
noncomputable def opS (I : In) (s : St) (f g : Nat) (whole : Bool) : Int × St :=
 if f = g ∧ s.cm.c ≠ 99 then (5, s)
 else if f < g ∧ putEs I.X s.cm.b ((I.t.take g).drop f) ≠ 0 then (putEs I.X s.cm.b ((I.t.take g).drop f), s)
 else
  let s1 := if f < g then { s with Y := putYs I.X s.cm.b ((I.t.take g).drop f) } else s
  if s.cm.c = 121 then (0, if whole then s1 else { s1 with p := min (f : Int) I.k })
  else if s.cm.c = 99 then (0, { putS I s1 f g [] with md := 1, p := (f : Int) })
  else (0, { putS I s1 f g [] with md := 0, p := clV f ((I.t.take f ++ [] ++ I.t.drop g).length : Int) })
noncomputable def mvS (I : In) (s : St) : Int × St :=
 if mtE s.fk s.cm.d ≠ 0 then (mtE s.fk s.cm.d, s)
 else if s.cm.c = 0 then
  (if goE I.t I.k (mtK s.fk s.cm.d) s.cm.a (mtA s.fk s.fa s.cm.d s.cm.e) false ≠ 0 then (goE I.t I.k (mtK s.fk s.cm.d) s.cm.a (mtA s.fk s.fa s.cm.d s.cm.e) false, s)
   else (0, { s with p := goA I.t I.k (mtK s.fk s.cm.d) s.cm.a (mtA s.fk s.fa s.cm.d s.cm.e) false, fk := lkV s.fk s.cm.d, fa := laV s.fa s.cm.d s.cm.e }))
 else if goE I.t I.k (mtK s.fk s.cm.d) s.cm.a (mtA s.fk s.fa s.cm.d s.cm.e) true ≠ 0 then (goE I.t I.k (mtK s.fk s.cm.d) s.cm.a (mtA s.fk s.fa s.cm.d s.cm.e) true, s)
 else
  let r := opS I s (raF I.t I.k (mtK s.fk s.cm.d) s.cm.a (mtA s.fk s.fa s.cm.d s.cm.e)).toNat (raT I.t I.k (mtK s.fk s.cm.d) s.cm.a (mtA s.fk s.fa s.cm.d s.cm.e)).toNat false
  if r.1 ≠ 0 then (r.1, r.2) else (0, { r.2 with fk := lkV s.fk s.cm.d, fa := laV s.fa s.cm.d s.cm.e })
noncomputable def psS (I : In) (s : St) (i : Nat) : Int × St :=
 if getEs I.X s.cm.b ≠ 0 then (getEs I.X s.cm.b, s)
 else if 200 < (I.n : Int) + max 1 s.cm.a * ((getYs I.X s.cm.b).length : Int) then (2, s)
 else (0, { putS I s i i (repS (getYs I.X s.cm.b) (max 1 s.cm.a).toNat) with p := (i : Int) + max 1 s.cm.a * ((getYs I.X s.cm.b).length : Int) - 1 })
def chL (I : In) (m : Nat) (f : Int → Int) : List Int := ((I.t.take (I.k + m)).drop I.k).map f
noncomputable def chS (I : In) (s : St) (m : Nat) (f : Int → Int) : St := putS I s I.k (I.k + m) (chL I m f)
noncomputable def plS (I : In) (s : St) : Int × St :=
 if s.cm.d = 112 then psS I s (min (I.k + 1) I.n)
 else if s.cm.d = 80 then psS I s I.k
 else if s.cm.d = 126 then
  (if I.n = 0 then (5, s) else (0, { chS I s (min (max 1 s.cm.a).toNat (I.n - I.k)) turnV with p := min ((I.k : Int) + max 1 s.cm.a) (I.n - 1) }))
 else if s.cm.d = 114 then
  (if (I.n : Int) < I.k + max 1 s.cm.a then (5, s) else (0, { chS I s (max 1 s.cm.a).toNat (fun _ => s.cm.e) with p := (I.k : Int) + max 1 s.cm.a - 1 }))
 else if s.cm.d = 105 then (0, { s with md := 1 })
 else if s.cm.d = 73 then (0, { s with md := 1, p := firstF I.t })
 else if s.cm.d = 97 then (0, { s with md := 1, p := min ((I.k : Int) + 1) I.n })
 else if s.cm.d = 65 then (0, { s with md := 1, p := (I.n : Int) })
 else if s.cm.d = 82 then (0, { s with md := 2 })
 else (9, s)
noncomputable def ofR (l : List Int) (n : Nat) (around : Bool) (k : Nat) (key : Int) : Int × Int × Int := Classical.epsilon fun r => OfP l (pRun l n n).out around k key r.1 r.2.1 r.2.2
theorem ofR_eq {l : List Int} {n : Nat} {around : Bool} {k : Nat} {key a b er : Int} (h : OfP l (pRun l n n).out around k key a b er) : ofR l n around k key = (a, b, er) := by
 have h' := Classical.epsilon_spec (p := fun r : Int × Int × Int => OfP l (pRun l n n).out around k key r.1 r.2.1 r.2.2) ⟨(a, b, er), h⟩
 obtain ⟨h1, h2, h3⟩ := h'.one h
 exact Prod.ext h1 (Prod.ext h2 h3)
def motB (d : Int) : Bool := [104, 108, 48, 94, 36, 124, 119, 87, 98, 66, 101, 69, 37, 102, 70, 116, 84, 59, 44].contains d
noncomputable def doS (I : In) (s : St) : Int × St :=
 if motB s.cm.d = true then mvS I s
 else if s.cm.c = 0 then plS I s
 else if s.cm.d = s.cm.c then opS I s 0 I.n true
 else if s.cm.d ≠ 105 ∧ s.cm.d ≠ 97 then (9, s)
 else if (ofR I.t I.n (decide (s.cm.d = 97)) I.k s.cm.e).2.2 ≠ 0 then ((ofR I.t I.n (decide (s.cm.d = 97)) I.k s.cm.e).2.2, s)
 else opS I s (ofR I.t I.n (decide (s.cm.d = 97)) I.k s.cm.e).1.toNat (ofR I.t I.n (decide (s.cm.d = 97)) I.k s.cm.e).2.1.toNat false
set_option maxRecDepth 100000 in
set_option maxHeartbeats 2000000 in
theorem op_same (P f : Nat) (whole : Bool) (us : List Value) (I : In) (s : St) (w : World) (h : DI P w us I s) (h99 : s.cm.c ≠ 99) :
  Calls Try.prog 182 #[.pointer (some ⟨P, 0, none⟩), .int .i64 (f : Int), .int .i64 (f : Int), .bool whole] w (DPost P I 5 s w) := by
 have n99 : (s.cm.c != 99) = true := by simpa using h99
 have c31 := h.c31
 have HX := Lib.hid h
 obtain ⟨op, hop⟩ : ∃ op, s.cm.c = op := ⟨_, rfl⟩
 rw [hop] at c31 n99
 clear h h99 hop
 go_enter Try.func182, Try.ntmps182
 go_wp2
 go_ret
 exact ⟨rfl, ⟨_, HX.out⟩, Asd.refl _ _⟩
set_option maxRecDepth 100000 in
set_option maxHeartbeats 2000000 in
theorem op_bad (P f g : Nat) (whole : Bool) (us : List Value) (I : In) (hI : InOk I) (s : St) (w : World) (h : DI P w us I s) (hfg : f < g) (hgn : g ≤ I.n) (E : Int) (hE : putEs I.X s.cm.b ((I.t.take g).drop f) = E) (h0 : E ≠ 0) :
  Calls Try.prog 182 #[.pointer (some ⟨P, 0, none⟩), .int .i64 (f : Int), .int .i64 (g : Int), .bool whole] w (DPost P I E s w) := by
 have CT := doer_keep P f g us I hI s w h (by omega) hgn
 rw [hE, if_neg h0] at CT
 have n0 : (E != 0) = true := by simpa using h0
 have HCT := Lib.hid CT
 have hne : ((f : Int) == (g : Int)) = false := by simp; omega
 have hlt : decide ((f : Int) < (g : Int)) = true := by simp; omega
 clear CT h hE h0 hI hgn
 go_enter Try.func182, Try.ntmps182
 go_wp2_with (go_at_call 229; refine (HCT.out).mono ?_; rintro e w8 ⟨rfl, hus8, hA8⟩)
 go_ret
 exact ⟨rfl, hus8, hA8⟩
set_option maxRecDepth 100000 in
set_option maxHeartbeats 2000000 in
theorem op_yw (P f g : Nat) (us : List Value) (I : In) (hI : InOk I) (s : St) (w : World) (h : DI P w us I s) (hfg : f < g) (hgn : g ≤ I.n) (hE : putEs I.X s.cm.b ((I.t.take g).drop f) = 0) (hop : s.cm.c = 121) :
  Calls Try.prog 182 #[.pointer (some ⟨P, 0, none⟩), .int .i64 (f : Int), .int .i64 (g : Int), .bool true] w (DPost P I 0 ({ s with Y := putYs I.X s.cm.b ((I.t.take g).drop f) }) w) := by
 have htop := hI.top
 have hk1 := hI.k1
 have CT := doer_keep P f g us I hI s w h (by omega) hgn
 rw [if_pos hE, hE] at CT
 have hne : ((f : Int) == (g : Int)) = false := by simp; omega
 have hlt : decide ((f : Int) < (g : Int)) = true := by simp; omega
 have HI := Lib.hid hI
 have hfb : f ≤ 200 := by omega
 have HOP := Lib.hid hop
 have HG := Lib.hid hgn
 have HLE := Lib.hid (Nat.le_of_lt hfg)
 have HCT := Lib.hid CT
 clear CT h hE hop hI hgn
 go_enter Try.func182, Try.ntmps182
 go_wp2_with ((go_at_call 229; refine (HCT.out).mono ?_; rintro e w8 ⟨rfl, ⟨us8, h8⟩, hA8⟩; have c31 : w8.cell? ⟨P, 31, none⟩ = some (.int .i64 s.cm.c) := h8.c31; rw [HOP.out] at c31; have H8 := Lib.hid h8; clear h8))
 go_ret
 exact ⟨rfl, ⟨us8, H8.out⟩, hA8⟩
set_option maxRecDepth 100000 in
set_option maxHeartbeats 2000000 in
theorem op_yf (P f g : Nat) (us : List Value) (I : In) (hI : InOk I) (s : St) (w : World) (h : DI P w us I s) (hfg : f < g) (hgn : g ≤ I.n) (hE : putEs I.X s.cm.b ((I.t.take g).drop f) = 0) (hop : s.cm.c = 121) :
  Calls Try.prog 182 #[.pointer (some ⟨P, 0, none⟩), .int .i64 (f : Int), .int .i64 (g : Int), .bool false] w (DPost P I 0 ({ { s with Y := putYs I.X s.cm.b ((I.t.take g).drop f) } with p := min (f : Int) I.k }) w) := by
 have htop := hI.top
 have hk1 := hI.k1
 have CT := doer_keep P f g us I hI s w h (by omega) hgn
 rw [if_pos hE, hE] at CT
 have hne : ((f : Int) == (g : Int)) = false := by simp; omega
 have hlt : decide ((f : Int) < (g : Int)) = true := by simp; omega
 have HI := Lib.hid hI
 have hfb : f ≤ 200 := by omega
 have HOP := Lib.hid hop
 have HG := Lib.hid hgn
 have HLE := Lib.hid (Nat.le_of_lt hfg)
 have HCT := Lib.hid CT
 clear CT h hE hop hI hgn
 obtain ⟨pv, hpv⟩ : ∃ pv : Int, min (f : Int) I.k = pv := ⟨_, rfl⟩
 rw [hpv]
 have HPV := Lib.hid hpv
 clear hpv
 have hlk : f < I.k ∨ I.k ≤ f := by omega
 rcases hlk with hlk | hlk
 all_goals
  go_enter Try.func182, Try.ntmps182
  go_wp2_with ((go_at_call 229; refine (HCT.out).mono ?_; rintro e w8 ⟨rfl, ⟨us8, h8⟩, hA8⟩; have c31 : w8.cell? ⟨P, 31, none⟩ = some (.int .i64 s.cm.c) := h8.c31; rw [HOP.out] at c31; have c1 := h8.c1; have c35 := h8.c35; have f35 := h8.free 35; have H8 := Lib.hid h8; clear h8))
  all_goals
   go_ret
   exact ⟨rfl, ⟨_, by rw [← HPV.out]; first | (rw [show min (f : Int) I.k = (f : Int) by omega]; exact H8.out.set35 _) | (rw [show min (f : Int) I.k = (I.k : Int) by omega]; exact H8.out.set35 _)⟩, hA8.trans (Asd.set _)⟩
set_option maxRecDepth 100000 in
set_option maxHeartbeats 2000000 in
theorem op_c (P f g : Nat) (whole : Bool) (us : List Value) (I : In) (hI : InOk I) (s : St) (w : World) (h : DI P w us I s) (hfg : f < g) (hgn : g ≤ I.n) (hE : putEs I.X s.cm.b ((I.t.take g).drop f) = 0) (hop : s.cm.c = 99) :
  Calls Try.prog 182 #[.pointer (some ⟨P, 0, none⟩), .int .i64 (f : Int), .int .i64 (g : Int), .bool whole] w (DPost P I 0 ({ putS I { s with Y := putYs I.X s.cm.b ((I.t.take g).drop f) } f g [] with md := 1, p := (f : Int) }) w) := by
 have htop := hI.top
 have hk1 := hI.k1
 have CT := doer_keep P f g us I hI s w h (by omega) hgn
 rw [if_pos hE, hE] at CT
 have hne : ((f : Int) == (g : Int)) = false := by simp; omega
 have hlt : decide ((f : Int) < (g : Int)) = true := by simp; omega
 have HI := Lib.hid hI
 have hfb : f ≤ 200 := by omega
 have HOP := Lib.hid hop
 have HG := Lib.hid hgn
 have HLE := Lib.hid (Nat.le_of_lt hfg)
 have CP : ∀ w8 us8, DI P w8 us8 I ({ s with Y := putYs I.X s.cm.b ((I.t.take g).drop f) }) → Calls Try.prog 230 #[.pointer (some ⟨P, 0, none⟩), .int .i64 (f : Int), .int .i64 (g : Int), .slice none 0 0] w8 (DPost0 P I (putS I ({ s with Y := putYs I.X s.cm.b ((I.t.take g).drop f) }) f g []) w8) := fun w8 us8 h8 => doer_put P f g us8 I HI.out _ none 0 0 [] w8 h8 (Ints.nil _ _) rfl (by omega) (fun _ => rfl) HLE.out HG.out
 have HCP := Lib.hid CP
 clear CP
 have hLL : (I.t.take f ++ [] ++ I.t.drop g).length ≤ 4096 := by have := hI.len; simp only [List.length_append, List.length_take, List.length_drop, List.length_nil]; omega
 obtain ⟨L, hL⟩ : ∃ L, (I.t.take f ++ [] ++ I.t.drop g).length = L := ⟨_, rfl⟩
 rw [hL] at hLL
 have HLN := Lib.hid hL
 clear hL
 have HCT := Lib.hid CT
 clear CT h hE hop hI hgn
 go_enter Try.func182, Try.ntmps182
 go_wp2_with (first | (go_at_call 229; refine (HCT.out).mono ?_; rintro e w8 ⟨rfl, ⟨us8, h8⟩, hA8⟩; have c31 : w8.cell? ⟨P, 31, none⟩ = some (.int .i64 s.cm.c) := h8.c31; rw [HOP.out] at c31; have H8 := Lib.hid h8; clear h8) | (go_at_call 230; go_loud (refine (HCP.out _ _ H8.out).mono ?_; rintro e w9 ⟨rfl, ⟨us9, h9⟩, hA9⟩; clear c31; have c31 : w9.cell? ⟨P, 31, none⟩ = some (.int .i64 s.cm.c) := h9.c31; rw [HOP.out] at c31; have c65 := h9.c65; have f65 := h9.free 65; have c35 := h9.c35; have f35 := h9.free 35; obtain ⟨a9, c9, c34, hc9, hi9⟩ := h9.o34; dsimp only [putS] at c34; rw [HLN.out] at c34; have H9 := Lib.hid h9; clear h9 hi9 hc9)) | (go_at_call 227; go_loud (refine (edit_clamp _ _ _ (by omega) (by omega) (by omega) (by omega)).mono ?_; rintro e w10 ⟨rfl, rfl⟩)))
 go_ret
 exact ⟨rfl, ⟨_, ((H9.out.set65 0).set35 (clV f L)).set65 1 |>.set35 (f : Int)⟩, ((((hA8.trans hA9).trans (Asd.set _)).trans (Asd.set _)).trans (Asd.set _)).trans (Asd.set _)⟩
set_option maxRecDepth 100000 in
set_option maxHeartbeats 2000000 in
theorem op_c0 (P f : Nat) (whole : Bool) (us : List Value) (I : In) (hI : InOk I) (s : St) (w : World) (h : DI P w us I s) (hgn : f ≤ I.n) (hop : s.cm.c = 99) :
  Calls Try.prog 182 #[.pointer (some ⟨P, 0, none⟩), .int .i64 (f : Int), .int .i64 (f : Int), .bool whole] w (DPost P I 0 ({ putS I s f f [] with md := 1, p := (f : Int) }) w) := by
 have htop := hI.top
 have hk1 := hI.k1
 have hlt : decide ((f : Int) < (f : Int)) = false := by simp
 have c31 := h.c31
 have HI := Lib.hid hI
 have hfb : f ≤ 200 := by omega
 rw [hop] at c31
 have HOP := Lib.hid hop
 have HG := Lib.hid hgn
 have HLE := Lib.hid (Nat.le_refl f)
 have CP : ∀ w8 us8, DI P w8 us8 I (s) → Calls Try.prog 230 #[.pointer (some ⟨P, 0, none⟩), .int .i64 (f : Int), .int .i64 (f : Int), .slice none 0 0] w8 (DPost0 P I (putS I (s) f f []) w8) := fun w8 us8 h8 => doer_put P f f us8 I HI.out _ none 0 0 [] w8 h8 (Ints.nil _ _) rfl (by omega) (fun _ => rfl) HLE.out HG.out
 have HCP := Lib.hid CP
 clear CP
 have hLL : (I.t.take f ++ [] ++ I.t.drop f).length ≤ 4096 := by have := hI.len; simp only [List.length_append, List.length_take, List.length_drop, List.length_nil]; omega
 obtain ⟨L, hL⟩ : ∃ L, (I.t.take f ++ [] ++ I.t.drop f).length = L := ⟨_, rfl⟩
 rw [hL] at hLL
 have HLN := Lib.hid hL
 clear hL
 have HX := Lib.hid h
 clear h hop hI hgn
 go_enter Try.func182, Try.ntmps182
 go_wp2_with (first | (go_at_call 230; go_loud (refine (HCP.out _ _ HX.out).mono ?_; rintro e w9 ⟨rfl, ⟨us9, h9⟩, hA9⟩; clear c31; have c31 : w9.cell? ⟨P, 31, none⟩ = some (.int .i64 s.cm.c) := h9.c31; rw [HOP.out] at c31; have c65 := h9.c65; have f65 := h9.free 65; have c35 := h9.c35; have f35 := h9.free 35; obtain ⟨a9, c9, c34, hc9, hi9⟩ := h9.o34; dsimp only [putS] at c34; rw [HLN.out] at c34; have H9 := Lib.hid h9; clear h9 hi9 hc9)) | (go_at_call 227; go_loud (refine (edit_clamp _ _ _ (by omega) (by omega) (by omega) (by omega)).mono ?_; rintro e w10 ⟨rfl, rfl⟩)))
 go_ret
 exact ⟨rfl, ⟨_, ((H9.out.set65 0).set35 (clV f L)).set65 1 |>.set35 (f : Int)⟩, ((((hA9).trans (Asd.set _)).trans (Asd.set _)).trans (Asd.set _)).trans (Asd.set _)⟩
set_option maxRecDepth 100000 in
set_option maxHeartbeats 2000000 in
theorem op_d (P f g : Nat) (whole : Bool) (us : List Value) (I : In) (hI : InOk I) (s : St) (w : World) (h : DI P w us I s) (hfg : f < g) (hgn : g ≤ I.n) (hE : putEs I.X s.cm.b ((I.t.take g).drop f) = 0) (h121 : s.cm.c ≠ 121) (h99 : s.cm.c ≠ 99) :
  Calls Try.prog 182 #[.pointer (some ⟨P, 0, none⟩), .int .i64 (f : Int), .int .i64 (g : Int), .bool whole] w (DPost P I 0 ({ putS I { s with Y := putYs I.X s.cm.b ((I.t.take g).drop f) } f g [] with md := 0, p := clV f ((I.t.take f ++ [] ++ I.t.drop g).length : Int) }) w) := by
 have htop := hI.top
 have hk1 := hI.k1
 have CT := doer_keep P f g us I hI s w h (by omega) hgn
 rw [if_pos hE, hE] at CT
 have hne : ((f : Int) == (g : Int)) = false := by simp; omega
 have hlt : decide ((f : Int) < (g : Int)) = true := by simp; omega
 have HI := Lib.hid hI
 have hfb : f ≤ 200 := by omega
 have n121 : (s.cm.c == 121) = false := by simpa using h121
 have n99 : (s.cm.c == 99) = false := by simpa using h99
 obtain ⟨op, hop⟩ : ∃ op, s.cm.c = op := ⟨_, rfl⟩
 rw [hop] at n121 n99
 have HOP := Lib.hid hop
 have HG := Lib.hid hgn
 have HLE := Lib.hid (Nat.le_of_lt hfg)
 have CP : ∀ w8 us8, DI P w8 us8 I ({ s with Y := putYs I.X s.cm.b ((I.t.take g).drop f) }) → Calls Try.prog 230 #[.pointer (some ⟨P, 0, none⟩), .int .i64 (f : Int), .int .i64 (g : Int), .slice none 0 0] w8 (DPost0 P I (putS I ({ s with Y := putYs I.X s.cm.b ((I.t.take g).drop f) }) f g []) w8) := fun w8 us8 h8 => doer_put P f g us8 I HI.out _ none 0 0 [] w8 h8 (Ints.nil _ _) rfl (by omega) (fun _ => rfl) HLE.out HG.out
 have HCP := Lib.hid CP
 clear CP
 have hLL : (I.t.take f ++ [] ++ I.t.drop g).length ≤ 4096 := by have := hI.len; simp only [List.length_append, List.length_take, List.length_drop, List.length_nil]; omega
 obtain ⟨L, hL⟩ : ∃ L, (I.t.take f ++ [] ++ I.t.drop g).length = L := ⟨_, rfl⟩
 rw [hL] at hLL
 have HLN := Lib.hid hL
 clear hL
 have HCT := Lib.hid CT
 clear CT h hE hop hI hgn
 go_enter Try.func182, Try.ntmps182
 go_wp2_with (first | (go_at_call 229; refine (HCT.out).mono ?_; rintro e w8 ⟨rfl, ⟨us8, h8⟩, hA8⟩; have c31 : w8.cell? ⟨P, 31, none⟩ = some (.int .i64 s.cm.c) := h8.c31; rw [HOP.out] at c31; have H8 := Lib.hid h8; clear h8) | (go_at_call 230; go_loud (refine (HCP.out _ _ H8.out).mono ?_; rintro e w9 ⟨rfl, ⟨us9, h9⟩, hA9⟩; clear c31; have c31 : w9.cell? ⟨P, 31, none⟩ = some (.int .i64 s.cm.c) := h9.c31; rw [HOP.out] at c31; have c65 := h9.c65; have f65 := h9.free 65; have c35 := h9.c35; have f35 := h9.free 35; obtain ⟨a9, c9, c34, hc9, hi9⟩ := h9.o34; dsimp only [putS] at c34; rw [HLN.out] at c34; have H9 := Lib.hid h9; clear h9 hi9 hc9)) | (go_at_call 227; go_loud (refine (edit_clamp _ _ _ (by omega) (by omega) (by omega) (by omega)).mono ?_; rintro e w10 ⟨rfl, rfl⟩)))
 go_ret
 rw [HLN.out]
 exact ⟨rfl, ⟨_, H9.out.set65 0 |>.set35 (clV f L)⟩, ((hA8.trans hA9).trans (Asd.set _)).trans (Asd.set _)⟩
theorem doer_operate (P f g : Nat) (whole : Bool) (us : List Value) (I : In) (hI : InOk I) (s : St) (w : World) (h : DI P w us I s) (hfg : f ≤ g) (hgn : g ≤ I.n) :
  Calls Try.prog 182 #[.pointer (some ⟨P, 0, none⟩), .int .i64 (f : Int), .int .i64 (g : Int), .bool whole] w (DPost P I (opS I s f g whole).1 (opS I s f g whole).2 w) := by
 by_cases e : f = g
 ·subst e
  by_cases h99 : s.cm.c = 99
  ·have := op_c0 P f whole us I hI s w h hgn h99
   have h121 : ¬ s.cm.c = 121 := by omega
   rw [opS, if_neg (by rintro ⟨_, hx⟩; exact hx h99), if_neg (by rintro ⟨hx, _⟩; omega), if_neg (Nat.lt_irrefl f)]
   dsimp only
   rw [if_neg h121, if_pos h99]
   exact this
  ·have := op_same P f whole us I s w h h99
   rw [opS, if_pos ⟨rfl, h99⟩]
   exact this
 ·have hlt : f < g := by omega
  by_cases hE : putEs I.X s.cm.b ((I.t.take g).drop f) = 0
  ·rw [opS, if_neg (by rintro ⟨hx, _⟩; exact e hx), if_neg (by rintro ⟨_, hx⟩; exact hx hE), if_pos hlt]
   dsimp only
   by_cases h121 : s.cm.c = 121
   ·rw [if_pos h121]
    cases whole
    ·exact op_yf P f g us I hI s w h hlt hgn hE h121
    ·exact op_yw P f g us I hI s w h hlt hgn hE h121
   ·rw [if_neg h121]
    by_cases h99 : s.cm.c = 99
    ·rw [if_pos h99]
     exact op_c P f g whole us I hI s w h hlt hgn hE h99
    ·rw [if_neg h99]
     exact op_d P f g whole us I hI s w h hlt hgn hE h121 h99
  ·have := op_bad P f g whole us I hI s w h hlt hgn _ rfl hE
   rw [opS, if_neg (by rintro ⟨hx, _⟩; exact e hx), if_pos ⟨hlt, hE⟩]
   exact this
theorem own_lit1 (w : World) (base : Nat) (x : Int) (hb : base ≤ w.heap.size) : Own 3 base (w.alloc (.cells #[.int .i64 x] 3)) (.slice (some ⟨w.heap.size, 0, none⟩) 1 1) [x] :=
 ⟨by simp, .inr ⟨w.heap.size, 1, #[.int .i64 x], rfl, hb, heap_alloc_new w _, by simp, by unfold maxLen; omega, by simp, by simp⟩⟩
def FindsPost (xs : List Int) (w : World) (e : Ending) (w' : World) : Prop := ∃ v, e = .returned v ∧ Own 3 w.heap.size w' v xs ∧ Below w.heap.size w w'
set_option maxRecDepth 100000 in
set_option maxHeartbeats 1000000 in
theorem ref_finds_left (a : Option Addr) (n c : Nat) (l : List Int) (k : Nat) (ch : Int) (w : World) (hl : Ints w a l) (hn : l.length = n) (hn2 : n ≤ 4096) (hk : k ≤ n) :
  Calls Try.prog 195 #[.slice a n c, .int .i64 (k : Int), .int .i64 ch, .bool true] w (FindsPost (placesL l k ch) w) := by
 have HN := Lib.hid hn
 clear hn
 go_enter Try.func195, Try.ntmps195
 go_wp2
 go_loopw [9, 14] (fun v i wr => ∃ t : Nat, i = .int .i64 (t : Int) ∧ t ≤ n ∧ Own 3 w.heap.size wr v (plD l ch (min t k)) ∧ Below w.heap.size w wr) (fun _ i _ => n - (intOf i).toNat)
 case atStart => exact ⟨0, rfl, by omega, by rw [show min 0 k = 0 by omega]; exact Own.nil _ _ _, Below.refl _ _⟩
 case round =>
  obtain ⟨t, rfl, ht, hown, hbel⟩ := hrel
  have hsz := hbel.size
  by_cases hlt : t < n
  ·obtain ⟨b1, o1, rfl, hc⟩ := (hl.below hbel).at (k := t) (by rw [HN.out]; exact hlt)
   have e1 := hc t (by rw [HN.out]; exact hlt)
   clear hc
   by_cases hh : ix l t = ch
   ·have hb : (ix l t == ch) = true := by simpa using hh
    by_cases htk : t < k
    ·have HP := Lib.hid (show plD l ch (min (t + 1) k) = [(t : Int)] ++ plD l ch (min t k) by rw [show min (t + 1) k = t + 1 by omega, show min t k = t by omega, plD_hit hh]; rfl)
     have hL := own_lit1 wr wr.heap.size (t : Int) (Nat.le_refl _)
     obtain ⟨av, nv, cv, rfl⟩ := hown.form
     obtain ⟨g1, g2, g3, g4, g5⟩ := (hown.alloc (.cells #[.int .i64 (t : Int)] 3)).sl.get
     have hnv : nv ≤ 4096 := by have := plD_len l ch (min t k); omega
     have G1 := Lib.hid g1; have G5 := Lib.hid g5
     have hbel2 := hbel.alloc hsz (.cells #[.int .i64 (t : Int)] 3)
     clear hh g1 g5 hl
     go_wp2_with (at_builtin; refine appV rfl _ _ rfl wr.heap.size _ [(t : Int)] (plD l ch (min t k)) av nv cv rfl rfl hL g4 G1.out G5.out (by simp; omega) (by simp) ?_; intro v1 w1 hown1 hgrow1)
     go_roundw
     case rel => exact ⟨t + 1, by go_num, by omega, by rw [HP.out]; exact hown1.mono hsz, hbel2.grown hgrow1 (by simp; omega) (fun k hk => by have := hL.row k hk; omega)⟩
     case measure => simp [intOf]; omega
    ·have HP := Lib.hid (show plD l ch (min (t + 1) k) = plD l ch (min t k) by rw [show min (t + 1) k = k by omega, show min t k = k by omega])
     clear hh
     go_wp2
     go_roundw
     case rel => exact ⟨t + 1, by go_num, by omega, by rw [HP.out]; exact hown, hbel⟩
     case measure => simp [intOf]; omega
   ·have hb : (ix l t == ch) = false := by simpa using hh
    have HP := Lib.hid (show plD l ch (min (t + 1) k) = plD l ch (min t k) by
     by_cases htk : t < k
     ·rw [show min (t + 1) k = t + 1 by omega, show min t k = t by omega, plD_miss hh]
     ·rw [show min (t + 1) k = k by omega, show min t k = k by omega])
    clear hh
    go_wp2
    go_roundw
    case rel => exact ⟨t + 1, by go_num, by omega, by rw [HP.out]; exact hown, hbel⟩
    case measure => simp [intOf]; omega
  ·obtain rfl : t = n := by omega
   rw [show min t k = k by omega] at hown
   go_wp2
   go_ret
   exact ⟨_, rfl, hown, hbel⟩
set_option maxRecDepth 100000 in
set_option maxHeartbeats 1000000 in
theorem ref_finds_right (a : Option Addr) (n c : Nat) (l : List Int) (k : Nat) (ch : Int) (w : World) (hl : Ints w a l) (hn : l.length = n) (hn2 : n ≤ 4096) (hk : k ≤ n) :
  Calls Try.prog 195 #[.slice a n c, .int .i64 (k : Int), .int .i64 ch, .bool false] w (FindsPost (placesR l k ch) w) := by
 have HR := Lib.hid (show [] ++ plU l ch (max 0 (k + 1)) (n - max 0 (k + 1)) = placesR l k ch by rw [placesR, hn, show max 0 (k + 1) = k + 1 by omega]; rfl)
 have HN := Lib.hid hn
 clear hn
 go_enter Try.func195, Try.ntmps195
 go_wp2
 go_loopw [9, 14] (fun v i wr => ∃ (t : Nat) (xs : List Int), i = .int .i64 (t : Int) ∧ t ≤ n ∧ xs.length ≤ t ∧ xs ++ plU l ch (max t (k + 1)) (n - max t (k + 1)) = placesR l k ch ∧ Own 3 w.heap.size wr v xs ∧ Below w.heap.size w wr) (fun _ i _ => n - (intOf i).toNat)
 case atStart => exact ⟨0, [], rfl, by omega, by simp, HR.out, Own.nil _ _ _, Below.refl _ _⟩
 case round =>
  obtain ⟨t, xs, rfl, ht, hxl, hxs, hown, hbel⟩ := hrel
  have hsz := hbel.size
  have hxl2 : xs.length < 17592186044416 := by omega
  have HX := Lib.hid hxs
  clear hxs
  by_cases hlt : t < n
  ·obtain ⟨b1, o1, rfl, hc⟩ := (hl.below hbel).at (k := t) (by rw [HN.out]; exact hlt)
   have e1 := hc t (by rw [HN.out]; exact hlt)
   clear hc
   by_cases hh : ix l t = ch
   ·have hb : (ix l t == ch) = true := by simpa using hh
    by_cases htk : k < t
    ·have HP := Lib.hid (show (xs ++ [(t : Int)]) ++ plU l ch (max (t + 1) (k + 1)) (n - max (t + 1) (k + 1)) = placesR l k ch by
      rw [← HX.out, show max (t + 1) (k + 1) = t + 1 by omega, show max t (k + 1) = t by omega, show n - t = (n - (t + 1)) + 1 by omega, plU_hit hh]; simp)
     clear hh hl
     go_wp2_with (at_builtin; refine app1 rfl _ _ rfl w.heap.size _ xs (t : Int) _ rfl rfl (hown.alloc _) (cell_new1 _ _ _) hxl2 (size_alloc_le hsz _) ?_; intro v1 w1 hown1 hgrow1)
     go_roundw
     case rel => exact ⟨t + 1, _, by go_num, by omega, by simp; omega, HP.out, hown1, (hbel.alloc hsz _).grown hgrow1 (by simp; omega) (fun k hk => by have := hown.row k hk; omega)⟩
     case measure => simp [intOf]; omega
    ·have HP := Lib.hid (show xs ++ plU l ch (max (t + 1) (k + 1)) (n - max (t + 1) (k + 1)) = placesR l k ch by
      rw [← HX.out, show max (t + 1) (k + 1) = k + 1 by omega, show max t (k + 1) = k + 1 by omega])
     clear hh
     go_wp2
     go_roundw
     case rel => exact ⟨t + 1, _, by go_num, by omega, by omega, HP.out, hown, hbel⟩
     case measure => simp [intOf]; omega
   ·have hb : (ix l t == ch) = false := by simpa using hh
    have HP := Lib.hid (show xs ++ plU l ch (max (t + 1) (k + 1)) (n - max (t + 1) (k + 1)) = placesR l k ch by
     rw [← HX.out]
     by_cases htk : k < t
     ·rw [show max (t + 1) (k + 1) = t + 1 by omega, show max t (k + 1) = t by omega, show n - t = (n - (t + 1)) + 1 by omega, plU_miss hh]
     ·rw [show max (t + 1) (k + 1) = k + 1 by omega, show max t (k + 1) = k + 1 by omega])
    clear hh
    go_wp2
    go_roundw
    case rel => exact ⟨t + 1, _, by go_num, by omega, by omega, HP.out, hown, hbel⟩
    case measure => simp [intOf]; omega
  ·obtain rfl : t = n := by omega
   have HP := Lib.hid (show xs = placesR l k ch by
    rw [← HX.out, show t - max t (k + 1) = 0 by omega]; simp [plU])
   go_wp2
   go_ret
   exact ⟨_, rfl, by rw [← HP.out]; exact hown, hbel⟩
end Go.Proofs.Ytmipnikhgihcpaa
