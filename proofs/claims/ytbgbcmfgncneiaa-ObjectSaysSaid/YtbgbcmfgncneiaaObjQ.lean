/- Plain: the pairs of quotes by toggling, and by the list of their places. -/
import Derived.Test.YtbgbcmfgncneiaaObj5
import Derived.Test.YtbgbcmfgncneiaaSeekS
namespace Go.Proofs.Ytbgbcmfgncneiaa
open Go.RowKit
set_option linter.unusedVariables false
set_option linter.unusedSimpArgs false

theorem stands_one {q : Int} {l : List Int} {t : Nat} (ht : t < l.length) : standsB [q] l t = true ↔ ix l t = q := by
  unfold standsB
  rw [decide_eq_true_eq, List.length_singleton, List.take_one, List.head?_drop, ix_eq ht, List.getElem?_eq_getElem ht]
  simp [eq_comm]

structure QPl (l : List Int) (q : Int) (j : Nat) (P : List Int) : Prop where
  par : (P.length % 2 = 0 ∧ quoteS l q j = -1) ∨ (P.length % 2 = 1 ∧ quoteS l q j = ix P (P.length - 1))
  low : ∀ m, m < P.length → 0 ≤ ix P m ∧ ix P m < j
  up : ∀ a b, a < b → b < P.length → ix P a < ix P b
  hit : ∀ m, 2 * m + 1 < P.length → ∃ t : Nat, ix P (2 * m + 1) = t ∧ t < j ∧ ix l t = q ∧ quoteS l q t = ix P (2 * m)
  all : ∀ t, t < j → ix l t = q → 0 ≤ quoteS l q t → ∃ m, 2 * m + 1 < P.length ∧ ix P (2 * m + 1) = t

theorem QPl.zero (l : List Int) (q : Int) : QPl l q 0 [] :=
  ⟨.inl ⟨rfl, rfl⟩, fun m hm => by simp at hm, fun a b _ hb => by simp at hb, fun m hm => by simp at hm, fun t ht => by omega⟩
theorem QPl.skip {l : List Int} {q : Int} {j : Nat} {P : List Int} (h : QPl l q j P) (hq : ix l j ≠ q) : QPl l q (j + 1) P := by
  have hs : quoteS l q (j + 1) = quoteS l q j := by rw [quoteS, if_pos hq]
  refine ⟨by rw [hs]; exact h.par, fun m hm => ⟨(h.low m hm).1, by have := (h.low m hm).2; omega⟩, h.up, fun m hm => ?_, fun t ht h1 h2 => ?_⟩
  · obtain ⟨t, h1, h2, h3⟩ := h.hit m hm
    exact ⟨t, h1, by omega, h3⟩
  · rcases Nat.lt_succ_iff_lt_or_eq.1 ht with h' | rfl
    · exact h.all t h' h1 h2
    · exact absurd h1 hq
theorem QPl.push {l : List Int} {q : Int} {j : Nat} {P : List Int} (h : QPl l q j P) (hq : ix l j = q) : QPl l q (j + 1) (P ++ [(j : Int)]) := by
  have hs : quoteS l q (j + 1) = if quoteS l q j < 0 then (j : Int) else -1 := by rw [quoteS, if_neg (by simpa using hq)]
  have hl : (P ++ [(j : Int)]).length = P.length + 1 := by simp
  have hix : ∀ m, m < P.length → ix (P ++ [(j : Int)]) m = ix P m := fun m hm => ix_append_left hm
  have hla : ix (P ++ [(j : Int)]) P.length = j := by have := ix_append_right (xs := P) (ys := [(j : Int)]) (i := 0); simp [ix]
  refine ⟨?_, fun m hm => ?_, fun a b hab hb => ?_, fun m hm => ?_, fun t ht h1 h2 => ?_⟩
  · rw [hs, hl]
    rcases h.par with ⟨p1, p2⟩ | ⟨p1, p2⟩
    · rw [p2, if_pos (by decide)]
      exact .inr ⟨by omega, by rw [Nat.add_sub_cancel, hla]⟩
    · have := (h.low (P.length - 1) (by omega)).1
      rw [p2, if_neg (by omega)]
      exact .inl ⟨by omega, rfl⟩
  · rw [hl] at hm
    rcases Nat.lt_succ_iff_lt_or_eq.1 hm with h' | rfl
    · rw [hix m h']
      exact ⟨(h.low m h').1, by have := (h.low m h').2; omega⟩
    · rw [hla]; omega
  · rw [hl] at hb
    rcases Nat.lt_succ_iff_lt_or_eq.1 hb with h' | rfl
    · rw [hix a (by omega), hix b h']; exact h.up a b hab h'
    · rw [hix a hab, hla]; exact (h.low a hab).2
  · rw [hl] at hm
    rcases Nat.lt_succ_iff_lt_or_eq.1 hm with h' | h'
    · obtain ⟨t, h1, h2, h3, h4⟩ := h.hit m h'
      exact ⟨t, by rw [hix _ h']; exact h1, by omega, h3, by rw [hix _ (by omega)]; exact h4⟩
    · refine ⟨j, by rw [h', hla], by omega, hq, ?_⟩
      rcases h.par with ⟨p1, p2⟩ | ⟨p1, p2⟩
      · omega
      · rw [p2, hix _ (by omega)]
        congr 1
        omega
  · rcases Nat.lt_succ_iff_lt_or_eq.1 ht with h' | rfl
    · obtain ⟨m, h3, h4⟩ := h.all t h' h1 h2
      exact ⟨m, by rw [hl]; omega, by rw [hix _ h3]; exact h4⟩
    · rcases h.par with ⟨p1, p2⟩ | ⟨p1, p2⟩
      · omega
      · refine ⟨P.length / 2, by rw [hl]; omega, ?_⟩
        rw [show 2 * (P.length / 2) + 1 = P.length from by omega, hla]
theorem QPl.run (l : List Int) (q : Int) (j : Nat) (hj : j ≤ l.length) : QPl l q j (placesS [q] l j) := by
  induction j with
  | zero => exact QPl.zero l q
  | succ j ih =>
    by_cases h : ix l j = q
    · rw [placesS_succ_yes ((stands_one (by omega)).2 h)]
      exact (ih (by omega)).push h
    · rw [placesS_succ_no (fun hc => h ((stands_one (by omega)).1 hc))]
      exact (ih (by omega)).skip h

theorem quotes_yes {l P : List Int} {q : Int} {k m i : Nat} (h : QPl l q l.length P) (h1 : 2 * m + 1 < P.length) (h2 : (k : Int) ≤ ix P (2 * m + 1)) (h3 : ∀ m', m' < m → ix P (2 * m' + 1) < k)
    (hi : i < l.length) (hf : QFound l k q i) (hmin : ∀ j, j < i → ¬ QFound l k q j) : ix P (2 * m + 1) = i ∧ ix P (2 * m) = quoteS l q i := by
  obtain ⟨t, e1, e2, e3, e4⟩ := h.hit m h1
  obtain ⟨m2, g1, g2⟩ := h.all i hi hf.1 hf.2.1
  have h0 := (h.low (2 * m) (by omega)).1
  have hft : QFound l k q t := ⟨e3, by rw [e4]; exact h0, by omega⟩
  have hmm : m2 = m := by
    rcases Nat.lt_trichotomy m2 m with hh | hh | hh
    · have := h3 m2 hh
      have := hf.2.2
      omega
    · exact hh
    · have := h.up (2 * m + 1) (2 * m2 + 1) (by omega) g1
      exact absurd hft (hmin t (by omega))
  subst hmm
  have : t = i := by omega
  subst this
  exact ⟨e1, e4.symm⟩
theorem quotes_no {l P : List Int} {q : Int} {k : Nat} (h : QPl l q l.length P) (h1 : ∀ m, 2 * m + 1 < P.length → ix P (2 * m + 1) < k) (i : Nat) (hi : i < l.length) : ¬ QFound l k q i := fun hf => by
  obtain ⟨m, g1, g2⟩ := h.all i hi hf.1 hf.2.1
  have := h1 m g1
  have := hf.2.2
  omega
theorem quotes_some {l P : List Int} {q : Int} {k m : Nat} (h : QPl l q l.length P) (h1 : 2 * m + 1 < P.length) (h2 : (k : Int) ≤ ix P (2 * m + 1)) : ∃ i, i < l.length ∧ QFound l k q i := by
  obtain ⟨t, e1, e2, e3, e4⟩ := h.hit m h1
  have h0 := (h.low (2 * m) (by omega)).1
  exact ⟨t, e2, e3, by rw [e4]; exact h0, by omega⟩

end Go.Proofs.Ytbgbcmfgncneiaa
