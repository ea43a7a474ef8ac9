/- Plain facts on patterns and on what is found in a history. No walk stands here. -/
import Derived.Test.YtbgbcmfgncneiaaHist4
import Derived.Test.YtbgbcmfgncneiaaSeekN
namespace Go.Proofs.Ytbgbcmfgncneiaa
open Go.RowKit
set_option linter.unusedVariables false
set_option linter.unusedSimpArgs false

/-- does a line have a pattern? -/
def fitsB (p s : List Int) : Bool := if p ≠ [] ∧ ix p 0 = 94 then standsB (p.drop 1) s 0 else decide (placesN p s (s.length + 1 - p.length) ≠ [])

theorem placesS_pos {p s : List Int} {n : Nat} {i : Nat} (h : i < (placesS p s n).length) : 0 ≤ ix (placesS p s n) i := (placesS_range (ix_mem h)).1
theorem placesS_ne {p s : List Int} {n : Nat} : (placesS p s n).length = 0 ↔ placesN p s n = [] := by simp [placesS]
/-- what seek.Next from 0 on answers tells whether there is a place -/
theorem next_fits {p s : List Int} {n : Nat} {a g : Int} (h : NextP (placesS p s n) 0 a g) : (g = 0 ∧ placesN p s n ≠ []) ∨ (g = 6 ∧ placesN p s n = []) := by
  rcases h with ⟨k, hk, -, -, -, hg⟩ | ⟨h, -, hg⟩
  · exact .inl ⟨hg, fun e => by rw [← placesS_ne] at e; omega⟩
  · refine .inr ⟨hg, placesS_ne.1 ?_⟩
    rcases Nat.eq_zero_or_pos (placesS p s n).length with h0 | h0
    · exact h0
    · have := h 0 h0; have := placesS_pos h0; omega
/-- the first place is 0 where the word stands there -/
theorem placesS_first {p s : List Int} {n : Nat} (hn : 0 < n) : (0 < (placesS p s n).length ∧ ix (placesS p s n) 0 = 0) ↔ standsB p s 0 = true := by
  constructor
  · rintro ⟨h1, h2⟩
    have hm := ix_mem h1
    rw [h2] at hm
    unfold placesS placesN at hm
    obtain ⟨t, ht, h0⟩ := List.mem_map.1 hm
    obtain rfl : t = 0 := by omega
    exact (List.mem_filter.1 ht).2
  · intro h
    induction n with
    | zero => omega
    | succ m ih =>
      rcases Nat.eq_zero_or_pos m with rfl | hm
      · rw [placesS_succ_yes h]; simp [placesS, placesN, ix]
      · obtain ⟨h1, h2⟩ := ih hm
        by_cases hs : standsB p s m = true
        · rw [placesS_succ_yes hs]
          exact ⟨by simp, by rw [ix_append_left h1]; exact h2⟩
        · rw [placesS_succ_no hs]
          exact ⟨h1, h2⟩
theorem standsB_long {p s : List Int} (h : s.length < p.length) : standsB p s 0 = false := by
  unfold standsB
  rw [decide_eq_false_iff_not]
  intro e
  have := congrArg List.length e
  simp at this
  omega

/-- on the side that is looked at? -/
def sideB (older : Bool) (W : Int) (k : Nat) : Prop := if older then (k : Int) < W else W < (k : Int)
/-- the line that is found first -/
structure Found (F : Nat → Bool) (older : Bool) (W : Int) (n k : Nat) : Prop where
  lt : k < n
  hit : F k = true
  side : sideB older W k
  first : ∀ j, j < n → sideB older W j → (if older then k < j else j < k) → F j = false
def NoFind (F : Nat → Bool) (older : Bool) (W : Int) (n : Nat) : Prop := ∀ j, j < n → sideB older W j → F j = false
theorem found_or (F : Nat → Bool) (older : Bool) (W : Int) (n : Nat) : (∃ k, Found F older W n k) ∨ NoFind F older W n := by
  cases older
  · -- newer: the least
    by_cases h : ∃ k, k < n ∧ F k = true ∧ W < (k : Int)
    · left
      obtain ⟨k, h1, h2, h3⟩ := h
      induction k using Nat.strongRecOn with
      | ind k ih =>
        by_cases h' : ∃ j, j < k ∧ F j = true ∧ W < (j : Int)
        · obtain ⟨j, g1, g2, g3⟩ := h'
          exact ih j g1 (by omega) g2 g3
        · refine ⟨k, h1, h2, by simpa [sideB] using h3, fun j hj hs hlt => ?_⟩
          simp only [sideB, Bool.false_eq_true, if_false] at hs hlt
          cases hF : F j
          · rfl
          · exact absurd ⟨j, hlt, hF, hs⟩ h'
    · right
      intro j hj hs
      simp only [sideB, Bool.false_eq_true, if_false] at hs
      cases hF : F j
      · rfl
      · exact absurd ⟨j, hj, hF, hs⟩ h
  · by_cases h : ∃ k, k < n ∧ F k = true ∧ (k : Int) < W
    · left
      obtain ⟨k, h1, h2, h3⟩ := h
      obtain ⟨d, hd⟩ : ∃ d, n - k = d := ⟨_, rfl⟩
      induction d using Nat.strongRecOn generalizing k with
      | ind d ih =>
        by_cases h' : ∃ j, j < n ∧ k < j ∧ F j = true ∧ (j : Int) < W
        · obtain ⟨j, g1, g2, g3, g4⟩ := h'
          exact ih (n - j) (by omega) j g1 g3 g4 rfl
        · refine ⟨k, h1, h2, by simpa [sideB] using h3, fun j hj hs hlt => ?_⟩
          simp only [sideB, if_true] at hs hlt
          cases hF : F j
          · rfl
          · exact absurd ⟨j, hj, hlt, hF, hs⟩ h'
    · right
      intro j hj hs
      simp only [sideB, if_true] at hs
      cases hF : F j
      · rfl
      · exact absurd ⟨j, hj, hF, hs⟩ h

end Go.Proofs.Ytbgbcmfgncneiaa
