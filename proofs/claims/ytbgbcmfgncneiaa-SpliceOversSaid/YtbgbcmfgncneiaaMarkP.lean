/- Places that move with an edit: plain. No walk stands here. -/
import Derived.Test.YtbgbcmfgncneiaaSpl1
namespace Go.Proofs.Ytbgbcmfgncneiaa
open Go.RowKit
set_option linter.unusedVariables false
set_option linter.unusedSimpArgs false

/-- does an edit take the character at a place away? -/
def goesB (es : List Sp) (i : Int) : Bool := es.any fun s => decide (s.f ≤ i) && decide (i < s.t)
/-- what it puts in there -/
def txtP (i : Int) : List Int → List Sp → List Int
  | x, [] => x
  | x, s :: r => txtP i (if s.f = i then s.x else x) r
/-- what goes ahead of a place, of one splice -/
def remS (k : Int) (s : Sp) : Int := max 0 (min s.t k - min s.f k)
def remP (k : Int) : List Sp → Int
  | [] => 0
  | s :: r => remS k s + remP k r
/-- what comes ahead of a place -/
def addB (k : Int) (stick : Bool) (s : Sp) : Bool := (decide (s.f < k) && decide (s.t ≤ k)) || (!stick && decide (s.f ≤ k))
def addS (k : Int) (stick : Bool) (s : Sp) : Int := if addB k stick s = true then (s.x.length : Int) else 0
def addP (k : Int) (stick : Bool) : List Sp → Int
  | [] => 0
  | s :: r => addS k stick s + addP k stick r
def moved (es : List Sp) (k : Int) (stick : Bool) : Int := k - remP k es + addP k stick es

theorem goesB_cons (s : Sp) (r : List Sp) (i : Int) : goesB (s :: r) i = ((decide (s.f ≤ i) && decide (i < s.t)) || goesB r i) := by simp [goesB]
theorem goesB_late {n : Int} {es : List Sp} : ∀ {last : Int}, Good n last es → ∀ i, i ≤ last → goesB es i = false := by
  induction es with
  | nil => intro last h i hi; rfl
  | cons s r ih =>
    intro last h i hi
    obtain ⟨a, b, c, d, e, g⟩ := h
    rw [goesB_cons, ih g i (by omega)]
    simp; omega
theorem remP_late {n : Int} {es : List Sp} : ∀ {last : Int}, Good n last es → ∀ k, k ≤ last → remP k es = 0 := by
  induction es with
  | nil => intro last h i hi; rfl
  | cons s r ih =>
    intro last h k hk
    obtain ⟨a, b, c, d, e, g⟩ := h
    simp only [remP, remS]
    rw [ih g k (by omega)]
    omega
theorem remP_step {n : Int} {es : List Sp} : ∀ {last : Int}, Good n last es → ∀ i, remP (i + 1) es = remP i es + if goesB es i = true then 1 else 0 := by
  induction es with
  | nil => intro last h i; simp [remP, goesB]
  | cons s r ih =>
    intro last h i
    obtain ⟨a, b, c, d, e, g⟩ := h
    simp only [remP, remS]
    rw [ih g i, goesB_cons]
    by_cases h1 : s.f ≤ i ∧ i < s.t
    · rw [goesB_late g i (by omega)]
      have : (decide (s.f ≤ i) && decide (i < s.t)) = true := by simp; omega
      rw [this]
      simp; omega
    · have : (decide (s.f ≤ i) && decide (i < s.t)) = false := by
        rw [Bool.and_eq_false_iff]; simp; omega
      rw [this]
      simp only [Bool.false_or]
      split <;> omega
theorem remP_zero {n : Int} {es : List Sp} {last : Int} (h : Good n last es) (hl : -1 ≤ last) : remP 0 es = 0 := by
  induction es generalizing last with
  | nil => rfl
  | cons s r ih =>
    obtain ⟨a, b, c, d, e, g⟩ := h
    simp only [remP, remS]
    rw [ih g (by omega)]
    omega
theorem remP_bd {n : Int} {es : List Sp} : ∀ {last : Int}, Good n last es → ∀ k, 0 ≤ remP k es := by
  induction es with
  | nil => intro last h k; simp [remP]
  | cons s r ih =>
    intro last h k
    obtain ⟨a, b, c, d, e, g⟩ := h
    have := ih g k
    simp only [remP, remS]
    omega
theorem addS_bd (k : Int) (stick : Bool) (s : Sp) : 0 ≤ addS k stick s ∧ addS k stick s ≤ s.x.length := by unfold addS; split <;> omega
theorem addP_snoc (k : Int) (stick : Bool) (es : List Sp) (s : Sp) : addP k stick (es ++ [s]) = addP k stick es + addS k stick s := by
  induction es with
  | nil => simp [addP]
  | cons a r ih => simp [addP, ih]; omega
theorem addP_bd (k : Int) (stick : Bool) (es : List Sp) : 0 ≤ addP k stick es := by
  induction es with
  | nil => simp [addP]
  | cons a r ih => have := addS_bd k stick a; simp only [addP]; omega
theorem addP_late {n : Int} {es : List Sp} {stick : Bool} : ∀ {last : Int}, Good n last es → ∀ k, k ≤ last → addP k stick es = 0 := by
  induction es with
  | nil => intro last h i hi; rfl
  | cons s r ih =>
    intro last h k hk
    obtain ⟨a, b, c, d, e, g⟩ := h
    simp only [addP, addS]
    rw [ih g k (by omega)]
    have : addB k stick s = false := by
      simp only [addB, Bool.or_eq_false_iff, Bool.and_eq_false_iff, decide_eq_false_iff_not]
      exact ⟨by omega, by omega⟩
    rw [this]; simp

/-- the program's way -/
def mvL (k : Int) (stick : Bool) : Int → List Sp → Int
  | out, [] => out
  | out, s :: r => if k < s.f ∨ (s.f = k ∧ stick = true) then out else if s.t ≤ k then mvL k stick (out + ((s.x.length : Int) - (s.t - s.f))) r
    else if stick = true then out - (k - s.f) else out - (k - s.f) + (s.x.length : Int)
theorem mvL_stop {k out : Int} {stick : Bool} {s : Sp} {r : List Sp} (h : k < s.f ∨ (s.f = k ∧ stick = true)) : mvL k stick out (s :: r) = out := by rw [mvL, if_pos h]
theorem mvL_on {k out : Int} {stick : Bool} {s : Sp} {r : List Sp} (h : ¬ (k < s.f ∨ (s.f = k ∧ stick = true))) (h2 : s.t ≤ k) : mvL k stick out (s :: r) = mvL k stick (out + ((s.x.length : Int) - (s.t - s.f))) r := by rw [mvL, if_neg h, if_pos h2]
theorem mvL_in {k out : Int} {stick : Bool} {s : Sp} {r : List Sp} (h : ¬ (k < s.f ∨ (s.f = k ∧ stick = true))) (h2 : ¬ s.t ≤ k) : mvL k stick out (s :: r) = if stick = true then out - (k - s.f) else out - (k - s.f) + (s.x.length : Int) := by rw [mvL, if_neg h, if_neg h2]
theorem mvL_eq {n k : Int} {stick : Bool} {es : List Sp} : ∀ {last : Int}, Good n last es → ∀ out, mvL k stick out es = out - remP k es + addP k stick es := by
  induction es with
  | nil => intro last h out; simp [mvL, remP, addP]
  | cons s r ih =>
    intro last h out
    have hh := h
    obtain ⟨a, b, c, d, e, g⟩ := h
    by_cases h1 : k < s.f ∨ (s.f = k ∧ stick = true)
    · rw [mvL_stop h1]
      simp only [remP, addP, remS, addS]
      rw [remP_late g k (by omega), addP_late g k (by omega)]
      have : addB k stick s = false := by
        simp only [addB, Bool.or_eq_false_iff, Bool.and_eq_false_iff, decide_eq_false_iff_not, Bool.not_eq_false']
        rcases h1 with h1 | ⟨h1, h2⟩
        · exact ⟨by omega, by omega⟩
        · exact ⟨by omega, .inl h2⟩
      rw [this]
      simp; omega
    · by_cases h2 : s.t ≤ k
      · rw [mvL_on h1 h2, ih g]
        simp only [remP, addP, remS, addS]
        have : addB k stick s = true := by
          simp only [addB, Bool.or_eq_true, Bool.and_eq_true, decide_eq_true_eq, Bool.not_eq_true']
          by_cases h3 : s.f < k
          · exact .inl ⟨h3, h2⟩
          · refine .inr ⟨?_, by omega⟩
            cases stick with
            | false => rfl
            | true => exact absurd (.inr ⟨by omega, rfl⟩) h1
        rw [this]
        simp; omega
      · rw [mvL_in h1 h2]
        simp only [remP, addP, remS, addS]
        rw [remP_late g k (by omega), addP_late g k (by omega)]
        cases stick with
        | false =>
          have : addB k false s = true := by
            simp only [addB, Bool.or_eq_true, Bool.and_eq_true, decide_eq_true_eq, Bool.not_eq_true']
            exact .inr ⟨by simp, by omega⟩
          rw [this]
          simp; omega
        | true =>
          have : addB k true s = false := by
            simp [addB]; omega
          rw [this]
          simp; omega
theorem mvL_moved {n k : Int} {stick : Bool} {es : List Sp} (h : Good n (-1) es) : mvL k stick k es = moved es k stick := by rw [mvL_eq h]; rfl

end Go.Proofs.Ytbgbcmfgncneiaa
