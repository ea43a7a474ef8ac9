/- Plain laws of brackets: the stack and the taking away of pairs answer alike. -/
import Derived.Test.YthnjaichbejifaaDyck3
namespace Go.Proofs.Ythnjaichbejifaa
set_option linter.unusedVariables false
set_option linter.unusedSimpArgs false

theorem runS_append (a b st : List Int) : runS (a ++ b) st = (runS a st).bind (runS b) := by
  induction a generalizing st with
  | nil => rfl
  | cons c a ih =>
    show (stepS st c).bind (runS (a ++ b)) = ((stepS st c).bind (runS a)).bind (runS b)
    cases stepS st c with
    | none => rfl
    | some s => exact ih s

theorem openS_other (c : Int) : openS c = 0 ↔ otherS c = 0 := by
  rcases sevenWays c with rfl | rfl | rfl | rfl | rfl | rfl | ⟨h1, h2, h3, h4, h5, h6⟩
  all_goals first
    | decide
    | simp [openS, otherS, h1, h2, h3, h4, h5, h6]
theorem opens {o : Int} (h : o = openS o) (h0 : openS o ≠ 0) : otherS o ≠ 0 ∧ shutS o = false ∧ otherS (closeS o) = o ∧ shutS (closeS o) = true := by
  rcases sevenWays o with rfl | rfl | rfl | rfl | rfl | rfl | ⟨h1, h2, h3, h4, h5, h6⟩
  all_goals first
    | decide
    | exact absurd h (by decide)
    | exact absurd (by simp [openS, h1, h2, h3, h4, h5, h6]) h0
theorem shuts {c : Int} (h : shutS c = true) : otherS c = openS (otherS c) ∧ c = closeS (otherS c) := by
  rcases sevenWays c with rfl | rfl | rfl | rfl | rfl | rfl | ⟨h1, h2, h3, h4, h5, h6⟩
  all_goals first
    | decide
    | exact absurd h (by decide)
    | simp [shutS, h4, h5, h6] at h

theorem runS_pair {o : Int} (h : o = openS o) (h0 : openS o ≠ 0) (b st : List Int) : runS (o :: closeS o :: b) st = runS b st := by
  obtain ⟨h1, h2, h3, h4⟩ := opens h h0
  have hz : otherS (closeS o) ≠ 0 := by rw [h3, h]; exact h0
  have e1 : stepS st o = some (st ++ [o]) := by simp [stepS, h1, h2]
  have e2 : stepS (st ++ [o]) (closeS o) = some st := by
    have : ix (st ++ [o]) st.length = o := by simp [ix]
    have hx : otherS (closeS o) = o := h3
    simp [stepS, h4, this, hx]
    intro hh; exact absurd (by rw [hx]; exact hh) hz
  show (stepS st o).bind (fun s => (stepS s (closeS o)).bind (runS b)) = _
  rw [e1]; show (stepS (st ++ [o]) (closeS o)).bind (runS b) = _
  rw [e2]; rfl

theorem runS_cut {o : Int} (h : o = openS o) (h0 : openS o ≠ 0) (a b st : List Int) : runS (a ++ o :: closeS o :: b) st = runS (a ++ b) st := by
  rw [runS_append, runS_append]
  cases runS a st with
  | none => rfl
  | some s => exact runS_pair h h0 b s

theorem runS_filter (l st : List Int) : runS (l.filter fun c => decide (openS c ≠ 0)) st = runS l st := by
  induction l generalizing st with
  | nil => rfl
  | cons c l ih =>
    by_cases h : openS c = 0
    · rw [List.filter_cons_of_neg (by simp [h]), ih]
      show _ = (stepS st c).bind (runS l)
      rw [show stepS st c = some st from by simp [stepS, (openS_other c).1 h]]; rfl
    · rw [List.filter_cons_of_pos (by simp [h])]
      show (stepS st c).bind _ = (stepS st c).bind (runS l)
      cases stepS st c with
      | none => rfl
      | some s => exact ih s

def NoAdj : List Int → Prop
  | a :: b :: l => ¬ (a = openS a ∧ b = closeS a) ∧ NoAdj (b :: l)
  | _ => True
theorem noAdj_of_ix : ∀ (l : List Int), (∀ i, i + 1 < l.length → ¬ (ix l i = openS (ix l i) ∧ ix l (i + 1) = closeS (ix l i))) → NoAdj l
  | [], _ => trivial
  | [_], _ => trivial
  | a :: b :: l, h => ⟨by have := h 0 (by simp); simpa [ix] using this, noAdj_of_ix (b :: l) fun i hi => by have := h (i + 1) (by simp at hi ⊢; omega); simpa [ix] using this⟩

theorem stuck : ∀ (l : List Int) (x : Int) (st : List Int), NoAdj (x :: l) → (∀ c ∈ l, openS c ≠ 0) → runS l (st ++ [x]) ≠ some []
  | [], x, st, _, _ => by simp [runS]
  | c :: l, x, st, h, hb => by
    have hc : otherS c ≠ 0 := fun hz => hb c (by simp) ((openS_other c).2 hz)
    show (stepS (st ++ [x]) c).bind (runS l) ≠ some []
    by_cases hs : shutS c = false
    · rw [show stepS (st ++ [x]) c = some ((st ++ [x]) ++ [c]) from by simp [stepS, hc, hs]]
      exact stuck l c (st ++ [x]) h.2 fun d hd => hb d (by simp [hd])
    · have hs2 : shutS c = true := by simpa using hs
      obtain ⟨h1, h2⟩ := shuts hs2
      have hne : x ≠ otherS c := fun hx => h.1 ⟨by rw [hx]; exact h1, by rw [hx]; exact h2⟩
      have hl : ix (st ++ [x]) st.length = x := by simp [ix]
      rw [show stepS (st ++ [x]) c = none from by simp [stepS, hc, hs2, hl, hne]]
      simp

theorem noAdj_stuck (l : List Int) (h : NoAdj l) (hb : ∀ c ∈ l, openS c ≠ 0) (hne : l ≠ []) : runS l [] ≠ some [] := by
  cases l with
  | nil => exact absurd rfl hne
  | cons c l =>
    have hc : otherS c ≠ 0 := fun hz => hb c (by simp) ((openS_other c).2 hz)
    show (stepS [] c).bind (runS l) ≠ some []
    by_cases hs : shutS c = false
    · rw [show stepS [] c = some ([] ++ [c]) from by simp [stepS, hc, hs]]
      exact stuck l c [] h fun d hd => hb d (by simp [hd])
    · have hs2 : shutS c = true := by simpa using hs
      rw [show stepS [] c = none from by simp [stepS, hc, hs2]]
      simp

end Go.Proofs.Ythnjaichbejifaa
