/- Contract of fairref.Partner. -/
import Derived.Test.YtmipnikhgihcpaaDyck2
namespace Go.Proofs.Ytmipnikhgihcpaa
open Go.RowKit
set_option linter.unusedVariables false
set_option linter.unusedSimpArgs false

/-- what a place adds to the count of o less s -/
def dOS (l : List Int) (o s : Int) (i : Nat) : Int := (if ix l i = o then 1 else 0) - (if ix l i = s then 1 else 0)
/-- the count over t places, upward from k, or downward from k -/
def cnt (l : List Int) (o s : Int) (at' : Nat → Nat) : Nat → Int
  | 0 => 0
  | t + 1 => cnt l o s at' t + dOS l o s (at' t)
theorem cnt_range (l : List Int) (o s : Int) (at' : Nat → Nat) (t : Nat) : -(t : Int) ≤ cnt l o s at' t ∧ cnt l o s at' t ≤ t := by
  induction t with
  | zero => simp [cnt]
  | succ t ih =>
    have : -1 ≤ dOS l o s (at' t) ∧ dOS l o s (at' t) ≤ 1 := by unfold dOS; split <;> split <;> omega
    simp only [cnt]; push_cast; omega
def EndsB (l : List Int) (o s : Int) (at' : Nat → Nat) (t : Nat) : Prop := ix l (at' t) = s ∧ cnt l o s at' (t + 1) = 0
/-- what Partner answers: the first end within m places, or -1 -/
def PartP (l : List Int) (o s : Int) (at' : Nat → Nat) (m : Nat) (r : Int) : Prop :=
  (∃ t, t < m ∧ EndsB l o s at' t ∧ (∀ t', t' < t → ¬ EndsB l o s at' t') ∧ r = (at' t : Int)) ∨ ((∀ t, t < m → ¬ EndsB l o s at' t) ∧ r = -1)

end Go.Proofs.Ytmipnikhgihcpaa
