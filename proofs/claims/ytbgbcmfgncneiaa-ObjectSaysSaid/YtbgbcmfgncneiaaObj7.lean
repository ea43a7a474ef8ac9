/- Contract of object.Of. -/
import Derived.Test.YtbgbcmfgncneiaaObj6
import Derived.Test.YtbgbcmfgncneiaaDyckR
import Derived.Test.YtbgbcmfgncneiaaObjQ
namespace Go.Proofs.Ytbgbcmfgncneiaa
open Go.RowKit
set_option linter.unusedVariables false
set_option linter.unusedSimpArgs false

def QuotesP (l : List Int) (k : Nat) (around : Bool) (q a b er : Int) : Prop :=
  (∃ i, i < l.length ∧ QFound l k q i ∧ (∀ j, j < i → ¬ QFound l k q j) ∧
      a = (if around = true then quoteS l q i else quoteS l q i + 1) ∧ b = (if around = true then (i : Int) + 1 else (i : Int)) ∧ er = 0) ∨
   ((∀ i, i < l.length → ¬ QFound l k q i) ∧ a = 0 ∧ b = 0 ∧ er = 6)
def BracketsP (l ps : List Int) (k : Nat) (around : Bool) (o a b er : Int) : Prop :=
  (∃ i, i < l.length ∧ i ≤ k ∧ BFound l ps k o i ∧ (∀ j, i < j → j ≤ k → j < l.length → ¬ BFound l ps k o j) ∧
      a = (if around = true then (i : Int) else (i : Int) + 1) ∧ b = (if around = true then ix ps i + 1 else ix ps i) ∧ er = 0) ∨
   ((∀ i, i < l.length → i ≤ k → ¬ BFound l ps k o i) ∧ a = 0 ∧ b = 0 ∧ er = 6)
def OfWP (l : List Int) (around : Bool) (k : Nat) (big : Bool) (a b er : Int) : Prop :=
  (l.length = 0 ∧ a = 0 ∧ b = 0 ∧ er = 6) ∨ (0 < l.length ∧ er = 0 ∧ ∃ f t : Nat, a = f ∧ b = t ∧ WordsP l big around k f t)
theorem QuotesP.one {l : List Int} {k : Nat} {around : Bool} {q a b er a' b' er' : Int} (h : QuotesP l k around q a b er) (h' : QuotesP l k around q a' b' er') : a = a' ∧ b = b' ∧ er = er' := by
  rcases h with ⟨i, h1, h2, h3, rfl, rfl, rfl⟩ | ⟨h1, rfl, rfl, rfl⟩ <;> rcases h' with ⟨i', g1, g2, g3, rfl, rfl, rfl⟩ | ⟨g1, rfl, rfl, rfl⟩
  · obtain rfl : i = i' := by
      rcases Nat.lt_trichotomy i i' with h | h | h
      · exact absurd h2 (g3 i h)
      · exact h
      · exact absurd g2 (h3 i' h)
    exact ⟨rfl, rfl, rfl⟩
  · exact absurd h2 (g1 i h1)
  · exact absurd g2 (h1 i' g1)
  · exact ⟨rfl, rfl, rfl⟩
theorem BracketsP.one {l ps : List Int} {k : Nat} {around : Bool} {o a b er a' b' er' : Int} (h : BracketsP l ps k around o a b er) (h' : BracketsP l ps k around o a' b' er') : a = a' ∧ b = b' ∧ er = er' := by
  rcases h with ⟨i, h1, h2, h3, h4, rfl, rfl, rfl⟩ | ⟨h1, rfl, rfl, rfl⟩ <;> rcases h' with ⟨i', g1, g2, g3, g4, rfl, rfl, rfl⟩ | ⟨g1, rfl, rfl, rfl⟩
  · obtain rfl : i = i' := by
      rcases Nat.lt_trichotomy i i' with h | h | h
      · exact absurd g3 (h4 i' h g2 g1)
      · exact h
      · exact absurd h3 (g4 i h h2 h1)
    exact ⟨rfl, rfl, rfl⟩
  · exact absurd h3 (g1 i h1 h2)
  · exact absurd g3 (h1 i' g1 g2)
  · exact ⟨rfl, rfl, rfl⟩
theorem OfWP.one {l : List Int} {around big : Bool} {k : Nat} {a b er a' b' er' : Int} (h : OfWP l around k big a b er) (h' : OfWP l around k big a' b' er') : a = a' ∧ b = b' ∧ er = er' := by
  rcases h with ⟨h0, rfl, rfl, rfl⟩ | ⟨h0, rfl, f, t, rfl, rfl, h1⟩ <;> rcases h' with ⟨g0, rfl, rfl, rfl⟩ | ⟨g0, rfl, f', t', rfl, rfl, g1⟩
  · exact ⟨rfl, rfl, rfl⟩
  · omega
  · omega
  · obtain ⟨rfl, rfl⟩ := h1.one g1; exact ⟨rfl, rfl, rfl⟩

/-- which of the kinds of things a key means -/
def OfP (l ps : List Int) (around : Bool) (k : Nat) (key a b er : Int) : Prop :=
  if key = 119 then OfWP l around k false a b er
  else if key = 87 then OfWP l around k true a b er
  else if key = 34 ∨ key = 39 ∨ key = 96 then QuotesP l k around key a b er
  else if openS key = 0 then a = 0 ∧ b = 0 ∧ er = 9
  else BracketsP l ps k around (openS key) a b er
theorem OfP.one {l ps : List Int} {around : Bool} {k : Nat} {key a b er a' b' er' : Int} (h : OfP l ps around k key a b er) (h' : OfP l ps around k key a' b' er') : a = a' ∧ b = b' ∧ er = er' := by
  unfold OfP at h h'
  split at h
  · rename_i e; rw [if_pos e] at h'; exact h.one h'
  · rename_i e; rw [if_neg e] at h'
    split at h
    · rename_i e; rw [if_pos e] at h'; exact h.one h'
    · rename_i e; rw [if_neg e] at h'
      split at h
      · rename_i e; rw [if_pos e] at h'; exact h.one h'
      · rename_i e; rw [if_neg e] at h'
        split at h
        · rename_i e; rw [if_pos e] at h'
          obtain ⟨rfl, rfl, rfl⟩ := h
          obtain ⟨rfl, rfl, rfl⟩ := h'
          exact ⟨rfl, rfl, rfl⟩
        · rename_i e; rw [if_neg e] at h'; exact h.one h'

/-- three numbers of which P holds; old memory stands -/
def Out3 (P : Int → Int → Int → Prop) (w : World) (e : Ending) (w' : World) : Prop :=
  ∃ a b er : Int, e = .returned (.tuple #[.int .i64 a, .int .i64 b, .int .i64 er]) ∧ P a b er ∧ Below w.heap.size w w'

set_option maxRecDepth 100000 in
theorem object_of_large (a : Option Addr) (n c : Nat) (k key : Int) (around : Bool) (w : World) (h2 : 4096 < n) (h3 : n ≤ 9223372036854775807) :
    Calls Try.prog 51 #[.slice a n c, .int .i64 k, .bool around, .int .i64 key] w (Out3 (fun x y z => x = 0 ∧ y = 0 ∧ z = 2) w) := by
  go_enter Try.func51, Try.ntmps51
  go_wp2
  go_ret3
  exact ⟨0, 0, 2, rfl, ⟨rfl, rfl, rfl⟩, Below.refl _ _⟩
set_option maxRecDepth 100000 in
theorem object_of_arg (a : Option Addr) (n c : Nat) (k key : Int) (around : Bool) (w : World) (h2 : n ≤ 4096) (hk : k < 0 ∨ (0 < k ∧ (n : Int) ≤ k)) :
    Calls Try.prog 51 #[.slice a n c, .int .i64 k, .bool around, .int .i64 key] w (Out3 (fun x y z => x = 0 ∧ y = 0 ∧ z = 1) w) := by
  rcases hk with hk | ⟨hk, hk2⟩
  · go_enter Try.func51, Try.ntmps51
    go_wp2
    go_ret3
    exact ⟨0, 0, 1, rfl, ⟨rfl, rfl, rfl⟩, Below.refl _ _⟩
  · have h0 : ¬ k < 0 := by omega
    by_cases hn : n = 0
    · subst hn
      go_enter Try.func51, Try.ntmps51
      go_wp2
      go_ret3
      exact ⟨0, 0, 1, rfl, ⟨rfl, rfl, rfl⟩, Below.refl _ _⟩
    · have h4 : (0 : Int) ≤ (n : Int) - 1 := by omega
      have h5 : (n : Int) - 1 < k := by omega
      go_enter Try.func51, Try.ntmps51
      go_wp2
      all_goals
        go_ret3
        exact ⟨0, 0, 1, rfl, ⟨rfl, rfl, rfl⟩, Below.refl _ _⟩

end Go.Proofs.Ytbgbcmfgncneiaa
