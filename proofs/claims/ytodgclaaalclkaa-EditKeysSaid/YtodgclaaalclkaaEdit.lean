/- What edit.Key answers: plain. -/
import Derived.Test.YtodgclaaalclkaaWord4
import Derived.Test.YtodgclaaalclkaaCat
import Derived.Deep.RegionHeld3
import Derived.Deep.RegionLaw
import Derived.Deep.DeepCutAuto
import Derived.Deep.CutBlock
namespace Go.Proofs.Ytodgclaaalclkaa
open Go.RowKit
set_option linter.unusedVariables false
set_option linter.unusedSimpArgs false

/-- the line, the place and the error; b: where the word behind the place begins -/
def keyS (xs : List Int) (p : Int) (mode key b : Int) : List Int × Int × Int :=
  if 200 < xs.length then ([], 0, 2)
  else if p < 0 ∨ (xs.length : Int) < p ∨ (mode ≠ 1 ∧ mode ≠ 2) then ([], 0, 1)
  else if 32 ≤ key ∧ key ≠ 127 then
    if mode = 2 ∧ p < xs.length then (xs.take p.toNat ++ [key] ++ xs.drop (p.toNat + 1), p + 1, 0)
    else if xs.length = 200 then ([], 0, 8) else (xs.take p.toNat ++ [key] ++ xs.drop p.toNat, p + 1, 0)
  else if key ≠ 8 ∧ key ≠ 127 ∧ key ≠ 21 ∧ key ≠ 23 then ([], 0, 9)
  else if p = 0 then ([], 0, 5)
  else if key = 21 then (xs.drop p.toNat, 0, 0)
  else if key = 23 then (xs.take b.toNat ++ xs.drop p.toNat, b, 0)
  else if mode = 2 then (xs, p - 1, 0)
  else (xs.take (p.toNat - 1) ++ xs.drop p.toNat, p - 1, 0)

def UsesB (xs : List Int) (p mode key : Int) : Prop := xs.length ≤ 200 ∧ 0 < p ∧ p ≤ (xs.length : Int) ∧ (mode = 1 ∨ mode = 2) ∧ key = 23
theorem keyS_indep {xs : List Int} {p mode key : Int} (h : ¬ UsesB xs p mode key) (b b' : Int) : keyS xs p mode key b = keyS xs p mode key b' := by
  unfold keyS
  by_cases h1 : 200 < xs.length
  · rw [if_pos h1, if_pos h1]
  · rw [if_neg h1, if_neg h1]
    by_cases h2 : p < 0 ∨ (xs.length : Int) < p ∨ (mode ≠ 1 ∧ mode ≠ 2)
    · rw [if_pos h2, if_pos h2]
    · rw [if_neg h2, if_neg h2]
      by_cases h3 : 32 ≤ key ∧ key ≠ 127
      · rw [if_pos h3, if_pos h3]
      · rw [if_neg h3, if_neg h3]
        by_cases h4 : key ≠ 8 ∧ key ≠ 127 ∧ key ≠ 21 ∧ key ≠ 23
        · rw [if_pos h4, if_pos h4]
        · rw [if_neg h4, if_neg h4]
          by_cases h5 : p = 0
          · rw [if_pos h5, if_pos h5]
          · rw [if_neg h5, if_neg h5]
            by_cases h6 : key = 21
            · rw [if_pos h6, if_pos h6]
            · rw [if_neg h6, if_neg h6]
              by_cases h7 : key = 23
              · exact absurd ⟨by omega, by omega, by omega, by omega, h7⟩ h
              · rw [if_neg h7, if_neg h7]
def KeyPost (back : Int → Prop) (xs : List Int) (p mode key : Int) (w : World) (e : Ending) (w' : World) : Prop :=
  ∃ a n c b, e = .returned (.tuple #[.agg #[.slice a n c, .int .i64 (keyS xs p mode key b).2.1], .int .i64 (keyS xs p mode key b).2.2]) ∧ (UsesB xs p mode key → back b) ∧ Ints w' a (keyS xs p mode key b).1 ∧ (keyS xs p mode key b).1.length = n ∧ n ≤ 1000 ∧ Below w.heap.size w w'
theorem KeyPost.of {back : Int → Prop} {xs ys : List Int} {p mode key b r er : Int} {w w' : World} {a : Option Addr} {n c : Nat} (hk : keyS xs p mode key b = (ys, r, er)) (hb : UsesB xs p mode key → back b) (hI : Ints w' a ys) (hl : ys.length = n) (hn : n ≤ 1000) (hbel : Below w.heap.size w w') :
    KeyPost back xs p mode key w (.returned (.tuple #[.agg #[.slice a n c, .int .i64 r], .int .i64 er])) w' :=
  ⟨a, n, c, b, by rw [hk], hb, by rw [hk]; exact hI, by rw [hk]; exact hl, hn, hbel⟩

/-- what lies ready ahead of the joining: the line's three pieces -/
structure Ready (w w2 wx : World) (back : Int → Prop) (a : Option Addr) (n c : Nat) (xs : List Int) (q : Nat) (mode key : Int) (f t : Nat) (a3 : Option Addr) (n3 c3 : Nat) : Prop where
  f1 : f ≤ n
  t1 : t ≤ n
  pieces : ∃ ys b, Ints wx a3 ys ∧ ys.length = n3 ∧ keyS xs q mode key b = (xs.take f ++ ys ++ xs.drop t, (f : Int) + (n3 : Int), 0) ∧ (UsesB xs q mode key → back b)
  top : n3 ≤ 1
  nil : a3 = none → n3 = 0
  box : Blk wx w.heap.size #[.slice a n c, .int .i64 (q : Int)] 24
  res : Blk wx (w.heap.size + 1) #[.slice none 0 0, .int .i64 0] 24
  bel : Below w2.heap.size w2 wx

end Go.Proofs.Ytodgclaaalclkaa
