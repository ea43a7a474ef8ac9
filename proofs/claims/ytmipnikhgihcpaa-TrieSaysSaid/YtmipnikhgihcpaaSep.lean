/- Rows of the call's own: no block in common; a row without its last number. -/
import Derived.Test.YtmipnikhgihcpaaSlib
namespace Go.Proofs.Ytmipnikhgihcpaa
open Go.RowKit
set_option linter.unusedVariables false
set_option linter.unusedSimpArgs false

/-- two rows do not share a block -/
def Sep (v1 v2 : Value) : Prop := v1.ownBlock = none ∨ v1.ownBlock ≠ v2.ownBlock

theorem Own.sep {e : TypeId} {base : Nat} {w1 w2 : World} {v1 v2 : Value} {xs ys : List Int} (h1 : Own e base w1 v1 xs) (h2 : Own e w1.heap.size w2 v2 ys) : Sep v1 v2 := by
  rcases hv : v1.ownBlock with _ | k
  · exact .inl hv
  · refine .inr ?_
    rw [hv]
    exact h2.ne (World.ownsRow.lt h1 k hv).2
theorem Sep.symm {v1 v2 : Value} (h : Sep v1 v2) : Sep v2 v1 := by
  rcases h with h | h
  · rcases hv : v2.ownBlock with _ | k
    · exact .inl hv
    · exact .inr (by rw [h, hv]; simp)
  · exact .inr (fun e => h e.symm)

theorem Own.grown {e : TypeId} {base : Nat} {w w' : World} {v v2 : Value} {xs : List Int} (h : Own e base w v xs) (hg : w.grownBy w' v2.ownBlock) (hs : Sep v v2) : Own e base w' v xs := World.ownsRow.kept h hg hs

/-- the row without its last number -/
theorem Own.pop {e : TypeId} {base : Nat} {w : World} {g m c : Nat} {xs : List Int} (h : Own e base w (.slice (some ⟨g, 0, none⟩) (m + 1) c) xs) : Own e base w (.slice (some ⟨g, 0, none⟩) m c) xs.dropLast := by
  have hl := h.get.1
  have hd : xs.dropLast.length = m := by simp; omega
  rcases h.2 with ⟨h1, _⟩ | ⟨g', cap, cur, h1, h2, h3, h4, h5, h6, h7⟩
  · simp at h1
  · simp only [Value.slice.injEq, Option.some.injEq, Addr.mk.injEq] at h1
    obtain ⟨⟨rfl, _, _⟩, _, rfl⟩ := h1
    refine ⟨by simp, .inr ⟨g, c, cur, by rw [hd], h2, h3, by omega, h5, h6, ?_⟩⟩
    rw [hl] at h7
    have : (List.take ((m + 1) * 1) cur.toList).take (m * 1) = (xs.map (Value.int .i64)).take (m * 1) := by rw [h7]
    rw [List.take_take] at this
    rw [hd]
    rw [show min (m * 1) ((m + 1) * 1) = m * 1 from by omega] at this
    rw [this, Nat.mul_one, ← List.map_take, List.dropLast_eq_take, hl]
    rfl

end Go.Proofs.Ytmipnikhgihcpaa
