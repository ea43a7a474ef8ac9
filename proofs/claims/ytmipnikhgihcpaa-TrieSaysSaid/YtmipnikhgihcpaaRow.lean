/- Rows of numbers that the call has made: cells, stores. -/
import Derived.Test.YtmipnikhgihcpaaSlib
import Derived.Deep.OwnRows
namespace Go.Proofs.Ytmipnikhgihcpaa
open Go.RowKit
set_option linter.unusedVariables false
set_option linter.unusedSimpArgs false

theorem rowCell {w : World} {g : Nat} {slots : List Int} {T : TypeId} (h : Blk w g (slots.map (Value.int .i64)).toArray T) {i : Nat} (hi : i < slots.length) : w.cell? ⟨g, i, none⟩ = some (.int .i64 (ix slots i)) := by
  rw [h.cell i]; simp [ix, hi]
theorem rowSet {w : World} {g : Nat} {slots : List Int} {T : TypeId} (h : Blk w g (slots.map (Value.int .i64)).toArray T) (i : Nat) (x : Int) : Blk (w.setCell ⟨g, i, none⟩ (.int .i64 x)) g ((slots.set i x).map (Value.int .i64)).toArray T := by
  have := h.set i (.int .i64 x)
  rwa [show (slots.map (Value.int .i64)).toArray.setIfInBounds i (.int .i64 x) = ((slots.set i x).map (Value.int .i64)).toArray from by simp [List.map_set]] at this
theorem madeRow (n : Nat) : madeCells #[.int .i64 0] n = ((List.replicate n (0 : Int)).map (Value.int .i64)).toArray := by
  apply Array.toList_inj.1
  rw [toList_madeCells_one]; simp
theorem ixSetNe {l : List Int} {i j : Nat} {x : Int} (h : i ≠ j) : ix (l.set i x) j = ix l j := by
  unfold ix; simp [List.getElem?_set, h]
theorem ixSetEq {l : List Int} {i : Nat} {x : Int} (h : i < l.length) : ix (l.set i x) i = x := by
  unfold ix; simp [List.getElem?_set, h]

theorem ints_row {w : World} {g : Nat} {slots : List Int} {T : TypeId} (h : Blk w g (slots.map (Value.int .i64)).toArray T) : Ints w (some ⟨g, 0, none⟩) slots :=
  .inr ⟨g, 0, rfl, fun i hi => by rw [Nat.zero_add]; exact rowCell h hi⟩

end Go.Proofs.Ytmipnikhgihcpaa
