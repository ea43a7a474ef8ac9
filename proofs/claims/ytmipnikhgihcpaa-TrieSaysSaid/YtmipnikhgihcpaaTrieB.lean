/- Contract of (*trie.Trie).List: what its loop holds. -/
import Derived.Test.YtmipnikhgihcpaaTrieA
import Derived.RangeFuncBox
import Derived.Maps.AppendAt
import Derived.Maps.OwnIn
namespace Go.Proofs.Ytmipnikhgihcpaa
open Go.RowKit Go.Shelf
set_option linter.unusedVariables false
set_option linter.unusedSimpArgs false

/-- what the loop holds: the words so far, in a row of its own -/
structure LInv (w : World) (b7 b5 : Nat) (most : Int) (s : List (List Int)) (W : World) : Prop where
  box : ∃ v vs, Boxed W b7 46 v ∧ VOwn 22 w.heap.size W v vs ∧ vs.length = s.length ∧ ∀ i, i < s.length → YV w.heap.size W (vx vs i) (rx s i)
  cm : Boxed W b5 3 (.int .i64 most)
  len : s.length ≤ most.toNat
  bel : Below w.heap.size w W
theorem LInv.below {w W W' : World} {b7 b5 : Nat} {most : Int} {s : List (List Int)} (h : LInv w b7 b5 most s W) (hb : Below W.heap.size W W') : LInv w b7 b5 most s W' := by
  obtain ⟨⟨v, vs, h1, h2, h3, h4⟩, hc, hl, hbel⟩ := h
  exact ⟨⟨v, vs, (hb.block _ h1.lt).trans h1, h2.kept hb, h3, fun i hi => (h4 i hi).keep (IKeep.of hb hbel.size)⟩, (hb.block _ hc.lt).trans hc, hl, hbel.trans (hb.mono hbel.size)⟩
theorem LInv.put {w W : World} {b7 b5 : Nat} {most : Int} {s : List (List Int)} (h : LInv w b7 b5 most s W) {l : Nat} {o : Obj} (o' : Obj) (hl : w.heap.size ≤ l) (ho : W.heap[l]? = some o) (hoc : o.isCells = false) : LInv w b7 b5 most s (W.putObj l o') := by
  obtain ⟨⟨v, vs, h1, h2, h3, h4⟩, hc, hle, hbel⟩ := h
  have hk := ikeep_put W l o o' hl ho hoc
  have hne : b7 ≠ l := by
    rintro rfl
    have := h1
    unfold Boxed at this
    rw [ho] at this
    cases this
    simp [Obj.isCells] at hoc
  refine ⟨⟨v, vs, (World.putObj_heap_other hne).trans h1, ownsRow_putObj h2 o' ho hoc, h3, fun i hi => (h4 i hi).keep hk⟩, hk.ints _ _ _ hc, hle, hbel.trans hk.below⟩
/-- a word more -/
theorem LInv.more {w W w1 : World} {b7 b5 : Nat} {most : Int} {s : List (List Int)} (h : LInv w b7 b5 most s W) {v v' x : Value} {vs : List Value} {xs : List Int} (hb7 : w.heap.size ≤ b7)
    (h1 : Boxed W b7 46 v) (h2 : VOwn 22 w.heap.size W v vs) (h3 : vs.length = s.length) (h4 : ∀ i, i < s.length → YV w.heap.size W (vx vs i) (rx s i)) (hx : YV w.heap.size W x xs) (hlt : s.length < most.toNat)
    (hown : VOwn 22 w.heap.size w1 v' (vs ++ [x])) (hg : (W.alloc (.cells #[x] 22)).grownBy w1 v.ownBlock) :
    IKeep w.heap.size W (w1.setCell ⟨b7, 0, none⟩ v') ∧ LInv w b7 b5 most (s ++ [xs]) (w1.setCell ⟨b7, 0, none⟩ v') := by
  have hs := h.bel.size
  have hW1 : Below w.heap.size W w1 := ((Below.refl _ W).alloc hs _).grown hg (Nat.le_trans hs (al_le W _)) h2.row
  have hints : ∀ (k : Nat) (cs : Array Value) (fr : Nat × Nat), W.heap[k]? = some (Obj.cells cs 3 fr) → (w1.setCell ⟨b7, 0, none⟩ v').heap[k]? = some (Obj.cells cs 3 fr) := by
    intro k cs fr hk
    have hkl := (Array.getElem?_eq_some_iff.1 hk).1
    have hne : k ≠ b7 := by
      rintro rfl
      have := h1
      unfold Boxed at this
      rw [hk] at this
      simp at this
    have hnr : some k ≠ v.ownBlock := by
      intro e
      rcases h2.2 with ⟨rfl, _⟩ | ⟨g, cap, cur, rfl, hb', hgg, rest⟩
      · simp [Value.ownBlock] at e
      · simp only [Value.ownBlock, Option.some.injEq] at e
        subst e
        rw [hk] at hgg
        simp at hgg
    rw [Below.heap_setCell _ _ _ _ hne, hg.block k (Nat.lt_of_lt_of_le hkl (al_le W _)) hnr, Below.heap_alloc _ _ _ hkl]
    exact hk
  have hK : IKeep w.heap.size W (w1.setCell ⟨b7, 0, none⟩ v') := ⟨hW1.setCell hb7 _, hints⟩
  have hbx1 : Boxed w1 b7 46 v := (h1.alloc _).kept hg (h1.not_row (by decide) h2)
  refine ⟨hK, ⟨⟨v', vs ++ [x], hbx1.set v', ?_, by simp [h3], fun i hi => ?_⟩, hK.ints _ _ _ h.cm, by simp; omega, h.bel.trans hK.below⟩⟩
  · exact hown.other (a := ⟨b7, 0, none⟩) (hbx1.not_row (by decide) hown) _
  · rw [List.length_append, List.length_singleton] at hi
    by_cases hi' : i < s.length
    · rw [vx_left (by omega), rx_left hi']; exact (h4 i hi').keep hK
    · obtain rfl : i = s.length := by omega
      rw [rx_new, ← h3]
      have : vx (vs ++ [x]) vs.length = x := by
        have := vx_right (vs := vs) (us := [x]) (i := 0)
        rw [Nat.add_zero] at this
        rw [this]; rfl
      rw [this]; exact hx.keep hK

end Go.Proofs.Ytmipnikhgihcpaa
