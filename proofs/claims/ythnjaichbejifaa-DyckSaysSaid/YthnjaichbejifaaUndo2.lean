/- Contracts of package undo at int: copied, newest, Back, Again. -/
import Derived.Test.YthnjaichbejifaaUndo
namespace Go.Proofs.Ythnjaichbejifaa
open Go.RowKit
set_option linter.unusedVariables false
set_option linter.unusedSimpArgs false

/-- two rows do not share a block -/
def Sep (v1 v2 : Value) : Prop := v1.ownBlock = none ∨ v1.ownBlock ≠ v2.ownBlock

theorem Own.sep {e : TypeId} {base : Nat} {w1 w2 : World} {v1 v2 : Value} {xs ys : List Int} (h1 : Own e base w1 v1 xs) (h2 : Own e w1.heap.size w2 v2 ys) : Sep v1 v2 := by
  rcases hv : v1.ownBlock with _ | k
  · exact .inl hv
  · refine .inr ?_
    rw [hv]
    exact h2.ne (World.ownsRow.lt h1 k hv).2
theorem Sep.symm {v1 v2 : Value} (h : Sep v1 v2) : Sep v2 v1 := by
  rcases h with h | h
  · rcases hv : v2.ownBlock with _ | k
    · exact .inl hv
    · exact .inr (by rw [h, hv]; simp)
  · exact .inr (fun e => h e.symm)

theorem Own.grown {e : TypeId} {base : Nat} {w w' : World} {v v2 : Value} {xs : List Int} (h : Own e base w v xs) (hg : w.grownBy w' v2.ownBlock) (hs : Sep v v2) : Own e base w' v xs := World.ownsRow.kept h hg hs

def CopiedPost (xs ys : List Int) (w : World) (e : Ending) (w' : World) : Prop :=
  ∃ v1 v2, e = .returned (.agg #[v1, v2]) ∧ Own 3 w.heap.size w' v1 xs ∧ Own 3 w.heap.size w' v2 ys ∧ Sep v1 v2 ∧ Below w.heap.size w w'

/-- two blocks are made: the first stays, the second may be written -/
def TwoB (w w' : World) : Prop := Below w.heap.size w w' ∧ w.heap.size + 2 ≤ w'.heap.size ∧ ∃ u v, Blk w' (w.heap.size + 1) #[u, v] 35
theorem TwoB.then {w w1 w2 : World} (h : TwoB w w1) (hb : Below w1.heap.size w1 w2) : TwoB w w2 := by
  obtain ⟨h1, h2, u, v, h3⟩ := h
  exact ⟨below_then h1 h1.size hb, Nat.le_trans h2 hb.size, u, v, h3.below hb (by omega)⟩
theorem TwoB.cells {w w' : World} (h : TwoB w w') : ∃ u v, w'.cell? ⟨w.heap.size + 1, 0, none⟩ = some u ∧ w'.cell? ⟨w.heap.size + 1, 1, none⟩ = some v ∧ w'.frozen? ⟨w.heap.size + 1, 0, none⟩ = false ∧ w'.frozen? ⟨w.heap.size + 1, 1, none⟩ = false := by
  obtain ⟨h1, h2, u, v, h3⟩ := h
  exact ⟨u, v, h3.two⟩
theorem TwoB.store {w w' : World} (h : TwoB w w') (x y : Value) : TwoB w ((w'.setCell ⟨w.heap.size + 1, 0, none⟩ x).setCell ⟨w.heap.size + 1, 1, none⟩ y) := by
  obtain ⟨h1, h2, u, v, h3⟩ := h
  exact ⟨(h1.setCell (by simp) _).setCell (by simp) _, by simpa [World.setCell] using h2, x, y, (h3.set 0 x).set 1 y⟩
theorem keepT {w w1 w2 : World} {u v : Value} (h : w1.cell? ⟨w.heap.size, 0, none⟩ = some u ∧ w1.cell? ⟨w.heap.size, 1, none⟩ = some v ∧ TwoB w w1) (hb : Below w1.heap.size w1 w2) :
    w2.cell? ⟨w.heap.size, 0, none⟩ = some u ∧ w2.cell? ⟨w.heap.size, 1, none⟩ = some v ∧ TwoB w w2 := ⟨below_keeps hb _ _ h.1, below_keeps hb _ _ h.2.1, h.2.2.then hb⟩
theorem keepT2 {w w1 : World} {u v x y : Value} (h : w1.cell? ⟨w.heap.size, 0, none⟩ = some u ∧ w1.cell? ⟨w.heap.size, 1, none⟩ = some v ∧ TwoB w w1) :
    ((w1.setCell ⟨w.heap.size + 1, 0, none⟩ x).setCell ⟨w.heap.size + 1, 1, none⟩ y).cell? ⟨w.heap.size, 0, none⟩ = some u ∧ ((w1.setCell ⟨w.heap.size + 1, 0, none⟩ x).setCell ⟨w.heap.size + 1, 1, none⟩ y).cell? ⟨w.heap.size, 1, none⟩ = some v ∧ TwoB w ((w1.setCell ⟨w.heap.size + 1, 0, none⟩ x).setCell ⟨w.heap.size + 1, 1, none⟩ y) := by
  refine ⟨?_, ?_, h.2.2.store x y⟩
  · rw [World.cell?_setCell_other _ _ _ _ (by simp), World.cell?_setCell_other _ _ _ _ (by simp)]; exact h.1
  · rw [World.cell?_setCell_other _ _ _ _ (by simp), World.cell?_setCell_other _ _ _ _ (by simp)]; exact h.2.1

set_option maxRecDepth 100000 in
theorem undo_copied (a1 a2 : Option Addr) (n1 c1 n2 c2 : Nat) (xs ys : List Int) (w : World) (h1 : Ints w a1 xs) (h2 : Ints w a2 ys) (hn1 : xs.length = n1) (hn2 : ys.length = n2) (hl1 : n1 ≤ 17592186044416) (hl2 : n2 ≤ 17592186044416)
    (z1 : a1 = none → n1 = 0) (z2 : a2 = none → n2 = 0) :
    Calls Try.prog 81 #[.agg #[.slice a1 n1 c1, .slice a2 n2 c2]] w (CopiedPost xs ys w) := by
  have HN1 := Lib.hid hn1; have HN2 := Lib.hid hn2; clear hn1 hn2
  have Z1 := Lib.hid z1; have Z2 := Lib.hid z2; clear z1 z2
  go_enter Try.func81, Try.ntmps81
  go_wp2
  have hb2 := below2 w (.cells #[.slice a1 n1 c1, .slice a2 n2 c2] 35) (.cells #[.slice none 0 0, .slice none 0 0] 35)
  have hB0 := (Blk.new w #[.slice a1 n1 c1, .slice a2 n2 c2] 35).alloc (.cells #[.slice none 0 0, .slice none 0 0] 35)
  have hB1 := Blk.new (w.alloc (.cells #[.slice a1 n1 c1, .slice a2 n2 c2] 35)) #[.slice none 0 0, .slice none 0 0] 35
  rw [World.size_alloc] at hB1
  have hT : TwoB w ((w.alloc (.cells #[.slice a1 n1 c1, .slice a2 n2 c2] 35)).alloc (.cells #[.slice none 0 0, .slice none 0 0] 35)) := ⟨hb2, by simp, _, _, hB1⟩
  generalize hW : (w.alloc (.cells #[.slice a1 n1 c1, .slice a2 n2 c2] 35)).alloc (.cells #[.slice none 0 0, .slice none 0 0] 35) = W at *
  clear hW
  obtain ⟨c00, c01, -, -⟩ := hB0.two
  go_region_held3 (fun w' => w'.cell? ⟨w.heap.size, 0, none⟩ = some (.slice a1 n1 c1) ∧ w'.cell? ⟨w.heap.size, 1, none⟩ = some (.slice a2 n2 c2) ∧ TwoB w w') (first | exact ⟨c00, c01, hT.then (Below.refl _ _).drew⟩ | assumption | exact keepT ‹_› ‹_› | exact keepT2 ‹_›)
    (first | (go_at_call 22; refine (slices_clone a1 n1 c1 xs _ (h1.below (And.left (And.right (And.right ‹_›)))) HN1.out hl1 Z1.out).mono ?_; rintro e w1 ⟨v1, rfl, hown1, hbel1⟩; obtain ⟨a3, n3, m3, rfl⟩ := hown1.form; obtain ⟨_, _, q0, q1, q2, q3⟩ := (TwoB.then (And.right (And.right ‹_›)) hbel1).cells) | (go_at_call 22; refine (slices_clone a2 n2 c2 ys _ (h2.below (And.left (And.right (And.right ‹_›)))) HN2.out hl2 Z2.out).mono ?_; rintro e w2 ⟨v2, rfl, hown2, hbel2⟩; obtain ⟨a4, n4, m4, rfl⟩ := hown2.form; obtain ⟨_, _, r0, r1, r2, r3⟩ := (TwoB.then (And.right (And.right ‹_›)) hbel2).cells))
  go_wp2
  have hS1 := hbel1.size
  have hT2 : TwoB w w2 := (hT.then (Below.refl _ _).drew).then hbel1 |>.then hbel2
  obtain ⟨t1, t2, u, v, t3⟩ := hT2
  obtain ⟨y0, y1, -, -⟩ := Blk.two ((t3.set 0 (.slice a3 n3 m3)).set 1 (.slice a4 n4 m4))
  refine bodyPost_ret (v := .agg #[.slice a3 n3 m3, .slice a4 n4 m4]) (by simp [results, Try.results81, go_sem, y0, y1]) rfl ?_
  have hWs : w.heap.size + 2 ≤ W.heap.size := hT.2.1
  refine ⟨_, _, rfl, ?_, ?_, hown1.sep hown2, (t1.setCell (by simp) _).setCell (by simp) _⟩
  · exact (((hown1.kept hbel2).setCell (by show _ < W.heap.size; simp; omega) _).setCell (by show _ < W.heap.size; simp; omega) _).mono (by show w.heap.size ≤ W.heap.size; omega)
  · exact ((hown2.setCell (by have : W.heap.size ≤ w1.heap.size := hS1; simp; omega) _).setCell (by have : W.heap.size ≤ w1.heap.size := hS1; simp; omega) _).mono (by have : W.heap.size ≤ w1.heap.size := hS1; omega)

end Go.Proofs.Ythnjaichbejifaa
