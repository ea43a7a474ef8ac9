/- Base lemmas: lists of numbers in memory. No walk stands here. -/
import Derived.WalkKit
import Derived.WalkSpells
import Derived.WalkLawsBesides
import Derived.Lib.Hide
import Derived.Below
namespace Go.Proofs.Ytmipnikhgihcpaa
open Go.RowKit
set_option linter.unusedVariables false
set_option linter.unusedSimpArgs false

theorem ret1_int {k : IntKind} {a c : Int} (h : a = c) : Ending.returned (.int k a) = .returned (.int k c) := by rw [h]
theorem ret1_bool {a c : Bool} (h : a = c) : Ending.returned (.bool a) = .returned (.bool c) := by rw [h]
theorem ret2_int {k l : IntKind} {a b c d : Int} (h : a = c) (h' : b = d) : Ending.returned (.tuple #[.int k a, .int l b]) = .returned (.tuple #[.int k c, .int l d]) := by rw [h, h']
theorem ret2_ib {k : IntKind} {a c : Int} {b d : Bool} (h : a = c) (h' : b = d) : Ending.returned (.tuple #[.int k a, .bool b]) = .returned (.tuple #[.int k c, .bool d]) := by rw [h, h']

/-- the number at a place of a list; the walk does not look behind this name -/
def ix (xs : List Int) (i : Nat) : Int := xs.getD i 0

theorem ix_eq {xs : List Int} {i : Nat} (h : i < xs.length) : ix xs i = xs[i] := by simp [ix, h]
theorem ix_ext {xs ys : List Int} (hl : xs.length = ys.length) (h : ∀ i, i < xs.length → ix xs i = ix ys i) : xs = ys := by
  apply List.ext_getElem hl
  intro i h1 h2
  have := h i h1
  rwa [ix_eq h1, ix_eq h2] at this
theorem ix_mem {xs : List Int} {i : Nat} (h : i < xs.length) : ix xs i ∈ xs := by rw [ix_eq h]; exact List.getElem_mem h
theorem ix_append_left {xs ys : List Int} {i : Nat} (h : i < xs.length) : ix (xs ++ ys) i = ix xs i := by
  rw [ix_eq h, ix_eq (by simp; omega), List.getElem_append_left h]
theorem ix_append_right {xs ys : List Int} {i : Nat} : ix (xs ++ ys) (xs.length + i) = ix ys i := by
  simp [ix, List.getElem?_append_right]
theorem take_succ_ix {xs : List Int} {k : Nat} (h : k < xs.length) : xs.take (k + 1) = xs.take k ++ [ix xs k] := by
  rw [List.take_succ_eq_append_getElem h, ix_eq h]

/-- in the range of Go's int -/
def InR (x : Int) : Prop := -9223372036854775808 ≤ x ∧ x ≤ 9223372036854775807
theorem InR.of_wf {x : Int} (h : (Lit.int .i64 x).wf = true) : InR x := by
  simpa [Lit.wf, IntKind.min, IntKind.max, IntKind.signed, IntKind.bits, InR] using h

/-- the cells from a on read as the numbers xs -/
def Ints (w : World) (a : Option Addr) (xs : List Int) : Prop :=
  xs = [] ∨ ∃ b o, a = some ⟨b, o, none⟩ ∧ ∀ i, i < xs.length → w.cell? ⟨b, o + i, none⟩ = some (.int .i64 (ix xs i))

theorem Ints.nil (w : World) (a : Option Addr) : Ints w a [] := .inl rfl

theorem Ints.at {w : World} {a : Option Addr} {xs : List Int} (h : Ints w a xs) {k : Nat} (hk : k < xs.length) :
    ∃ b o, a = some ⟨b, o, none⟩ ∧ ∀ i, i < xs.length → w.cell? ⟨b, o + i, none⟩ = some (.int .i64 (ix xs i)) := by
  rcases h with h | h
  · subst h; simp at hk
  · exact h

theorem Ints.keep {w w' : World} {a : Option Addr} {xs : List Int} (h : Ints w a xs) (hc : ∀ p v, w.cell? p = some v → w'.cell? p = some v) : Ints w' a xs := by
  rcases h with h | ⟨b, o, ha, h⟩
  · exact .inl h
  · exact .inr ⟨b, o, ha, fun i hi => hc _ _ (h i hi)⟩

theorem cell_lt {w : World} {p : Addr} {v : Value} (h : w.cell? p = some v) : p.block < w.heap.size := World.block_lt_of_cell? w p h

theorem below_keeps {w w' : World} (h : Below w.heap.size w w') : ∀ p v, w.cell? p = some v → w'.cell? p = some v :=
  fun p v hp => by rw [h.cell (cell_lt hp)]; exact hp

theorem Ints.below {w w' : World} {a : Option Addr} {xs : List Int} (h : Ints w a xs) (hb : Below w.heap.size w w') : Ints w' a xs := h.keep (below_keeps hb)

theorem cell?_drewN (w : World) (n : Nat) (p : Addr) : (w.drewN n).cell? p = w.cell? p := rfl

theorem Ints.drewN {w : World} {a : Option Addr} {xs : List Int} (h : Ints w a xs) (n : Nat) : Ints (w.drewN n) a xs := h.keep (fun _ _ h => h)

theorem Ints.drew {w : World} {a : Option Addr} {xs : List Int} (h : Ints w a xs) : Ints w.drew a xs := h.keep (fun _ _ h => h)

theorem Ints.take {w : World} {a : Option Addr} {xs : List Int} (h : Ints w a xs) (k : Nat) : Ints w a (xs.take k) := by
  rcases h with h | ⟨b, o, ha, h⟩
  · subst h; exact .inl (by simp)
  · refine .inr ⟨b, o, ha, fun i hi => ?_⟩
    have hl : i < xs.length := by simp at hi; omega
    rw [h i hl, ix_eq hl, ix_eq hi]; simp

theorem Ints.drop {w : World} {b o : Nat} {xs : List Int} (h : Ints w (some ⟨b, o, none⟩) xs) (k : Nat) : Ints w (some ⟨b, o + k, none⟩) (xs.drop k) := by
  rcases h with h | ⟨b', o', ha, h⟩
  · subst h; exact .inl (by simp)
  · simp only [Option.some.injEq, Addr.mk.injEq] at ha
    obtain ⟨rfl, rfl, -⟩ := ha
    refine .inr ⟨b, o + k, rfl, fun i hi => ?_⟩
    have hl : k + i < xs.length := by simp at hi; omega
    rw [show o + k + i = o + (k + i) from by omega, h _ hl, ix_eq hl, ix_eq hi]; simp

theorem Ints.of_row {w : World} {x : Addr} {zs : List Int} {n : Nat} (hc : ∀ i, i < zs.length → w.cell? (x.add i) = some (.int .i64 (zs.getD i 0))) (hn : n ≤ zs.length) : Ints w (some x) (zs.take n) := by
  rcases Nat.eq_zero_or_pos n with rfl | h0
  · exact .inl (by simp)
  · obtain ⟨b, o, sp⟩ := x
    have hspot : sp = none := by simpa [Addr.add] using World.cell?_spot (hc 0 (by omega))
    subst hspot
    refine .inr ⟨b, o, rfl, fun i hi => ?_⟩
    have hl : i < zs.length := by simp at hi; omega
    have hadd : (⟨b, o, none⟩ : Addr).add i = ⟨b, o + i, none⟩ := by unfold Addr.add; split <;> simp_all
    rw [← hadd, hc i hl, ix_eq hi]; simp [hl]

theorem Ints.of_owns {w : World} {base : Nat} {e : TypeId} {v : Value} {n : Nat} {xs : List Int} (h : w.ownsRow base e 1 v n (xs.map (Value.int .i64))) :
    ∃ a c, v = .slice a xs.length c ∧ xs.length = n ∧ n ≤ c ∧ Ints w a xs := by
  have hl : xs.length = n := by have := h.1; simpa using this
  subst hl
  rcases h.2 with ⟨rfl, h0⟩ | ⟨g, cap, cur, rfl, hb, hg, hn, hm, hs, ht⟩
  · have : xs = [] := List.eq_nil_of_length_eq_zero h0
    subst this
    exact ⟨none, 0, rfl, rfl, Nat.le_refl _, .inl rfl⟩
  · refine ⟨some ⟨g, 0, none⟩, cap, rfl, rfl, hn, .inr ⟨g, 0, rfl, fun i hi => ?_⟩⟩
    have := h.cells (g := g) rfl i (.int .i64 (ix xs i)) (by simp [ix, hi])
    have hadd : (⟨g, 0, none⟩ : Addr).add i = ⟨g, 0 + i, none⟩ := by unfold Addr.add; split <;> simp_all
    rwa [hadd] at this

/-- a block known whole -/
def Blk (w : World) (B : Nat) (cs : Array Value) (e : TypeId) : Prop := w.heap[B]? = some (.cells cs e (0, 0))

theorem Blk.cell {w : World} {B : Nat} {cs : Array Value} {e : TypeId} (h : Blk w B cs e) (i : Nat) : w.cell? ⟨B, i, none⟩ = cs[i]? := by simp [World.cell?, show w.heap[B]? = _ from h]
theorem Blk.free {w : World} {B : Nat} {cs : Array Value} {e : TypeId} (h : Blk w B cs e) (i : Nat) : w.frozen? ⟨B, i, none⟩ = false := by
  simp [World.frozen?, show w.heap[B]? = _ from h]
theorem Blk.lt {w : World} {B : Nat} {cs : Array Value} {e : TypeId} (h : Blk w B cs e) : B < w.heap.size := (Array.getElem?_eq_some_iff.1 h).1
theorem below1 (w : World) (o : Obj) : Below w.heap.size w (w.alloc o) := (Below.refl _ _).alloc (Nat.le_refl _) o
theorem below2 (w : World) (o o' : Obj) : Below w.heap.size w ((w.alloc o).alloc o') := (below1 w o).alloc (by simp) o'
theorem below3 (w : World) (o o' o2 : Obj) : Below w.heap.size w (((w.alloc o).alloc o').alloc o2) := (below2 w o o').alloc (by simp; omega) o2
theorem below_drewN {B : Nat} {a w : World} (h : Below B a w) (n : Nat) : Below B a (w.drewN n) := ⟨h.os, h.tape, h.output, h.size, h.block⟩
theorem below_then {B : Nat} {a b c : World} (h : Below B a b) (hB : B ≤ b.heap.size) (k : Below b.heap.size b c) : Below B a c := h.trans (k.mono hB)
theorem Blk.one {w : World} {B : Nat} {u0 : Value} {e : TypeId} (h : Blk w B #[u0] e) : w.cell? ⟨B, 0, none⟩ = some u0 ∧ w.frozen? ⟨B, 0, none⟩ = false := ⟨h.cell 0, h.free 0⟩
theorem Blk.two {w : World} {B : Nat} {u0 u1 : Value} {e : TypeId} (h : Blk w B #[u0, u1] e) : w.cell? ⟨B, 0, none⟩ = some u0 ∧ w.cell? ⟨B, 1, none⟩ = some u1 ∧ w.frozen? ⟨B, 0, none⟩ = false ∧ w.frozen? ⟨B, 1, none⟩ = false := ⟨h.cell 0, h.cell 1, h.free 0, h.free 1⟩
theorem Blk.three {w : World} {B : Nat} {u0 u1 u2 : Value} {e : TypeId} (h : Blk w B #[u0, u1, u2] e) : w.cell? ⟨B, 0, none⟩ = some u0 ∧ w.cell? ⟨B, 1, none⟩ = some u1 ∧ w.cell? ⟨B, 2, none⟩ = some u2 ∧ w.frozen? ⟨B, 0, none⟩ = false ∧ w.frozen? ⟨B, 1, none⟩ = false ∧ w.frozen? ⟨B, 2, none⟩ = false := ⟨h.cell 0, h.cell 1, h.cell 2, h.free 0, h.free 1, h.free 2⟩
theorem Blk.alloc {w : World} {B : Nat} {cs : Array Value} {e : TypeId} (h : Blk w B cs e) (o : Obj) : Blk (w.alloc o) B cs e := by
  unfold Blk; rw [Below.heap_alloc _ _ _ h.lt]; exact h
theorem Blk.new (w : World) (cs : Array Value) (e : TypeId) : Blk (w.alloc (.cells cs e)) w.heap.size cs e := heap_alloc_new w _
theorem Blk.drewN {w : World} {B : Nat} {cs : Array Value} {e : TypeId} (h : Blk w B cs e) (n : Nat) : Blk (w.drewN n) B cs e := h
theorem Blk.drew {w : World} {B : Nat} {cs : Array Value} {e : TypeId} (h : Blk w B cs e) : Blk w.drew B cs e := h
theorem Blk.other {w : World} {B : Nat} {cs : Array Value} {e : TypeId} (h : Blk w B cs e) {a : Addr} (ha : B ≠ a.block) (u : Value) : Blk (w.setCell a u) B cs e := by
  unfold Blk; rw [Below.heap_setCell _ _ _ _ ha]; exact h
theorem Blk.set {w : World} {B : Nat} {cs : Array Value} {e : TypeId} (h : Blk w B cs e) (i : Nat) (u : Value) : Blk (w.setCell ⟨B, i, none⟩ u) B (cs.setIfInBounds i u) e := by
  unfold Blk at *; simp [World.setCell, Array.getElem?_modify, h]
theorem Blk.grown {w w' : World} {B : Nat} {cs : Array Value} {e : TypeId} {row : Option Nat} (h : Blk w B cs e) (hg : w.grownBy w' row) (hr : some B ≠ row) : Blk w' B cs e := by
  unfold Blk; rw [hg.block B h.lt hr]; exact h
theorem Blk.below {w w' : World} {B N : Nat} {cs : Array Value} {e : TypeId} (h : Blk w B cs e) (hb : Below N w w') (hN : B < N) : Blk w' B cs e := by
  unfold Blk; rw [hb.block B hN]; exact h

/-- the numbers xs in a row of the call's own: blocks from base on -/
def Own (e : TypeId) (base : Nat) (w : World) (v : Value) (xs : List Int) : Prop := w.ownsRow base e 1 v xs.length (xs.map (Value.int .i64))

theorem Own.nil (e : TypeId) (base : Nat) (w : World) : Own e base w (.slice none 0 0) [] := World.ownsRow_nil _ _ _ _
theorem Own.alloc {e : TypeId} {base : Nat} {w : World} {v : Value} {xs : List Int} (h : Own e base w v xs) (o : Obj) : Own e base (w.alloc o) v xs := World.ownsRow.alloc h o
theorem Own.setCell {e : TypeId} {base : Nat} {w : World} {v : Value} {xs : List Int} (h : Own e base w v xs) {a : Addr} (ha : a.block < base) (u : Value) : Own e base (w.setCell a u) v xs := ownsRow_setCell_below h ha u
theorem Own.drewN {e : TypeId} {base : Nat} {w : World} {v : Value} {xs : List Int} (h : Own e base w v xs) (n : Nat) : Own e base (w.drewN n) v xs := h
theorem Own.drew {e : TypeId} {base : Nat} {w : World} {v : Value} {xs : List Int} (h : Own e base w v xs) : Own e base w.drew v xs := h
theorem Own.other {e : TypeId} {base : Nat} {w : World} {v : Value} {xs : List Int} (h : Own e base w v xs) {a : Addr} (ha : some a.block ≠ v.ownBlock) (u : Value) : Own e base (w.setCell a u) v xs := by
  refine ⟨h.1, ?_⟩
  rcases h.2 with hn | ⟨g, cap, cur, rfl, hb', hgg, rest⟩
  · exact .inl hn
  · exact .inr ⟨g, cap, cur, rfl, hb', by rw [Below.heap_setCell _ _ _ _ (by intro e; exact ha (by simp [Value.ownBlock, e]))]; exact hgg, rest⟩
theorem Own.neOf {e : TypeId} {base : Nat} {w : World} {v : Value} {xs : List Int} (h : Own e base w v xs) {B : Nat} (hB : w.heap.size ≤ B) : some B ≠ v.ownBlock := by
  intro he
  have := World.ownsRow.lt h B he.symm
  omega
/-- a block of another element type is no row's -/
theorem Own.neBlk {e e' : TypeId} {base : Nat} {w : World} {v : Value} {xs : List Int} {B : Nat} {cs : Array Value} (h : Own e base w v xs) (hB : Blk w B cs e') (he : e ≠ e') : some B ≠ v.ownBlock := by
  rcases h.2 with ⟨rfl, _⟩ | ⟨g, cap, cur, rfl, hb', hgg, rest⟩
  · simp [Value.ownBlock]
  · intro hv
    simp only [Value.ownBlock, Option.some.injEq] at hv
    subst hv
    rw [show w.heap[B]? = _ from hB] at hgg
    simp at hgg
    exact he hgg.2.symm
theorem Own.kept {e : TypeId} {base : Nat} {w w' : World} {v : Value} {xs : List Int} (h : Own e base w v xs) (hb : Below w.heap.size w w') : Own e base w' v xs := by
  refine ⟨h.1, ?_⟩
  rcases h.2 with hn | ⟨g, cap, cur, rfl, hb', hgg, rest⟩
  · exact .inl hn
  · exact .inr ⟨g, cap, cur, rfl, hb', by rw [hb.block g (Array.getElem?_eq_some_iff.1 hgg).1]; exact hgg, rest⟩
theorem Own.mono {e : TypeId} {base base' : Nat} {w : World} {v : Value} {xs : List Int} (h : Own e base w v xs) (hb : base' ≤ base) : Own e base' w v xs := by
  refine ⟨h.1, ?_⟩
  rcases h.2 with hn | ⟨g, cap, cur, rfl, hb', rest⟩
  · exact .inl hn
  · exact .inr ⟨g, cap, cur, rfl, by omega, rest⟩
theorem Own.ints {e : TypeId} {base : Nat} {w : World} {v : Value} {xs : List Int} (h : Own e base w v xs) :
    ∃ a c, v = .slice a xs.length c ∧ xs.length ≤ c ∧ Ints w a xs := by
  obtain ⟨a, c, h1, _, h3, h4⟩ := Ints.of_owns h
  exact ⟨a, c, h1, h3, h4⟩
theorem Own.get {e : TypeId} {base : Nat} {w : World} {a : Option Addr} {n c : Nat} {xs : List Int} (h : Own e base w (.slice a n c) xs) : xs.length = n ∧ Ints w a xs ∧ n ≤ c := by
  obtain ⟨a', c', h1, h2, h3⟩ := h.ints
  simp only [Value.slice.injEq] at h1
  obtain ⟨rfl, rfl, rfl⟩ := h1
  exact ⟨rfl, h3, h2⟩
theorem Own.full {e : TypeId} {base : Nat} {w : World} {v : Value} {xs : List Int} (h : Own e base w v xs) (hne : 0 < xs.length) :
    ∃ g k c, v = .slice (some ⟨g, 0, none⟩) k c ∧ k ≤ xs.length ∧ xs.length ≤ k ∧ k ≤ c ∧ c ≤ 9223372036854775807 ∧ base ≤ g ∧ g < w.heap.size ∧ Ints w (some ⟨g, 0, none⟩) xs := by
  have hi := h.ints
  rcases h.2 with ⟨rfl, h0⟩ | ⟨g, cap, cur, rfl, hb, hg, hn, hm, hs, ht⟩
  · omega
  · obtain ⟨a, c, hv, hc, hints⟩ := hi
    simp only [Value.slice.injEq] at hv
    obtain ⟨rfl, _, rfl⟩ := hv
    exact ⟨g, xs.length, cap, rfl, Nat.le_refl _, Nat.le_refl _, hn, by unfold maxLen at hm; omega, hb, (Array.getElem?_eq_some_iff.1 hg).1, hints⟩
theorem Own.form {e : TypeId} {base : Nat} {w : World} {v : Value} {xs : List Int} (h : Own e base w v xs) : ∃ a n c, v = .slice a n c := by
  obtain ⟨a, c, h1, _⟩ := h.ints
  exact ⟨a, _, c, h1⟩
theorem Own.ne {e : TypeId} {base : Nat} {w : World} {v : Value} {xs : List Int} (h : Own e base w v xs) {B : Nat} (hB : B < base) : some B ≠ v.ownBlock := by
  intro he
  have := World.ownsRow.lt h B he.symm
  omega
theorem Own.row {e : TypeId} {base : Nat} {w : World} {v : Value} {xs : List Int} (h : Own e base w v xs) : ∀ k, v.ownBlock = some k → base ≤ k := fun k hk => (World.ownsRow.lt h k hk).1

theorem cell_new1 (w : World) (v : Value) (T : TypeId) : (w.alloc (.cells #[v] T)).cell? ⟨w.heap.size, 0, none⟩ = some v := by
  rw [World.cell?_alloc_at _ _ _ _ rfl]; rfl
theorem cell_newAt (w : World) (v : Value) (T : TypeId) {n : Nat} (h : n = w.heap.size) : (w.alloc (.cells #[v] T)).cell? ⟨n, 0, none⟩ = some v := by
  subst h; exact cell_new1 w v T
theorem size_setCell (w : World) (a : Addr) (u : Value) : (w.setCell a u).heap.size = w.heap.size := by simp [World.setCell]
theorem size_alloc_le {w : World} {n : Nat} (h : n ≤ w.heap.size) (o : Obj) : n ≤ (w.alloc o).heap.size := by rw [World.size_alloc]; omega

theorem drewN_drewN (w : World) (a b : Nat) : (w.drewN a).drewN b = w.drewN (a + b) := by
  simp [World.drewN, Nat.add_assoc]

end Go.Proofs.Ytmipnikhgihcpaa
