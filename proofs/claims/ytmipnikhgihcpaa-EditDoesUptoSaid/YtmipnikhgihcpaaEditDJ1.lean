/- LiftEditDoes, part 1: joined from the texts Base Slib Row CellsB Cat Sep Sl Reg1 Reg2 Reg3 Reg4 Reg5 RegO SplP Spl1 Cut SRow Spl4. No condition of its own. -/
import Derived.WalkKit
import Derived.WalkSpells
import Derived.WalkLawsBesides
import Derived.Lib.Hide
import Derived.Below
import Derived.Test.YtmipnikhgihcpaaRows
import Derived.Deep.QuietTactic
import Derived.BigQuiet
import Derived.Handy
import Derived.Lib.SliceRun
import Derived.Deep.OwnRows
import Derived.Deep.MidRow
import Derived.Laws.Rows
import Derived.Deep.DeepCutAuto
import Derived.Deep.CutBlock
import Derived.Lib.AppendZeros
import Derived.Deep.RegionHeld3
import Derived.Deep.RegionLaw
import Derived.Deep.AppendLies
set_option linter.unusedVariables false
set_option linter.unusedSimpArgs false
namespace Go.Proofs.Ytmipnikhgihcpaa
open Go.RowKit
theorem ret1_int {k : IntKind} {a c : Int} (h : a = c) : Ending.returned (.int k a) = .returned (.int k c) := by rw [h]
theorem ret1_bool {a c : Bool} (h : a = c) : Ending.returned (.bool a) = .returned (.bool c) := by rw [h]
theorem ret2_int {k l : IntKind} {a b c d : Int} (h : a = c) (h' : b = d) : Ending.returned (.tuple #[.int k a, .int l b]) = .returned (.tuple #[.int k c, .int l d]) := by rw [h, h']
theorem ret2_ib {k : IntKind} {a c : Int} {b d : Bool} (h : a = c) (h' : b = d) : Ending.returned (.tuple #[.int k a, .bool b]) = .returned (.tuple #[.int k c, .bool d]) := by rw [h, h']
def ix (xs : List Int) (i : Nat) : Int := xs.getD i 0
theorem ix_eq {xs : List Int} {i : Nat} (h : i < xs.length) : ix xs i = xs[i] := by simp [ix, h]
theorem ix_ext {xs ys : List Int} (hl : xs.length = ys.length) (h : ∀ i, i < xs.length → ix xs i = ix ys i) : xs = ys := by
 apply List.ext_getElem hl
 intro i h1 h2
 have := h i h1
 rwa [ix_eq h1, ix_eq h2] at this
theorem ix_append_left {xs ys : List Int} {i : Nat} (h : i < xs.length) : ix (xs ++ ys) i = ix xs i := by
 rw [ix_eq h, ix_eq (by simp; omega), List.getElem_append_left h]
theorem ix_append_right {xs ys : List Int} {i : Nat} : ix (xs ++ ys) (xs.length + i) = ix ys i := by
 simp [ix, List.getElem?_append_right]
def InR (x : Int) : Prop := -9223372036854775808 ≤ x ∧ x ≤ 9223372036854775807
theorem InR.of_wf {x : Int} (h : (Lit.int .i64 x).wf = true) : InR x := by
 simpa [Lit.wf, IntKind.min, IntKind.max, IntKind.signed, IntKind.bits, InR] using h
def Ints (w : World) (a : Option Addr) (xs : List Int) : Prop :=
 xs = [] ∨ ∃ b o, a = some ⟨b, o, none⟩ ∧ ∀ i, i < xs.length → w.cell? ⟨b, o + i, none⟩ = some (.int .i64 (ix xs i))
theorem Ints.nil (w : World) (a : Option Addr) : Ints w a [] := .inl rfl
theorem Ints.at {w : World} {a : Option Addr} {xs : List Int} (h : Ints w a xs) {k : Nat} (hk : k < xs.length) :
  ∃ b o, a = some ⟨b, o, none⟩ ∧ ∀ i, i < xs.length → w.cell? ⟨b, o + i, none⟩ = some (.int .i64 (ix xs i)) := by
 rcases h with h | h
 ·subst h; simp at hk
 ·exact h
theorem Ints.keep {w w' : World} {a : Option Addr} {xs : List Int} (h : Ints w a xs) (hc : ∀ p v, w.cell? p = some v → w'.cell? p = some v) : Ints w' a xs := by
 rcases h with h | ⟨b, o, ha, h⟩
 ·exact .inl h
 ·exact .inr ⟨b, o, ha, fun i hi => hc _ _ (h i hi)⟩
theorem cell_lt {w : World} {p : Addr} {v : Value} (h : w.cell? p = some v) : p.block < w.heap.size := World.block_lt_of_cell? w p h
theorem below_keeps {w w' : World} (h : Below w.heap.size w w') : ∀ p v, w.cell? p = some v → w'.cell? p = some v :=
 fun p v hp => by rw [h.cell (cell_lt hp)]; exact hp
theorem Ints.below {w w' : World} {a : Option Addr} {xs : List Int} (h : Ints w a xs) (hb : Below w.heap.size w w') : Ints w' a xs := h.keep (below_keeps hb)
theorem Ints.drewN {w : World} {a : Option Addr} {xs : List Int} (h : Ints w a xs) (n : Nat) : Ints (w.drewN n) a xs := h.keep (fun _ _ h => h)
theorem Ints.drew {w : World} {a : Option Addr} {xs : List Int} (h : Ints w a xs) : Ints w.drew a xs := h.keep (fun _ _ h => h)
theorem Ints.take {w : World} {a : Option Addr} {xs : List Int} (h : Ints w a xs) (k : Nat) : Ints w a (xs.take k) := by
 rcases h with h | ⟨b, o, ha, h⟩
 ·subst h; exact .inl (by simp)
 ·refine .inr ⟨b, o, ha, fun i hi => ?_⟩
  have hl : i < xs.length := by simp at hi; omega
  rw [h i hl, ix_eq hl, ix_eq hi]; simp
theorem Ints.drop {w : World} {b o : Nat} {xs : List Int} (h : Ints w (some ⟨b, o, none⟩) xs) (k : Nat) : Ints w (some ⟨b, o + k, none⟩) (xs.drop k) := by
 rcases h with h | ⟨b', o', ha, h⟩
 ·subst h; exact .inl (by simp)
 ·simp only [Option.some.injEq, Addr.mk.injEq] at ha
  obtain ⟨rfl, rfl, -⟩ := ha
  refine .inr ⟨b, o + k, rfl, fun i hi => ?_⟩
  have hl : k + i < xs.length := by simp at hi; omega
  rw [show o + k + i = o + (k + i) from by omega, h _ hl, ix_eq hl, ix_eq hi]; simp
theorem Ints.of_row {w : World} {x : Addr} {zs : List Int} {n : Nat} (hc : ∀ i, i < zs.length → w.cell? (x.add i) = some (.int .i64 (zs.getD i 0))) (hn : n ≤ zs.length) : Ints w (some x) (zs.take n) := by
 rcases Nat.eq_zero_or_pos n with rfl | h0
 ·exact .inl (by simp)
 ·obtain ⟨b, o, sp⟩ := x
  have hspot : sp = none := by simpa [Addr.add] using World.cell?_spot (hc 0 (by omega))
  subst hspot
  refine .inr ⟨b, o, rfl, fun i hi => ?_⟩
  have hl : i < zs.length := by simp at hi; omega
  have hadd : (⟨b, o, none⟩ : Addr).add i = ⟨b, o + i, none⟩ := by unfold Addr.add; split <;> simp_all
  rw [← hadd, hc i hl, ix_eq hi]; simp [hl]
theorem Ints.of_owns {w : World} {base : Nat} {e : TypeId} {v : Value} {n : Nat} {xs : List Int} (h : w.ownsRow base e 1 v n (xs.map (Value.int .i64))) :
  ∃ a c, v = .slice a xs.length c ∧ xs.length = n ∧ n ≤ c ∧ Ints w a xs := by
 have hl : xs.length = n := by have := h.1; simpa using this
 subst hl
 rcases h.2 with ⟨rfl, h0⟩ | ⟨g, cap, cur, rfl, hb, hg, hn, hm, hs, ht⟩
 ·have : xs = [] := List.eq_nil_of_length_eq_zero h0
  subst this
  exact ⟨none, 0, rfl, rfl, Nat.le_refl _, .inl rfl⟩
 ·refine ⟨some ⟨g, 0, none⟩, cap, rfl, rfl, hn, .inr ⟨g, 0, rfl, fun i hi => ?_⟩⟩
  have := h.cells (g := g) rfl i (.int .i64 (ix xs i)) (by simp [ix, hi])
  have hadd : (⟨g, 0, none⟩ : Addr).add i = ⟨g, 0 + i, none⟩ := by unfold Addr.add; split <;> simp_all
  rwa [hadd] at this
def Blk (w : World) (B : Nat) (cs : Array Value) (e : TypeId) : Prop := w.heap[B]? = some (.cells cs e (0, 0))
theorem Blk.cell {w : World} {B : Nat} {cs : Array Value} {e : TypeId} (h : Blk w B cs e) (i : Nat) : w.cell? ⟨B, i, none⟩ = cs[i]? := by simp [World.cell?, show w.heap[B]? = _ from h]
theorem Blk.free {w : World} {B : Nat} {cs : Array Value} {e : TypeId} (h : Blk w B cs e) (i : Nat) : w.frozen? ⟨B, i, none⟩ = false := by
 simp [World.frozen?, show w.heap[B]? = _ from h]
theorem Blk.lt {w : World} {B : Nat} {cs : Array Value} {e : TypeId} (h : Blk w B cs e) : B < w.heap.size := (Array.getElem?_eq_some_iff.1 h).1
theorem below1 (w : World) (o : Obj) : Below w.heap.size w (w.alloc o) := (Below.refl _ _).alloc (Nat.le_refl _) o
theorem below2 (w : World) (o o' : Obj) : Below w.heap.size w ((w.alloc o).alloc o') := (below1 w o).alloc (by simp) o'
theorem below_drewN {B : Nat} {a w : World} (h : Below B a w) (n : Nat) : Below B a (w.drewN n) := ⟨h.os, h.tape, h.output, h.size, h.block⟩
theorem below_then {B : Nat} {a b c : World} (h : Below B a b) (hB : B ≤ b.heap.size) (k : Below b.heap.size b c) : Below B a c := h.trans (k.mono hB)
theorem Blk.one {w : World} {B : Nat} {u0 : Value} {e : TypeId} (h : Blk w B #[u0] e) : w.cell? ⟨B, 0, none⟩ = some u0 ∧ w.frozen? ⟨B, 0, none⟩ = false := ⟨h.cell 0, h.free 0⟩
theorem Blk.two {w : World} {B : Nat} {u0 u1 : Value} {e : TypeId} (h : Blk w B #[u0, u1] e) : w.cell? ⟨B, 0, none⟩ = some u0 ∧ w.cell? ⟨B, 1, none⟩ = some u1 ∧ w.frozen? ⟨B, 0, none⟩ = false ∧ w.frozen? ⟨B, 1, none⟩ = false := ⟨h.cell 0, h.cell 1, h.free 0, h.free 1⟩
theorem Blk.three {w : World} {B : Nat} {u0 u1 u2 : Value} {e : TypeId} (h : Blk w B #[u0, u1, u2] e) : w.cell? ⟨B, 0, none⟩ = some u0 ∧ w.cell? ⟨B, 1, none⟩ = some u1 ∧ w.cell? ⟨B, 2, none⟩ = some u2 ∧ w.frozen? ⟨B, 0, none⟩ = false ∧ w.frozen? ⟨B, 1, none⟩ = false ∧ w.frozen? ⟨B, 2, none⟩ = false := ⟨h.cell 0, h.cell 1, h.cell 2, h.free 0, h.free 1, h.free 2⟩
theorem Blk.alloc {w : World} {B : Nat} {cs : Array Value} {e : TypeId} (h : Blk w B cs e) (o : Obj) : Blk (w.alloc o) B cs e := by
 unfold Blk; rw [Below.heap_alloc _ _ _ h.lt]; exact h
theorem Blk.new (w : World) (cs : Array Value) (e : TypeId) : Blk (w.alloc (.cells cs e)) w.heap.size cs e := heap_alloc_new w _
theorem Blk.drewN {w : World} {B : Nat} {cs : Array Value} {e : TypeId} (h : Blk w B cs e) (n : Nat) : Blk (w.drewN n) B cs e := h
theorem Blk.drew {w : World} {B : Nat} {cs : Array Value} {e : TypeId} (h : Blk w B cs e) : Blk w.drew B cs e := h
theorem Blk.other {w : World} {B : Nat} {cs : Array Value} {e : TypeId} (h : Blk w B cs e) {a : Addr} (ha : B ≠ a.block) (u : Value) : Blk (w.setCell a u) B cs e := by
 unfold Blk; rw [Below.heap_setCell _ _ _ _ ha]; exact h
theorem Blk.set {w : World} {B : Nat} {cs : Array Value} {e : TypeId} (h : Blk w B cs e) (i : Nat) (u : Value) : Blk (w.setCell ⟨B, i, none⟩ u) B (cs.setIfInBounds i u) e := by
 unfold Blk at *; simp [World.setCell, Array.getElem?_modify, h]
theorem Blk.grown {w w' : World} {B : Nat} {cs : Array Value} {e : TypeId} {row : Option Nat} (h : Blk w B cs e) (hg : w.grownBy w' row) (hr : some B ≠ row) : Blk w' B cs e := by
 unfold Blk; rw [hg.block B h.lt hr]; exact h
theorem Blk.below {w w' : World} {B N : Nat} {cs : Array Value} {e : TypeId} (h : Blk w B cs e) (hb : Below N w w') (hN : B < N) : Blk w' B cs e := by
 unfold Blk; rw [hb.block B hN]; exact h
def Own (e : TypeId) (base : Nat) (w : World) (v : Value) (xs : List Int) : Prop := w.ownsRow base e 1 v xs.length (xs.map (Value.int .i64))
theorem Own.nil (e : TypeId) (base : Nat) (w : World) : Own e base w (.slice none 0 0) [] := World.ownsRow_nil _ _ _ _
theorem Own.alloc {e : TypeId} {base : Nat} {w : World} {v : Value} {xs : List Int} (h : Own e base w v xs) (o : Obj) : Own e base (w.alloc o) v xs := World.ownsRow.alloc h o
theorem Own.setCell {e : TypeId} {base : Nat} {w : World} {v : Value} {xs : List Int} (h : Own e base w v xs) {a : Addr} (ha : a.block < base) (u : Value) : Own e base (w.setCell a u) v xs := ownsRow_setCell_below h ha u
theorem Own.drewN {e : TypeId} {base : Nat} {w : World} {v : Value} {xs : List Int} (h : Own e base w v xs) (n : Nat) : Own e base (w.drewN n) v xs := h
theorem Own.drew {e : TypeId} {base : Nat} {w : World} {v : Value} {xs : List Int} (h : Own e base w v xs) : Own e base w.drew v xs := h
theorem Own.other {e : TypeId} {base : Nat} {w : World} {v : Value} {xs : List Int} (h : Own e base w v xs) {a : Addr} (ha : some a.block ≠ v.ownBlock) (u : Value) : Own e base (w.setCell a u) v xs := by
 refine ⟨h.1, ?_⟩
 rcases h.2 with hn | ⟨g, cap, cur, rfl, hb', hgg, rest⟩
 ·exact .inl hn
 ·exact .inr ⟨g, cap, cur, rfl, hb', by rw [Below.heap_setCell _ _ _ _ (by intro e; exact ha (by simp [Value.ownBlock, e]))]; exact hgg, rest⟩
theorem Own.neBlk {e e' : TypeId} {base : Nat} {w : World} {v : Value} {xs : List Int} {B : Nat} {cs : Array Value} (h : Own e base w v xs) (hB : Blk w B cs e') (he : e ≠ e') : some B ≠ v.ownBlock := by
 rcases h.2 with ⟨rfl, _⟩ | ⟨g, cap, cur, rfl, hb', hgg, rest⟩
 ·simp [Value.ownBlock]
 ·intro hv
  simp only [Value.ownBlock, Option.some.injEq] at hv
  subst hv
  rw [show w.heap[B]? = _ from hB] at hgg
  simp at hgg
  exact he hgg.2.symm
theorem Own.kept {e : TypeId} {base : Nat} {w w' : World} {v : Value} {xs : List Int} (h : Own e base w v xs) (hb : Below w.heap.size w w') : Own e base w' v xs := by
 refine ⟨h.1, ?_⟩
 rcases h.2 with hn | ⟨g, cap, cur, rfl, hb', hgg, rest⟩
 ·exact .inl hn
 ·exact .inr ⟨g, cap, cur, rfl, hb', by rw [hb.block g (Array.getElem?_eq_some_iff.1 hgg).1]; exact hgg, rest⟩
theorem Own.mono {e : TypeId} {base base' : Nat} {w : World} {v : Value} {xs : List Int} (h : Own e base w v xs) (hb : base' ≤ base) : Own e base' w v xs := by
 refine ⟨h.1, ?_⟩
 rcases h.2 with hn | ⟨g, cap, cur, rfl, hb', rest⟩
 ·exact .inl hn
 ·exact .inr ⟨g, cap, cur, rfl, by omega, rest⟩
theorem Own.ints {e : TypeId} {base : Nat} {w : World} {v : Value} {xs : List Int} (h : Own e base w v xs) :
  ∃ a c, v = .slice a xs.length c ∧ xs.length ≤ c ∧ Ints w a xs := by
 obtain ⟨a, c, h1, _, h3, h4⟩ := Ints.of_owns h
 exact ⟨a, c, h1, h3, h4⟩
theorem Own.get {e : TypeId} {base : Nat} {w : World} {a : Option Addr} {n c : Nat} {xs : List Int} (h : Own e base w (.slice a n c) xs) : xs.length = n ∧ Ints w a xs ∧ n ≤ c := by
 obtain ⟨a', c', h1, h2, h3⟩ := h.ints
 simp only [Value.slice.injEq] at h1
 obtain ⟨rfl, rfl, rfl⟩ := h1
 exact ⟨rfl, h3, h2⟩
theorem Own.full {e : TypeId} {base : Nat} {w : World} {v : Value} {xs : List Int} (h : Own e base w v xs) (hne : 0 < xs.length) :
  ∃ g k c, v = .slice (some ⟨g, 0, none⟩) k c ∧ k ≤ xs.length ∧ xs.length ≤ k ∧ k ≤ c ∧ c ≤ 9223372036854775807 ∧ base ≤ g ∧ g < w.heap.size ∧ Ints w (some ⟨g, 0, none⟩) xs := by
 have hi := h.ints
 rcases h.2 with ⟨rfl, h0⟩ | ⟨g, cap, cur, rfl, hb, hg, hn, hm, hs, ht⟩
 ·omega
 ·obtain ⟨a, c, hv, hc, hints⟩ := hi
  simp only [Value.slice.injEq] at hv
  obtain ⟨rfl, _, rfl⟩ := hv
  exact ⟨g, xs.length, cap, rfl, Nat.le_refl _, Nat.le_refl _, hn, by unfold maxLen at hm; omega, hb, (Array.getElem?_eq_some_iff.1 hg).1, hints⟩
theorem Own.form {e : TypeId} {base : Nat} {w : World} {v : Value} {xs : List Int} (h : Own e base w v xs) : ∃ a n c, v = .slice a n c := by
 obtain ⟨a, c, h1, _⟩ := h.ints
 exact ⟨a, _, c, h1⟩
theorem Own.ne {e : TypeId} {base : Nat} {w : World} {v : Value} {xs : List Int} (h : Own e base w v xs) {B : Nat} (hB : B < base) : some B ≠ v.ownBlock := by
 intro he
 have := World.ownsRow.lt h B he.symm
 omega
theorem Own.row {e : TypeId} {base : Nat} {w : World} {v : Value} {xs : List Int} (h : Own e base w v xs) : ∀ k, v.ownBlock = some k → base ≤ k := fun k hk => (World.ownsRow.lt h k hk).1
theorem cell_new1 (w : World) (v : Value) (T : TypeId) : (w.alloc (.cells #[v] T)).cell? ⟨w.heap.size, 0, none⟩ = some v := by
 rw [World.cell?_alloc_at _ _ _ _ rfl]; rfl
theorem size_setCell (w : World) (a : Addr) (u : Value) : (w.setCell a u).heap.size = w.heap.size := by simp [World.setCell]
theorem size_alloc_le {w : World} {n : Nat} (h : n ≤ w.heap.size) (o : Obj) : n ≤ (w.alloc o).heap.size := by rw [World.size_alloc]; omega
theorem drewN_drewN (w : World) (a b : Nat) : (w.drewN a).drewN b = w.drewN (a + b) := by
 simp [World.drewN, Nat.add_assoc]
theorem info_int : (Try.prog.info? 3).map (fun i => (i.zero, i.size, i.bytes)) = some (some (.int .i64 0), 1, 8) := by kernel_rfl
theorem app1 {ops : Array Oper} {rest : List Oper} {o : Oper} {a : Act} {Q : Exit → Act → World → Prop} {w : World} (hgd : o.guard = none) (s x : Operand)
  (ho : o.op = .call { callee := .builtin .append, args := #[s, x], argTypes := #[22, 22] })
  (base : Nat) (v : Value) (xs : List Int) (y : Int) (ad : Addr) (hs : a.eval s = v) (hx : a.eval x = .slice (some ad) 1 1)
  (hown : Own 3 base w v xs) (hc : w.cell? ad = some (.int .i64 y)) (hl : xs.length < 17592186044416) (hbase : base ≤ w.heap.size)
  (h : ∀ v' w', Own 3 base w' v' (xs ++ [y]) → w.grownBy w' v.ownBlock → wpList Try.prog ops Q rest (a.put o.dst v') w') :
  wpList Try.prog ops Q (o :: rest) a w := by
 obtain ⟨i0, hi, hz0, hz1, hz2⟩ := info_parts info_int
 refine wpList_append_own w hgd s x 22 ho base 3 i0 (.int .i64 0) 1 8 Try.underlying22 hi hz0 hz1 hz2 rfl (by decide) v xs.length _ hs hown ad 1 1 [.int .i64 y] hx rfl ?_ ?_ ?_ ?_ hbase ?_
 ·intro j u hj
  match j with
  | 0 => simp at hj; subst hj; simpa [Addr.add] using hc
  | j + 1 => simp at hj
 ·intro u hu; simp at hu; subst hu; rfl
 ·unfold maxLen; omega
 ·omega
 ·intro v' w' h1 h2 _
  refine h v' w' ?_ h2
  unfold Own
  simpa using h1
theorem wp_appN {o : Oper} {a : Act} {K : Act → World → Prop} {Q : Exit → Act → World → Prop} {w : World} (s x : Operand)
  (ho : o.op = .call { callee := .builtin .append, args := #[s, x], argTypes := #[22, 22] })
  (base : Nat) (v : Value) (xs ys : List Int) (ad : Addr) (m c : Nat) (hs : a.eval s = v) (hx : a.eval x = .slice (some ad) m c)
  (hown : Own 3 base w v xs) (hy : Ints w (some ad) ys) (hm : ys.length = m) (hl : xs.length + m ≤ 17592186044416) (hbase : base ≤ w.heap.size)
  (h : ∀ v' w', Own 3 base w' v' (xs ++ ys) → w.grownBy w' v.ownBlock → (v' = .slice none 0 0 ↔ v = .slice none 0 0 ∧ m = 0) → K (a.put o.dst v') w') :
  o.wp Try.prog a w K Q := by
 obtain ⟨i0, hi, hz0, hz1, hz2⟩ := info_parts info_int
 refine wp_append_own w s x 22 ho base 3 i0 (.int .i64 0) 1 8 Try.underlying22 hi hz0 hz1 hz2 rfl (by decide) v xs.length _ hs hown ad m c (ys.map (Value.int .i64)) hx (by simp [hm]) ?_ ?_ ?_ ?_ hbase ?_
 ·intro j u hj
  have hlt : j < ys.length := by
   rcases Nat.lt_or_ge j ys.length with h | h
   ·exact h
   ·simp [h] at hj
  rcases hy with hy | ⟨b, o', ha, hc⟩
  ·subst hy; simp at hlt
  ·simp only [Option.some.injEq] at ha
   subst ha
   have hadd : (⟨b, o', none⟩ : Addr).add j = ⟨b, o' + j, none⟩ := by unfold Addr.add; split <;> simp_all
   rw [hadd, hc j hlt]
   rw [List.getElem?_map, List.getElem?_eq_getElem hlt] at hj
   rw [ix_eq hlt]; exact hj
 ·intro u hu
  obtain ⟨y, _, rfl⟩ := List.mem_map.1 hu
  rfl
 ·unfold maxLen; omega
 ·omega
 ·intro v' w' h1 h2 h3
  refine h v' w' ?_ h2 h3
  unfold Own
  simpa [hm] using h1
theorem appN {ops : Array Oper} {rest : List Oper} {o : Oper} {a : Act} {Q : Exit → Act → World → Prop} {w : World} (hgd : o.guard = none) (s x : Operand)
  (ho : o.op = .call { callee := .builtin .append, args := #[s, x], argTypes := #[22, 22] })
  (base : Nat) (v : Value) (xs ys : List Int) (ad : Addr) (m c : Nat) (hs : a.eval s = v) (hx : a.eval x = .slice (some ad) m c)
  (hown : Own 3 base w v xs) (hy : Ints w (some ad) ys) (hm : ys.length = m) (hl : xs.length + m ≤ 17592186044416) (hbase : base ≤ w.heap.size)
  (h : ∀ v' w', Own 3 base w' v' (xs ++ ys) → w.grownBy w' v.ownBlock → (v' = .slice none 0 0 ↔ v = .slice none 0 0 ∧ m = 0) → wpList Try.prog ops Q rest (a.put o.dst v') w') :
  wpList Try.prog ops Q (o :: rest) a w :=
 wpList_plain hgd fun _ hK => wp_appN s x ho base v xs ys ad m c hs hx hown hy hm hl hbase fun v' w' h1 h2 h3 => hK _ _ (h v' w' h1 h2 h3)
theorem own_lit0 (w : World) (base : Nat) (hb : base ≤ w.heap.size) : Own 3 base (w.alloc (.cells #[] 3)) (.slice (some ⟨w.heap.size, 0, none⟩) 0 0) [] :=
 World.ownsRow_made w #[] 0 hb (by unfold maxLen; omega) rfl
def ClonePost (xs : List Int) (w : World) (e : Ending) (w' : World) : Prop := ∃ v, e = .returned v ∧ Own 3 w.heap.size w' v xs ∧ Below w.heap.size w w'
theorem slices_clone (a : Option Addr) (n c : Nat) (xs : List Int) (w : World) (ha : Ints w a xs) (hn : xs.length = n) (hl : n ≤ 17592186044416) (h0 : a = none → n = 0) :
  Calls Try.prog 98 #[.slice a n c] w (ClonePost xs w) := by
 have he := fun (w : World) (n' c' : Nat) => Lib.run_eql_slice_nil (P := Try.prog) w 22 3 a n c n' c' Try.underlying22
 rcases a with _ | ad
 ·obtain rfl : n = 0 := h0 rfl
  obtain rfl : xs = [] := List.eq_nil_of_length_eq_zero hn
  clear hn h0 ha
  go_enter Try.func98, Try.ntmps98
  go_wp2
  go_ret
  exact ⟨_, rfl, Own.nil _ _ _, Below.refl _ _⟩
 ·have HN := Lib.hid hn; clear hn h0
  go_enter Try.func98, Try.ntmps98
  go_wp2_with (at_builtin; refine appN rfl _ _ rfl w.heap.size _ _ xs ad n c rfl rfl (own_lit0 w w.heap.size (Nat.le_refl _)) (ha.below (below1 _ _)) HN.out (by simpa using hl) (by simp) ?_; intro v1 w1 hown1 hgrow1 _)
  go_ret
  exact ⟨v1, rfl, by simpa using hown1, (below1 w _).grown hgrow1 (by simp) (own_lit0 w w.heap.size (Nat.le_refl _)).row⟩
set_option maxHeartbeats 400000 in
theorem slices_equal (a b : Option Addr) (na nb ca cb : Nat) (xs ys : List Int) (w : World) (ha : Ints w a xs) (hb : Ints w b ys) (hna : xs.length = na) (hnb : ys.length = nb) (hx : na ≤ 9223372036854775807) :
  Calls Try.prog 22 #[.slice a na ca, .slice b nb cb] w fun e w' => e = .returned (.bool (decide (xs = ys))) ∧ ∃ n, w' = w.drewN n := by
 subst hna hnb
 by_cases hl : xs.length = ys.length
 ·go_enter Try.func22, Try.ntmps22
  go_wp2
  have HL := Lib.hid hl
  have hy : ys.length ≤ 9223372036854775807 := by omega
  clear hl hx
  go_loopw [13] (fun i wr => ∃ k : Nat, i = .int .i64 k ∧ k ≤ ys.length ∧ (∀ j, j < k → ix xs j = ix ys j) ∧ ∃ n, wr = w.drewN n) (fun i _ => ys.length - (intOf i).toNat)
  case atStart => exact ⟨0, rfl, Nat.zero_le _, fun j hj => by omega, 0, rfl⟩
  case round =>
   obtain ⟨k, rfl, hk, heq, n, rfl⟩ := hrel
   by_cases hlt : k < ys.length
   ·obtain ⟨b1, o1, rfl, hc1⟩ := ha.at (k := k) (by rw [HL.out]; exact hlt)
    obtain ⟨b2, o2, rfl, hc2⟩ := hb.at hlt
    have e1 := hc1 k (by rw [HL.out]; exact hlt)
    have e2 := hc2 k hlt
    have HE := Lib.hid heq
    have i1 : (k : Int) < (xs.length : Int) := by rw [HL.out]; omega
    have i2 : (k : Int) < (ys.length : Int) := by omega
    clear hc1 hc2 heq ha hb
    go_wp2
    go_quiet (fail)
    go_wp2
    ·go_ret
     have hne : (ix xs k != ix ys k) = true := by assumption
     refine ⟨ret1_bool ?_, _, drewN_drewN _ _ _⟩
     rw [eq_comm, decide_eq_false_iff_not]
     rintro rfl
     simp at hne
    ·have hne : (ix xs k != ix ys k) = false := by assumption
     go_roundw
     case rel => exact ⟨k + 1, by go_num, by omega, fun j hj => by
      rcases Nat.lt_succ_iff_lt_or_eq.1 hj with h | rfl
      ·exact HE.out j h
      ·simpa using hne, _, rfl⟩
     case measure => simp [intOf]; omega
   ·go_wp2
    go_ret
    refine ⟨ret1_bool ?_, n, rfl⟩
    rw [eq_comm, decide_eq_true_eq]
    exact ix_ext HL.out fun i hi => heq i (by rw [HL.out] at hi; omega)
 ·go_enter Try.func22, Try.ntmps22
  go_wp2
  go_ret
  refine ⟨ret1_bool ?_, 0, rfl⟩
  simp; intro h; exact hl (by rw [h])
theorem make_int (l c : Nat) (h : l ≤ c) (hc : c ≤ 17592186044416) (w : World) :
  (Instr.makeSlice 22 (.int .i64 (l : Int)) (.int .i64 (c : Int))).run Try.prog w = .ok (.slice (some ⟨w.heap.size, 0, none⟩) l c) (w.alloc (.cells (madeCells #[.int .i64 0] c) 3)) := by
 obtain ⟨i0, hi, hz0, hz1, hz2⟩ := info_parts info_int
 have := run_make (P := Try.prog) w 22 3 i0 (.int .i64 0) Try.underlying22 hi hz0 .i64 .i64 l c (by omega) (by omega) (by rw [hz2]; omega) (by omega)
 rw [hz1, Int.toNat_natCast, Int.toNat_natCast, Nat.mul_one] at this
 exact this
theorem slices_eqb (a b : Option Addr) (na nb ca cb : Nat) (xs ys : List Int) (t : Bool) (ht : t = true ↔ xs = ys) (w : World) (ha : Ints w a xs) (hb : Ints w b ys) (hna : xs.length = na) (hnb : ys.length = nb) (hx : na ≤ 9223372036854775807) :
  Calls Try.prog 22 #[.slice a na ca, .slice b nb cb] w fun e w' => e = .returned (.bool t) ∧ ∃ n, w' = w.drewN n := by
 refine (slices_equal a b na nb ca cb xs ys w ha hb hna hnb hx).mono ?_
 rintro e w' ⟨rfl, h⟩
 refine ⟨ret1_bool ?_, h⟩
 rw [Bool.eq_iff_iff, decide_eq_true_eq]; exact ht.symm
theorem slices_same (a b : Option Addr) (na nb ca cb : Nat) (xs : List Int) (w : World) (ha : Ints w a xs) (hb : Ints w b xs) (hna : xs.length = na) (hnb : xs.length = nb) (hx : na ≤ 9223372036854775807) :
  Calls Try.prog 22 #[.slice a na ca, .slice b nb cb] w fun e w' => e = .returned (.bool true) ∧ ∃ n, w' = w.drewN n := by
 refine (slices_equal a b na nb ca cb xs xs w ha hb hna hnb hx).mono ?_
 rintro e w' ⟨rfl, h⟩
 exact ⟨ret1_bool (by simp), h⟩
theorem rowCell {w : World} {g : Nat} {slots : List Int} {T : TypeId} (h : Blk w g (slots.map (Value.int .i64)).toArray T) {i : Nat} (hi : i < slots.length) : w.cell? ⟨g, i, none⟩ = some (.int .i64 (ix slots i)) := by
 rw [h.cell i]; simp [ix, hi]
theorem rowSet {w : World} {g : Nat} {slots : List Int} {T : TypeId} (h : Blk w g (slots.map (Value.int .i64)).toArray T) (i : Nat) (x : Int) : Blk (w.setCell ⟨g, i, none⟩ (.int .i64 x)) g ((slots.set i x).map (Value.int .i64)).toArray T := by
 have := h.set i (.int .i64 x)
 rwa [show (slots.map (Value.int .i64)).toArray.setIfInBounds i (.int .i64 x) = ((slots.set i x).map (Value.int .i64)).toArray from by simp [List.map_set]] at this
theorem madeRow (n : Nat) : madeCells #[.int .i64 0] n = ((List.replicate n (0 : Int)).map (Value.int .i64)).toArray := by
 apply Array.toList_inj.1
 rw [toList_madeCells_one]; simp
theorem ints_row {w : World} {g : Nat} {slots : List Int} {T : TypeId} (h : Blk w g (slots.map (Value.int .i64)).toArray T) : Ints w (some ⟨g, 0, none⟩) slots :=
 .inr ⟨g, 0, rfl, fun i hi => by rw [Nat.zero_add]; exact rowCell h hi⟩
def ow (cs : Array Value) : Nat → List Value → Array Value
 | _, [] => cs
 | o, v :: r => ow (cs.setIfInBounds o v) (o + 1) r
theorem ow_size (vs : List Value) : ∀ (cs : Array Value) (o : Nat), (ow cs o vs).size = cs.size := by
 induction vs with
 | nil => intro cs o; rfl
 | cons v r ih => intro cs o; simp [ow, ih]
theorem ow_at (vs : List Value) : ∀ (cs : Array Value) (o i : Nat), i < cs.size → (ow cs o vs)[i]? = if o ≤ i ∧ i < o + vs.length then vs[i - o]? else cs[i]? := by
 induction vs with
 | nil => intro cs o i hi; simp [ow]; omega
 | cons v r ih =>
  intro cs o i hi
  simp only [ow]
  rw [ih _ _ _ (by simpa using hi)]
  by_cases h1 : o + 1 ≤ i ∧ i < o + 1 + r.length
  ·rw [if_pos h1, if_pos (by simp; omega)]
   rw [show i - o = (i - (o + 1)) + 1 from by omega]
   simp
  ·rw [if_neg h1]
   by_cases h2 : o = i
   ·subst h2
    rw [if_pos (by simp)]
    simp [hi]
   ·rw [if_neg (by simp; omega)]
    simp [Array.getElem?_setIfInBounds, h2]
theorem ow_all {cs : Array Value} {vs : List Value} (h : cs.size = vs.length) : ow cs 0 vs = vs.toArray := by
 apply Array.ext_getElem?
 intro i
 by_cases hi : i < cs.size
 ·rw [ow_at vs cs 0 i hi, if_pos (by omega)]; simp
 ·rw [Array.getElem?_eq_none (by rw [ow_size]; omega), Array.getElem?_eq_none (by simp; omega)]
theorem Blk.setCells {B : Nat} {e : TypeId} (vs : List Value) : ∀ {w : World} {cs : Array Value} (o : Nat), Blk w B cs e → Blk (w.setCells B o vs) B (ow cs o vs) e := by
 induction vs with
 | nil => intro w cs o h; exact h
 | cons v r ih => intro w cs o h; exact ih (o + 1) (h.set o v)
theorem Blk.setCellsOther {B B' : Nat} {e : TypeId} {cs : Array Value} (hne : B ≠ B') (vs : List Value) : ∀ {w : World} (o : Nat), Blk w B cs e → Blk (w.setCells B' o vs) B cs e := by
 induction vs with
 | nil => intro w o h; exact h
 | cons v r ih => intro w o h; exact ih (o + 1) (h.other (a := ⟨B', o, none⟩) hne v)
theorem below_setCells {N B : Nat} {a : World} (hN : N ≤ B) (vs : List Value) : ∀ {w : World} (o : Nat), Below N a w → Below N a (w.setCells B o vs) := by
 induction vs with
 | nil => intro w o h; exact h
 | cons v r ih => intro w o h; exact ih (o + 1) (h.setCell (p := ⟨B, o, none⟩) hN v)
theorem size_setCells {B : Nat} (vs : List Value) : ∀ (w : World) (o : Nat), (w.setCells B o vs).heap.size = w.heap.size := by
 induction vs with
 | nil => intro w o; rfl
 | cons v r ih => intro w o; simp only [World.setCells]; rw [ih]; exact size_setCell _ _ _
structure Left (B : Nat) (w w' : World) : Prop where
 blk : ∀ {B' : Nat} {cs : Array Value} {e : TypeId}, B' ≠ B → Blk w B' cs e → Blk w' B' cs e
 bel : ∀ {N : Nat} {a : World}, N ≤ B → Below N a w → Below N a w'
 size : w'.heap.size = w.heap.size
theorem results_ct {fn : Func} {s t : Tmp} {T : TypeId} (h : fn.results = #[.cell s T, .tmp t]) {tmps : Array Value} {P : Program} {w : World} {ad : Addr} {v : Value} (hp : tmps.getD s undef = .pointer (some ad)) (hl : (loadVar T ad).run P w = .ok v w) :
  (results fn tmps).run P w = .ok (.tuple #[v, tmps.getD t undef]) w := by
 have hp' : tmps[s]?.getD undef = .pointer (some ad) := by simpa using hp
 simp [results, h, hp', asAddr, hl]
theorem run_app_nilx (w : World) (ty : TypeId) (v : Value) (xs : List Int) (base c2 : Nat) (hown : Own 3 base w v xs) (hl : xs.length ≤ 17592186044416) :
  (Builtin.append_ #[22, 22] ty #[v, .slice none 0 c2]).run Try.prog w = .ok v w := by
 obtain ⟨i0, hi, hz0, hz1, hz2⟩ := info_parts info_int
 rcases hown.2 with ⟨rfl, h0⟩ | ⟨g, cap, cur, rfl, hb, hg, hn, hm, hs, ht⟩
 ·simp [Builtin.append_, run_underlying Try.underlying22, sizeOf, typeInfo, hi, Builtin.lenOf, Builtin.firstCells, loadCells, loadCellsFrom, storeCells]
 ·simp [Builtin.append_, run_underlying Try.underlying22, sizeOf, typeInfo, hi, Builtin.lenOf, Builtin.firstCells, loadCells, loadCellsFrom, storeCells, hn]
theorem appV {ops : Array Oper} {rest : List Oper} {o : Oper} {a : Act} {Q : Exit → Act → World → Prop} {w : World} (hgd : o.guard = none) (s x : Operand)
  (ho : o.op = .call { callee := .builtin .append, args := #[s, x], argTypes := #[22, 22] })
  (base : Nat) (v : Value) (xs ys : List Int) (ad : Option Addr) (m c : Nat) (hs : a.eval s = v) (hx : a.eval x = .slice ad m c)
  (hown : Own 3 base w v xs) (hy : Ints w ad ys) (hm : ys.length = m) (h0 : ad = none → m = 0) (hl : xs.length + m ≤ 17592186044416) (hbase : base ≤ w.heap.size)
  (h : ∀ v' w', Own 3 base w' v' (xs ++ ys) → w.grownBy w' v.ownBlock → wpList Try.prog ops Q rest (a.put o.dst v') w') :
  wpList Try.prog ops Q (o :: rest) a w := by
 rcases ad with _ | ad
 ·obtain rfl : m = 0 := h0 rfl
  obtain rfl : ys = [] := List.eq_nil_of_length_eq_zero hm
  refine Lib.wpList_append_run w hgd s x _ _ ho v (.slice none 0 c) hs hx v w (run_app_nilx w _ v xs base c hown (by omega)) ?_
  exact h v w (by simpa using hown) ⟨rfl, rfl, rfl, Nat.le_refl _, fun _ _ _ => rfl⟩
 ·exact appN hgd s x ho base v xs ys ad m c hs hx hown hy hm hl hbase fun v' w' h1 h2 _ => h v' w' h1 h2
def GrowPost (w : World) (e : Ending) (w' : World) : Prop := ∃ v, e = .returned v ∧ Own 3 w.heap.size w' v [] ∧ Below w.heap.size w w'
set_option maxRecDepth 100000 in
theorem slices_grow_nil (n : Nat) (w : World) (hn : n ≤ 17592186044416) :
  Calls Try.prog 117 #[.slice none 0 0, .int .i64 (n : Int)] w (GrowPost w) := by
 by_cases h0 : n = 0
 ·subst h0
  go_enter Try.func117, Try.ntmps117
  go_wp2
  go_ret
  exact ⟨_, rfl, Own.nil _ _ _, Below.refl _ _⟩
 ·obtain ⟨i0, hi, hz0, hz1, hz2⟩ := info_parts info_int
  have hr := fun ty => Lib.run_append_nil_zeros (P := Try.prog) w 22 3 ty 3 i0 (.int .i64 0) .i64 .i64 Try.underlying22 Try.underlying3 hi hz0 n (by omega) (by rw [hz1]; omega) (by omega) (by rw [hz2]; omega)
  obtain ⟨G, hG⟩ : ∃ G, grownCap w n 0 3 = G := ⟨_, rfl⟩
  have hg1 : n ≤ G := by rw [← hG]; exact grownCap_ge _ _ _ _
  have hg2 : G ≤ maxLen := by rw [← hG]; exact grownCap_le_maxLen _ _ _ _ (by unfold maxLen; omega)
  rw [hG] at hr
  have hg3 : G ≤ 9223372036854775807 := by unfold maxLen at hg2; omega
  obtain ⟨cs, hcs⟩ : ∃ cs, Builtin.zeroCells (Value.int .i64 0).cells n ++ Builtin.zeroCells (Value.int .i64 0).cells (G - n) = cs := ⟨_, rfl⟩
  have hsz : cs.size = G := by rw [← hcs, Array.size_append, size_zeroCells, size_zeroCells]; simp [Value.cells]; omega
  rw [hcs] at hr
  have HS := Lib.hid hsz
  clear hG hcs hsz
  have hn0 : 0 < n := by omega
  go_enter Try.func117, Try.ntmps117
  go_wp2_with (at_builtin; refine Lib.wpList_append_run _ rfl _ _ _ _ rfl _ _ rfl rfl _ _ (hr _) ?_)
  go_ret
  refine ⟨_, rfl, ⟨by simp, .inr ⟨w.heap.size, G, cs, rfl, Nat.le_refl _, heap_alloc_new w.drew _, by simp, hg2, by rw [HS.out]; omega, by simp⟩⟩, (Below.refl _ _).drew.alloc (Nat.le_refl _) _⟩
def joinX (X : Nat → List Int) : Nat → List Int
 | 0 => []
 | k + 1 => joinX X k ++ X k
def CatPost (xs : List Int) (w : World) (e : Ending) (w' : World) : Prop := ∃ v, e = .returned v ∧ Own 3 w.heap.size w' v xs ∧ Below w.heap.size w w'
structure CatIn (w : World) (B m : Nat) (A : Nat → Option Addr) (N C : Nat → Nat) (X : Nat → List Int) : Prop where
 cell : ∀ i, i < m → w.cell? ⟨B, i, none⟩ = some (.slice (A i) (N i) (C i))
 ints : ∀ i, i < m → Ints w (A i) (X i)
 len : ∀ i, i < m → (X i).length = N i
 top : ∀ i, i < m → N i ≤ 1048576
 none : ∀ i, i < m → A i = none → N i = 0
theorem CatIn.keep {w w' : World} {B m : Nat} {A : Nat → Option Addr} {N C : Nat → Nat} {X : Nat → List Int} (h : CatIn w B m A N C X) (hb : Below w.heap.size w w') : CatIn w' B m A N C X :=
 ⟨fun i hi => below_keeps hb _ _ (h.cell i hi), fun i hi => (h.ints i hi).below hb, h.len, h.top, h.none⟩
theorem CatIn.sum {w : World} {B m : Nat} {A : Nat → Option Addr} {N C : Nat → Nat} {X : Nat → List Int} (h : CatIn w B m A N C X) (k : Nat) (hk : k ≤ m) : (joinX X k).length ≤ 1048576 * k := by
 induction k with
 | zero => simp [joinX]
 | succ k ih =>
  have := ih (by omega)
  have h1 := h.len k (by omega)
  have h2 := h.top k (by omega)
  simp only [joinX, List.length_append]; omega
set_option maxRecDepth 100000 in
set_option maxHeartbeats 1000000 in
theorem slices_concat (B m : Nat) (A : Nat → Option Addr) (N C : Nat → Nat) (X : Nat → List Int) (w : World) (h : CatIn w B m A N C X) (hm : m ≤ 8) :
  Calls Try.prog 46 #[.slice (some ⟨B, 0, none⟩) m m] w (CatPost (joinX X m) w) := by
 have H := Lib.hid h; clear h
 go_enter Try.func46, Try.ntmps46
 go_wp2
 go_loopw [11, 3] (fun i s wr => ∃ k : Nat, i = .int .i64 (k : Int) ∧ s = .int .i64 ((joinX X k).length : Int) ∧ k ≤ m ∧ w = wr) (fun i _ _ => m - (intOf i).toNat)
 case atStart => exact ⟨0, rfl, rfl, by omega, rfl⟩
 case round =>
  obtain ⟨k, rfl, rfl, hk, rfl⟩ := hrel
  have hs := H.out.sum k hk
  by_cases hlt : k < m
  ·have ck := H.out.cell k hlt
   have hN := H.out.top k hlt
   have HL := Lib.hid (show ((joinX X (k + 1)).length : Int) = ((joinX X k).length : Int) + (N k : Int) by simp [joinX, H.out.len k hlt])
   have i1 : (k : Int) < (m : Int) := by omega
   go_wp2
   go_roundw
   case rel => exact ⟨k + 1, by go_num, by rw [HL.out], by omega, by first | rfl | trivial⟩
   case measure => simp [intOf]; omega
  ·obtain rfl : m = k := by omega
   go_wp2_with fail
   refine (slices_grow_nil (joinX X m).length w (by omega)).mono ?_
   rintro e w2 ⟨v, rfl, hown, hb2⟩
   have h2 := H.out.keep hb2
   have H2 := Lib.hid h2
   clear h2
   go_wp2
   go_loopw [27, 6] (fun i u wr => ∃ k : Nat, i = .int .i64 (k : Int) ∧ k ≤ m ∧ Own 3 w.heap.size wr u (joinX X k) ∧ Below w.heap.size w wr) (fun i _ _ => m - (intOf i).toNat)
   case atStart => exact ⟨0, rfl, by omega, hown, hb2⟩
   case round =>
    clear hs hlt hk
    obtain ⟨k, rfl, hk, hown3, hb3⟩ := hrel
    have hs := H.out.sum k hk
    by_cases hlt : k < m
    ·have h3 := H.out.keep hb3
     have ck := h3.cell k hlt
     have hN := h3.top k hlt
     have hI := h3.ints k hlt
     have HNk := Lib.hid (h3.len k hlt)
     have H0 := Lib.hid (h3.none k hlt)
     have HJ := Lib.hid (show joinX X (k + 1) = joinX X k ++ X k from rfl)
     have i1 : (k : Int) < (m : Int) := by omega
     have hrow := hown3.row
     have hsz := hb3.size
     clear h3
     go_wp2_with (at_builtin; refine appV rfl _ _ rfl w.heap.size u6 _ _ _ _ _ rfl rfl hown3 hI HNk.out H0.out (by omega) hsz ?_; intro v4 w4 hown4 hgrow4)
     go_roundw
     case rel => exact ⟨k + 1, by go_num, by omega, by rw [HJ.out]; exact hown4, hb3.grown hgrow4 hb3.size hrow⟩
     case measure => simp [intOf]; omega
    ·obtain rfl : m = k := by omega
     go_wp2
     go_ret
     exact ⟨_, rfl, hown3, hb3⟩
theorem CatIn.drew {w : World} {B m : Nat} {A : Nat → Option Addr} {N C : Nat → Nat} {X : Nat → List Int} (h : CatIn w B m A N C X) : CatIn w.drew B m A N C X :=
 ⟨h.cell, fun i hi => (h.ints i hi).drew, h.len, h.top, h.none⟩
def sel3 {α : Type} (x y z : α) (i : Nat) : α := if i = 0 then x else if i = 1 then y else z
theorem catIn3 (w : World) (T : TypeId) {a0 a1 a2 : Option Addr} {n0 n1 n2 : Nat} (c0 c1 c2 : Nat) {x0 x1 x2 : List Int} (i0 : Ints w a0 x0) (i1 : Ints w a1 x1) (i2 : Ints w a2 x2) (l0 : x0.length = n0) (l1 : x1.length = n1) (l2 : x2.length = n2)
  (t0 : n0 ≤ 1048576) (t1 : n1 ≤ 1048576) (t2 : n2 ≤ 1048576) (z0 : a0 = none → n0 = 0) (z1 : a1 = none → n1 = 0) (z2 : a2 = none → n2 = 0) :
  CatIn (w.alloc (.cells #[.slice a0 n0 c0, .slice a1 n1 c1, .slice a2 n2 c2] T)) w.heap.size 3 (sel3 a0 a1 a2) (sel3 n0 n1 n2) (sel3 c0 c1 c2) (sel3 x0 x1 x2) := by
 obtain ⟨y0, y1, y2, -⟩ := Blk.three (Blk.new w #[.slice a0 n0 c0, .slice a1 n1 c1, .slice a2 n2 c2] T)
 have hb := below1 w (.cells #[.slice a0 n0 c0, .slice a1 n1 c1, .slice a2 n2 c2] T)
 refine ⟨fun i hi => ?_, fun i hi => ?_, fun i hi => ?_, fun i hi => ?_, fun i hi => ?_⟩
 all_goals obtain rfl | rfl | rfl : i = 0 ∨ i = 1 ∨ i = 2 := by omega
 ·exact y0
 ·exact y1
 ·exact y2
 ·exact i0.below hb
 ·exact i1.below hb
 ·exact i2.below hb
 ·exact l0
 ·exact l1
 ·exact l2
 ·exact t0
 ·exact t1
 ·exact t2
 ·exact z0
 ·exact z1
 ·exact z2
theorem joinX3 (x0 x1 x2 : List Int) : joinX (sel3 x0 x1 x2) 3 = x0 ++ x1 ++ x2 := by simp [joinX, sel3]
theorem catIn2 (w : World) (T : TypeId) {a0 a1 : Option Addr} {n0 n1 : Nat} (c0 c1 : Nat) {x0 x1 : List Int} (i0 : Ints w a0 x0) (i1 : Ints w a1 x1) (l0 : x0.length = n0) (l1 : x1.length = n1)
  (t0 : n0 ≤ 1048576) (t1 : n1 ≤ 1048576) (z0 : a0 = none → n0 = 0) (z1 : a1 = none → n1 = 0) :
  CatIn (w.alloc (.cells #[.slice a0 n0 c0, .slice a1 n1 c1] T)) w.heap.size 2 (sel3 a0 a1 a1) (sel3 n0 n1 n1) (sel3 c0 c1 c1) (sel3 x0 x1 x1) := by
 obtain ⟨y0, y1, -, -⟩ := Blk.two (Blk.new w #[.slice a0 n0 c0, .slice a1 n1 c1] T)
 have hb := below1 w (.cells #[.slice a0 n0 c0, .slice a1 n1 c1] T)
 refine ⟨fun i hi => ?_, fun i hi => ?_, fun i hi => ?_, fun i hi => ?_, fun i hi => ?_⟩
 all_goals obtain rfl | rfl : i = 0 ∨ i = 1 := by omega
 ·exact y0
 ·exact y1
 ·exact i0.below hb
 ·exact i1.below hb
 ·exact l0
 ·exact l1
 ·exact t0
 ·exact t1
 ·exact z0
 ·exact z1
theorem joinX2 (x0 x1 x2 : List Int) : joinX (sel3 x0 x1 x2) 2 = x0 ++ x1 := by simp [joinX, sel3]
theorem Ints.dropA {w : World} {ad : Addr} {xs : List Int} (h : Ints w (some ad) xs) (k : Nat) : Ints w (some (ad.add k)) (xs.drop k) := by
 rcases h with h | ⟨b', o', ha, h⟩
 ·subst h; exact .inl (by simp)
 ·have h2 : Ints w (some ⟨b', o', none⟩) xs := .inr ⟨b', o', rfl, h⟩
  simp only [Option.some.injEq] at ha
  subst ha
  have hadd : (⟨b', o', none⟩ : Addr).add k = ⟨b', o' + k, none⟩ := by unfold Addr.add; split <;> simp_all
  rw [hadd]; exact h2.drop k
def Sep (v1 v2 : Value) : Prop := v1.ownBlock = none ∨ v1.ownBlock ≠ v2.ownBlock
theorem Own.sep {e : TypeId} {base : Nat} {w1 w2 : World} {v1 v2 : Value} {xs ys : List Int} (h1 : Own e base w1 v1 xs) (h2 : Own e w1.heap.size w2 v2 ys) : Sep v1 v2 := by
 rcases hv : v1.ownBlock with _ | k
 ·exact .inl hv
 ·refine .inr ?_
  rw [hv]
  exact h2.ne (World.ownsRow.lt h1 k hv).2
theorem Sep.symm {v1 v2 : Value} (h : Sep v1 v2) : Sep v2 v1 := by
 rcases h with h | h
 ·rcases hv : v2.ownBlock with _ | k
  ·exact .inl hv
  ·exact .inr (by rw [h, hv]; simp)
 ·exact .inr (fun e => h e.symm)
theorem Own.grown {e : TypeId} {base : Nat} {w w' : World} {v v2 : Value} {xs : List Int} (h : Own e base w v xs) (hg : w.grownBy w' v2.ownBlock) (hs : Sep v v2) : Own e base w' v xs := World.ownsRow.kept h hg hs
theorem Own.pop {e : TypeId} {base : Nat} {w : World} {g m c : Nat} {xs : List Int} (h : Own e base w (.slice (some ⟨g, 0, none⟩) (m + 1) c) xs) : Own e base w (.slice (some ⟨g, 0, none⟩) m c) xs.dropLast := by
 have hl := h.get.1
 have hd : xs.dropLast.length = m := by simp; omega
 rcases h.2 with ⟨h1, _⟩ | ⟨g', cap, cur, h1, h2, h3, h4, h5, h6, h7⟩
 ·simp at h1
 ·simp only [Value.slice.injEq, Option.some.injEq, Addr.mk.injEq] at h1
  obtain ⟨⟨rfl, _, _⟩, _, rfl⟩ := h1
  refine ⟨by simp, .inr ⟨g, c, cur, by rw [hd], h2, h3, by omega, h5, h6, ?_⟩⟩
  rw [hl] at h7
  have : (List.take ((m + 1) * 1) cur.toList).take (m * 1) = (xs.map (Value.int .i64)).take (m * 1) := by rw [h7]
  rw [List.take_take] at this
  rw [hd]
  rw [show min (m * 1) ((m + 1) * 1) = m * 1 from by omega] at this
  rw [this, Nat.mul_one, ← List.map_take, List.dropLast_eq_take, hl]
  rfl
def vx (vs : List Value) (i : Nat) : Value := vs.getD i undef
def rx (X : List (List Int)) (i : Nat) : List Int := X.getD i []
def rgA (vs : List Value) : Array Value := vs.toArray
theorem rgA_size (vs : List Value) : (rgA vs).size = vs.length := by simp [rgA]
theorem vx_set_eq {vs : List Value} {i : Nat} (h : i < vs.length) (v : Value) : vx (vs.set i v) i = v := by simp [vx, h]
theorem vx_set_ne {vs : List Value} {i j : Nat} (h : i ≠ j) (v : Value) : vx (vs.set i v) j = vx vs j := by
 unfold vx; simp [List.getElem?_set, h]
theorem vx_mem {vs : List Value} {v : Value} (h : v ∈ vs) : ∃ i, i < vs.length ∧ vx vs i = v := by
 obtain ⟨i, hi, rfl⟩ := List.mem_iff_getElem.1 h
 exact ⟨i, hi, by simp [vx, hi]⟩
theorem rx_set_eq {X : List (List Int)} {i : Nat} (h : i < X.length) (v : List Int) : rx (X.set i v) i = v := by simp [rx, h]
theorem rx_set_ne {X : List (List Int)} {i j : Nat} (h : i ≠ j) (v : List Int) : rx (X.set i v) j = rx X j := by
 unfold rx; simp [List.getElem?_set, h]
def Sl (w : World) (v : Value) (xs : List Int) : Prop := ∃ a n c, v = .slice a n c ∧ xs.length = n ∧ n ≤ c ∧ c ≤ 9223372036854775807 ∧ Ints w a xs ∧ (a = none → n = 0)
theorem Sl.keep {w w' : World} {v : Value} {xs : List Int} (h : Sl w v xs) (hc : ∀ p v, w.cell? p = some v → w'.cell? p = some v) : Sl w' v xs := by
 obtain ⟨a, n, c, h1, h2, h3, h4, h5, h6⟩ := h
 exact ⟨a, n, c, h1, h2, h3, h4, h5.keep hc, h6⟩
theorem Sl.below {w w' : World} {v : Value} {xs : List Int} (h : Sl w v xs) (hb : Below w.heap.size w w') : Sl w' v xs := h.keep (below_keeps hb)
theorem Sl.drewN {w : World} {v : Value} {xs : List Int} (h : Sl w v xs) (n : Nat) : Sl (w.drewN n) v xs := h.keep (fun _ _ h => h)
theorem Sl.drew {w : World} {v : Value} {xs : List Int} (h : Sl w v xs) : Sl w.drew v xs := h.keep (fun _ _ h => h)
theorem Sl.nil (w : World) : Sl w (.slice none 0 0) [] := ⟨none, 0, 0, rfl, rfl, Nat.le_refl _, by omega, Ints.nil _ _, fun _ => rfl⟩
theorem Own.sl {e : TypeId} {base : Nat} {w : World} {v : Value} {xs : List Int} (h : Own e base w v xs) : Sl w v xs := by
 obtain ⟨a, c, rfl, h1, h2⟩ := h.ints
 refine ⟨a, _, c, rfl, rfl, h1, ?_, h2, fun ha => ?_⟩
 ·rcases h.2 with ⟨hv, _⟩ | ⟨g, cap, cur, hv, hb, hg, hn, hm, hs, ht⟩
  ·simp at hv; omega
  ·simp only [Value.slice.injEq] at hv
   obtain ⟨_, _, rfl⟩ := hv
   unfold maxLen at hm; omega
 ·rcases h.2 with ⟨hv, h0⟩ | ⟨g, cap, cur, hv, _⟩
  ·exact h0
  ·simp [ha] at hv
theorem Sl.get {w : World} {a : Option Addr} {n c : Nat} {xs : List Int} (h : Sl w (.slice a n c) xs) : xs.length = n ∧ n ≤ c ∧ c ≤ 9223372036854775807 ∧ Ints w a xs ∧ (a = none → n = 0) := by
 obtain ⟨a', n', c', h1, rest⟩ := h
 simp only [Value.slice.injEq] at h1
 obtain ⟨rfl, rfl, rfl⟩ := h1
 exact rest
theorem under_regs : Try.prog.underlying 133 = some (.array 27 22) := by kernel_rfl
theorem size_regs : (Try.prog.info? 133).map (·.size) = some 27 := by kernel_rfl
def nil27 : List Value := List.replicate 27 (.slice none 0 0)
theorem getD_rep {α : Type} (n : Nat) (v d : α) {i : Nat} (h : i < n) : (List.replicate n v).getD i d = v := by simp [List.getElem?_replicate, h]
theorem vx_nil27 {i : Nat} (h : i < 27) : vx nil27 i = .slice none 0 0 := getD_rep 27 _ _ h
theorem nil27_len : nil27.length = 27 := rfl
theorem alloc_regs (w : World) : (Instr.alloc 133 true (.tuple #[])).run Try.prog w = .ok (.pointer (some ⟨w.heap.size, 0, none⟩)) (w.alloc (.cells (rgA nil27) 133)) := by kernel_rfl
theorem build_regs (w : World) : (Instr.build 133 #[]).run Try.prog w = .ok (.agg (rgA nil27)) w := by kernel_rfl
def Slv (vs : List Value) : Prop := ∀ i, i < vs.length → ∃ a n c, vx vs i = .slice a n c
theorem slv_nil27 : Slv nil27 := by
 intro i hi
 exact ⟨none, 0, 0, vx_nil27 hi⟩
structure Rgs (w : World) (vs : List Value) (X : List (List Int)) : Prop where
 lv : vs.length = 27
 lx : X.length = 27
 sl : ∀ i, i < 27 → Sl w (vx vs i) (rx X i)
theorem Rgs.keep {w w' : World} {vs : List Value} {X : List (List Int)} (h : Rgs w vs X) (hc : ∀ p v, w.cell? p = some v → w'.cell? p = some v) : Rgs w' vs X :=
 ⟨h.lv, h.lx, fun i hi => (h.sl i hi).keep hc⟩
theorem Rgs.below {w w' : World} {vs : List Value} {X : List (List Int)} (h : Rgs w vs X) (hb : Below w.heap.size w w') : Rgs w' vs X := h.keep (below_keeps hb)
theorem Rgs.drewN {w : World} {vs : List Value} {X : List (List Int)} (h : Rgs w vs X) (n : Nat) : Rgs (w.drewN n) vs X := h.keep (fun _ _ h => h)
theorem Rgs.slv {w : World} {vs : List Value} {X : List (List Int)} (h : Rgs w vs X) : Slv vs := by
 intro i hi
 obtain ⟨a, n, c, h1, _⟩ := h.sl i (by rw [← h.lv]; exact hi)
 exact ⟨a, n, c, h1⟩
def nilX : List (List Int) := List.replicate 27 []
def BlkR (w : World) (B : Nat) (vs : List Value) (e : TypeId) : Prop := Blk w B (rgA vs) e
theorem BlkR.cell {w : World} {B : Nat} {vs : List Value} {e : TypeId} (h : BlkR w B vs e) {i : Nat} (hi : i < vs.length) : w.cell? ⟨B, i, none⟩ = some (vx vs i) := by
 rw [Blk.cell h i]; simp [rgA, vx, hi]
theorem BlkR.set {w : World} {B : Nat} {vs : List Value} {e : TypeId} (h : BlkR w B vs e) (i : Nat) (v : Value) : BlkR (w.setCell ⟨B, i, none⟩ v) B (vs.set i v) e := by
 have := Blk.set h i v
 unfold BlkR
 rwa [show (rgA vs).setIfInBounds i v = rgA (vs.set i v) from by simp [rgA]] at this
theorem BlkR.free {w : World} {B : Nat} {vs : List Value} {e : TypeId} (h : BlkR w B vs e) (i : Nat) : w.frozen? ⟨B, i, none⟩ = false := Blk.free h i
theorem BlkR.lt {w : World} {B : Nat} {vs : List Value} {e : TypeId} (h : BlkR w B vs e) : B < w.heap.size := Blk.lt h
theorem BlkR.alloc {w : World} {B : Nat} {vs : List Value} {e : TypeId} (h : BlkR w B vs e) (o : Obj) : BlkR (w.alloc o) B vs e := Blk.alloc h o
theorem BlkR.new (w : World) (vs : List Value) (e : TypeId) : BlkR (w.alloc (.cells (rgA vs) e)) w.heap.size vs e := Blk.new w _ e
theorem BlkR.other {w : World} {B : Nat} {vs : List Value} {e : TypeId} (h : BlkR w B vs e) {a : Addr} (ha : B ≠ a.block) (u : Value) : BlkR (w.setCell a u) B vs e := Blk.other h ha u
theorem BlkR.below {w w' : World} {B N : Nat} {vs : List Value} {e : TypeId} (h : BlkR w B vs e) (hb : Below N w w') (hN : B < N) : BlkR w' B vs e := Blk.below h hb hN
theorem BlkR.drewN {w : World} {B : Nat} {vs : List Value} {e : TypeId} (h : BlkR w B vs e) (n : Nat) : BlkR (w.drewN n) B vs e := h
theorem BlkR.grown {w w' : World} {B : Nat} {vs : List Value} {e : TypeId} {row : Option Nat} (h : BlkR w B vs e) (hg : w.grownBy w' row) (hr : some B ≠ row) : BlkR w' B vs e := Blk.grown h hg hr
theorem BlkR.ne {w : World} {B : Nat} {us : List Value} {e e' : TypeId} {base : Nat} {v : Value} {xs : List Int} (hB : BlkR w B us e') (h : Own e base w v xs) (he : e ≠ e') : some B ≠ v.ownBlock := h.neBlk hB he
theorem BlkR.put {w : World} {B : Nat} {us : List Value} {e e' : TypeId} {base : Nat} {v : Value} {xs : List Int} (hB : BlkR w B us e') (h : Own e base w v xs) (he : e ≠ e') (i : Nat) (u : Value) : Own e base (w.setCell ⟨B, i, none⟩ u) v xs := h.other (a := ⟨B, i, none⟩) (hB.ne h he) u
theorem regs_load {ops : Array Oper} {rest : List Oper} {op : Oper} {a : Act} {w : World} {Q : Exit → Act → World → Prop} (hgd : op.guard = none) (x : Operand) (ho : op.op = .load 133 x)
  (B : Nat) (hx : a.eval x = .pointer (some ⟨B, 0, none⟩)) (vs : List Value) (e : TypeId) (hB : BlkR w B vs e) (hl : vs.length = 27)
  (h : wpList Try.prog ops Q rest (a.put op.dst (.agg (rgA vs))) w) : wpList Try.prog ops Q (op :: rest) a w :=
 wpList_load_row hgd 133 x ho B hx e (rgA vs) (0, 0) _ hB under_regs rfl (by rw [rgA_size, hl]; exact size_regs) h
theorem regs_store {ops : Array Oper} {rest : List Oper} {op : Oper} {a : Act} {w : World} {Q : Exit → Act → World → Prop} (hgd : op.guard = none) (x y : Operand) (ho : op.op = .store 133 x y)
  (B : Nat) (hx : a.eval x = .pointer (some ⟨B, 0, none⟩)) (us : List Value) (hy : a.eval y = .agg (rgA us)) (vs : List Value) (e : TypeId) (hB : BlkR w B vs e) (hl : vs.length = 27) (hl2 : us.length = 27) (hs : Slv us)
  (h : ∀ w', BlkR w' B us e → Left B w w' → wpList Try.prog ops Q rest (a.put op.dst undef) w') : wpList Try.prog ops Q (op :: rest) a w := by
 refine wpList_store_mid hgd 133 x y ho B 0 (rgA us) hx hy ?_ (by rw [rgA_size, hl2]; exact size_regs) ?_ (h _ ?_ ⟨fun hne hb => hb.setCellsOther hne _ 0, fun hN hb => below_setCells hN _ 0 hb, size_setCells _ _ _⟩)
 ·intro j hj
  rw [rgA_size] at hj
  rw [Nat.zero_add]
  exact ⟨by rw [hB.cell (by omega)]; rfl, hB.free j⟩
 ·refine all_oneCell_toArray ?_
  intro v hv
  obtain ⟨i, hi, rfl⟩ := vx_mem hv
  obtain ⟨a, n, c, hv⟩ := hs i hi
  rw [hv]; rfl
 ·have := Blk.setCells (rgA us).toList 0 hB
  rw [ow_all (by simp [rgA_size, hl, hl2])] at this
  exact this
theorem Left.blkR {B : Nat} {w w' : World} (h : Left B w w') {B' : Nat} {vs : List Value} {e : TypeId} (hne : B' ≠ B) (hb : BlkR w B' vs e) : BlkR w' B' vs e := h.blk hne hb
theorem regs_loadVar {w : World} {B : Nat} {vs : List Value} {e : TypeId} (hB : BlkR w B vs e) (hl : vs.length = 27) : (loadVar 133 ⟨B, 0, none⟩).run Try.prog w = .ok (.agg (rgA vs)) w :=
 run_loadVar_row w B e 133 (rgA vs) (0, 0) _ hB under_regs rfl (by rw [rgA_size, hl]; exact size_regs)
theorem results_c {fn : Func} {s : Tmp} {T : TypeId} (h : fn.results = #[.cell s T]) {tmps : Array Value} {P : Program} {w : World} {ad : Addr} {v : Value} (hp : tmps.getD s undef = .pointer (some ad)) (hl : (loadVar T ad).run P w = .ok v w) :
  (results fn tmps).run P w = .ok v w := by
 have hp' : tmps[s]?.getD undef = .pointer (some ad) := by simpa using hp
 simp [results, h, hp', asAddr, hl]
theorem Own.left {e : TypeId} {base B : Nat} {w w' : World} {v : Value} {xs : List Int} (h : Own e base w v xs) (hL : Left B w w') (hb : B < base) : Own e base w' v xs := by
 refine ⟨h.1, ?_⟩
 rcases h.2 with hn | ⟨g, cap, cur, rfl, hb', hgg, rest⟩
 ·exact .inl hn
 ·exact .inr ⟨g, cap, cur, rfl, hb', hL.blk (by omega) hgg, rest⟩
def numI (name : Int) : Int := if name = 0 then 0 else if 97 ≤ name ∧ name ≤ 122 then name - 97 + 1 else if 65 ≤ name ∧ name ≤ 90 then name - 65 + 1 else 0
def numM (name : Int) : Bool := if name = 0 then false else if 97 ≤ name ∧ name ≤ 122 then false else if 65 ≤ name ∧ name ≤ 90 then true else false
def numO (name : Int) : Bool := if name = 0 then true else if 97 ≤ name ∧ name ≤ 122 then true else if 65 ≤ name ∧ name ≤ 90 then true else false
theorem reg_number (name : Int) (w : World) :
  Calls Try.prog 275 #[.int .i64 name] w fun e w' => e = .returned (.tuple #[.int .i64 (numI name), .bool (numM name), .bool (numO name)]) ∧ w = w' := by
 unfold numI numM numO
 by_cases h0 : name = 0
 ·subst h0
  go_enter Try.func275, Try.ntmps275
  go_wp2
  go_ret3
  exact ⟨rfl, rfl⟩
 have h0' : (name == 0) = false := by simpa using h0
 rw [if_neg h0, if_neg h0, if_neg h0]
 clear h0
 by_cases h : 97 ≤ name ∧ name ≤ 122
 ·rw [if_pos h, if_pos h, if_pos h]
  obtain ⟨h1, h2⟩ := h
  go_enter Try.func275, Try.ntmps275
  go_wp2
  go_ret3
  exact ⟨rfl, rfl⟩
 ·rw [if_neg h, if_neg h, if_neg h]
  by_cases h' : 65 ≤ name ∧ name ≤ 90
  ·rw [if_pos h', if_pos h']
   obtain ⟨h1, h2⟩ := h'
   clear h
   go_enter Try.func275, Try.ntmps275
   go_wp2
   go_ret3
   exact ⟨rfl, rfl⟩
  ·rw [if_neg h', if_neg h']
   have hd : name < 65 ∨ (90 < name ∧ name < 97) ∨ 122 < name := by omega
   clear h h'
   rcases hd with h | ⟨h, h'⟩ | h
   all_goals
    go_enter Try.func275, Try.ntmps275
    go_wp2
    all_goals
     go_ret3
     exact ⟨rfl, rfl⟩
def CopPost (X : List (List Int)) (w : World) (e : Ending) (w' : World) : Prop :=
 ∃ vs, e = .returned (.agg (rgA vs)) ∧ vs.length = 27 ∧ (∀ i, i < 27 → Own 3 w.heap.size w' (vx vs i) (rx X i)) ∧ (∀ i j, i < j → j < 27 → Sep (vx vs i) (vx vs j)) ∧ Below w.heap.size w w'
set_option maxRecDepth 100000 in
set_option maxHeartbeats 1000000 in
theorem reg_copied (vs : List Value) (X : List (List Int)) (w : World) (h : Rgs w vs X) (hX : ∀ i, i < 27 → (rx X i).length ≤ 17592186044416) :
  Calls Try.prog 276 #[.agg (rgA vs)] w (CopPost X w) := by
 have hal := alloc_regs
 have H := Lib.hid h
 have HX := Lib.hid hX
 clear h hX
 have hB0 := (BlkR.new w vs 133).alloc (.cells (rgA nil27) 133)
 have hB1 := BlkR.new (w.alloc (.cells (rgA vs) 133)) nil27 133
 rw [World.size_alloc] at hB1
 have hacc := below2 w (.cells (rgA vs) 133) (.cells (rgA nil27) 133)
 have hsz : w.heap.size + 2 ≤ ((w.alloc (.cells (rgA vs) 133)).alloc (.cells (rgA nil27) 133)).heap.size := by simp
 go_enter Try.func276, Try.ntmps276
 go_upto_region 1 with fail
 change Code.wp _ _ _ _ ((w.alloc (.cells (rgA vs) 133)).alloc (.cells (rgA nil27) 133))
 generalize (w.alloc (.cells (rgA vs) 133)).alloc (.cells (rgA nil27) 133) = w1 at *
 go_wp2
 go_loopw [4] (fun i wr => ∃ k : Nat, i = .int .i64 (k : Int) ∧ k ≤ 27 ∧ ∃ us, us.length = 27 ∧ BlkR wr w.heap.size us 133 ∧ BlkR wr (w.heap.size + 1) nil27 133 ∧
   (∀ i, i < k → Own 3 (w.heap.size + 2) wr (vx us i) (rx X i)) ∧ (∀ i j, i < j → j < k → Sep (vx us i) (vx us j)) ∧ (∀ i, k ≤ i → i < 27 → vx us i = vx vs i) ∧ Below w.heap.size w wr ∧ w.heap.size + 2 ≤ wr.heap.size) (fun i _ => 27 - (intOf i).toNat)
 case atStart => exact ⟨0, rfl, by omega, vs, H.out.lv, hB0, hB1, fun i hi => by omega, fun i j _ hj => by omega, fun i _ _ => rfl, hacc, hsz⟩
 case round =>
  obtain ⟨k, rfl, hk, us, hl, hb0, hb1, hown, hsep, hold, hbel, hs⟩ := hrel
  have HL := Lib.hid hl; have HO := Lib.hid hown; have HS := Lib.hid hsep; have HD := Lib.hid hold
  clear hl hown hsep hold
  by_cases hlt : k < 27
  ·obtain ⟨a, n, c, hv, hn, hc1, hc2, hI, h0⟩ := H.out.sl k hlt
   have c0 := hb0.cell (i := k) (by rw [HL.out]; exact hlt)
   have f0 := hb0.free k
   rw [HD.out k (Nat.le_refl _) hlt, hv] at c0
   have hI' := hI.below hbel
   have HN := Lib.hid hn; have H0 := Lib.hid h0; have HV := Lib.hid hv
   have i0 : (k : Int) < 27 := by omega
   have hn2 : n ≤ 17592186044416 := by have := HX.out k hlt; rw [HN.out] at this; exact this
   clear hn h0 hv hI hc1 hc2
   go_wp2_with (go_at_call 98; refine (slices_clone a n c (rx X k) _ hI' HN.out hn2 H0.out).mono ?_; rintro e w2 ⟨v2, rfl, hown2, hbel2⟩; obtain ⟨a2, n2, c2, rfl⟩ := hown2.form; have hb0' := hb0.below hbel2 hb0.lt; have hc0' := hb0'.cell (i := k) (by rw [HL.out]; exact hlt); have hf0' := hb0'.free k; have hb1' := hb1.below hbel2 hb1.lt)
   go_roundw
   case rel =>
    have hl' : us.length = 27 := HL.out
    have hbs := hbel2.size
    refine ⟨k + 1, by go_num, by omega, us.set k (.slice a2 n2 c2), by simpa using hl', hb0'.set k _, hb1'.other (by simp) _, fun i hi => ?_, fun i j hij hj => ?_, fun i h1 h2 => ?_, (below_then hbel (by omega) hbel2).setCell (Nat.le_refl _) _, by rw [size_setCell]; omega⟩
    ·by_cases hik : i = k
     ·subst hik
      rw [vx_set_eq (by omega)]
      exact (hown2.mono (by omega)).setCell (by simp) _
     ·rw [vx_set_ne (fun h => hik h.symm)]
      exact ((HO.out i (by omega)).kept hbel2).setCell (by simp) _
    ·by_cases hjk : j = k
     ·subst hjk
      rw [vx_set_eq (by omega), vx_set_ne (by omega)]
      exact (HO.out i (by omega)).sep hown2
     ·rw [vx_set_ne (fun h => hjk h.symm), vx_set_ne (by omega)]
      exact HS.out i j hij (by omega)
    ·rw [vx_set_ne (by omega)]
     exact HD.out i (by omega) h2
   case measure => simp [intOf]; omega
  ·obtain rfl : k = 27 := by omega
   have hsl : Slv us := by
    intro i hi
    obtain ⟨a, n, c, h⟩ := (HO.out i (by rw [HL.out] at hi; exact hi)).form
    exact ⟨a, n, c, h⟩
   have HSL := Lib.hid hsl
   clear hsl hlt
   go_wp2_with (first | (refine regs_load rfl _ rfl w.heap.size rfl us _ hb0 HL.out ?_) | (refine regs_store rfl _ _ rfl (w.heap.size + 1) rfl us rfl nil27 _ hb1 nil27_len HL.out HSL.out ?_; intro w2 hB2 hL2))
   refine bodyPost_ret (results_c Try.results276 rfl (regs_loadVar hB2 HL.out)) rfl ?_
   exact ⟨us, rfl, HL.out, fun i hi => ((HO.out i hi).left hL2 (by omega)).mono (by omega), HS.out, hL2.bel (by omega) hbel⟩
def putX (X : List (List Int)) (j : Nat) (y : List Int) : List (List Int) := (X.set j y).set 0 y
theorem slv_put {us : List Value} (hl : us.length = 27) (hs : Slv us) (j : Nat) (a5 : Option Addr) (n5 c5 : Nat) (a8 : Option Addr) (n8 c8 : Nat) : Slv ((us.set j (.slice a5 n5 c5)).set 0 (.slice a8 n8 c8)) := by
 intro i hi
 rw [List.length_set, List.length_set] at hi
 by_cases h0 : i = 0
 ·subst h0
  exact ⟨a8, n8, c8, vx_set_eq (by rw [List.length_set]; exact hi) _⟩
 ·rw [vx_set_ne (fun e => h0 e.symm)]
  by_cases hij : i = j
  ·subst hij
   exact ⟨a5, n5, c5, vx_set_eq hi _⟩
  ·rw [vx_set_ne (fun e => hij e.symm)]
   exact hs i hi
def GetVPost (y : List Int) (E : Int) (w : World) (e : Ending) (w' : World) : Prop := ∃ v, e = .returned (.tuple #[v, .int .i64 E]) ∧ Sl w' v y ∧ Below w.heap.size w w'
def regE (y : List Int) : Int := if y = [] then 6 else 0
set_option maxRecDepth 100000 in
set_option maxHeartbeats 1000000 in
theorem reg_get_key (vs : List Value) (name : Int) (w : World) (hO : numO name = false) :
  Calls Try.prog 254 #[.agg (rgA vs), .int .i64 name] w (GetVPost [] 9 w) := by
 have HO := Lib.hid hO
 clear hO
 go_enter Try.func254, Try.ntmps254
 go_wp2_with (first | (go_at_call 275; refine (reg_number _ _).mono ?_; rintro e w1 ⟨rfl, rfl⟩; rw [HO.out]))
 go_ret2
 exact ⟨_, rfl, Sl.nil _, below1 _ _⟩
set_option maxRecDepth 100000 in
set_option maxHeartbeats 1000000 in
theorem reg_get_in (vs : List Value) (X : List (List Int)) (name : Int) (j : Nat) (w : World) (h : Rgs w vs X) (hX : (rx X j).length ≤ 17592186044416) (hI : numI name = (j : Int)) (hj : j < 27) (hO : numO name = true) :
  Calls Try.prog 254 #[.agg (rgA vs), .int .i64 name] w (GetVPost (rx X j) (regE (rx X j)) w) := by
 obtain ⟨a1, n1, c1, hv, hn1, hc1, hc2, hI1, h01⟩ := h.sl j hj
 rw [hn1] at hX
 have HI := Lib.hid hI; have HO := Lib.hid hO; have HV := Lib.hid hv; have HN1 := Lib.hid hn1; have H01 := Lib.hid h01; have HLV := Lib.hid h.lv
 clear h hI hO hv h01 hn1
 have hB0 := BlkR.new w vs 133
 have c0 := hB0.cell (i := j) (by rw [HLV.out]; exact hj)
 rw [HV.out] at c0
 have hacc := below1 w (.cells (rgA vs) 133)
 have i0 : (j : Int) < 27 := by omega
 have hI2 := hI1.below hacc
 have hsz : (w.alloc (.cells (rgA vs) 133)).heap.size = w.heap.size + 1 := by simp
 have HSZ := Lib.hid hsz; clear hsz
 by_cases hz : n1 = 0
 ·have hnil : rx X j = [] := List.eq_nil_of_length_eq_zero (by rw [HN1.out]; exact hz)
  subst hz
  have hE : regE (rx X j) = 6 := by rw [hnil]; rfl
  have HNIL := Lib.hid hnil; have HE := Lib.hid hE; clear hnil hE
  go_enter Try.func254, Try.ntmps254
  go_wp2_with (first | (go_at_call 275; refine (reg_number _ _).mono ?_; rintro e w1 ⟨rfl, rfl⟩; rw [HO.out, HI.out]))
  go_ret2
  rw [HE.out, HNIL.out]
  exact ⟨_, rfl, Sl.nil _, hacc⟩
 ·have hz' : ((n1 : Int) == 0) = false := by simp; omega
  have hnil : rx X j ≠ [] := fun h => hz (by rw [← HN1.out, h]; rfl)
  have hE : regE (rx X j) = 0 := if_neg hnil
  have HE := Lib.hid hE; clear hnil hz hE
  go_enter Try.func254, Try.ntmps254
  go_wp2_with (first | (go_at_call 275; refine (reg_number _ _).mono ?_; rintro e w1 ⟨rfl, rfl⟩; rw [HO.out, HI.out]) | ((go_at_call 98); refine (slices_clone a1 n1 c1 (rx X j) _ hI2 HN1.out hX H01.out).mono ?_; rintro e w5 ⟨v5, rfl, hown5, hb5⟩))
  go_ret2
  rw [HE.out]
  exact ⟨_, rfl, hown5.sl, below_then hacc (by rw [HSZ.out]; omega) hb5⟩
def regI (name : Int) : Int := if numO name = true then numI name else -1
theorem num_cases (name : Int) : (numO name = false ∧ numM name = false ∧ numI name = 0) ∨ (numO name = true ∧ 0 ≤ numI name ∧ numI name < 27) := by
 unfold numO numM numI
 by_cases h0 : name = 0
 ·simp [h0]
 ·by_cases h1 : 97 ≤ name ∧ name ≤ 122
  ·rw [if_neg h0, if_neg h0, if_neg h0, if_pos h1, if_pos h1, if_pos h1]; right; exact ⟨by trivial, by omega, by omega⟩
  ·by_cases h2 : 65 ≤ name ∧ name ≤ 90
   ·simp only [if_neg h0, if_neg h1, if_pos h2]; right; exact ⟨by trivial, by omega, by omega⟩
   ·simp only [if_neg h0, if_neg h1, if_neg h2]; left; exact ⟨by trivial, by trivial, by trivial⟩
theorem regI_low {name : Int} {k : Nat} (hk : k < 26) (h : name = 97 + (k : Int)) : regI name = (k : Int) + 1 ∧ numM name = false := by
 have h0 : ¬ name = 0 := by omega
 have h1 : 97 ≤ name ∧ name ≤ 122 := by omega
 unfold regI numO numM numI
 rw [if_neg h0, if_neg h0, if_neg h0, if_pos h1, if_pos h1, if_pos h1]
 exact ⟨by rw [if_pos rfl]; omega, rfl⟩
theorem regI_high {name : Int} {k : Nat} (hk : k < 26) (h : name = 65 + (k : Int)) : regI name = (k : Int) + 1 ∧ numM name = true := by
 have h0 : ¬ name = 0 := by omega
 have h1 : ¬ (97 ≤ name ∧ name ≤ 122) := by omega
 have h2 : 65 ≤ name ∧ name ≤ 90 := by omega
 unfold regI numO numM numI
 simp only [if_neg h0, if_neg h1, if_pos h2]
 exact ⟨by simp; omega, by trivial⟩
theorem regI_none {name : Int} (h0 : ¬ name = 0) (h : ∀ k : Nat, k < 26 → name ≠ 97 + (k : Int) ∧ name ≠ 65 + (k : Int)) : regI name = -1 ∧ numM name = false := by
 have h1 : ¬ (97 ≤ name ∧ name ≤ 122) := fun hh => (h (name - 97).toNat (by omega)).1 (by omega)
 have h2 : ¬ (65 ≤ name ∧ name ≤ 90) := fun hh => (h (name - 65).toNat (by omega)).2 (by omega)
 unfold regI numO numM numI
 simp [if_neg h0, if_neg h1, if_neg h2]
set_option maxHeartbeats 400000 in
theorem ref_register (name : Int) (w : World) :
  Calls Try.prog 236 #[.int .i64 name] w fun e w' => e = .returned (.tuple #[.int .i64 (regI name), .bool (numM name)]) ∧ w = w' := by
 by_cases h0 : name = 0
 ·subst h0
  go_enter Try.func236, Try.ntmps236
  go_wp2
  go_ret2
  exact ⟨rfl, rfl⟩
 have h0' : (name == 0) = false := by simpa using h0
 have H0 := Lib.hid h0
 clear h0
 go_enter Try.func236, Try.ntmps236
 go_wp2
 go_loop [7] (fun i => ∃ k : Nat, i = .int .i64 (k : Int) ∧ k ≤ 26 ∧ ∀ k' : Nat, k' < k → name ≠ 97 + (k' : Int) ∧ name ≠ 65 + (k' : Int)) (fun i => 26 - (intOf i).toNat)
 case atStart => exact ⟨0, rfl, by omega, fun k' h => by omega⟩
 case round =>
  obtain ⟨k, rfl, hk, hno⟩ := hrel
  have HNO := Lib.hid hno; clear hno
  by_cases hlt : k < 26
  ·by_cases h1 : name = 97 + (k : Int)
   ·have HR := Lib.hid (regI_low hlt h1)
    have b1 : (name == 97 + (k : Int)) = true := by simpa using h1
    have b2 : (name == 65 + (k : Int)) = false := by simp; omega
    have H1 := Lib.hid h1; clear h1
    go_wp2
    go_ret2
    exact ⟨ret2_ib HR.out.1.symm HR.out.2.symm, rfl⟩
   ·by_cases h2 : name = 65 + (k : Int)
    ·have HR := Lib.hid (regI_high hlt h2)
     have b1 : (name == 97 + (k : Int)) = false := by simpa using h1
     have b2 : (name == 65 + (k : Int)) = true := by simpa using h2
     clear h1 h2
     go_wp2
     go_ret2
     exact ⟨ret2_ib HR.out.1.symm HR.out.2.symm, rfl⟩
    ·have b1 : (name == 97 + (k : Int)) = false := by simpa using h1
     have b2 : (name == 65 + (k : Int)) = false := by simpa using h2
     have H1 := Lib.hid h1; have H2 := Lib.hid h2; clear h1 h2
     go_wp2
     go_round
     case rel => exact ⟨k + 1, by go_num, by omega, fun k' h => by
      rcases Nat.lt_succ_iff_lt_or_eq.1 h with h | rfl
      ·exact HNO.out k' h
      ·exact ⟨H1.out, H2.out⟩⟩
     case measure => simp [intOf]; omega
  ·obtain rfl : k = 26 := by omega
   have HR := Lib.hid (regI_none H0.out HNO.out)
   go_wp2
   go_ret2
   exact ⟨ret2_ib HR.out.1.symm HR.out.2.symm, rfl⟩
theorem ref_get_key (vs : List Value) (name : Int) (w : World) (hO : numO name = false) :
  Calls Try.prog 239 #[.agg (rgA vs), .int .i64 name] w (GetVPost [] 9 w) := by
 have HO := Lib.hid (show regI name = -1 by rw [regI, hO]; rfl)
 clear hO
 go_enter Try.func239, Try.ntmps239
 go_wp2_with (first | (go_at_call 236; refine (ref_register _ _).mono ?_; rintro e w1 ⟨rfl, rfl⟩; rw [HO.out]))
 go_ret2
 exact ⟨_, rfl, Sl.nil _, below1 _ _⟩
theorem ref_get_in (vs : List Value) (X : List (List Int)) (name : Int) (j : Nat) (w : World) (h : Rgs w vs X) (hI : regI name = (j : Int)) (hj : j < 27) :
  Calls Try.prog 239 #[.agg (rgA vs), .int .i64 name] w (GetVPost (rx X j) (regE (rx X j)) w) := by
 have hsl := h.sl j hj
 obtain ⟨a1, n1, c1, hv, hn1, hc1, hc2, hI1, h01⟩ := h.sl j hj
 have HI := Lib.hid hI; have HV := Lib.hid hv; have HN1 := Lib.hid hn1; have HLV := Lib.hid h.lv
 have hB0 := BlkR.new w vs 133
 have c0 := hB0.cell (i := j) (by rw [HLV.out]; exact hj)
 rw [HV.out] at c0 hsl
 have hacc := below1 w (.cells (rgA vs) 133)
 have i0 : (j : Int) < 27 := by omega
 have hs2 := hsl.below hacc
 clear h hI hv h01 hn1 hI1 hsl
 by_cases hz : n1 = 0
 ·have hnil : rx X j = [] := List.eq_nil_of_length_eq_zero (by rw [HN1.out]; exact hz)
  subst hz
  have hE : regE (rx X j) = 6 := by rw [hnil]; rfl
  have HNIL := Lib.hid hnil; have HE := Lib.hid hE; clear hnil hE
  go_enter Try.func239, Try.ntmps239
  go_wp2_with (first | (go_at_call 236; refine (ref_register _ _).mono ?_; rintro e w1 ⟨rfl, rfl⟩; rw [HI.out]))
  go_ret2
  rw [HE.out, HNIL.out]
  exact ⟨_, rfl, Sl.nil _, hacc⟩
 ·have hz' : ((n1 : Int) == 0) = false := by simp; omega
  have hnil : rx X j ≠ [] := fun h => hz (by rw [← HN1.out, h]; rfl)
  have hE : regE (rx X j) = 0 := if_neg hnil
  have HE := Lib.hid hE; clear hnil hz hE
  go_enter Try.func239, Try.ntmps239
  go_wp2_with (first | (go_at_call 236; refine (ref_register _ _).mono ?_; rintro e w1 ⟨rfl, rfl⟩; rw [HI.out]))
  go_ret2
  rw [HE.out]
  exact ⟨_, rfl, hs2, hacc⟩
set_option maxRecDepth 100000 in
set_option maxHeartbeats 1000000 in
theorem ref_same_regs (us vs : List Value) (X : List (List Int)) (w : World) (hu : Rgs w us X) (hv : Rgs w vs X) :
  Calls Try.prog 86 #[.agg (rgA us), .agg (rgA vs)] w fun e w' => e = .returned (.bool true) ∧ Below w.heap.size w w' := by
 have hB0 := (BlkR.new w us 133).alloc (.cells (rgA vs) 133)
 have hB1 := BlkR.new (w.alloc (.cells (rgA us) 133)) vs 133
 rw [World.size_alloc] at hB1
 have hacc := below2 w (.cells (rgA us) 133) (.cells (rgA vs) 133)
 have HU := Lib.hid (hu.below hacc); have HV := Lib.hid (hv.below hacc)
 clear hu hv
 go_enter Try.func86, Try.ntmps86
 go_upto_region 1 with fail
 change Code.wp _ _ _ _ ((w.alloc (.cells (rgA us) 133)).alloc (.cells (rgA vs) 133))
 generalize (w.alloc (.cells (rgA us) 133)).alloc (.cells (rgA vs) 133) = w1 at *
 go_wp2
 go_loopw [6] (fun i wr => ∃ k : Nat, i = .int .i64 (k : Int) ∧ k ≤ 27 ∧ BlkR wr w.heap.size us 133 ∧ BlkR wr (w.heap.size + 1) vs 133 ∧ Rgs wr us X ∧ Rgs wr vs X ∧ Below w.heap.size w wr) (fun i _ => 27 - (intOf i).toNat)
 case atStart => exact ⟨0, rfl, by omega, hB0, hB1, HU.out, HV.out, hacc⟩
 case round =>
  obtain ⟨k, rfl, hk, hB0, hB1, hu, hv, hbel⟩ := hrel
  have HU := Lib.hid hu; have HV := Lib.hid hv
  clear hu hv
  by_cases hlt : k < 27
  ·obtain ⟨a1, n1, c1, hv1, hn1, hc1, hc12, hI1, h01⟩ := HU.out.sl k hlt
   obtain ⟨a2, n2, c2, hv2, hn2, hc2, hc22, hI2, h02⟩ := HV.out.sl k hlt
   have c0 := hB0.cell (i := k) (by rw [HU.out.lv]; exact hlt)
   have c1' := hB1.cell (i := k) (by rw [HV.out.lv]; exact hlt)
   rw [hv1] at c0
   rw [hv2] at c1'
   have HN1 := Lib.hid hn1; have HN2 := Lib.hid hn2
   have i0 : (k : Int) < 27 := by omega
   clear hv1 hv2 hn1 hn2 h01 h02
   go_wp2
   go_quiet ((go_at_call 22; exact Calls.quiet_of (slices_same a1 a2 n1 n2 c1 c2 (rx X k) _ (hI1.drewN _) (hI2.drewN _) HN1.out HN2.out (by omega))))
   go_wp2
   go_roundw
   case rel => exact ⟨k + 1, by go_num, by omega, hB0.drewN _, hB1.drewN _, HU.out.drewN _, HV.out.drewN _, below_drewN hbel _⟩
   case measure => simp [intOf]; omega
  ·obtain rfl : k = 27 := by omega
   go_wp2
   go_ret
   exact ⟨rfl, hbel⟩
def regJ (name : Int) : Nat := (numI name).toNat
def putEs (X : List (List Int)) (name : Int) (t : List Int) : Int :=
 if numO name = false then 9 else if numM name = true then (if 200 < (rx X (regJ name)).length + t.length then 2 else 0) else if 200 < t.length then 2 else 0
def putYs (X : List (List Int)) (name : Int) (t : List Int) : List (List Int) :=
 if numO name = false then nilX else if numM name = true then (if 200 < (rx X (regJ name)).length + t.length then nilX else putX X (regJ name) (rx X (regJ name) ++ t)) else if 200 < t.length then nilX else putX X (regJ name) t
def getYs (X : List (List Int)) (name : Int) : List Int := if numO name = false then [] else rx X (regJ name)
def getEs (X : List (List Int)) (name : Int) : Int := if numO name = false then 9 else regE (rx X (regJ name))
theorem regJ_lt {name : Int} (h : numO name = true) : regJ name < 27 ∧ numI name = (regJ name : Int) ∧ regI name = (regJ name : Int) := by
 rcases num_cases name with h1 | ⟨_, h2, h3⟩
 ·rw [h] at h1; simp at h1
 ·unfold regJ regI
  rw [if_pos h]
  omega
theorem put_key {X : List (List Int)} {name : Int} {t : List Int} (hO : numO name = false) : putYs X name t = nilX ∧ putEs X name t = 9 := by simp [putYs, putEs, hO]
theorem put_new {X : List (List Int)} {name : Int} {t : List Int} (hO : numO name = true) (hM : numM name = false) : putYs X name t = (if 200 < t.length then nilX else putX X (regJ name) t) ∧ putEs X name t = (if 200 < t.length then 2 else 0) := by simp [putYs, putEs, hO, hM]
theorem put_more {X : List (List Int)} {name : Int} {t : List Int} (hO : numO name = true) (hM : numM name = true) : putYs X name t = (if 200 < (rx X (regJ name)).length + t.length then nilX else putX X (regJ name) (rx X (regJ name) ++ t)) ∧ putEs X name t = (if 200 < (rx X (regJ name)).length + t.length then 2 else 0) := by simp [putYs, putEs, hO, hM]
theorem reg_get (vs : List Value) (X : List (List Int)) (name : Int) (w : World) (h : Rgs w vs X) (hX : ∀ i, i < 27 → (rx X i).length ≤ 1048576) :
  Calls Try.prog 254 #[.agg (rgA vs), .int .i64 name] w (GetVPost (getYs X name) (getEs X name) w) := by
 cases hO : numO name
 ·rw [getYs, getEs, if_pos hO, if_pos hO]
  exact reg_get_key vs name w hO
 ·obtain ⟨j1, j2, j3⟩ := regJ_lt hO
  rw [getYs, getEs, if_neg (by simp [hO]), if_neg (by simp [hO])]
  exact reg_get_in vs X name _ w h (by have := hX _ j1; omega) j2 j1 hO
theorem ref_get (vs : List Value) (X : List (List Int)) (name : Int) (w : World) (h : Rgs w vs X) :
  Calls Try.prog 239 #[.agg (rgA vs), .int .i64 name] w (GetVPost (getYs X name) (getEs X name) w) := by
 cases hO : numO name
 ·rw [getYs, getEs, if_pos hO, if_pos hO]
  exact ref_get_key vs name w hO
 ·obtain ⟨j1, j2, j3⟩ := regJ_lt hO
  rw [getYs, getEs, if_neg (by simp [hO]), if_neg (by simp [hO])]
  exact ref_get_in vs X name _ w h j3 j1
structure RgO (base : Nat) (w : World) (vs : List Value) (X : List (List Int)) : Prop where
 lv : vs.length = 27
 lx : X.length = 27
 ow : ∀ i, i < 27 → Own 3 base w (vx vs i) (rx X i)
theorem rgo_nil (base : Nat) (w : World) : RgO base w nil27 nilX := by
 refine ⟨rfl, rfl, fun i hi => ?_⟩
 have h1 : vx nil27 i = .slice none 0 0 := vx_nil27 hi
 have h2 : rx nilX i = [] := getD_rep 27 _ _ hi
 rw [h1, h2]; exact Own.nil _ _ _
theorem RgO.rgs {base : Nat} {w : World} {vs : List Value} {X : List (List Int)} (h : RgO base w vs X) : Rgs w vs X := ⟨h.lv, h.lx, fun i hi => (h.ow i hi).sl⟩
theorem RgO.slv {base : Nat} {w : World} {vs : List Value} {X : List (List Int)} (h : RgO base w vs X) : Slv vs := h.rgs.slv
def PutPostO (Y : List (List Int)) (E : Int) (w : World) (e : Ending) (w' : World) : Prop := ∃ vs, e = .returned (.tuple #[.agg (rgA vs), .int .i64 E]) ∧ RgO w.heap.size w' vs Y ∧ Below w.heap.size w w'
theorem rgo_put {w : World} {N : Nat} {us : List Value} {X : List (List Int)} {j : Nat} {y : List Int} {v v2 : Value} (hl : us.length = 27) (hx : X.length = 27) (hj : j < 27) (h : ∀ i, i < 27 → i ≠ j → Own 3 N w (vx us i) (rx X i)) (h1 : Own 3 N w v y) (h2 : Own 3 N w v2 y) :
  RgO N w ((us.set j v).set 0 v2) (putX X j y) := by
 refine ⟨by simpa using hl, by simpa [putX] using hx, fun i hi => ?_⟩
 unfold putX
 by_cases h0 : i = 0
 ·subst h0
  rw [vx_set_eq (by simp; omega), rx_set_eq (by simp; omega)]
  exact h2
 ·rw [vx_set_ne (fun e => h0 e.symm), rx_set_ne (fun e => h0 e.symm)]
  by_cases hij : i = j
  ·subst hij
   rw [vx_set_eq (by omega), rx_set_eq (by omega)]
   exact h1
  ·rw [vx_set_ne (fun e => hij e.symm), rx_set_ne (fun e => hij e.symm)]
   exact h i hi hij
set_option maxRecDepth 100000 in
set_option maxHeartbeats 1000000 in
theorem reg_putO_key (vs : List Value) (X : List (List Int)) (name : Int) (tv : Value) (w : World) (hO : numO name = false) :
  Calls Try.prog 255 #[.agg (rgA vs), .int .i64 name, tv] w (PutPostO nilX 9 w) := by
 have HO := Lib.hid hO
 clear hO
 have hal := alloc_regs
 have hbl := build_regs
 have hB1 := BlkR.new (w.alloc (.cells (rgA vs) 133)) nil27 133
 rw [World.size_alloc] at hB1
 have hacc := below2 w (.cells (rgA vs) 133) (.cells (rgA nil27) 133)
 go_enter Try.func255, Try.ntmps255
 go_wp2_with (first | (go_at_call 275; refine (reg_number _ _).mono ?_; rintro e w1 ⟨rfl, rfl⟩; rw [HO.out]) | (refine regs_store rfl _ _ rfl (w.heap.size + 1) rfl nil27 rfl nil27 _ hB1 nil27_len nil27_len slv_nil27 ?_; intro w2 hB2 hL2))
 exact bodyPost_ret (results_ct Try.results255 rfl (regs_loadVar hB2 nil27_len)) rfl ⟨nil27, rfl, rgo_nil _ _, hL2.bel (by omega) hacc⟩
set_option maxRecDepth 100000 in
set_option maxHeartbeats 1000000 in
theorem reg_putO_large (vs : List Value) (X : List (List Int)) (name : Int) (j : Nat) (mo : Bool) (a : Option Addr) (n c : Nat) (w : World) (h : Rgs w vs X) (hI : numI name = (j : Int)) (hj : j < 27) (hM : numM name = mo) (hO : numO name = true)
  (hl : 200 < n ∨ (mo = true ∧ n ≤ 200 ∧ 200 < (rx X j).length + n)) (hn : n ≤ 9223372036854775807) :
  Calls Try.prog 255 #[.agg (rgA vs), .int .i64 name, .slice a n c] w (PutPostO nilX 2 w) := by
 obtain ⟨a1, n1, c1, hv, hn1, hc1, hc2, hI1, h0⟩ := h.sl j hj
 rw [hn1] at hl
 have HI := Lib.hid hI; have HM := Lib.hid hM; have HO := Lib.hid hO; have HLV := Lib.hid h.lv; have HV := Lib.hid hv
 clear hI hM hO h hv h0 hI1 hn1
 have hal := alloc_regs
 have hbl := build_regs
 have hB0 := (BlkR.new w vs 133).alloc (.cells (rgA nil27) 133)
 have c0 := hB0.cell (i := j) (by rw [HLV.out]; exact hj)
 rw [HV.out] at c0
 have hB1 := BlkR.new (w.alloc (.cells (rgA vs) 133)) nil27 133
 rw [World.size_alloc] at hB1
 have hacc := below2 w (.cells (rgA vs) 133) (.cells (rgA nil27) 133)
 have i0 : (j : Int) < 27 := by omega
 rcases hl with hl | ⟨rfl, hl1, hl2⟩
 all_goals
  go_enter Try.func255, Try.ntmps255
  go_upto_region 1 with fail
  change Code.wp _ _ _ _ ((w.alloc (.cells (rgA vs) 133)).alloc (.cells (rgA nil27) 133))
  generalize (w.alloc (.cells (rgA vs) 133)).alloc (.cells (rgA nil27) 133) = w1 at *
  go_wp2_with (first | (go_at_call 275; refine (reg_number _ _).mono ?_; rintro e w1 ⟨rfl, rfl⟩; rw [HO.out, HM.out, HI.out]) | (refine regs_store rfl _ _ rfl (w.heap.size + 1) rfl nil27 rfl nil27 _ hB1 nil27_len nil27_len slv_nil27 ?_; intro w2 hB2 hL2))
  exact bodyPost_ret (results_ct Try.results255 rfl (regs_loadVar hB2 nil27_len)) rfl ⟨nil27, rfl, rgo_nil _ _, hL2.bel (by omega) hacc⟩
set_option maxRecDepth 100000 in
set_option maxHeartbeats 1000000 in
theorem reg_putO_new (vs : List Value) (X : List (List Int)) (name : Int) (j : Nat) (a : Option Addr) (n c : Nat) (t : List Int) (w : World) (h : Rgs w vs X) (hX : ∀ i, i < 27 → (rx X i).length ≤ 17592186044416) (hI : numI name = (j : Int)) (hj : j < 27) (hM : numM name = false) (hO : numO name = true)
  (ht : Ints w a t) (hn : t.length = n) (h0 : a = none → n = 0) (hl : n ≤ 200) :
  Calls Try.prog 255 #[.agg (rgA vs), .int .i64 name, .slice a n c] w (PutPostO (putX X j t) 0 w) := by
 have H := Lib.hid h; have HX := Lib.hid hX; have HI := Lib.hid hI; have HM := Lib.hid hM; have HO := Lib.hid hO; have HN := Lib.hid hn; have HA := Lib.hid h0
 clear h hX hI hM hO hn h0
 have hal := alloc_regs
 have hB0 := (BlkR.new w vs 133).alloc (.cells (rgA nil27) 133)
 have hB1 := BlkR.new (w.alloc (.cells (rgA vs) 133)) nil27 133
 rw [World.size_alloc] at hB1
 have hacc := below2 w (.cells (rgA vs) 133) (.cells (rgA nil27) 133)
 have hsz : w.heap.size + 2 ≤ ((w.alloc (.cells (rgA vs) 133)).alloc (.cells (rgA nil27) 133)).heap.size := by simp
 have i0 : (j : Int) < 27 := by omega
 go_enter Try.func255, Try.ntmps255
 go_upto_region 1 with fail
 change Code.wp _ _ _ _ ((w.alloc (.cells (rgA vs) 133)).alloc (.cells (rgA nil27) 133))
 generalize (w.alloc (.cells (rgA vs) 133)).alloc (.cells (rgA nil27) 133) = w1 at *
 go_wp2_with (first | (go_at_call 275; refine (reg_number _ _).mono ?_; rintro e w1 ⟨rfl, rfl⟩; rw [HO.out, HM.out, HI.out]) | (refine regs_load rfl _ rfl w.heap.size rfl vs _ hB0 H.out.lv ?_))
 refine (reg_copied vs X _ (H.out.below hacc) HX.out).mono ?_
 rintro e w2 ⟨us, rfl, hul, hown, hsep, hb2⟩
 have HUL := Lib.hid hul; have HOW := Lib.hid hown; have HSE := Lib.hid hsep; clear hul hown hsep
 have hB1' := hB1.below hb2 hB1.lt
 have hB2 := BlkR.new w2 nil27 133
 have hbel2 := below_then hacc (by omega) hb2
 have hbel3 := hbel2.alloc (by have := hb2.size; omega) (.cells (rgA nil27) 133)
 have hz2 : w.heap.size + 2 ≤ w2.heap.size := by have := hb2.size; omega
 have hslv : Slv us := fun i hi => by
  obtain ⟨a, n, c, h⟩ := (HOW.out i (by rw [HUL.out] at hi; exact hi)).form
  exact ⟨a, n, c, h⟩
 have hB1'' := hB1'.alloc (.cells (rgA nil27) 133)
 have HSLV := Lib.hid hslv; clear hslv
 go_wp2_with (refine regs_store rfl _ _ rfl w2.heap.size rfl us rfl nil27 _ hB2 nil27_len HUL.out HSLV.out ?_; intro w4 hB4 hL4; have hz4 := hL4.size; rw [World.size_alloc] at hz4; have hB5 := hL4.blkR (by omega) hB1''; have hb24 := hL4.bel (Nat.le_refl _) (below1 w2 (.cells (rgA nil27) 133)); have hbel4 := hL4.bel (by omega) hbel3; clear hL4 hbel3 hB1'' hB2)
 have hT : Ints w4 a t := ht.below hbel4
 have hz4' : w2.heap.size < w4.heap.size := by omega
 have HZ4 := Lib.hid hz4; clear hz4
 go_wp2_with ((go_at_call 98); refine (slices_clone a n c t _ hT HN.out (by omega) HA.out).mono ?_; rintro e w5 ⟨v5, rfl, hown5, hb5⟩; obtain ⟨a5, n5, c5, rfl⟩ := hown5.form; have hB6 := hB4.below hb5 hB4.lt; have f6 := hB6.free j; have c6 := hB6.cell (i := j) (by rw [HUL.out]; exact hj))
 have hown7 := hown5.setCell (a := ⟨w2.heap.size, j, none⟩) hz4' (.slice a5 n5 c5)
 obtain ⟨g1, g2, g3, g4, g5⟩ := hown7.sl.get
 have G1 := Lib.hid g1; have G5 := Lib.hid g5
 have hn5 : n5 ≤ 200 := by rw [← g1, HN.out]; exact hl
 have hB7 := hB6.set j (.slice a5 n5 c5)
 have hbel7 := (below_then hbel4 (by omega) hb5).setCell (p := ⟨w2.heap.size, j, none⟩) (by show w.heap.size ≤ w2.heap.size; omega) (.slice a5 n5 c5)
 have hd7 := (below_then hb24 (by omega) hb5).setCell (p := ⟨w2.heap.size, j, none⟩) (Nat.le_refl _) (.slice a5 n5 c5)
 have hz7 : w4.heap.size ≤ (w5.setCell ⟨w2.heap.size, j, none⟩ (.slice a5 n5 c5)).heap.size := by rw [size_setCell]; exact hb5.size
 have hU7 : (us.set j (.slice a5 n5 c5)).length = 27 := by rw [List.length_set, HUL.out]
 have HU7 := Lib.hid hU7
 have hB57 := (hB5.below hb5 (by omega)).other (a := ⟨w2.heap.size, j, none⟩) (by simp; omega) (.slice a5 n5 c5)
 clear g1 g5 hB6 hU7
 go_wp2_with (first | ((go_at_call 98); refine (slices_clone a5 n5 c5 t _ g4 G1.out (by omega) G5.out).mono ?_; rintro e w8 ⟨v8, rfl, hown8, hb8⟩; obtain ⟨a8, n8, c8, rfl⟩ := hown8.form; have hB8 := hB7.below hb8 hB7.lt; have f8 := hB8.free 0; have e8 := hB8.cell (i := 0) (by rw [HU7.out]; omega); have hB9 := hB8.set 0 (.slice a8 n8 c8); have HU9 := Lib.hid (show ((us.set j (.slice a5 n5 c5)).set 0 (.slice a8 n8 c8)).length = 27 by rw [List.length_set, HU7.out]); have hB59 := (hB57.below hb8 (by omega)).other (a := ⟨w2.heap.size, 0, none⟩) (by simp; omega) (.slice a8 n8 c8); have HS9 := Lib.hid (slv_put HUL.out HSLV.out j a5 n5 c5 a8 n8 c8)) | (refine regs_load rfl _ rfl w2.heap.size rfl _ _ hB9 HU9.out ?_) | (refine regs_store rfl _ _ rfl (w.heap.size + 1) rfl ((us.set j (.slice a5 n5 c5)).set 0 (.slice a8 n8 c8)) rfl nil27 _ hB59 nil27_len HU9.out HS9.out ?_; intro w10 hB10 hL10))
 have hz8 := hb8.size
 refine bodyPost_ret (results_ct Try.results255 rfl (regs_loadVar hB10 HU9.out)) rfl ⟨_, rfl, rgo_put HUL.out H.out.lx hj (fun i hi hij => ?_) ?_ ?_, hL10.bel (by omega) ((below_then hbel7 (by omega) hb8).setCell (by show w.heap.size ≤ w2.heap.size; omega) _)⟩
 ·exact (((HOW.out i hi).kept ((below_then hd7 (by omega) hb8).setCell (p := ⟨w2.heap.size, 0, none⟩) (Nat.le_refl _) _)).left hL10 (by omega)).mono (by omega)
 ·exact (((hown7.kept hb8).setCell (by exact hz4') _).left hL10 (by omega)).mono (by omega)
 ·exact ((hown8.setCell (by show w2.heap.size < _; omega) _).left hL10 (by omega)).mono (by omega)
set_option maxRecDepth 100000 in
set_option maxHeartbeats 2000000 in
theorem reg_putO_more (vs : List Value) (X : List (List Int)) (name : Int) (j : Nat) (a : Option Addr) (n c : Nat) (t : List Int) (w : World) (h : Rgs w vs X) (hX : ∀ i, i < 27 → (rx X i).length ≤ 17592186044416) (hI : numI name = (j : Int)) (hj : j < 27) (hM : numM name = true) (hO : numO name = true)
  (ht : Ints w a t) (hn : t.length = n) (h0 : a = none → n = 0) (hl : n ≤ 200) (hl2 : (rx X j).length + n ≤ 200) :
  Calls Try.prog 255 #[.agg (rgA vs), .int .i64 name, .slice a n c] w (PutPostO (putX X j (rx X j ++ t)) 0 w) := by
 obtain ⟨a1, n1, c1, hv, hn1, hc1, hc2, hI1, h01⟩ := h.sl j hj
 rw [hn1] at hl2
 have H := Lib.hid h; have HX := Lib.hid hX; have HI := Lib.hid hI; have HM := Lib.hid hM; have HO := Lib.hid hO; have HN := Lib.hid hn; have HA := Lib.hid h0; have HV := Lib.hid hv; have HN1 := Lib.hid hn1
 clear h hX hI hM hO hn h0 hv h01 hI1 hn1
 have hal := alloc_regs
 have hB0 := (BlkR.new w vs 133).alloc (.cells (rgA nil27) 133)
 have c0 := hB0.cell (i := j) (by rw [H.out.lv]; exact hj)
 rw [HV.out] at c0
 have hB1 := BlkR.new (w.alloc (.cells (rgA vs) 133)) nil27 133
 rw [World.size_alloc] at hB1
 have hacc := below2 w (.cells (rgA vs) 133) (.cells (rgA nil27) 133)
 have hsz : w.heap.size + 2 ≤ ((w.alloc (.cells (rgA vs) 133)).alloc (.cells (rgA nil27) 133)).heap.size := by simp
 have i0 : (j : Int) < 27 := by omega
 go_enter Try.func255, Try.ntmps255
 go_upto_region 1 with fail
 change Code.wp _ _ _ _ ((w.alloc (.cells (rgA vs) 133)).alloc (.cells (rgA nil27) 133))
 generalize (w.alloc (.cells (rgA vs) 133)).alloc (.cells (rgA nil27) 133) = w1 at *
 go_wp2_with (first | (go_at_call 275; refine (reg_number _ _).mono ?_; rintro e w1 ⟨rfl, rfl⟩; rw [HO.out, HM.out, HI.out]) | (refine regs_load rfl _ rfl w.heap.size rfl vs _ hB0 H.out.lv ?_))
 refine (reg_copied vs X _ (H.out.below hacc) HX.out).mono ?_
 rintro e w2 ⟨us, rfl, hul, hown, hsep, hb2⟩
 have HUL := Lib.hid hul; have HOW := Lib.hid hown; have HSE := Lib.hid hsep; clear hul hown hsep c0
 have hB1' := hB1.below hb2 hB1.lt
 have hB2 := BlkR.new w2 nil27 133
 have hbel2 := below_then hacc (by omega) hb2
 have hbel3 := hbel2.alloc (by have := hb2.size; omega) (.cells (rgA nil27) 133)
 have hz2 : w1.heap.size ≤ w2.heap.size := hb2.size
 have hslv : Slv us := fun i hi => by
  obtain ⟨a, n, c, h⟩ := (HOW.out i (by rw [HUL.out] at hi; exact hi)).form
  exact ⟨a, n, c, h⟩
 have hB1'' := hB1'.alloc (.cells (rgA nil27) 133)
 have HSLV := Lib.hid hslv; clear hslv
 obtain ⟨aj, nj, cj, hvj⟩ := (HOW.out j hj).form
 have HVJ := Lib.hid hvj; clear hvj
 have hT : Ints w2 a t := ht.below hbel2
 have hA2 := HA.out
 have HL2 := Lib.hid (show (rx X j).length + n ≤ 17592186044416 by rw [HN1.out]; omega)
 clear hA2
 go_wp2_with (first | (at_builtin; refine appV rfl _ _ rfl w1.heap.size (.slice aj nj cj) (rx X j) t a n c rfl rfl hown4 hT4 HN.out HA.out HL2.out (by omega) ?_; intro v5 w5 hown5 hgrow5; obtain ⟨a5, n5, c5, rfl⟩ := hown5.form; have hB6 := hB4.grown hgrow5 (hown4.neBlk hB4 (by decide)); have hB56 := hB5.grown hgrow5 (hown4.neBlk hB5 (by decide)); have f6 := hB6.free j; have c6 := hB6.cell (i := j) (by rw [HUL.out]; exact hj)) | (refine regs_store rfl _ _ rfl w2.heap.size rfl us rfl nil27 _ hB2 nil27_len HUL.out HSLV.out ?_; intro w4 hB4 hL4; have hz4 := hL4.size; rw [World.size_alloc] at hz4; have hB5 := hL4.blkR (by omega) hB1''; have hb24 := hL4.bel (Nat.le_refl _) (below1 w2 (.cells (rgA nil27) 133)); have hbel4 := hL4.bel (by omega) hbel3; have hown4 := (HOW.out j hj).kept hb24; have c4 := hB4.cell (i := j) (by rw [HUL.out]; exact hj); have f4 := hB4.free j; rw [HVJ.out] at hown4 c4; have hT4 := ht.below hbel4; clear hL4 hbel3 hB1'' hB2))
 have hown7 := hown5.other (a := ⟨w2.heap.size, j, none⟩) (hown5.neBlk hB6 (by decide)) (.slice a5 n5 c5)
 obtain ⟨g1, g2, g3, g4, g5⟩ := hown7.sl.get
 have G1 := Lib.hid g1; have G5 := Lib.hid g5
 have hn5 : n5 ≤ 200 := by rw [← g1, List.length_append, HN.out, HN1.out]; exact hl2
 have hB7 := hB6.set j (.slice a5 n5 c5)
 have hbel5 := hbel4.grown hgrow5 (by omega) (fun k hk => by have := hown4.row k hk; omega)
 have hbel7 := hbel5.setCell (p := ⟨w2.heap.size, j, none⟩) (by show w.heap.size ≤ w2.heap.size; omega) (.slice a5 n5 c5)
 have hz7 : w4.heap.size ≤ (w5.setCell ⟨w2.heap.size, j, none⟩ (.slice a5 n5 c5)).heap.size := by rw [size_setCell]; exact hgrow5.size
 have hU7 : (us.set j (.slice a5 n5 c5)).length = 27 := by rw [List.length_set, HUL.out]
 have HU7 := Lib.hid hU7
 have hB57 := hB56.other (a := ⟨w2.heap.size, j, none⟩) (by simp; omega) (.slice a5 n5 c5)
 have HO7 := Lib.hid (show ∀ i, i < 27 → i ≠ j → Own 3 w1.heap.size (w5.setCell ⟨w2.heap.size, j, none⟩ (.slice a5 n5 c5)) (vx us i) (rx X i) from fun i hi hij => by
  have h1 := (HOW.out i hi).kept hb24
  have hs : Sep (vx us i) (.slice aj nj cj) := by
   rw [← HVJ.out]
   rcases Nat.lt_or_gt_of_ne hij with h | h
   ·exact HSE.out i j h hj
   ·exact (HSE.out j i h hi).symm
  have h2 := h1.grown hgrow5 hs
  exact hB6.put h2 (by decide) _ _)
 clear g1 g5 hU7 c4 f4
 go_wp2_with (first | ((go_at_call 98); refine (slices_clone a5 n5 c5 (rx X j ++ t) _ g4 G1.out (by omega) G5.out).mono ?_; rintro e w8 ⟨v8, rfl, hown8, hb8⟩; obtain ⟨a8, n8, c8, rfl⟩ := hown8.form; have hB8 := hB7.below hb8 hB7.lt; have f8 := hB8.free 0; have e8 := hB8.cell (i := 0) (by rw [HU7.out]; omega); have hB9 := hB8.set 0 (.slice a8 n8 c8); have HU9 := Lib.hid (show ((us.set j (.slice a5 n5 c5)).set 0 (.slice a8 n8 c8)).length = 27 by rw [List.length_set, HU7.out]); have hB59 := (hB57.below hb8 (by omega)).other (a := ⟨w2.heap.size, 0, none⟩) (by simp; omega) (.slice a8 n8 c8); have HS9 := Lib.hid (slv_put HUL.out HSLV.out j a5 n5 c5 a8 n8 c8)) | (refine regs_load rfl _ rfl w2.heap.size rfl _ _ hB9 HU9.out ?_) | (refine regs_store rfl _ _ rfl (w.heap.size + 1) rfl ((us.set j (.slice a5 n5 c5)).set 0 (.slice a8 n8 c8)) rfl nil27 _ hB59 nil27_len HU9.out HS9.out ?_; intro w10 hB10 hL10))
 have hz8 := hb8.size
 refine bodyPost_ret (results_ct Try.results255 rfl (regs_loadVar hB10 HU9.out)) rfl ⟨_, rfl, rgo_put HUL.out H.out.lx hj (fun i hi hij => ?_) ?_ ?_, hL10.bel (by omega) ((below_then hbel7 (by omega) hb8).setCell (by show w.heap.size ≤ w2.heap.size; omega) _)⟩
 ·have h1 := (HO7.out i hi hij).kept hb8
  exact ((hB8.put h1 (by decide) _ _).left hL10 (by omega)).mono (by omega)
 ·have h1 := hown7.kept hb8
  exact ((hB8.put h1 (by decide) _ _).left hL10 (by omega)).mono (by omega)
 ·exact ((hB8.put hown8 (by decide) _ _).left hL10 (by omega)).mono (by omega)
theorem reg_putO (vs : List Value) (X : List (List Int)) (name : Int) (a : Option Addr) (n c : Nat) (t : List Int) (w : World) (h : Rgs w vs X) (hX : ∀ i, i < 27 → (rx X i).length ≤ 1048576)
  (ht : Ints w a t) (hn : t.length = n) (h0 : a = none → n = 0) (hl : n ≤ 1048576) :
  Calls Try.prog 255 #[.agg (rgA vs), .int .i64 name, .slice a n c] w (PutPostO (putYs X name t) (putEs X name t) w) := by
 have hX' : ∀ i, i < 27 → (rx X i).length ≤ 17592186044416 := fun i hi => by have := hX i hi; omega
 cases hO : numO name
 ·rw [(put_key hO).1, (put_key hO).2]
  exact reg_putO_key vs X name _ w hO
 ·obtain ⟨j1, j2, j3⟩ := regJ_lt hO
  cases hM : numM name
  ·rw [(put_new hO hM).1, (put_new hO hM).2, hn]
   by_cases h2 : 200 < n
   ·rw [if_pos h2, if_pos h2]
    exact reg_putO_large vs X name _ false a n c w h j2 j1 hM hO (.inl h2) (by omega)
   ·rw [if_neg h2, if_neg h2]
    exact reg_putO_new vs X name _ a n c t w h hX' j2 j1 hM hO ht hn h0 (by omega)
  ·rw [(put_more hO hM).1, (put_more hO hM).2, hn]
   by_cases h2 : 200 < (rx X (regJ name)).length + n
   ·rw [if_pos h2, if_pos h2]
    exact reg_putO_large vs X name _ true a n c w h j2 j1 hM hO (by by_cases h3 : 200 < n; exact .inl h3; exact .inr ⟨rfl, by omega, h2⟩) (by omega)
   ·rw [if_neg h2, if_neg h2]
    exact reg_putO_more vs X name _ a n c t w h hX' j2 j1 hM hO ht hn h0 (by omega) (by omega)
structure Sp where
 f : Int
 t : Int
 x : List Int
def Good (n : Int) : Int → List Sp → Prop
 | last, [] => True
 | last, s :: r => last < s.f ∧ s.f ≤ s.t ∧ s.t ≤ n ∧ (s.f < s.t ∨ 0 < s.x.length) ∧ s.x.length ≤ 4096 ∧ Good n s.t r
theorem Good.le {n : Int} {es : List Sp} : ∀ {last : Int}, Good n last es → 0 < es.length → last < n ∧ 0 ≤ n - last := by
 intro last h h0
 cases es with
 | nil => simp at h0
 | cons s r => obtain ⟨a, b, c, d, e, g⟩ := h; omega
theorem Good.at {n : Int} {es : List Sp} : ∀ {last : Int}, Good n last es → ∀ k (h : k < es.length), last < es[k].f ∧ es[k].f ≤ es[k].t ∧ es[k].t ≤ n ∧ es[k].x.length ≤ 4096 := by
 induction es with
 | nil => intro last h k hk; simp at hk
 | cons s r ih =>
  intro last h k hk
  obtain ⟨a, b, c, d, e, g⟩ := h
  match k with
  | 0 => exact ⟨a, b, c, e⟩
  | k + 1 =>
   have := ih g k (by simpa using hk)
   simp only [List.getElem_cons_succ]
   omega
theorem Good.drop {n : Int} {es : List Sp} : ∀ {last : Int}, Good n last es → ∀ k (h : k < es.length), Good n es[k].t (es.drop (k + 1)) := by
 induction es with
 | nil => intro last h k hk; simp at hk
 | cons s r ih =>
  intro last h k hk
  obtain ⟨a, b, c, d, e, g⟩ := h
  match k with
  | 0 => exact g
  | k + 1 => exact ih g k (by simpa using hk)
theorem Good.take {n : Int} {es : List Sp} : ∀ {last : Int}, Good n last es → ∀ k (h : k < es.length), Good es[k].f last (es.take k) := by
 induction es with
 | nil => intro last h k hk; simp at hk
 | cons s r ih =>
  intro last h k hk
  match k with
  | 0 => trivial
  | k + 1 =>
   obtain ⟨a, b, c, d, e, g⟩ := h
   have h1 := ih g k (by simpa using hk)
   have h2 := Good.at g k (by simpa using hk)
   simp only [List.getElem_cons_succ, List.take_succ_cons]
   exact ⟨a, b, by omega, d, e, h1⟩
def SplAt (w : World) (b o : Nat) (s : Sp) : Prop := ∃ ax cx, w.cell? ⟨b, o, none⟩ = some (.int .i64 s.f) ∧ w.cell? ⟨b, o + 1, none⟩ = some (.int .i64 s.t) ∧
 w.cell? ⟨b, o + 2, none⟩ = some (.slice ax s.x.length cx) ∧ Ints w ax s.x ∧ s.x.length ≤ cx ∧ cx ≤ 9223372036854775807 ∧ (ax = none → s.x.length = 0)
def sp (es : List Sp) (i : Nat) : Sp := es.getD i ⟨0, 0, []⟩
theorem sp_eq {es : List Sp} {i : Nat} (h : i < es.length) : sp es i = es[i] := by simp [sp, h]
def Spls (w : World) (a : Option Addr) (es : List Sp) : Prop :=
 es = [] ∨ ∃ b o, a = some ⟨b, o, none⟩ ∧ ∀ i, i < es.length → SplAt w b (o + i * 3) (sp es i)
theorem SplAt.keep {w w' : World} {b o : Nat} {s : Sp} (h : SplAt w b o s) (hc : ∀ p v, w.cell? p = some v → w'.cell? p = some v) : SplAt w' b o s := by
 obtain ⟨ax, cx, h1, h2, h3, h4, h5, h6, h7⟩ := h
 exact ⟨ax, cx, hc _ _ h1, hc _ _ h2, hc _ _ h3, h4.keep hc, h5, h6, h7⟩
theorem Spls.keep {w w' : World} {a : Option Addr} {es : List Sp} (h : Spls w a es) (hc : ∀ p v, w.cell? p = some v → w'.cell? p = some v) : Spls w' a es := by
 rcases h with h | ⟨b, o, ha, h⟩
 ·exact .inl h
 ·exact .inr ⟨b, o, ha, fun i hi => (h i hi).keep hc⟩
theorem Spls.below {w w' : World} {a : Option Addr} {es : List Sp} (h : Spls w a es) (hb : Below w.heap.size w w') : Spls w' a es := h.keep (below_keeps hb)
theorem Spls.drewN {w : World} {a : Option Addr} {es : List Sp} (h : Spls w a es) (n : Nat) : Spls (w.drewN n) a es := h.keep (fun _ _ h => h)
theorem Spls.at {w : World} {a : Option Addr} {es : List Sp} (h : Spls w a es) {k : Nat} (hk : k < es.length) :
  ∃ b o, a = some ⟨b, o, none⟩ ∧ ∀ i, i < es.length → SplAt w b (o + i * 3) (sp es i) := by
 rcases h with h | h
 ·subst h; simp at hk
 ·exact h
def cutA (a : Option Addr) (c k : Nat) : Option Addr := if c = k then a else a.map (·.add (k * 1))
theorem cutA_none {a : Option Addr} {c k : Nat} (h : cutA a c k = none) : a = none := by
 unfold cutA at h
 split at h
 ·exact h
 ·cases a <;> simp_all
theorem Ints.cutTo {w : World} {a : Option Addr} {xs : List Int} {c : Nat} (h : Ints w a xs) (lo hi : Nat) (hc : xs.length ≤ c) (hl : lo ≤ hi) (hh : hi ≤ xs.length) : Ints w (cutA a c lo) ((xs.take hi).drop lo) := by
 unfold cutA
 by_cases hk : c = lo
 ·refine .inl ?_
  rw [List.drop_eq_nil_iff, List.length_take]; omega
 ·rw [if_neg hk]
  rcases a with _ | ad
  ·rcases h with rfl | ⟨b, o, ha, _⟩
   ·exact .inl (by simp)
   ·simp at ha
  ·simp only [Nat.mul_one, Option.map_some]
   exact (h.take hi).dropA lo
theorem Ints.cutEnd {w : World} {a : Option Addr} {xs : List Int} {c : Nat} (h : Ints w a xs) (lo : Nat) (hc : xs.length ≤ c) (hl : lo ≤ xs.length) : Ints w (cutA a c lo) (xs.drop lo) := by
 have := h.cutTo lo xs.length hc hl (Nat.le_refl _)
 rwa [List.take_length] at this
theorem cut_run (a : Option Addr) (n c lo hi : Nat) (h1 : lo ≤ hi) (h2 : hi ≤ c) (w : World) :
  (Instr.slice 22 (.slice a n c) (some (.int .i64 (lo : Int))) (some (.int .i64 (hi : Int))) none).run Try.prog w = .ok (.slice (cutA a c lo) (hi - lo) (c - lo)) w := by
 obtain ⟨i0, hi0, hz0, hz1, hz2⟩ := info_parts info_int
 have b1 : (0 : Int) ≤ (lo : Int) ∧ (lo : Int) ≤ (hi : Int) := by omega
 have b2 : (0 : Int) ≤ (hi : Int) ∧ (hi : Int) ≤ (c : Int) := by omega
 simp [Instr.slice, Instr.sliceBounds, Instr.sliceBound, asIntOf, run_underlying Try.underlying22, sizeOf, typeInfo, hi0, hz1, b1, b2, go_sem, cutA, h1, h2]
theorem cut_run_end (a : Option Addr) (n c lo : Nat) (h1 : lo ≤ n) (w : World) :
  (Instr.slice 22 (.slice a n c) (some (.int .i64 (lo : Int))) none none).run Try.prog w = .ok (.slice (cutA a c lo) (n - lo) (c - lo)) w := by
 obtain ⟨i0, hi0, hz0, hz1, hz2⟩ := info_parts info_int
 have b1 : (0 : Int) ≤ (lo : Int) ∧ (lo : Int) ≤ (n : Int) := by omega
 simp [Instr.slice, Instr.sliceBounds, Instr.sliceBound, asIntOf, run_underlying Try.underlying22, sizeOf, typeInfo, hi0, hz1, b1, go_sem, cutA, h1]
theorem cut_run_to (a : Option Addr) (n c hi : Nat) (h2 : hi ≤ c) (w : World) :
  (Instr.slice 22 (.slice a n c) none (some (.int .i64 (hi : Int))) none).run Try.prog w = .ok (.slice a hi c) w := by
 obtain ⟨i0, hi0, hz0, hz1, hz2⟩ := info_parts info_int
 have b2 : (0 : Int) ≤ (hi : Int) ∧ (hi : Int) ≤ (c : Int) := by omega
 simp [Instr.slice, Instr.sliceBounds, Instr.sliceBound, asIntOf, run_underlying Try.underlying22, sizeOf, typeInfo, hi0, hz1, b2, go_sem, h2]
inductive All2 {α β : Type} (R : α → β → Prop) : List α → List β → Prop
 | nil : All2 R [] []
 | cons {a : α} {b : β} {l : List α} {m : List β} (h : R a b) (t : All2 R l m) : All2 R (a :: l) (b :: m)
structure SV where
 f : Int
 t : Int
 a : Option Addr
 n : Nat
 c : Nat
def SV.cells (s : SV) : List Value := [.int .i64 s.f, .int .i64 s.t, .slice s.a s.n s.c]
def SV.is (w : World) (base : Nat) (s : SV) (p : Sp) : Prop := s.f = p.f ∧ s.t = p.t ∧ Own 3 base w (.slice s.a s.n s.c) p.x
def SOwn (base : Nat) (w : World) (v : Value) (us : List SV) (es : List Sp) : Prop :=
 w.ownsRow base 237 3 v es.length (us.flatMap SV.cells) ∧ All2 (SV.is w base) us es
theorem SV.is.imp {w w' : World} {base base' : Nat} {s : SV} {p : Sp} (h : SV.is w base s p) (hk : Own 3 base w (.slice s.a s.n s.c) p.x → Own 3 base' w' (.slice s.a s.n s.c) p.x) : SV.is w' base' s p := ⟨h.1, h.2.1, hk h.2.2⟩
theorem forall2_imp {α β : Type} {R S : α → β → Prop} {l : List α} {m : List β} (h : All2 R l m) (hi : ∀ a b, R a b → S a b) : All2 S l m := by
 induction h with
 | nil => exact .nil
 | cons h _ ih => exact .cons (hi _ _ h) ih
theorem forall2_len {α β : Type} {R : α → β → Prop} {l : List α} {m : List β} (h : All2 R l m) : l.length = m.length := by
 induction h with
 | nil => rfl
 | cons h _ ih => simp [ih]
theorem forall2_at {α β : Type} {R : α → β → Prop} {l : List α} {m : List β} (h : All2 R l m) : ∀ (i : Nat) (h1 : i < l.length) (h2 : i < m.length), R l[i] m[i] := by
 induction h with
 | nil => intro i h1; simp at h1
 | cons h _ ih =>
  intro i h1 h2
  match i with
  | 0 => exact h
  | i + 1 => exact ih i (by simpa using h1) (by simpa using h2)
theorem SOwn.nil (base : Nat) (w : World) : SOwn base w (.slice none 0 0) [] [] := ⟨World.ownsRow_nil _ _ _ _, .nil⟩
theorem SOwn.alloc {base : Nat} {w : World} {v : Value} {us : List SV} {es : List Sp} (h : SOwn base w v us es) (o : Obj) : SOwn base (w.alloc o) v us es := ⟨World.ownsRow.alloc h.1 o, forall2_imp h.2 fun _ _ hh => hh.imp fun k => k.alloc o⟩
theorem SOwn.drewN {base : Nat} {w : World} {v : Value} {us : List SV} {es : List Sp} (h : SOwn base w v us es) (n : Nat) : SOwn base (w.drewN n) v us es := h
theorem SOwn.drew {base : Nat} {w : World} {v : Value} {us : List SV} {es : List Sp} (h : SOwn base w v us es) : SOwn base w.drew v us es := h
theorem SOwn.mono {base base' : Nat} {w : World} {v : Value} {us : List SV} {es : List Sp} (h : SOwn base w v us es) (hb : base' ≤ base) : SOwn base' w v us es := by
 refine ⟨⟨h.1.1, ?_⟩, forall2_imp h.2 fun _ _ hh => hh.imp fun k => k.mono hb⟩
 rcases h.1.2 with hn | ⟨g, cap, cur, rfl, hb', rest⟩
 ·exact .inl hn
 ·exact .inr ⟨g, cap, cur, rfl, by omega, rest⟩
theorem SOwn.kept {base : Nat} {w w' : World} {v : Value} {us : List SV} {es : List Sp} (h : SOwn base w v us es) (hb : Below w.heap.size w w') : SOwn base w' v us es := by
 refine ⟨⟨h.1.1, ?_⟩, forall2_imp h.2 fun _ _ hh => hh.imp fun k => k.kept hb⟩
 rcases h.1.2 with hn | ⟨g, cap, cur, rfl, hb', hgg, rest⟩
 ·exact .inl hn
 ·exact .inr ⟨g, cap, cur, rfl, hb', by rw [hb.block g (Array.getElem?_eq_some_iff.1 hgg).1]; exact hgg, rest⟩
theorem SOwn.row {base : Nat} {w : World} {v : Value} {us : List SV} {es : List Sp} (h : SOwn base w v us es) : ∀ k, v.ownBlock = some k → base ≤ k := fun k hk => (World.ownsRow.lt h.1 k hk).1
theorem SOwn.form {base : Nat} {w : World} {v : Value} {us : List SV} {es : List Sp} (h : SOwn base w v us es) : ∃ a c, v = .slice a es.length c ∧ es.length ≤ c ∧ c ≤ 9223372036854775807 ∧ (a = none → es.length = 0) := by
 rcases h.1.2 with ⟨rfl, h0⟩ | ⟨g, cap, cur, rfl, hb', hgg, hn, hm, rest⟩
 ·exact ⟨none, 0, by rw [h0], by omega, by omega, fun _ => h0⟩
 ·exact ⟨_, cap, rfl, hn, by unfold maxLen at hm; omega, by simp⟩
theorem SOwn.neBlk {base : Nat} {w : World} {v : Value} {us : List SV} {es : List Sp} {e' : TypeId} {B : Nat} {cs : Array Value} (h : SOwn base w v us es) (hB : Blk w B cs e') (he : 237 ≠ e') : some B ≠ v.ownBlock := by
 rcases h.1.2 with ⟨rfl, _⟩ | ⟨g, cap, cur, rfl, hb', hgg, rest⟩
 ·simp [Value.ownBlock]
 ·intro hv
  simp only [Value.ownBlock, Option.some.injEq] at hv
  subst hv
  rw [show w.heap[B]? = _ from hB] at hgg
  simp at hgg
  exact he hgg.2.symm
theorem flat_at (us : List SV) : ∀ (i : Nat) (h : i < us.length) (j : Nat), j < 3 → (us.flatMap SV.cells)[i * 3 + j]? = (us[i].cells)[j]? := by
 induction us with
 | nil => intro i h; simp at h
 | cons u r ih =>
  intro i h j hj
  match i with
  | 0 =>
   simp only [List.flatMap_cons, Nat.zero_mul, Nat.zero_add, List.getElem_cons_zero]
   rw [List.getElem?_append_left (by simp [SV.cells]; omega)]
  | i + 1 =>
   simp only [List.flatMap_cons, List.getElem_cons_succ]
   rw [List.getElem?_append_right (by simp [SV.cells]; omega)]
   rw [show (i + 1) * 3 + j - u.cells.length = i * 3 + j from by simp [SV.cells]; omega]
   exact ih i (by simpa using h) j hj
theorem SOwn.spls {base : Nat} {w : World} {a : Option Addr} {n c : Nat} {us : List SV} {es : List Sp} (h : SOwn base w (.slice a n c) us es) : Spls w a es := by
 rcases h.1.2 with ⟨hv, h0⟩ | ⟨g, cap, cur, hv, hb', hgg, rest⟩
 ·exact .inl (List.eq_nil_of_length_eq_zero h0)
 ·simp only [Value.slice.injEq] at hv
  obtain ⟨rfl, rfl, rfl⟩ := hv
  refine .inr ⟨g, 0, rfl, fun i hi => ?_⟩
  have hl := forall2_len h.2
  have hc := fun j (hj : j < 3) (u : Value) (hu : ((us[i]'(by omega)).cells)[j]? = some u) => h.1.cells (g := g) rfl (i * 3 + j) u (by rw [flat_at us i (by omega) j hj]; exact hu)
  have hadd : ∀ k, (⟨g, 0, none⟩ : Addr).add k = ⟨g, 0 + k, none⟩ := fun k => by unfold Addr.add; split <;> simp_all
  simp only [hadd] at hc
  have his := forall2_at h.2 i (by omega) hi
  rw [sp_eq hi]
  have hown := his.2.2
  have hget := hown.get
  refine ⟨(us[i]'(by omega)).a, (us[i]'(by omega)).c, ?_, ?_, ?_, hget.2.1, ?_, ?_, ?_⟩
  ·rw [← his.1]; exact hc 0 (by omega) _ rfl
  ·rw [← his.2.1]; exact hc 1 (by omega) _ rfl
  ·rw [hget.1]; exact hc 2 (by omega) _ rfl
  ·rw [hget.1]; exact hget.2.2
  ·rcases hown.2 with ⟨h1, h2⟩ | ⟨g2, cap2, cur2, h1, _, _, _, hm, _⟩
   ·simp only [Value.slice.injEq] at h1; omega
   ·simp only [Value.slice.injEq] at h1; unfold maxLen at hm; omega
  ·intro hn
   rcases hown.2 with ⟨h1, h2⟩ | ⟨g2, cap2, cur2, h1, _⟩
   ·exact h2
   ·simp only [Value.slice.injEq] at h1; rw [hn] at h1; simp at h1
def PreP (l m : List Int) (k : Nat) : Prop := k ≤ l.length ∧ k ≤ m.length ∧ (∀ i, i < k → ix l i = ix m i) ∧ (k = l.length ∨ k = m.length ∨ ix l k ≠ ix m k)
def SufP (l m : List Int) (k j : Nat) : Prop := j + k ≤ l.length ∧ j + k ≤ m.length ∧ (∀ i, i < j → ix l (l.length - 1 - i) = ix m (m.length - 1 - i)) ∧ (j + k = l.length ∨ j + k = m.length ∨ ix l (l.length - 1 - j) ≠ ix m (m.length - 1 - j))
theorem PreP.one {l m : List Int} {a b : Nat} (h : PreP l m a) (h' : PreP l m b) : a = b := by
 obtain ⟨a1, a2, a3, a4⟩ := h
 obtain ⟨b1, b2, b3, b4⟩ := h'
 rcases Nat.lt_trichotomy a b with h | h | h
 ·have := b3 a h
  rcases a4 with h' | h' | h'
  ·omega
  ·omega
  ·exact absurd this h'
 ·exact h
 ·have := a3 b h
  rcases b4 with h' | h' | h'
  ·omega
  ·omega
  ·exact absurd this h'
theorem SufP.one {l m : List Int} {k a b : Nat} (h : SufP l m k a) (h' : SufP l m k b) : a = b := by
 obtain ⟨a1, a2, a3, a4⟩ := h
 obtain ⟨b1, b2, b3, b4⟩ := h'
 rcases Nat.lt_trichotomy a b with h | h | h
 ·have := b3 a h
  rcases a4 with h' | h' | h'
  ·omega
  ·omega
  ·exact absurd this h'
 ·exact h
 ·have := a3 b h
  rcases b4 with h' | h' | h'
  ·omega
  ·omega
  ·exact absurd this h'
theorem PreP.full {l m : List Int} {k : Nat} (h : PreP l m k) (h1 : k = l.length) (h2 : k = m.length) : l = m :=
 ix_ext (by omega) fun i hi => h.2.2.1 i (by omega)
theorem PreP.same {l : List Int} {k : Nat} (h : PreP l l k) : k = l.length := by
 rcases h.2.2.2 with h | h | h
 ·exact h
 ·exact h
 ·exact absurd rfl h
def BtP (l m : List Int) (es : List Sp) : Prop := (l = m ∧ es = []) ∨ (l ≠ m ∧ ∃ k j, PreP l m k ∧ SufP l m k j ∧ es = [⟨(k : Int), ((l.length - j : Nat) : Int), (m.take (m.length - j)).drop k⟩])
theorem BtP.one {l m : List Int} {a b : List Sp} (h : BtP l m a) (h' : BtP l m b) : a = b := by
 rcases h with ⟨h1, rfl⟩ | ⟨h1, k, j, p, s, rfl⟩ <;> rcases h' with ⟨h2, rfl⟩ | ⟨h2, k', j', p', s', rfl⟩
 ·rfl
 ·exact absurd h1 h2
 ·exact absurd h2 h1
 ·obtain rfl := p.one p'
  obtain rfl := s.one s'
  rfl
theorem BtP.len {l m : List Int} {a : List Sp} (h : BtP l m a) : a.length ≤ 1 := by
 rcases h with ⟨h1, rfl⟩ | ⟨h1, k, j, p, s, rfl⟩ <;> simp
def BtPost (l m : List Int) (w : World) (e : Ending) (w' : World) : Prop := ∃ v us es, e = .returned (.tuple #[v, .int .i64 0]) ∧ SOwn w.heap.size w' v us es ∧ BtP l m es ∧ Below w.heap.size w w'
def BtRPost (l m : List Int) (w : World) (e : Ending) (w' : World) : Prop := ∃ v us es, e = .returned v ∧ SOwn w.heap.size w' v us es ∧ BtP l m es ∧ Below w.heap.size w w'
theorem BtPost.no {l m : List Int} {w w' : World} (h : l = m) (hb : Below w.heap.size w w') : BtPost l m w (.returned (.tuple #[.slice none 0 0, .int .i64 0])) w' := ⟨_, [], [], rfl, SOwn.nil _ _, .inl ⟨h, rfl⟩, hb⟩
theorem sown_one {w : World} {base : Nat} {u : SV} {p : Sp} (hb : base ≤ w.heap.size) (h : SV.is w base u p) : SOwn base (w.alloc (.cells u.cells.toArray 237)) (.slice (some ⟨w.heap.size, 0, none⟩) 1 1) [u] [p] := by
 refine ⟨⟨by simp [SV.cells], .inr ⟨w.heap.size, 1, u.cells.toArray, rfl, hb, heap_alloc_new w _, by simp, by unfold maxLen; omega, by simp [SV.cells], by simp [SV.cells]⟩⟩, .cons (h.imp fun k => k.alloc _) .nil⟩
set_option maxRecDepth 100000 in
set_option maxHeartbeats 2000000 in
theorem splice_between (la ma : Option Addr) (n c p mc : Nat) (l m : List Int) (w : World) (hl : Ints w la l) (hm : Ints w ma m) (hn : l.length = n) (hp : m.length = p) (hn2 : n ≤ 4096) (hp2 : p ≤ 4096) (hmc : p ≤ mc) (h0 : ma = none → p = 0) :
  Calls Try.prog 256 #[.slice la n c, .slice ma p mc] w (BtPost l m w) := by
 have HN := Lib.hid hn
 have HP := Lib.hid hp
 have H0 := Lib.hid h0
 clear hn hp h0
 obtain ⟨N, hN1, hN2, hN3⟩ : ∃ N, N ≤ n ∧ N ≤ p ∧ (n ≤ N ∨ p ≤ N) := ⟨min n p, by omega, by omega, by omega⟩
 go_enter Try.func256, Try.ntmps256
 go_upto_region 4 with fail
 go_cut [6, 7] (fun v u wx => v = .int .i64 (N : Int) ∧ u = .int .i64 0 ∧ w = wx)
 case first =>
  rcases Nat.lt_trichotomy n p with hlt | hlt | hlt
  ·obtain rfl : n = N := by omega
   go_wp2
   go_meet
   exact ⟨rfl, rfl, rfl⟩
  ·obtain rfl : n = N := by omega
   obtain rfl : n = p := hlt
   go_wp2
   all_goals
    go_meet
    exact ⟨rfl, rfl, rfl⟩
  ·obtain rfl : p = N := by omega
   go_wp2
   go_meet
   exact ⟨rfl, rfl, rfl⟩
 obtain ⟨rfl, rfl, rfl⟩ := hcut
 go_upto_block 0 with fail
 go_cut [7] (fun v wx => ∃ k : Nat, v = .int .i64 (k : Int) ∧ k ≤ N ∧ Hid (PreP l m k) ∧ ∃ q, wx = w.drewN q)
 case first =>
  go_wp2
  go_loopw [7] (fun v wr => ∃ k : Nat, v = .int .i64 (k : Int) ∧ k ≤ N ∧ (∀ i, i < k → ix l i = ix m i) ∧ ∃ q, wr = w.drewN q) (fun v _ => N - (intOf v).toNat)
  case atStart => exact ⟨0, rfl, by omega, fun i hi => by omega, 0, rfl⟩
  case round =>
   obtain ⟨k, rfl, hk, hsame, q, rfl⟩ := hrel
   have HS := Lib.hid hsame
   clear hsame
   by_cases hlt : k < N
   ·obtain ⟨b1, o1, rfl, hc1⟩ := hl.at (k := k) (by rw [HN.out]; omega)
    obtain ⟨b2, o2, rfl, hc2⟩ := hm.at (k := k) (by rw [HP.out]; omega)
    have c1 := hc1 k (by rw [HN.out]; omega)
    have c2 := hc2 k (by rw [HP.out]; omega)
    have i0 : decide (k < N) = true := by simp; omega
    have i1 : (k : Int) < (n : Int) := by omega
    have i2 : (k : Int) < (p : Int) := by omega
    clear hc1 hc2 hl hm
    by_cases he : ix l k = ix m k
    ·have g1 : (ix l k == ix m k) = true := by simpa using he
     have HE := Lib.hid he
     clear he
     go_wp2
     go_quiet (fail)
     go_wp2
     go_roundw
     case rel =>
      refine ⟨k + 1, by go_num, by omega, fun i hi => ?_, _, by first | rfl | exact drewN_drewN _ _ _⟩
      by_cases h : i = k
      ·rw [h]; exact HE.out
      ·exact HS.out i (by omega)
     case measure => simp [intOf]; omega
    ·have g1 : (ix l k == ix m k) = false := by simpa using he
     have HE := Lib.hid he
     clear he
     go_wp2
     go_quiet (fail)
     go_wp2
     go_meet
     exact ⟨k, rfl, by omega, Lib.hid ⟨by rw [HN.out]; omega, by rw [HP.out]; omega, HS.out, .inr (.inr HE.out)⟩, _, by first | rfl | exact drewN_drewN _ _ _⟩
   ·obtain rfl : N = k := by omega
    have i0 : decide (N < N) = false := by simp
    go_wp2
    go_quiet (fail)
    go_wp2
    go_meet
    exact ⟨N, rfl, by omega, Lib.hid ⟨by rw [HN.out]; omega, by rw [HP.out]; omega, HS.out, by rw [HN.out, HP.out]; omega⟩, _, by first | rfl | exact drewN_drewN _ _ _⟩
 obtain ⟨k, rfl, hk, HPR, q, rfl⟩ := hcut
 go_upto_block 2 with fail
 go_cut [8] (fun v wx => ∃ j : Nat, v = .int .i64 (j : Int) ∧ j + k ≤ N ∧ Hid (SufP l m k j) ∧ ∃ q, wx = w.drewN q)
 case first =>
  go_wp2
  go_loopw [8] (fun v wr => ∃ j : Nat, v = .int .i64 (j : Int) ∧ j + k ≤ N ∧ (∀ i, i < j → ix l (l.length - 1 - i) = ix m (m.length - 1 - i)) ∧ ∃ q, wr = w.drewN q) (fun v _ => N - (intOf v).toNat)
  case atStart => exact ⟨0, rfl, by omega, fun i hi => by omega, q, rfl⟩
  case round =>
   obtain ⟨j, rfl, hj, hsame, q, rfl⟩ := hrel
   have HS := Lib.hid hsame
   clear hsame
   have iw1 : IntKind.i64.wrap ((N : Int) - (k : Int)) = (N : Int) - (k : Int) := IntWalk.i64_in _ (by omega)
   by_cases hlt : j + k < N
   ·obtain ⟨b1, o1, rfl, hc1⟩ := hl.at (k := n - 1 - j) (by rw [HN.out]; omega)
    obtain ⟨b2, o2, rfl, hc2⟩ := hm.at (k := p - 1 - j) (by rw [HP.out]; omega)
    have c1 := hc1 (n - 1 - j) (by rw [HN.out]; omega)
    have c2 := hc2 (p - 1 - j) (by rw [HP.out]; omega)
    have i0 : decide ((j : Int) < (N : Int) - (k : Int)) = true := by simp; omega
    have i1 : (n : Int) - 1 - (j : Int) < (n : Int) := by omega
    have i2 : (p : Int) - 1 - (j : Int) < (p : Int) := by omega
    have i3 : (0 : Int) ≤ (n : Int) - 1 - (j : Int) := by omega
    have i4 : (0 : Int) ≤ (p : Int) - 1 - (j : Int) := by omega
    have i5 : ((n : Int) - 1 - (j : Int)).toNat = n - 1 - j := by omega
    have i6 : ((p : Int) - 1 - (j : Int)).toNat = p - 1 - j := by omega
    have iw2 : IntKind.i64.wrap ((n : Int) - 1) = (n : Int) - 1 := IntWalk.i64_in _ (by omega)
    have iw3 : IntKind.i64.wrap ((p : Int) - 1) = (p : Int) - 1 := IntWalk.i64_in _ (by omega)
    have iw4 : IntKind.i64.wrap ((n : Int) - 1 - (j : Int)) = (n : Int) - 1 - (j : Int) := IntWalk.i64_in _ (by omega)
    have iw5 : IntKind.i64.wrap ((p : Int) - 1 - (j : Int)) = (p : Int) - 1 - (j : Int) := IntWalk.i64_in _ (by omega)
    clear hc1 hc2 hl hm
    by_cases he : ix l (n - 1 - j) = ix m (p - 1 - j)
    ·have g1 : (ix l (n - 1 - j) == ix m (p - 1 - j)) = true := by simpa using he
     have HE := Lib.hid he
     clear he
     go_wp2
     go_quiet (fail)
     clear iw1 iw2 iw3 iw4 iw5 i5 i6
     go_wp2
     go_roundw
     case rel =>
      refine ⟨j + 1, by go_num, by omega, fun i hi => ?_, _, by first | rfl | exact drewN_drewN _ _ _⟩
      by_cases h : i = j
      ·rw [h, HN.out, HP.out]; exact HE.out
      ·exact HS.out i (by omega)
     case measure => simp [intOf]; omega
    ·have g1 : (ix l (n - 1 - j) == ix m (p - 1 - j)) = false := by simpa using he
     have HE := Lib.hid he
     clear he
     go_wp2
     go_quiet (fail)
     clear iw1 iw2 iw3 iw4 iw5 i5 i6
     go_wp2
     go_meet
     exact ⟨j, rfl, by omega, Lib.hid ⟨by rw [HN.out]; omega, by rw [HP.out]; omega, HS.out, .inr (.inr (by rw [HN.out, HP.out]; exact HE.out))⟩, _, by first | rfl | exact drewN_drewN _ _ _⟩
   ·have i0 : decide ((j : Int) < (N : Int) - (k : Int)) = false := by simp; omega
    go_wp2
    go_quiet (fail)
    clear iw1
    go_wp2
    go_meet
    exact ⟨j, rfl, by omega, Lib.hid ⟨by rw [HN.out]; omega, by rw [HP.out]; omega, HS.out, by rw [HN.out, HP.out]; omega⟩, _, by first | rfl | exact drewN_drewN _ _ _⟩
 obtain ⟨j, rfl, hj, HSU, q, rfl⟩ := hcut
 by_cases heq : k = n ∧ k = p
 ·obtain ⟨rfl, rfl⟩ := heq
  go_wp2
  go_ret2
  exact BtPost.no (HPR.out.full HN.out.symm HP.out.symm) (below_drewN (Below.refl _ _) _)
 ·have hne : l ≠ m := by
   rintro rfl
   have h1 := HPR.out.same
   have h2 := HN.out
   have h3 := HP.out
   omega
  have HNE := Lib.hid hne
  have hcr := cut_run ma p mc k (p - j) (by omega) (by omega)
  have hcut2 := (hm.drewN q).cutTo (c := mc) k (p - j) (by rw [HP.out]; omega) (by omega) (by rw [HP.out]; omega)
  have HCL := Lib.hid (show ((m.take (p - j)).drop k).length = p - j - k by rw [List.length_drop, List.length_take, HP.out]; omega)
  have HC0 := Lib.hid (show cutA ma mc k = none → p - j - k = 0 from fun h => by have := H0.out (cutA_none h); omega)
  have ie1 : (p : Int) - (j : Int) = ((p - j : Nat) : Int) := by omega
  have ie2 : (n : Int) - (j : Int) = ((n - j : Nat) : Int) := by omega
  clear hne H0
  have hfin : ∀ a8 n8 c8 w8, Own 3 (w.drewN q).heap.size w8 (.slice a8 n8 c8) ((m.take (p - j)).drop k) → Below (w.drewN q).heap.size (w.drewN q) w8 →
    BtPost l m w (.returned (.tuple #[.slice (some ⟨w8.heap.size, 0, none⟩) 1 1, .int .i64 0])) (w8.alloc (.cells #[.int .i64 (k : Int), .int .i64 ((n - j : Nat) : Int), .slice a8 n8 c8] 237)) := by
   intro a8 n8 c8 w8 o8 hb8
   have hb9 : Below w.heap.size w w8 := below_then (below_drewN (Below.refl _ _) q) (Nat.le_refl _) hb8
   have hs := sown_one (w := w8) (base := w.heap.size) (u := ⟨(k : Int), ((n - j : Nat) : Int), a8, n8, c8⟩) (p := ⟨(k : Int), ((n - j : Nat) : Int), (m.take (p - j)).drop k⟩) hb9.size ⟨rfl, rfl, o8⟩
   exact ⟨_, _, _, rfl, hs, .inr ⟨HNE.out, k, j, HPR.out, HSU.out, by rw [HN.out, HP.out]⟩, hb9.alloc hb9.size _⟩
  have HF := Lib.hid hfin
  clear hfin
  rcases (show k = n ∨ k ≠ n by omega) with kn | kn
  ·obtain rfl : k = n := kn
   have g : ((k : Int) == (p : Int)) = false := by rw [beq_eq_false_iff_ne]; omega
   clear heq
   go_wp2_with (go_at_call 98; refine (slices_clone (cutA ma mc k) (p - j - k) (mc - k) ((m.take (p - j)).drop k) _ hcut2 HCL.out (by omega) HC0.out).mono ?_; rintro e w8 ⟨v8, rfl, o8, hb8⟩; obtain ⟨a8, n8, c8, rfl⟩ := o8.form)
   go_ret2
   exact HF.out a8 n8 c8 w8 o8 hb8
  ·have g : ((k : Int) == (n : Int)) = false := by rw [beq_eq_false_iff_ne]; omega
   clear heq kn
   go_wp2_with (go_at_call 98; refine (slices_clone (cutA ma mc k) (p - j - k) (mc - k) ((m.take (p - j)).drop k) _ hcut2 HCL.out (by omega) HC0.out).mono ?_; rintro e w8 ⟨v8, rfl, o8, hb8⟩; obtain ⟨a8, n8, c8, rfl⟩ := o8.form)
   go_ret2
   exact HF.out a8 n8 c8 w8 o8 hb8
end Go.Proofs.Ytmipnikhgihcpaa
