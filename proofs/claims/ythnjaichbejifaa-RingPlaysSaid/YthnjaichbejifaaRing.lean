/- Contracts of package ring at int. -/
import Derived.Test.YthnjaichbejifaaSlib
import Derived.Deep.RegionHeld3
import Derived.Deep.OwnRows
namespace Go.Proofs.Ythnjaichbejifaa
open Go.RowKit
set_option linter.unusedVariables false
set_option linter.unusedSimpArgs false

/-- a ring in memory: the struct in block p, its slots in block g -/
def RingAt (w : World) (p g n f s : Nat) (slots : List Int) : Prop :=
  Blk w p #[.slice (some ⟨g, 0, none⟩) n n, .int .i64 f, .int .i64 s] 111 ∧ Blk w g (slots.map (Value.int .i64)).toArray 3 ∧ slots.length = n ∧ p ≠ g

theorem row_cell {w : World} {g : Nat} {slots : List Int} {T : TypeId} (h : Blk w g (slots.map (Value.int .i64)).toArray T) {i : Nat} (hi : i < slots.length) : w.cell? ⟨g, i, none⟩ = some (.int .i64 (ix slots i)) := by
  rw [h.cell i]; simp [ix, hi]
theorem row_set {w : World} {g : Nat} {slots : List Int} {T : TypeId} (h : Blk w g (slots.map (Value.int .i64)).toArray T) (i : Nat) (x : Int) : Blk (w.setCell ⟨g, i, none⟩ (.int .i64 x)) g ((slots.set i x).map (Value.int .i64)).toArray T := by
  have := h.set i (.int .i64 x)
  rwa [show (slots.map (Value.int .i64)).toArray.setIfInBounds i (.int .i64 x) = ((slots.set i x).map (Value.int .i64)).toArray from by simp [List.map_set]] at this

def NewPost (n : Nat) (w : World) (e : Ending) (w' : World) : Prop :=
  ∃ p g, e = .returned (.pointer (some ⟨p, 0, none⟩)) ∧ RingAt w' p g n 0 0 (List.replicate n 0) ∧ w.heap.size ≤ p ∧ w.heap.size ≤ g ∧ Below w.heap.size w w'

def roomS (most : Int) : Nat := (max 0 (min most 65536)).toNat

theorem made_row (n : Nat) : madeCells #[.int .i64 0] n = ((List.replicate n (0 : Int)).map (Value.int .i64)).toArray := by
  apply Array.toList_inj.1
  rw [toList_madeCells_one]; simp

theorem ring_new (most : Int) (w : World) : Calls Try.prog 15 #[.int .i64 most] w (NewPost (roomS most) w) := by
  have hmk := fun (n : Nat) (h : n ≤ 65536) (w : World) => run_make_row' (P := Try.prog) 24 3 (.int .i64 0) 8 Try.underlying24 info_int rfl .i64 .i64 n (by omega) (by omega) w
  obtain ⟨n, hn⟩ : ∃ n, n = roomS most := ⟨_, rfl⟩
  have hcase : (most ≤ 0 ∧ n = 0) ∨ (0 < most ∧ most ≤ 65536 ∧ (n : Int) = most) ∨ (65536 < most ∧ n = 65536) := by unfold roomS at hn; omega
  rw [← hn]; clear hn
  have fin : ∀ (w' : World), w' = (w.alloc (.cells (madeCells #[.int .i64 0] n) 3)).alloc (.cells #[.slice (some ⟨w.heap.size, 0, none⟩) n n, .int .i64 0, .int .i64 0] 111) → NewPost n w (.returned (.pointer (some ⟨w.heap.size + 1, 0, none⟩))) w' := by
    rintro w' rfl
    refine ⟨w.heap.size + 1, w.heap.size, rfl, ⟨?_, ?_, by simp, by simp⟩, by simp, Nat.le_refl _, below2 _ _ _⟩
    · have := Blk.new (w.alloc (.cells (madeCells #[.int .i64 0] n) 3)) #[.slice (some ⟨w.heap.size, 0, none⟩) n n, .int .i64 0, .int .i64 0] 111
      rwa [World.size_alloc] at this
    · have := (Blk.new w (madeCells #[.int .i64 0] n) 3).alloc (.cells #[.slice (some ⟨w.heap.size, 0, none⟩) n n, .int .i64 0, .int .i64 0] 111)
      rw [← made_row n]; exact this
  have FIN := Lib.hid fin; clear fin
  rcases hcase with ⟨h1, h3⟩ | ⟨h1, h2, h3⟩ | ⟨h1, h3⟩
  · have hm0 : ∀ w, (Instr.makeSlice 24 (.int .i64 0) (.int .i64 0)).run Try.prog w = .ok (.slice (some ⟨w.heap.size, 0, none⟩) n n) (w.alloc (.cells (madeCells #[.int .i64 0] n) 3)) := fun w => by subst h3; exact hmk 0 (by omega) w
    clear hmk h3
    go_enter Try.func15, Try.ntmps15
    go_wp2
    go_ret
    exact FIN.out _ rfl
  · have hm0 := hmk n (by omega)
    subst h3
    clear hmk
    go_enter Try.func15, Try.ntmps15
    go_wp2
    go_ret
    exact FIN.out _ rfl
  · have h4 : (n : Int) = 65536 := by omega
    have hm0 : ∀ w, (Instr.makeSlice 24 (.int .i64 65536) (.int .i64 65536)).run Try.prog w = .ok (.slice (some ⟨w.heap.size, 0, none⟩) n n) (w.alloc (.cells (madeCells #[.int .i64 0] n) 3)) := fun w => by rw [← h4]; exact hmk n (by omega) w
    clear hmk h3 h4
    go_enter Try.func15, Try.ntmps15
    go_wp2
    go_ret
    exact FIN.out _ rfl

theorem ring_len (p n f s g : Nat) (w : World) (slots : List Int) (h : RingAt w p g n f s slots) :
    Calls Try.prog 17 #[.pointer (some ⟨p, 0, none⟩)] w fun e w' => e = .returned (.int .i64 s) ∧ w = w' := by
  obtain ⟨c0, c1, c2, f0, f1, f2⟩ := h.1.three
  clear h
  go_enter Try.func17, Try.ntmps17
  go_wp2
  go_ret
  exact ⟨rfl, rfl⟩

theorem ring_at_no (p n f s g : Nat) (k : Int) (w : World) (slots : List Int) (h : RingAt w p g n f s slots) (hk : k < 0 ∨ (s : Int) ≤ k) :
    Calls Try.prog 18 #[.pointer (some ⟨p, 0, none⟩), .int .i64 k] w fun e w' => e = .returned (.tuple #[.int .i64 0, .bool false]) ∧ w = w' := by
  obtain ⟨c0, c1, c2, f0, f1, f2⟩ := h.1.three
  clear h
  by_cases h0 : k < 0
  · clear hk
    go_enter Try.func18, Try.ntmps18
    go_wp2
    go_ret2
    exact ⟨rfl, rfl⟩
  · have h1 : (s : Int) ≤ k := by omega
    clear hk
    go_enter Try.func18, Try.ntmps18
    go_wp2
    go_ret2
    exact ⟨rfl, rfl⟩

/-- where the k-th one stands -/
def place (n f k : Nat) : Nat := if f + k < n then f + k else f + k - n
theorem place_lt {n f k : Nat} (hf : f < n) (hk : k ≤ n) : place n f k < n ∨ n = 0 := by unfold place; split <;> omega
theorem place_mod {n f k : Nat} (hf : f < n) (hk : k ≤ n) : (f + k) % n = place n f k := by
  unfold place; split
  · exact Nat.mod_eq_of_lt ‹_›
  · rw [Nat.mod_eq_sub_mod (by omega), Nat.mod_eq_of_lt (by omega)]

theorem ring_at (p n f s g k : Nat) (w : World) (slots : List Int) (h : RingAt w p g n f s slots) (hf : f < n) (hs : s ≤ n) (hn : n ≤ 65536) (hk : k < s) :
    Calls Try.prog 18 #[.pointer (some ⟨p, 0, none⟩), .int .i64 k] w fun e w' => e = .returned (.tuple #[.int .i64 (ix slots (place n f k)), .bool true]) ∧ ∃ q, w' = w.drewN q := by
  obtain ⟨hB, hG, hl, -⟩ := h
  obtain ⟨c0, c1, c2, f0, f1, f2⟩ := hB.three
  have hp := place_lt hf (show k ≤ n by omega)
  have hm := place_mod hf (show k ≤ n by omega)
  have hc := row_cell hG (i := place n f k) (by omega)
  obtain ⟨j, hj⟩ : ∃ j, j = place n f k := ⟨_, rfl⟩
  rw [← hj] at hp hm hc
  rw [← hj]; clear hj hG hB hl
  have i0 : IntKind.i64.wrap ((f : Int) + k) = (f : Int) + k := IntWalk.i64_in _ (by omega)
  have i1 : ((f : Int) + k).tmod n = j := by
    rw [Int.tmod_eq_emod_of_nonneg (by omega), ← Int.natCast_add, ← Int.natCast_emod, hm]
  have i2 : IntKind.i64.wrap (j : Int) = (j : Int) := IntWalk.i64_in _ (by omega)
  have i3 : (j : Int) < (n : Int) := by omega
  have i4 : ((n : Int) == 0) = false := by simp; omega
  clear hm
  go_enter Try.func18, Try.ntmps18
  go_wp2
  go_quiet (fail)
  go_wp2
  go_ret2
  exact ⟨rfl, _, rfl⟩

theorem ring_push0 (p f s g : Nat) (x : Int) (w : World) (slots : List Int) (h : RingAt w p g 0 f s slots) :
    Calls Try.prog 16 #[.pointer (some ⟨p, 0, none⟩), .int .i64 x] w fun e w' => e = .returned (.tuple #[.int .i64 x, .bool true]) ∧ w = w' := by
  obtain ⟨c0, c1, c2, f0, f1, f2⟩ := h.1.three
  clear h
  go_enter Try.func16, Try.ntmps16
  go_wp2
  go_ret2
  exact ⟨rfl, rfl⟩

def Push1 (p g j s : Nat) (x : Int) (w : World) (e : Ending) (w' : World) : Prop := e = .returned (.tuple #[.int .i64 0, .bool false]) ∧ ∃ q, w' = ((w.setCell ⟨g, j, none⟩ (.int .i64 x)).setCell ⟨p, 2, none⟩ (.int .i64 ((s + 1 : Nat) : Int))).drewN q

theorem ring_push1 (p n f s g : Nat) (x : Int) (w : World) (slots : List Int) (h : RingAt w p g n f s slots) (hf : f < n) (hs : s < n) (hn : n ≤ 65536) :
    Calls Try.prog 16 #[.pointer (some ⟨p, 0, none⟩), .int .i64 x] w (Push1 p g (place n f s) s x w) := by
  obtain ⟨hB, hG, hl, hpg⟩ := h
  obtain ⟨c0, c1, c2, f0, f1, f2⟩ := hB.three
  have hp := place_lt hf (show s ≤ n by omega)
  have hm := place_mod hf (show s ≤ n by omega)
  have hc := row_cell hG (i := place n f s) (by omega)
  have hfr := hG.free (place n f s)
  obtain ⟨j, hj⟩ : ∃ j, j = place n f s := ⟨_, rfl⟩
  rw [← hj] at hp hm hc hfr
  rw [← hj]; clear hj
  have i0 : IntKind.i64.wrap ((f : Int) + s) = (f : Int) + s := IntWalk.i64_in _ (by omega)
  have i1 : ((f : Int) + s).tmod n = j := by
    rw [Int.tmod_eq_emod_of_nonneg (by omega), ← Int.natCast_add, ← Int.natCast_emod, hm]
  have i2 : IntKind.i64.wrap (j : Int) = (j : Int) := IntWalk.i64_in _ (by omega)
  have i3 : (j : Int) < (n : Int) := by omega
  have i4 : ((n : Int) == 0) = false := by simp; omega
  have i5 : (s : Int) < (n : Int) := by omega
  have hgp : g ≠ p := fun e => hpg e.symm
  clear hm hl hG hB
  go_enter Try.func16, Try.ntmps16
  go_wp2
  go_region
  all_goals go_wp2
  all_goals (go_ret2; exact ⟨rfl, 1, rfl⟩)

def Push2 (p g f f' : Nat) (old x : Int) (w : World) (e : Ending) (w' : World) : Prop := e = .returned (.tuple #[.int .i64 old, .bool true]) ∧ ∃ q, w' = ((w.setCell ⟨g, f, none⟩ (.int .i64 x)).setCell ⟨p, 1, none⟩ (.int .i64 f')).drewN q

theorem ring_push2 (p n f g : Nat) (x : Int) (w : World) (slots : List Int) (h : RingAt w p g n f n slots) (hf : f < n) (hn : n ≤ 65536) :
    Calls Try.prog 16 #[.pointer (some ⟨p, 0, none⟩), .int .i64 x] w (Push2 p g f (place n f 1) (ix slots f) x w) := by
  obtain ⟨hB, hG, hl, hpg⟩ := h
  obtain ⟨c0, c1, c2, f0, f1, f2⟩ := hB.three
  have hp := place_lt hf (show 1 ≤ n by omega)
  have hm := place_mod hf (show 1 ≤ n by omega)
  have hc := row_cell hG (i := f) (by omega)
  have hfr := hG.free f
  obtain ⟨j, hj⟩ : ∃ j, j = place n f 1 := ⟨_, rfl⟩
  rw [← hj] at hp hm
  rw [← hj]; clear hj
  have i1 : ((f : Int) + 1) % n = j := by
    rw [show ((f : Int) + 1) = ((f + 1 : Nat) : Int) from by omega, ← Int.natCast_emod, hm]
  have i3 : (f : Int) < (n : Int) := by omega
  have i4 : ((n : Int) == 0) = false := by simp; omega
  have hgp : g ≠ p := fun e => hpg e.symm
  have I1 := Lib.hid i1
  clear hm hl hG hB i1
  go_enter Try.func16, Try.ntmps16
  go_wp2
  go_region
  all_goals go_wp2
  all_goals (go_ret2; rw [I1.out]; exact ⟨rfl, 1, rfl⟩)

end Go.Proofs.Ythnjaichbejifaa
