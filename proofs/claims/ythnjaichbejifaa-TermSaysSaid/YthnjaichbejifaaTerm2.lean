/- Contracts of term.New, fairref.BlankRow, term.one. -/
import Derived.Test.YthnjaichbejifaaTerm
import Derived.Test.YthnjaichbejifaaRep2
import Derived.Deep.AppendLies
namespace Go.Proofs.Ythnjaichbejifaa
open Go.RowKit
set_option linter.unusedVariables false
set_option linter.unusedSimpArgs false

/-- what one sign does -/
def termStep (c : Int) (s : List Int × Nat) : List Int × Nat :=
  if c = 8 then (s.1, s.2 - 1) else if c = 13 then (s.1, 0)
  else if c = 11 then (s.1.take s.2 ++ List.replicate (s.1.length - s.2) 32, s.2)
  else if 32 ≤ c ∧ c ≠ 127 ∧ s.2 < s.1.length then (s.1.set s.2 c, s.2 + 1) else s
theorem termStep_len (c : Int) (s : List Int × Nat) (h : s.2 ≤ s.1.length) : (termStep c s).1.length = s.1.length ∧ (termStep c s).2 ≤ s.1.length := by
  unfold termStep; repeat' split
  all_goals simp
  all_goals omega

/-- a row of numbers that the call may write: n numbers from the block's begin on -/
structure RowB (base : Nat) (w : World) (g n c : Nat) (xs : List Int) : Prop where
  lo : base ≤ g
  cells : ∃ cur : Array Value, w.heap[g]? = some (.cells cur 3 (0, 0)) ∧ n ≤ cur.size ∧ cur.toList.take n = xs.map (Value.int .i64)
  len : xs.length = n
  cap : n ≤ c
theorem RowB.lt {base : Nat} {w : World} {g n c : Nat} {xs : List Int} (h : RowB base w g n c xs) : g < w.heap.size := by
  obtain ⟨cur, h1, _⟩ := h.cells
  exact (Array.getElem?_eq_some_iff.1 h1).1
theorem RowB.cell {base : Nat} {w : World} {g n c : Nat} {xs : List Int} (h : RowB base w g n c xs) {i : Nat} (hi : i < n) : w.cell? ⟨g, i, none⟩ = some (.int .i64 (ix xs i)) := by
  obtain ⟨cur, h1, h2, h3⟩ := h.cells
  have hl := h.len
  have h4 : cur.toList[i]? = some (.int .i64 (ix xs i)) := by
    have : (cur.toList.take n)[i]? = (xs.map (Value.int .i64))[i]? := by rw [h3]
    rw [List.getElem?_take, if_pos hi] at this
    rw [this]; simp [ix, hl, hi]
  simp [World.cell?, h1]
  simpa using h4
theorem RowB.free {base : Nat} {w : World} {g n c : Nat} {xs : List Int} (h : RowB base w g n c xs) (i : Nat) : w.frozen? ⟨g, i, none⟩ = false := by
  obtain ⟨cur, h1, _⟩ := h.cells
  simp [World.frozen?, h1]
theorem RowB.ints {base : Nat} {w : World} {g n c : Nat} {xs : List Int} (h : RowB base w g n c xs) : Ints w (some ⟨g, 0, none⟩) xs :=
  .inr ⟨g, 0, rfl, fun i hi => by rw [Nat.zero_add]; exact h.cell (by rw [h.len] at hi; exact hi)⟩
theorem RowB.set {base : Nat} {w : World} {g n c : Nat} {xs : List Int} (h : RowB base w g n c xs) (i : Nat) (x : Int) : RowB base (w.setCell ⟨g, i, none⟩ (.int .i64 x)) g n c (xs.set i x) := by
  obtain ⟨cur, h1, h2, h3⟩ := h.cells
  refine ⟨h.lo, ⟨cur.setIfInBounds i (.int .i64 x), Blk.set (B := g) (e := 3) h1 i _, by simpa using h2, ?_⟩, by simpa using h.len, h.cap⟩
  rw [Array.toList_setIfInBounds, List.map_set, ← h3, List.take_set]
theorem RowB.other {base : Nat} {w : World} {g n c : Nat} {xs : List Int} (h : RowB base w g n c xs) {a : Addr} (ha : g ≠ a.block) (u : Value) : RowB base (w.setCell a u) g n c xs := by
  obtain ⟨cur, h1, h2, h3⟩ := h.cells
  exact ⟨h.lo, ⟨cur, Blk.other (e := 3) h1 ha u, h2, h3⟩, h.len, h.cap⟩
theorem RowB.alloc {base : Nat} {w : World} {g n c : Nat} {xs : List Int} (h : RowB base w g n c xs) (o : Obj) : RowB base (w.alloc o) g n c xs := by
  obtain ⟨cur, h1, h2, h3⟩ := h.cells
  exact ⟨h.lo, ⟨cur, Blk.alloc (e := 3) h1 o, h2, h3⟩, h.len, h.cap⟩
theorem RowB.below {base B : Nat} {w w' : World} {g n c : Nat} {xs : List Int} (h : RowB base w g n c xs) (hb : Below B w w') (hB : g < B) : RowB base w' g n c xs := by
  obtain ⟨cur, h1, h2, h3⟩ := h.cells
  exact ⟨h.lo, ⟨cur, Blk.below (e := 3) h1 hb hB, h2, h3⟩, h.len, h.cap⟩
theorem RowB.mono {base base' : Nat} {w : World} {g n c : Nat} {xs : List Int} (h : RowB base w g n c xs) (hb : base' ≤ base) : RowB base' w g n c xs := ⟨Nat.le_trans hb h.lo, h.cells, h.len, h.cap⟩
theorem RowB.drewN {base : Nat} {w : World} {g n c : Nat} {xs : List Int} (h : RowB base w g n c xs) (k : Nat) : RowB base (w.drewN k) g n c xs := ⟨h.lo, h.cells, h.len, h.cap⟩
theorem Own.rowB {base : Nat} {w : World} {g n c : Nat} {xs : List Int} (h : Own 3 base w (.slice (some ⟨g, 0, none⟩) n c) xs) : RowB base w g n c xs := by
  have hl := h.get.1
  rcases h.2 with ⟨h1, _⟩ | ⟨g', cap, cur, h1, h2, h3, h4, h5, h6, h7⟩
  · simp at h1
  · simp only [Value.slice.injEq, Option.some.injEq, Addr.mk.injEq] at h1
    obtain ⟨⟨rfl, _, _⟩, _, rfl⟩ := h1
    rw [hl] at h7 h4
    exact ⟨h2, ⟨cur, h3, by omega, by rw [Nat.mul_one] at h7; exact h7⟩, hl, h4⟩

theorem ints1 (w : World) (x : Int) : Ints (w.alloc (.cells #[.int .i64 x] 3)) (some ⟨w.heap.size, 0, none⟩) [x] :=
  .inr ⟨_, _, rfl, fun i hi => by
    obtain rfl : i = 0 := by simpa using hi
    exact cell_new1 w (.int .i64 x) 3⟩

def BlankPost (k : Nat) (w : World) (e : Ending) (w' : World) : Prop :=
  ∃ v, e = .returned (.agg #[v, .int .i64 0]) ∧ Own 3 w.heap.size w' v (List.replicate k 32) ∧ Below w.heap.size w w'

set_option maxRecDepth 100000 in
theorem ref_blank (k : Nat) (w : World) (hk : k ≤ 4096) :
    Calls Try.prog 76 #[.int .i64 (k : Int)] w (BlankPost k w) := by
  go_enter Try.func76, Try.ntmps76
  go_wp2
  go_loopw [6] (fun i wr => ∃ (j : Nat) (v : Value), i = .int .i64 (j : Int) ∧ j ≤ k ∧ Blk wr w.heap.size #[.slice none 0 0, .int .i64 0] 46 ∧ Blk wr (w.heap.size + 1) #[v, .int .i64 0] 46 ∧ Own 3 (w.heap.size + 2) wr v (List.replicate j 32) ∧ Below w.heap.size w wr) (fun i _ => k - (intOf i).toNat)
  case atStart =>
    refine ⟨0, .slice none 0 0, rfl, by omega, (Blk.new _ _ _).alloc _, ?_, Own.nil _ _ _, below2 _ _ _⟩
    have := Blk.new (w.alloc (.cells #[.slice none 0 0, .int .i64 0] 46)) #[.slice none 0 0, .int .i64 0] 46
    rwa [World.size_alloc] at this
  case round =>
    obtain ⟨j, v, rfl, hj, hA, hB, hown, hbel⟩ := hrel
    obtain ⟨av, nv, cv, rfl⟩ := hown.form
    obtain ⟨c0, c1, f0, f1⟩ := hB.two
    obtain ⟨d0, d1, g0, g1⟩ := hA.two
    have hbl := hB.lt
    by_cases hlt : j < k
    · have i1 : (j : Int) < (k : Int) := by omega
      go_wp2_with (at_builtin; refine app1 rfl _ _ rfl (w.heap.size + 2) (.slice av nv cv) _ _ _ rfl rfl (hown.alloc _) (cell_new1 _ _ _) (by simp; omega) (by rw [World.size_alloc]; omega) ?_; intro v3 w3 hown3 hgrow3; obtain ⟨a3, n3, m3, rfl⟩ := hown3.form; have hB3 := (hB.alloc _).grown hgrow3 ((hown.ne (by omega))); have hA3 := (hA.alloc _).grown hgrow3 ((hown.ne (by omega))); obtain ⟨c0, c1, f0, f1⟩ := hB3.two)
      have hb3 : Below w.heap.size w w3 := (hbel.alloc hbel.size _).grown hgrow3 (by have := hbel.size; simp; omega) (fun q hq => by have := hown.row q hq; omega)
      go_roundw
      case rel =>
        refine ⟨j + 1, .slice a3 n3 m3, by go_num, by omega, hA3.other (by show w.heap.size ≠ w.heap.size + 1; omega) _, hB3.set 0 _, ?_, hb3.setCell (p := ⟨w.heap.size + 1, 0, none⟩) (by show w.heap.size ≤ w.heap.size + 1; omega) _⟩
        rw [List.replicate_succ']
        exact hown3.setCell (by show w.heap.size + 1 < _; omega) _
      case measure => simp [intOf]; omega
    · obtain rfl : j = k := by omega
      go_wp2
      have hG := ((hA.set 0 (.slice av nv cv)).set 1 (.int .i64 0))
      obtain ⟨y0, y1, -, -⟩ := Blk.two hG
      refine bodyPost_ret (v := .agg #[.slice av nv cv, .int .i64 0]) (by simp [results, Try.results76, go_sem, y0, y1]) rfl ?_
      exact ⟨_, rfl, (((hown.setCell (by show w.heap.size < _; omega) _).setCell (by show w.heap.size < _; omega) _)).mono (by omega), (hbel.setCell (p := ⟨w.heap.size, 0, none⟩) (Nat.le_refl _) _).setCell (p := ⟨w.heap.size, 1, none⟩) (Nat.le_refl _) _⟩

theorem term_new_bad (k : Int) (w : World) (hk : k < 2 ∨ 120 < k) :
    Calls Try.prog 75 #[.int .i64 k] w fun e w' => e = .returned (.tuple #[.agg #[.slice none 0 0, .int .i64 0], .int .i64 1]) ∧ Below w.heap.size w w' := by
  have hA := Blk.new w #[.slice none 0 0, .int .i64 0] 46
  have hb := below1 w (.cells #[.slice none 0 0, .int .i64 0] 46)
  obtain ⟨y0, y1, -, -⟩ := hA.two
  by_cases h : k < 2
  all_goals
    go_enter Try.func75, Try.ntmps75
    go_wp2
    refine bodyPost_ret (v := .tuple #[.agg #[.slice none 0 0, .int .i64 0], .int .i64 1]) (by simp [results, Try.results75, go_sem, y0, y1]) rfl ?_
    exact ⟨rfl, hb⟩

theorem repS_one (k : Nat) : repS [32] k = List.replicate k 32 := by
  induction k with
  | zero => rfl
  | succ k ih => rw [List.replicate_succ, ← ih]; simp [repS, List.replicate_succ]

def NewPost (k : Nat) (w : World) (e : Ending) (w' : World) : Prop :=
  ∃ v, e = .returned (.tuple #[.agg #[v, .int .i64 0], .int .i64 0]) ∧ Own 3 w.heap.size w' v (List.replicate k 32) ∧ Below w.heap.size w w'
set_option maxRecDepth 100000 in
theorem term_new (k : Nat) (w : World) (h1 : 2 ≤ k) (h2 : k ≤ 120) :
    Calls Try.prog 75 #[.int .i64 (k : Int)] w (NewPost k w) := by
  go_enter Try.func75, Try.ntmps75
  go_wp2_with fail
  have hI := ints1 (w.alloc (.cells #[.slice none 0 0, .int .i64 0] 46)) 32
  rw [World.size_alloc] at hI
  have hk4 : k ≤ 4096 := by omega
  have h14 : 1 ≤ 4096 := by decide
  have hc := slices_repeat _ 1 1 k [32] _ hI rfl hk4 h14
  refine hc.mono ?_
  rintro e w2 ⟨v, rfl, hown, hb2⟩
  obtain ⟨av, nv, cv, rfl⟩ := hown.form
  rw [repS_one] at hown
  rw [World.size_alloc, World.size_alloc] at hown
  have hA := Blk.below ((Blk.new w #[.slice none 0 0, .int .i64 0] 46).alloc (.cells #[.int .i64 32] 3)) hb2 (by simp; omega)
  obtain ⟨d0, d1, g0, g1⟩ := hA.two
  have hb := below_then (below2 w (.cells #[.slice none 0 0, .int .i64 0] 46) (.cells #[.int .i64 32] 3)) (by simp; omega) hb2
  go_wp2
  have hG := ((hA.set 0 (.slice av nv cv)).set 1 (.int .i64 0))
  obtain ⟨y0, y1, -, -⟩ := Blk.two hG
  refine bodyPost_ret (v := .tuple #[.agg #[.slice av nv cv, .int .i64 0], .int .i64 0]) (by simp [results, Try.results75, go_sem, y0, y1]) rfl ?_
  exact ⟨_, rfl, ((hown.setCell (by simp; omega) _).setCell (by simp; omega) _).mono (by omega), (hb.setCell (p := ⟨w.heap.size, 0, none⟩) (Nat.le_refl _) _).setCell (p := ⟨w.heap.size, 1, none⟩) (Nat.le_refl _) _⟩

end Go.Proofs.Ythnjaichbejifaa
