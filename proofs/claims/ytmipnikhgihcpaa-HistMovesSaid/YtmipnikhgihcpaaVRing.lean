/- Contracts of package ring at []int. -/
import Derived.Test.YtmipnikhgihcpaaVRow
import Derived.Test.YtmipnikhgihcpaaRPlace
import Derived.Deep.RegionHeld3
import Derived.Deep.OwnRows
import Derived.Maps.AppendAt
namespace Go.Proofs.Ytmipnikhgihcpaa
open Go.RowKit
set_option linter.unusedVariables false
set_option linter.unusedSimpArgs false

/-- a ring of slices in memory: the struct in block p, its slots in block g -/
def RingV (w : World) (p g n f s : Nat) (slots : List Value) : Prop :=
  Blk w p #[.slice (some ⟨g, 0, none⟩) n n, .int .i64 f, .int .i64 s] 241 ∧ Blk w g slots.toArray 22 ∧ slots.length = n ∧ p ≠ g ∧ Sls slots

theorem vrow_cell {w : World} {g : Nat} {slots : List Value} {T : TypeId} (h : Blk w g slots.toArray T) {i : Nat} (hi : i < slots.length) : w.cell? ⟨g, i, none⟩ = some (vx slots i) := by
  rw [h.cell i]; simp [vx, hi]
theorem vrow_set {w : World} {g : Nat} {slots : List Value} {T : TypeId} (h : Blk w g slots.toArray T) (i : Nat) (x : Value) : Blk (w.setCell ⟨g, i, none⟩ x) g (slots.set i x).toArray T := by
  have := h.set i x
  rwa [show slots.toArray.setIfInBounds i x = (slots.set i x).toArray from by simp] at this

def VNewPost (n : Nat) (w : World) (e : Ending) (w' : World) : Prop :=
  ∃ p g, e = .returned (.pointer (some ⟨p, 0, none⟩)) ∧ RingV w' p g n 0 0 (List.replicate n (.slice none 0 0)) ∧ w.heap.size ≤ p ∧ w.heap.size ≤ g ∧ Below w.heap.size w w'

theorem vmade_row (n : Nat) : madeCells #[.slice none 0 0] n = (List.replicate n (Value.slice none 0 0)).toArray := by
  apply Array.toList_inj.1
  rw [toList_madeCells_one]
theorem sls_made (n : Nat) : Sls (List.replicate n (Value.slice none 0 0)) := fun i hi => by
  refine ⟨none, 0, 0, ?_⟩
  rw [vx_at hi]; simp

theorem vring_new (n : Nat) (h1 : 1 ≤ n) (h2 : n ≤ 65536) (w : World) : Calls Try.prog 97 #[.int .i64 (n : Int)] w (VNewPost n w) := by
  have hm0 := run_make_row' (P := Try.prog) 46 22 (.slice none 0 0) 24 Try.underlying46 info_sl rfl .i64 .i64 n (by omega) (by omega)
  have fin : ∀ (w' : World), w' = (w.alloc (.cells (madeCells #[.slice none 0 0] n) 22)).alloc (.cells #[.slice (some ⟨w.heap.size, 0, none⟩) n n, .int .i64 0, .int .i64 0] 241) → VNewPost n w (.returned (.pointer (some ⟨w.heap.size + 1, 0, none⟩))) w' := by
    rintro w' rfl
    refine ⟨w.heap.size + 1, w.heap.size, rfl, ⟨?_, ?_, by simp, by simp, sls_made n⟩, by simp, Nat.le_refl _, below2 _ _ _⟩
    · have := Blk.new (w.alloc (.cells (madeCells #[.slice none 0 0] n) 22)) #[.slice (some ⟨w.heap.size, 0, none⟩) n n, .int .i64 0, .int .i64 0] 241
      rwa [World.size_alloc] at this
    · have := (Blk.new w (madeCells #[.slice none 0 0] n) 22).alloc (.cells #[.slice (some ⟨w.heap.size, 0, none⟩) n n, .int .i64 0, .int .i64 0] 241)
      rw [← vmade_row n]; exact this
  have FIN := Lib.hid fin; clear fin
  have h3 : (n : Int) ≤ 65536 := by omega
  have h4 : (0 : Int) < (n : Int) := by omega
  go_enter Try.func97, Try.ntmps97
  go_wp2
  all_goals
    go_ret
    exact FIN.out _ rfl

theorem vring_at (p n f s g k : Nat) (w : World) (slots : List Value) (h : RingV w p g n f s slots) (hf : f < n) (hs : s ≤ n) (hn : n ≤ 65536) (hk : k < s) :
    Calls Try.prog 152 #[.pointer (some ⟨p, 0, none⟩), .int .i64 k] w fun e w' => e = .returned (.tuple #[vx slots (place n f k), .bool true]) ∧ ∃ q, w' = w.drewN q := by
  obtain ⟨hB, hG, hl, -, hS⟩ := h
  obtain ⟨c0, c1, c2, f0, f1, f2⟩ := hB.three
  have hp := place_lt hf (show k ≤ n by omega)
  have hm := place_mod hf (show k ≤ n by omega)
  have hc := vrow_cell hG (i := place n f k) (by omega)
  obtain ⟨ya, yn, yc, hy⟩ := hS (place n f k) (by omega)
  rw [hy] at hc
  rw [hy]
  obtain ⟨j, hj⟩ : ∃ j, j = place n f k := ⟨_, rfl⟩
  rw [← hj] at hp hm hc
  clear hj hG hB hl hS hy
  have i0 : IntKind.i64.wrap ((f : Int) + k) = (f : Int) + k := IntWalk.i64_in _ (by omega)
  have i1 : ((f : Int) + k).tmod n = j := by
    rw [Int.tmod_eq_emod_of_nonneg (by omega), ← Int.natCast_add, ← Int.natCast_emod, hm]
  have i2 : IntKind.i64.wrap (j : Int) = (j : Int) := IntWalk.i64_in _ (by omega)
  have i3 : (j : Int) < (n : Int) := by omega
  have i4 : ((n : Int) == 0) = false := by simp; omega
  clear hm
  go_enter Try.func152, Try.ntmps152
  go_wp2
  go_quiet (fail)
  go_wp2
  go_ret2
  exact ⟨rfl, _, rfl⟩

def VPush1 (p g j s : Nat) (x : Value) (w : World) (e : Ending) (w' : World) : Prop := e = .returned (.tuple #[.slice none 0 0, .bool false]) ∧ ∃ q, w' = ((w.setCell ⟨g, j, none⟩ x).setCell ⟨p, 2, none⟩ (.int .i64 ((s + 1 : Nat) : Int))).drewN q

theorem vring_push1 (p n f s g : Nat) (xa : Option Addr) (xn xc : Nat) (w : World) (slots : List Value) (h : RingV w p g n f s slots) (hf : f < n) (hs : s < n) (hn : n ≤ 65536) :
    Calls Try.prog 99 #[.pointer (some ⟨p, 0, none⟩), .slice xa xn xc] w (VPush1 p g (place n f s) s (.slice xa xn xc) w) := by
  obtain ⟨hB, hG, hl, hpg, hS⟩ := h
  obtain ⟨c0, c1, c2, f0, f1, f2⟩ := hB.three
  have hp := place_lt hf (show s ≤ n by omega)
  have hm := place_mod hf (show s ≤ n by omega)
  have hc := vrow_cell hG (i := place n f s) (by omega)
  have hfr := hG.free (place n f s)
  obtain ⟨ya, yn, yc, hy⟩ := hS (place n f s) (by omega)
  rw [hy] at hc
  obtain ⟨j, hj⟩ : ∃ j, j = place n f s := ⟨_, rfl⟩
  rw [← hj] at hp hm hc hfr
  rw [← hj]; clear hj hy hS
  have i0 : IntKind.i64.wrap ((f : Int) + s) = (f : Int) + s := IntWalk.i64_in _ (by omega)
  have i1 : ((f : Int) + s).tmod n = j := by
    rw [Int.tmod_eq_emod_of_nonneg (by omega), ← Int.natCast_add, ← Int.natCast_emod, hm]
  have i2 : IntKind.i64.wrap (j : Int) = (j : Int) := IntWalk.i64_in _ (by omega)
  have i3 : (j : Int) < (n : Int) := by omega
  have i4 : ((n : Int) == 0) = false := by simp; omega
  have i5 : (s : Int) < (n : Int) := by omega
  have hgp : g ≠ p := fun e => hpg e.symm
  clear hm hl hG hB
  go_enter Try.func99, Try.ntmps99
  go_wp2
  go_region
  all_goals go_wp2
  all_goals (go_ret2; exact ⟨rfl, 1, rfl⟩)

def VPush2 (p g f f' : Nat) (old x : Value) (w : World) (e : Ending) (w' : World) : Prop := e = .returned (.tuple #[old, .bool true]) ∧ ∃ q, w' = ((w.setCell ⟨g, f, none⟩ x).setCell ⟨p, 1, none⟩ (.int .i64 f')).drewN q

theorem vring_push2 (p n f g : Nat) (xa : Option Addr) (xn xc : Nat) (w : World) (slots : List Value) (h : RingV w p g n f n slots) (hf : f < n) (hn : n ≤ 65536) :
    Calls Try.prog 99 #[.pointer (some ⟨p, 0, none⟩), .slice xa xn xc] w (VPush2 p g f (place n f 1) (vx slots f) (.slice xa xn xc) w) := by
  obtain ⟨hB, hG, hl, hpg, hS⟩ := h
  obtain ⟨c0, c1, c2, f0, f1, f2⟩ := hB.three
  have hp := place_lt hf (show 1 ≤ n by omega)
  have hm := place_mod hf (show 1 ≤ n by omega)
  have hc := vrow_cell hG (i := f) (by omega)
  have hfr := hG.free f
  obtain ⟨ya, yn, yc, hy⟩ := hS f (by omega)
  rw [hy] at hc
  rw [hy]
  obtain ⟨j, hj⟩ : ∃ j, j = place n f 1 := ⟨_, rfl⟩
  rw [← hj] at hp hm
  rw [← hj]; clear hj hy hS
  have i1 : ((f : Int) + 1) % n = j := by
    rw [show ((f : Int) + 1) = ((f + 1 : Nat) : Int) from by omega, ← Int.natCast_emod, hm]
  have i3 : (f : Int) < (n : Int) := by omega
  have i4 : ((n : Int) == 0) = false := by simp; omega
  have hgp : g ≠ p := fun e => hpg e.symm
  have I1 := Lib.hid i1
  clear hm hl hG hB i1
  go_enter Try.func99, Try.ntmps99
  go_wp2
  go_region
  all_goals go_wp2
  all_goals (go_ret2; rw [I1.out]; exact ⟨rfl, 1, rfl⟩)

/-- what a ring holds -/
def ringVs (n f s : Nat) (slots : List Value) : List Value := (List.range s).map fun k => vx slots (place n f k)
theorem ringVs_length (n f s : Nat) (slots : List Value) : (ringVs n f s slots).length = s := by simp [ringVs]
theorem ringVs_take {n f s k : Nat} {slots : List Value} (h : k < s) : (ringVs n f s slots).take (k + 1) = (ringVs n f s slots).take k ++ [vx slots (place n f k)] := by
  rw [List.take_succ_eq_append_getElem (by rw [ringVs_length]; exact h)]; simp [ringVs]
theorem ringVs_vx {n f s k : Nat} {slots : List Value} (h : k < s) : vx (ringVs n f s slots) k = vx slots (place n f k) := by
  rw [vx_at (by rw [ringVs_length]; exact h)]; simp [ringVs]
theorem RingV.below {w w' : World} {p g n f s : Nat} {slots : List Value} (h : RingV w p g n f s slots) (hb : Below w.heap.size w w') : RingV w' p g n f s slots :=
  ⟨h.1.below hb h.1.lt, h.2.1.below hb h.2.1.lt, h.2.2⟩
theorem RingV.drewN {w : World} {p g n f s : Nat} {slots : List Value} (h : RingV w p g n f s slots) (q : Nat) : RingV (w.drewN q) p g n f s slots := h

/-- make([][]int, 0, c) -/
theorem vmake0 (c : Nat) (hc : c ≤ 65536) (w : World) :
    (Instr.makeSlice 46 (.int .i64 0) (.int .i64 (c : Int))).run Try.prog w = .ok (.slice (some ⟨w.heap.size, 0, none⟩) 0 c) (w.alloc (.cells (madeCells #[.slice none 0 0] c) 22)) := by
  obtain ⟨i0, hi, hz0, hz1, hz2⟩ := info_parts info_sl
  have := run_make (P := Try.prog) w 46 22 i0 (.slice none 0 0) Try.underlying46 hi hz0 .i64 .i64 (0 : Nat) c (by omega) (by omega) (by rw [hz2]; omega) (by omega)
  rw [hz1, Int.toNat_natCast, Int.toNat_natCast, Nat.mul_one] at this
  exact this
theorem vown_made (w : World) (base c : Nat) (hb : base ≤ w.heap.size) (hc : c ≤ 65536) : VOwn 22 base (w.alloc (.cells (madeCells #[.slice none 0 0] c) 22)) (.slice (some ⟨w.heap.size, 0, none⟩) 0 c) [] :=
  World.ownsRow_made w _ c hb (by unfold maxLen; omega) (by rw [size_madeCells, Nat.mul_one])

def VListPost (vs : List Value) (w : World) (e : Ending) (w' : World) : Prop := ∃ v, e = .returned v ∧ VOwn 22 w.heap.size w' v vs ∧ Below w.heap.size w w'

set_option maxRecDepth 100000 in
theorem vring_list (p n f s g : Nat) (w : World) (slots : List Value) (h : RingV w p g n f s slots) (hf : f < n) (hs : s ≤ n) (hn : n ≤ 65536) :
    Calls Try.prog 100 #[.pointer (some ⟨p, 0, none⟩)] w (VListPost (ringVs n f s slots) w) := by
  have hmk := vmake0 s (by omega)
  obtain ⟨c0, c1, c2, f0, f1, f2⟩ := h.1.three
  have hpl := h.1.lt
  have hS := h.2.2.2.2
  have hl := h.2.2.1
  have hSV : ∀ k, k < s → ∃ a n' c, vx slots (place n f k) = .slice a n' c := fun k hk => hS _ (by have := place_lt hf (show k ≤ n by omega); omega)
  have HS := Lib.hid hSV
  have H := Lib.hid h; clear h hS hl hSV
  go_enter Try.func100, Try.ntmps100
  go_wp2
  go_loopw [16, 3] (fun i v wr => ∃ k : Nat, i = .int .i64 (k : Int) ∧ k ≤ s ∧ VOwn 22 w.heap.size wr v ((ringVs n f s slots).take k) ∧ Below w.heap.size w wr) (fun i _ _ => s - (intOf i).toNat)
  case atStart => exact ⟨0, rfl, by omega, vown_made w w.heap.size s (Nat.le_refl _) (by omega), below1 _ _⟩
  case round =>
    obtain ⟨k, rfl, hk, hown, hbel⟩ := hrel
    have hlen : ((ringVs n f s slots).take k).length + 1 ≤ 4398046511104 := by simp [ringVs_length]; omega
    by_cases hlt : k < s
    · obtain ⟨ya, yn, yc, hy⟩ := HS.out k hlt
      have HY := Lib.hid hy
      have HRA := Lib.hid (vring_at p n f s g k wr slots (H.out.below hbel) hf hs hn hlt)
      rw [hy] at HRA
      clear hy
      go_wp2_with fail
      refine HRA.out.mono ?_
      rintro e w1 ⟨rfl, q, hq⟩
      have hown1 : VOwn 22 w.heap.size w1 u3 ((ringVs n f s slots).take k) := by rw [hq]; exact hown.drewN q
      have hb1 : Below w.heap.size w w1 := by rw [hq]; exact below_drewN hbel q
      have HVL := Lib.hid (vals_lit w1 [.slice ya yn yc] 22)
      have HSS := Lib.hid (show Sls [.slice ya yn yc] from fun i hi => by
        obtain rfl : i = 0 := by simp at hi; omega
        exact ⟨ya, yn, yc, rfl⟩)
      clear hq
      go_wp2_with (at_builtin; refine vapp rfl _ _ rfl w.heap.size u3 _ [.slice ya yn yc] _ 1 1 rfl rfl (hown1.alloc _) HVL.out HSS.out rfl hlen (size_alloc_le hb1.size _) ?_; intro v2 w2 hown2 hgrow2)
      go_roundw
      case rel => exact ⟨k + 1, by go_num, by omega, by rw [ringVs_take hlt, HY.out]; exact hown2, (hb1.alloc hb1.size _).grown hgrow2 (by have := hb1.size; simp; omega) hown.row⟩
      case measure => simp [intOf]; omega
    · obtain rfl : k = s := by omega
      go_wp2
      go_ret
      rw [List.take_of_length_le (by simp [ringVs_length])] at hown
      exact ⟨_, rfl, hown, hbel⟩

end Go.Proofs.Ytmipnikhgihcpaa
