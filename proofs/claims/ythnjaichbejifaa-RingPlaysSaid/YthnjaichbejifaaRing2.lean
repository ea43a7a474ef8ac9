/- ring.List at int; a row with its head cut off, appended to. -/
import Derived.Test.YthnjaichbejifaaRing
namespace Go.Proofs.Ythnjaichbejifaa
open Go.RowKit
set_option linter.unusedVariables false
set_option linter.unusedSimpArgs false

/-- what a ring holds -/
def ringS (n f s : Nat) (slots : List Int) : List Int := (List.range s).map fun k => ix slots (place n f k)
theorem ringS_length (n f s : Nat) (slots : List Int) : (ringS n f s slots).length = s := by simp [ringS]
theorem ringS_take {n f s k : Nat} {slots : List Int} (h : k < s) : (ringS n f s slots).take (k + 1) = (ringS n f s slots).take k ++ [ix slots (place n f k)] := by
  rw [List.take_succ_eq_append_getElem (by rw [ringS_length]; exact h)]; simp [ringS]
theorem ringS_ix {n f s k : Nat} {slots : List Int} (h : k < s) : ix (ringS n f s slots) k = ix slots (place n f k) := by
  rw [ix_eq (by rw [ringS_length]; exact h)]; simp [ringS]

theorem RingAt.below {w w' : World} {p g n f s : Nat} {slots : List Int} (h : RingAt w p g n f s slots) (hb : Below w.heap.size w w') : RingAt w' p g n f s slots :=
  ⟨h.1.below hb h.1.lt, h.2.1.below hb h.2.1.lt, h.2.2⟩
theorem RingAt.drewN {w : World} {p g n f s : Nat} {slots : List Int} (h : RingAt w p g n f s slots) (q : Nat) : RingAt (w.drewN q) p g n f s slots := h

def ListPost (xs : List Int) (w : World) (e : Ending) (w' : World) : Prop := ∃ v, e = .returned v ∧ Own 3 w.heap.size w' v xs ∧ Below w.heap.size w w'

set_option maxRecDepth 100000 in
theorem ring_list (p n f s g : Nat) (w : World) (slots : List Int) (h : RingAt w p g n f s slots) (hf : f < n ∨ s = 0) (hs : s ≤ n) (hn : n ≤ 65536) :
    Calls Try.prog 20 #[.pointer (some ⟨p, 0, none⟩)] w (ListPost (ringS n f s slots) w) := by
  have hmk := make_int 0 s (by omega) (by omega)
  simp only [Int.natCast_zero] at hmk
  obtain ⟨c0, c1, c2, f0, f1, f2⟩ := h.1.three
  have hpl := h.1.lt
  have H := Lib.hid h; clear h
  go_enter Try.func20, Try.ntmps20
  go_wp2
  go_loopw [16, 3] (fun i v wr => ∃ k : Nat, i = .int .i64 (k : Int) ∧ k ≤ s ∧ Own 3 w.heap.size wr v ((ringS n f s slots).take k) ∧ Below w.heap.size w wr) (fun i _ _ => s - (intOf i).toNat)
  case atStart => exact ⟨0, rfl, by omega, own_made w w.heap.size s (Nat.le_refl _) (by omega), below1 _ _⟩
  case round =>
    obtain ⟨k, rfl, hk, hown, hbel⟩ := hrel
    have hlen : ((ringS n f s slots).take k).length < 17592186044416 := by simp [ringS_length]; omega
    by_cases hlt : k < s
    · go_wp2_with fail
      refine (ring_at p n f s g k wr slots (H.out.below hbel) (by omega) hs hn hlt).mono ?_
      rintro e w1 ⟨rfl, q, hq⟩
      have hown1 : Own 3 w.heap.size w1 u3 ((ringS n f s slots).take k) := by rw [hq]; exact hown.drewN q
      have hb1 : Below w.heap.size w w1 := by rw [hq]; exact below_drewN hbel q
      clear hq
      go_wp2_with (at_builtin; refine app1 rfl _ _ rfl w.heap.size u3 _ _ _ rfl rfl (hown1.alloc _) (cell_new1 _ _ _) hlen (size_alloc_le hb1.size _) ?_; intro v2 w2 hown2 hgrow2)
      go_roundw
      case rel => exact ⟨k + 1, by go_num, by omega, by rw [ringS_take hlt]; exact hown2, (hb1.alloc hb1.size _).grown hgrow2 (by have := hb1.size; simp; omega) hown.row⟩
      case measure => simp [intOf]; omega
    · obtain rfl : k = s := by omega
      go_wp2
      go_ret
      rw [List.take_of_length_le (by simp [ringS_length])] at hown
      exact ⟨_, rfl, hown, hbel⟩

end Go.Proofs.Ythnjaichbejifaa
