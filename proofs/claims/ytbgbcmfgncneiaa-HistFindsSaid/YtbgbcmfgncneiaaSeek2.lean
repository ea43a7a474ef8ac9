/- Contract of seek.Borders. -/
import Derived.Test.YtbgbcmfgncneiaaPlaces
import Derived.Deep.RegionHeld3
import Derived.Test.YtbgbcmfgncneiaaRow
import Derived.Deep.OwnRows
namespace Go.Proofs.Ytbgbcmfgncneiaa
open Go.RowKit
set_option linter.unusedVariables false
set_option linter.unusedSimpArgs false

/-- the first i numbers of out are the borders -/
def Bords (p out : List Int) (i : Nat) : Prop := ∀ j, j < i → ∃ b : Nat, ix out j = (b : Int) ∧ MaxB p (j + 1) b

theorem Bords.more {p out : List Int} {i b : Nat} (h : Bords p out i) (hi : i < out.length) (hb : MaxB p (i + 1) b) : Bords p (out.set i (b : Int)) (i + 1) := by
  intro j hj
  by_cases h' : j = i
  · subst h'; exact ⟨b, ixSetEq hi, hb⟩
  · rw [ixSetNe (fun e => h' e.symm)]; exact h j (by omega)

def BordersPost (p : List Int) (n : Nat) (w : World) (e : Ending) (w' : World) : Prop :=
  ∃ g c out, e = .returned (.tuple #[.slice (some ⟨g, 0, none⟩) n c, .int .i64 0]) ∧ Ints w' (some ⟨g, 0, none⟩) out ∧ out.length = n ∧ Bords p out n ∧ Below w.heap.size w w'

set_option maxRecDepth 100000 in
set_option maxHeartbeats 1000000 in
theorem seek_borders (a : Option Addr) (n c : Nat) (p : List Int) (w : World) (ha : Ints w a p) (hn : p.length = n) (h2 : n ≤ 4096) :
    Calls Try.prog 193 #[.slice a n c] w (BordersPost p n w) := by
  have HN := Lib.hid hn; clear hn
  have hmk := make_int n n (Nat.le_refl _) (by omega)
  go_enter Try.func193, Try.ntmps193
  go_wp2
  clear hmk
  go_loopw [6, 5] (fun i k wr => ∃ (j kk : Nat) (out : List Int), i = .int .i64 (j : Int) ∧ k = .int .i64 (kk : Int) ∧ 1 ≤ j ∧ (j ≤ n ∨ j = 1) ∧ Blk wr w.heap.size (out.map (Value.int .i64)).toArray 3 ∧ out.length = n ∧ Bords p out (min j n) ∧ MaxB p j kk ∧ Below w.heap.size w wr) (fun i _ _ => n - (intOf i).toNat)
  case atStart =>
    refine ⟨1, 0, List.replicate n 0, rfl, rfl, by omega, by omega, ?_, by simp, ?_, maxB_one p, below1 _ _⟩
    · rw [← madeRow n]; exact Blk.new _ _ _
    · intro j hj; exact ⟨0, by unfold ix; rw [List.getD_eq_getElem?_getD, List.getElem?_replicate]; split <;> rfl, by rw [show j = 0 from by omega]; exact maxB_one p⟩
  case round =>
    obtain ⟨j, kk, out, rfl, rfl, hj1, hj2, hB, hlen, hbo, hmax, hbel⟩ := hrel
    by_cases hlt : j < n
    · rw [Nat.min_eq_left (by omega)] at hbo
      obtain ⟨b1, o1, rfl, hc0⟩ := ha.at (k := j) (by rw [HN.out]; exact hlt)
      have hc : ∀ i, i < n → w.cell? ⟨b1, o1 + i, none⟩ = some (.int .i64 (ix p i)) := fun i hi => hc0 i (by rw [HN.out]; exact hi)
      clear hc0
      have HC := Lib.hid hc; have HBO := Lib.hid hbo; have HL := Lib.hid hlen
      have HIN := Lib.hid (InB.start hmax)
      have hkj := hmax.1.1
      clear hc hbo hlen hmax
      have hbw := hB.lt
      go_wp2
      go_loopw [5] (fun k wr => ∃ kk : Nat, k = .int .i64 (kk : Int) ∧ kk < j ∧ InB p j kk ∧ Blk wr w.heap.size (out.map (Value.int .i64)).toArray 3 ∧ Below w.heap.size w wr) (fun k _ => (intOf k).toNat)
      case atStart => exact ⟨kk, rfl, hkj, HIN.out, hB, hbel⟩
      case round =>
        clear hkj HIN hbw hbel hB
        obtain ⟨k, rfl, hk, hin, hBx, hbx⟩ := hrel
        have hbw := hBx.lt
        have cell : ∀ i, i < n → wr.cell? ⟨b1, o1 + i, none⟩ = some (.int .i64 (ix p i)) := fun i hi => by
          have := HC.out i hi
          rw [hbx.cell (cell_lt this)]; exact this
        have ck := cell k (by omega)
        have cj := cell j hlt
        clear cell
        have HI := Lib.hid hin; clear hin
        have co := rowCell hBx (i := j) (by rw [HL.out]; exact hlt)
        have cf := hBx.free j
        have hk0 : (0 : Int) ≤ (k : Int) := by omega
        have hkn : (k : Int) < (n : Int) := by omega
        have hjn : (j : Int) < (n : Int) := by omega
        by_cases he : ix p k = ix p j
        · have HE := Lib.hid he
          have HM := Lib.hid (HI.out.hit he hj1)
          have hd3 : (ix p k != ix p j) = false := by simpa using he
          have hd4 : (ix p k == ix p j) = true := by simpa using he
          clear he
          by_cases hp : 0 < k
          · have hp0 : decide ((0 : Int) < (k : Int)) = true := by simpa using hp
            go_wp2
            go_quiet (fail)
            all_goals
              go_wp2
              go_quiet (fail)
              all_goals
                go_wp2
                refine ⟨⟨j + 1, k + 1, out.set j (((k + 1 : Nat) : Int)), by go_num, by go_num, by omega, by omega, ?_, by simp; exact HL.out, ?_, HM.out, ?_⟩, by simp [intOf]; omega⟩
                · exact rowSet (hBx.drewN _) j _
                · rw [Nat.min_eq_left (by omega)]; exact Bords.more HBO.out (by rw [HL.out]; exact hlt) HM.out
                · exact (below_drewN hbx _).setCell (p := ⟨w.heap.size, j, none⟩) (Nat.le_refl _) _
          · obtain rfl : k = 0 := by omega
            rw [Nat.add_zero] at ck
            go_wp2
            go_quiet (fail)
            all_goals
              go_wp2
              go_quiet (fail)
              all_goals
                go_wp2
                refine ⟨⟨j + 1, 0 + 1, out.set j (((0 + 1 : Nat) : Int)), by go_num, by go_num, by omega, by omega, ?_, by simp; exact HL.out, ?_, HM.out, ?_⟩, by simp [intOf]; omega⟩
                · exact rowSet (hBx.drewN _) j _
                · rw [Nat.min_eq_left (by omega)]; exact Bords.more HBO.out (by rw [HL.out]; exact hlt) HM.out
                · exact (below_drewN hbx _).setCell (p := ⟨w.heap.size, j, none⟩) (Nat.le_refl _) _
        · have HE := Lib.hid he
          have hd3 : (ix p k != ix p j) = true := by simpa using he
          have hd4 : (ix p k == ix p j) = false := by simpa using he
          by_cases hp : 0 < k
          · have hp0 : decide ((0 : Int) < (k : Int)) = true := by simpa using hp
            obtain ⟨b, hb1, hb2⟩ := HBO.out (k - 1) (by omega)
            rw [show k - 1 + 1 = k from by omega] at hb2
            have hq := rowCell hBx (i := k - 1) (by rw [HL.out]; omega)
            rw [hb1] at hq
            have HS := Lib.hid (HI.out.step hp he hb2)
            have hbk := hb2.1.1
            have i1 : ((k : Int) - 1).toNat = k - 1 := by omega
            have i2 : (0 : Int) ≤ (k : Int) - 1 := by omega
            have i3 : (k : Int) - 1 < (n : Int) := by omega
            clear he hb1 hb2
            go_wp2
            go_quiet (fail)
            all_goals
              go_wp2
              go_roundw
              case rel => exact ⟨b, rfl, by omega, HS.out, hBx.drewN _, below_drewN hbx _⟩
              case measure => simp [intOf]; omega
          · obtain rfl : k = 0 := by omega
            have HM := Lib.hid (HI.out.miss he hj1)
            clear he
            rw [Nat.add_zero] at ck
            go_wp2
            go_quiet (fail)
            all_goals
              go_wp2
              go_quiet (fail)
              all_goals
                go_wp2
                refine ⟨⟨j + 1, 0, out.set j (((0 : Nat) : Int)), by go_num, by go_num, by omega, by omega, ?_, by simp; exact HL.out, ?_, HM.out, ?_⟩, by simp [intOf]; omega⟩
                · exact rowSet (hBx.drewN _) j _
                · rw [Nat.min_eq_left (by omega)]; exact Bords.more HBO.out (by rw [HL.out]; exact hlt) HM.out
                · exact (below_drewN hbx _).setCell (p := ⟨w.heap.size, j, none⟩) (Nat.le_refl _) _
    · have hmin : min j n = n := by omega
      rw [hmin] at hbo
      have HL := Lib.hid hlen; have HBO := Lib.hid hbo
      clear hmin hlen hbo hmax
      go_wp2
      go_ret2
      exact ⟨_, _, out, rfl, ints_row hB, HL.out, HBO.out, hbel⟩

end Go.Proofs.Ytbgbcmfgncneiaa
