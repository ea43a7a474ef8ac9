/- Contract of object.quotes. -/
import Derived.Test.YtbgbcmfgncneiaaObj4
namespace Go.Proofs.Ytbgbcmfgncneiaa
open Go.RowKit
set_option linter.unusedVariables false
set_option linter.unusedSimpArgs false

/-- the quote that waits for its partner ahead of place i; -1: none -/
def quoteS (l : List Int) (q : Int) : Nat → Int
  | 0 => -1
  | i + 1 => if ix l i ≠ q then quoteS l q i else if quoteS l q i < 0 then (i : Int) else -1
theorem quoteS_range (l : List Int) (q : Int) (i : Nat) : -1 ≤ quoteS l q i ∧ quoteS l q i < i := by
  induction i with
  | zero => simp [quoteS]
  | succ i ih =>
    simp only [quoteS]
    repeat' split
    all_goals omega
def QFound (l : List Int) (k : Nat) (q : Int) (i : Nat) : Prop := ix l i = q ∧ 0 ≤ quoteS l q i ∧ k ≤ i

def QuotesPost (l : List Int) (k : Nat) (around : Bool) (q : Int) (w : World) (e : Ending) (w' : World) : Prop :=
  ((∃ i, i < l.length ∧ QFound l k q i ∧ (∀ j, j < i → ¬ QFound l k q j) ∧
      e = .returned (.tuple #[.agg #[.int .i64 (if around = true then quoteS l q i else quoteS l q i + 1), .int .i64 (if around = true then (i : Int) + 1 else (i : Int))], .int .i64 0])) ∨
   ((∀ i, i < l.length → ¬ QFound l k q i) ∧ e = .returned (.tuple #[.agg #[.int .i64 0, .int .i64 0], .int .i64 6]))) ∧ Below w.heap.size w w'

set_option maxRecDepth 100000 in
set_option maxHeartbeats 1000000 in
theorem object_quotes (a : Option Addr) (n c : Nat) (l : List Int) (k : Nat) (around : Bool) (q : Int) (w : World) (ha : Ints w a l) (hn : l.length = n) (h2 : n ≤ 4096) (hk : k ≤ 4096) :
    Calls Try.prog 116 #[.slice a n c, .int .i64 (k : Int), .bool around, .int .i64 q] w (QuotesPost l k around q w) := by
  have HN := Lib.hid hn; clear hn
  have hA := Blk.new w #[.int .i64 0, .int .i64 0] 167
  have hb := below1 w (.cells #[.int .i64 0, .int .i64 0] 167)
  go_enter Try.func116, Try.ntmps116
  go_wp2
  generalize w.alloc (.cells #[.int .i64 0, .int .i64 0] 167) = w1 at *
  have ha1 := ha.below hb
  obtain ⟨d0, d1, f0, f1⟩ := hA.two
  go_loopw [15, 10] (fun v u wr => ∃ i : Nat, v = .int .i64 (i : Int) ∧ u = .int .i64 (quoteS l q i) ∧ i ≤ n ∧ (∀ j, j < i → ¬ QFound l k q j) ∧ w1 = wr) (fun v _ _ => n - (intOf v).toNat)
  case atStart => exact ⟨0, rfl, rfl, by omega, fun j hj => by omega, rfl⟩
  case round =>
    obtain ⟨i, rfl, rfl, hi, hno, rfl⟩ := hrel
    have HNO := Lib.hid hno
    clear hno
    obtain ⟨hp0, hp1⟩ := quoteS_range l q i
    have HQ := Lib.hid (show quoteS l q (i + 1) = if ix l i ≠ q then quoteS l q i else if quoteS l q i < 0 then (i : Int) else -1 from rfl)
    obtain ⟨p, hp⟩ : ∃ p, quoteS l q i = p := ⟨_, rfl⟩
    have HP := Lib.hid hp
    rw [hp] at hp0 hp1 ⊢
    clear hp
    by_cases hlt : i < n
    · obtain ⟨b1, o1, rfl, hc0⟩ := ha1.at (k := i) (by rw [HN.out]; exact hlt)
      have ck := hc0 i (by rw [HN.out]; exact hlt)
      have ii : (i : Int) < (n : Int) := by omega
      clear hc0
      by_cases hq : ix l i = q
      · have g1 : (ix l i != q) = false := by simpa using hq
        by_cases hpn : p < 0
        · have HQ2 := Lib.hid (show quoteS l q (i + 1) = (i : Int) by rw [HQ.out, if_neg (by simpa using hq), if_pos (by rw [HP.out]; exact hpn)])
          have HNF := Lib.hid (show ¬ QFound l k q i from fun h => by have := h.2.1; rw [HP.out] at this; omega)
          clear hq
          go_wp2
          go_roundw
          case rel =>
            refine ⟨i + 1, by go_num, by rw [HQ2.out], by omega, ?_, by first | rfl | trivial⟩
            intro j hj
            rcases Nat.lt_succ_iff_lt_or_eq.1 hj with h | rfl
            · exact HNO.out j h
            · exact HNF.out
          case measure => simp [intOf]; omega
        · by_cases hik : i < k
          · have HQ2 := Lib.hid (show quoteS l q (i + 1) = -1 by rw [HQ.out, if_neg (by simpa using hq), if_neg (by rw [HP.out]; exact hpn)])
            have HNF := Lib.hid (show ¬ QFound l k q i from fun h => by have := h.2.2; omega)
            have i2 : (i : Int) < (k : Int) := by omega
            clear hq
            go_wp2
            go_roundw
            case rel =>
              refine ⟨i + 1, by go_num, by rw [HQ2.out], by omega, ?_, by first | rfl | trivial⟩
              intro j hj
              rcases Nat.lt_succ_iff_lt_or_eq.1 hj with h | rfl
              · exact HNO.out j h
              · exact HNF.out
            case measure => simp [intOf]; omega
          · have HF := Lib.hid (show QFound l k q i from ⟨hq, by rw [HP.out]; omega, by omega⟩)
            have i2 : ¬ (i : Int) < (k : Int) := by omega
            clear hq
            rcases around with _ | _
            · go_wp2
              obtain ⟨z0, z1, -, -⟩ := Blk.two ((hA.set 0 (.int .i64 (p + 1))).set 1 (.int .i64 (i : Int)))
              refine bodyPost_ret (v := .tuple #[.agg #[.int .i64 (p + 1), .int .i64 (i : Int)], .int .i64 0]) (by simp [results, Try.results116, go_sem, z0, z1]) rfl ?_
              exact ⟨.inl ⟨i, by rw [HN.out]; exact hlt, HF.out, HNO.out, by rw [HP.out]; rfl⟩, (hb.setCell (p := ⟨w.heap.size, 0, none⟩) (Nat.le_refl _) _).setCell (p := ⟨w.heap.size, 1, none⟩) (Nat.le_refl _) _⟩
            · go_wp2
              obtain ⟨z0, z1, -, -⟩ := Blk.two ((hA.set 0 (.int .i64 p)).set 1 (.int .i64 ((i : Int) + 1)))
              refine bodyPost_ret (v := .tuple #[.agg #[.int .i64 p, .int .i64 ((i : Int) + 1)], .int .i64 0]) (by simp [results, Try.results116, go_sem, z0, z1]) rfl ?_
              exact ⟨.inl ⟨i, by rw [HN.out]; exact hlt, HF.out, HNO.out, by rw [HP.out]; rfl⟩, (hb.setCell (p := ⟨w.heap.size, 0, none⟩) (Nat.le_refl _) _).setCell (p := ⟨w.heap.size, 1, none⟩) (Nat.le_refl _) _⟩
      · have g1 : (ix l i != q) = true := by simpa using hq
        have HQ2 := Lib.hid (show quoteS l q (i + 1) = p by rw [HQ.out, if_pos hq, HP.out])
        have HNF := Lib.hid (show ¬ QFound l k q i from fun h => hq h.1)
        clear hq
        go_wp2
        go_roundw
        case rel =>
          refine ⟨i + 1, by go_num, by rw [HQ2.out], by omega, ?_, by first | rfl | trivial⟩
          intro j hj
          rcases Nat.lt_succ_iff_lt_or_eq.1 hj with h | rfl
          · exact HNO.out j h
          · exact HNF.out
        case measure => simp [intOf]; omega
    · go_wp2
      obtain ⟨z0, z1, -, -⟩ := Blk.two ((hA.set 0 (.int .i64 0)).set 1 (.int .i64 0))
      refine bodyPost_ret (v := .tuple #[.agg #[.int .i64 0, .int .i64 0], .int .i64 6]) (by simp [results, Try.results116, go_sem, z0, z1]) rfl ?_
      exact ⟨.inr ⟨fun j hj => HNO.out j (by rw [HN.out] at hj; omega), rfl⟩, (hb.setCell (p := ⟨w.heap.size, 0, none⟩) (Nat.le_refl _) _).setCell (p := ⟨w.heap.size, 1, none⟩) (Nat.le_refl _) _⟩

end Go.Proofs.Ytbgbcmfgncneiaa
