/- Contracts of word.walker.over, word.Next, Back, End. -/
import Derived.Test.YtbgbcmfgncneiaaWord
namespace Go.Proofs.Ytbgbcmfgncneiaa
open Go.RowKit
set_option linter.unusedVariables false
set_option linter.unusedSimpArgs false

def UpPost (l : List Int) (big : Bool) (k kind : Int) (w : World) (e : Ending) (w' : World) : Prop :=
  ∃ r : Int, e = .returned (.int .i64 r) ∧ OverUp l big k kind r ∧ r ≤ max k l.length ∧ Below w.heap.size w w'
def DownPost (l : List Int) (big : Bool) (k kind : Int) (w : World) (e : Ending) (w' : World) : Prop :=
  ∃ r : Int, e = .returned (.int .i64 r) ∧ OverDown l big k kind r ∧ min k (-1) ≤ r ∧ Below w.heap.size w w'

set_option maxRecDepth 100000 in
theorem word_overUp (a : Option Addr) (n c : Nat) (l : List Int) (big : Bool) (k kind : Int) (w : World) (hl : Ints w a l) (hn : l.length = n) (hn2 : n ≤ 4096) (hk0 : 0 ≤ k) (hk1 : k ≤ n + 1) (hkind : 0 ≤ kind) :
    Calls Try.prog 186 #[.agg #[.slice a n c, .bool big], .int .i64 k, .int .i64 1, .int .i64 kind] w (UpPost l big k kind w) := by
  have HN := Lib.hid hn; clear hn
  go_enter Try.func186, Try.ntmps186
  go_wp2
  go_loopw [1] (fun v wr => ∃ j : Int, v = .int .i64 j ∧ k ≤ j ∧ j ≤ max k n ∧ (∀ i, k ≤ i → i < j → kAt l big i = kind) ∧ Blk wr w.heap.size #[.slice a n c, .bool big] 238 ∧ Below w.heap.size w wr ∧ w.heap.size + 1 ≤ wr.heap.size) (fun v _ => (n + 1 - intOf v).toNat)
  case atStart => exact ⟨k, rfl, by omega, by omega, fun i h1 h2 => by omega, Blk.new _ _ _, below1 _ _, by simp⟩
  case round =>
    obtain ⟨j, rfl, hj0, hj1, hall, hB, hbel, hsz⟩ := hrel
    have HA := Lib.hid hall; clear hall
    obtain ⟨c0, c1, -, -⟩ := hB.two
    go_wp2_with fail
    refine (word_kind a n c l big j wr (hl.below hbel) HN.out (by omega)).mono ?_
    rintro e w1 ⟨rfl, hb1⟩
    by_cases hk : kAt l big j = kind
    · have hkb : (kAt l big j == kind) = true := by simpa using hk
      have hjn : j < n := by
        rcases Int.lt_or_le j n with h | h
        · exact h
        · rw [kAt_out (.inr (by rw [HN.out]; exact h))] at hk; omega
      have HK := Lib.hid hk; clear hk
      go_wp2
      go_roundw
      case rel => exact ⟨j + 1, rfl, by omega, by omega, fun i h1 h2 => by
        rcases Int.lt_or_le i j with h | h
        · exact HA.out i h1 h
        · rw [show i = j from by omega]; exact HK.out, hB.below hb1 (by omega), below_then hbel hbel.size hb1, by have := hb1.size; omega⟩
      case measure => simp [intOf]; omega
    · have hkb : (kAt l big j == kind) = false := by simpa using hk
      have HK := Lib.hid hk; clear hk
      go_wp2
      go_ret
      exact ⟨j, rfl, ⟨hj0, HA.out, HK.out⟩, by rw [HN.out]; omega, below_then hbel hbel.size hb1⟩

set_option maxRecDepth 100000 in
theorem word_overDown (a : Option Addr) (n c : Nat) (l : List Int) (big : Bool) (k kind : Int) (w : World) (hl : Ints w a l) (hn : l.length = n) (hn2 : n ≤ 4096) (hk0 : -1 ≤ k) (hk1 : k ≤ n) (hkind : 0 ≤ kind) :
    Calls Try.prog 186 #[.agg #[.slice a n c, .bool big], .int .i64 k, .int .i64 (-1), .int .i64 kind] w (DownPost l big k kind w) := by
  have HN := Lib.hid hn; clear hn
  go_enter Try.func186, Try.ntmps186
  go_wp2
  go_loopw [1] (fun v wr => ∃ j : Int, v = .int .i64 j ∧ j ≤ k ∧ -1 ≤ j ∧ (∀ i, j < i → i ≤ k → kAt l big i = kind) ∧ Blk wr w.heap.size #[.slice a n c, .bool big] 238 ∧ Below w.heap.size w wr ∧ w.heap.size + 1 ≤ wr.heap.size) (fun v _ => (intOf v + 1).toNat)
  case atStart => exact ⟨k, rfl, by omega, by omega, fun i h1 h2 => by omega, Blk.new _ _ _, below1 _ _, by simp⟩
  case round =>
    obtain ⟨j, rfl, hj0, hj1, hall, hB, hbel, hsz⟩ := hrel
    have HA := Lib.hid hall; clear hall
    obtain ⟨c0, c1, -, -⟩ := hB.two
    go_wp2_with fail
    refine (word_kind a n c l big j wr (hl.below hbel) HN.out (by omega)).mono ?_
    rintro e w1 ⟨rfl, hb1⟩
    by_cases hk : kAt l big j = kind
    · have hkb : (kAt l big j == kind) = true := by simpa using hk
      have hjn : 0 ≤ j := by
        rcases Int.lt_or_le j 0 with h | h
        · rw [kAt_out (.inl h)] at hk; omega
        · exact h
      have HK := Lib.hid hk; clear hk
      go_wp2
      go_roundw
      case rel => exact ⟨j + -1, rfl, by omega, by omega, fun i h1 h2 => by
        rcases Int.lt_or_le j i with h | h
        · exact HA.out i h h2
        · rw [show i = j from by omega]; exact HK.out, hB.below hb1 (by omega), below_then hbel hbel.size hb1, by have := hb1.size; omega⟩
      case measure => simp [intOf]; omega
    · have hkb : (kAt l big j == kind) = false := by simpa using hk
      have HK := Lib.hid hk; clear hk
      go_wp2
      go_ret
      exact ⟨j, rfl, ⟨hj0, HA.out, HK.out⟩, by omega, below_then hbel hbel.size hb1⟩

def wordErr (n : Nat) (k : Int) : Int := if 4096 < n then 2 else if k < 0 ∨ (n : Int) < k then 1 else 0

theorem word_right (a : Option Addr) (n c : Nat) (k : Int) (w : World) :
    Calls Try.prog 185 #[.slice a n c, .int .i64 k] w fun e w' => e = .returned (.int .i64 (wordErr n k)) ∧ w = w' := by
  go_enter Try.func185, Try.ntmps185
  go_wp2
  all_goals (go_ret; refine ⟨ret1_int ?_, rfl⟩; unfold wordErr; (repeat' split) <;> first | rfl | omega)

end Go.Proofs.Ytbgbcmfgncneiaa
