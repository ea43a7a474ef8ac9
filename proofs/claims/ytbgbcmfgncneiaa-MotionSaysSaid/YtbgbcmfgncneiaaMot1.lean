/- Contracts of motion.known, Check, and of goer's times, right, first, find. -/
import Derived.Test.YtbgbcmfgncneiaaMotS
import Derived.Deep.RegionHeld3
import Derived.Deep.DeepCutAuto
import Derived.Deep.CutBlock
namespace Go.Proofs.Ytbgbcmfgncneiaa
open Go.RowKit
set_option linter.unusedVariables false
set_option linter.unusedSimpArgs false

def findS (key : Int) : Bool := [102, 70, 116, 84].contains key
theorem key_ways (key : Int) : key = 104 ∨ key = 108 ∨ key = 48 ∨ key = 94 ∨ key = 36 ∨ key = 124 ∨ key = 119 ∨ key = 87 ∨ key = 98 ∨ key = 66 ∨ key = 101 ∨ key = 69 ∨ key = 37 ∨ key = 102 ∨ key = 70 ∨ key = 116 ∨ key = 84 ∨ knownS key = false := by
  cases h : knownS key
  · simp
  · simp [knownS] at h
    omega
theorem key_none {key : Int} (h : knownS key = false) : (key == 104) = false ∧ (key == 108) = false ∧ (key == 48) = false ∧ (key == 94) = false ∧ (key == 36) = false ∧ (key == 124) = false ∧ (key == 119) = false ∧ (key == 87) = false ∧ (key == 98) = false ∧ (key == 66) = false ∧ (key == 101) = false ∧ (key == 69) = false ∧ (key == 37) = false ∧ (key == 102) = false ∧ (key == 70) = false ∧ (key == 116) = false ∧ (key == 84) = false := by
  simp [knownS] at h
  simp
  omega
theorem find_none {key : Int} (h : knownS key = false) : findS key = false := by
  simp [knownS] at h
  simp [findS]
  omega

set_option maxRecDepth 100000 in
theorem motion_known (key : Int) (w : World) :
    Calls Try.prog 143 #[.int .i64 key] w fun e w' => e = .returned (.tuple #[.bool (knownS key), .bool (findS key)]) ∧ w = w' := by
  rcases key_ways key with rfl | rfl | rfl | rfl | rfl | rfl | rfl | rfl | rfl | rfl | rfl | rfl | rfl | rfl | rfl | rfl | rfl | h
  case inr.inr.inr.inr.inr.inr.inr.inr.inr.inr.inr.inr.inr.inr.inr.inr.inr =>
    obtain ⟨h1, h2, h3, h4, h5, h6, h7, h8, h9, h10, h11, h12, h13, h14, h15, h16, h17⟩ := key_none h
    have HF := Lib.hid (find_none h); have HK := Lib.hid h
    clear h
    go_enter Try.func143, Try.ntmps143
    go_wp2
    go_ret2
    exact ⟨by rw [HF.out, HK.out]; rfl, rfl⟩
  all_goals
    go_enter Try.func143, Try.ntmps143
    go_wp2
    go_ret2
    exact ⟨rfl, rfl⟩

/-- a move -/
def mvV (key count arg : Int) : Value := .agg #[.int .i64 key, .int .i64 count, .int .i64 arg]
theorem moveE_ways (l : List Int) (k key count : Int) : (4096 < l.length ∧ moveE l k key count = 2) ∨ (l.length ≤ 4096 ∧ ((k < 0 ∨ (0 ≤ k ∧ max 0 ((l.length : Int) - 1) < k)) ∨ (0 ≤ k ∧ k ≤ max 0 ((l.length : Int) - 1) ∧ (count < 0 ∨ 999 < count))) ∧ moveE l k key count = 1)
    ∨ (l.length ≤ 4096 ∧ 0 ≤ k ∧ k ≤ max 0 ((l.length : Int) - 1) ∧ 0 ≤ count ∧ count ≤ 999 ∧ moveE l k key count = if knownS key then 0 else 9) := by
  unfold moveE
  by_cases h1 : 4096 < l.length
  · left; rw [if_pos h1]; exact ⟨h1, rfl⟩
  · rw [if_neg h1]
    right
    by_cases h2 : k < 0 ∨ (0 < k ∧ (l.length : Int) ≤ k) ∨ count < 0 ∨ 999 < count
    · left; rw [if_pos h2]; exact ⟨by omega, by omega, rfl⟩
    · right; rw [if_neg h2]; exact ⟨by omega, by omega, by omega, by omega, by omega, rfl⟩

set_option maxRecDepth 100000 in
set_option maxHeartbeats 1000000 in
theorem motion_check (a : Option Addr) (n c : Nat) (l : List Int) (k key count arg : Int) (w : World) (hn : l.length = n) (hn2 : n ≤ 9223372036854775807) (hk : InR k) :
    Calls Try.prog 81 #[.slice a n c, .int .i64 k, mvV key count arg] w fun e w' => e = .returned (.int .i64 (moveE l k key count)) ∧ Below w.heap.size w w' := by
  unfold mvV
  obtain ⟨hk1, hk2⟩ := hk
  have hB := Blk.new w #[.int .i64 key, .int .i64 count, .int .i64 arg] 116
  obtain ⟨c0, c1, c2, -, -, -⟩ := hB.three
  have hacc := below1 w (.cells #[.int .i64 key, .int .i64 count, .int .i64 arg] 116)
  rcases moveE_ways l k key count with ⟨h1, h2⟩ | ⟨h1, h2, h3⟩ | ⟨h1, h2, h3, h4, h5, h6⟩
  · rw [h2]
    rw [hn] at h1
    clear h2 hn
    go_enter Try.func81, Try.ntmps81
    go_wp2
    go_ret
    exact ⟨rfl, hacc⟩
  · rw [h3]
    rw [hn] at h1 h2
    clear h3 hn
    rcases h2 with (h | ⟨h, h'⟩) | ⟨h, h', h'' | h''⟩
    all_goals
      go_enter Try.func81, Try.ntmps81
      go_wp2
      all_goals
        go_ret
        exact ⟨rfl, hacc⟩
  · rw [h6]
    rw [hn] at h1 h3
    clear h6 hn
    cases hK : knownS key
    · have HK := Lib.hid hK; clear hK
      go_enter Try.func81, Try.ntmps81
      go_wp2_with ((go_at_call 143); refine (motion_known _ _).mono ?_; rintro e w' ⟨rfl, rfl⟩; rw [HK.out])
      all_goals
        go_ret
        exact ⟨rfl, hacc⟩
    · have HK := Lib.hid hK; clear hK
      go_enter Try.func81, Try.ntmps81
      go_wp2_with ((go_at_call 143); refine (motion_known _ _).mono ?_; rintro e w' ⟨rfl, rfl⟩; rw [HK.out])
      all_goals
        go_ret
        exact ⟨rfl, hacc⟩

/-- the goer -/
def goV (a : Option Addr) (n c : Nat) (k : Nat) (m : Int) (op : Bool) : Value := .agg #[.slice a n c, .int .i64 (k : Int), .int .i64 m, .bool op]
theorem Blk.four {w : World} {B : Nat} {u0 u1 u2 u3 : Value} {e : TypeId} (h : Blk w B #[u0, u1, u2, u3] e) : w.cell? ⟨B, 0, none⟩ = some u0 ∧ w.cell? ⟨B, 1, none⟩ = some u1 ∧ w.cell? ⟨B, 2, none⟩ = some u2 ∧ w.cell? ⟨B, 3, none⟩ = some u3 := ⟨h.cell 0, h.cell 1, h.cell 2, h.cell 3⟩
def GotI (v : Int) (w : World) (e : Ending) (w' : World) : Prop := e = .returned (.int .i64 v) ∧ Below w.heap.size w w'

theorem word_next_f (a : Option Addr) (n c : Nat) (l : List Int) (big : Bool) (k : Int) (w : World) (hl : Ints w a l) (hn : l.length = n) (hn2 : n ≤ 4096) (hk0 : 0 ≤ k) (hk1 : k ≤ n) :
    Calls Try.prog 188 #[.slice a n c, .int .i64 k, .bool big] w fun e w' => e = .returned (.tuple #[.int .i64 (nextF l big k), .int .i64 0]) ∧ Below w.heap.size w w' :=
  (word_next_ok a n c l big k w hl hn hn2 hk0 hk1).mono fun e w' ⟨r, h1, h2, h3⟩ => by
    obtain rfl := next_same hk0 (by omega) h2 (nextF_ref l big k hk0 (by omega))
    exact ⟨h1, h3⟩
theorem word_back_f (a : Option Addr) (n c : Nat) (l : List Int) (big : Bool) (k : Int) (w : World) (hl : Ints w a l) (hn : l.length = n) (hn2 : n ≤ 4096) (hk0 : 0 ≤ k) (hk1 : k ≤ n) :
    Calls Try.prog 173 #[.slice a n c, .int .i64 k, .bool big] w fun e w' => e = .returned (.tuple #[.int .i64 (backF l big k), .int .i64 0]) ∧ Below w.heap.size w w' :=
  (word_back_ok a n c l big k w hl hn hn2 hk0 hk1).mono fun e w' ⟨r, h1, h2, h3⟩ => by
    obtain rfl := back_same hk0 (by omega) h2 (backF_ref l big k hk0)
    exact ⟨h1, h3⟩
theorem word_end_f (a : Option Addr) (n c : Nat) (l : List Int) (big : Bool) (k : Int) (w : World) (hl : Ints w a l) (hn : l.length = n) (hn2 : n ≤ 4096) (hk0 : 0 ≤ k) (hk1 : k ≤ n) :
    Calls Try.prog 189 #[.slice a n c, .int .i64 k, .bool big] w fun e w' => e = .returned (.tuple #[.int .i64 (endF l big k), .int .i64 0]) ∧ Below w.heap.size w w' :=
  (word_end_ok a n c l big k w hl hn hn2 hk0 hk1).mono fun e w' ⟨r, h1, h2, h3⟩ => by
    obtain rfl := end_same hk0 (by omega) h2 (endF_ref l big k hk0)
    exact ⟨h1, h3⟩

set_option maxRecDepth 100000 in
set_option maxHeartbeats 1000000 in
theorem goer_times_next (a : Option Addr) (n c : Nat) (l : List Int) (k : Nat) (m : Nat) (op big : Bool) (w : World) (hl : Ints w a l) (hn : l.length = n) (hn2 : n ≤ 4096) (hk : k ≤ n) (hm : m ≤ 1000) :
    Calls Try.prog 172 #[goV a n c k (m : Int) op, .func (.func 188) #[] #[], .bool big] w (GotI (iterF (nextF l big) m k) w) := by
  unfold goV
  have HB := Lib.hid (fun j => iterF_bd (f := nextF l big) (lo := 0) (hi := (n : Int)) (fun x h0 h1 => by rw [← hn]; exact nextF_bd l big x h0 (by omega)) (k := (k : Int)) (by omega) (by omega) j)
  have HN := Lib.hid hn
  clear hn
  have hB := Blk.new w #[.slice a n c, .int .i64 (k : Int), .int .i64 (m : Int), .bool op] 202
  obtain ⟨c0, c1, c2, c3⟩ := hB.four
  have hacc := below1 w (.cells #[.slice a n c, .int .i64 (k : Int), .int .i64 (m : Int), .bool op] 202)
  have hsz : w.heap.size < (w.alloc (.cells #[.slice a n c, .int .i64 (k : Int), .int .i64 (m : Int), .bool op] 202)).heap.size := by simp
  go_enter Try.func172, Try.ntmps172
  go_upto_region 1 with fail
  change Code.wp _ _ _ _ (w.alloc (.cells #[.slice a n c, .int .i64 (k : Int), .int .i64 (m : Int), .bool op] 202))
  generalize (w.alloc (.cells #[.slice a n c, .int .i64 (k : Int), .int .i64 (m : Int), .bool op] 202)) = w1 at *
  go_wp2
  go_loopw [7, 12] (fun v i wr => ∃ j : Nat, i = .int .i64 (j : Int) ∧ j ≤ m ∧ v = .int .i64 (iterF (nextF l big) j (k : Int)) ∧ Blk wr w.heap.size #[.slice a n c, .int .i64 (k : Int), .int .i64 (m : Int), .bool op] 202 ∧ Below w.heap.size w wr) (fun _ i _ => m - (intOf i).toNat)
  case atStart => exact ⟨0, rfl, by omega, rfl, hB, hacc⟩
  case round =>
    obtain ⟨j, rfl, hj, rfl, hB2, hbel⟩ := hrel
    obtain ⟨d0, d1, d2, d3⟩ := hB2.four
    obtain ⟨g0, g1⟩ := HB.out j
    by_cases hlt : j < m
    · clear c0 c1 c2 c3
      go_wp2_with fail
      refine (word_next_f a n c l big _ _ (hl.below hbel) HN.out hn2 g0 g1).mono ?_
      rintro e w2 ⟨rfl, hb2⟩
      have hb3 := below_then hbel (Nat.le_of_lt hB2.lt) hb2
      have hB3 := hB2.below hb2 hB2.lt
      go_wp2
      go_roundw
      case rel => exact ⟨j + 1, by go_num, by omega, rfl, hB3, hb3⟩
      case measure => simp [intOf]; omega
    · obtain rfl : j = m := by omega
      go_wp2
      go_ret
      exact ⟨rfl, hbel⟩

set_option maxRecDepth 100000 in
set_option maxHeartbeats 1000000 in
theorem goer_times_back (a : Option Addr) (n c : Nat) (l : List Int) (k : Nat) (m : Nat) (op big : Bool) (w : World) (hl : Ints w a l) (hn : l.length = n) (hn2 : n ≤ 4096) (hk : k ≤ n) (hm : m ≤ 1000) :
    Calls Try.prog 172 #[goV a n c k (m : Int) op, .func (.func 173) #[] #[], .bool big] w (GotI (iterF (backF l big) m k) w) := by
  unfold goV
  have HB := Lib.hid (fun j => iterF_bd (f := backF l big) (lo := 0) (hi := (n : Int)) (fun x h0 h1 => by rw [← hn]; exact backF_bd l big x h0 (by omega)) (k := (k : Int)) (by omega) (by omega) j)
  have HN := Lib.hid hn
  clear hn
  have hB := Blk.new w #[.slice a n c, .int .i64 (k : Int), .int .i64 (m : Int), .bool op] 202
  obtain ⟨c0, c1, c2, c3⟩ := hB.four
  have hacc := below1 w (.cells #[.slice a n c, .int .i64 (k : Int), .int .i64 (m : Int), .bool op] 202)
  have hsz : w.heap.size < (w.alloc (.cells #[.slice a n c, .int .i64 (k : Int), .int .i64 (m : Int), .bool op] 202)).heap.size := by simp
  go_enter Try.func172, Try.ntmps172
  go_upto_region 1 with fail
  change Code.wp _ _ _ _ (w.alloc (.cells #[.slice a n c, .int .i64 (k : Int), .int .i64 (m : Int), .bool op] 202))
  generalize (w.alloc (.cells #[.slice a n c, .int .i64 (k : Int), .int .i64 (m : Int), .bool op] 202)) = w1 at *
  go_wp2
  go_loopw [7, 12] (fun v i wr => ∃ j : Nat, i = .int .i64 (j : Int) ∧ j ≤ m ∧ v = .int .i64 (iterF (backF l big) j (k : Int)) ∧ Blk wr w.heap.size #[.slice a n c, .int .i64 (k : Int), .int .i64 (m : Int), .bool op] 202 ∧ Below w.heap.size w wr) (fun _ i _ => m - (intOf i).toNat)
  case atStart => exact ⟨0, rfl, by omega, rfl, hB, hacc⟩
  case round =>
    obtain ⟨j, rfl, hj, rfl, hB2, hbel⟩ := hrel
    obtain ⟨d0, d1, d2, d3⟩ := hB2.four
    obtain ⟨g0, g1⟩ := HB.out j
    by_cases hlt : j < m
    · clear c0 c1 c2 c3
      go_wp2_with fail
      refine (word_back_f a n c l big _ _ (hl.below hbel) HN.out hn2 g0 g1).mono ?_
      rintro e w2 ⟨rfl, hb2⟩
      have hb3 := below_then hbel (Nat.le_of_lt hB2.lt) hb2
      have hB3 := hB2.below hb2 hB2.lt
      go_wp2
      go_roundw
      case rel => exact ⟨j + 1, by go_num, by omega, rfl, hB3, hb3⟩
      case measure => simp [intOf]; omega
    · obtain rfl : j = m := by omega
      go_wp2
      go_ret
      exact ⟨rfl, hbel⟩

set_option maxRecDepth 100000 in
set_option maxHeartbeats 1000000 in
theorem goer_times_end (a : Option Addr) (n c : Nat) (l : List Int) (k : Nat) (m : Nat) (op big : Bool) (w : World) (hl : Ints w a l) (hn : l.length = n) (hn2 : n ≤ 4096) (hk : k ≤ n) (hm : m ≤ 1000) :
    Calls Try.prog 172 #[goV a n c k (m : Int) op, .func (.func 189) #[] #[], .bool big] w (GotI (iterF (endF l big) m k) w) := by
  unfold goV
  have HB := Lib.hid (fun j => iterF_bd (f := endF l big) (lo := 0) (hi := (n : Int)) (fun x h0 h1 => by rw [← hn]; exact endF_bd l big x h0 (by omega)) (k := (k : Int)) (by omega) (by omega) j)
  have HN := Lib.hid hn
  clear hn
  have hB := Blk.new w #[.slice a n c, .int .i64 (k : Int), .int .i64 (m : Int), .bool op] 202
  obtain ⟨c0, c1, c2, c3⟩ := hB.four
  have hacc := below1 w (.cells #[.slice a n c, .int .i64 (k : Int), .int .i64 (m : Int), .bool op] 202)
  have hsz : w.heap.size < (w.alloc (.cells #[.slice a n c, .int .i64 (k : Int), .int .i64 (m : Int), .bool op] 202)).heap.size := by simp
  go_enter Try.func172, Try.ntmps172
  go_upto_region 1 with fail
  change Code.wp _ _ _ _ (w.alloc (.cells #[.slice a n c, .int .i64 (k : Int), .int .i64 (m : Int), .bool op] 202))
  generalize (w.alloc (.cells #[.slice a n c, .int .i64 (k : Int), .int .i64 (m : Int), .bool op] 202)) = w1 at *
  go_wp2
  go_loopw [7, 12] (fun v i wr => ∃ j : Nat, i = .int .i64 (j : Int) ∧ j ≤ m ∧ v = .int .i64 (iterF (endF l big) j (k : Int)) ∧ Blk wr w.heap.size #[.slice a n c, .int .i64 (k : Int), .int .i64 (m : Int), .bool op] 202 ∧ Below w.heap.size w wr) (fun _ i _ => m - (intOf i).toNat)
  case atStart => exact ⟨0, rfl, by omega, rfl, hB, hacc⟩
  case round =>
    obtain ⟨j, rfl, hj, rfl, hB2, hbel⟩ := hrel
    obtain ⟨d0, d1, d2, d3⟩ := hB2.four
    obtain ⟨g0, g1⟩ := HB.out j
    by_cases hlt : j < m
    · clear c0 c1 c2 c3
      go_wp2_with fail
      refine (word_end_f a n c l big _ _ (hl.below hbel) HN.out hn2 g0 g1).mono ?_
      rintro e w2 ⟨rfl, hb2⟩
      have hb3 := below_then hbel (Nat.le_of_lt hB2.lt) hb2
      have hB3 := hB2.below hb2 hB2.lt
      go_wp2
      go_roundw
      case rel => exact ⟨j + 1, by go_num, by omega, rfl, hB3, hb3⟩
      case measure => simp [intOf]; omega
    · obtain rfl : j = m := by omega
      go_wp2
      go_ret
      exact ⟨rfl, hbel⟩

end Go.Proofs.Ytbgbcmfgncneiaa
