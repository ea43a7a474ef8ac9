/- Contracts of the closures of fairref.Go and of fairref.times with them. -/
import Derived.Test.YtbgbcmfgncneiaaMot6
namespace Go.Proofs.Ytbgbcmfgncneiaa
open Go.RowKit
set_option linter.unusedVariables false
set_option linter.unusedSimpArgs false


theorem ref_back_f (a : Option Addr) (n c : Nat) (l : List Int) (big : Bool) (k : Int) (w : World) (hl : Ints w a l) (hn : l.length = n) (hn2 : n ≤ 4096) (hk0 : 0 ≤ k) (hk1 : k ≤ n) :
    Calls Try.prog 148 #[.slice a n c, .int .i64 k, .bool big] w fun e w' => e = .returned (.int .i64 (backF l big k)) ∧ w = w' :=
  (ref_back a n c l big k w hl hn hn2 hk0 hk1).mono fun e w' ⟨r, h1, h2, h3⟩ => by
    obtain rfl := refBack_one h2 (backF_ref l big k hk0) hk0
    exact ⟨h1, h3⟩

set_option maxRecDepth 100000 in
theorem ref_back_clos (a : Option Addr) (n c : Nat) (l : List Int) (big : Bool) (k key : Int) (B4 B6 : Nat) (w : World) (hl : Ints w a l) (hn : l.length = n) (hn2 : n ≤ 4096) (hk0 : 0 ≤ k) (hk1 : k ≤ n) (hb : (key == 66) = big)
    (c4 : w.cell? ⟨B4, 0, none⟩ = some (.slice a n c)) (c6 : w.cell? ⟨B6, 0, none⟩ = some (.int .i64 key)) :
    Calls Try.prog 147 #[.int .i64 k, .pointer (some ⟨B4, 0, none⟩), .pointer (some ⟨B6, 0, none⟩)] w fun e w' => e = .returned (.int .i64 (backF l big k)) ∧ w = w' := by
  have HN := Lib.hid hn
  clear hn
  cases big
  all_goals
    go_enter Try.func147, Try.ntmps147
    go_wp2_with ((go_at_call 148); refine (ref_back_f a n c l _ k _ hl HN.out hn2 hk0 hk1).mono ?_; rintro e w' ⟨rfl, rfl⟩)
    go_ret
    exact ⟨rfl, rfl⟩

set_option maxRecDepth 100000 in
set_option maxHeartbeats 1000000 in
theorem ref_times_back (a : Option Addr) (n c : Nat) (l : List Int) (big : Bool) (m k : Nat) (key : Int) (B4 B6 : Nat) (w : World) (hl : Ints w a l) (hn : l.length = n) (hn2 : n ≤ 4096) (hk : k ≤ n) (hm : m ≤ 1000) (hb : (key == 66) = big)
    (c4 : w.cell? ⟨B4, 0, none⟩ = some (.slice a n c)) (c6 : w.cell? ⟨B6, 0, none⟩ = some (.int .i64 key)) :
    Calls Try.prog 146 #[.int .i64 (m : Int), .int .i64 (k : Int), .func (.func 147) #[] #[.pointer (some ⟨B4, 0, none⟩), .pointer (some ⟨B6, 0, none⟩)]] w fun e w' => e = .returned (.int .i64 (iterF (backF l big) m k)) ∧ w = w' := by
  have HB := Lib.hid (fun j => iterF_bd (f := backF l big) (lo := 0) (hi := (n : Int)) (fun x h0 h1 => by rw [← hn]; exact backF_bd l big x h0 (by omega)) (k := (k : Int)) (by omega) (by omega) j)
  have HN := Lib.hid hn
  have HBB := Lib.hid hb
  clear hn hb
  go_enter Try.func146, Try.ntmps146
  go_wp2
  go_loop [1, 8] (fun v i => ∃ j : Nat, i = .int .i64 (j : Int) ∧ j ≤ m ∧ v = .int .i64 (iterF (backF l big) j (k : Int))) (fun _ i => m - (intOf i).toNat)
  case atStart => exact ⟨0, rfl, by omega, rfl⟩
  case round =>
    obtain ⟨j, rfl, hj, rfl⟩ := hrel
    obtain ⟨g0, g1⟩ := HB.out j
    by_cases hlt : j < m
    · go_wp2_with fail
      refine (ref_back_clos a n c l big _ key B4 B6 _ hl HN.out hn2 g0 g1 HBB.out c4 c6).mono ?_
      rintro e w2 ⟨rfl, rfl⟩
      go_wp2
      go_round
      case rel => exact ⟨j + 1, by go_num, by omega, rfl⟩
      case measure => simp [intOf]; omega
    · obtain rfl : j = m := by omega
      go_wp2
      go_ret
      exact ⟨rfl, rfl⟩

theorem ref_next_f (a : Option Addr) (n c : Nat) (l : List Int) (big : Bool) (k : Int) (w : World) (hl : Ints w a l) (hn : l.length = n) (hn2 : n ≤ 4096) (hk0 : 0 ≤ k) (hk1 : k ≤ n) :
    Calls Try.prog 150 #[.slice a n c, .int .i64 k, .bool big] w fun e w' => e = .returned (.int .i64 (nextF l big k)) ∧ w = w' :=
  (ref_next a n c l big k w hl hn hn2 hk0 hk1).mono fun e w' ⟨r, h1, h2, h3⟩ => by
    obtain rfl := refNext_one h2 (nextF_ref l big k hk0 (by omega)) (by omega)
    exact ⟨h1, h3⟩

set_option maxRecDepth 100000 in
theorem ref_next_clos (a : Option Addr) (n c : Nat) (l : List Int) (big : Bool) (k key : Int) (B4 B6 : Nat) (w : World) (hl : Ints w a l) (hn : l.length = n) (hn2 : n ≤ 4096) (hk0 : 0 ≤ k) (hk1 : k ≤ n) (hb : (key == 87) = big)
    (c4 : w.cell? ⟨B4, 0, none⟩ = some (.slice a n c)) (c6 : w.cell? ⟨B6, 0, none⟩ = some (.int .i64 key)) :
    Calls Try.prog 149 #[.int .i64 k, .pointer (some ⟨B4, 0, none⟩), .pointer (some ⟨B6, 0, none⟩)] w fun e w' => e = .returned (.int .i64 (nextF l big k)) ∧ w = w' := by
  have HN := Lib.hid hn
  clear hn
  cases big
  all_goals
    go_enter Try.func149, Try.ntmps149
    go_wp2_with ((go_at_call 150); refine (ref_next_f a n c l _ k _ hl HN.out hn2 hk0 hk1).mono ?_; rintro e w' ⟨rfl, rfl⟩)
    go_ret
    exact ⟨rfl, rfl⟩

set_option maxRecDepth 100000 in
set_option maxHeartbeats 1000000 in
theorem ref_times_next (a : Option Addr) (n c : Nat) (l : List Int) (big : Bool) (m k : Nat) (key : Int) (B4 B6 : Nat) (w : World) (hl : Ints w a l) (hn : l.length = n) (hn2 : n ≤ 4096) (hk : k ≤ n) (hm : m ≤ 1000) (hb : (key == 87) = big)
    (c4 : w.cell? ⟨B4, 0, none⟩ = some (.slice a n c)) (c6 : w.cell? ⟨B6, 0, none⟩ = some (.int .i64 key)) :
    Calls Try.prog 146 #[.int .i64 (m : Int), .int .i64 (k : Int), .func (.func 149) #[] #[.pointer (some ⟨B4, 0, none⟩), .pointer (some ⟨B6, 0, none⟩)]] w fun e w' => e = .returned (.int .i64 (iterF (nextF l big) m k)) ∧ w = w' := by
  have HB := Lib.hid (fun j => iterF_bd (f := nextF l big) (lo := 0) (hi := (n : Int)) (fun x h0 h1 => by rw [← hn]; exact nextF_bd l big x h0 (by omega)) (k := (k : Int)) (by omega) (by omega) j)
  have HN := Lib.hid hn
  have HBB := Lib.hid hb
  clear hn hb
  go_enter Try.func146, Try.ntmps146
  go_wp2
  go_loop [1, 8] (fun v i => ∃ j : Nat, i = .int .i64 (j : Int) ∧ j ≤ m ∧ v = .int .i64 (iterF (nextF l big) j (k : Int))) (fun _ i => m - (intOf i).toNat)
  case atStart => exact ⟨0, rfl, by omega, rfl⟩
  case round =>
    obtain ⟨j, rfl, hj, rfl⟩ := hrel
    obtain ⟨g0, g1⟩ := HB.out j
    by_cases hlt : j < m
    · go_wp2_with fail
      refine (ref_next_clos a n c l big _ key B4 B6 _ hl HN.out hn2 g0 g1 HBB.out c4 c6).mono ?_
      rintro e w2 ⟨rfl, rfl⟩
      go_wp2
      go_round
      case rel => exact ⟨j + 1, by go_num, by omega, rfl⟩
      case measure => simp [intOf]; omega
    · obtain rfl : j = m := by omega
      go_wp2
      go_ret
      exact ⟨rfl, rfl⟩

theorem ref_end_f (a : Option Addr) (n c : Nat) (l : List Int) (big : Bool) (k : Int) (w : World) (hl : Ints w a l) (hn : l.length = n) (hn2 : n ≤ 4096) (hk0 : 0 ≤ k) (hk1 : k ≤ n) :
    Calls Try.prog 152 #[.slice a n c, .int .i64 k, .bool big] w fun e w' => e = .returned (.int .i64 (endF l big k)) ∧ w = w' :=
  (ref_end a n c l big k w hl hn hn2 hk0 hk1).mono fun e w' ⟨r, h1, h2, h3⟩ => by
    obtain rfl := refEnd_one h2 (endF_ref l big k hk0)
    exact ⟨h1, h3⟩

set_option maxRecDepth 100000 in
theorem ref_end_clos (a : Option Addr) (n c : Nat) (l : List Int) (big : Bool) (k key : Int) (B4 B6 : Nat) (w : World) (hl : Ints w a l) (hn : l.length = n) (hn2 : n ≤ 4096) (hk0 : 0 ≤ k) (hk1 : k ≤ n) (hb : (key == 69) = big)
    (c4 : w.cell? ⟨B4, 0, none⟩ = some (.slice a n c)) (c6 : w.cell? ⟨B6, 0, none⟩ = some (.int .i64 key)) :
    Calls Try.prog 151 #[.int .i64 k, .pointer (some ⟨B4, 0, none⟩), .pointer (some ⟨B6, 0, none⟩)] w fun e w' => e = .returned (.int .i64 (endF l big k)) ∧ w = w' := by
  have HN := Lib.hid hn
  clear hn
  cases big
  all_goals
    go_enter Try.func151, Try.ntmps151
    go_wp2_with ((go_at_call 152); refine (ref_end_f a n c l _ k _ hl HN.out hn2 hk0 hk1).mono ?_; rintro e w' ⟨rfl, rfl⟩)
    go_ret
    exact ⟨rfl, rfl⟩

set_option maxRecDepth 100000 in
set_option maxHeartbeats 1000000 in
theorem ref_times_end (a : Option Addr) (n c : Nat) (l : List Int) (big : Bool) (m k : Nat) (key : Int) (B4 B6 : Nat) (w : World) (hl : Ints w a l) (hn : l.length = n) (hn2 : n ≤ 4096) (hk : k ≤ n) (hm : m ≤ 1000) (hb : (key == 69) = big)
    (c4 : w.cell? ⟨B4, 0, none⟩ = some (.slice a n c)) (c6 : w.cell? ⟨B6, 0, none⟩ = some (.int .i64 key)) :
    Calls Try.prog 146 #[.int .i64 (m : Int), .int .i64 (k : Int), .func (.func 151) #[] #[.pointer (some ⟨B4, 0, none⟩), .pointer (some ⟨B6, 0, none⟩)]] w fun e w' => e = .returned (.int .i64 (iterF (endF l big) m k)) ∧ w = w' := by
  have HB := Lib.hid (fun j => iterF_bd (f := endF l big) (lo := 0) (hi := (n : Int)) (fun x h0 h1 => by rw [← hn]; exact endF_bd l big x h0 (by omega)) (k := (k : Int)) (by omega) (by omega) j)
  have HN := Lib.hid hn
  have HBB := Lib.hid hb
  clear hn hb
  go_enter Try.func146, Try.ntmps146
  go_wp2
  go_loop [1, 8] (fun v i => ∃ j : Nat, i = .int .i64 (j : Int) ∧ j ≤ m ∧ v = .int .i64 (iterF (endF l big) j (k : Int))) (fun _ i => m - (intOf i).toNat)
  case atStart => exact ⟨0, rfl, by omega, rfl⟩
  case round =>
    obtain ⟨j, rfl, hj, rfl⟩ := hrel
    obtain ⟨g0, g1⟩ := HB.out j
    by_cases hlt : j < m
    · go_wp2_with fail
      refine (ref_end_clos a n c l big _ key B4 B6 _ hl HN.out hn2 g0 g1 HBB.out c4 c6).mono ?_
      rintro e w2 ⟨rfl, rfl⟩
      go_wp2
      go_round
      case rel => exact ⟨j + 1, by go_num, by omega, rfl⟩
      case measure => simp [intOf]; omega
    · obtain rfl : j = m := by omega
      go_wp2
      go_ret
      exact ⟨rfl, rfl⟩

end Go.Proofs.Ytbgbcmfgncneiaa
