/- LiftEditDoes, part 7: joined from the texts Mot7 Mot8. No condition of its own. -/
import Derived.Test.YtmipnikhgihcpaaEditDJ4
import Derived.Test.YtmipnikhgihcpaaEditDJ5
import Derived.Test.YtmipnikhgihcpaaEditDJ6
set_option linter.unusedVariables false
set_option linter.unusedSimpArgs false
namespace Go.Proofs.Ytmipnikhgihcpaa
open Go.RowKit
theorem ref_back_f (a : Option Addr) (n c : Nat) (l : List Int) (big : Bool) (k : Int) (w : World) (hl : Ints w a l) (hn : l.length = n) (hn2 : n ≤ 4096) (hk0 : 0 ≤ k) (hk1 : k ≤ n) :
  Calls Try.prog 188 #[.slice a n c, .int .i64 k, .bool big] w fun e w' => e = .returned (.int .i64 (backF l big k)) ∧ w = w' :=
 (ref_back a n c l big k w hl hn hn2 hk0 hk1).mono fun e w' ⟨r, h1, h2, h3⟩ => by
  obtain rfl := refBack_one h2 (backF_ref l big k hk0) hk0
  exact ⟨h1, h3⟩
set_option maxRecDepth 100000 in
theorem ref_back_clos (a : Option Addr) (n c : Nat) (l : List Int) (big : Bool) (k key : Int) (B4 B6 : Nat) (w : World) (hl : Ints w a l) (hn : l.length = n) (hn2 : n ≤ 4096) (hk0 : 0 ≤ k) (hk1 : k ≤ n) (hb : (key == 66) = big)
  (c4 : w.cell? ⟨B4, 0, none⟩ = some (.slice a n c)) (c6 : w.cell? ⟨B6, 0, none⟩ = some (.int .i64 key)) :
  Calls Try.prog 187 #[.int .i64 k, .pointer (some ⟨B4, 0, none⟩), .pointer (some ⟨B6, 0, none⟩)] w fun e w' => e = .returned (.int .i64 (backF l big k)) ∧ w = w' := by
 have HN := Lib.hid hn
 clear hn
 cases big
 all_goals
  go_enter Try.func187, Try.ntmps187
  go_wp2_with ((go_at_call 188); refine (ref_back_f a n c l _ k _ hl HN.out hn2 hk0 hk1).mono ?_; rintro e w' ⟨rfl, rfl⟩)
  go_ret
  exact ⟨rfl, rfl⟩
set_option maxRecDepth 100000 in
set_option maxHeartbeats 1000000 in
theorem ref_times_back (a : Option Addr) (n c : Nat) (l : List Int) (big : Bool) (m k : Nat) (key : Int) (B4 B6 : Nat) (w : World) (hl : Ints w a l) (hn : l.length = n) (hn2 : n ≤ 4096) (hk : k ≤ n) (hm : m ≤ 1000) (hb : (key == 66) = big)
  (c4 : w.cell? ⟨B4, 0, none⟩ = some (.slice a n c)) (c6 : w.cell? ⟨B6, 0, none⟩ = some (.int .i64 key)) :
  Calls Try.prog 186 #[.int .i64 (m : Int), .int .i64 (k : Int), .func (.func 187) #[] #[.pointer (some ⟨B4, 0, none⟩), .pointer (some ⟨B6, 0, none⟩)]] w fun e w' => e = .returned (.int .i64 (iterF (backF l big) m k)) ∧ w = w' := by
 have HB := Lib.hid (fun j => iterF_bd (f := backF l big) (lo := 0) (hi := (n : Int)) (fun x h0 h1 => by rw [← hn]; exact backF_bd l big x h0 (by omega)) (k := (k : Int)) (by omega) (by omega) j)
 have HN := Lib.hid hn
 have HBB := Lib.hid hb
 clear hn hb
 go_enter Try.func186, Try.ntmps186
 go_wp2
 go_loop [1, 8] (fun v i => ∃ j : Nat, i = .int .i64 (j : Int) ∧ j ≤ m ∧ v = .int .i64 (iterF (backF l big) j (k : Int))) (fun _ i => m - (intOf i).toNat)
 case atStart => exact ⟨0, rfl, by omega, rfl⟩
 case round =>
  obtain ⟨j, rfl, hj, rfl⟩ := hrel
  obtain ⟨g0, g1⟩ := HB.out j
  by_cases hlt : j < m
  ·go_wp2_with fail
   refine (ref_back_clos a n c l big _ key B4 B6 _ hl HN.out hn2 g0 g1 HBB.out c4 c6).mono ?_
   rintro e w2 ⟨rfl, rfl⟩
   go_wp2
   go_round
   case rel => exact ⟨j + 1, by go_num, by omega, rfl⟩
   case measure => simp [intOf]; omega
  ·obtain rfl : j = m := by omega
   go_wp2
   go_ret
   exact ⟨rfl, rfl⟩
theorem ref_next_f (a : Option Addr) (n c : Nat) (l : List Int) (big : Bool) (k : Int) (w : World) (hl : Ints w a l) (hn : l.length = n) (hn2 : n ≤ 4096) (hk0 : 0 ≤ k) (hk1 : k ≤ n) :
  Calls Try.prog 190 #[.slice a n c, .int .i64 k, .bool big] w fun e w' => e = .returned (.int .i64 (nextF l big k)) ∧ w = w' :=
 (ref_next a n c l big k w hl hn hn2 hk0 hk1).mono fun e w' ⟨r, h1, h2, h3⟩ => by
  obtain rfl := refNext_one h2 (nextF_ref l big k hk0 (by omega)) (by omega)
  exact ⟨h1, h3⟩
set_option maxRecDepth 100000 in
theorem ref_next_clos (a : Option Addr) (n c : Nat) (l : List Int) (big : Bool) (k key : Int) (B4 B6 : Nat) (w : World) (hl : Ints w a l) (hn : l.length = n) (hn2 : n ≤ 4096) (hk0 : 0 ≤ k) (hk1 : k ≤ n) (hb : (key == 87) = big)
  (c4 : w.cell? ⟨B4, 0, none⟩ = some (.slice a n c)) (c6 : w.cell? ⟨B6, 0, none⟩ = some (.int .i64 key)) :
  Calls Try.prog 189 #[.int .i64 k, .pointer (some ⟨B4, 0, none⟩), .pointer (some ⟨B6, 0, none⟩)] w fun e w' => e = .returned (.int .i64 (nextF l big k)) ∧ w = w' := by
 have HN := Lib.hid hn
 clear hn
 cases big
 all_goals
  go_enter Try.func189, Try.ntmps189
  go_wp2_with ((go_at_call 190); refine (ref_next_f a n c l _ k _ hl HN.out hn2 hk0 hk1).mono ?_; rintro e w' ⟨rfl, rfl⟩)
  go_ret
  exact ⟨rfl, rfl⟩
set_option maxRecDepth 100000 in
set_option maxHeartbeats 1000000 in
theorem ref_times_next (a : Option Addr) (n c : Nat) (l : List Int) (big : Bool) (m k : Nat) (key : Int) (B4 B6 : Nat) (w : World) (hl : Ints w a l) (hn : l.length = n) (hn2 : n ≤ 4096) (hk : k ≤ n) (hm : m ≤ 1000) (hb : (key == 87) = big)
  (c4 : w.cell? ⟨B4, 0, none⟩ = some (.slice a n c)) (c6 : w.cell? ⟨B6, 0, none⟩ = some (.int .i64 key)) :
  Calls Try.prog 186 #[.int .i64 (m : Int), .int .i64 (k : Int), .func (.func 189) #[] #[.pointer (some ⟨B4, 0, none⟩), .pointer (some ⟨B6, 0, none⟩)]] w fun e w' => e = .returned (.int .i64 (iterF (nextF l big) m k)) ∧ w = w' := by
 have HB := Lib.hid (fun j => iterF_bd (f := nextF l big) (lo := 0) (hi := (n : Int)) (fun x h0 h1 => by rw [← hn]; exact nextF_bd l big x h0 (by omega)) (k := (k : Int)) (by omega) (by omega) j)
 have HN := Lib.hid hn
 have HBB := Lib.hid hb
 clear hn hb
 go_enter Try.func186, Try.ntmps186
 go_wp2
 go_loop [1, 8] (fun v i => ∃ j : Nat, i = .int .i64 (j : Int) ∧ j ≤ m ∧ v = .int .i64 (iterF (nextF l big) j (k : Int))) (fun _ i => m - (intOf i).toNat)
 case atStart => exact ⟨0, rfl, by omega, rfl⟩
 case round =>
  obtain ⟨j, rfl, hj, rfl⟩ := hrel
  obtain ⟨g0, g1⟩ := HB.out j
  by_cases hlt : j < m
  ·go_wp2_with fail
   refine (ref_next_clos a n c l big _ key B4 B6 _ hl HN.out hn2 g0 g1 HBB.out c4 c6).mono ?_
   rintro e w2 ⟨rfl, rfl⟩
   go_wp2
   go_round
   case rel => exact ⟨j + 1, by go_num, by omega, rfl⟩
   case measure => simp [intOf]; omega
  ·obtain rfl : j = m := by omega
   go_wp2
   go_ret
   exact ⟨rfl, rfl⟩
theorem ref_end_f (a : Option Addr) (n c : Nat) (l : List Int) (big : Bool) (k : Int) (w : World) (hl : Ints w a l) (hn : l.length = n) (hn2 : n ≤ 4096) (hk0 : 0 ≤ k) (hk1 : k ≤ n) :
  Calls Try.prog 192 #[.slice a n c, .int .i64 k, .bool big] w fun e w' => e = .returned (.int .i64 (endF l big k)) ∧ w = w' :=
 (ref_end a n c l big k w hl hn hn2 hk0 hk1).mono fun e w' ⟨r, h1, h2, h3⟩ => by
  obtain rfl := refEnd_one h2 (endF_ref l big k hk0)
  exact ⟨h1, h3⟩
set_option maxRecDepth 100000 in
theorem ref_end_clos (a : Option Addr) (n c : Nat) (l : List Int) (big : Bool) (k key : Int) (B4 B6 : Nat) (w : World) (hl : Ints w a l) (hn : l.length = n) (hn2 : n ≤ 4096) (hk0 : 0 ≤ k) (hk1 : k ≤ n) (hb : (key == 69) = big)
  (c4 : w.cell? ⟨B4, 0, none⟩ = some (.slice a n c)) (c6 : w.cell? ⟨B6, 0, none⟩ = some (.int .i64 key)) :
  Calls Try.prog 191 #[.int .i64 k, .pointer (some ⟨B4, 0, none⟩), .pointer (some ⟨B6, 0, none⟩)] w fun e w' => e = .returned (.int .i64 (endF l big k)) ∧ w = w' := by
 have HN := Lib.hid hn
 clear hn
 cases big
 all_goals
  go_enter Try.func191, Try.ntmps191
  go_wp2_with ((go_at_call 192); refine (ref_end_f a n c l _ k _ hl HN.out hn2 hk0 hk1).mono ?_; rintro e w' ⟨rfl, rfl⟩)
  go_ret
  exact ⟨rfl, rfl⟩
set_option maxRecDepth 100000 in
set_option maxHeartbeats 1000000 in
theorem ref_times_end (a : Option Addr) (n c : Nat) (l : List Int) (big : Bool) (m k : Nat) (key : Int) (B4 B6 : Nat) (w : World) (hl : Ints w a l) (hn : l.length = n) (hn2 : n ≤ 4096) (hk : k ≤ n) (hm : m ≤ 1000) (hb : (key == 69) = big)
  (c4 : w.cell? ⟨B4, 0, none⟩ = some (.slice a n c)) (c6 : w.cell? ⟨B6, 0, none⟩ = some (.int .i64 key)) :
  Calls Try.prog 186 #[.int .i64 (m : Int), .int .i64 (k : Int), .func (.func 191) #[] #[.pointer (some ⟨B4, 0, none⟩), .pointer (some ⟨B6, 0, none⟩)]] w fun e w' => e = .returned (.int .i64 (iterF (endF l big) m k)) ∧ w = w' := by
 have HB := Lib.hid (fun j => iterF_bd (f := endF l big) (lo := 0) (hi := (n : Int)) (fun x h0 h1 => by rw [← hn]; exact endF_bd l big x h0 (by omega)) (k := (k : Int)) (by omega) (by omega) j)
 have HN := Lib.hid hn
 have HBB := Lib.hid hb
 clear hn hb
 go_enter Try.func186, Try.ntmps186
 go_wp2
 go_loop [1, 8] (fun v i => ∃ j : Nat, i = .int .i64 (j : Int) ∧ j ≤ m ∧ v = .int .i64 (iterF (endF l big) j (k : Int))) (fun _ i => m - (intOf i).toNat)
 case atStart => exact ⟨0, rfl, by omega, rfl⟩
 case round =>
  obtain ⟨j, rfl, hj, rfl⟩ := hrel
  obtain ⟨g0, g1⟩ := HB.out j
  by_cases hlt : j < m
  ·go_wp2_with fail
   refine (ref_end_clos a n c l big _ key B4 B6 _ hl HN.out hn2 g0 g1 HBB.out c4 c6).mono ?_
   rintro e w2 ⟨rfl, rfl⟩
   go_wp2
   go_round
   case rel => exact ⟨j + 1, by go_num, by omega, rfl⟩
   case measure => simp [intOf]; omega
  ·obtain rfl : j = m := by omega
   go_wp2
   go_ret
   exact ⟨rfl, rfl⟩
def RGoPost (r : Option (Int × Bool)) (w : World) (e : Ending) (w' : World) : Prop :=
 ∃ x b, e = .returned (.tuple #[.int .i64 x, .bool b, .bool r.isNone]) ∧ (∀ y, r = some y → y = (x, b)) ∧ Below w.heap.size w w'
theorem RGoPost.yes {r : Option (Int × Bool)} {x : Int} {b : Bool} {w w' : World} (h : r = some (x, b)) (hb : Below w.heap.size w w') : RGoPost r w (.returned (.tuple #[.int .i64 x, .bool b, .bool false])) w' := by
 subst h; exact ⟨x, b, rfl, fun y hy => (by cases hy; rfl), hb⟩
theorem RGoPost.no {r : Option (Int × Bool)} {x : Int} {b : Bool} {w w' : World} (h : r = none) (hb : Below w.heap.size w w') : RGoPost r w (.returned (.tuple #[.int .i64 x, .bool b, .bool true])) w' := by
 subst h; exact ⟨x, b, rfl, fun y hy => (by cases hy), hb⟩
theorem kind_blank {c : Int} : kindS c true = 0 ↔ c = 32 ∨ c = 9 := by
 unfold kindS
 by_cases h : c = 32 ∨ c = 9
 ·simp [h]
 ·simp [h]
theorem firstF_hit {l : List Int} {j : Nat} (hj : j < l.length) (hz : kindS (ix l j) true ≠ 0) (hno : ∀ t, t < j → kindS (ix l t) true = 0) : firstF l = (j : Int) := by
 unfold firstF
 split
 ·rename_i r h
  obtain ⟨h1, h2, h3, h4⟩ := seekUp_some h
  simp at h3
  rcases Nat.lt_trichotomy r j with h | h | h
  ·exact absurd (hno r h) h3
  ·rw [h]
  ·have := h4 j (by omega) h; simp at this; exact absurd this hz
 ·rename_i h
  have := seekUp_none h j (by omega) (by omega)
  simp at this; exact absurd this hz
theorem firstF_none {l : List Int} (hno : ∀ t, t < l.length → kindS (ix l t) true = 0) : firstF l = max 0 ((l.length : Int) - 1) := by
 unfold firstF
 split
 ·rename_i r h
  obtain ⟨h1, h2, h3, h4⟩ := seekUp_some h
  simp at h3
  exact absurd (hno r (by omega)) h3
 ·rfl
set_option maxRecDepth 100000 in
set_option maxHeartbeats 2000000 in
theorem rgo_h_Z (a : Option Addr) (n c : Nat) (l : List Int) (k : Nat) (arg : Int) (op : Bool) (w : World) (hl : Ints w a l) (hn : l.length = n) (hn2 : n ≤ 4096) (hk : k ≤ n) (hk2 : k < n ∨ n = 0) :
  Calls Try.prog 146 #[.slice a n c, .int .i64 (k : Int), mvV 104 0 arg, .bool op] w (RGoPost (moS l k 104 1 arg op) w) := by
 have hm0 : 1 ≤ 1 := Nat.le_refl _
 have hm1 : 1 ≤ 999 := by omega
 unfold mvV
 have hB4 := (Blk.new w #[.slice a n c] 22).alloc (.cells #[.int .i64 104, .int .i64 0, .int .i64 arg] 227)
 obtain ⟨c4, -⟩ := hB4.one
 have hB6 := Blk.new (w.alloc (.cells #[.slice a n c] 22)) #[.int .i64 104, .int .i64 0, .int .i64 arg] 227
 rw [World.size_alloc] at hB6
 obtain ⟨c0, c1, c2, -, -, -⟩ := hB6.three
 have hacc := below2 w (.cells #[.slice a n c] 22) (.cells #[.int .i64 104, .int .i64 0, .int .i64 arg] 227)
 have hI := hl.below hacc
 have HN := Lib.hid hn
 clear hn
 by_cases h0 : k = 0
 ·have HR := Lib.hid (show moS l k 104 1 arg op = none by simp [moS, h0])
  have hb0 : ((k : Int) == 0) = true := by simp; omega
  clear h0
  go_enter Try.func146, Try.ntmps146
  go_upto_region 1 with fail
  change Code.wp _ _ _ _ ((w.alloc (.cells #[.slice a n c] 22)).alloc (.cells #[.int .i64 104, .int .i64 0, .int .i64 arg] 227))
  generalize (w.alloc (.cells #[.slice a n c] 22)).alloc (.cells #[.int .i64 104, .int .i64 0, .int .i64 arg] 227) = w1 at *
  go_quiet (fail)
  go_wp2
  all_goals
   go_ret3
   exact RGoPost.no HR.out (below_drewN hacc _)
 ·have HR := Lib.hid (show moS l k 104 1 arg op = some (max 0 ((k : Int) - 1), false) by simp [moS, h0])
  have hb0 : ((k : Int) == 0) = false := by simp; omega
  clear h0
  rcases (show 1 < (k : Int) ∨ (k : Int) ≤ 1 by omega) with h1 | h1
  ·have h2 : 0 < (k : Int) - 1 := by omega
   have HM := Lib.hid (show max 0 ((k : Int) - 1) = (k : Int) - 1 by omega)
   go_enter Try.func146, Try.ntmps146
   go_upto_region 1 with fail
   change Code.wp _ _ _ _ ((w.alloc (.cells #[.slice a n c] 22)).alloc (.cells #[.int .i64 104, .int .i64 0, .int .i64 arg] 227))
   generalize (w.alloc (.cells #[.slice a n c] 22)).alloc (.cells #[.int .i64 104, .int .i64 0, .int .i64 arg] 227) = w1 at *
   go_quiet (fail)
   go_wp2
   go_ret3
   exact RGoPost.yes (by rw [HR.out, HM.out]) (below_drewN hacc _)
  ·have h2 : (k : Int) - 1 ≤ 0 := by omega
   have HM := Lib.hid (show max 0 ((k : Int) - 1) = 0 by omega)
   go_enter Try.func146, Try.ntmps146
   go_upto_region 1 with fail
   change Code.wp _ _ _ _ ((w.alloc (.cells #[.slice a n c] 22)).alloc (.cells #[.int .i64 104, .int .i64 0, .int .i64 arg] 227))
   generalize (w.alloc (.cells #[.slice a n c] 22)).alloc (.cells #[.int .i64 104, .int .i64 0, .int .i64 arg] 227) = w1 at *
   go_quiet (fail)
   go_wp2
   go_ret3
   exact RGoPost.yes (by rw [HR.out, HM.out]) (below_drewN hacc _)
set_option maxRecDepth 100000 in
set_option maxHeartbeats 2000000 in
theorem rgo_h_P (a : Option Addr) (n c : Nat) (l : List Int) (k : Nat) (arg : Int) (op : Bool) (w : World) (hl : Ints w a l) (hn : l.length = n) (hn2 : n ≤ 4096) (hk : k ≤ n) (hk2 : k < n ∨ n = 0) (m : Nat) (hm0 : 1 ≤ m) (hm1 : m ≤ 999) :
  Calls Try.prog 146 #[.slice a n c, .int .i64 (k : Int), mvV 104 (m : Int) arg, .bool op] w (RGoPost (moS l k 104 (m : Int) arg op) w) := by
 have hmz : ((m : Int) == 0) = false := by simp; omega
 unfold mvV
 have hB4 := (Blk.new w #[.slice a n c] 22).alloc (.cells #[.int .i64 104, .int .i64 (m : Int), .int .i64 arg] 227)
 obtain ⟨c4, -⟩ := hB4.one
 have hB6 := Blk.new (w.alloc (.cells #[.slice a n c] 22)) #[.int .i64 104, .int .i64 (m : Int), .int .i64 arg] 227
 rw [World.size_alloc] at hB6
 obtain ⟨c0, c1, c2, -, -, -⟩ := hB6.three
 have hacc := below2 w (.cells #[.slice a n c] 22) (.cells #[.int .i64 104, .int .i64 (m : Int), .int .i64 arg] 227)
 have hI := hl.below hacc
 have HN := Lib.hid hn
 clear hn
 by_cases h0 : k = 0
 ·have HR := Lib.hid (show moS l k 104 (m : Int) arg op = none by simp [moS, h0])
  have hb0 : ((k : Int) == 0) = true := by simp; omega
  clear h0
  go_enter Try.func146, Try.ntmps146
  go_upto_region 1 with fail
  change Code.wp _ _ _ _ ((w.alloc (.cells #[.slice a n c] 22)).alloc (.cells #[.int .i64 104, .int .i64 (m : Int), .int .i64 arg] 227))
  generalize (w.alloc (.cells #[.slice a n c] 22)).alloc (.cells #[.int .i64 104, .int .i64 (m : Int), .int .i64 arg] 227) = w1 at *
  go_quiet (fail)
  go_wp2
  all_goals
   go_ret3
   exact RGoPost.no HR.out (below_drewN hacc _)
 ·have HR := Lib.hid (show moS l k 104 (m : Int) arg op = some (max 0 ((k : Int) - (m : Int)), false) by simp [moS, h0])
  have hb0 : ((k : Int) == 0) = false := by simp; omega
  clear h0
  rcases (show (m : Int) < (k : Int) ∨ (k : Int) ≤ (m : Int) by omega) with h1 | h1
  ·have h2 : 0 < (k : Int) - (m : Int) := by omega
   have HM := Lib.hid (show max 0 ((k : Int) - (m : Int)) = (k : Int) - (m : Int) by omega)
   go_enter Try.func146, Try.ntmps146
   go_upto_region 1 with fail
   change Code.wp _ _ _ _ ((w.alloc (.cells #[.slice a n c] 22)).alloc (.cells #[.int .i64 104, .int .i64 (m : Int), .int .i64 arg] 227))
   generalize (w.alloc (.cells #[.slice a n c] 22)).alloc (.cells #[.int .i64 104, .int .i64 (m : Int), .int .i64 arg] 227) = w1 at *
   go_quiet (fail)
   go_wp2
   go_ret3
   exact RGoPost.yes (by rw [HR.out, HM.out]) (below_drewN hacc _)
  ·have h2 : (k : Int) - (m : Int) ≤ 0 := by omega
   have HM := Lib.hid (show max 0 ((k : Int) - (m : Int)) = 0 by omega)
   go_enter Try.func146, Try.ntmps146
   go_upto_region 1 with fail
   change Code.wp _ _ _ _ ((w.alloc (.cells #[.slice a n c] 22)).alloc (.cells #[.int .i64 104, .int .i64 (m : Int), .int .i64 arg] 227))
   generalize (w.alloc (.cells #[.slice a n c] 22)).alloc (.cells #[.int .i64 104, .int .i64 (m : Int), .int .i64 arg] 227) = w1 at *
   go_quiet (fail)
   go_wp2
   go_ret3
   exact RGoPost.yes (by rw [HR.out, HM.out]) (below_drewN hacc _)
set_option maxRecDepth 100000 in
set_option maxHeartbeats 2000000 in
theorem rgo_l_Z (a : Option Addr) (n c : Nat) (l : List Int) (k : Nat) (arg : Int) (op : Bool) (w : World) (hl : Ints w a l) (hn : l.length = n) (hn2 : n ≤ 4096) (hk : k ≤ n) (hk2 : k < n ∨ n = 0) :
  Calls Try.prog 146 #[.slice a n c, .int .i64 (k : Int), mvV 108 0 arg, .bool op] w (RGoPost (moS l k 108 1 arg op) w) := by
 have hm0 : 1 ≤ 1 := Nat.le_refl _
 have hm1 : 1 ≤ 999 := by omega
 unfold mvV
 have hB4 := (Blk.new w #[.slice a n c] 22).alloc (.cells #[.int .i64 108, .int .i64 0, .int .i64 arg] 227)
 obtain ⟨c4, -⟩ := hB4.one
 have hB6 := Blk.new (w.alloc (.cells #[.slice a n c] 22)) #[.int .i64 108, .int .i64 0, .int .i64 arg] 227
 rw [World.size_alloc] at hB6
 obtain ⟨c0, c1, c2, -, -, -⟩ := hB6.three
 have hacc := below2 w (.cells #[.slice a n c] 22) (.cells #[.int .i64 108, .int .i64 0, .int .i64 arg] 227)
 have hI := hl.below hacc
 have HN := Lib.hid hn
 clear hn
 cases op
 ·by_cases hf : (n : Int) - 1 ≤ k
  ·have HR := Lib.hid (show moS l k 108 1 arg false = none by have := HN.out; simp [moS, this]; omega)
   have hge : (k : Int) ≥ (n : Int) - 1 := hf
   go_enter Try.func146, Try.ntmps146
   go_upto_region 1 with fail
   change Code.wp _ _ _ _ ((w.alloc (.cells #[.slice a n c] 22)).alloc (.cells #[.int .i64 108, .int .i64 0, .int .i64 arg] 227))
   generalize (w.alloc (.cells #[.slice a n c] 22)).alloc (.cells #[.int .i64 108, .int .i64 0, .int .i64 arg] 227) = w1 at *
   go_quiet (fail)
   go_wp2
   all_goals
    go_ret3
    exact RGoPost.no HR.out (below_drewN hacc _)
  ·have HR := Lib.hid (show moS l k 108 1 arg false = some (min ((n : Int) - 1) (k + 1), false) by have := HN.out; simp [moS, this]; omega)
   have hlt : (k : Int) < (n : Int) - 1 := by omega
   rcases (show (n : Int) - 1 < k + 1 ∨ k + 1 ≤ (n : Int) - 1 by omega) with h1 | h1
   ·have HM := Lib.hid (show min ((n : Int) - 1) (k + 1) = (n : Int) - 1 by omega)
    first
     | (exfalso; omega)
     | skip
    all_goals
     go_enter Try.func146, Try.ntmps146
     go_upto_region 1 with fail
     change Code.wp _ _ _ _ ((w.alloc (.cells #[.slice a n c] 22)).alloc (.cells #[.int .i64 108, .int .i64 0, .int .i64 arg] 227))
     generalize (w.alloc (.cells #[.slice a n c] 22)).alloc (.cells #[.int .i64 108, .int .i64 0, .int .i64 arg] 227) = w1 at *
     go_quiet (fail)
     go_wp2
     all_goals
      go_ret3
      exact RGoPost.yes (by rw [HR.out, HM.out]) (below_drewN hacc _)
   ·have HM := Lib.hid (show min ((n : Int) - 1) (k + 1) = k + 1 by omega)
    go_enter Try.func146, Try.ntmps146
    go_upto_region 1 with fail
    change Code.wp _ _ _ _ ((w.alloc (.cells #[.slice a n c] 22)).alloc (.cells #[.int .i64 108, .int .i64 0, .int .i64 arg] 227))
    generalize (w.alloc (.cells #[.slice a n c] 22)).alloc (.cells #[.int .i64 108, .int .i64 0, .int .i64 arg] 227) = w1 at *
    go_quiet (fail)
    go_wp2
    all_goals
     go_ret3
     exact RGoPost.yes (by rw [HR.out, HM.out]) (below_drewN hacc _)
 ·by_cases hf : (n : Int) ≤ k
  ·have HR := Lib.hid (show moS l k 108 1 arg true = none by have := HN.out; simp [moS, this]; omega)
   have hge : (k : Int) ≥ (n : Int) := hf
   go_enter Try.func146, Try.ntmps146
   go_upto_region 1 with fail
   change Code.wp _ _ _ _ ((w.alloc (.cells #[.slice a n c] 22)).alloc (.cells #[.int .i64 108, .int .i64 0, .int .i64 arg] 227))
   generalize (w.alloc (.cells #[.slice a n c] 22)).alloc (.cells #[.int .i64 108, .int .i64 0, .int .i64 arg] 227) = w1 at *
   go_quiet (fail)
   go_wp2
   all_goals
    go_ret3
    exact RGoPost.no HR.out (below_drewN hacc _)
  ·have HR := Lib.hid (show moS l k 108 1 arg true = some (min ((n : Int)) (k + 1), false) by have := HN.out; simp [moS, this]; omega)
   have hlt : (k : Int) < (n : Int) := by omega
   rcases (show (n : Int) < k + 1 ∨ k + 1 ≤ (n : Int) by omega) with h1 | h1
   ·have HM := Lib.hid (show min ((n : Int)) (k + 1) = (n : Int) by omega)
    first
     | (exfalso; omega)
     | skip
    all_goals
     go_enter Try.func146, Try.ntmps146
     go_upto_region 1 with fail
     change Code.wp _ _ _ _ ((w.alloc (.cells #[.slice a n c] 22)).alloc (.cells #[.int .i64 108, .int .i64 0, .int .i64 arg] 227))
     generalize (w.alloc (.cells #[.slice a n c] 22)).alloc (.cells #[.int .i64 108, .int .i64 0, .int .i64 arg] 227) = w1 at *
     go_quiet (fail)
     go_wp2
     all_goals
      go_ret3
      exact RGoPost.yes (by rw [HR.out, HM.out]) (below_drewN hacc _)
   ·have HM := Lib.hid (show min ((n : Int)) (k + 1) = k + 1 by omega)
    go_enter Try.func146, Try.ntmps146
    go_upto_region 1 with fail
    change Code.wp _ _ _ _ ((w.alloc (.cells #[.slice a n c] 22)).alloc (.cells #[.int .i64 108, .int .i64 0, .int .i64 arg] 227))
    generalize (w.alloc (.cells #[.slice a n c] 22)).alloc (.cells #[.int .i64 108, .int .i64 0, .int .i64 arg] 227) = w1 at *
    go_quiet (fail)
    go_wp2
    all_goals
     go_ret3
     exact RGoPost.yes (by rw [HR.out, HM.out]) (below_drewN hacc _)
set_option maxRecDepth 100000 in
set_option maxHeartbeats 2000000 in
theorem rgo_l_P (a : Option Addr) (n c : Nat) (l : List Int) (k : Nat) (arg : Int) (op : Bool) (w : World) (hl : Ints w a l) (hn : l.length = n) (hn2 : n ≤ 4096) (hk : k ≤ n) (hk2 : k < n ∨ n = 0) (m : Nat) (hm0 : 1 ≤ m) (hm1 : m ≤ 999) :
  Calls Try.prog 146 #[.slice a n c, .int .i64 (k : Int), mvV 108 (m : Int) arg, .bool op] w (RGoPost (moS l k 108 (m : Int) arg op) w) := by
 have hmz : ((m : Int) == 0) = false := by simp; omega
 unfold mvV
 have hB4 := (Blk.new w #[.slice a n c] 22).alloc (.cells #[.int .i64 108, .int .i64 (m : Int), .int .i64 arg] 227)
 obtain ⟨c4, -⟩ := hB4.one
 have hB6 := Blk.new (w.alloc (.cells #[.slice a n c] 22)) #[.int .i64 108, .int .i64 (m : Int), .int .i64 arg] 227
 rw [World.size_alloc] at hB6
 obtain ⟨c0, c1, c2, -, -, -⟩ := hB6.three
 have hacc := below2 w (.cells #[.slice a n c] 22) (.cells #[.int .i64 108, .int .i64 (m : Int), .int .i64 arg] 227)
 have hI := hl.below hacc
 have HN := Lib.hid hn
 clear hn
 cases op
 ·by_cases hf : (n : Int) - 1 ≤ k
  ·have HR := Lib.hid (show moS l k 108 (m : Int) arg false = none by have := HN.out; simp [moS, this]; omega)
   have hge : (k : Int) ≥ (n : Int) - 1 := hf
   go_enter Try.func146, Try.ntmps146
   go_upto_region 1 with fail
   change Code.wp _ _ _ _ ((w.alloc (.cells #[.slice a n c] 22)).alloc (.cells #[.int .i64 108, .int .i64 (m : Int), .int .i64 arg] 227))
   generalize (w.alloc (.cells #[.slice a n c] 22)).alloc (.cells #[.int .i64 108, .int .i64 (m : Int), .int .i64 arg] 227) = w1 at *
   go_quiet (fail)
   go_wp2
   all_goals
    go_ret3
    exact RGoPost.no HR.out (below_drewN hacc _)
  ·have HR := Lib.hid (show moS l k 108 (m : Int) arg false = some (min ((n : Int) - 1) (k + (m : Int)), false) by have := HN.out; simp [moS, this]; omega)
   have hlt : (k : Int) < (n : Int) - 1 := by omega
   rcases (show (n : Int) - 1 < k + (m : Int) ∨ k + (m : Int) ≤ (n : Int) - 1 by omega) with h1 | h1
   ·have HM := Lib.hid (show min ((n : Int) - 1) (k + (m : Int)) = (n : Int) - 1 by omega)
    first
     | (exfalso; omega)
     | skip
    all_goals
     go_enter Try.func146, Try.ntmps146
     go_upto_region 1 with fail
     change Code.wp _ _ _ _ ((w.alloc (.cells #[.slice a n c] 22)).alloc (.cells #[.int .i64 108, .int .i64 (m : Int), .int .i64 arg] 227))
     generalize (w.alloc (.cells #[.slice a n c] 22)).alloc (.cells #[.int .i64 108, .int .i64 (m : Int), .int .i64 arg] 227) = w1 at *
     go_quiet (fail)
     go_wp2
     all_goals
      go_ret3
      exact RGoPost.yes (by rw [HR.out, HM.out]) (below_drewN hacc _)
   ·have HM := Lib.hid (show min ((n : Int) - 1) (k + (m : Int)) = k + (m : Int) by omega)
    go_enter Try.func146, Try.ntmps146
    go_upto_region 1 with fail
    change Code.wp _ _ _ _ ((w.alloc (.cells #[.slice a n c] 22)).alloc (.cells #[.int .i64 108, .int .i64 (m : Int), .int .i64 arg] 227))
    generalize (w.alloc (.cells #[.slice a n c] 22)).alloc (.cells #[.int .i64 108, .int .i64 (m : Int), .int .i64 arg] 227) = w1 at *
    go_quiet (fail)
    go_wp2
    all_goals
     go_ret3
     exact RGoPost.yes (by rw [HR.out, HM.out]) (below_drewN hacc _)
 ·by_cases hf : (n : Int) ≤ k
  ·have HR := Lib.hid (show moS l k 108 (m : Int) arg true = none by have := HN.out; simp [moS, this]; omega)
   have hge : (k : Int) ≥ (n : Int) := hf
   go_enter Try.func146, Try.ntmps146
   go_upto_region 1 with fail
   change Code.wp _ _ _ _ ((w.alloc (.cells #[.slice a n c] 22)).alloc (.cells #[.int .i64 108, .int .i64 (m : Int), .int .i64 arg] 227))
   generalize (w.alloc (.cells #[.slice a n c] 22)).alloc (.cells #[.int .i64 108, .int .i64 (m : Int), .int .i64 arg] 227) = w1 at *
   go_quiet (fail)
   go_wp2
   all_goals
    go_ret3
    exact RGoPost.no HR.out (below_drewN hacc _)
  ·have HR := Lib.hid (show moS l k 108 (m : Int) arg true = some (min ((n : Int)) (k + (m : Int)), false) by have := HN.out; simp [moS, this]; omega)
   have hlt : (k : Int) < (n : Int) := by omega
   rcases (show (n : Int) < k + (m : Int) ∨ k + (m : Int) ≤ (n : Int) by omega) with h1 | h1
   ·have HM := Lib.hid (show min ((n : Int)) (k + (m : Int)) = (n : Int) by omega)
    first
     | (exfalso; omega)
     | skip
    all_goals
     go_enter Try.func146, Try.ntmps146
     go_upto_region 1 with fail
     change Code.wp _ _ _ _ ((w.alloc (.cells #[.slice a n c] 22)).alloc (.cells #[.int .i64 108, .int .i64 (m : Int), .int .i64 arg] 227))
     generalize (w.alloc (.cells #[.slice a n c] 22)).alloc (.cells #[.int .i64 108, .int .i64 (m : Int), .int .i64 arg] 227) = w1 at *
     go_quiet (fail)
     go_wp2
     all_goals
      go_ret3
      exact RGoPost.yes (by rw [HR.out, HM.out]) (below_drewN hacc _)
   ·have HM := Lib.hid (show min ((n : Int)) (k + (m : Int)) = k + (m : Int) by omega)
    go_enter Try.func146, Try.ntmps146
    go_upto_region 1 with fail
    change Code.wp _ _ _ _ ((w.alloc (.cells #[.slice a n c] 22)).alloc (.cells #[.int .i64 108, .int .i64 (m : Int), .int .i64 arg] 227))
    generalize (w.alloc (.cells #[.slice a n c] 22)).alloc (.cells #[.int .i64 108, .int .i64 (m : Int), .int .i64 arg] 227) = w1 at *
    go_quiet (fail)
    go_wp2
    all_goals
     go_ret3
     exact RGoPost.yes (by rw [HR.out, HM.out]) (below_drewN hacc _)
set_option maxRecDepth 100000 in
set_option maxHeartbeats 2000000 in
theorem rgo_0_Z (a : Option Addr) (n c : Nat) (l : List Int) (k : Nat) (arg : Int) (op : Bool) (w : World) (hl : Ints w a l) (hn : l.length = n) (hn2 : n ≤ 4096) (hk : k ≤ n) (hk2 : k < n ∨ n = 0) :
  Calls Try.prog 146 #[.slice a n c, .int .i64 (k : Int), mvV 48 0 arg, .bool op] w (RGoPost (moS l k 48 1 arg op) w) := by
 have hm0 : 1 ≤ 1 := Nat.le_refl _
 have hm1 : 1 ≤ 999 := by omega
 unfold mvV
 have hB4 := (Blk.new w #[.slice a n c] 22).alloc (.cells #[.int .i64 48, .int .i64 0, .int .i64 arg] 227)
 obtain ⟨c4, -⟩ := hB4.one
 have hB6 := Blk.new (w.alloc (.cells #[.slice a n c] 22)) #[.int .i64 48, .int .i64 0, .int .i64 arg] 227
 rw [World.size_alloc] at hB6
 obtain ⟨c0, c1, c2, -, -, -⟩ := hB6.three
 have hacc := below2 w (.cells #[.slice a n c] 22) (.cells #[.int .i64 48, .int .i64 0, .int .i64 arg] 227)
 have hI := hl.below hacc
 have HN := Lib.hid hn
 clear hn
 have HR := Lib.hid (show moS l k 48 1 arg op = some (0, false) by simp [moS])
 go_enter Try.func146, Try.ntmps146
 go_upto_region 1 with fail
 change Code.wp _ _ _ _ ((w.alloc (.cells #[.slice a n c] 22)).alloc (.cells #[.int .i64 48, .int .i64 0, .int .i64 arg] 227))
 generalize (w.alloc (.cells #[.slice a n c] 22)).alloc (.cells #[.int .i64 48, .int .i64 0, .int .i64 arg] 227) = w1 at *
 go_quiet (fail)
 go_wp2
 go_ret3
 exact RGoPost.yes HR.out (below_drewN hacc _)
set_option maxRecDepth 100000 in
set_option maxHeartbeats 2000000 in
theorem rgo_0_P (a : Option Addr) (n c : Nat) (l : List Int) (k : Nat) (arg : Int) (op : Bool) (w : World) (hl : Ints w a l) (hn : l.length = n) (hn2 : n ≤ 4096) (hk : k ≤ n) (hk2 : k < n ∨ n = 0) (m : Nat) (hm0 : 1 ≤ m) (hm1 : m ≤ 999) :
  Calls Try.prog 146 #[.slice a n c, .int .i64 (k : Int), mvV 48 (m : Int) arg, .bool op] w (RGoPost (moS l k 48 (m : Int) arg op) w) := by
 have hmz : ((m : Int) == 0) = false := by simp; omega
 unfold mvV
 have hB4 := (Blk.new w #[.slice a n c] 22).alloc (.cells #[.int .i64 48, .int .i64 (m : Int), .int .i64 arg] 227)
 obtain ⟨c4, -⟩ := hB4.one
 have hB6 := Blk.new (w.alloc (.cells #[.slice a n c] 22)) #[.int .i64 48, .int .i64 (m : Int), .int .i64 arg] 227
 rw [World.size_alloc] at hB6
 obtain ⟨c0, c1, c2, -, -, -⟩ := hB6.three
 have hacc := below2 w (.cells #[.slice a n c] 22) (.cells #[.int .i64 48, .int .i64 (m : Int), .int .i64 arg] 227)
 have hI := hl.below hacc
 have HN := Lib.hid hn
 clear hn
 have HR := Lib.hid (show moS l k 48 (m : Int) arg op = some (0, false) by simp [moS])
 go_enter Try.func146, Try.ntmps146
 go_upto_region 1 with fail
 change Code.wp _ _ _ _ ((w.alloc (.cells #[.slice a n c] 22)).alloc (.cells #[.int .i64 48, .int .i64 (m : Int), .int .i64 arg] 227))
 generalize (w.alloc (.cells #[.slice a n c] 22)).alloc (.cells #[.int .i64 48, .int .i64 (m : Int), .int .i64 arg] 227) = w1 at *
 go_quiet (fail)
 go_wp2
 go_ret3
 exact RGoPost.yes HR.out (below_drewN hacc _)
set_option maxRecDepth 100000 in
set_option maxHeartbeats 2000000 in
theorem rgo_first_Z (a : Option Addr) (n c : Nat) (l : List Int) (k : Nat) (arg : Int) (op : Bool) (w : World) (hl : Ints w a l) (hn : l.length = n) (hn2 : n ≤ 4096) (hk : k ≤ n) (hk2 : k < n ∨ n = 0) :
  Calls Try.prog 146 #[.slice a n c, .int .i64 (k : Int), mvV 94 0 arg, .bool op] w (RGoPost (moS l k 94 1 arg op) w) := by
 have hm0 : 1 ≤ 1 := Nat.le_refl _
 have hm1 : 1 ≤ 999 := by omega
 unfold mvV
 have hB4 := (Blk.new w #[.slice a n c] 22).alloc (.cells #[.int .i64 94, .int .i64 0, .int .i64 arg] 227)
 obtain ⟨c4, -⟩ := hB4.one
 have hB6 := Blk.new (w.alloc (.cells #[.slice a n c] 22)) #[.int .i64 94, .int .i64 0, .int .i64 arg] 227
 rw [World.size_alloc] at hB6
 obtain ⟨c0, c1, c2, -, -, -⟩ := hB6.three
 have hacc := below2 w (.cells #[.slice a n c] 22) (.cells #[.int .i64 94, .int .i64 0, .int .i64 arg] 227)
 have hI := hl.below hacc
 have HN := Lib.hid hn
 clear hn
 have HR := Lib.hid (show moS l k 94 1 arg op = some (firstF l, false) by simp [moS])
 go_enter Try.func146, Try.ntmps146
 go_upto_region 1 with fail
 change Code.wp _ _ _ _ ((w.alloc (.cells #[.slice a n c] 22)).alloc (.cells #[.int .i64 94, .int .i64 0, .int .i64 arg] 227))
 generalize (w.alloc (.cells #[.slice a n c] 22)).alloc (.cells #[.int .i64 94, .int .i64 0, .int .i64 arg] 227) = w1 at *
 go_quiet (fail)
 go_wp2
 go_loop [61] (fun i => ∃ j : Nat, i = .int .i64 (j : Int) ∧ j ≤ n ∧ ∀ t, t < j → kindS (ix l t) true = 0) (fun i => n - (intOf i).toNat)
 case atStart => exact ⟨0, rfl, by omega, fun t h => by omega⟩
 case round =>
  obtain ⟨j, rfl, hj, hno⟩ := hrel
  have HO := Lib.hid hno; clear hno
  by_cases hlt : j < n
  ·obtain ⟨b1, o1, rfl, hc⟩ := hI.at (k := j) (by rw [HN.out]; exact hlt)
   have e1 := hc j (by rw [HN.out]; exact hlt)
   clear hc hl hI
   by_cases hz : kindS (ix l j) true = 0
   ·have hz' : ix l j = 32 ∨ ix l j = 9 := kind_blank.1 hz
    have HZ := Lib.hid hz; clear hz
    rcases hz' with h | h
    all_goals
     rw [h] at e1
     clear h
     go_wp2
     go_round
     case rel => exact ⟨j + 1, by go_num, by omega, fun t h => by
      rcases Nat.lt_succ_iff_lt_or_eq.1 h with h | rfl
      ·exact HO.out t h
      ·exact HZ.out⟩
     case measure => simp [intOf]; omega
   ·have hz' : (ix l j != 32) = true ∧ (ix l j != 9) = true := by
     have := fun h => hz (kind_blank.2 h)
     simp; exact ⟨fun h => this (.inl h), fun h => this (.inr h)⟩
    obtain ⟨z1, z2⟩ := hz'
    have HF := Lib.hid (firstF_hit (by rw [HN.out]; exact hlt) hz HO.out)
    clear hz
    go_wp2
    go_ret3
    exact RGoPost.yes (by rw [HR.out, HF.out]) (below_drewN hacc _)
  ·obtain rfl : j = n := by omega
   have HF := Lib.hid (firstF_none (by rw [HN.out]; exact HO.out))
   have HF2 := Lib.hid (show firstF l = max 0 ((j : Int) - 1) by rw [HF.out, HN.out])
   clear hI hl
   rcases (show (j : Int) - 1 ≤ 0 ∨ 0 < (j : Int) - 1 by omega) with h0 | h0
   ·have HM := Lib.hid (show max 0 ((j : Int) - 1) = 0 by omega)
    go_wp2
    all_goals
     go_ret3
     exact RGoPost.yes (by rw [HR.out, HF2.out, HM.out]) (below_drewN hacc _)
   ·have HM := Lib.hid (show max 0 ((j : Int) - 1) = (j : Int) - 1 by omega)
    go_wp2
    all_goals
     go_ret3
     exact RGoPost.yes (by rw [HR.out, HF2.out, HM.out]) (below_drewN hacc _)
set_option maxRecDepth 100000 in
set_option maxHeartbeats 2000000 in
theorem rgo_first_P (a : Option Addr) (n c : Nat) (l : List Int) (k : Nat) (arg : Int) (op : Bool) (w : World) (hl : Ints w a l) (hn : l.length = n) (hn2 : n ≤ 4096) (hk : k ≤ n) (hk2 : k < n ∨ n = 0) (m : Nat) (hm0 : 1 ≤ m) (hm1 : m ≤ 999) :
  Calls Try.prog 146 #[.slice a n c, .int .i64 (k : Int), mvV 94 (m : Int) arg, .bool op] w (RGoPost (moS l k 94 (m : Int) arg op) w) := by
 have hmz : ((m : Int) == 0) = false := by simp; omega
 unfold mvV
 have hB4 := (Blk.new w #[.slice a n c] 22).alloc (.cells #[.int .i64 94, .int .i64 (m : Int), .int .i64 arg] 227)
 obtain ⟨c4, -⟩ := hB4.one
 have hB6 := Blk.new (w.alloc (.cells #[.slice a n c] 22)) #[.int .i64 94, .int .i64 (m : Int), .int .i64 arg] 227
 rw [World.size_alloc] at hB6
 obtain ⟨c0, c1, c2, -, -, -⟩ := hB6.three
 have hacc := below2 w (.cells #[.slice a n c] 22) (.cells #[.int .i64 94, .int .i64 (m : Int), .int .i64 arg] 227)
 have hI := hl.below hacc
 have HN := Lib.hid hn
 clear hn
 have HR := Lib.hid (show moS l k 94 (m : Int) arg op = some (firstF l, false) by simp [moS])
 go_enter Try.func146, Try.ntmps146
 go_upto_region 1 with fail
 change Code.wp _ _ _ _ ((w.alloc (.cells #[.slice a n c] 22)).alloc (.cells #[.int .i64 94, .int .i64 (m : Int), .int .i64 arg] 227))
 generalize (w.alloc (.cells #[.slice a n c] 22)).alloc (.cells #[.int .i64 94, .int .i64 (m : Int), .int .i64 arg] 227) = w1 at *
 go_quiet (fail)
 go_wp2
 go_loop [61] (fun i => ∃ j : Nat, i = .int .i64 (j : Int) ∧ j ≤ n ∧ ∀ t, t < j → kindS (ix l t) true = 0) (fun i => n - (intOf i).toNat)
 case atStart => exact ⟨0, rfl, by omega, fun t h => by omega⟩
 case round =>
  obtain ⟨j, rfl, hj, hno⟩ := hrel
  have HO := Lib.hid hno; clear hno
  by_cases hlt : j < n
  ·obtain ⟨b1, o1, rfl, hc⟩ := hI.at (k := j) (by rw [HN.out]; exact hlt)
   have e1 := hc j (by rw [HN.out]; exact hlt)
   clear hc hl hI
   by_cases hz : kindS (ix l j) true = 0
   ·have hz' : ix l j = 32 ∨ ix l j = 9 := kind_blank.1 hz
    have HZ := Lib.hid hz; clear hz
    rcases hz' with h | h
    all_goals
     rw [h] at e1
     clear h
     go_wp2
     go_round
     case rel => exact ⟨j + 1, by go_num, by omega, fun t h => by
      rcases Nat.lt_succ_iff_lt_or_eq.1 h with h | rfl
      ·exact HO.out t h
      ·exact HZ.out⟩
     case measure => simp [intOf]; omega
   ·have hz' : (ix l j != 32) = true ∧ (ix l j != 9) = true := by
     have := fun h => hz (kind_blank.2 h)
     simp; exact ⟨fun h => this (.inl h), fun h => this (.inr h)⟩
    obtain ⟨z1, z2⟩ := hz'
    have HF := Lib.hid (firstF_hit (by rw [HN.out]; exact hlt) hz HO.out)
    clear hz
    go_wp2
    go_ret3
    exact RGoPost.yes (by rw [HR.out, HF.out]) (below_drewN hacc _)
  ·obtain rfl : j = n := by omega
   have HF := Lib.hid (firstF_none (by rw [HN.out]; exact HO.out))
   have HF2 := Lib.hid (show firstF l = max 0 ((j : Int) - 1) by rw [HF.out, HN.out])
   clear hI hl
   rcases (show (j : Int) - 1 ≤ 0 ∨ 0 < (j : Int) - 1 by omega) with h0 | h0
   ·have HM := Lib.hid (show max 0 ((j : Int) - 1) = 0 by omega)
    go_wp2
    all_goals
     go_ret3
     exact RGoPost.yes (by rw [HR.out, HF2.out, HM.out]) (below_drewN hacc _)
   ·have HM := Lib.hid (show max 0 ((j : Int) - 1) = (j : Int) - 1 by omega)
    go_wp2
    all_goals
     go_ret3
     exact RGoPost.yes (by rw [HR.out, HF2.out, HM.out]) (below_drewN hacc _)
set_option maxRecDepth 100000 in
set_option maxHeartbeats 2000000 in
theorem rgo_b_Z (a : Option Addr) (n c : Nat) (l : List Int) (k : Nat) (arg : Int) (op : Bool) (w : World) (hl : Ints w a l) (hn : l.length = n) (hn2 : n ≤ 4096) (hk : k ≤ n) (hk2 : k < n ∨ n = 0) :
  Calls Try.prog 146 #[.slice a n c, .int .i64 (k : Int), mvV 98 0 arg, .bool op] w (RGoPost (moS l k 98 1 arg op) w) := by
 have hm0 : 1 ≤ 1 := Nat.le_refl _
 have hm1 : 1 ≤ 999 := by omega
 unfold mvV
 have hB4 := (Blk.new w #[.slice a n c] 22).alloc (.cells #[.int .i64 98, .int .i64 0, .int .i64 arg] 227)
 obtain ⟨c4, -⟩ := hB4.one
 have hB6 := Blk.new (w.alloc (.cells #[.slice a n c] 22)) #[.int .i64 98, .int .i64 0, .int .i64 arg] 227
 rw [World.size_alloc] at hB6
 obtain ⟨c0, c1, c2, -, -, -⟩ := hB6.three
 have hacc := below2 w (.cells #[.slice a n c] 22) (.cells #[.int .i64 98, .int .i64 0, .int .i64 arg] 227)
 have hI := hl.below hacc
 have HN := Lib.hid hn
 clear hn
 have hmf : ∀ (fn : Fn) (first cap : Array Value) (w : World), (Instr.makeFunc fn first cap).run Try.prog w = .ok (.func fn first cap) w := fun _ _ _ _ => rfl
 have CT := ref_times_back a n c l false 1 k 98 w.heap.size (w.heap.size + 1)
 by_cases h0 : k = 0
 ·have HR := Lib.hid (show moS l k 98 1 arg op = none by simp [moS, h0])
  have hb0 : ((k : Int) == 0) = true := by simp; omega
  clear h0
  go_enter Try.func146, Try.ntmps146
  go_upto_region 1 with fail
  change Code.wp _ _ _ _ ((w.alloc (.cells #[.slice a n c] 22)).alloc (.cells #[.int .i64 98, .int .i64 0, .int .i64 arg] 227))
  generalize (w.alloc (.cells #[.slice a n c] 22)).alloc (.cells #[.int .i64 98, .int .i64 0, .int .i64 arg] 227) = w1 at *
  go_quiet (fail)
  go_wp2_with ((go_at_call 186); refine (CT _ (hI.drewN _) HN.out hn2 hk (by omega) (by rfl) c4 c0).mono ?_; rintro e w5 ⟨rfl, rfl⟩)
  go_ret3
  exact RGoPost.no HR.out (below_drewN hacc _)
 ·have HR := Lib.hid (show moS l k 98 1 arg op = some (iterF (backF l false) 1 k, false) by simp [moS, h0])
  have hb0 : ((k : Int) == 0) = false := by simp; omega
  clear h0
  go_enter Try.func146, Try.ntmps146
  go_upto_region 1 with fail
  change Code.wp _ _ _ _ ((w.alloc (.cells #[.slice a n c] 22)).alloc (.cells #[.int .i64 98, .int .i64 0, .int .i64 arg] 227))
  generalize (w.alloc (.cells #[.slice a n c] 22)).alloc (.cells #[.int .i64 98, .int .i64 0, .int .i64 arg] 227) = w1 at *
  go_quiet (fail)
  go_wp2_with ((go_at_call 186); refine (CT _ (hI.drewN _) HN.out hn2 hk (by omega) (by rfl) c4 c0).mono ?_; rintro e w5 ⟨rfl, rfl⟩)
  go_ret3
  exact RGoPost.yes HR.out (below_drewN hacc _)
set_option maxRecDepth 100000 in
set_option maxHeartbeats 2000000 in
theorem rgo_b_P (a : Option Addr) (n c : Nat) (l : List Int) (k : Nat) (arg : Int) (op : Bool) (w : World) (hl : Ints w a l) (hn : l.length = n) (hn2 : n ≤ 4096) (hk : k ≤ n) (hk2 : k < n ∨ n = 0) (m : Nat) (hm0 : 1 ≤ m) (hm1 : m ≤ 999) :
  Calls Try.prog 146 #[.slice a n c, .int .i64 (k : Int), mvV 98 (m : Int) arg, .bool op] w (RGoPost (moS l k 98 (m : Int) arg op) w) := by
 have hmz : ((m : Int) == 0) = false := by simp; omega
 unfold mvV
 have hB4 := (Blk.new w #[.slice a n c] 22).alloc (.cells #[.int .i64 98, .int .i64 (m : Int), .int .i64 arg] 227)
 obtain ⟨c4, -⟩ := hB4.one
 have hB6 := Blk.new (w.alloc (.cells #[.slice a n c] 22)) #[.int .i64 98, .int .i64 (m : Int), .int .i64 arg] 227
 rw [World.size_alloc] at hB6
 obtain ⟨c0, c1, c2, -, -, -⟩ := hB6.three
 have hacc := below2 w (.cells #[.slice a n c] 22) (.cells #[.int .i64 98, .int .i64 (m : Int), .int .i64 arg] 227)
 have hI := hl.below hacc
 have HN := Lib.hid hn
 clear hn
 have hmf : ∀ (fn : Fn) (first cap : Array Value) (w : World), (Instr.makeFunc fn first cap).run Try.prog w = .ok (.func fn first cap) w := fun _ _ _ _ => rfl
 have CT := ref_times_back a n c l false m k 98 w.heap.size (w.heap.size + 1)
 by_cases h0 : k = 0
 ·have HR := Lib.hid (show moS l k 98 (m : Int) arg op = none by simp [moS, h0])
  have hb0 : ((k : Int) == 0) = true := by simp; omega
  clear h0
  go_enter Try.func146, Try.ntmps146
  go_upto_region 1 with fail
  change Code.wp _ _ _ _ ((w.alloc (.cells #[.slice a n c] 22)).alloc (.cells #[.int .i64 98, .int .i64 (m : Int), .int .i64 arg] 227))
  generalize (w.alloc (.cells #[.slice a n c] 22)).alloc (.cells #[.int .i64 98, .int .i64 (m : Int), .int .i64 arg] 227) = w1 at *
  go_quiet (fail)
  go_wp2_with ((go_at_call 186); refine (CT _ (hI.drewN _) HN.out hn2 hk (by omega) (by rfl) c4 c0).mono ?_; rintro e w5 ⟨rfl, rfl⟩)
  go_ret3
  exact RGoPost.no HR.out (below_drewN hacc _)
 ·have HR := Lib.hid (show moS l k 98 (m : Int) arg op = some (iterF (backF l false) m k, false) by simp [moS, h0])
  have hb0 : ((k : Int) == 0) = false := by simp; omega
  clear h0
  go_enter Try.func146, Try.ntmps146
  go_upto_region 1 with fail
  change Code.wp _ _ _ _ ((w.alloc (.cells #[.slice a n c] 22)).alloc (.cells #[.int .i64 98, .int .i64 (m : Int), .int .i64 arg] 227))
  generalize (w.alloc (.cells #[.slice a n c] 22)).alloc (.cells #[.int .i64 98, .int .i64 (m : Int), .int .i64 arg] 227) = w1 at *
  go_quiet (fail)
  go_wp2_with ((go_at_call 186); refine (CT _ (hI.drewN _) HN.out hn2 hk (by omega) (by rfl) c4 c0).mono ?_; rintro e w5 ⟨rfl, rfl⟩)
  go_ret3
  exact RGoPost.yes HR.out (below_drewN hacc _)
set_option maxRecDepth 100000 in
set_option maxHeartbeats 2000000 in
theorem rgo_B_Z (a : Option Addr) (n c : Nat) (l : List Int) (k : Nat) (arg : Int) (op : Bool) (w : World) (hl : Ints w a l) (hn : l.length = n) (hn2 : n ≤ 4096) (hk : k ≤ n) (hk2 : k < n ∨ n = 0) :
  Calls Try.prog 146 #[.slice a n c, .int .i64 (k : Int), mvV 66 0 arg, .bool op] w (RGoPost (moS l k 66 1 arg op) w) := by
 have hm0 : 1 ≤ 1 := Nat.le_refl _
 have hm1 : 1 ≤ 999 := by omega
 unfold mvV
 have hB4 := (Blk.new w #[.slice a n c] 22).alloc (.cells #[.int .i64 66, .int .i64 0, .int .i64 arg] 227)
 obtain ⟨c4, -⟩ := hB4.one
 have hB6 := Blk.new (w.alloc (.cells #[.slice a n c] 22)) #[.int .i64 66, .int .i64 0, .int .i64 arg] 227
 rw [World.size_alloc] at hB6
 obtain ⟨c0, c1, c2, -, -, -⟩ := hB6.three
 have hacc := below2 w (.cells #[.slice a n c] 22) (.cells #[.int .i64 66, .int .i64 0, .int .i64 arg] 227)
 have hI := hl.below hacc
 have HN := Lib.hid hn
 clear hn
 have hmf : ∀ (fn : Fn) (first cap : Array Value) (w : World), (Instr.makeFunc fn first cap).run Try.prog w = .ok (.func fn first cap) w := fun _ _ _ _ => rfl
 have CT := ref_times_back a n c l true 1 k 66 w.heap.size (w.heap.size + 1)
 by_cases h0 : k = 0
 ·have HR := Lib.hid (show moS l k 66 1 arg op = none by simp [moS, h0])
  have hb0 : ((k : Int) == 0) = true := by simp; omega
  clear h0
  go_enter Try.func146, Try.ntmps146
  go_upto_region 1 with fail
  change Code.wp _ _ _ _ ((w.alloc (.cells #[.slice a n c] 22)).alloc (.cells #[.int .i64 66, .int .i64 0, .int .i64 arg] 227))
  generalize (w.alloc (.cells #[.slice a n c] 22)).alloc (.cells #[.int .i64 66, .int .i64 0, .int .i64 arg] 227) = w1 at *
  go_quiet (fail)
  go_wp2_with ((go_at_call 186); refine (CT _ (hI.drewN _) HN.out hn2 hk (by omega) (by rfl) c4 c0).mono ?_; rintro e w5 ⟨rfl, rfl⟩)
  go_ret3
  exact RGoPost.no HR.out (below_drewN hacc _)
 ·have HR := Lib.hid (show moS l k 66 1 arg op = some (iterF (backF l true) 1 k, false) by simp [moS, h0])
  have hb0 : ((k : Int) == 0) = false := by simp; omega
  clear h0
  go_enter Try.func146, Try.ntmps146
  go_upto_region 1 with fail
  change Code.wp _ _ _ _ ((w.alloc (.cells #[.slice a n c] 22)).alloc (.cells #[.int .i64 66, .int .i64 0, .int .i64 arg] 227))
  generalize (w.alloc (.cells #[.slice a n c] 22)).alloc (.cells #[.int .i64 66, .int .i64 0, .int .i64 arg] 227) = w1 at *
  go_quiet (fail)
  go_wp2_with ((go_at_call 186); refine (CT _ (hI.drewN _) HN.out hn2 hk (by omega) (by rfl) c4 c0).mono ?_; rintro e w5 ⟨rfl, rfl⟩)
  go_ret3
  exact RGoPost.yes HR.out (below_drewN hacc _)
set_option maxRecDepth 100000 in
set_option maxHeartbeats 2000000 in
theorem rgo_B_P (a : Option Addr) (n c : Nat) (l : List Int) (k : Nat) (arg : Int) (op : Bool) (w : World) (hl : Ints w a l) (hn : l.length = n) (hn2 : n ≤ 4096) (hk : k ≤ n) (hk2 : k < n ∨ n = 0) (m : Nat) (hm0 : 1 ≤ m) (hm1 : m ≤ 999) :
  Calls Try.prog 146 #[.slice a n c, .int .i64 (k : Int), mvV 66 (m : Int) arg, .bool op] w (RGoPost (moS l k 66 (m : Int) arg op) w) := by
 have hmz : ((m : Int) == 0) = false := by simp; omega
 unfold mvV
 have hB4 := (Blk.new w #[.slice a n c] 22).alloc (.cells #[.int .i64 66, .int .i64 (m : Int), .int .i64 arg] 227)
 obtain ⟨c4, -⟩ := hB4.one
 have hB6 := Blk.new (w.alloc (.cells #[.slice a n c] 22)) #[.int .i64 66, .int .i64 (m : Int), .int .i64 arg] 227
 rw [World.size_alloc] at hB6
 obtain ⟨c0, c1, c2, -, -, -⟩ := hB6.three
 have hacc := below2 w (.cells #[.slice a n c] 22) (.cells #[.int .i64 66, .int .i64 (m : Int), .int .i64 arg] 227)
 have hI := hl.below hacc
 have HN := Lib.hid hn
 clear hn
 have hmf : ∀ (fn : Fn) (first cap : Array Value) (w : World), (Instr.makeFunc fn first cap).run Try.prog w = .ok (.func fn first cap) w := fun _ _ _ _ => rfl
 have CT := ref_times_back a n c l true m k 66 w.heap.size (w.heap.size + 1)
 by_cases h0 : k = 0
 ·have HR := Lib.hid (show moS l k 66 (m : Int) arg op = none by simp [moS, h0])
  have hb0 : ((k : Int) == 0) = true := by simp; omega
  clear h0
  go_enter Try.func146, Try.ntmps146
  go_upto_region 1 with fail
  change Code.wp _ _ _ _ ((w.alloc (.cells #[.slice a n c] 22)).alloc (.cells #[.int .i64 66, .int .i64 (m : Int), .int .i64 arg] 227))
  generalize (w.alloc (.cells #[.slice a n c] 22)).alloc (.cells #[.int .i64 66, .int .i64 (m : Int), .int .i64 arg] 227) = w1 at *
  go_quiet (fail)
  go_wp2_with ((go_at_call 186); refine (CT _ (hI.drewN _) HN.out hn2 hk (by omega) (by rfl) c4 c0).mono ?_; rintro e w5 ⟨rfl, rfl⟩)
  go_ret3
  exact RGoPost.no HR.out (below_drewN hacc _)
 ·have HR := Lib.hid (show moS l k 66 (m : Int) arg op = some (iterF (backF l true) m k, false) by simp [moS, h0])
  have hb0 : ((k : Int) == 0) = false := by simp; omega
  clear h0
  go_enter Try.func146, Try.ntmps146
  go_upto_region 1 with fail
  change Code.wp _ _ _ _ ((w.alloc (.cells #[.slice a n c] 22)).alloc (.cells #[.int .i64 66, .int .i64 (m : Int), .int .i64 arg] 227))
  generalize (w.alloc (.cells #[.slice a n c] 22)).alloc (.cells #[.int .i64 66, .int .i64 (m : Int), .int .i64 arg] 227) = w1 at *
  go_quiet (fail)
  go_wp2_with ((go_at_call 186); refine (CT _ (hI.drewN _) HN.out hn2 hk (by omega) (by rfl) c4 c0).mono ?_; rintro e w5 ⟨rfl, rfl⟩)
  go_ret3
  exact RGoPost.yes HR.out (below_drewN hacc _)
end Go.Proofs.Ytmipnikhgihcpaa
