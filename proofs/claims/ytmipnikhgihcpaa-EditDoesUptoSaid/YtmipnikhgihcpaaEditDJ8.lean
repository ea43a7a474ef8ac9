/- LiftEditDoes, part 8: joined from the texts Mot9. No condition of its own. -/
import Derived.Test.YtmipnikhgihcpaaEditDJ7
set_option linter.unusedVariables false
set_option linter.unusedSimpArgs false
namespace Go.Proofs.Ytmipnikhgihcpaa
open Go.RowKit
set_option maxRecDepth 100000 in
set_option maxHeartbeats 2000000 in
theorem rgo_nil36_Z (a : Option Addr) (n c : Nat) (l : List Int) (k : Nat) (arg : Int) (op : Bool) (w : World) (hl : Ints w a l) (hn : l.length = n) (hn2 : n ≤ 4096) (hk : k ≤ n) (hk2 : k < n ∨ n = 0) (h0 : n = 0) (hl0 : l.length = 0) :
  Calls Try.prog 146 #[.slice a n c, .int .i64 (k : Int), mvV 36 0 arg, .bool op] w (RGoPost (moS l k 36 1 arg op) w) := by
 have hm0 : 1 ≤ 1 := Nat.le_refl _
 have hm1 : 1 ≤ 999 := by omega
 subst h0
 unfold mvV
 have hB4 := (Blk.new w #[.slice a 0 c] 22).alloc (.cells #[.int .i64 36, .int .i64 0, .int .i64 arg] 227)
 obtain ⟨c4, -⟩ := hB4.one
 have hB6 := Blk.new (w.alloc (.cells #[.slice a 0 c] 22)) #[.int .i64 36, .int .i64 0, .int .i64 arg] 227
 rw [World.size_alloc] at hB6
 obtain ⟨c0, c1, c2, -, -, -⟩ := hB6.three
 have hacc := below2 w (.cells #[.slice a 0 c] 22) (.cells #[.int .i64 36, .int .i64 0, .int .i64 arg] 227)
 have hI := hl.below hacc
 have HN := Lib.hid hn
 clear hn
 have hk0 : k = 0 := by omega
 have HR := Lib.hid (show moS l k 36 1 arg op = none by simp [moS, hl0])
 clear hk0 hl0
 go_enter Try.func146, Try.ntmps146
 go_upto_region 1 with fail
 change Code.wp _ _ _ _ ((w.alloc (.cells #[.slice a 0 c] 22)).alloc (.cells #[.int .i64 36, .int .i64 0, .int .i64 arg] 227))
 generalize (w.alloc (.cells #[.slice a 0 c] 22)).alloc (.cells #[.int .i64 36, .int .i64 0, .int .i64 arg] 227) = w1 at *
 go_quiet (fail)
 go_wp2
 go_ret3
 exact RGoPost.no HR.out (below_drewN hacc _)
set_option maxRecDepth 100000 in
set_option maxHeartbeats 2000000 in
theorem rgo_nil36_P (a : Option Addr) (n c : Nat) (l : List Int) (k : Nat) (arg : Int) (op : Bool) (w : World) (hl : Ints w a l) (hn : l.length = n) (hn2 : n ≤ 4096) (hk : k ≤ n) (hk2 : k < n ∨ n = 0) (m : Nat) (hm0 : 1 ≤ m) (hm1 : m ≤ 999) (h0 : n = 0) (hl0 : l.length = 0) :
  Calls Try.prog 146 #[.slice a n c, .int .i64 (k : Int), mvV 36 (m : Int) arg, .bool op] w (RGoPost (moS l k 36 (m : Int) arg op) w) := by
 have hmz : ((m : Int) == 0) = false := by simp; omega
 subst h0
 unfold mvV
 have hB4 := (Blk.new w #[.slice a 0 c] 22).alloc (.cells #[.int .i64 36, .int .i64 (m : Int), .int .i64 arg] 227)
 obtain ⟨c4, -⟩ := hB4.one
 have hB6 := Blk.new (w.alloc (.cells #[.slice a 0 c] 22)) #[.int .i64 36, .int .i64 (m : Int), .int .i64 arg] 227
 rw [World.size_alloc] at hB6
 obtain ⟨c0, c1, c2, -, -, -⟩ := hB6.three
 have hacc := below2 w (.cells #[.slice a 0 c] 22) (.cells #[.int .i64 36, .int .i64 (m : Int), .int .i64 arg] 227)
 have hI := hl.below hacc
 have HN := Lib.hid hn
 clear hn
 have hk0 : k = 0 := by omega
 have HR := Lib.hid (show moS l k 36 (m : Int) arg op = none by simp [moS, hl0])
 clear hk0 hl0
 go_enter Try.func146, Try.ntmps146
 go_upto_region 1 with fail
 change Code.wp _ _ _ _ ((w.alloc (.cells #[.slice a 0 c] 22)).alloc (.cells #[.int .i64 36, .int .i64 (m : Int), .int .i64 arg] 227))
 generalize (w.alloc (.cells #[.slice a 0 c] 22)).alloc (.cells #[.int .i64 36, .int .i64 (m : Int), .int .i64 arg] 227) = w1 at *
 go_quiet (fail)
 go_wp2
 go_ret3
 exact RGoPost.no HR.out (below_drewN hacc _)
set_option maxRecDepth 100000 in
set_option maxHeartbeats 2000000 in
theorem rgo_nil124_Z (a : Option Addr) (n c : Nat) (l : List Int) (k : Nat) (arg : Int) (op : Bool) (w : World) (hl : Ints w a l) (hn : l.length = n) (hn2 : n ≤ 4096) (hk : k ≤ n) (hk2 : k < n ∨ n = 0) (h0 : n = 0) (hl0 : l.length = 0) :
  Calls Try.prog 146 #[.slice a n c, .int .i64 (k : Int), mvV 124 0 arg, .bool op] w (RGoPost (moS l k 124 1 arg op) w) := by
 have hm0 : 1 ≤ 1 := Nat.le_refl _
 have hm1 : 1 ≤ 999 := by omega
 subst h0
 unfold mvV
 have hB4 := (Blk.new w #[.slice a 0 c] 22).alloc (.cells #[.int .i64 124, .int .i64 0, .int .i64 arg] 227)
 obtain ⟨c4, -⟩ := hB4.one
 have hB6 := Blk.new (w.alloc (.cells #[.slice a 0 c] 22)) #[.int .i64 124, .int .i64 0, .int .i64 arg] 227
 rw [World.size_alloc] at hB6
 obtain ⟨c0, c1, c2, -, -, -⟩ := hB6.three
 have hacc := below2 w (.cells #[.slice a 0 c] 22) (.cells #[.int .i64 124, .int .i64 0, .int .i64 arg] 227)
 have hI := hl.below hacc
 have HN := Lib.hid hn
 clear hn
 have hk0 : k = 0 := by omega
 have HR := Lib.hid (show moS l k 124 1 arg op = none by simp [moS, hl0])
 clear hk0 hl0
 go_enter Try.func146, Try.ntmps146
 go_upto_region 1 with fail
 change Code.wp _ _ _ _ ((w.alloc (.cells #[.slice a 0 c] 22)).alloc (.cells #[.int .i64 124, .int .i64 0, .int .i64 arg] 227))
 generalize (w.alloc (.cells #[.slice a 0 c] 22)).alloc (.cells #[.int .i64 124, .int .i64 0, .int .i64 arg] 227) = w1 at *
 go_quiet (fail)
 go_wp2
 go_ret3
 exact RGoPost.no HR.out (below_drewN hacc _)
set_option maxRecDepth 100000 in
set_option maxHeartbeats 2000000 in
theorem rgo_nil124_P (a : Option Addr) (n c : Nat) (l : List Int) (k : Nat) (arg : Int) (op : Bool) (w : World) (hl : Ints w a l) (hn : l.length = n) (hn2 : n ≤ 4096) (hk : k ≤ n) (hk2 : k < n ∨ n = 0) (m : Nat) (hm0 : 1 ≤ m) (hm1 : m ≤ 999) (h0 : n = 0) (hl0 : l.length = 0) :
  Calls Try.prog 146 #[.slice a n c, .int .i64 (k : Int), mvV 124 (m : Int) arg, .bool op] w (RGoPost (moS l k 124 (m : Int) arg op) w) := by
 have hmz : ((m : Int) == 0) = false := by simp; omega
 subst h0
 unfold mvV
 have hB4 := (Blk.new w #[.slice a 0 c] 22).alloc (.cells #[.int .i64 124, .int .i64 (m : Int), .int .i64 arg] 227)
 obtain ⟨c4, -⟩ := hB4.one
 have hB6 := Blk.new (w.alloc (.cells #[.slice a 0 c] 22)) #[.int .i64 124, .int .i64 (m : Int), .int .i64 arg] 227
 rw [World.size_alloc] at hB6
 obtain ⟨c0, c1, c2, -, -, -⟩ := hB6.three
 have hacc := below2 w (.cells #[.slice a 0 c] 22) (.cells #[.int .i64 124, .int .i64 (m : Int), .int .i64 arg] 227)
 have hI := hl.below hacc
 have HN := Lib.hid hn
 clear hn
 have hk0 : k = 0 := by omega
 have HR := Lib.hid (show moS l k 124 (m : Int) arg op = none by simp [moS, hl0])
 clear hk0 hl0
 go_enter Try.func146, Try.ntmps146
 go_upto_region 1 with fail
 change Code.wp _ _ _ _ ((w.alloc (.cells #[.slice a 0 c] 22)).alloc (.cells #[.int .i64 124, .int .i64 (m : Int), .int .i64 arg] 227))
 generalize (w.alloc (.cells #[.slice a 0 c] 22)).alloc (.cells #[.int .i64 124, .int .i64 (m : Int), .int .i64 arg] 227) = w1 at *
 go_quiet (fail)
 go_wp2
 go_ret3
 exact RGoPost.no HR.out (below_drewN hacc _)
set_option maxRecDepth 100000 in
set_option maxHeartbeats 2000000 in
theorem rgo_nil119_Z (a : Option Addr) (n c : Nat) (l : List Int) (k : Nat) (arg : Int) (op : Bool) (w : World) (hl : Ints w a l) (hn : l.length = n) (hn2 : n ≤ 4096) (hk : k ≤ n) (hk2 : k < n ∨ n = 0) (h0 : n = 0) (hl0 : l.length = 0) :
  Calls Try.prog 146 #[.slice a n c, .int .i64 (k : Int), mvV 119 0 arg, .bool op] w (RGoPost (moS l k 119 1 arg op) w) := by
 have hm0 : 1 ≤ 1 := Nat.le_refl _
 have hm1 : 1 ≤ 999 := by omega
 subst h0
 unfold mvV
 have hB4 := (Blk.new w #[.slice a 0 c] 22).alloc (.cells #[.int .i64 119, .int .i64 0, .int .i64 arg] 227)
 obtain ⟨c4, -⟩ := hB4.one
 have hB6 := Blk.new (w.alloc (.cells #[.slice a 0 c] 22)) #[.int .i64 119, .int .i64 0, .int .i64 arg] 227
 rw [World.size_alloc] at hB6
 obtain ⟨c0, c1, c2, -, -, -⟩ := hB6.three
 have hacc := below2 w (.cells #[.slice a 0 c] 22) (.cells #[.int .i64 119, .int .i64 0, .int .i64 arg] 227)
 have hI := hl.below hacc
 have HN := Lib.hid hn
 clear hn
 have hk0 : k = 0 := by omega
 have HR := Lib.hid (show moS l k 119 1 arg op = none by simp [moS, hl0])
 clear hk0 hl0
 go_enter Try.func146, Try.ntmps146
 go_upto_region 1 with fail
 change Code.wp _ _ _ _ ((w.alloc (.cells #[.slice a 0 c] 22)).alloc (.cells #[.int .i64 119, .int .i64 0, .int .i64 arg] 227))
 generalize (w.alloc (.cells #[.slice a 0 c] 22)).alloc (.cells #[.int .i64 119, .int .i64 0, .int .i64 arg] 227) = w1 at *
 go_quiet (fail)
 go_wp2
 go_ret3
 exact RGoPost.no HR.out (below_drewN hacc _)
set_option maxRecDepth 100000 in
set_option maxHeartbeats 2000000 in
theorem rgo_nil119_P (a : Option Addr) (n c : Nat) (l : List Int) (k : Nat) (arg : Int) (op : Bool) (w : World) (hl : Ints w a l) (hn : l.length = n) (hn2 : n ≤ 4096) (hk : k ≤ n) (hk2 : k < n ∨ n = 0) (m : Nat) (hm0 : 1 ≤ m) (hm1 : m ≤ 999) (h0 : n = 0) (hl0 : l.length = 0) :
  Calls Try.prog 146 #[.slice a n c, .int .i64 (k : Int), mvV 119 (m : Int) arg, .bool op] w (RGoPost (moS l k 119 (m : Int) arg op) w) := by
 have hmz : ((m : Int) == 0) = false := by simp; omega
 subst h0
 unfold mvV
 have hB4 := (Blk.new w #[.slice a 0 c] 22).alloc (.cells #[.int .i64 119, .int .i64 (m : Int), .int .i64 arg] 227)
 obtain ⟨c4, -⟩ := hB4.one
 have hB6 := Blk.new (w.alloc (.cells #[.slice a 0 c] 22)) #[.int .i64 119, .int .i64 (m : Int), .int .i64 arg] 227
 rw [World.size_alloc] at hB6
 obtain ⟨c0, c1, c2, -, -, -⟩ := hB6.three
 have hacc := below2 w (.cells #[.slice a 0 c] 22) (.cells #[.int .i64 119, .int .i64 (m : Int), .int .i64 arg] 227)
 have hI := hl.below hacc
 have HN := Lib.hid hn
 clear hn
 have hk0 : k = 0 := by omega
 have HR := Lib.hid (show moS l k 119 (m : Int) arg op = none by simp [moS, hl0])
 clear hk0 hl0
 go_enter Try.func146, Try.ntmps146
 go_upto_region 1 with fail
 change Code.wp _ _ _ _ ((w.alloc (.cells #[.slice a 0 c] 22)).alloc (.cells #[.int .i64 119, .int .i64 (m : Int), .int .i64 arg] 227))
 generalize (w.alloc (.cells #[.slice a 0 c] 22)).alloc (.cells #[.int .i64 119, .int .i64 (m : Int), .int .i64 arg] 227) = w1 at *
 go_quiet (fail)
 go_wp2
 go_ret3
 exact RGoPost.no HR.out (below_drewN hacc _)
set_option maxRecDepth 100000 in
set_option maxHeartbeats 2000000 in
theorem rgo_nil87_Z (a : Option Addr) (n c : Nat) (l : List Int) (k : Nat) (arg : Int) (op : Bool) (w : World) (hl : Ints w a l) (hn : l.length = n) (hn2 : n ≤ 4096) (hk : k ≤ n) (hk2 : k < n ∨ n = 0) (h0 : n = 0) (hl0 : l.length = 0) :
  Calls Try.prog 146 #[.slice a n c, .int .i64 (k : Int), mvV 87 0 arg, .bool op] w (RGoPost (moS l k 87 1 arg op) w) := by
 have hm0 : 1 ≤ 1 := Nat.le_refl _
 have hm1 : 1 ≤ 999 := by omega
 subst h0
 unfold mvV
 have hB4 := (Blk.new w #[.slice a 0 c] 22).alloc (.cells #[.int .i64 87, .int .i64 0, .int .i64 arg] 227)
 obtain ⟨c4, -⟩ := hB4.one
 have hB6 := Blk.new (w.alloc (.cells #[.slice a 0 c] 22)) #[.int .i64 87, .int .i64 0, .int .i64 arg] 227
 rw [World.size_alloc] at hB6
 obtain ⟨c0, c1, c2, -, -, -⟩ := hB6.three
 have hacc := below2 w (.cells #[.slice a 0 c] 22) (.cells #[.int .i64 87, .int .i64 0, .int .i64 arg] 227)
 have hI := hl.below hacc
 have HN := Lib.hid hn
 clear hn
 have hk0 : k = 0 := by omega
 have HR := Lib.hid (show moS l k 87 1 arg op = none by simp [moS, hl0])
 clear hk0 hl0
 go_enter Try.func146, Try.ntmps146
 go_upto_region 1 with fail
 change Code.wp _ _ _ _ ((w.alloc (.cells #[.slice a 0 c] 22)).alloc (.cells #[.int .i64 87, .int .i64 0, .int .i64 arg] 227))
 generalize (w.alloc (.cells #[.slice a 0 c] 22)).alloc (.cells #[.int .i64 87, .int .i64 0, .int .i64 arg] 227) = w1 at *
 go_quiet (fail)
 go_wp2
 go_ret3
 exact RGoPost.no HR.out (below_drewN hacc _)
set_option maxRecDepth 100000 in
set_option maxHeartbeats 2000000 in
theorem rgo_nil87_P (a : Option Addr) (n c : Nat) (l : List Int) (k : Nat) (arg : Int) (op : Bool) (w : World) (hl : Ints w a l) (hn : l.length = n) (hn2 : n ≤ 4096) (hk : k ≤ n) (hk2 : k < n ∨ n = 0) (m : Nat) (hm0 : 1 ≤ m) (hm1 : m ≤ 999) (h0 : n = 0) (hl0 : l.length = 0) :
  Calls Try.prog 146 #[.slice a n c, .int .i64 (k : Int), mvV 87 (m : Int) arg, .bool op] w (RGoPost (moS l k 87 (m : Int) arg op) w) := by
 have hmz : ((m : Int) == 0) = false := by simp; omega
 subst h0
 unfold mvV
 have hB4 := (Blk.new w #[.slice a 0 c] 22).alloc (.cells #[.int .i64 87, .int .i64 (m : Int), .int .i64 arg] 227)
 obtain ⟨c4, -⟩ := hB4.one
 have hB6 := Blk.new (w.alloc (.cells #[.slice a 0 c] 22)) #[.int .i64 87, .int .i64 (m : Int), .int .i64 arg] 227
 rw [World.size_alloc] at hB6
 obtain ⟨c0, c1, c2, -, -, -⟩ := hB6.three
 have hacc := below2 w (.cells #[.slice a 0 c] 22) (.cells #[.int .i64 87, .int .i64 (m : Int), .int .i64 arg] 227)
 have hI := hl.below hacc
 have HN := Lib.hid hn
 clear hn
 have hk0 : k = 0 := by omega
 have HR := Lib.hid (show moS l k 87 (m : Int) arg op = none by simp [moS, hl0])
 clear hk0 hl0
 go_enter Try.func146, Try.ntmps146
 go_upto_region 1 with fail
 change Code.wp _ _ _ _ ((w.alloc (.cells #[.slice a 0 c] 22)).alloc (.cells #[.int .i64 87, .int .i64 (m : Int), .int .i64 arg] 227))
 generalize (w.alloc (.cells #[.slice a 0 c] 22)).alloc (.cells #[.int .i64 87, .int .i64 (m : Int), .int .i64 arg] 227) = w1 at *
 go_quiet (fail)
 go_wp2
 go_ret3
 exact RGoPost.no HR.out (below_drewN hacc _)
set_option maxRecDepth 100000 in
set_option maxHeartbeats 2000000 in
theorem rgo_nil101_Z (a : Option Addr) (n c : Nat) (l : List Int) (k : Nat) (arg : Int) (op : Bool) (w : World) (hl : Ints w a l) (hn : l.length = n) (hn2 : n ≤ 4096) (hk : k ≤ n) (hk2 : k < n ∨ n = 0) (h0 : n = 0) (hl0 : l.length = 0) :
  Calls Try.prog 146 #[.slice a n c, .int .i64 (k : Int), mvV 101 0 arg, .bool op] w (RGoPost (moS l k 101 1 arg op) w) := by
 have hm0 : 1 ≤ 1 := Nat.le_refl _
 have hm1 : 1 ≤ 999 := by omega
 subst h0
 unfold mvV
 have hB4 := (Blk.new w #[.slice a 0 c] 22).alloc (.cells #[.int .i64 101, .int .i64 0, .int .i64 arg] 227)
 obtain ⟨c4, -⟩ := hB4.one
 have hB6 := Blk.new (w.alloc (.cells #[.slice a 0 c] 22)) #[.int .i64 101, .int .i64 0, .int .i64 arg] 227
 rw [World.size_alloc] at hB6
 obtain ⟨c0, c1, c2, -, -, -⟩ := hB6.three
 have hacc := below2 w (.cells #[.slice a 0 c] 22) (.cells #[.int .i64 101, .int .i64 0, .int .i64 arg] 227)
 have hI := hl.below hacc
 have HN := Lib.hid hn
 clear hn
 have hk0 : k = 0 := by omega
 have HR := Lib.hid (show moS l k 101 1 arg op = none by simp [moS, hl0])
 clear hk0 hl0
 go_enter Try.func146, Try.ntmps146
 go_upto_region 1 with fail
 change Code.wp _ _ _ _ ((w.alloc (.cells #[.slice a 0 c] 22)).alloc (.cells #[.int .i64 101, .int .i64 0, .int .i64 arg] 227))
 generalize (w.alloc (.cells #[.slice a 0 c] 22)).alloc (.cells #[.int .i64 101, .int .i64 0, .int .i64 arg] 227) = w1 at *
 go_quiet (fail)
 go_wp2
 go_ret3
 exact RGoPost.no HR.out (below_drewN hacc _)
set_option maxRecDepth 100000 in
set_option maxHeartbeats 2000000 in
theorem rgo_nil101_P (a : Option Addr) (n c : Nat) (l : List Int) (k : Nat) (arg : Int) (op : Bool) (w : World) (hl : Ints w a l) (hn : l.length = n) (hn2 : n ≤ 4096) (hk : k ≤ n) (hk2 : k < n ∨ n = 0) (m : Nat) (hm0 : 1 ≤ m) (hm1 : m ≤ 999) (h0 : n = 0) (hl0 : l.length = 0) :
  Calls Try.prog 146 #[.slice a n c, .int .i64 (k : Int), mvV 101 (m : Int) arg, .bool op] w (RGoPost (moS l k 101 (m : Int) arg op) w) := by
 have hmz : ((m : Int) == 0) = false := by simp; omega
 subst h0
 unfold mvV
 have hB4 := (Blk.new w #[.slice a 0 c] 22).alloc (.cells #[.int .i64 101, .int .i64 (m : Int), .int .i64 arg] 227)
 obtain ⟨c4, -⟩ := hB4.one
 have hB6 := Blk.new (w.alloc (.cells #[.slice a 0 c] 22)) #[.int .i64 101, .int .i64 (m : Int), .int .i64 arg] 227
 rw [World.size_alloc] at hB6
 obtain ⟨c0, c1, c2, -, -, -⟩ := hB6.three
 have hacc := below2 w (.cells #[.slice a 0 c] 22) (.cells #[.int .i64 101, .int .i64 (m : Int), .int .i64 arg] 227)
 have hI := hl.below hacc
 have HN := Lib.hid hn
 clear hn
 have hk0 : k = 0 := by omega
 have HR := Lib.hid (show moS l k 101 (m : Int) arg op = none by simp [moS, hl0])
 clear hk0 hl0
 go_enter Try.func146, Try.ntmps146
 go_upto_region 1 with fail
 change Code.wp _ _ _ _ ((w.alloc (.cells #[.slice a 0 c] 22)).alloc (.cells #[.int .i64 101, .int .i64 (m : Int), .int .i64 arg] 227))
 generalize (w.alloc (.cells #[.slice a 0 c] 22)).alloc (.cells #[.int .i64 101, .int .i64 (m : Int), .int .i64 arg] 227) = w1 at *
 go_quiet (fail)
 go_wp2
 go_ret3
 exact RGoPost.no HR.out (below_drewN hacc _)
set_option maxRecDepth 100000 in
set_option maxHeartbeats 2000000 in
theorem rgo_nil69_Z (a : Option Addr) (n c : Nat) (l : List Int) (k : Nat) (arg : Int) (op : Bool) (w : World) (hl : Ints w a l) (hn : l.length = n) (hn2 : n ≤ 4096) (hk : k ≤ n) (hk2 : k < n ∨ n = 0) (h0 : n = 0) (hl0 : l.length = 0) :
  Calls Try.prog 146 #[.slice a n c, .int .i64 (k : Int), mvV 69 0 arg, .bool op] w (RGoPost (moS l k 69 1 arg op) w) := by
 have hm0 : 1 ≤ 1 := Nat.le_refl _
 have hm1 : 1 ≤ 999 := by omega
 subst h0
 unfold mvV
 have hB4 := (Blk.new w #[.slice a 0 c] 22).alloc (.cells #[.int .i64 69, .int .i64 0, .int .i64 arg] 227)
 obtain ⟨c4, -⟩ := hB4.one
 have hB6 := Blk.new (w.alloc (.cells #[.slice a 0 c] 22)) #[.int .i64 69, .int .i64 0, .int .i64 arg] 227
 rw [World.size_alloc] at hB6
 obtain ⟨c0, c1, c2, -, -, -⟩ := hB6.three
 have hacc := below2 w (.cells #[.slice a 0 c] 22) (.cells #[.int .i64 69, .int .i64 0, .int .i64 arg] 227)
 have hI := hl.below hacc
 have HN := Lib.hid hn
 clear hn
 have hk0 : k = 0 := by omega
 have HR := Lib.hid (show moS l k 69 1 arg op = none by simp [moS, hl0])
 clear hk0 hl0
 go_enter Try.func146, Try.ntmps146
 go_upto_region 1 with fail
 change Code.wp _ _ _ _ ((w.alloc (.cells #[.slice a 0 c] 22)).alloc (.cells #[.int .i64 69, .int .i64 0, .int .i64 arg] 227))
 generalize (w.alloc (.cells #[.slice a 0 c] 22)).alloc (.cells #[.int .i64 69, .int .i64 0, .int .i64 arg] 227) = w1 at *
 go_quiet (fail)
 go_wp2
 go_ret3
 exact RGoPost.no HR.out (below_drewN hacc _)
set_option maxRecDepth 100000 in
set_option maxHeartbeats 2000000 in
theorem rgo_nil69_P (a : Option Addr) (n c : Nat) (l : List Int) (k : Nat) (arg : Int) (op : Bool) (w : World) (hl : Ints w a l) (hn : l.length = n) (hn2 : n ≤ 4096) (hk : k ≤ n) (hk2 : k < n ∨ n = 0) (m : Nat) (hm0 : 1 ≤ m) (hm1 : m ≤ 999) (h0 : n = 0) (hl0 : l.length = 0) :
  Calls Try.prog 146 #[.slice a n c, .int .i64 (k : Int), mvV 69 (m : Int) arg, .bool op] w (RGoPost (moS l k 69 (m : Int) arg op) w) := by
 have hmz : ((m : Int) == 0) = false := by simp; omega
 subst h0
 unfold mvV
 have hB4 := (Blk.new w #[.slice a 0 c] 22).alloc (.cells #[.int .i64 69, .int .i64 (m : Int), .int .i64 arg] 227)
 obtain ⟨c4, -⟩ := hB4.one
 have hB6 := Blk.new (w.alloc (.cells #[.slice a 0 c] 22)) #[.int .i64 69, .int .i64 (m : Int), .int .i64 arg] 227
 rw [World.size_alloc] at hB6
 obtain ⟨c0, c1, c2, -, -, -⟩ := hB6.three
 have hacc := below2 w (.cells #[.slice a 0 c] 22) (.cells #[.int .i64 69, .int .i64 (m : Int), .int .i64 arg] 227)
 have hI := hl.below hacc
 have HN := Lib.hid hn
 clear hn
 have hk0 : k = 0 := by omega
 have HR := Lib.hid (show moS l k 69 (m : Int) arg op = none by simp [moS, hl0])
 clear hk0 hl0
 go_enter Try.func146, Try.ntmps146
 go_upto_region 1 with fail
 change Code.wp _ _ _ _ ((w.alloc (.cells #[.slice a 0 c] 22)).alloc (.cells #[.int .i64 69, .int .i64 (m : Int), .int .i64 arg] 227))
 generalize (w.alloc (.cells #[.slice a 0 c] 22)).alloc (.cells #[.int .i64 69, .int .i64 (m : Int), .int .i64 arg] 227) = w1 at *
 go_quiet (fail)
 go_wp2
 go_ret3
 exact RGoPost.no HR.out (below_drewN hacc _)
set_option maxRecDepth 100000 in
set_option maxHeartbeats 2000000 in
theorem rgo_nil37_Z (a : Option Addr) (n c : Nat) (l : List Int) (k : Nat) (arg : Int) (op : Bool) (w : World) (hl : Ints w a l) (hn : l.length = n) (hn2 : n ≤ 4096) (hk : k ≤ n) (hk2 : k < n ∨ n = 0) (h0 : n = 0) (hl0 : l.length = 0) :
  Calls Try.prog 146 #[.slice a n c, .int .i64 (k : Int), mvV 37 0 arg, .bool op] w (RGoPost (moS l k 37 1 arg op) w) := by
 have hm0 : 1 ≤ 1 := Nat.le_refl _
 have hm1 : 1 ≤ 999 := by omega
 subst h0
 unfold mvV
 have hB4 := (Blk.new w #[.slice a 0 c] 22).alloc (.cells #[.int .i64 37, .int .i64 0, .int .i64 arg] 227)
 obtain ⟨c4, -⟩ := hB4.one
 have hB6 := Blk.new (w.alloc (.cells #[.slice a 0 c] 22)) #[.int .i64 37, .int .i64 0, .int .i64 arg] 227
 rw [World.size_alloc] at hB6
 obtain ⟨c0, c1, c2, -, -, -⟩ := hB6.three
 have hacc := below2 w (.cells #[.slice a 0 c] 22) (.cells #[.int .i64 37, .int .i64 0, .int .i64 arg] 227)
 have hI := hl.below hacc
 have HN := Lib.hid hn
 clear hn
 have hk0 : k = 0 := by omega
 have HR := Lib.hid (show moS l k 37 1 arg op = none by simp [moS, hl0])
 clear hk0 hl0
 go_enter Try.func146, Try.ntmps146
 go_upto_region 1 with fail
 change Code.wp _ _ _ _ ((w.alloc (.cells #[.slice a 0 c] 22)).alloc (.cells #[.int .i64 37, .int .i64 0, .int .i64 arg] 227))
 generalize (w.alloc (.cells #[.slice a 0 c] 22)).alloc (.cells #[.int .i64 37, .int .i64 0, .int .i64 arg] 227) = w1 at *
 go_quiet (fail)
 go_wp2
 go_ret3
 exact RGoPost.no HR.out (below_drewN hacc _)
set_option maxRecDepth 100000 in
set_option maxHeartbeats 2000000 in
theorem rgo_nil37_P (a : Option Addr) (n c : Nat) (l : List Int) (k : Nat) (arg : Int) (op : Bool) (w : World) (hl : Ints w a l) (hn : l.length = n) (hn2 : n ≤ 4096) (hk : k ≤ n) (hk2 : k < n ∨ n = 0) (m : Nat) (hm0 : 1 ≤ m) (hm1 : m ≤ 999) (h0 : n = 0) (hl0 : l.length = 0) :
  Calls Try.prog 146 #[.slice a n c, .int .i64 (k : Int), mvV 37 (m : Int) arg, .bool op] w (RGoPost (moS l k 37 (m : Int) arg op) w) := by
 have hmz : ((m : Int) == 0) = false := by simp; omega
 subst h0
 unfold mvV
 have hB4 := (Blk.new w #[.slice a 0 c] 22).alloc (.cells #[.int .i64 37, .int .i64 (m : Int), .int .i64 arg] 227)
 obtain ⟨c4, -⟩ := hB4.one
 have hB6 := Blk.new (w.alloc (.cells #[.slice a 0 c] 22)) #[.int .i64 37, .int .i64 (m : Int), .int .i64 arg] 227
 rw [World.size_alloc] at hB6
 obtain ⟨c0, c1, c2, -, -, -⟩ := hB6.three
 have hacc := below2 w (.cells #[.slice a 0 c] 22) (.cells #[.int .i64 37, .int .i64 (m : Int), .int .i64 arg] 227)
 have hI := hl.below hacc
 have HN := Lib.hid hn
 clear hn
 have hk0 : k = 0 := by omega
 have HR := Lib.hid (show moS l k 37 (m : Int) arg op = none by simp [moS, hl0])
 clear hk0 hl0
 go_enter Try.func146, Try.ntmps146
 go_upto_region 1 with fail
 change Code.wp _ _ _ _ ((w.alloc (.cells #[.slice a 0 c] 22)).alloc (.cells #[.int .i64 37, .int .i64 (m : Int), .int .i64 arg] 227))
 generalize (w.alloc (.cells #[.slice a 0 c] 22)).alloc (.cells #[.int .i64 37, .int .i64 (m : Int), .int .i64 arg] 227) = w1 at *
 go_quiet (fail)
 go_wp2
 go_ret3
 exact RGoPost.no HR.out (below_drewN hacc _)
set_option maxRecDepth 100000 in
set_option maxHeartbeats 2000000 in
theorem rgo_nil102_Z (a : Option Addr) (n c : Nat) (l : List Int) (k : Nat) (arg : Int) (op : Bool) (w : World) (hl : Ints w a l) (hn : l.length = n) (hn2 : n ≤ 4096) (hk : k ≤ n) (hk2 : k < n ∨ n = 0) (h0 : n = 0) (hl0 : l.length = 0) :
  Calls Try.prog 146 #[.slice a n c, .int .i64 (k : Int), mvV 102 0 arg, .bool op] w (RGoPost (moS l k 102 1 arg op) w) := by
 have hm0 : 1 ≤ 1 := Nat.le_refl _
 have hm1 : 1 ≤ 999 := by omega
 subst h0
 unfold mvV
 have hB4 := (Blk.new w #[.slice a 0 c] 22).alloc (.cells #[.int .i64 102, .int .i64 0, .int .i64 arg] 227)
 obtain ⟨c4, -⟩ := hB4.one
 have hB6 := Blk.new (w.alloc (.cells #[.slice a 0 c] 22)) #[.int .i64 102, .int .i64 0, .int .i64 arg] 227
 rw [World.size_alloc] at hB6
 obtain ⟨c0, c1, c2, -, -, -⟩ := hB6.three
 have hacc := below2 w (.cells #[.slice a 0 c] 22) (.cells #[.int .i64 102, .int .i64 0, .int .i64 arg] 227)
 have hI := hl.below hacc
 have HN := Lib.hid hn
 clear hn
 have hk0 : k = 0 := by omega
 have HR := Lib.hid (show moS l k 102 1 arg op = none by simp [moS, placesR, plU, hl0])
 clear hk0 hl0
 go_enter Try.func146, Try.ntmps146
 go_upto_region 1 with fail
 change Code.wp _ _ _ _ ((w.alloc (.cells #[.slice a 0 c] 22)).alloc (.cells #[.int .i64 102, .int .i64 0, .int .i64 arg] 227))
 generalize (w.alloc (.cells #[.slice a 0 c] 22)).alloc (.cells #[.int .i64 102, .int .i64 0, .int .i64 arg] 227) = w1 at *
 go_quiet (fail)
 go_wp2
 go_ret3
 exact RGoPost.no HR.out (below_drewN hacc _)
set_option maxRecDepth 100000 in
set_option maxHeartbeats 2000000 in
theorem rgo_nil102_P (a : Option Addr) (n c : Nat) (l : List Int) (k : Nat) (arg : Int) (op : Bool) (w : World) (hl : Ints w a l) (hn : l.length = n) (hn2 : n ≤ 4096) (hk : k ≤ n) (hk2 : k < n ∨ n = 0) (m : Nat) (hm0 : 1 ≤ m) (hm1 : m ≤ 999) (h0 : n = 0) (hl0 : l.length = 0) :
  Calls Try.prog 146 #[.slice a n c, .int .i64 (k : Int), mvV 102 (m : Int) arg, .bool op] w (RGoPost (moS l k 102 (m : Int) arg op) w) := by
 have hmz : ((m : Int) == 0) = false := by simp; omega
 subst h0
 unfold mvV
 have hB4 := (Blk.new w #[.slice a 0 c] 22).alloc (.cells #[.int .i64 102, .int .i64 (m : Int), .int .i64 arg] 227)
 obtain ⟨c4, -⟩ := hB4.one
 have hB6 := Blk.new (w.alloc (.cells #[.slice a 0 c] 22)) #[.int .i64 102, .int .i64 (m : Int), .int .i64 arg] 227
 rw [World.size_alloc] at hB6
 obtain ⟨c0, c1, c2, -, -, -⟩ := hB6.three
 have hacc := below2 w (.cells #[.slice a 0 c] 22) (.cells #[.int .i64 102, .int .i64 (m : Int), .int .i64 arg] 227)
 have hI := hl.below hacc
 have HN := Lib.hid hn
 clear hn
 have hk0 : k = 0 := by omega
 have HR := Lib.hid (show moS l k 102 (m : Int) arg op = none by simp [moS, placesR, plU, hl0])
 clear hk0 hl0
 go_enter Try.func146, Try.ntmps146
 go_upto_region 1 with fail
 change Code.wp _ _ _ _ ((w.alloc (.cells #[.slice a 0 c] 22)).alloc (.cells #[.int .i64 102, .int .i64 (m : Int), .int .i64 arg] 227))
 generalize (w.alloc (.cells #[.slice a 0 c] 22)).alloc (.cells #[.int .i64 102, .int .i64 (m : Int), .int .i64 arg] 227) = w1 at *
 go_quiet (fail)
 go_wp2
 go_ret3
 exact RGoPost.no HR.out (below_drewN hacc _)
set_option maxRecDepth 100000 in
set_option maxHeartbeats 2000000 in
theorem rgo_nil70_Z (a : Option Addr) (n c : Nat) (l : List Int) (k : Nat) (arg : Int) (op : Bool) (w : World) (hl : Ints w a l) (hn : l.length = n) (hn2 : n ≤ 4096) (hk : k ≤ n) (hk2 : k < n ∨ n = 0) (h0 : n = 0) (hl0 : l.length = 0) :
  Calls Try.prog 146 #[.slice a n c, .int .i64 (k : Int), mvV 70 0 arg, .bool op] w (RGoPost (moS l k 70 1 arg op) w) := by
 have hm0 : 1 ≤ 1 := Nat.le_refl _
 have hm1 : 1 ≤ 999 := by omega
 subst h0
 unfold mvV
 have hB4 := (Blk.new w #[.slice a 0 c] 22).alloc (.cells #[.int .i64 70, .int .i64 0, .int .i64 arg] 227)
 obtain ⟨c4, -⟩ := hB4.one
 have hB6 := Blk.new (w.alloc (.cells #[.slice a 0 c] 22)) #[.int .i64 70, .int .i64 0, .int .i64 arg] 227
 rw [World.size_alloc] at hB6
 obtain ⟨c0, c1, c2, -, -, -⟩ := hB6.three
 have hacc := below2 w (.cells #[.slice a 0 c] 22) (.cells #[.int .i64 70, .int .i64 0, .int .i64 arg] 227)
 have hI := hl.below hacc
 have HN := Lib.hid hn
 clear hn
 have hk0 : k = 0 := by omega
 have HR := Lib.hid (show moS l k 70 1 arg op = none by simp [moS, placesL, plD, hl0, hk0])
 clear hk0 hl0
 go_enter Try.func146, Try.ntmps146
 go_upto_region 1 with fail
 change Code.wp _ _ _ _ ((w.alloc (.cells #[.slice a 0 c] 22)).alloc (.cells #[.int .i64 70, .int .i64 0, .int .i64 arg] 227))
 generalize (w.alloc (.cells #[.slice a 0 c] 22)).alloc (.cells #[.int .i64 70, .int .i64 0, .int .i64 arg] 227) = w1 at *
 go_quiet (fail)
 go_wp2
 go_ret3
 exact RGoPost.no HR.out (below_drewN hacc _)
set_option maxRecDepth 100000 in
set_option maxHeartbeats 2000000 in
theorem rgo_nil70_P (a : Option Addr) (n c : Nat) (l : List Int) (k : Nat) (arg : Int) (op : Bool) (w : World) (hl : Ints w a l) (hn : l.length = n) (hn2 : n ≤ 4096) (hk : k ≤ n) (hk2 : k < n ∨ n = 0) (m : Nat) (hm0 : 1 ≤ m) (hm1 : m ≤ 999) (h0 : n = 0) (hl0 : l.length = 0) :
  Calls Try.prog 146 #[.slice a n c, .int .i64 (k : Int), mvV 70 (m : Int) arg, .bool op] w (RGoPost (moS l k 70 (m : Int) arg op) w) := by
 have hmz : ((m : Int) == 0) = false := by simp; omega
 subst h0
 unfold mvV
 have hB4 := (Blk.new w #[.slice a 0 c] 22).alloc (.cells #[.int .i64 70, .int .i64 (m : Int), .int .i64 arg] 227)
 obtain ⟨c4, -⟩ := hB4.one
 have hB6 := Blk.new (w.alloc (.cells #[.slice a 0 c] 22)) #[.int .i64 70, .int .i64 (m : Int), .int .i64 arg] 227
 rw [World.size_alloc] at hB6
 obtain ⟨c0, c1, c2, -, -, -⟩ := hB6.three
 have hacc := below2 w (.cells #[.slice a 0 c] 22) (.cells #[.int .i64 70, .int .i64 (m : Int), .int .i64 arg] 227)
 have hI := hl.below hacc
 have HN := Lib.hid hn
 clear hn
 have hk0 : k = 0 := by omega
 have HR := Lib.hid (show moS l k 70 (m : Int) arg op = none by simp [moS, placesL, plD, hl0, hk0])
 clear hk0 hl0
 go_enter Try.func146, Try.ntmps146
 go_upto_region 1 with fail
 change Code.wp _ _ _ _ ((w.alloc (.cells #[.slice a 0 c] 22)).alloc (.cells #[.int .i64 70, .int .i64 (m : Int), .int .i64 arg] 227))
 generalize (w.alloc (.cells #[.slice a 0 c] 22)).alloc (.cells #[.int .i64 70, .int .i64 (m : Int), .int .i64 arg] 227) = w1 at *
 go_quiet (fail)
 go_wp2
 go_ret3
 exact RGoPost.no HR.out (below_drewN hacc _)
set_option maxRecDepth 100000 in
set_option maxHeartbeats 2000000 in
theorem rgo_nil116_Z (a : Option Addr) (n c : Nat) (l : List Int) (k : Nat) (arg : Int) (op : Bool) (w : World) (hl : Ints w a l) (hn : l.length = n) (hn2 : n ≤ 4096) (hk : k ≤ n) (hk2 : k < n ∨ n = 0) (h0 : n = 0) (hl0 : l.length = 0) :
  Calls Try.prog 146 #[.slice a n c, .int .i64 (k : Int), mvV 116 0 arg, .bool op] w (RGoPost (moS l k 116 1 arg op) w) := by
 have hm0 : 1 ≤ 1 := Nat.le_refl _
 have hm1 : 1 ≤ 999 := by omega
 subst h0
 unfold mvV
 have hB4 := (Blk.new w #[.slice a 0 c] 22).alloc (.cells #[.int .i64 116, .int .i64 0, .int .i64 arg] 227)
 obtain ⟨c4, -⟩ := hB4.one
 have hB6 := Blk.new (w.alloc (.cells #[.slice a 0 c] 22)) #[.int .i64 116, .int .i64 0, .int .i64 arg] 227
 rw [World.size_alloc] at hB6
 obtain ⟨c0, c1, c2, -, -, -⟩ := hB6.three
 have hacc := below2 w (.cells #[.slice a 0 c] 22) (.cells #[.int .i64 116, .int .i64 0, .int .i64 arg] 227)
 have hI := hl.below hacc
 have HN := Lib.hid hn
 clear hn
 have hk0 : k = 0 := by omega
 have HR := Lib.hid (show moS l k 116 1 arg op = none by simp [moS, placesR, plU, hl0])
 clear hk0 hl0
 go_enter Try.func146, Try.ntmps146
 go_upto_region 1 with fail
 change Code.wp _ _ _ _ ((w.alloc (.cells #[.slice a 0 c] 22)).alloc (.cells #[.int .i64 116, .int .i64 0, .int .i64 arg] 227))
 generalize (w.alloc (.cells #[.slice a 0 c] 22)).alloc (.cells #[.int .i64 116, .int .i64 0, .int .i64 arg] 227) = w1 at *
 go_quiet (fail)
 go_wp2
 go_ret3
 exact RGoPost.no HR.out (below_drewN hacc _)
set_option maxRecDepth 100000 in
set_option maxHeartbeats 2000000 in
theorem rgo_nil116_P (a : Option Addr) (n c : Nat) (l : List Int) (k : Nat) (arg : Int) (op : Bool) (w : World) (hl : Ints w a l) (hn : l.length = n) (hn2 : n ≤ 4096) (hk : k ≤ n) (hk2 : k < n ∨ n = 0) (m : Nat) (hm0 : 1 ≤ m) (hm1 : m ≤ 999) (h0 : n = 0) (hl0 : l.length = 0) :
  Calls Try.prog 146 #[.slice a n c, .int .i64 (k : Int), mvV 116 (m : Int) arg, .bool op] w (RGoPost (moS l k 116 (m : Int) arg op) w) := by
 have hmz : ((m : Int) == 0) = false := by simp; omega
 subst h0
 unfold mvV
 have hB4 := (Blk.new w #[.slice a 0 c] 22).alloc (.cells #[.int .i64 116, .int .i64 (m : Int), .int .i64 arg] 227)
 obtain ⟨c4, -⟩ := hB4.one
 have hB6 := Blk.new (w.alloc (.cells #[.slice a 0 c] 22)) #[.int .i64 116, .int .i64 (m : Int), .int .i64 arg] 227
 rw [World.size_alloc] at hB6
 obtain ⟨c0, c1, c2, -, -, -⟩ := hB6.three
 have hacc := below2 w (.cells #[.slice a 0 c] 22) (.cells #[.int .i64 116, .int .i64 (m : Int), .int .i64 arg] 227)
 have hI := hl.below hacc
 have HN := Lib.hid hn
 clear hn
 have hk0 : k = 0 := by omega
 have HR := Lib.hid (show moS l k 116 (m : Int) arg op = none by simp [moS, placesR, plU, hl0])
 clear hk0 hl0
 go_enter Try.func146, Try.ntmps146
 go_upto_region 1 with fail
 change Code.wp _ _ _ _ ((w.alloc (.cells #[.slice a 0 c] 22)).alloc (.cells #[.int .i64 116, .int .i64 (m : Int), .int .i64 arg] 227))
 generalize (w.alloc (.cells #[.slice a 0 c] 22)).alloc (.cells #[.int .i64 116, .int .i64 (m : Int), .int .i64 arg] 227) = w1 at *
 go_quiet (fail)
 go_wp2
 go_ret3
 exact RGoPost.no HR.out (below_drewN hacc _)
set_option maxRecDepth 100000 in
set_option maxHeartbeats 2000000 in
theorem rgo_nil84_Z (a : Option Addr) (n c : Nat) (l : List Int) (k : Nat) (arg : Int) (op : Bool) (w : World) (hl : Ints w a l) (hn : l.length = n) (hn2 : n ≤ 4096) (hk : k ≤ n) (hk2 : k < n ∨ n = 0) (h0 : n = 0) (hl0 : l.length = 0) :
  Calls Try.prog 146 #[.slice a n c, .int .i64 (k : Int), mvV 84 0 arg, .bool op] w (RGoPost (moS l k 84 1 arg op) w) := by
 have hm0 : 1 ≤ 1 := Nat.le_refl _
 have hm1 : 1 ≤ 999 := by omega
 subst h0
 unfold mvV
 have hB4 := (Blk.new w #[.slice a 0 c] 22).alloc (.cells #[.int .i64 84, .int .i64 0, .int .i64 arg] 227)
 obtain ⟨c4, -⟩ := hB4.one
 have hB6 := Blk.new (w.alloc (.cells #[.slice a 0 c] 22)) #[.int .i64 84, .int .i64 0, .int .i64 arg] 227
 rw [World.size_alloc] at hB6
 obtain ⟨c0, c1, c2, -, -, -⟩ := hB6.three
 have hacc := below2 w (.cells #[.slice a 0 c] 22) (.cells #[.int .i64 84, .int .i64 0, .int .i64 arg] 227)
 have hI := hl.below hacc
 have HN := Lib.hid hn
 clear hn
 have hk0 : k = 0 := by omega
 have HR := Lib.hid (show moS l k 84 1 arg op = none by simp [moS, placesL, plD, hl0, hk0])
 clear hk0 hl0
 go_enter Try.func146, Try.ntmps146
 go_upto_region 1 with fail
 change Code.wp _ _ _ _ ((w.alloc (.cells #[.slice a 0 c] 22)).alloc (.cells #[.int .i64 84, .int .i64 0, .int .i64 arg] 227))
 generalize (w.alloc (.cells #[.slice a 0 c] 22)).alloc (.cells #[.int .i64 84, .int .i64 0, .int .i64 arg] 227) = w1 at *
 go_quiet (fail)
 go_wp2
 go_ret3
 exact RGoPost.no HR.out (below_drewN hacc _)
set_option maxRecDepth 100000 in
set_option maxHeartbeats 2000000 in
theorem rgo_nil84_P (a : Option Addr) (n c : Nat) (l : List Int) (k : Nat) (arg : Int) (op : Bool) (w : World) (hl : Ints w a l) (hn : l.length = n) (hn2 : n ≤ 4096) (hk : k ≤ n) (hk2 : k < n ∨ n = 0) (m : Nat) (hm0 : 1 ≤ m) (hm1 : m ≤ 999) (h0 : n = 0) (hl0 : l.length = 0) :
  Calls Try.prog 146 #[.slice a n c, .int .i64 (k : Int), mvV 84 (m : Int) arg, .bool op] w (RGoPost (moS l k 84 (m : Int) arg op) w) := by
 have hmz : ((m : Int) == 0) = false := by simp; omega
 subst h0
 unfold mvV
 have hB4 := (Blk.new w #[.slice a 0 c] 22).alloc (.cells #[.int .i64 84, .int .i64 (m : Int), .int .i64 arg] 227)
 obtain ⟨c4, -⟩ := hB4.one
 have hB6 := Blk.new (w.alloc (.cells #[.slice a 0 c] 22)) #[.int .i64 84, .int .i64 (m : Int), .int .i64 arg] 227
 rw [World.size_alloc] at hB6
 obtain ⟨c0, c1, c2, -, -, -⟩ := hB6.three
 have hacc := below2 w (.cells #[.slice a 0 c] 22) (.cells #[.int .i64 84, .int .i64 (m : Int), .int .i64 arg] 227)
 have hI := hl.below hacc
 have HN := Lib.hid hn
 clear hn
 have hk0 : k = 0 := by omega
 have HR := Lib.hid (show moS l k 84 (m : Int) arg op = none by simp [moS, placesL, plD, hl0, hk0])
 clear hk0 hl0
 go_enter Try.func146, Try.ntmps146
 go_upto_region 1 with fail
 change Code.wp _ _ _ _ ((w.alloc (.cells #[.slice a 0 c] 22)).alloc (.cells #[.int .i64 84, .int .i64 (m : Int), .int .i64 arg] 227))
 generalize (w.alloc (.cells #[.slice a 0 c] 22)).alloc (.cells #[.int .i64 84, .int .i64 (m : Int), .int .i64 arg] 227) = w1 at *
 go_quiet (fail)
 go_wp2
 go_ret3
 exact RGoPost.no HR.out (below_drewN hacc _)
set_option maxRecDepth 100000 in
set_option maxHeartbeats 2000000 in
theorem rgo_36_Z (a : Option Addr) (n c : Nat) (l : List Int) (k : Nat) (arg : Int) (op : Bool) (w : World) (hl : Ints w a l) (hn : l.length = n) (hn2 : n ≤ 4096) (hk : k ≤ n) (hk2 : k < n ∨ n = 0) (h0 : 1 ≤ n) (hl0 : l.length ≠ 0) :
  Calls Try.prog 146 #[.slice a n c, .int .i64 (k : Int), mvV 36 0 arg, .bool op] w (RGoPost (moS l k 36 1 arg op) w) := by
 have hm0 : 1 ≤ 1 := Nat.le_refl _
 have hm1 : 1 ≤ 999 := by omega
 unfold mvV
 have hB4 := (Blk.new w #[.slice a n c] 22).alloc (.cells #[.int .i64 36, .int .i64 0, .int .i64 arg] 227)
 obtain ⟨c4, -⟩ := hB4.one
 have hB6 := Blk.new (w.alloc (.cells #[.slice a n c] 22)) #[.int .i64 36, .int .i64 0, .int .i64 arg] 227
 rw [World.size_alloc] at hB6
 obtain ⟨c0, c1, c2, -, -, -⟩ := hB6.three
 have hacc := below2 w (.cells #[.slice a n c] 22) (.cells #[.int .i64 36, .int .i64 0, .int .i64 arg] 227)
 have hI := hl.below hacc
 have HN := Lib.hid hn
 clear hn
 have hn0 : ((n : Int) == 0) = false := by simp; omega
 have hln : ((l.length : Nat) : Int) = (n : Int) := by rw [HN.out]
 have HR := Lib.hid (show moS l k 36 1 arg op = some ((n : Int) - 1, true) by simp [moS, hl0, hln])
 clear hln hl0
 go_enter Try.func146, Try.ntmps146
 go_upto_region 1 with fail
 change Code.wp _ _ _ _ ((w.alloc (.cells #[.slice a n c] 22)).alloc (.cells #[.int .i64 36, .int .i64 0, .int .i64 arg] 227))
 generalize (w.alloc (.cells #[.slice a n c] 22)).alloc (.cells #[.int .i64 36, .int .i64 0, .int .i64 arg] 227) = w1 at *
 go_quiet (fail)
 go_wp2
 go_ret3
 exact RGoPost.yes HR.out (below_drewN hacc _)
set_option maxRecDepth 100000 in
set_option maxHeartbeats 2000000 in
theorem rgo_36_P (a : Option Addr) (n c : Nat) (l : List Int) (k : Nat) (arg : Int) (op : Bool) (w : World) (hl : Ints w a l) (hn : l.length = n) (hn2 : n ≤ 4096) (hk : k ≤ n) (hk2 : k < n ∨ n = 0) (m : Nat) (hm0 : 1 ≤ m) (hm1 : m ≤ 999) (h0 : 1 ≤ n) (hl0 : l.length ≠ 0) :
  Calls Try.prog 146 #[.slice a n c, .int .i64 (k : Int), mvV 36 (m : Int) arg, .bool op] w (RGoPost (moS l k 36 (m : Int) arg op) w) := by
 have hmz : ((m : Int) == 0) = false := by simp; omega
 unfold mvV
 have hB4 := (Blk.new w #[.slice a n c] 22).alloc (.cells #[.int .i64 36, .int .i64 (m : Int), .int .i64 arg] 227)
 obtain ⟨c4, -⟩ := hB4.one
 have hB6 := Blk.new (w.alloc (.cells #[.slice a n c] 22)) #[.int .i64 36, .int .i64 (m : Int), .int .i64 arg] 227
 rw [World.size_alloc] at hB6
 obtain ⟨c0, c1, c2, -, -, -⟩ := hB6.three
 have hacc := below2 w (.cells #[.slice a n c] 22) (.cells #[.int .i64 36, .int .i64 (m : Int), .int .i64 arg] 227)
 have hI := hl.below hacc
 have HN := Lib.hid hn
 clear hn
 have hn0 : ((n : Int) == 0) = false := by simp; omega
 have hln : ((l.length : Nat) : Int) = (n : Int) := by rw [HN.out]
 have HR := Lib.hid (show moS l k 36 (m : Int) arg op = some ((n : Int) - 1, true) by simp [moS, hl0, hln])
 clear hln hl0
 go_enter Try.func146, Try.ntmps146
 go_upto_region 1 with fail
 change Code.wp _ _ _ _ ((w.alloc (.cells #[.slice a n c] 22)).alloc (.cells #[.int .i64 36, .int .i64 (m : Int), .int .i64 arg] 227))
 generalize (w.alloc (.cells #[.slice a n c] 22)).alloc (.cells #[.int .i64 36, .int .i64 (m : Int), .int .i64 arg] 227) = w1 at *
 go_quiet (fail)
 go_wp2
 go_ret3
 exact RGoPost.yes HR.out (below_drewN hacc _)
set_option maxRecDepth 100000 in
set_option maxHeartbeats 2000000 in
theorem rgo_124_Z (a : Option Addr) (n c : Nat) (l : List Int) (k : Nat) (arg : Int) (op : Bool) (w : World) (hl : Ints w a l) (hn : l.length = n) (hn2 : n ≤ 4096) (hk : k ≤ n) (hk2 : k < n ∨ n = 0) (h0 : 1 ≤ n) (hl0 : l.length ≠ 0) :
  Calls Try.prog 146 #[.slice a n c, .int .i64 (k : Int), mvV 124 0 arg, .bool op] w (RGoPost (moS l k 124 1 arg op) w) := by
 have hm0 : 1 ≤ 1 := Nat.le_refl _
 have hm1 : 1 ≤ 999 := by omega
 unfold mvV
 have hB4 := (Blk.new w #[.slice a n c] 22).alloc (.cells #[.int .i64 124, .int .i64 0, .int .i64 arg] 227)
 obtain ⟨c4, -⟩ := hB4.one
 have hB6 := Blk.new (w.alloc (.cells #[.slice a n c] 22)) #[.int .i64 124, .int .i64 0, .int .i64 arg] 227
 rw [World.size_alloc] at hB6
 obtain ⟨c0, c1, c2, -, -, -⟩ := hB6.three
 have hacc := below2 w (.cells #[.slice a n c] 22) (.cells #[.int .i64 124, .int .i64 0, .int .i64 arg] 227)
 have hI := hl.below hacc
 have HN := Lib.hid hn
 clear hn
 have hn0 : ((n : Int) == 0) = false := by simp; omega
 have hln : ((l.length : Nat) : Int) = (n : Int) := by rw [HN.out]
 have HR := Lib.hid (show moS l k 124 1 arg op = some (min 1 (n : Int) - 1, false) by simp [moS, hl0, hln])
 clear hln hl0
 rcases (show 1 - 1 ≤ (n : Int) - 1 ∨ (n : Int) - 1 < 1 - 1 by omega) with h1 | h1
 ·have HM := Lib.hid (show min 1 (n : Int) - 1 = 1 - 1 by omega)
  go_enter Try.func146, Try.ntmps146
  go_upto_region 1 with fail
  change Code.wp _ _ _ _ ((w.alloc (.cells #[.slice a n c] 22)).alloc (.cells #[.int .i64 124, .int .i64 0, .int .i64 arg] 227))
  generalize (w.alloc (.cells #[.slice a n c] 22)).alloc (.cells #[.int .i64 124, .int .i64 0, .int .i64 arg] 227) = w1 at *
  go_quiet (fail)
  go_wp2
  all_goals
   go_ret3
   exact RGoPost.yes (by rw [HR.out, HM.out] <;> rfl) (below_drewN hacc _)
 ·have HM := Lib.hid (show min 1 (n : Int) - 1 = (n : Int) - 1 by omega)
  first
   | (exfalso; omega)
   | skip
  all_goals
   go_enter Try.func146, Try.ntmps146
   go_upto_region 1 with fail
   change Code.wp _ _ _ _ ((w.alloc (.cells #[.slice a n c] 22)).alloc (.cells #[.int .i64 124, .int .i64 0, .int .i64 arg] 227))
   generalize (w.alloc (.cells #[.slice a n c] 22)).alloc (.cells #[.int .i64 124, .int .i64 0, .int .i64 arg] 227) = w1 at *
   go_quiet (fail)
   go_wp2
   go_ret3
   exact RGoPost.yes (by rw [HR.out, HM.out] <;> rfl) (below_drewN hacc _)
set_option maxRecDepth 100000 in
set_option maxHeartbeats 2000000 in
theorem rgo_124_P (a : Option Addr) (n c : Nat) (l : List Int) (k : Nat) (arg : Int) (op : Bool) (w : World) (hl : Ints w a l) (hn : l.length = n) (hn2 : n ≤ 4096) (hk : k ≤ n) (hk2 : k < n ∨ n = 0) (m : Nat) (hm0 : 1 ≤ m) (hm1 : m ≤ 999) (h0 : 1 ≤ n) (hl0 : l.length ≠ 0) :
  Calls Try.prog 146 #[.slice a n c, .int .i64 (k : Int), mvV 124 (m : Int) arg, .bool op] w (RGoPost (moS l k 124 (m : Int) arg op) w) := by
 have hmz : ((m : Int) == 0) = false := by simp; omega
 unfold mvV
 have hB4 := (Blk.new w #[.slice a n c] 22).alloc (.cells #[.int .i64 124, .int .i64 (m : Int), .int .i64 arg] 227)
 obtain ⟨c4, -⟩ := hB4.one
 have hB6 := Blk.new (w.alloc (.cells #[.slice a n c] 22)) #[.int .i64 124, .int .i64 (m : Int), .int .i64 arg] 227
 rw [World.size_alloc] at hB6
 obtain ⟨c0, c1, c2, -, -, -⟩ := hB6.three
 have hacc := below2 w (.cells #[.slice a n c] 22) (.cells #[.int .i64 124, .int .i64 (m : Int), .int .i64 arg] 227)
 have hI := hl.below hacc
 have HN := Lib.hid hn
 clear hn
 have hn0 : ((n : Int) == 0) = false := by simp; omega
 have hln : ((l.length : Nat) : Int) = (n : Int) := by rw [HN.out]
 have HR := Lib.hid (show moS l k 124 (m : Int) arg op = some (min (m : Int) (n : Int) - 1, false) by simp [moS, hl0, hln])
 clear hln hl0
 rcases (show (m : Int) - 1 ≤ (n : Int) - 1 ∨ (n : Int) - 1 < (m : Int) - 1 by omega) with h1 | h1
 ·have HM := Lib.hid (show min (m : Int) (n : Int) - 1 = (m : Int) - 1 by omega)
  go_enter Try.func146, Try.ntmps146
  go_upto_region 1 with fail
  change Code.wp _ _ _ _ ((w.alloc (.cells #[.slice a n c] 22)).alloc (.cells #[.int .i64 124, .int .i64 (m : Int), .int .i64 arg] 227))
  generalize (w.alloc (.cells #[.slice a n c] 22)).alloc (.cells #[.int .i64 124, .int .i64 (m : Int), .int .i64 arg] 227) = w1 at *
  go_quiet (fail)
  go_wp2
  all_goals
   go_ret3
   exact RGoPost.yes (by rw [HR.out, HM.out] <;> rfl) (below_drewN hacc _)
 ·have HM := Lib.hid (show min (m : Int) (n : Int) - 1 = (n : Int) - 1 by omega)
  first
   | (exfalso; omega)
   | skip
  all_goals
   go_enter Try.func146, Try.ntmps146
   go_upto_region 1 with fail
   change Code.wp _ _ _ _ ((w.alloc (.cells #[.slice a n c] 22)).alloc (.cells #[.int .i64 124, .int .i64 (m : Int), .int .i64 arg] 227))
   generalize (w.alloc (.cells #[.slice a n c] 22)).alloc (.cells #[.int .i64 124, .int .i64 (m : Int), .int .i64 arg] 227) = w1 at *
   go_quiet (fail)
   go_wp2
   go_ret3
   exact RGoPost.yes (by rw [HR.out, HM.out] <;> rfl) (below_drewN hacc _)
set_option maxRecDepth 100000 in
set_option maxHeartbeats 2000000 in
theorem rgo_119_Z (a : Option Addr) (n c : Nat) (l : List Int) (k : Nat) (arg : Int) (op : Bool) (w : World) (hl : Ints w a l) (hn : l.length = n) (hn2 : n ≤ 4096) (hk : k ≤ n) (hk2 : k < n ∨ n = 0) (h0 : 1 ≤ n) (hl0 : l.length ≠ 0) :
  Calls Try.prog 146 #[.slice a n c, .int .i64 (k : Int), mvV 119 0 arg, .bool op] w (RGoPost (moS l k 119 1 arg op) w) := by
 have hm0 : 1 ≤ 1 := Nat.le_refl _
 have hm1 : 1 ≤ 999 := by omega
 unfold mvV
 have hB4 := (Blk.new w #[.slice a n c] 22).alloc (.cells #[.int .i64 119, .int .i64 0, .int .i64 arg] 227)
 obtain ⟨c4, -⟩ := hB4.one
 have hB6 := Blk.new (w.alloc (.cells #[.slice a n c] 22)) #[.int .i64 119, .int .i64 0, .int .i64 arg] 227
 rw [World.size_alloc] at hB6
 obtain ⟨c0, c1, c2, -, -, -⟩ := hB6.three
 have hacc := below2 w (.cells #[.slice a n c] 22) (.cells #[.int .i64 119, .int .i64 0, .int .i64 arg] 227)
 have hI := hl.below hacc
 have HN := Lib.hid hn
 clear hn
 have hmf : ∀ (fn : Fn) (first cap : Array Value) (w : World), (Instr.makeFunc fn first cap).run Try.prog w = .ok (.func fn first cap) w := fun _ _ _ _ => rfl
 have hn0 : ((n : Int) == 0) = false := by simp; omega
 have hln : ((l.length : Nat) : Int) = (n : Int) := by rw [HN.out]
 have hR0 : moS l k 119 1 arg op = wordsS l k 1 op false := by
  unfold moS wordsS
  simp only [Int.toNat_natCast]
  rw [if_neg (by decide), if_neg (by decide), if_neg (by decide), if_neg (by decide), if_neg (by decide), if_neg (by decide), if_neg (by decide), if_neg hl0, if_neg (by decide), if_neg (by decide)]
  first | (rw [if_pos (by decide)]; rfl) | (rw [if_neg (by decide), if_pos (by decide)]; rfl)
 have HB := Lib.hid (iterF_bd (f := nextF l false) (lo := 0) (hi := (n : Int)) (fun x h0 h1 => by rw [← HN.out]; exact nextF_bd l false x h0 (by rw [HN.out]; omega)) (k := (k : Int)) (by omega) (by omega) 1)
 obtain ⟨t, ht⟩ : ∃ t, iterF (nextF l false) 1 k = t := ⟨_, rfl⟩
 have hbb := HB.out
 rw [ht] at hbb
 obtain ⟨b1, b2⟩ := hbb
 have CT := ref_times_next a n c l false 1 k 119 w.heap.size (w.heap.size + 1)
 have HT := Lib.hid ht
 have HR0 := Lib.hid hR0
 have HLN := Lib.hid hln
 clear hR0 ht hln hl0
 cases op
 ·rcases (show t ≤ (n : Int) - 1 ∨ (n : Int) - 1 < t by omega) with h1 | h1
  ·have HW := Lib.hid (show wordsS l k 1 false false = if t = (k : Int) then none else some (t, false) from wordsS_go (by rw [HT.out, HLN.out]; omega))
   by_cases hk3 : t = (k : Int)
   ·have HR := Lib.hid (show moS l k 119 1 arg false = none by rw [HR0.out, HW.out, if_pos hk3])
    have hb' : ((t : Int) == (k : Int)) = true := by simpa using hk3
    clear hk3
    go_enter Try.func146, Try.ntmps146
    go_upto_region 1 with fail
    change Code.wp _ _ _ _ ((w.alloc (.cells #[.slice a n c] 22)).alloc (.cells #[.int .i64 119, .int .i64 0, .int .i64 arg] 227))
    generalize (w.alloc (.cells #[.slice a n c] 22)).alloc (.cells #[.int .i64 119, .int .i64 0, .int .i64 arg] 227) = w1 at *
    go_quiet (fail)
    go_wp2_with ((go_at_call 186); refine (CT _ (hI.drewN _) HN.out hn2 hk (by omega) (by rfl) c4 c0).mono ?_; rintro e w5 ⟨rfl, rfl⟩; rw [HT.out])
    all_goals
     go_ret3
     exact RGoPost.no HR.out (below_drewN hacc _)
   ·have HR := Lib.hid (show moS l k 119 1 arg false = some (t, false) by rw [HR0.out, HW.out, if_neg hk3])
    have hb' : ((t : Int) == (k : Int)) = false := by simpa using hk3
    clear hk3
    go_enter Try.func146, Try.ntmps146
    go_upto_region 1 with fail
    change Code.wp _ _ _ _ ((w.alloc (.cells #[.slice a n c] 22)).alloc (.cells #[.int .i64 119, .int .i64 0, .int .i64 arg] 227))
    generalize (w.alloc (.cells #[.slice a n c] 22)).alloc (.cells #[.int .i64 119, .int .i64 0, .int .i64 arg] 227) = w1 at *
    go_quiet (fail)
    go_wp2_with ((go_at_call 186); refine (CT _ (hI.drewN _) HN.out hn2 hk (by omega) (by rfl) c4 c0).mono ?_; rintro e w5 ⟨rfl, rfl⟩; rw [HT.out])
    all_goals
     go_ret3
     exact RGoPost.yes HR.out (below_drewN hacc _)
  ·have HW := Lib.hid (show wordsS l k 1 false false = if (n : Int) - 1 = (k : Int) then none else some ((n : Int) - 1, false) from wordsS_go (by rw [HT.out, HLN.out]; omega))
   by_cases hk3 : (n : Int) - 1 = (k : Int)
   ·have HR := Lib.hid (show moS l k 119 1 arg false = none by rw [HR0.out, HW.out, if_pos hk3])
    have hb' : (((n : Int) - 1 : Int) == (k : Int)) = true := by simpa using hk3
    clear hk3
    go_enter Try.func146, Try.ntmps146
    go_upto_region 1 with fail
    change Code.wp _ _ _ _ ((w.alloc (.cells #[.slice a n c] 22)).alloc (.cells #[.int .i64 119, .int .i64 0, .int .i64 arg] 227))
    generalize (w.alloc (.cells #[.slice a n c] 22)).alloc (.cells #[.int .i64 119, .int .i64 0, .int .i64 arg] 227) = w1 at *
    go_quiet (fail)
    go_wp2_with ((go_at_call 186); refine (CT _ (hI.drewN _) HN.out hn2 hk (by omega) (by rfl) c4 c0).mono ?_; rintro e w5 ⟨rfl, rfl⟩; rw [HT.out])
    all_goals
     go_ret3
     exact RGoPost.no HR.out (below_drewN hacc _)
   ·have HR := Lib.hid (show moS l k 119 1 arg false = some ((n : Int) - 1, false) by rw [HR0.out, HW.out, if_neg hk3])
    have hb' : (((n : Int) - 1 : Int) == (k : Int)) = false := by simpa using hk3
    clear hk3
    go_enter Try.func146, Try.ntmps146
    go_upto_region 1 with fail
    change Code.wp _ _ _ _ ((w.alloc (.cells #[.slice a n c] 22)).alloc (.cells #[.int .i64 119, .int .i64 0, .int .i64 arg] 227))
    generalize (w.alloc (.cells #[.slice a n c] 22)).alloc (.cells #[.int .i64 119, .int .i64 0, .int .i64 arg] 227) = w1 at *
    go_quiet (fail)
    go_wp2_with ((go_at_call 186); refine (CT _ (hI.drewN _) HN.out hn2 hk (by omega) (by rfl) c4 c0).mono ?_; rintro e w5 ⟨rfl, rfl⟩; rw [HT.out])
    all_goals
     go_ret3
     exact RGoPost.yes HR.out (below_drewN hacc _)
 ·have HR := Lib.hid (show moS l k 119 1 arg true = some (t, false) by rw [HR0.out, wordsS_op, HT.out])
  obtain ⟨bb, hbb⟩ : ∃ b, (t == (k : Int)) = b := ⟨_, rfl⟩
  cases bb
  all_goals
   go_enter Try.func146, Try.ntmps146
   go_upto_region 1 with fail
   change Code.wp _ _ _ _ ((w.alloc (.cells #[.slice a n c] 22)).alloc (.cells #[.int .i64 119, .int .i64 0, .int .i64 arg] 227))
   generalize (w.alloc (.cells #[.slice a n c] 22)).alloc (.cells #[.int .i64 119, .int .i64 0, .int .i64 arg] 227) = w1 at *
   go_quiet (fail)
   go_wp2_with ((go_at_call 186); refine (CT _ (hI.drewN _) HN.out hn2 hk (by omega) (by rfl) c4 c0).mono ?_; rintro e w5 ⟨rfl, rfl⟩; rw [HT.out])
   go_ret3
   exact RGoPost.yes HR.out (below_drewN hacc _)
set_option maxRecDepth 100000 in
set_option maxHeartbeats 2000000 in
theorem rgo_119_P (a : Option Addr) (n c : Nat) (l : List Int) (k : Nat) (arg : Int) (op : Bool) (w : World) (hl : Ints w a l) (hn : l.length = n) (hn2 : n ≤ 4096) (hk : k ≤ n) (hk2 : k < n ∨ n = 0) (m : Nat) (hm0 : 1 ≤ m) (hm1 : m ≤ 999) (h0 : 1 ≤ n) (hl0 : l.length ≠ 0) :
  Calls Try.prog 146 #[.slice a n c, .int .i64 (k : Int), mvV 119 (m : Int) arg, .bool op] w (RGoPost (moS l k 119 (m : Int) arg op) w) := by
 have hmz : ((m : Int) == 0) = false := by simp; omega
 unfold mvV
 have hB4 := (Blk.new w #[.slice a n c] 22).alloc (.cells #[.int .i64 119, .int .i64 (m : Int), .int .i64 arg] 227)
 obtain ⟨c4, -⟩ := hB4.one
 have hB6 := Blk.new (w.alloc (.cells #[.slice a n c] 22)) #[.int .i64 119, .int .i64 (m : Int), .int .i64 arg] 227
 rw [World.size_alloc] at hB6
 obtain ⟨c0, c1, c2, -, -, -⟩ := hB6.three
 have hacc := below2 w (.cells #[.slice a n c] 22) (.cells #[.int .i64 119, .int .i64 (m : Int), .int .i64 arg] 227)
 have hI := hl.below hacc
 have HN := Lib.hid hn
 clear hn
 have hmf : ∀ (fn : Fn) (first cap : Array Value) (w : World), (Instr.makeFunc fn first cap).run Try.prog w = .ok (.func fn first cap) w := fun _ _ _ _ => rfl
 have hn0 : ((n : Int) == 0) = false := by simp; omega
 have hln : ((l.length : Nat) : Int) = (n : Int) := by rw [HN.out]
 have hR0 : moS l k 119 (m : Int) arg op = wordsS l k m op false := by
  unfold moS wordsS
  simp only [Int.toNat_natCast]
  rw [if_neg (by decide), if_neg (by decide), if_neg (by decide), if_neg (by decide), if_neg (by decide), if_neg (by decide), if_neg (by decide), if_neg hl0, if_neg (by decide), if_neg (by decide)]
  first | (rw [if_pos (by decide)]; rfl) | (rw [if_neg (by decide), if_pos (by decide)]; rfl)
 have HB := Lib.hid (iterF_bd (f := nextF l false) (lo := 0) (hi := (n : Int)) (fun x h0 h1 => by rw [← HN.out]; exact nextF_bd l false x h0 (by rw [HN.out]; omega)) (k := (k : Int)) (by omega) (by omega) m)
 obtain ⟨t, ht⟩ : ∃ t, iterF (nextF l false) m k = t := ⟨_, rfl⟩
 have hbb := HB.out
 rw [ht] at hbb
 obtain ⟨b1, b2⟩ := hbb
 have CT := ref_times_next a n c l false m k 119 w.heap.size (w.heap.size + 1)
 have HT := Lib.hid ht
 have HR0 := Lib.hid hR0
 have HLN := Lib.hid hln
 clear hR0 ht hln hl0
 cases op
 ·rcases (show t ≤ (n : Int) - 1 ∨ (n : Int) - 1 < t by omega) with h1 | h1
  ·have HW := Lib.hid (show wordsS l k m false false = if t = (k : Int) then none else some (t, false) from wordsS_go (by rw [HT.out, HLN.out]; omega))
   by_cases hk3 : t = (k : Int)
   ·have HR := Lib.hid (show moS l k 119 (m : Int) arg false = none by rw [HR0.out, HW.out, if_pos hk3])
    have hb' : ((t : Int) == (k : Int)) = true := by simpa using hk3
    clear hk3
    go_enter Try.func146, Try.ntmps146
    go_upto_region 1 with fail
    change Code.wp _ _ _ _ ((w.alloc (.cells #[.slice a n c] 22)).alloc (.cells #[.int .i64 119, .int .i64 (m : Int), .int .i64 arg] 227))
    generalize (w.alloc (.cells #[.slice a n c] 22)).alloc (.cells #[.int .i64 119, .int .i64 (m : Int), .int .i64 arg] 227) = w1 at *
    go_quiet (fail)
    go_wp2_with ((go_at_call 186); refine (CT _ (hI.drewN _) HN.out hn2 hk (by omega) (by rfl) c4 c0).mono ?_; rintro e w5 ⟨rfl, rfl⟩; rw [HT.out])
    all_goals
     go_ret3
     exact RGoPost.no HR.out (below_drewN hacc _)
   ·have HR := Lib.hid (show moS l k 119 (m : Int) arg false = some (t, false) by rw [HR0.out, HW.out, if_neg hk3])
    have hb' : ((t : Int) == (k : Int)) = false := by simpa using hk3
    clear hk3
    go_enter Try.func146, Try.ntmps146
    go_upto_region 1 with fail
    change Code.wp _ _ _ _ ((w.alloc (.cells #[.slice a n c] 22)).alloc (.cells #[.int .i64 119, .int .i64 (m : Int), .int .i64 arg] 227))
    generalize (w.alloc (.cells #[.slice a n c] 22)).alloc (.cells #[.int .i64 119, .int .i64 (m : Int), .int .i64 arg] 227) = w1 at *
    go_quiet (fail)
    go_wp2_with ((go_at_call 186); refine (CT _ (hI.drewN _) HN.out hn2 hk (by omega) (by rfl) c4 c0).mono ?_; rintro e w5 ⟨rfl, rfl⟩; rw [HT.out])
    all_goals
     go_ret3
     exact RGoPost.yes HR.out (below_drewN hacc _)
  ·have HW := Lib.hid (show wordsS l k m false false = if (n : Int) - 1 = (k : Int) then none else some ((n : Int) - 1, false) from wordsS_go (by rw [HT.out, HLN.out]; omega))
   by_cases hk3 : (n : Int) - 1 = (k : Int)
   ·have HR := Lib.hid (show moS l k 119 (m : Int) arg false = none by rw [HR0.out, HW.out, if_pos hk3])
    have hb' : (((n : Int) - 1 : Int) == (k : Int)) = true := by simpa using hk3
    clear hk3
    go_enter Try.func146, Try.ntmps146
    go_upto_region 1 with fail
    change Code.wp _ _ _ _ ((w.alloc (.cells #[.slice a n c] 22)).alloc (.cells #[.int .i64 119, .int .i64 (m : Int), .int .i64 arg] 227))
    generalize (w.alloc (.cells #[.slice a n c] 22)).alloc (.cells #[.int .i64 119, .int .i64 (m : Int), .int .i64 arg] 227) = w1 at *
    go_quiet (fail)
    go_wp2_with ((go_at_call 186); refine (CT _ (hI.drewN _) HN.out hn2 hk (by omega) (by rfl) c4 c0).mono ?_; rintro e w5 ⟨rfl, rfl⟩; rw [HT.out])
    all_goals
     go_ret3
     exact RGoPost.no HR.out (below_drewN hacc _)
   ·have HR := Lib.hid (show moS l k 119 (m : Int) arg false = some ((n : Int) - 1, false) by rw [HR0.out, HW.out, if_neg hk3])
    have hb' : (((n : Int) - 1 : Int) == (k : Int)) = false := by simpa using hk3
    clear hk3
    go_enter Try.func146, Try.ntmps146
    go_upto_region 1 with fail
    change Code.wp _ _ _ _ ((w.alloc (.cells #[.slice a n c] 22)).alloc (.cells #[.int .i64 119, .int .i64 (m : Int), .int .i64 arg] 227))
    generalize (w.alloc (.cells #[.slice a n c] 22)).alloc (.cells #[.int .i64 119, .int .i64 (m : Int), .int .i64 arg] 227) = w1 at *
    go_quiet (fail)
    go_wp2_with ((go_at_call 186); refine (CT _ (hI.drewN _) HN.out hn2 hk (by omega) (by rfl) c4 c0).mono ?_; rintro e w5 ⟨rfl, rfl⟩; rw [HT.out])
    all_goals
     go_ret3
     exact RGoPost.yes HR.out (below_drewN hacc _)
 ·have HR := Lib.hid (show moS l k 119 (m : Int) arg true = some (t, false) by rw [HR0.out, wordsS_op, HT.out])
  obtain ⟨bb, hbb⟩ : ∃ b, (t == (k : Int)) = b := ⟨_, rfl⟩
  cases bb
  all_goals
   go_enter Try.func146, Try.ntmps146
   go_upto_region 1 with fail
   change Code.wp _ _ _ _ ((w.alloc (.cells #[.slice a n c] 22)).alloc (.cells #[.int .i64 119, .int .i64 (m : Int), .int .i64 arg] 227))
   generalize (w.alloc (.cells #[.slice a n c] 22)).alloc (.cells #[.int .i64 119, .int .i64 (m : Int), .int .i64 arg] 227) = w1 at *
   go_quiet (fail)
   go_wp2_with ((go_at_call 186); refine (CT _ (hI.drewN _) HN.out hn2 hk (by omega) (by rfl) c4 c0).mono ?_; rintro e w5 ⟨rfl, rfl⟩; rw [HT.out])
   go_ret3
   exact RGoPost.yes HR.out (below_drewN hacc _)
set_option maxRecDepth 100000 in
set_option maxHeartbeats 2000000 in
theorem rgo_87_Z (a : Option Addr) (n c : Nat) (l : List Int) (k : Nat) (arg : Int) (op : Bool) (w : World) (hl : Ints w a l) (hn : l.length = n) (hn2 : n ≤ 4096) (hk : k ≤ n) (hk2 : k < n ∨ n = 0) (h0 : 1 ≤ n) (hl0 : l.length ≠ 0) :
  Calls Try.prog 146 #[.slice a n c, .int .i64 (k : Int), mvV 87 0 arg, .bool op] w (RGoPost (moS l k 87 1 arg op) w) := by
 have hm0 : 1 ≤ 1 := Nat.le_refl _
 have hm1 : 1 ≤ 999 := by omega
 unfold mvV
 have hB4 := (Blk.new w #[.slice a n c] 22).alloc (.cells #[.int .i64 87, .int .i64 0, .int .i64 arg] 227)
 obtain ⟨c4, -⟩ := hB4.one
 have hB6 := Blk.new (w.alloc (.cells #[.slice a n c] 22)) #[.int .i64 87, .int .i64 0, .int .i64 arg] 227
 rw [World.size_alloc] at hB6
 obtain ⟨c0, c1, c2, -, -, -⟩ := hB6.three
 have hacc := below2 w (.cells #[.slice a n c] 22) (.cells #[.int .i64 87, .int .i64 0, .int .i64 arg] 227)
 have hI := hl.below hacc
 have HN := Lib.hid hn
 clear hn
 have hmf : ∀ (fn : Fn) (first cap : Array Value) (w : World), (Instr.makeFunc fn first cap).run Try.prog w = .ok (.func fn first cap) w := fun _ _ _ _ => rfl
 have hn0 : ((n : Int) == 0) = false := by simp; omega
 have hln : ((l.length : Nat) : Int) = (n : Int) := by rw [HN.out]
 have hR0 : moS l k 87 1 arg op = wordsS l k 1 op true := by
  unfold moS wordsS
  simp only [Int.toNat_natCast]
  rw [if_neg (by decide), if_neg (by decide), if_neg (by decide), if_neg (by decide), if_neg (by decide), if_neg (by decide), if_neg (by decide), if_neg hl0, if_neg (by decide), if_neg (by decide)]
  first | (rw [if_pos (by decide)]; rfl) | (rw [if_neg (by decide), if_pos (by decide)]; rfl)
 have HB := Lib.hid (iterF_bd (f := nextF l true) (lo := 0) (hi := (n : Int)) (fun x h0 h1 => by rw [← HN.out]; exact nextF_bd l true x h0 (by rw [HN.out]; omega)) (k := (k : Int)) (by omega) (by omega) 1)
 obtain ⟨t, ht⟩ : ∃ t, iterF (nextF l true) 1 k = t := ⟨_, rfl⟩
 have hbb := HB.out
 rw [ht] at hbb
 obtain ⟨b1, b2⟩ := hbb
 have CT := ref_times_next a n c l true 1 k 87 w.heap.size (w.heap.size + 1)
 have HT := Lib.hid ht
 have HR0 := Lib.hid hR0
 have HLN := Lib.hid hln
 clear hR0 ht hln hl0
 cases op
 ·rcases (show t ≤ (n : Int) - 1 ∨ (n : Int) - 1 < t by omega) with h1 | h1
  ·have HW := Lib.hid (show wordsS l k 1 false true = if t = (k : Int) then none else some (t, false) from wordsS_go (by rw [HT.out, HLN.out]; omega))
   by_cases hk3 : t = (k : Int)
   ·have HR := Lib.hid (show moS l k 87 1 arg false = none by rw [HR0.out, HW.out, if_pos hk3])
    have hb' : ((t : Int) == (k : Int)) = true := by simpa using hk3
    clear hk3
    go_enter Try.func146, Try.ntmps146
    go_upto_region 1 with fail
    change Code.wp _ _ _ _ ((w.alloc (.cells #[.slice a n c] 22)).alloc (.cells #[.int .i64 87, .int .i64 0, .int .i64 arg] 227))
    generalize (w.alloc (.cells #[.slice a n c] 22)).alloc (.cells #[.int .i64 87, .int .i64 0, .int .i64 arg] 227) = w1 at *
    go_quiet (fail)
    go_wp2_with ((go_at_call 186); refine (CT _ (hI.drewN _) HN.out hn2 hk (by omega) (by rfl) c4 c0).mono ?_; rintro e w5 ⟨rfl, rfl⟩; rw [HT.out])
    all_goals
     go_ret3
     exact RGoPost.no HR.out (below_drewN hacc _)
   ·have HR := Lib.hid (show moS l k 87 1 arg false = some (t, false) by rw [HR0.out, HW.out, if_neg hk3])
    have hb' : ((t : Int) == (k : Int)) = false := by simpa using hk3
    clear hk3
    go_enter Try.func146, Try.ntmps146
    go_upto_region 1 with fail
    change Code.wp _ _ _ _ ((w.alloc (.cells #[.slice a n c] 22)).alloc (.cells #[.int .i64 87, .int .i64 0, .int .i64 arg] 227))
    generalize (w.alloc (.cells #[.slice a n c] 22)).alloc (.cells #[.int .i64 87, .int .i64 0, .int .i64 arg] 227) = w1 at *
    go_quiet (fail)
    go_wp2_with ((go_at_call 186); refine (CT _ (hI.drewN _) HN.out hn2 hk (by omega) (by rfl) c4 c0).mono ?_; rintro e w5 ⟨rfl, rfl⟩; rw [HT.out])
    all_goals
     go_ret3
     exact RGoPost.yes HR.out (below_drewN hacc _)
  ·have HW := Lib.hid (show wordsS l k 1 false true = if (n : Int) - 1 = (k : Int) then none else some ((n : Int) - 1, false) from wordsS_go (by rw [HT.out, HLN.out]; omega))
   by_cases hk3 : (n : Int) - 1 = (k : Int)
   ·have HR := Lib.hid (show moS l k 87 1 arg false = none by rw [HR0.out, HW.out, if_pos hk3])
    have hb' : (((n : Int) - 1 : Int) == (k : Int)) = true := by simpa using hk3
    clear hk3
    go_enter Try.func146, Try.ntmps146
    go_upto_region 1 with fail
    change Code.wp _ _ _ _ ((w.alloc (.cells #[.slice a n c] 22)).alloc (.cells #[.int .i64 87, .int .i64 0, .int .i64 arg] 227))
    generalize (w.alloc (.cells #[.slice a n c] 22)).alloc (.cells #[.int .i64 87, .int .i64 0, .int .i64 arg] 227) = w1 at *
    go_quiet (fail)
    go_wp2_with ((go_at_call 186); refine (CT _ (hI.drewN _) HN.out hn2 hk (by omega) (by rfl) c4 c0).mono ?_; rintro e w5 ⟨rfl, rfl⟩; rw [HT.out])
    all_goals
     go_ret3
     exact RGoPost.no HR.out (below_drewN hacc _)
   ·have HR := Lib.hid (show moS l k 87 1 arg false = some ((n : Int) - 1, false) by rw [HR0.out, HW.out, if_neg hk3])
    have hb' : (((n : Int) - 1 : Int) == (k : Int)) = false := by simpa using hk3
    clear hk3
    go_enter Try.func146, Try.ntmps146
    go_upto_region 1 with fail
    change Code.wp _ _ _ _ ((w.alloc (.cells #[.slice a n c] 22)).alloc (.cells #[.int .i64 87, .int .i64 0, .int .i64 arg] 227))
    generalize (w.alloc (.cells #[.slice a n c] 22)).alloc (.cells #[.int .i64 87, .int .i64 0, .int .i64 arg] 227) = w1 at *
    go_quiet (fail)
    go_wp2_with ((go_at_call 186); refine (CT _ (hI.drewN _) HN.out hn2 hk (by omega) (by rfl) c4 c0).mono ?_; rintro e w5 ⟨rfl, rfl⟩; rw [HT.out])
    all_goals
     go_ret3
     exact RGoPost.yes HR.out (below_drewN hacc _)
 ·have HR := Lib.hid (show moS l k 87 1 arg true = some (t, false) by rw [HR0.out, wordsS_op, HT.out])
  obtain ⟨bb, hbb⟩ : ∃ b, (t == (k : Int)) = b := ⟨_, rfl⟩
  cases bb
  all_goals
   go_enter Try.func146, Try.ntmps146
   go_upto_region 1 with fail
   change Code.wp _ _ _ _ ((w.alloc (.cells #[.slice a n c] 22)).alloc (.cells #[.int .i64 87, .int .i64 0, .int .i64 arg] 227))
   generalize (w.alloc (.cells #[.slice a n c] 22)).alloc (.cells #[.int .i64 87, .int .i64 0, .int .i64 arg] 227) = w1 at *
   go_quiet (fail)
   go_wp2_with ((go_at_call 186); refine (CT _ (hI.drewN _) HN.out hn2 hk (by omega) (by rfl) c4 c0).mono ?_; rintro e w5 ⟨rfl, rfl⟩; rw [HT.out])
   go_ret3
   exact RGoPost.yes HR.out (below_drewN hacc _)
set_option maxRecDepth 100000 in
set_option maxHeartbeats 2000000 in
theorem rgo_87_P (a : Option Addr) (n c : Nat) (l : List Int) (k : Nat) (arg : Int) (op : Bool) (w : World) (hl : Ints w a l) (hn : l.length = n) (hn2 : n ≤ 4096) (hk : k ≤ n) (hk2 : k < n ∨ n = 0) (m : Nat) (hm0 : 1 ≤ m) (hm1 : m ≤ 999) (h0 : 1 ≤ n) (hl0 : l.length ≠ 0) :
  Calls Try.prog 146 #[.slice a n c, .int .i64 (k : Int), mvV 87 (m : Int) arg, .bool op] w (RGoPost (moS l k 87 (m : Int) arg op) w) := by
 have hmz : ((m : Int) == 0) = false := by simp; omega
 unfold mvV
 have hB4 := (Blk.new w #[.slice a n c] 22).alloc (.cells #[.int .i64 87, .int .i64 (m : Int), .int .i64 arg] 227)
 obtain ⟨c4, -⟩ := hB4.one
 have hB6 := Blk.new (w.alloc (.cells #[.slice a n c] 22)) #[.int .i64 87, .int .i64 (m : Int), .int .i64 arg] 227
 rw [World.size_alloc] at hB6
 obtain ⟨c0, c1, c2, -, -, -⟩ := hB6.three
 have hacc := below2 w (.cells #[.slice a n c] 22) (.cells #[.int .i64 87, .int .i64 (m : Int), .int .i64 arg] 227)
 have hI := hl.below hacc
 have HN := Lib.hid hn
 clear hn
 have hmf : ∀ (fn : Fn) (first cap : Array Value) (w : World), (Instr.makeFunc fn first cap).run Try.prog w = .ok (.func fn first cap) w := fun _ _ _ _ => rfl
 have hn0 : ((n : Int) == 0) = false := by simp; omega
 have hln : ((l.length : Nat) : Int) = (n : Int) := by rw [HN.out]
 have hR0 : moS l k 87 (m : Int) arg op = wordsS l k m op true := by
  unfold moS wordsS
  simp only [Int.toNat_natCast]
  rw [if_neg (by decide), if_neg (by decide), if_neg (by decide), if_neg (by decide), if_neg (by decide), if_neg (by decide), if_neg (by decide), if_neg hl0, if_neg (by decide), if_neg (by decide)]
  first | (rw [if_pos (by decide)]; rfl) | (rw [if_neg (by decide), if_pos (by decide)]; rfl)
 have HB := Lib.hid (iterF_bd (f := nextF l true) (lo := 0) (hi := (n : Int)) (fun x h0 h1 => by rw [← HN.out]; exact nextF_bd l true x h0 (by rw [HN.out]; omega)) (k := (k : Int)) (by omega) (by omega) m)
 obtain ⟨t, ht⟩ : ∃ t, iterF (nextF l true) m k = t := ⟨_, rfl⟩
 have hbb := HB.out
 rw [ht] at hbb
 obtain ⟨b1, b2⟩ := hbb
 have CT := ref_times_next a n c l true m k 87 w.heap.size (w.heap.size + 1)
 have HT := Lib.hid ht
 have HR0 := Lib.hid hR0
 have HLN := Lib.hid hln
 clear hR0 ht hln hl0
 cases op
 ·rcases (show t ≤ (n : Int) - 1 ∨ (n : Int) - 1 < t by omega) with h1 | h1
  ·have HW := Lib.hid (show wordsS l k m false true = if t = (k : Int) then none else some (t, false) from wordsS_go (by rw [HT.out, HLN.out]; omega))
   by_cases hk3 : t = (k : Int)
   ·have HR := Lib.hid (show moS l k 87 (m : Int) arg false = none by rw [HR0.out, HW.out, if_pos hk3])
    have hb' : ((t : Int) == (k : Int)) = true := by simpa using hk3
    clear hk3
    go_enter Try.func146, Try.ntmps146
    go_upto_region 1 with fail
    change Code.wp _ _ _ _ ((w.alloc (.cells #[.slice a n c] 22)).alloc (.cells #[.int .i64 87, .int .i64 (m : Int), .int .i64 arg] 227))
    generalize (w.alloc (.cells #[.slice a n c] 22)).alloc (.cells #[.int .i64 87, .int .i64 (m : Int), .int .i64 arg] 227) = w1 at *
    go_quiet (fail)
    go_wp2_with ((go_at_call 186); refine (CT _ (hI.drewN _) HN.out hn2 hk (by omega) (by rfl) c4 c0).mono ?_; rintro e w5 ⟨rfl, rfl⟩; rw [HT.out])
    all_goals
     go_ret3
     exact RGoPost.no HR.out (below_drewN hacc _)
   ·have HR := Lib.hid (show moS l k 87 (m : Int) arg false = some (t, false) by rw [HR0.out, HW.out, if_neg hk3])
    have hb' : ((t : Int) == (k : Int)) = false := by simpa using hk3
    clear hk3
    go_enter Try.func146, Try.ntmps146
    go_upto_region 1 with fail
    change Code.wp _ _ _ _ ((w.alloc (.cells #[.slice a n c] 22)).alloc (.cells #[.int .i64 87, .int .i64 (m : Int), .int .i64 arg] 227))
    generalize (w.alloc (.cells #[.slice a n c] 22)).alloc (.cells #[.int .i64 87, .int .i64 (m : Int), .int .i64 arg] 227) = w1 at *
    go_quiet (fail)
    go_wp2_with ((go_at_call 186); refine (CT _ (hI.drewN _) HN.out hn2 hk (by omega) (by rfl) c4 c0).mono ?_; rintro e w5 ⟨rfl, rfl⟩; rw [HT.out])
    all_goals
     go_ret3
     exact RGoPost.yes HR.out (below_drewN hacc _)
  ·have HW := Lib.hid (show wordsS l k m false true = if (n : Int) - 1 = (k : Int) then none else some ((n : Int) - 1, false) from wordsS_go (by rw [HT.out, HLN.out]; omega))
   by_cases hk3 : (n : Int) - 1 = (k : Int)
   ·have HR := Lib.hid (show moS l k 87 (m : Int) arg false = none by rw [HR0.out, HW.out, if_pos hk3])
    have hb' : (((n : Int) - 1 : Int) == (k : Int)) = true := by simpa using hk3
    clear hk3
    go_enter Try.func146, Try.ntmps146
    go_upto_region 1 with fail
    change Code.wp _ _ _ _ ((w.alloc (.cells #[.slice a n c] 22)).alloc (.cells #[.int .i64 87, .int .i64 (m : Int), .int .i64 arg] 227))
    generalize (w.alloc (.cells #[.slice a n c] 22)).alloc (.cells #[.int .i64 87, .int .i64 (m : Int), .int .i64 arg] 227) = w1 at *
    go_quiet (fail)
    go_wp2_with ((go_at_call 186); refine (CT _ (hI.drewN _) HN.out hn2 hk (by omega) (by rfl) c4 c0).mono ?_; rintro e w5 ⟨rfl, rfl⟩; rw [HT.out])
    all_goals
     go_ret3
     exact RGoPost.no HR.out (below_drewN hacc _)
   ·have HR := Lib.hid (show moS l k 87 (m : Int) arg false = some ((n : Int) - 1, false) by rw [HR0.out, HW.out, if_neg hk3])
    have hb' : (((n : Int) - 1 : Int) == (k : Int)) = false := by simpa using hk3
    clear hk3
    go_enter Try.func146, Try.ntmps146
    go_upto_region 1 with fail
    change Code.wp _ _ _ _ ((w.alloc (.cells #[.slice a n c] 22)).alloc (.cells #[.int .i64 87, .int .i64 (m : Int), .int .i64 arg] 227))
    generalize (w.alloc (.cells #[.slice a n c] 22)).alloc (.cells #[.int .i64 87, .int .i64 (m : Int), .int .i64 arg] 227) = w1 at *
    go_quiet (fail)
    go_wp2_with ((go_at_call 186); refine (CT _ (hI.drewN _) HN.out hn2 hk (by omega) (by rfl) c4 c0).mono ?_; rintro e w5 ⟨rfl, rfl⟩; rw [HT.out])
    all_goals
     go_ret3
     exact RGoPost.yes HR.out (below_drewN hacc _)
 ·have HR := Lib.hid (show moS l k 87 (m : Int) arg true = some (t, false) by rw [HR0.out, wordsS_op, HT.out])
  obtain ⟨bb, hbb⟩ : ∃ b, (t == (k : Int)) = b := ⟨_, rfl⟩
  cases bb
  all_goals
   go_enter Try.func146, Try.ntmps146
   go_upto_region 1 with fail
   change Code.wp _ _ _ _ ((w.alloc (.cells #[.slice a n c] 22)).alloc (.cells #[.int .i64 87, .int .i64 (m : Int), .int .i64 arg] 227))
   generalize (w.alloc (.cells #[.slice a n c] 22)).alloc (.cells #[.int .i64 87, .int .i64 (m : Int), .int .i64 arg] 227) = w1 at *
   go_quiet (fail)
   go_wp2_with ((go_at_call 186); refine (CT _ (hI.drewN _) HN.out hn2 hk (by omega) (by rfl) c4 c0).mono ?_; rintro e w5 ⟨rfl, rfl⟩; rw [HT.out])
   go_ret3
   exact RGoPost.yes HR.out (below_drewN hacc _)
set_option maxRecDepth 100000 in
set_option maxHeartbeats 2000000 in
theorem rgo_101_Z (a : Option Addr) (n c : Nat) (l : List Int) (k : Nat) (arg : Int) (op : Bool) (w : World) (hl : Ints w a l) (hn : l.length = n) (hn2 : n ≤ 4096) (hk : k ≤ n) (hk2 : k < n ∨ n = 0) (h0 : 1 ≤ n) (hl0 : l.length ≠ 0) :
  Calls Try.prog 146 #[.slice a n c, .int .i64 (k : Int), mvV 101 0 arg, .bool op] w (RGoPost (moS l k 101 1 arg op) w) := by
 have hm0 : 1 ≤ 1 := Nat.le_refl _
 have hm1 : 1 ≤ 999 := by omega
 unfold mvV
 have hB4 := (Blk.new w #[.slice a n c] 22).alloc (.cells #[.int .i64 101, .int .i64 0, .int .i64 arg] 227)
 obtain ⟨c4, -⟩ := hB4.one
 have hB6 := Blk.new (w.alloc (.cells #[.slice a n c] 22)) #[.int .i64 101, .int .i64 0, .int .i64 arg] 227
 rw [World.size_alloc] at hB6
 obtain ⟨c0, c1, c2, -, -, -⟩ := hB6.three
 have hacc := below2 w (.cells #[.slice a n c] 22) (.cells #[.int .i64 101, .int .i64 0, .int .i64 arg] 227)
 have hI := hl.below hacc
 have HN := Lib.hid hn
 clear hn
 have hmf : ∀ (fn : Fn) (first cap : Array Value) (w : World), (Instr.makeFunc fn first cap).run Try.prog w = .ok (.func fn first cap) w := fun _ _ _ _ => rfl
 have hn0 : ((n : Int) == 0) = false := by simp; omega
 have hln : ((l.length : Nat) : Int) = (n : Int) := by rw [HN.out]
 have hR0 : moS l k 101 1 arg op = endsS l k 1 op false := by
  unfold moS endsS
  simp only [Int.toNat_natCast]
  rw [if_neg (by decide), if_neg (by decide), if_neg (by decide), if_neg (by decide), if_neg (by decide), if_neg (by decide), if_neg (by decide), if_neg hl0, if_neg (by decide), if_neg (by decide)]
  first | (rw [if_pos (by decide)]; rfl) | (rw [if_neg (by decide), if_pos (by decide)]; rfl)
 have HB := Lib.hid (iterF_bd (f := endF l false) (lo := 0) (hi := (n : Int)) (fun x h0 h1 => by rw [← HN.out]; exact endF_bd l false x h0 (by rw [HN.out]; omega)) (k := (k : Int)) (by omega) (by omega) 1)
 obtain ⟨t, ht⟩ : ∃ t, iterF (endF l false) 1 k = t := ⟨_, rfl⟩
 have hbb := HB.out
 rw [ht] at hbb
 obtain ⟨b1, b2⟩ := hbb
 have CT := ref_times_end a n c l false 1 k 101 w.heap.size (w.heap.size + 1)
 have HT := Lib.hid ht
 have HR0 := Lib.hid hR0
 have HLN := Lib.hid hln
 clear hR0 ht hln hl0
 cases op
 ·by_cases hk3 : t = (k : Int)
  ·have HR := Lib.hid (show moS l k 101 1 arg false = none by rw [HR0.out, endsS, HT.out, if_pos ⟨rfl, hk3⟩])
   have hb' : (t == (k : Int)) = true := by simpa using hk3
   clear hk3
   go_enter Try.func146, Try.ntmps146
   go_upto_region 1 with fail
   change Code.wp _ _ _ _ ((w.alloc (.cells #[.slice a n c] 22)).alloc (.cells #[.int .i64 101, .int .i64 0, .int .i64 arg] 227))
   generalize (w.alloc (.cells #[.slice a n c] 22)).alloc (.cells #[.int .i64 101, .int .i64 0, .int .i64 arg] 227) = w1 at *
   go_quiet (fail)
   go_wp2_with ((go_at_call 186); refine (CT _ (hI.drewN _) HN.out hn2 hk (by omega) (by rfl) c4 c0).mono ?_; rintro e w5 ⟨rfl, rfl⟩; rw [HT.out])
   go_ret3
   exact RGoPost.no HR.out (below_drewN hacc _)
  ·have HR := Lib.hid (show moS l k 101 1 arg false = some (t, true) by rw [HR0.out, endsS, HT.out, if_neg (fun h => hk3 h.2)])
   have hb' : (t == (k : Int)) = false := by simpa using hk3
   clear hk3
   go_enter Try.func146, Try.ntmps146
   go_upto_region 1 with fail
   change Code.wp _ _ _ _ ((w.alloc (.cells #[.slice a n c] 22)).alloc (.cells #[.int .i64 101, .int .i64 0, .int .i64 arg] 227))
   generalize (w.alloc (.cells #[.slice a n c] 22)).alloc (.cells #[.int .i64 101, .int .i64 0, .int .i64 arg] 227) = w1 at *
   go_quiet (fail)
   go_wp2_with ((go_at_call 186); refine (CT _ (hI.drewN _) HN.out hn2 hk (by omega) (by rfl) c4 c0).mono ?_; rintro e w5 ⟨rfl, rfl⟩; rw [HT.out])
   go_ret3
   exact RGoPost.yes HR.out (below_drewN hacc _)
 ·have HR := Lib.hid (show moS l k 101 1 arg true = some (t, true) by rw [HR0.out, endsS, HT.out, if_neg (fun h => by cases h.1)])
  obtain ⟨bb, hbb⟩ : ∃ b, (t == (k : Int)) = b := ⟨_, rfl⟩
  cases bb
  all_goals
   go_enter Try.func146, Try.ntmps146
   go_upto_region 1 with fail
   change Code.wp _ _ _ _ ((w.alloc (.cells #[.slice a n c] 22)).alloc (.cells #[.int .i64 101, .int .i64 0, .int .i64 arg] 227))
   generalize (w.alloc (.cells #[.slice a n c] 22)).alloc (.cells #[.int .i64 101, .int .i64 0, .int .i64 arg] 227) = w1 at *
   go_quiet (fail)
   go_wp2_with ((go_at_call 186); refine (CT _ (hI.drewN _) HN.out hn2 hk (by omega) (by rfl) c4 c0).mono ?_; rintro e w5 ⟨rfl, rfl⟩; rw [HT.out])
   go_ret3
   exact RGoPost.yes HR.out (below_drewN hacc _)
set_option maxRecDepth 100000 in
set_option maxHeartbeats 2000000 in
theorem rgo_101_P (a : Option Addr) (n c : Nat) (l : List Int) (k : Nat) (arg : Int) (op : Bool) (w : World) (hl : Ints w a l) (hn : l.length = n) (hn2 : n ≤ 4096) (hk : k ≤ n) (hk2 : k < n ∨ n = 0) (m : Nat) (hm0 : 1 ≤ m) (hm1 : m ≤ 999) (h0 : 1 ≤ n) (hl0 : l.length ≠ 0) :
  Calls Try.prog 146 #[.slice a n c, .int .i64 (k : Int), mvV 101 (m : Int) arg, .bool op] w (RGoPost (moS l k 101 (m : Int) arg op) w) := by
 have hmz : ((m : Int) == 0) = false := by simp; omega
 unfold mvV
 have hB4 := (Blk.new w #[.slice a n c] 22).alloc (.cells #[.int .i64 101, .int .i64 (m : Int), .int .i64 arg] 227)
 obtain ⟨c4, -⟩ := hB4.one
 have hB6 := Blk.new (w.alloc (.cells #[.slice a n c] 22)) #[.int .i64 101, .int .i64 (m : Int), .int .i64 arg] 227
 rw [World.size_alloc] at hB6
 obtain ⟨c0, c1, c2, -, -, -⟩ := hB6.three
 have hacc := below2 w (.cells #[.slice a n c] 22) (.cells #[.int .i64 101, .int .i64 (m : Int), .int .i64 arg] 227)
 have hI := hl.below hacc
 have HN := Lib.hid hn
 clear hn
 have hmf : ∀ (fn : Fn) (first cap : Array Value) (w : World), (Instr.makeFunc fn first cap).run Try.prog w = .ok (.func fn first cap) w := fun _ _ _ _ => rfl
 have hn0 : ((n : Int) == 0) = false := by simp; omega
 have hln : ((l.length : Nat) : Int) = (n : Int) := by rw [HN.out]
 have hR0 : moS l k 101 (m : Int) arg op = endsS l k m op false := by
  unfold moS endsS
  simp only [Int.toNat_natCast]
  rw [if_neg (by decide), if_neg (by decide), if_neg (by decide), if_neg (by decide), if_neg (by decide), if_neg (by decide), if_neg (by decide), if_neg hl0, if_neg (by decide), if_neg (by decide)]
  first | (rw [if_pos (by decide)]; rfl) | (rw [if_neg (by decide), if_pos (by decide)]; rfl)
 have HB := Lib.hid (iterF_bd (f := endF l false) (lo := 0) (hi := (n : Int)) (fun x h0 h1 => by rw [← HN.out]; exact endF_bd l false x h0 (by rw [HN.out]; omega)) (k := (k : Int)) (by omega) (by omega) m)
 obtain ⟨t, ht⟩ : ∃ t, iterF (endF l false) m k = t := ⟨_, rfl⟩
 have hbb := HB.out
 rw [ht] at hbb
 obtain ⟨b1, b2⟩ := hbb
 have CT := ref_times_end a n c l false m k 101 w.heap.size (w.heap.size + 1)
 have HT := Lib.hid ht
 have HR0 := Lib.hid hR0
 have HLN := Lib.hid hln
 clear hR0 ht hln hl0
 cases op
 ·by_cases hk3 : t = (k : Int)
  ·have HR := Lib.hid (show moS l k 101 (m : Int) arg false = none by rw [HR0.out, endsS, HT.out, if_pos ⟨rfl, hk3⟩])
   have hb' : (t == (k : Int)) = true := by simpa using hk3
   clear hk3
   go_enter Try.func146, Try.ntmps146
   go_upto_region 1 with fail
   change Code.wp _ _ _ _ ((w.alloc (.cells #[.slice a n c] 22)).alloc (.cells #[.int .i64 101, .int .i64 (m : Int), .int .i64 arg] 227))
   generalize (w.alloc (.cells #[.slice a n c] 22)).alloc (.cells #[.int .i64 101, .int .i64 (m : Int), .int .i64 arg] 227) = w1 at *
   go_quiet (fail)
   go_wp2_with ((go_at_call 186); refine (CT _ (hI.drewN _) HN.out hn2 hk (by omega) (by rfl) c4 c0).mono ?_; rintro e w5 ⟨rfl, rfl⟩; rw [HT.out])
   go_ret3
   exact RGoPost.no HR.out (below_drewN hacc _)
  ·have HR := Lib.hid (show moS l k 101 (m : Int) arg false = some (t, true) by rw [HR0.out, endsS, HT.out, if_neg (fun h => hk3 h.2)])
   have hb' : (t == (k : Int)) = false := by simpa using hk3
   clear hk3
   go_enter Try.func146, Try.ntmps146
   go_upto_region 1 with fail
   change Code.wp _ _ _ _ ((w.alloc (.cells #[.slice a n c] 22)).alloc (.cells #[.int .i64 101, .int .i64 (m : Int), .int .i64 arg] 227))
   generalize (w.alloc (.cells #[.slice a n c] 22)).alloc (.cells #[.int .i64 101, .int .i64 (m : Int), .int .i64 arg] 227) = w1 at *
   go_quiet (fail)
   go_wp2_with ((go_at_call 186); refine (CT _ (hI.drewN _) HN.out hn2 hk (by omega) (by rfl) c4 c0).mono ?_; rintro e w5 ⟨rfl, rfl⟩; rw [HT.out])
   go_ret3
   exact RGoPost.yes HR.out (below_drewN hacc _)
 ·have HR := Lib.hid (show moS l k 101 (m : Int) arg true = some (t, true) by rw [HR0.out, endsS, HT.out, if_neg (fun h => by cases h.1)])
  obtain ⟨bb, hbb⟩ : ∃ b, (t == (k : Int)) = b := ⟨_, rfl⟩
  cases bb
  all_goals
   go_enter Try.func146, Try.ntmps146
   go_upto_region 1 with fail
   change Code.wp _ _ _ _ ((w.alloc (.cells #[.slice a n c] 22)).alloc (.cells #[.int .i64 101, .int .i64 (m : Int), .int .i64 arg] 227))
   generalize (w.alloc (.cells #[.slice a n c] 22)).alloc (.cells #[.int .i64 101, .int .i64 (m : Int), .int .i64 arg] 227) = w1 at *
   go_quiet (fail)
   go_wp2_with ((go_at_call 186); refine (CT _ (hI.drewN _) HN.out hn2 hk (by omega) (by rfl) c4 c0).mono ?_; rintro e w5 ⟨rfl, rfl⟩; rw [HT.out])
   go_ret3
   exact RGoPost.yes HR.out (below_drewN hacc _)
set_option maxRecDepth 100000 in
set_option maxHeartbeats 2000000 in
theorem rgo_69_Z (a : Option Addr) (n c : Nat) (l : List Int) (k : Nat) (arg : Int) (op : Bool) (w : World) (hl : Ints w a l) (hn : l.length = n) (hn2 : n ≤ 4096) (hk : k ≤ n) (hk2 : k < n ∨ n = 0) (h0 : 1 ≤ n) (hl0 : l.length ≠ 0) :
  Calls Try.prog 146 #[.slice a n c, .int .i64 (k : Int), mvV 69 0 arg, .bool op] w (RGoPost (moS l k 69 1 arg op) w) := by
 have hm0 : 1 ≤ 1 := Nat.le_refl _
 have hm1 : 1 ≤ 999 := by omega
 unfold mvV
 have hB4 := (Blk.new w #[.slice a n c] 22).alloc (.cells #[.int .i64 69, .int .i64 0, .int .i64 arg] 227)
 obtain ⟨c4, -⟩ := hB4.one
 have hB6 := Blk.new (w.alloc (.cells #[.slice a n c] 22)) #[.int .i64 69, .int .i64 0, .int .i64 arg] 227
 rw [World.size_alloc] at hB6
 obtain ⟨c0, c1, c2, -, -, -⟩ := hB6.three
 have hacc := below2 w (.cells #[.slice a n c] 22) (.cells #[.int .i64 69, .int .i64 0, .int .i64 arg] 227)
 have hI := hl.below hacc
 have HN := Lib.hid hn
 clear hn
 have hmf : ∀ (fn : Fn) (first cap : Array Value) (w : World), (Instr.makeFunc fn first cap).run Try.prog w = .ok (.func fn first cap) w := fun _ _ _ _ => rfl
 have hn0 : ((n : Int) == 0) = false := by simp; omega
 have hln : ((l.length : Nat) : Int) = (n : Int) := by rw [HN.out]
 have hR0 : moS l k 69 1 arg op = endsS l k 1 op true := by
  unfold moS endsS
  simp only [Int.toNat_natCast]
  rw [if_neg (by decide), if_neg (by decide), if_neg (by decide), if_neg (by decide), if_neg (by decide), if_neg (by decide), if_neg (by decide), if_neg hl0, if_neg (by decide), if_neg (by decide)]
  first | (rw [if_pos (by decide)]; rfl) | (rw [if_neg (by decide), if_pos (by decide)]; rfl)
 have HB := Lib.hid (iterF_bd (f := endF l true) (lo := 0) (hi := (n : Int)) (fun x h0 h1 => by rw [← HN.out]; exact endF_bd l true x h0 (by rw [HN.out]; omega)) (k := (k : Int)) (by omega) (by omega) 1)
 obtain ⟨t, ht⟩ : ∃ t, iterF (endF l true) 1 k = t := ⟨_, rfl⟩
 have hbb := HB.out
 rw [ht] at hbb
 obtain ⟨b1, b2⟩ := hbb
 have CT := ref_times_end a n c l true 1 k 69 w.heap.size (w.heap.size + 1)
 have HT := Lib.hid ht
 have HR0 := Lib.hid hR0
 have HLN := Lib.hid hln
 clear hR0 ht hln hl0
 cases op
 ·by_cases hk3 : t = (k : Int)
  ·have HR := Lib.hid (show moS l k 69 1 arg false = none by rw [HR0.out, endsS, HT.out, if_pos ⟨rfl, hk3⟩])
   have hb' : (t == (k : Int)) = true := by simpa using hk3
   clear hk3
   go_enter Try.func146, Try.ntmps146
   go_upto_region 1 with fail
   change Code.wp _ _ _ _ ((w.alloc (.cells #[.slice a n c] 22)).alloc (.cells #[.int .i64 69, .int .i64 0, .int .i64 arg] 227))
   generalize (w.alloc (.cells #[.slice a n c] 22)).alloc (.cells #[.int .i64 69, .int .i64 0, .int .i64 arg] 227) = w1 at *
   go_quiet (fail)
   go_wp2_with ((go_at_call 186); refine (CT _ (hI.drewN _) HN.out hn2 hk (by omega) (by rfl) c4 c0).mono ?_; rintro e w5 ⟨rfl, rfl⟩; rw [HT.out])
   go_ret3
   exact RGoPost.no HR.out (below_drewN hacc _)
  ·have HR := Lib.hid (show moS l k 69 1 arg false = some (t, true) by rw [HR0.out, endsS, HT.out, if_neg (fun h => hk3 h.2)])
   have hb' : (t == (k : Int)) = false := by simpa using hk3
   clear hk3
   go_enter Try.func146, Try.ntmps146
   go_upto_region 1 with fail
   change Code.wp _ _ _ _ ((w.alloc (.cells #[.slice a n c] 22)).alloc (.cells #[.int .i64 69, .int .i64 0, .int .i64 arg] 227))
   generalize (w.alloc (.cells #[.slice a n c] 22)).alloc (.cells #[.int .i64 69, .int .i64 0, .int .i64 arg] 227) = w1 at *
   go_quiet (fail)
   go_wp2_with ((go_at_call 186); refine (CT _ (hI.drewN _) HN.out hn2 hk (by omega) (by rfl) c4 c0).mono ?_; rintro e w5 ⟨rfl, rfl⟩; rw [HT.out])
   go_ret3
   exact RGoPost.yes HR.out (below_drewN hacc _)
 ·have HR := Lib.hid (show moS l k 69 1 arg true = some (t, true) by rw [HR0.out, endsS, HT.out, if_neg (fun h => by cases h.1)])
  obtain ⟨bb, hbb⟩ : ∃ b, (t == (k : Int)) = b := ⟨_, rfl⟩
  cases bb
  all_goals
   go_enter Try.func146, Try.ntmps146
   go_upto_region 1 with fail
   change Code.wp _ _ _ _ ((w.alloc (.cells #[.slice a n c] 22)).alloc (.cells #[.int .i64 69, .int .i64 0, .int .i64 arg] 227))
   generalize (w.alloc (.cells #[.slice a n c] 22)).alloc (.cells #[.int .i64 69, .int .i64 0, .int .i64 arg] 227) = w1 at *
   go_quiet (fail)
   go_wp2_with ((go_at_call 186); refine (CT _ (hI.drewN _) HN.out hn2 hk (by omega) (by rfl) c4 c0).mono ?_; rintro e w5 ⟨rfl, rfl⟩; rw [HT.out])
   go_ret3
   exact RGoPost.yes HR.out (below_drewN hacc _)
set_option maxRecDepth 100000 in
set_option maxHeartbeats 2000000 in
theorem rgo_69_P (a : Option Addr) (n c : Nat) (l : List Int) (k : Nat) (arg : Int) (op : Bool) (w : World) (hl : Ints w a l) (hn : l.length = n) (hn2 : n ≤ 4096) (hk : k ≤ n) (hk2 : k < n ∨ n = 0) (m : Nat) (hm0 : 1 ≤ m) (hm1 : m ≤ 999) (h0 : 1 ≤ n) (hl0 : l.length ≠ 0) :
  Calls Try.prog 146 #[.slice a n c, .int .i64 (k : Int), mvV 69 (m : Int) arg, .bool op] w (RGoPost (moS l k 69 (m : Int) arg op) w) := by
 have hmz : ((m : Int) == 0) = false := by simp; omega
 unfold mvV
 have hB4 := (Blk.new w #[.slice a n c] 22).alloc (.cells #[.int .i64 69, .int .i64 (m : Int), .int .i64 arg] 227)
 obtain ⟨c4, -⟩ := hB4.one
 have hB6 := Blk.new (w.alloc (.cells #[.slice a n c] 22)) #[.int .i64 69, .int .i64 (m : Int), .int .i64 arg] 227
 rw [World.size_alloc] at hB6
 obtain ⟨c0, c1, c2, -, -, -⟩ := hB6.three
 have hacc := below2 w (.cells #[.slice a n c] 22) (.cells #[.int .i64 69, .int .i64 (m : Int), .int .i64 arg] 227)
 have hI := hl.below hacc
 have HN := Lib.hid hn
 clear hn
 have hmf : ∀ (fn : Fn) (first cap : Array Value) (w : World), (Instr.makeFunc fn first cap).run Try.prog w = .ok (.func fn first cap) w := fun _ _ _ _ => rfl
 have hn0 : ((n : Int) == 0) = false := by simp; omega
 have hln : ((l.length : Nat) : Int) = (n : Int) := by rw [HN.out]
 have hR0 : moS l k 69 (m : Int) arg op = endsS l k m op true := by
  unfold moS endsS
  simp only [Int.toNat_natCast]
  rw [if_neg (by decide), if_neg (by decide), if_neg (by decide), if_neg (by decide), if_neg (by decide), if_neg (by decide), if_neg (by decide), if_neg hl0, if_neg (by decide), if_neg (by decide)]
  first | (rw [if_pos (by decide)]; rfl) | (rw [if_neg (by decide), if_pos (by decide)]; rfl)
 have HB := Lib.hid (iterF_bd (f := endF l true) (lo := 0) (hi := (n : Int)) (fun x h0 h1 => by rw [← HN.out]; exact endF_bd l true x h0 (by rw [HN.out]; omega)) (k := (k : Int)) (by omega) (by omega) m)
 obtain ⟨t, ht⟩ : ∃ t, iterF (endF l true) m k = t := ⟨_, rfl⟩
 have hbb := HB.out
 rw [ht] at hbb
 obtain ⟨b1, b2⟩ := hbb
 have CT := ref_times_end a n c l true m k 69 w.heap.size (w.heap.size + 1)
 have HT := Lib.hid ht
 have HR0 := Lib.hid hR0
 have HLN := Lib.hid hln
 clear hR0 ht hln hl0
 cases op
 ·by_cases hk3 : t = (k : Int)
  ·have HR := Lib.hid (show moS l k 69 (m : Int) arg false = none by rw [HR0.out, endsS, HT.out, if_pos ⟨rfl, hk3⟩])
   have hb' : (t == (k : Int)) = true := by simpa using hk3
   clear hk3
   go_enter Try.func146, Try.ntmps146
   go_upto_region 1 with fail
   change Code.wp _ _ _ _ ((w.alloc (.cells #[.slice a n c] 22)).alloc (.cells #[.int .i64 69, .int .i64 (m : Int), .int .i64 arg] 227))
   generalize (w.alloc (.cells #[.slice a n c] 22)).alloc (.cells #[.int .i64 69, .int .i64 (m : Int), .int .i64 arg] 227) = w1 at *
   go_quiet (fail)
   go_wp2_with ((go_at_call 186); refine (CT _ (hI.drewN _) HN.out hn2 hk (by omega) (by rfl) c4 c0).mono ?_; rintro e w5 ⟨rfl, rfl⟩; rw [HT.out])
   go_ret3
   exact RGoPost.no HR.out (below_drewN hacc _)
  ·have HR := Lib.hid (show moS l k 69 (m : Int) arg false = some (t, true) by rw [HR0.out, endsS, HT.out, if_neg (fun h => hk3 h.2)])
   have hb' : (t == (k : Int)) = false := by simpa using hk3
   clear hk3
   go_enter Try.func146, Try.ntmps146
   go_upto_region 1 with fail
   change Code.wp _ _ _ _ ((w.alloc (.cells #[.slice a n c] 22)).alloc (.cells #[.int .i64 69, .int .i64 (m : Int), .int .i64 arg] 227))
   generalize (w.alloc (.cells #[.slice a n c] 22)).alloc (.cells #[.int .i64 69, .int .i64 (m : Int), .int .i64 arg] 227) = w1 at *
   go_quiet (fail)
   go_wp2_with ((go_at_call 186); refine (CT _ (hI.drewN _) HN.out hn2 hk (by omega) (by rfl) c4 c0).mono ?_; rintro e w5 ⟨rfl, rfl⟩; rw [HT.out])
   go_ret3
   exact RGoPost.yes HR.out (below_drewN hacc _)
 ·have HR := Lib.hid (show moS l k 69 (m : Int) arg true = some (t, true) by rw [HR0.out, endsS, HT.out, if_neg (fun h => by cases h.1)])
  obtain ⟨bb, hbb⟩ : ∃ b, (t == (k : Int)) = b := ⟨_, rfl⟩
  cases bb
  all_goals
   go_enter Try.func146, Try.ntmps146
   go_upto_region 1 with fail
   change Code.wp _ _ _ _ ((w.alloc (.cells #[.slice a n c] 22)).alloc (.cells #[.int .i64 69, .int .i64 (m : Int), .int .i64 arg] 227))
   generalize (w.alloc (.cells #[.slice a n c] 22)).alloc (.cells #[.int .i64 69, .int .i64 (m : Int), .int .i64 arg] 227) = w1 at *
   go_quiet (fail)
   go_wp2_with ((go_at_call 186); refine (CT _ (hI.drewN _) HN.out hn2 hk (by omega) (by rfl) c4 c0).mono ?_; rintro e w5 ⟨rfl, rfl⟩; rw [HT.out])
   go_ret3
   exact RGoPost.yes HR.out (below_drewN hacc _)
end Go.Proofs.Ytmipnikhgihcpaa
