/- Contracts of goer's plain, found. -/
import Derived.Test.YtbgbcmfgncneiaaMot3
namespace Go.Proofs.Ytbgbcmfgncneiaa
open Go.RowKit
set_option linter.unusedVariables false
set_option linter.unusedSimpArgs false

set_option maxRecDepth 100000 in
set_option maxHeartbeats 1000000 in
theorem plain_h (a : Option Addr) (n c : Nat) (l : List Int) (k m : Nat) (op : Bool) (w : World) (hl : Ints w a l) (hn : l.length = n) (hn2 : n ≤ 4096) (hk : k ≤ n) (hk2 : k < n ∨ n = 0) (hm0 : 1 ≤ m) (hm : m ≤ 999) (arg : Int) :
    Calls Try.prog 145 #[goV a n c k (m : Int) op, .int .i64 104] w (MoPost (moS l k 104 (m : Int) arg op) w) := by
  unfold goV
  have hB := (Blk.new w #[.slice a n c, .int .i64 (k : Int), .int .i64 (m : Int), .bool op] 202).alloc (.cells #[.int .i64 0, .bool false] 204)
  obtain ⟨c0, c1, c2, c3⟩ := hB.four
  have hP := Blk.new (w.alloc (.cells #[.slice a n c, .int .i64 (k : Int), .int .i64 (m : Int), .bool op] 202)) #[.int .i64 0, .bool false] 204
  rw [World.size_alloc] at hP
  have hacc := below2 w (.cells #[.slice a n c, .int .i64 (k : Int), .int .i64 (m : Int), .bool op] 202) (.cells #[.int .i64 0, .bool false] 204)
  have hI := hl.below hacc
  have HN := Lib.hid hn
  clear hn
  by_cases h0 : k = 0
  · subst h0
    have HR := Lib.hid (show moS l 0 104 (m : Int) arg op = none by simp [moS])
    go_enter Try.func145, Try.ntmps145
    go_wp2
    rw [HR.out]
    have hG := (hP.set 0 (.int .i64 (0))).set 1 (.bool false)
    obtain ⟨q0, q1, -, -⟩ := Blk.two hG
    refine bodyPost_ret (v := .tuple #[.agg #[.int .i64 (0), .bool false], .int .i64 5]) (by simp [results, Try.results145, go_sem, q0, q1]) rfl ⟨rfl, ?_⟩
    first | exact (hacc.setCell (p := ⟨w.heap.size + 1, 0, none⟩) (Nat.le_succ _) _).setCell (p := ⟨w.heap.size + 1, 1, none⟩) (Nat.le_succ _) _ | exact below2 _ _ _
  · have h0' : ((k : Int) == 0) = false := by simp; omega
    rcases (show m < k ∨ k ≤ m by omega) with h1 | h1
    · have h2 : 0 < (k : Int) - (m : Int) := by omega
      have HM := Lib.hid (show max 0 ((k : Int) - m) = (k : Int) - m by omega)
      have HR := Lib.hid (show moS l k 104 (m : Int) arg op = some (max 0 ((k : Int) - m), false) by simp [moS, h0])
      clear h0
      go_enter Try.func145, Try.ntmps145
      go_wp2
      rw [HR.out, HM.out]
      have hG := (hP.set 0 (.int .i64 ((k : Int) - m))).set 1 (.bool false)
      obtain ⟨q0, q1, -, -⟩ := Blk.two hG
      refine bodyPost_ret (v := .tuple #[.agg #[.int .i64 ((k : Int) - m), .bool false], .int .i64 0]) (by simp [results, Try.results145, go_sem, q0, q1]) rfl ⟨rfl, ?_⟩
      first | exact (hacc.setCell (p := ⟨w.heap.size + 1, 0, none⟩) (Nat.le_succ _) _).setCell (p := ⟨w.heap.size + 1, 1, none⟩) (Nat.le_succ _) _ | exact below2 _ _ _
    · have h2 : (k : Int) - (m : Int) ≤ 0 := by omega
      have HM := Lib.hid (show max 0 ((k : Int) - m) = 0 by omega)
      have HR := Lib.hid (show moS l k 104 (m : Int) arg op = some (max 0 ((k : Int) - m), false) by simp [moS, h0])
      clear h0
      go_enter Try.func145, Try.ntmps145
      go_wp2
      rw [HR.out, HM.out]
      have hG := (hP.set 0 (.int .i64 (0))).set 1 (.bool false)
      obtain ⟨q0, q1, -, -⟩ := Blk.two hG
      refine bodyPost_ret (v := .tuple #[.agg #[.int .i64 (0), .bool false], .int .i64 0]) (by simp [results, Try.results145, go_sem, q0, q1]) rfl ⟨rfl, ?_⟩
      first | exact (hacc.setCell (p := ⟨w.heap.size + 1, 0, none⟩) (Nat.le_succ _) _).setCell (p := ⟨w.heap.size + 1, 1, none⟩) (Nat.le_succ _) _ | exact below2 _ _ _

set_option maxRecDepth 100000 in
set_option maxHeartbeats 1000000 in
theorem plain_l (a : Option Addr) (n c : Nat) (l : List Int) (k m : Nat) (op : Bool) (w : World) (hl : Ints w a l) (hn : l.length = n) (hn2 : n ≤ 4096) (hk : k ≤ n) (hk2 : k < n ∨ n = 0) (hm0 : 1 ≤ m) (hm : m ≤ 999) (arg : Int) :
    Calls Try.prog 145 #[goV a n c k (m : Int) op, .int .i64 108] w (MoPost (moS l k 108 (m : Int) arg op) w) := by
  unfold goV
  have hB := (Blk.new w #[.slice a n c, .int .i64 (k : Int), .int .i64 (m : Int), .bool op] 202).alloc (.cells #[.int .i64 0, .bool false] 204)
  obtain ⟨c0, c1, c2, c3⟩ := hB.four
  have hP := Blk.new (w.alloc (.cells #[.slice a n c, .int .i64 (k : Int), .int .i64 (m : Int), .bool op] 202)) #[.int .i64 0, .bool false] 204
  rw [World.size_alloc] at hP
  have hacc := below2 w (.cells #[.slice a n c, .int .i64 (k : Int), .int .i64 (m : Int), .bool op] 202) (.cells #[.int .i64 0, .bool false] 204)
  have hI := hl.below hacc
  have HN := Lib.hid hn
  have HR := Lib.hid (show moS l k 108 (m : Int) arg op = rightS n k m op by unfold moS rightS; rw [if_neg (by decide), if_pos rfl, hn])
  clear hn
  obtain ⟨r, hr⟩ : ∃ r, rightS n k (m : Int) op = r := ⟨_, rfl⟩
  have HR2 := Lib.hid hr; clear hr
  go_enter Try.func145, Try.ntmps145
  go_wp2_with ((go_at_call 170); refine (goer_right a n c k m op _ hn2 hk (by omega) (by omega)).mono ?_; rintro e w2 ⟨rfl, hb2⟩; rw [HR2.out]; have hB2 := hB.below hb2 hB.lt; obtain ⟨d0, d1, d2, d3⟩ := hB2.four; have hP2 := hP.below hb2 hP.lt; obtain ⟨s0, s1, s2, s3⟩ := hP2.two; have hacc2 := below_then hacc (by simp; omega) hb2)
  rw [HR.out, HR2.out]
  have hG := (hP2.set 0 (.int .i64 (moA r))).set 1 (.bool (moB r))
  obtain ⟨q0, q1, -, -⟩ := Blk.two hG
  refine bodyPost_ret (v := .tuple #[.agg #[.int .i64 (moA r), .bool (moB r)], .int .i64 (moE r)]) (by simp [results, Try.results145, go_sem, q0, q1]) rfl ⟨rfl, ?_⟩
  first | exact (hacc2.setCell (p := ⟨w.heap.size + 1, 0, none⟩) (Nat.le_succ _) _).setCell (p := ⟨w.heap.size + 1, 1, none⟩) (Nat.le_succ _) _ | exact below2 _ _ _

set_option maxRecDepth 100000 in
set_option maxHeartbeats 1000000 in
theorem plain_0 (a : Option Addr) (n c : Nat) (l : List Int) (k m : Nat) (op : Bool) (w : World) (hl : Ints w a l) (hn : l.length = n) (hn2 : n ≤ 4096) (hk : k ≤ n) (hk2 : k < n ∨ n = 0) (hm0 : 1 ≤ m) (hm : m ≤ 999) (arg : Int) :
    Calls Try.prog 145 #[goV a n c k (m : Int) op, .int .i64 48] w (MoPost (moS l k 48 (m : Int) arg op) w) := by
  unfold goV
  have hB := (Blk.new w #[.slice a n c, .int .i64 (k : Int), .int .i64 (m : Int), .bool op] 202).alloc (.cells #[.int .i64 0, .bool false] 204)
  obtain ⟨c0, c1, c2, c3⟩ := hB.four
  have hP := Blk.new (w.alloc (.cells #[.slice a n c, .int .i64 (k : Int), .int .i64 (m : Int), .bool op] 202)) #[.int .i64 0, .bool false] 204
  rw [World.size_alloc] at hP
  have hacc := below2 w (.cells #[.slice a n c, .int .i64 (k : Int), .int .i64 (m : Int), .bool op] 202) (.cells #[.int .i64 0, .bool false] 204)
  have hI := hl.below hacc
  have HN := Lib.hid hn
  clear hn
  have HR := Lib.hid (show moS l k 48 (m : Int) arg op = some (0, false) by simp [moS])
  go_enter Try.func145, Try.ntmps145
  go_wp2
  rw [HR.out]
  have hG := (hP.set 0 (.int .i64 (0))).set 1 (.bool false)
  obtain ⟨q0, q1, -, -⟩ := Blk.two hG
  refine bodyPost_ret (v := .tuple #[.agg #[.int .i64 (0), .bool false], .int .i64 0]) (by simp [results, Try.results145, go_sem, q0, q1]) rfl ⟨rfl, ?_⟩
  first | exact (hacc.setCell (p := ⟨w.heap.size + 1, 0, none⟩) (Nat.le_succ _) _).setCell (p := ⟨w.heap.size + 1, 1, none⟩) (Nat.le_succ _) _ | exact below2 _ _ _

set_option maxRecDepth 100000 in
set_option maxHeartbeats 1000000 in
theorem plain_first (a : Option Addr) (n c : Nat) (l : List Int) (k m : Nat) (op : Bool) (w : World) (hl : Ints w a l) (hn : l.length = n) (hn2 : n ≤ 4096) (hk : k ≤ n) (hk2 : k < n ∨ n = 0) (hm0 : 1 ≤ m) (hm : m ≤ 999) (arg : Int) :
    Calls Try.prog 145 #[goV a n c k (m : Int) op, .int .i64 94] w (MoPost (moS l k 94 (m : Int) arg op) w) := by
  unfold goV
  have hB := (Blk.new w #[.slice a n c, .int .i64 (k : Int), .int .i64 (m : Int), .bool op] 202).alloc (.cells #[.int .i64 0, .bool false] 204)
  obtain ⟨c0, c1, c2, c3⟩ := hB.four
  have hP := Blk.new (w.alloc (.cells #[.slice a n c, .int .i64 (k : Int), .int .i64 (m : Int), .bool op] 202)) #[.int .i64 0, .bool false] 204
  rw [World.size_alloc] at hP
  have hacc := below2 w (.cells #[.slice a n c, .int .i64 (k : Int), .int .i64 (m : Int), .bool op] 202) (.cells #[.int .i64 0, .bool false] 204)
  have hI := hl.below hacc
  have HN := Lib.hid hn
  have HN := Lib.hid hn
  clear hn
  obtain ⟨t, ht⟩ : ∃ t, firstF l = t := ⟨_, rfl⟩
  have HT := Lib.hid ht; clear ht
  have HR := Lib.hid (show moS l k 94 (m : Int) arg op = some (firstF l, false) by simp [moS])
  go_enter Try.func145, Try.ntmps145
  go_wp2_with ((go_at_call 171); refine (goer_first a n c l k m op _ hI HN.out hn2).mono ?_; rintro e w2 ⟨rfl, hb2⟩; rw [HT.out]; have hB2 := hB.below hb2 hB.lt; obtain ⟨d0, d1, d2, d3⟩ := hB2.four; have hP2 := hP.below hb2 hP.lt; obtain ⟨s0, s1, s2, s3⟩ := hP2.two; have hacc2 := below_then hacc (by simp; omega) hb2)
  rw [HR.out, HT.out]
  have hG := (hP2.set 0 (.int .i64 (t))).set 1 (.bool false)
  obtain ⟨q0, q1, -, -⟩ := Blk.two hG
  refine bodyPost_ret (v := .tuple #[.agg #[.int .i64 (t), .bool false], .int .i64 0]) (by simp [results, Try.results145, go_sem, q0, q1]) rfl ⟨rfl, ?_⟩
  first | exact (hacc2.setCell (p := ⟨w.heap.size + 1, 0, none⟩) (Nat.le_succ _) _).setCell (p := ⟨w.heap.size + 1, 1, none⟩) (Nat.le_succ _) _ | exact below2 _ _ _

set_option maxRecDepth 100000 in
set_option maxHeartbeats 1000000 in
theorem plain_b (a : Option Addr) (n c : Nat) (l : List Int) (k m : Nat) (op : Bool) (w : World) (hl : Ints w a l) (hn : l.length = n) (hn2 : n ≤ 4096) (hk : k ≤ n) (hk2 : k < n ∨ n = 0) (hm0 : 1 ≤ m) (hm : m ≤ 999) (arg : Int) :
    Calls Try.prog 145 #[goV a n c k (m : Int) op, .int .i64 98] w (MoPost (moS l k 98 (m : Int) arg op) w) := by
  unfold goV
  have hB := (Blk.new w #[.slice a n c, .int .i64 (k : Int), .int .i64 (m : Int), .bool op] 202).alloc (.cells #[.int .i64 0, .bool false] 204)
  obtain ⟨c0, c1, c2, c3⟩ := hB.four
  have hP := Blk.new (w.alloc (.cells #[.slice a n c, .int .i64 (k : Int), .int .i64 (m : Int), .bool op] 202)) #[.int .i64 0, .bool false] 204
  rw [World.size_alloc] at hP
  have hacc := below2 w (.cells #[.slice a n c, .int .i64 (k : Int), .int .i64 (m : Int), .bool op] 202) (.cells #[.int .i64 0, .bool false] 204)
  have hI := hl.below hacc
  have HN := Lib.hid hn
  clear hn
  by_cases h0 : k = 0
  · subst h0
    have HR := Lib.hid (show moS l 0 98 (m : Int) arg op = none by simp [moS])
    go_enter Try.func145, Try.ntmps145
    go_wp2
    rw [HR.out]
    have hG := (hP.set 0 (.int .i64 (0))).set 1 (.bool false)
    obtain ⟨q0, q1, -, -⟩ := Blk.two hG
    refine bodyPost_ret (v := .tuple #[.agg #[.int .i64 (0), .bool false], .int .i64 5]) (by simp [results, Try.results145, go_sem, q0, q1]) rfl ⟨rfl, ?_⟩
    first | exact (hacc.setCell (p := ⟨w.heap.size + 1, 0, none⟩) (Nat.le_succ _) _).setCell (p := ⟨w.heap.size + 1, 1, none⟩) (Nat.le_succ _) _ | exact below2 _ _ _
  · have h0' : ((k : Int) == 0) = false := by simp; omega
    obtain ⟨t, ht⟩ : ∃ t, iterF (backF l false) m k = t := ⟨_, rfl⟩
    have HT := Lib.hid ht; clear ht
    have HR := Lib.hid (show moS l k 98 (m : Int) arg op = some (iterF (backF l false) m k, false) by simp [moS, h0])
    clear h0
    go_enter Try.func145, Try.ntmps145
    go_wp2_with ((go_at_call 172); refine (goer_times_back a n c l k m op false _ hI HN.out hn2 hk (by omega)).mono ?_; rintro e w2 ⟨rfl, hb2⟩; rw [HT.out]; have hB2 := hB.below hb2 hB.lt; obtain ⟨d0, d1, d2, d3⟩ := hB2.four; have hP2 := hP.below hb2 hP.lt; obtain ⟨s0, s1, s2, s3⟩ := hP2.two; have hacc2 := below_then hacc (by simp; omega) hb2)
    rw [HR.out, HT.out]
    have hG := (hP2.set 0 (.int .i64 (t))).set 1 (.bool false)
    obtain ⟨q0, q1, -, -⟩ := Blk.two hG
    refine bodyPost_ret (v := .tuple #[.agg #[.int .i64 (t), .bool false], .int .i64 0]) (by simp [results, Try.results145, go_sem, q0, q1]) rfl ⟨rfl, ?_⟩
    first | exact (hacc2.setCell (p := ⟨w.heap.size + 1, 0, none⟩) (Nat.le_succ _) _).setCell (p := ⟨w.heap.size + 1, 1, none⟩) (Nat.le_succ _) _ | exact below2 _ _ _

set_option maxRecDepth 100000 in
set_option maxHeartbeats 1000000 in
theorem plain_B (a : Option Addr) (n c : Nat) (l : List Int) (k m : Nat) (op : Bool) (w : World) (hl : Ints w a l) (hn : l.length = n) (hn2 : n ≤ 4096) (hk : k ≤ n) (hk2 : k < n ∨ n = 0) (hm0 : 1 ≤ m) (hm : m ≤ 999) (arg : Int) :
    Calls Try.prog 145 #[goV a n c k (m : Int) op, .int .i64 66] w (MoPost (moS l k 66 (m : Int) arg op) w) := by
  unfold goV
  have hB := (Blk.new w #[.slice a n c, .int .i64 (k : Int), .int .i64 (m : Int), .bool op] 202).alloc (.cells #[.int .i64 0, .bool false] 204)
  obtain ⟨c0, c1, c2, c3⟩ := hB.four
  have hP := Blk.new (w.alloc (.cells #[.slice a n c, .int .i64 (k : Int), .int .i64 (m : Int), .bool op] 202)) #[.int .i64 0, .bool false] 204
  rw [World.size_alloc] at hP
  have hacc := below2 w (.cells #[.slice a n c, .int .i64 (k : Int), .int .i64 (m : Int), .bool op] 202) (.cells #[.int .i64 0, .bool false] 204)
  have hI := hl.below hacc
  have HN := Lib.hid hn
  clear hn
  by_cases h0 : k = 0
  · subst h0
    have HR := Lib.hid (show moS l 0 66 (m : Int) arg op = none by simp [moS])
    go_enter Try.func145, Try.ntmps145
    go_wp2
    rw [HR.out]
    have hG := (hP.set 0 (.int .i64 (0))).set 1 (.bool false)
    obtain ⟨q0, q1, -, -⟩ := Blk.two hG
    refine bodyPost_ret (v := .tuple #[.agg #[.int .i64 (0), .bool false], .int .i64 5]) (by simp [results, Try.results145, go_sem, q0, q1]) rfl ⟨rfl, ?_⟩
    first | exact (hacc.setCell (p := ⟨w.heap.size + 1, 0, none⟩) (Nat.le_succ _) _).setCell (p := ⟨w.heap.size + 1, 1, none⟩) (Nat.le_succ _) _ | exact below2 _ _ _
  · have h0' : ((k : Int) == 0) = false := by simp; omega
    obtain ⟨t, ht⟩ : ∃ t, iterF (backF l true) m k = t := ⟨_, rfl⟩
    have HT := Lib.hid ht; clear ht
    have HR := Lib.hid (show moS l k 66 (m : Int) arg op = some (iterF (backF l true) m k, false) by simp [moS, h0])
    clear h0
    go_enter Try.func145, Try.ntmps145
    go_wp2_with ((go_at_call 172); refine (goer_times_back a n c l k m op true _ hI HN.out hn2 hk (by omega)).mono ?_; rintro e w2 ⟨rfl, hb2⟩; rw [HT.out]; have hB2 := hB.below hb2 hB.lt; obtain ⟨d0, d1, d2, d3⟩ := hB2.four; have hP2 := hP.below hb2 hP.lt; obtain ⟨s0, s1, s2, s3⟩ := hP2.two; have hacc2 := below_then hacc (by simp; omega) hb2)
    rw [HR.out, HT.out]
    have hG := (hP2.set 0 (.int .i64 (t))).set 1 (.bool false)
    obtain ⟨q0, q1, -, -⟩ := Blk.two hG
    refine bodyPost_ret (v := .tuple #[.agg #[.int .i64 (t), .bool false], .int .i64 0]) (by simp [results, Try.results145, go_sem, q0, q1]) rfl ⟨rfl, ?_⟩
    first | exact (hacc2.setCell (p := ⟨w.heap.size + 1, 0, none⟩) (Nat.le_succ _) _).setCell (p := ⟨w.heap.size + 1, 1, none⟩) (Nat.le_succ _) _ | exact below2 _ _ _

set_option maxRecDepth 100000 in
set_option maxHeartbeats 1000000 in
theorem plain_nil_36 (a : Option Addr) (n c : Nat) (l : List Int) (k m : Nat) (op : Bool) (w : World) (hl : Ints w a l) (hn : l.length = n) (hn2 : n ≤ 4096) (hk : k ≤ n) (hk2 : k < n ∨ n = 0) (hm0 : 1 ≤ m) (hm : m ≤ 999) (arg : Int) (h0 : n = 0) (hl0 : l.length = 0) :
    Calls Try.prog 145 #[goV a n c k (m : Int) op, .int .i64 36] w (MoPost (moS l k 36 (m : Int) arg op) w) := by
  subst h0
  unfold goV
  have hB := (Blk.new w #[.slice a 0 c, .int .i64 (k : Int), .int .i64 (m : Int), .bool op] 202).alloc (.cells #[.int .i64 0, .bool false] 204)
  obtain ⟨c0, c1, c2, c3⟩ := hB.four
  have hP := Blk.new (w.alloc (.cells #[.slice a 0 c, .int .i64 (k : Int), .int .i64 (m : Int), .bool op] 202)) #[.int .i64 0, .bool false] 204
  rw [World.size_alloc] at hP
  have hacc := below2 w (.cells #[.slice a 0 c, .int .i64 (k : Int), .int .i64 (m : Int), .bool op] 202) (.cells #[.int .i64 0, .bool false] 204)
  have hI := hl.below hacc
  have HN := Lib.hid hn
  clear hn HN
  have HR := Lib.hid (show moS l k 36 (m : Int) arg op = none by simp [moS, hl0])
  clear hl0
  go_enter Try.func145, Try.ntmps145
  go_wp2
  rw [HR.out]
  have hG := (hP.set 0 (.int .i64 (0))).set 1 (.bool false)
  obtain ⟨q0, q1, -, -⟩ := Blk.two hG
  refine bodyPost_ret (v := .tuple #[.agg #[.int .i64 (0), .bool false], .int .i64 5]) (by simp [results, Try.results145, go_sem, q0, q1]) rfl ⟨rfl, ?_⟩
  first | exact (hacc.setCell (p := ⟨w.heap.size + 1, 0, none⟩) (Nat.le_succ _) _).setCell (p := ⟨w.heap.size + 1, 1, none⟩) (Nat.le_succ _) _ | exact below2 _ _ _

set_option maxRecDepth 100000 in
set_option maxHeartbeats 1000000 in
theorem plain_nil_124 (a : Option Addr) (n c : Nat) (l : List Int) (k m : Nat) (op : Bool) (w : World) (hl : Ints w a l) (hn : l.length = n) (hn2 : n ≤ 4096) (hk : k ≤ n) (hk2 : k < n ∨ n = 0) (hm0 : 1 ≤ m) (hm : m ≤ 999) (arg : Int) (h0 : n = 0) (hl0 : l.length = 0) :
    Calls Try.prog 145 #[goV a n c k (m : Int) op, .int .i64 124] w (MoPost (moS l k 124 (m : Int) arg op) w) := by
  subst h0
  unfold goV
  have hB := (Blk.new w #[.slice a 0 c, .int .i64 (k : Int), .int .i64 (m : Int), .bool op] 202).alloc (.cells #[.int .i64 0, .bool false] 204)
  obtain ⟨c0, c1, c2, c3⟩ := hB.four
  have hP := Blk.new (w.alloc (.cells #[.slice a 0 c, .int .i64 (k : Int), .int .i64 (m : Int), .bool op] 202)) #[.int .i64 0, .bool false] 204
  rw [World.size_alloc] at hP
  have hacc := below2 w (.cells #[.slice a 0 c, .int .i64 (k : Int), .int .i64 (m : Int), .bool op] 202) (.cells #[.int .i64 0, .bool false] 204)
  have hI := hl.below hacc
  have HN := Lib.hid hn
  clear hn HN
  have HR := Lib.hid (show moS l k 124 (m : Int) arg op = none by simp [moS, hl0])
  clear hl0
  go_enter Try.func145, Try.ntmps145
  go_wp2
  rw [HR.out]
  have hG := (hP.set 0 (.int .i64 (0))).set 1 (.bool false)
  obtain ⟨q0, q1, -, -⟩ := Blk.two hG
  refine bodyPost_ret (v := .tuple #[.agg #[.int .i64 (0), .bool false], .int .i64 5]) (by simp [results, Try.results145, go_sem, q0, q1]) rfl ⟨rfl, ?_⟩
  first | exact (hacc.setCell (p := ⟨w.heap.size + 1, 0, none⟩) (Nat.le_succ _) _).setCell (p := ⟨w.heap.size + 1, 1, none⟩) (Nat.le_succ _) _ | exact below2 _ _ _

set_option maxRecDepth 100000 in
set_option maxHeartbeats 1000000 in
theorem plain_nil_119 (a : Option Addr) (n c : Nat) (l : List Int) (k m : Nat) (op : Bool) (w : World) (hl : Ints w a l) (hn : l.length = n) (hn2 : n ≤ 4096) (hk : k ≤ n) (hk2 : k < n ∨ n = 0) (hm0 : 1 ≤ m) (hm : m ≤ 999) (arg : Int) (h0 : n = 0) (hl0 : l.length = 0) :
    Calls Try.prog 145 #[goV a n c k (m : Int) op, .int .i64 119] w (MoPost (moS l k 119 (m : Int) arg op) w) := by
  subst h0
  unfold goV
  have hB := (Blk.new w #[.slice a 0 c, .int .i64 (k : Int), .int .i64 (m : Int), .bool op] 202).alloc (.cells #[.int .i64 0, .bool false] 204)
  obtain ⟨c0, c1, c2, c3⟩ := hB.four
  have hP := Blk.new (w.alloc (.cells #[.slice a 0 c, .int .i64 (k : Int), .int .i64 (m : Int), .bool op] 202)) #[.int .i64 0, .bool false] 204
  rw [World.size_alloc] at hP
  have hacc := below2 w (.cells #[.slice a 0 c, .int .i64 (k : Int), .int .i64 (m : Int), .bool op] 202) (.cells #[.int .i64 0, .bool false] 204)
  have hI := hl.below hacc
  have HN := Lib.hid hn
  clear hn HN
  have HR := Lib.hid (show moS l k 119 (m : Int) arg op = none by simp [moS, hl0])
  clear hl0
  go_enter Try.func145, Try.ntmps145
  go_wp2
  rw [HR.out]
  have hG := (hP.set 0 (.int .i64 (0))).set 1 (.bool false)
  obtain ⟨q0, q1, -, -⟩ := Blk.two hG
  refine bodyPost_ret (v := .tuple #[.agg #[.int .i64 (0), .bool false], .int .i64 5]) (by simp [results, Try.results145, go_sem, q0, q1]) rfl ⟨rfl, ?_⟩
  first | exact (hacc.setCell (p := ⟨w.heap.size + 1, 0, none⟩) (Nat.le_succ _) _).setCell (p := ⟨w.heap.size + 1, 1, none⟩) (Nat.le_succ _) _ | exact below2 _ _ _

set_option maxRecDepth 100000 in
set_option maxHeartbeats 1000000 in
theorem plain_nil_87 (a : Option Addr) (n c : Nat) (l : List Int) (k m : Nat) (op : Bool) (w : World) (hl : Ints w a l) (hn : l.length = n) (hn2 : n ≤ 4096) (hk : k ≤ n) (hk2 : k < n ∨ n = 0) (hm0 : 1 ≤ m) (hm : m ≤ 999) (arg : Int) (h0 : n = 0) (hl0 : l.length = 0) :
    Calls Try.prog 145 #[goV a n c k (m : Int) op, .int .i64 87] w (MoPost (moS l k 87 (m : Int) arg op) w) := by
  subst h0
  unfold goV
  have hB := (Blk.new w #[.slice a 0 c, .int .i64 (k : Int), .int .i64 (m : Int), .bool op] 202).alloc (.cells #[.int .i64 0, .bool false] 204)
  obtain ⟨c0, c1, c2, c3⟩ := hB.four
  have hP := Blk.new (w.alloc (.cells #[.slice a 0 c, .int .i64 (k : Int), .int .i64 (m : Int), .bool op] 202)) #[.int .i64 0, .bool false] 204
  rw [World.size_alloc] at hP
  have hacc := below2 w (.cells #[.slice a 0 c, .int .i64 (k : Int), .int .i64 (m : Int), .bool op] 202) (.cells #[.int .i64 0, .bool false] 204)
  have hI := hl.below hacc
  have HN := Lib.hid hn
  clear hn HN
  have HR := Lib.hid (show moS l k 87 (m : Int) arg op = none by simp [moS, hl0])
  clear hl0
  go_enter Try.func145, Try.ntmps145
  go_wp2
  rw [HR.out]
  have hG := (hP.set 0 (.int .i64 (0))).set 1 (.bool false)
  obtain ⟨q0, q1, -, -⟩ := Blk.two hG
  refine bodyPost_ret (v := .tuple #[.agg #[.int .i64 (0), .bool false], .int .i64 5]) (by simp [results, Try.results145, go_sem, q0, q1]) rfl ⟨rfl, ?_⟩
  first | exact (hacc.setCell (p := ⟨w.heap.size + 1, 0, none⟩) (Nat.le_succ _) _).setCell (p := ⟨w.heap.size + 1, 1, none⟩) (Nat.le_succ _) _ | exact below2 _ _ _

set_option maxRecDepth 100000 in
set_option maxHeartbeats 1000000 in
theorem plain_nil_101 (a : Option Addr) (n c : Nat) (l : List Int) (k m : Nat) (op : Bool) (w : World) (hl : Ints w a l) (hn : l.length = n) (hn2 : n ≤ 4096) (hk : k ≤ n) (hk2 : k < n ∨ n = 0) (hm0 : 1 ≤ m) (hm : m ≤ 999) (arg : Int) (h0 : n = 0) (hl0 : l.length = 0) :
    Calls Try.prog 145 #[goV a n c k (m : Int) op, .int .i64 101] w (MoPost (moS l k 101 (m : Int) arg op) w) := by
  subst h0
  unfold goV
  have hB := (Blk.new w #[.slice a 0 c, .int .i64 (k : Int), .int .i64 (m : Int), .bool op] 202).alloc (.cells #[.int .i64 0, .bool false] 204)
  obtain ⟨c0, c1, c2, c3⟩ := hB.four
  have hP := Blk.new (w.alloc (.cells #[.slice a 0 c, .int .i64 (k : Int), .int .i64 (m : Int), .bool op] 202)) #[.int .i64 0, .bool false] 204
  rw [World.size_alloc] at hP
  have hacc := below2 w (.cells #[.slice a 0 c, .int .i64 (k : Int), .int .i64 (m : Int), .bool op] 202) (.cells #[.int .i64 0, .bool false] 204)
  have hI := hl.below hacc
  have HN := Lib.hid hn
  clear hn HN
  have HR := Lib.hid (show moS l k 101 (m : Int) arg op = none by simp [moS, hl0])
  clear hl0
  go_enter Try.func145, Try.ntmps145
  go_wp2
  rw [HR.out]
  have hG := (hP.set 0 (.int .i64 (0))).set 1 (.bool false)
  obtain ⟨q0, q1, -, -⟩ := Blk.two hG
  refine bodyPost_ret (v := .tuple #[.agg #[.int .i64 (0), .bool false], .int .i64 5]) (by simp [results, Try.results145, go_sem, q0, q1]) rfl ⟨rfl, ?_⟩
  first | exact (hacc.setCell (p := ⟨w.heap.size + 1, 0, none⟩) (Nat.le_succ _) _).setCell (p := ⟨w.heap.size + 1, 1, none⟩) (Nat.le_succ _) _ | exact below2 _ _ _

set_option maxRecDepth 100000 in
set_option maxHeartbeats 1000000 in
theorem plain_nil_69 (a : Option Addr) (n c : Nat) (l : List Int) (k m : Nat) (op : Bool) (w : World) (hl : Ints w a l) (hn : l.length = n) (hn2 : n ≤ 4096) (hk : k ≤ n) (hk2 : k < n ∨ n = 0) (hm0 : 1 ≤ m) (hm : m ≤ 999) (arg : Int) (h0 : n = 0) (hl0 : l.length = 0) :
    Calls Try.prog 145 #[goV a n c k (m : Int) op, .int .i64 69] w (MoPost (moS l k 69 (m : Int) arg op) w) := by
  subst h0
  unfold goV
  have hB := (Blk.new w #[.slice a 0 c, .int .i64 (k : Int), .int .i64 (m : Int), .bool op] 202).alloc (.cells #[.int .i64 0, .bool false] 204)
  obtain ⟨c0, c1, c2, c3⟩ := hB.four
  have hP := Blk.new (w.alloc (.cells #[.slice a 0 c, .int .i64 (k : Int), .int .i64 (m : Int), .bool op] 202)) #[.int .i64 0, .bool false] 204
  rw [World.size_alloc] at hP
  have hacc := below2 w (.cells #[.slice a 0 c, .int .i64 (k : Int), .int .i64 (m : Int), .bool op] 202) (.cells #[.int .i64 0, .bool false] 204)
  have hI := hl.below hacc
  have HN := Lib.hid hn
  clear hn HN
  have HR := Lib.hid (show moS l k 69 (m : Int) arg op = none by simp [moS, hl0])
  clear hl0
  go_enter Try.func145, Try.ntmps145
  go_wp2
  rw [HR.out]
  have hG := (hP.set 0 (.int .i64 (0))).set 1 (.bool false)
  obtain ⟨q0, q1, -, -⟩ := Blk.two hG
  refine bodyPost_ret (v := .tuple #[.agg #[.int .i64 (0), .bool false], .int .i64 5]) (by simp [results, Try.results145, go_sem, q0, q1]) rfl ⟨rfl, ?_⟩
  first | exact (hacc.setCell (p := ⟨w.heap.size + 1, 0, none⟩) (Nat.le_succ _) _).setCell (p := ⟨w.heap.size + 1, 1, none⟩) (Nat.le_succ _) _ | exact below2 _ _ _

set_option maxRecDepth 100000 in
set_option maxHeartbeats 1000000 in
theorem plain_nil_37 (a : Option Addr) (n c : Nat) (l : List Int) (k m : Nat) (op : Bool) (w : World) (hl : Ints w a l) (hn : l.length = n) (hn2 : n ≤ 4096) (hk : k ≤ n) (hk2 : k < n ∨ n = 0) (hm0 : 1 ≤ m) (hm : m ≤ 999) (arg : Int) (h0 : n = 0) (hl0 : l.length = 0) :
    Calls Try.prog 145 #[goV a n c k (m : Int) op, .int .i64 37] w (MoPost (moS l k 37 (m : Int) arg op) w) := by
  subst h0
  unfold goV
  have hB := (Blk.new w #[.slice a 0 c, .int .i64 (k : Int), .int .i64 (m : Int), .bool op] 202).alloc (.cells #[.int .i64 0, .bool false] 204)
  obtain ⟨c0, c1, c2, c3⟩ := hB.four
  have hP := Blk.new (w.alloc (.cells #[.slice a 0 c, .int .i64 (k : Int), .int .i64 (m : Int), .bool op] 202)) #[.int .i64 0, .bool false] 204
  rw [World.size_alloc] at hP
  have hacc := below2 w (.cells #[.slice a 0 c, .int .i64 (k : Int), .int .i64 (m : Int), .bool op] 202) (.cells #[.int .i64 0, .bool false] 204)
  have hI := hl.below hacc
  have HN := Lib.hid hn
  clear hn HN
  have HR := Lib.hid (show moS l k 37 (m : Int) arg op = none by simp [moS, hl0])
  clear hl0
  go_enter Try.func145, Try.ntmps145
  go_wp2
  rw [HR.out]
  have hG := (hP.set 0 (.int .i64 (0))).set 1 (.bool false)
  obtain ⟨q0, q1, -, -⟩ := Blk.two hG
  refine bodyPost_ret (v := .tuple #[.agg #[.int .i64 (0), .bool false], .int .i64 5]) (by simp [results, Try.results145, go_sem, q0, q1]) rfl ⟨rfl, ?_⟩
  first | exact (hacc.setCell (p := ⟨w.heap.size + 1, 0, none⟩) (Nat.le_succ _) _).setCell (p := ⟨w.heap.size + 1, 1, none⟩) (Nat.le_succ _) _ | exact below2 _ _ _

set_option maxRecDepth 100000 in
set_option maxHeartbeats 1000000 in
theorem plain_36 (a : Option Addr) (n c : Nat) (l : List Int) (k m : Nat) (op : Bool) (w : World) (hl : Ints w a l) (hn : l.length = n) (hn2 : n ≤ 4096) (hk : k ≤ n) (hk2 : k < n ∨ n = 0) (hm0 : 1 ≤ m) (hm : m ≤ 999) (arg : Int) (h0 : 1 ≤ n) (hl0 : l.length ≠ 0) :
    Calls Try.prog 145 #[goV a n c k (m : Int) op, .int .i64 36] w (MoPost (moS l k 36 (m : Int) arg op) w) := by
  unfold goV
  have hB := (Blk.new w #[.slice a n c, .int .i64 (k : Int), .int .i64 (m : Int), .bool op] 202).alloc (.cells #[.int .i64 0, .bool false] 204)
  obtain ⟨c0, c1, c2, c3⟩ := hB.four
  have hP := Blk.new (w.alloc (.cells #[.slice a n c, .int .i64 (k : Int), .int .i64 (m : Int), .bool op] 202)) #[.int .i64 0, .bool false] 204
  rw [World.size_alloc] at hP
  have hacc := below2 w (.cells #[.slice a n c, .int .i64 (k : Int), .int .i64 (m : Int), .bool op] 202) (.cells #[.int .i64 0, .bool false] 204)
  have hI := hl.below hacc
  have HN := Lib.hid hn
  have h0' : ((n : Int) == 0) = false := by simp; omega
  have hln : ((l.length : Nat) : Int) = (n : Int) := by omega
  have HR := Lib.hid (show moS l k 36 (m : Int) arg op = some ((n : Int) - 1, true) by simp [moS, hl0, hln])
  clear hn hln hl0
  go_enter Try.func145, Try.ntmps145
  go_wp2
  rw [HR.out]
  have hG := (hP.set 0 (.int .i64 ((n : Int) - 1))).set 1 (.bool true)
  obtain ⟨q0, q1, -, -⟩ := Blk.two hG
  refine bodyPost_ret (v := .tuple #[.agg #[.int .i64 ((n : Int) - 1), .bool true], .int .i64 0]) (by simp [results, Try.results145, go_sem, q0, q1]) rfl ⟨rfl, ?_⟩
  first | exact (hacc.setCell (p := ⟨w.heap.size + 1, 0, none⟩) (Nat.le_succ _) _).setCell (p := ⟨w.heap.size + 1, 1, none⟩) (Nat.le_succ _) _ | exact below2 _ _ _

set_option maxRecDepth 100000 in
set_option maxHeartbeats 1000000 in
theorem plain_124 (a : Option Addr) (n c : Nat) (l : List Int) (k m : Nat) (op : Bool) (w : World) (hl : Ints w a l) (hn : l.length = n) (hn2 : n ≤ 4096) (hk : k ≤ n) (hk2 : k < n ∨ n = 0) (hm0 : 1 ≤ m) (hm : m ≤ 999) (arg : Int) (h0 : 1 ≤ n) (hl0 : l.length ≠ 0) :
    Calls Try.prog 145 #[goV a n c k (m : Int) op, .int .i64 124] w (MoPost (moS l k 124 (m : Int) arg op) w) := by
  unfold goV
  have hB := (Blk.new w #[.slice a n c, .int .i64 (k : Int), .int .i64 (m : Int), .bool op] 202).alloc (.cells #[.int .i64 0, .bool false] 204)
  obtain ⟨c0, c1, c2, c3⟩ := hB.four
  have hP := Blk.new (w.alloc (.cells #[.slice a n c, .int .i64 (k : Int), .int .i64 (m : Int), .bool op] 202)) #[.int .i64 0, .bool false] 204
  rw [World.size_alloc] at hP
  have hacc := below2 w (.cells #[.slice a n c, .int .i64 (k : Int), .int .i64 (m : Int), .bool op] 202) (.cells #[.int .i64 0, .bool false] 204)
  have hI := hl.below hacc
  have HN := Lib.hid hn
  have h0' : ((n : Int) == 0) = false := by simp; omega
  have hln : ((l.length : Nat) : Int) = (n : Int) := by omega
  rcases (show m ≤ n ∨ n < m by omega) with h1 | h1
  · have HM := Lib.hid (show min (m : Int) (n : Int) - 1 = (m : Int) - 1 by omega)
    have HR := Lib.hid (show moS l k 124 (m : Int) arg op = some (min (m : Int) (n : Int) - 1, false) by simp [moS, hl0, hln])
    clear hn hln hl0
    go_enter Try.func145, Try.ntmps145
    go_wp2
    rw [HR.out, HM.out]
    have hG := (hP.set 0 (.int .i64 ((m : Int) - 1))).set 1 (.bool false)
    obtain ⟨q0, q1, -, -⟩ := Blk.two hG
    refine bodyPost_ret (v := .tuple #[.agg #[.int .i64 ((m : Int) - 1), .bool false], .int .i64 0]) (by simp [results, Try.results145, go_sem, q0, q1]) rfl ⟨rfl, ?_⟩
    first | exact (hacc.setCell (p := ⟨w.heap.size + 1, 0, none⟩) (Nat.le_succ _) _).setCell (p := ⟨w.heap.size + 1, 1, none⟩) (Nat.le_succ _) _ | exact below2 _ _ _
  · have HM := Lib.hid (show min (m : Int) (n : Int) - 1 = (n : Int) - 1 by omega)
    have HR := Lib.hid (show moS l k 124 (m : Int) arg op = some (min (m : Int) (n : Int) - 1, false) by simp [moS, hl0, hln])
    clear hn hln hl0
    go_enter Try.func145, Try.ntmps145
    go_wp2
    rw [HR.out, HM.out]
    have hG := (hP.set 0 (.int .i64 ((n : Int) - 1))).set 1 (.bool false)
    obtain ⟨q0, q1, -, -⟩ := Blk.two hG
    refine bodyPost_ret (v := .tuple #[.agg #[.int .i64 ((n : Int) - 1), .bool false], .int .i64 0]) (by simp [results, Try.results145, go_sem, q0, q1]) rfl ⟨rfl, ?_⟩
    first | exact (hacc.setCell (p := ⟨w.heap.size + 1, 0, none⟩) (Nat.le_succ _) _).setCell (p := ⟨w.heap.size + 1, 1, none⟩) (Nat.le_succ _) _ | exact below2 _ _ _

set_option maxRecDepth 100000 in
set_option maxHeartbeats 1000000 in
theorem plain_119 (a : Option Addr) (n c : Nat) (l : List Int) (k m : Nat) (op : Bool) (w : World) (hl : Ints w a l) (hn : l.length = n) (hn2 : n ≤ 4096) (hk : k ≤ n) (hk2 : k < n ∨ n = 0) (hm0 : 1 ≤ m) (hm : m ≤ 999) (arg : Int) (h0 : 1 ≤ n) (hl0 : l.length ≠ 0) :
    Calls Try.prog 145 #[goV a n c k (m : Int) op, .int .i64 119] w (MoPost (moS l k 119 (m : Int) arg op) w) := by
  unfold goV
  have hB := (Blk.new w #[.slice a n c, .int .i64 (k : Int), .int .i64 (m : Int), .bool op] 202).alloc (.cells #[.int .i64 0, .bool false] 204)
  obtain ⟨c0, c1, c2, c3⟩ := hB.four
  have hP := Blk.new (w.alloc (.cells #[.slice a n c, .int .i64 (k : Int), .int .i64 (m : Int), .bool op] 202)) #[.int .i64 0, .bool false] 204
  rw [World.size_alloc] at hP
  have hacc := below2 w (.cells #[.slice a n c, .int .i64 (k : Int), .int .i64 (m : Int), .bool op] 202) (.cells #[.int .i64 0, .bool false] 204)
  have hI := hl.below hacc
  have HN := Lib.hid hn
  have h0' : ((n : Int) == 0) = false := by simp; omega
  have HR := Lib.hid (show moS l k 119 (m : Int) arg op = wordsS l k m op false by
    unfold moS wordsS
    simp only [Int.toNat_natCast]
    rw [if_neg (by decide), if_neg (by decide), if_neg (by decide), if_neg (by decide), if_neg (by decide), if_neg (by decide), if_neg (by decide), if_neg hl0, if_neg (by decide), if_neg (by decide)]
    first | (rw [if_pos (by decide)]; rfl) | (rw [if_neg (by decide), if_pos (by decide)]; rfl))
  clear hn hl0
  obtain ⟨r, hr⟩ : ∃ r, wordsS l k m op false = r := ⟨_, rfl⟩
  have HR2 := Lib.hid hr; clear hr
  go_enter Try.func145, Try.ntmps145
  go_wp2_with ((go_at_call 174); refine (goer_words a n c l k m op false _ hI HN.out hn2 hk h0 (by omega)).mono ?_; rintro e w2 ⟨rfl, hb2⟩; rw [HR2.out]; have hB2 := hB.below hb2 hB.lt; obtain ⟨d0, d1, d2, d3⟩ := hB2.four; have hP2 := hP.below hb2 hP.lt; obtain ⟨s0, s1, s2, s3⟩ := hP2.two; have hacc2 := below_then hacc (by simp; omega) hb2)
  rw [HR.out, HR2.out]
  have hG := (hP2.set 0 (.int .i64 (moA r))).set 1 (.bool (moB r))
  obtain ⟨q0, q1, -, -⟩ := Blk.two hG
  refine bodyPost_ret (v := .tuple #[.agg #[.int .i64 (moA r), .bool (moB r)], .int .i64 (moE r)]) (by simp [results, Try.results145, go_sem, q0, q1]) rfl ⟨rfl, ?_⟩
  first | exact (hacc2.setCell (p := ⟨w.heap.size + 1, 0, none⟩) (Nat.le_succ _) _).setCell (p := ⟨w.heap.size + 1, 1, none⟩) (Nat.le_succ _) _ | exact below2 _ _ _

set_option maxRecDepth 100000 in
set_option maxHeartbeats 1000000 in
theorem plain_87 (a : Option Addr) (n c : Nat) (l : List Int) (k m : Nat) (op : Bool) (w : World) (hl : Ints w a l) (hn : l.length = n) (hn2 : n ≤ 4096) (hk : k ≤ n) (hk2 : k < n ∨ n = 0) (hm0 : 1 ≤ m) (hm : m ≤ 999) (arg : Int) (h0 : 1 ≤ n) (hl0 : l.length ≠ 0) :
    Calls Try.prog 145 #[goV a n c k (m : Int) op, .int .i64 87] w (MoPost (moS l k 87 (m : Int) arg op) w) := by
  unfold goV
  have hB := (Blk.new w #[.slice a n c, .int .i64 (k : Int), .int .i64 (m : Int), .bool op] 202).alloc (.cells #[.int .i64 0, .bool false] 204)
  obtain ⟨c0, c1, c2, c3⟩ := hB.four
  have hP := Blk.new (w.alloc (.cells #[.slice a n c, .int .i64 (k : Int), .int .i64 (m : Int), .bool op] 202)) #[.int .i64 0, .bool false] 204
  rw [World.size_alloc] at hP
  have hacc := below2 w (.cells #[.slice a n c, .int .i64 (k : Int), .int .i64 (m : Int), .bool op] 202) (.cells #[.int .i64 0, .bool false] 204)
  have hI := hl.below hacc
  have HN := Lib.hid hn
  have h0' : ((n : Int) == 0) = false := by simp; omega
  have HR := Lib.hid (show moS l k 87 (m : Int) arg op = wordsS l k m op true by
    unfold moS wordsS
    simp only [Int.toNat_natCast]
    rw [if_neg (by decide), if_neg (by decide), if_neg (by decide), if_neg (by decide), if_neg (by decide), if_neg (by decide), if_neg (by decide), if_neg hl0, if_neg (by decide), if_neg (by decide)]
    first | (rw [if_pos (by decide)]; rfl) | (rw [if_neg (by decide), if_pos (by decide)]; rfl))
  clear hn hl0
  obtain ⟨r, hr⟩ : ∃ r, wordsS l k m op true = r := ⟨_, rfl⟩
  have HR2 := Lib.hid hr; clear hr
  go_enter Try.func145, Try.ntmps145
  go_wp2_with ((go_at_call 174); refine (goer_words a n c l k m op true _ hI HN.out hn2 hk h0 (by omega)).mono ?_; rintro e w2 ⟨rfl, hb2⟩; rw [HR2.out]; have hB2 := hB.below hb2 hB.lt; obtain ⟨d0, d1, d2, d3⟩ := hB2.four; have hP2 := hP.below hb2 hP.lt; obtain ⟨s0, s1, s2, s3⟩ := hP2.two; have hacc2 := below_then hacc (by simp; omega) hb2)
  rw [HR.out, HR2.out]
  have hG := (hP2.set 0 (.int .i64 (moA r))).set 1 (.bool (moB r))
  obtain ⟨q0, q1, -, -⟩ := Blk.two hG
  refine bodyPost_ret (v := .tuple #[.agg #[.int .i64 (moA r), .bool (moB r)], .int .i64 (moE r)]) (by simp [results, Try.results145, go_sem, q0, q1]) rfl ⟨rfl, ?_⟩
  first | exact (hacc2.setCell (p := ⟨w.heap.size + 1, 0, none⟩) (Nat.le_succ _) _).setCell (p := ⟨w.heap.size + 1, 1, none⟩) (Nat.le_succ _) _ | exact below2 _ _ _

set_option maxRecDepth 100000 in
set_option maxHeartbeats 1000000 in
theorem plain_101 (a : Option Addr) (n c : Nat) (l : List Int) (k m : Nat) (op : Bool) (w : World) (hl : Ints w a l) (hn : l.length = n) (hn2 : n ≤ 4096) (hk : k ≤ n) (hk2 : k < n ∨ n = 0) (hm0 : 1 ≤ m) (hm : m ≤ 999) (arg : Int) (h0 : 1 ≤ n) (hl0 : l.length ≠ 0) :
    Calls Try.prog 145 #[goV a n c k (m : Int) op, .int .i64 101] w (MoPost (moS l k 101 (m : Int) arg op) w) := by
  unfold goV
  have hB := (Blk.new w #[.slice a n c, .int .i64 (k : Int), .int .i64 (m : Int), .bool op] 202).alloc (.cells #[.int .i64 0, .bool false] 204)
  obtain ⟨c0, c1, c2, c3⟩ := hB.four
  have hP := Blk.new (w.alloc (.cells #[.slice a n c, .int .i64 (k : Int), .int .i64 (m : Int), .bool op] 202)) #[.int .i64 0, .bool false] 204
  rw [World.size_alloc] at hP
  have hacc := below2 w (.cells #[.slice a n c, .int .i64 (k : Int), .int .i64 (m : Int), .bool op] 202) (.cells #[.int .i64 0, .bool false] 204)
  have hI := hl.below hacc
  have HN := Lib.hid hn
  have h0' : ((n : Int) == 0) = false := by simp; omega
  have HR := Lib.hid (show moS l k 101 (m : Int) arg op = endsS l k m op false by
    unfold moS endsS
    simp only [Int.toNat_natCast]
    rw [if_neg (by decide), if_neg (by decide), if_neg (by decide), if_neg (by decide), if_neg (by decide), if_neg (by decide), if_neg (by decide), if_neg hl0, if_neg (by decide), if_neg (by decide)]
    first | (rw [if_pos (by decide)]; rfl) | (rw [if_neg (by decide), if_pos (by decide)]; rfl))
  clear hn hl0
  obtain ⟨r, hr⟩ : ∃ r, endsS l k m op false = r := ⟨_, rfl⟩
  have HR2 := Lib.hid hr; clear hr
  go_enter Try.func145, Try.ntmps145
  go_wp2_with ((go_at_call 175); refine (goer_ends a n c l k m op false _ hI HN.out hn2 hk h0 (by omega)).mono ?_; rintro e w2 ⟨rfl, hb2⟩; rw [HR2.out]; have hB2 := hB.below hb2 hB.lt; obtain ⟨d0, d1, d2, d3⟩ := hB2.four; have hP2 := hP.below hb2 hP.lt; obtain ⟨s0, s1, s2, s3⟩ := hP2.two; have hacc2 := below_then hacc (by simp; omega) hb2)
  rw [HR.out, HR2.out]
  have hG := (hP2.set 0 (.int .i64 (moA r))).set 1 (.bool (moB r))
  obtain ⟨q0, q1, -, -⟩ := Blk.two hG
  refine bodyPost_ret (v := .tuple #[.agg #[.int .i64 (moA r), .bool (moB r)], .int .i64 (moE r)]) (by simp [results, Try.results145, go_sem, q0, q1]) rfl ⟨rfl, ?_⟩
  first | exact (hacc2.setCell (p := ⟨w.heap.size + 1, 0, none⟩) (Nat.le_succ _) _).setCell (p := ⟨w.heap.size + 1, 1, none⟩) (Nat.le_succ _) _ | exact below2 _ _ _

set_option maxRecDepth 100000 in
set_option maxHeartbeats 1000000 in
theorem plain_69 (a : Option Addr) (n c : Nat) (l : List Int) (k m : Nat) (op : Bool) (w : World) (hl : Ints w a l) (hn : l.length = n) (hn2 : n ≤ 4096) (hk : k ≤ n) (hk2 : k < n ∨ n = 0) (hm0 : 1 ≤ m) (hm : m ≤ 999) (arg : Int) (h0 : 1 ≤ n) (hl0 : l.length ≠ 0) :
    Calls Try.prog 145 #[goV a n c k (m : Int) op, .int .i64 69] w (MoPost (moS l k 69 (m : Int) arg op) w) := by
  unfold goV
  have hB := (Blk.new w #[.slice a n c, .int .i64 (k : Int), .int .i64 (m : Int), .bool op] 202).alloc (.cells #[.int .i64 0, .bool false] 204)
  obtain ⟨c0, c1, c2, c3⟩ := hB.four
  have hP := Blk.new (w.alloc (.cells #[.slice a n c, .int .i64 (k : Int), .int .i64 (m : Int), .bool op] 202)) #[.int .i64 0, .bool false] 204
  rw [World.size_alloc] at hP
  have hacc := below2 w (.cells #[.slice a n c, .int .i64 (k : Int), .int .i64 (m : Int), .bool op] 202) (.cells #[.int .i64 0, .bool false] 204)
  have hI := hl.below hacc
  have HN := Lib.hid hn
  have h0' : ((n : Int) == 0) = false := by simp; omega
  have HR := Lib.hid (show moS l k 69 (m : Int) arg op = endsS l k m op true by
    unfold moS endsS
    simp only [Int.toNat_natCast]
    rw [if_neg (by decide), if_neg (by decide), if_neg (by decide), if_neg (by decide), if_neg (by decide), if_neg (by decide), if_neg (by decide), if_neg hl0, if_neg (by decide), if_neg (by decide)]
    first | (rw [if_pos (by decide)]; rfl) | (rw [if_neg (by decide), if_pos (by decide)]; rfl))
  clear hn hl0
  obtain ⟨r, hr⟩ : ∃ r, endsS l k m op true = r := ⟨_, rfl⟩
  have HR2 := Lib.hid hr; clear hr
  go_enter Try.func145, Try.ntmps145
  go_wp2_with ((go_at_call 175); refine (goer_ends a n c l k m op true _ hI HN.out hn2 hk h0 (by omega)).mono ?_; rintro e w2 ⟨rfl, hb2⟩; rw [HR2.out]; have hB2 := hB.below hb2 hB.lt; obtain ⟨d0, d1, d2, d3⟩ := hB2.four; have hP2 := hP.below hb2 hP.lt; obtain ⟨s0, s1, s2, s3⟩ := hP2.two; have hacc2 := below_then hacc (by simp; omega) hb2)
  rw [HR.out, HR2.out]
  have hG := (hP2.set 0 (.int .i64 (moA r))).set 1 (.bool (moB r))
  obtain ⟨q0, q1, -, -⟩ := Blk.two hG
  refine bodyPost_ret (v := .tuple #[.agg #[.int .i64 (moA r), .bool (moB r)], .int .i64 (moE r)]) (by simp [results, Try.results145, go_sem, q0, q1]) rfl ⟨rfl, ?_⟩
  first | exact (hacc2.setCell (p := ⟨w.heap.size + 1, 0, none⟩) (Nat.le_succ _) _).setCell (p := ⟨w.heap.size + 1, 1, none⟩) (Nat.le_succ _) _ | exact below2 _ _ _

set_option maxRecDepth 100000 in
set_option maxHeartbeats 1000000 in
theorem plain_37 (a : Option Addr) (n c : Nat) (l : List Int) (k m : Nat) (op : Bool) (w : World) (hl : Ints w a l) (hn : l.length = n) (hn2 : n ≤ 4096) (hk : k ≤ n) (hk2 : k < n ∨ n = 0) (hm0 : 1 ≤ m) (hm : m ≤ 999) (arg : Int) (h0 : 1 ≤ n) (hl0 : l.length ≠ 0) :
    Calls Try.prog 145 #[goV a n c k (m : Int) op, .int .i64 37] w (MoPost (moS l k 37 (m : Int) arg op) w) := by
  unfold goV
  have hB := (Blk.new w #[.slice a n c, .int .i64 (k : Int), .int .i64 (m : Int), .bool op] 202).alloc (.cells #[.int .i64 0, .bool false] 204)
  obtain ⟨c0, c1, c2, c3⟩ := hB.four
  have hP := Blk.new (w.alloc (.cells #[.slice a n c, .int .i64 (k : Int), .int .i64 (m : Int), .bool op] 202)) #[.int .i64 0, .bool false] 204
  rw [World.size_alloc] at hP
  have hacc := below2 w (.cells #[.slice a n c, .int .i64 (k : Int), .int .i64 (m : Int), .bool op] 202) (.cells #[.int .i64 0, .bool false] 204)
  have hI := hl.below hacc
  have HN := Lib.hid hn
  have h0' : ((n : Int) == 0) = false := by simp; omega
  have HR := Lib.hid (show moS l k 37 (m : Int) arg op = partS l k by
    unfold moS partS
    rw [if_neg (by decide), if_neg (by decide), if_neg (by decide), if_neg (by decide), if_neg (by decide), if_neg (by decide), if_neg (by decide), if_neg hl0, if_neg (by decide), if_neg (by decide), if_neg (by decide), if_neg (by decide)])
  clear hn hl0
  obtain ⟨r, hr⟩ : ∃ r, partS l k = r := ⟨_, rfl⟩
  have HR2 := Lib.hid hr; clear hr
  go_enter Try.func145, Try.ntmps145
  go_wp2_with ((go_at_call 176); refine (goer_partner a n c l k m op _ hI HN.out hn2 hk).mono ?_; rintro e w2 ⟨rfl, hb2⟩; rw [HR2.out]; have hB2 := hB.below hb2 hB.lt; obtain ⟨d0, d1, d2, d3⟩ := hB2.four; have hP2 := hP.below hb2 hP.lt; obtain ⟨s0, s1, s2, s3⟩ := hP2.two; have hacc2 := below_then hacc (by simp; omega) hb2)
  rw [HR.out, HR2.out]
  have hG := (hP2.set 0 (.int .i64 (moA r))).set 1 (.bool (moB r))
  obtain ⟨q0, q1, -, -⟩ := Blk.two hG
  refine bodyPost_ret (v := .tuple #[.agg #[.int .i64 (moA r), .bool (moB r)], .int .i64 (moE r)]) (by simp [results, Try.results145, go_sem, q0, q1]) rfl ⟨rfl, ?_⟩
  first | exact (hacc2.setCell (p := ⟨w.heap.size + 1, 0, none⟩) (Nat.le_succ _) _).setCell (p := ⟨w.heap.size + 1, 1, none⟩) (Nat.le_succ _) _ | exact below2 _ _ _

set_option maxRecDepth 100000 in
set_option maxHeartbeats 1000000 in
theorem found_102 (a : Option Addr) (n c : Nat) (l : List Int) (k m : Nat) (op : Bool) (w : World) (hl : Ints w a l) (hn : l.length = n) (hn2 : n ≤ 4096) (hk : k ≤ n) (hk2 : k < n ∨ n = 0) (hm0 : 1 ≤ m) (hm : m ≤ 999) (arg : Int) :
    Calls Try.prog 144 #[goV a n c k (m : Int) op, .int .i64 102, .int .i64 arg] w (MoPost (moS l k 102 (m : Int) arg op) w) := by
  unfold goV
  have hB := (Blk.new w #[.slice a n c, .int .i64 (k : Int), .int .i64 (m : Int), .bool op] 202).alloc (.cells #[.int .i64 0, .bool false] 204)
  obtain ⟨c0, c1, c2, c3⟩ := hB.four
  have hP := Blk.new (w.alloc (.cells #[.slice a n c, .int .i64 (k : Int), .int .i64 (m : Int), .bool op] 202)) #[.int .i64 0, .bool false] 204
  rw [World.size_alloc] at hP
  have hacc := below2 w (.cells #[.slice a n c, .int .i64 (k : Int), .int .i64 (m : Int), .bool op] 202) (.cells #[.int .i64 0, .bool false] 204)
  have hI := hl.below hacc
  have HN := Lib.hid hn
  have HB := Lib.hid (show ∀ x, (placesR l k arg)[m - 1]? = some x → 0 ≤ x ∧ x ≤ n from fun x hx => by
    have hx := List.mem_of_getElem? hx
    have := plU_in _ _ _ _ x hx; omega)
  obtain ⟨r, hr⟩ : ∃ r, (placesR l k arg)[m - 1]? = r := ⟨_, rfl⟩
  have HR2 := Lib.hid hr
  have HR := Lib.hid (show moS l k 102 (m : Int) arg op = (match (placesR l k arg)[m - 1]? with | some x => some (x, true) | none => none) by simp [moS]; cases (placesR l k arg)[m - 1]? <;> rfl)
  rw [HR2.out] at HR
  have hbx := HB.out
  rw [hr] at hbx
  clear hn hr HB
  rcases r with _ | x
  · have HR3 := Lib.hid (show moS l k 102 (m : Int) arg op = none from HR.out)
    clear hbx
    go_enter Try.func144, Try.ntmps144
    go_wp2_with ((go_at_call 169); refine (goer_find_up a n c l k m op arg _ hI HN.out hn2 hk hm0 (by omega)).mono ?_; rintro e w2 ⟨rfl, hb2⟩; rw [HR2.out]; have hB2 := hB.below hb2 hB.lt; obtain ⟨d0, d1, d2, d3⟩ := hB2.four; have hP2 := hP.below hb2 hP.lt; obtain ⟨s0, s1, s2, s3⟩ := hP2.two; have hacc2 := below_then hacc (by simp; omega) hb2; have z1 : fiA none = 0 := rfl; have z2 : fiE none = 5 := rfl)
    rw [HR3.out]
    have hG := (hP2.set 0 (.int .i64 (0))).set 1 (.bool false)
    obtain ⟨q0, q1, -, -⟩ := Blk.two hG
    refine bodyPost_ret (v := .tuple #[.agg #[.int .i64 (0), .bool false], .int .i64 5]) (by simp [results, Try.results144, go_sem, q0, q1]) rfl ⟨rfl, ?_⟩
    first | exact (hacc2.setCell (p := ⟨w.heap.size + 1, 0, none⟩) (Nat.le_succ _) _).setCell (p := ⟨w.heap.size + 1, 1, none⟩) (Nat.le_succ _) _ | exact below2 _ _ _
  · have HR3 := Lib.hid (show moS l k 102 (m : Int) arg op = some (x, true) from HR.out)
    obtain ⟨x1, x2⟩ := hbx x rfl
    clear hbx
    go_enter Try.func144, Try.ntmps144
    go_wp2_with ((go_at_call 169); refine (goer_find_up a n c l k m op arg _ hI HN.out hn2 hk hm0 (by omega)).mono ?_; rintro e w2 ⟨rfl, hb2⟩; rw [HR2.out]; have hB2 := hB.below hb2 hB.lt; obtain ⟨d0, d1, d2, d3⟩ := hB2.four; have hP2 := hP.below hb2 hP.lt; obtain ⟨s0, s1, s2, s3⟩ := hP2.two; have hacc2 := below_then hacc (by simp; omega) hb2; have z1 : fiA (some x) = x := rfl; have z2 : fiE (some x) = 0 := rfl)
    rw [HR3.out]
    have hG := (hP2.set 0 (.int .i64 (x))).set 1 (.bool true)
    obtain ⟨q0, q1, -, -⟩ := Blk.two hG
    refine bodyPost_ret (v := .tuple #[.agg #[.int .i64 (x), .bool true], .int .i64 0]) (by simp [results, Try.results144, go_sem, q0, q1]) rfl ⟨rfl, ?_⟩
    first | exact (hacc2.setCell (p := ⟨w.heap.size + 1, 0, none⟩) (Nat.le_succ _) _).setCell (p := ⟨w.heap.size + 1, 1, none⟩) (Nat.le_succ _) _ | exact below2 _ _ _

set_option maxRecDepth 100000 in
set_option maxHeartbeats 1000000 in
theorem found_116 (a : Option Addr) (n c : Nat) (l : List Int) (k m : Nat) (op : Bool) (w : World) (hl : Ints w a l) (hn : l.length = n) (hn2 : n ≤ 4096) (hk : k ≤ n) (hk2 : k < n ∨ n = 0) (hm0 : 1 ≤ m) (hm : m ≤ 999) (arg : Int) :
    Calls Try.prog 144 #[goV a n c k (m : Int) op, .int .i64 116, .int .i64 arg] w (MoPost (moS l k 116 (m : Int) arg op) w) := by
  unfold goV
  have hB := (Blk.new w #[.slice a n c, .int .i64 (k : Int), .int .i64 (m : Int), .bool op] 202).alloc (.cells #[.int .i64 0, .bool false] 204)
  obtain ⟨c0, c1, c2, c3⟩ := hB.four
  have hP := Blk.new (w.alloc (.cells #[.slice a n c, .int .i64 (k : Int), .int .i64 (m : Int), .bool op] 202)) #[.int .i64 0, .bool false] 204
  rw [World.size_alloc] at hP
  have hacc := below2 w (.cells #[.slice a n c, .int .i64 (k : Int), .int .i64 (m : Int), .bool op] 202) (.cells #[.int .i64 0, .bool false] 204)
  have hI := hl.below hacc
  have HN := Lib.hid hn
  have HB := Lib.hid (show ∀ x, (placesR l k arg)[m - 1]? = some x → 0 ≤ x ∧ x ≤ n from fun x hx => by
    have hx := List.mem_of_getElem? hx
    have := plU_in _ _ _ _ x hx; omega)
  obtain ⟨r, hr⟩ : ∃ r, (placesR l k arg)[m - 1]? = r := ⟨_, rfl⟩
  have HR2 := Lib.hid hr
  have HR := Lib.hid (show moS l k 116 (m : Int) arg op = (match (placesR l k arg)[m - 1]? with | some x => some (x - 1, true) | none => none) by simp [moS]; cases (placesR l k arg)[m - 1]? <;> rfl)
  rw [HR2.out] at HR
  have hbx := HB.out
  rw [hr] at hbx
  clear hn hr HB
  rcases r with _ | x
  · have HR3 := Lib.hid (show moS l k 116 (m : Int) arg op = none from HR.out)
    clear hbx
    go_enter Try.func144, Try.ntmps144
    go_wp2_with ((go_at_call 169); refine (goer_find_up a n c l k m op arg _ hI HN.out hn2 hk hm0 (by omega)).mono ?_; rintro e w2 ⟨rfl, hb2⟩; rw [HR2.out]; have hB2 := hB.below hb2 hB.lt; obtain ⟨d0, d1, d2, d3⟩ := hB2.four; have hP2 := hP.below hb2 hP.lt; obtain ⟨s0, s1, s2, s3⟩ := hP2.two; have hacc2 := below_then hacc (by simp; omega) hb2; have z1 : fiA none = 0 := rfl; have z2 : fiE none = 5 := rfl)
    rw [HR3.out]
    have hG := (hP2.set 0 (.int .i64 (0))).set 1 (.bool false)
    obtain ⟨q0, q1, -, -⟩ := Blk.two hG
    refine bodyPost_ret (v := .tuple #[.agg #[.int .i64 (0), .bool false], .int .i64 5]) (by simp [results, Try.results144, go_sem, q0, q1]) rfl ⟨rfl, ?_⟩
    first | exact (hacc2.setCell (p := ⟨w.heap.size + 1, 0, none⟩) (Nat.le_succ _) _).setCell (p := ⟨w.heap.size + 1, 1, none⟩) (Nat.le_succ _) _ | exact below2 _ _ _
  · have HR3 := Lib.hid (show moS l k 116 (m : Int) arg op = some (x - 1, true) from HR.out)
    obtain ⟨x1, x2⟩ := hbx x rfl
    clear hbx
    go_enter Try.func144, Try.ntmps144
    go_wp2_with ((go_at_call 169); refine (goer_find_up a n c l k m op arg _ hI HN.out hn2 hk hm0 (by omega)).mono ?_; rintro e w2 ⟨rfl, hb2⟩; rw [HR2.out]; have hB2 := hB.below hb2 hB.lt; obtain ⟨d0, d1, d2, d3⟩ := hB2.four; have hP2 := hP.below hb2 hP.lt; obtain ⟨s0, s1, s2, s3⟩ := hP2.two; have hacc2 := below_then hacc (by simp; omega) hb2; have z1 : fiA (some x) = x := rfl; have z2 : fiE (some x) = 0 := rfl)
    rw [HR3.out]
    have hG := (hP2.set 0 (.int .i64 (x - 1))).set 1 (.bool true)
    obtain ⟨q0, q1, -, -⟩ := Blk.two hG
    refine bodyPost_ret (v := .tuple #[.agg #[.int .i64 (x - 1), .bool true], .int .i64 0]) (by simp [results, Try.results144, go_sem, q0, q1]) rfl ⟨rfl, ?_⟩
    first | exact (hacc2.setCell (p := ⟨w.heap.size + 1, 0, none⟩) (Nat.le_succ _) _).setCell (p := ⟨w.heap.size + 1, 1, none⟩) (Nat.le_succ _) _ | exact below2 _ _ _

set_option maxRecDepth 100000 in
set_option maxHeartbeats 1000000 in
theorem found_70 (a : Option Addr) (n c : Nat) (l : List Int) (k m : Nat) (op : Bool) (w : World) (hl : Ints w a l) (hn : l.length = n) (hn2 : n ≤ 4096) (hk : k ≤ n) (hk2 : k < n ∨ n = 0) (hm0 : 1 ≤ m) (hm : m ≤ 999) (arg : Int) :
    Calls Try.prog 144 #[goV a n c k (m : Int) op, .int .i64 70, .int .i64 arg] w (MoPost (moS l k 70 (m : Int) arg op) w) := by
  unfold goV
  have hB := (Blk.new w #[.slice a n c, .int .i64 (k : Int), .int .i64 (m : Int), .bool op] 202).alloc (.cells #[.int .i64 0, .bool false] 204)
  obtain ⟨c0, c1, c2, c3⟩ := hB.four
  have hP := Blk.new (w.alloc (.cells #[.slice a n c, .int .i64 (k : Int), .int .i64 (m : Int), .bool op] 202)) #[.int .i64 0, .bool false] 204
  rw [World.size_alloc] at hP
  have hacc := below2 w (.cells #[.slice a n c, .int .i64 (k : Int), .int .i64 (m : Int), .bool op] 202) (.cells #[.int .i64 0, .bool false] 204)
  have hI := hl.below hacc
  have HN := Lib.hid hn
  have HB := Lib.hid (show ∀ x, (placesL l k arg)[m - 1]? = some x → 0 ≤ x ∧ x ≤ n from fun x hx => by
    have hx := List.mem_of_getElem? hx
    have := plD_in _ _ _ x hx; omega)
  obtain ⟨r, hr⟩ : ∃ r, (placesL l k arg)[m - 1]? = r := ⟨_, rfl⟩
  have HR2 := Lib.hid hr
  have HR := Lib.hid (show moS l k 70 (m : Int) arg op = (match (placesL l k arg)[m - 1]? with | some x => some (x, false) | none => none) by simp [moS]; cases (placesL l k arg)[m - 1]? <;> rfl)
  rw [HR2.out] at HR
  have hbx := HB.out
  rw [hr] at hbx
  clear hn hr HB
  rcases r with _ | x
  · have HR3 := Lib.hid (show moS l k 70 (m : Int) arg op = none from HR.out)
    clear hbx
    go_enter Try.func144, Try.ntmps144
    go_wp2_with ((go_at_call 169); refine (goer_find_down a n c l k m op arg _ hI HN.out hn2 hk hm0 (by omega)).mono ?_; rintro e w2 ⟨rfl, hb2⟩; rw [HR2.out]; have hB2 := hB.below hb2 hB.lt; obtain ⟨d0, d1, d2, d3⟩ := hB2.four; have hP2 := hP.below hb2 hP.lt; obtain ⟨s0, s1, s2, s3⟩ := hP2.two; have hacc2 := below_then hacc (by simp; omega) hb2; have z1 : fiA none = 0 := rfl; have z2 : fiE none = 5 := rfl)
    rw [HR3.out]
    have hG := (hP2.set 0 (.int .i64 (0))).set 1 (.bool false)
    obtain ⟨q0, q1, -, -⟩ := Blk.two hG
    refine bodyPost_ret (v := .tuple #[.agg #[.int .i64 (0), .bool false], .int .i64 5]) (by simp [results, Try.results144, go_sem, q0, q1]) rfl ⟨rfl, ?_⟩
    first | exact (hacc2.setCell (p := ⟨w.heap.size + 1, 0, none⟩) (Nat.le_succ _) _).setCell (p := ⟨w.heap.size + 1, 1, none⟩) (Nat.le_succ _) _ | exact below2 _ _ _
  · have HR3 := Lib.hid (show moS l k 70 (m : Int) arg op = some (x, false) from HR.out)
    obtain ⟨x1, x2⟩ := hbx x rfl
    clear hbx
    go_enter Try.func144, Try.ntmps144
    go_wp2_with ((go_at_call 169); refine (goer_find_down a n c l k m op arg _ hI HN.out hn2 hk hm0 (by omega)).mono ?_; rintro e w2 ⟨rfl, hb2⟩; rw [HR2.out]; have hB2 := hB.below hb2 hB.lt; obtain ⟨d0, d1, d2, d3⟩ := hB2.four; have hP2 := hP.below hb2 hP.lt; obtain ⟨s0, s1, s2, s3⟩ := hP2.two; have hacc2 := below_then hacc (by simp; omega) hb2; have z1 : fiA (some x) = x := rfl; have z2 : fiE (some x) = 0 := rfl)
    rw [HR3.out]
    have hG := (hP2.set 0 (.int .i64 (x))).set 1 (.bool false)
    obtain ⟨q0, q1, -, -⟩ := Blk.two hG
    refine bodyPost_ret (v := .tuple #[.agg #[.int .i64 (x), .bool false], .int .i64 0]) (by simp [results, Try.results144, go_sem, q0, q1]) rfl ⟨rfl, ?_⟩
    first | exact (hacc2.setCell (p := ⟨w.heap.size + 1, 0, none⟩) (Nat.le_succ _) _).setCell (p := ⟨w.heap.size + 1, 1, none⟩) (Nat.le_succ _) _ | exact below2 _ _ _

set_option maxRecDepth 100000 in
set_option maxHeartbeats 1000000 in
theorem found_84 (a : Option Addr) (n c : Nat) (l : List Int) (k m : Nat) (op : Bool) (w : World) (hl : Ints w a l) (hn : l.length = n) (hn2 : n ≤ 4096) (hk : k ≤ n) (hk2 : k < n ∨ n = 0) (hm0 : 1 ≤ m) (hm : m ≤ 999) (arg : Int) :
    Calls Try.prog 144 #[goV a n c k (m : Int) op, .int .i64 84, .int .i64 arg] w (MoPost (moS l k 84 (m : Int) arg op) w) := by
  unfold goV
  have hB := (Blk.new w #[.slice a n c, .int .i64 (k : Int), .int .i64 (m : Int), .bool op] 202).alloc (.cells #[.int .i64 0, .bool false] 204)
  obtain ⟨c0, c1, c2, c3⟩ := hB.four
  have hP := Blk.new (w.alloc (.cells #[.slice a n c, .int .i64 (k : Int), .int .i64 (m : Int), .bool op] 202)) #[.int .i64 0, .bool false] 204
  rw [World.size_alloc] at hP
  have hacc := below2 w (.cells #[.slice a n c, .int .i64 (k : Int), .int .i64 (m : Int), .bool op] 202) (.cells #[.int .i64 0, .bool false] 204)
  have hI := hl.below hacc
  have HN := Lib.hid hn
  have HB := Lib.hid (show ∀ x, (placesL l k arg)[m - 1]? = some x → 0 ≤ x ∧ x ≤ n from fun x hx => by
    have hx := List.mem_of_getElem? hx
    have := plD_in _ _ _ x hx; omega)
  obtain ⟨r, hr⟩ : ∃ r, (placesL l k arg)[m - 1]? = r := ⟨_, rfl⟩
  have HR2 := Lib.hid hr
  have HR := Lib.hid (show moS l k 84 (m : Int) arg op = (match (placesL l k arg)[m - 1]? with | some x => some (x + 1, false) | none => none) by simp [moS]; cases (placesL l k arg)[m - 1]? <;> rfl)
  rw [HR2.out] at HR
  have hbx := HB.out
  rw [hr] at hbx
  clear hn hr HB
  rcases r with _ | x
  · have HR3 := Lib.hid (show moS l k 84 (m : Int) arg op = none from HR.out)
    clear hbx
    go_enter Try.func144, Try.ntmps144
    go_wp2_with ((go_at_call 169); refine (goer_find_down a n c l k m op arg _ hI HN.out hn2 hk hm0 (by omega)).mono ?_; rintro e w2 ⟨rfl, hb2⟩; rw [HR2.out]; have hB2 := hB.below hb2 hB.lt; obtain ⟨d0, d1, d2, d3⟩ := hB2.four; have hP2 := hP.below hb2 hP.lt; obtain ⟨s0, s1, s2, s3⟩ := hP2.two; have hacc2 := below_then hacc (by simp; omega) hb2; have z1 : fiA none = 0 := rfl; have z2 : fiE none = 5 := rfl)
    rw [HR3.out]
    have hG := (hP2.set 0 (.int .i64 (0))).set 1 (.bool false)
    obtain ⟨q0, q1, -, -⟩ := Blk.two hG
    refine bodyPost_ret (v := .tuple #[.agg #[.int .i64 (0), .bool false], .int .i64 5]) (by simp [results, Try.results144, go_sem, q0, q1]) rfl ⟨rfl, ?_⟩
    first | exact (hacc2.setCell (p := ⟨w.heap.size + 1, 0, none⟩) (Nat.le_succ _) _).setCell (p := ⟨w.heap.size + 1, 1, none⟩) (Nat.le_succ _) _ | exact below2 _ _ _
  · have HR3 := Lib.hid (show moS l k 84 (m : Int) arg op = some (x + 1, false) from HR.out)
    obtain ⟨x1, x2⟩ := hbx x rfl
    clear hbx
    go_enter Try.func144, Try.ntmps144
    go_wp2_with ((go_at_call 169); refine (goer_find_down a n c l k m op arg _ hI HN.out hn2 hk hm0 (by omega)).mono ?_; rintro e w2 ⟨rfl, hb2⟩; rw [HR2.out]; have hB2 := hB.below hb2 hB.lt; obtain ⟨d0, d1, d2, d3⟩ := hB2.four; have hP2 := hP.below hb2 hP.lt; obtain ⟨s0, s1, s2, s3⟩ := hP2.two; have hacc2 := below_then hacc (by simp; omega) hb2; have z1 : fiA (some x) = x := rfl; have z2 : fiE (some x) = 0 := rfl)
    rw [HR3.out]
    have hG := (hP2.set 0 (.int .i64 (x + 1))).set 1 (.bool false)
    obtain ⟨q0, q1, -, -⟩ := Blk.two hG
    refine bodyPost_ret (v := .tuple #[.agg #[.int .i64 (x + 1), .bool false], .int .i64 0]) (by simp [results, Try.results144, go_sem, q0, q1]) rfl ⟨rfl, ?_⟩
    first | exact (hacc2.setCell (p := ⟨w.heap.size + 1, 0, none⟩) (Nat.le_succ _) _).setCell (p := ⟨w.heap.size + 1, 1, none⟩) (Nat.le_succ _) _ | exact below2 _ _ _


theorem goer_plain (a : Option Addr) (n c : Nat) (l : List Int) (k m : Nat) (op : Bool) (w : World) (hl : Ints w a l) (hn : l.length = n) (hn2 : n ≤ 4096) (hk : k ≤ n) (hk2 : k < n ∨ n = 0) (hm0 : 1 ≤ m) (hm : m ≤ 999) (key arg : Int) (hK : knownS key = true) (hF : findS key = false) :
    Calls Try.prog 145 #[goV a n c k (m : Int) op, .int .i64 key] w (MoPost (moS l k key (m : Int) arg op) w) := by
  have hn' : n = 0 ∨ 1 ≤ n := by omega
  rcases key_ways key with rfl | rfl | rfl | rfl | rfl | rfl | rfl | rfl | rfl | rfl | rfl | rfl | rfl | rfl | rfl | rfl | rfl | h
  · exact plain_h a n c l k m op w hl hn hn2 hk hk2 hm0 hm arg
  · exact plain_l a n c l k m op w hl hn hn2 hk hk2 hm0 hm arg
  · exact plain_0 a n c l k m op w hl hn hn2 hk hk2 hm0 hm arg
  · exact plain_first a n c l k m op w hl hn hn2 hk hk2 hm0 hm arg
  · rcases hn' with h0 | h0
    · exact plain_nil_36 a n c l k m op w hl hn hn2 hk hk2 hm0 hm arg h0 (by omega)
    · exact plain_36 a n c l k m op w hl hn hn2 hk hk2 hm0 hm arg h0 (by omega)
  · rcases hn' with h0 | h0
    · exact plain_nil_124 a n c l k m op w hl hn hn2 hk hk2 hm0 hm arg h0 (by omega)
    · exact plain_124 a n c l k m op w hl hn hn2 hk hk2 hm0 hm arg h0 (by omega)
  · rcases hn' with h0 | h0
    · exact plain_nil_119 a n c l k m op w hl hn hn2 hk hk2 hm0 hm arg h0 (by omega)
    · exact plain_119 a n c l k m op w hl hn hn2 hk hk2 hm0 hm arg h0 (by omega)
  · rcases hn' with h0 | h0
    · exact plain_nil_87 a n c l k m op w hl hn hn2 hk hk2 hm0 hm arg h0 (by omega)
    · exact plain_87 a n c l k m op w hl hn hn2 hk hk2 hm0 hm arg h0 (by omega)
  · exact plain_b a n c l k m op w hl hn hn2 hk hk2 hm0 hm arg
  · exact plain_B a n c l k m op w hl hn hn2 hk hk2 hm0 hm arg
  · rcases hn' with h0 | h0
    · exact plain_nil_101 a n c l k m op w hl hn hn2 hk hk2 hm0 hm arg h0 (by omega)
    · exact plain_101 a n c l k m op w hl hn hn2 hk hk2 hm0 hm arg h0 (by omega)
  · rcases hn' with h0 | h0
    · exact plain_nil_69 a n c l k m op w hl hn hn2 hk hk2 hm0 hm arg h0 (by omega)
    · exact plain_69 a n c l k m op w hl hn hn2 hk hk2 hm0 hm arg h0 (by omega)
  · rcases hn' with h0 | h0
    · exact plain_nil_37 a n c l k m op w hl hn hn2 hk hk2 hm0 hm arg h0 (by omega)
    · exact plain_37 a n c l k m op w hl hn hn2 hk hk2 hm0 hm arg h0 (by omega)
  all_goals first | (simp [findS] at hF; done) | (rw [hK] at h; cases h)
theorem goer_found (a : Option Addr) (n c : Nat) (l : List Int) (k m : Nat) (op : Bool) (w : World) (hl : Ints w a l) (hn : l.length = n) (hn2 : n ≤ 4096) (hk : k ≤ n) (hk2 : k < n ∨ n = 0) (hm0 : 1 ≤ m) (hm : m ≤ 999) (key arg : Int) (hF : findS key = true) :
    Calls Try.prog 144 #[goV a n c k (m : Int) op, .int .i64 key, .int .i64 arg] w (MoPost (moS l k key (m : Int) arg op) w) := by
  rcases (show key = 102 ∨ key = 70 ∨ key = 116 ∨ key = 84 by simp [findS] at hF; omega) with rfl | rfl | rfl | rfl
  · exact found_102 a n c l k m op w hl hn hn2 hk hk2 hm0 hm arg
  · exact found_70 a n c l k m op w hl hn hn2 hk hk2 hm0 hm arg
  · exact found_116 a n c l k m op w hl hn hn2 hk hk2 hm0 hm arg
  · exact found_84 a n c l k m op w hl hn hn2 hk hk2 hm0 hm arg

end Go.Proofs.Ytbgbcmfgncneiaa
