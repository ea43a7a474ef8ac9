/- Contracts of motion.Go, Range. -/
import Derived.Test.YtbgbcmfgncneiaaMot4
namespace Go.Proofs.Ytbgbcmfgncneiaa
open Go.RowKit
set_option linter.unusedVariables false
set_option linter.unusedSimpArgs false

/-- Go's answer: where, with the character there, error -/
def goA (l : List Int) (k key count arg : Int) (op : Bool) : Int := if moveE l k key count = 0 then moA (moS l k.toNat key (max 1 count) arg op) else 0
def goB (l : List Int) (k key count arg : Int) (op : Bool) : Bool := if moveE l k key count = 0 then moB (moS l k.toNat key (max 1 count) arg op) else false
def goE (l : List Int) (k key count arg : Int) (op : Bool) : Int := if moveE l k key count = 0 then moE (moS l k.toNat key (max 1 count) arg op) else moveE l k key count
def GoPost (A : Int) (B : Bool) (E : Int) (w : World) (e : Ending) (w' : World) : Prop := e = .returned (.tuple #[.int .i64 A, .bool B, .int .i64 E]) ∧ Below w.heap.size w w'

set_option maxRecDepth 100000 in
set_option maxHeartbeats 1000000 in
theorem motion_go_bad (a : Option Addr) (n c : Nat) (l : List Int) (k key count arg : Int) (op : Bool) (w : World) (hn : l.length = n) (hn2 : n ≤ 9223372036854775807) (hk : InR k) (E : Int) (hE : moveE l k key count = E) (h0 : E ≠ 0) :
    Calls Try.prog 79 #[.slice a n c, .int .i64 k, mvV key count arg, .bool op] w (GoPost 0 false E w) := by
  have HE := Lib.hid hE; have HN := Lib.hid hn
  have h0' : (E != 0) = true := by simpa using h0
  clear hE hn h0
  unfold mvV
  have hB := Blk.new w #[.int .i64 key, .int .i64 count, .int .i64 arg] 116
  obtain ⟨c0, c1, c2, -, -, -⟩ := hB.three
  have hacc := below1 w (.cells #[.int .i64 key, .int .i64 count, .int .i64 arg] 116)
  go_enter Try.func79, Try.ntmps79
  go_wp2_with ((go_at_call 81); refine (motion_check a n c l k key count arg _ HN.out hn2 hk).mono ?_; rintro e w2 ⟨rfl, hb2⟩; rw [HE.out])
  go_ret3
  exact ⟨rfl, below_then hacc (by simp) hb2⟩

set_option maxRecDepth 100000 in
set_option maxHeartbeats 2000000 in
theorem motion_go_zero (a : Option Addr) (n c : Nat) (l : List Int) (k : Nat) (key arg : Int) (op : Bool) (w : World) (hl : Ints w a l) (hn : l.length = n) (hn2 : n ≤ 4096) (hk1 : k ≤ n) (hk2 : k < n ∨ n = 0) (hK : knownS key = true) (hE : moveE l k key 0 = 0)
    (r : Option (Int × Bool)) (hr : moS l k key ((1 : Nat) : Int) arg op = r) :
    Calls Try.prog 79 #[.slice a n c, .int .i64 (k : Int), mvV key 0 arg, .bool op] w (GoPost (moA r) (moB r) (moE r) w) := by
  have hm0 : 1 ≤ 1 := Nat.le_refl _
  have hm1 : 1 ≤ 999 := by omega
  have HE := Lib.hid hE; have HN := Lib.hid hn; have HK := Lib.hid hK; have HR := Lib.hid hr; have HK2 := Lib.hid hk2
  clear hE hn hK hr hk2
  unfold mvV
  have hB := Blk.new w #[.int .i64 key, .int .i64 0, .int .i64 arg] 116
  obtain ⟨c0, c1, c2, -, -, -⟩ := hB.three
  have hacc := below1 w (.cells #[.int .i64 key, .int .i64 0, .int .i64 arg] 116)
  have hsz : w.heap.size + 1 ≤ (w.alloc (.cells #[.int .i64 key, .int .i64 0, .int .i64 arg] 116)).heap.size := by simp
  cases hF : findS key
  all_goals
    have HF := Lib.hid hF; clear hF
    go_enter Try.func79, Try.ntmps79
    go_wp2_with (first | ((go_at_call 81); refine (motion_check a n c l k key 0 arg _ HN.out (by omega) ⟨by omega, by omega⟩).mono ?_; rintro e w2 ⟨rfl, hb2⟩; rw [HE.out]; have hB2 := hB.below hb2 hB.lt; obtain ⟨d0, d1, d2, -, -, -⟩ := hB2.three; have hacc2 := below_then hacc (by omega) hb2; have hlt2 := hB2.lt; have hI2 := hl.below hacc2) | ((go_at_call 143); refine (motion_known _ _).mono ?_; rintro e w3 ⟨rfl, rfl⟩; rw [HK.out, HF.out]))
    have hkk := HK2.out
    clear hkk
    have hacc4 := (hacc2.alloc (by omega) (.cells #[.slice a n c, .int .i64 (k : Int), .int .i64 1, .bool op] 202)).alloc (by simp; omega) (.cells #[.int .i64 0, .bool false] 204)
    have hP4 := Blk.new (w2.alloc (.cells #[.slice a n c, .int .i64 (k : Int), .int .i64 1, .bool op] 202)) #[.int .i64 0, .bool false] 204
    rw [World.size_alloc] at hP4
    have hI4 := hl.below hacc4
  · go_wp2_with ((go_at_call 145); refine (goer_plain a n c l k 1 op _ hI4 HN.out hn2 hk1 HK2.out hm0 hm1 key arg HK.out HF.out).mono ?_; rintro e w5 ⟨rfl, hb5⟩; rw [HR.out]; have hP5 := hP4.below hb5 hP4.lt; obtain ⟨s0, s1, s2, s3⟩ := hP5.two; have hacc5 := below_then hacc4 (by simp; omega) hb5)
    go_quiet (fail)
    go_wp2
    go_ret3
    exact ⟨rfl, below_drewN ((hacc5.setCell (p := ⟨w2.heap.size + 1, 0, none⟩) (by show w.heap.size ≤ w2.heap.size + 1; omega) _).setCell (p := ⟨w2.heap.size + 1, 1, none⟩) (by show w.heap.size ≤ w2.heap.size + 1; omega) _) _⟩
  · go_wp2_with ((go_at_call 144); refine (goer_found a n c l k 1 op _ hI4 HN.out hn2 hk1 HK2.out hm0 hm1 key arg HF.out).mono ?_; rintro e w5 ⟨rfl, hb5⟩; rw [HR.out]; have hP5 := hP4.below hb5 hP4.lt; obtain ⟨s0, s1, s2, s3⟩ := hP5.two; have hacc5 := below_then hacc4 (by simp; omega) hb5)
    go_quiet (fail)
    go_wp2
    go_ret3
    exact ⟨rfl, below_drewN ((hacc5.setCell (p := ⟨w2.heap.size + 1, 0, none⟩) (by show w.heap.size ≤ w2.heap.size + 1; omega) _).setCell (p := ⟨w2.heap.size + 1, 1, none⟩) (by show w.heap.size ≤ w2.heap.size + 1; omega) _) _⟩

set_option maxRecDepth 100000 in
set_option maxHeartbeats 2000000 in
theorem motion_go_one (a : Option Addr) (n c : Nat) (l : List Int) (k : Nat) (key arg : Int) (op : Bool) (w : World) (hl : Ints w a l) (hn : l.length = n) (hn2 : n ≤ 4096) (hk1 : k ≤ n) (hk2 : k < n ∨ n = 0) (hK : knownS key = true) (hE : moveE l k key 1 = 0)
    (r : Option (Int × Bool)) (hr : moS l k key ((1 : Nat) : Int) arg op = r) :
    Calls Try.prog 79 #[.slice a n c, .int .i64 (k : Int), mvV key 1 arg, .bool op] w (GoPost (moA r) (moB r) (moE r) w) := by
  have hm0 : 1 ≤ 1 := Nat.le_refl _
  have hm1 : 1 ≤ 999 := by omega
  have HE := Lib.hid hE; have HN := Lib.hid hn; have HK := Lib.hid hK; have HR := Lib.hid hr; have HK2 := Lib.hid hk2
  clear hE hn hK hr hk2
  unfold mvV
  have hB := Blk.new w #[.int .i64 key, .int .i64 1, .int .i64 arg] 116
  obtain ⟨c0, c1, c2, -, -, -⟩ := hB.three
  have hacc := below1 w (.cells #[.int .i64 key, .int .i64 1, .int .i64 arg] 116)
  have hsz : w.heap.size + 1 ≤ (w.alloc (.cells #[.int .i64 key, .int .i64 1, .int .i64 arg] 116)).heap.size := by simp
  cases hF : findS key
  all_goals
    have HF := Lib.hid hF; clear hF
    go_enter Try.func79, Try.ntmps79
    go_wp2_with (first | ((go_at_call 81); refine (motion_check a n c l k key 1 arg _ HN.out (by omega) ⟨by omega, by omega⟩).mono ?_; rintro e w2 ⟨rfl, hb2⟩; rw [HE.out]; have hB2 := hB.below hb2 hB.lt; obtain ⟨d0, d1, d2, -, -, -⟩ := hB2.three; have hacc2 := below_then hacc (by omega) hb2; have hlt2 := hB2.lt; have hI2 := hl.below hacc2) | ((go_at_call 143); refine (motion_known _ _).mono ?_; rintro e w3 ⟨rfl, rfl⟩; rw [HK.out, HF.out]))
    have hkk := HK2.out
    clear hkk
    have hacc4 := (hacc2.alloc (by omega) (.cells #[.slice a n c, .int .i64 (k : Int), .int .i64 1, .bool op] 202)).alloc (by simp; omega) (.cells #[.int .i64 0, .bool false] 204)
    have hP4 := Blk.new (w2.alloc (.cells #[.slice a n c, .int .i64 (k : Int), .int .i64 1, .bool op] 202)) #[.int .i64 0, .bool false] 204
    rw [World.size_alloc] at hP4
    have hI4 := hl.below hacc4
  · go_wp2_with ((go_at_call 145); refine (goer_plain a n c l k 1 op _ hI4 HN.out hn2 hk1 HK2.out hm0 hm1 key arg HK.out HF.out).mono ?_; rintro e w5 ⟨rfl, hb5⟩; rw [HR.out]; have hP5 := hP4.below hb5 hP4.lt; obtain ⟨s0, s1, s2, s3⟩ := hP5.two; have hacc5 := below_then hacc4 (by simp; omega) hb5)
    go_quiet (fail)
    go_wp2
    go_ret3
    exact ⟨rfl, below_drewN ((hacc5.setCell (p := ⟨w2.heap.size + 1, 0, none⟩) (by show w.heap.size ≤ w2.heap.size + 1; omega) _).setCell (p := ⟨w2.heap.size + 1, 1, none⟩) (by show w.heap.size ≤ w2.heap.size + 1; omega) _) _⟩
  · go_wp2_with ((go_at_call 144); refine (goer_found a n c l k 1 op _ hI4 HN.out hn2 hk1 HK2.out hm0 hm1 key arg HF.out).mono ?_; rintro e w5 ⟨rfl, hb5⟩; rw [HR.out]; have hP5 := hP4.below hb5 hP4.lt; obtain ⟨s0, s1, s2, s3⟩ := hP5.two; have hacc5 := below_then hacc4 (by simp; omega) hb5)
    go_quiet (fail)
    go_wp2
    go_ret3
    exact ⟨rfl, below_drewN ((hacc5.setCell (p := ⟨w2.heap.size + 1, 0, none⟩) (by show w.heap.size ≤ w2.heap.size + 1; omega) _).setCell (p := ⟨w2.heap.size + 1, 1, none⟩) (by show w.heap.size ≤ w2.heap.size + 1; omega) _) _⟩

set_option maxRecDepth 100000 in
set_option maxHeartbeats 2000000 in
theorem motion_go_pos (a : Option Addr) (n c : Nat) (l : List Int) (k m : Nat) (key arg : Int) (op : Bool) (w : World) (hl : Ints w a l) (hn : l.length = n) (hn2 : n ≤ 4096) (hk1 : k ≤ n) (hk2 : k < n ∨ n = 0) (hm2 : 2 ≤ m) (hm1 : m ≤ 999) (hK : knownS key = true) (hE : moveE l k key (m : Int) = 0)
    (r : Option (Int × Bool)) (hr : moS l k key (m : Int) arg op = r) :
    Calls Try.prog 79 #[.slice a n c, .int .i64 (k : Int), mvV key (m : Int) arg, .bool op] w (GoPost (moA r) (moB r) (moE r) w) := by
  have hm0 : 1 ≤ m := by omega
  have HE := Lib.hid hE; have HN := Lib.hid hn; have HK := Lib.hid hK; have HR := Lib.hid hr; have HK2 := Lib.hid hk2
  clear hE hn hK hr hk2
  unfold mvV
  have hB := Blk.new w #[.int .i64 key, .int .i64 (m : Int), .int .i64 arg] 116
  obtain ⟨c0, c1, c2, -, -, -⟩ := hB.three
  have hacc := below1 w (.cells #[.int .i64 key, .int .i64 (m : Int), .int .i64 arg] 116)
  have hsz : w.heap.size + 1 ≤ (w.alloc (.cells #[.int .i64 key, .int .i64 (m : Int), .int .i64 arg] 116)).heap.size := by simp
  cases hF : findS key
  all_goals
    have HF := Lib.hid hF; clear hF
    go_enter Try.func79, Try.ntmps79
    go_wp2_with (first | ((go_at_call 81); refine (motion_check a n c l k key (m : Int) arg _ HN.out (by omega) ⟨by omega, by omega⟩).mono ?_; rintro e w2 ⟨rfl, hb2⟩; rw [HE.out]; have hB2 := hB.below hb2 hB.lt; obtain ⟨d0, d1, d2, -, -, -⟩ := hB2.three; have hacc2 := below_then hacc (by omega) hb2; have hlt2 := hB2.lt; have hI2 := hl.below hacc2) | ((go_at_call 143); refine (motion_known _ _).mono ?_; rintro e w3 ⟨rfl, rfl⟩; rw [HK.out, HF.out]))
    have hkk := HK2.out
    clear hkk
    have hacc4 := (hacc2.alloc (by omega) (.cells #[.slice a n c, .int .i64 (k : Int), .int .i64 (m : Int), .bool op] 202)).alloc (by simp; omega) (.cells #[.int .i64 0, .bool false] 204)
    have hP4 := Blk.new (w2.alloc (.cells #[.slice a n c, .int .i64 (k : Int), .int .i64 (m : Int), .bool op] 202)) #[.int .i64 0, .bool false] 204
    rw [World.size_alloc] at hP4
    have hI4 := hl.below hacc4
  · go_wp2_with ((go_at_call 145); refine (goer_plain a n c l k m op _ hI4 HN.out hn2 hk1 HK2.out hm0 hm1 key arg HK.out HF.out).mono ?_; rintro e w5 ⟨rfl, hb5⟩; rw [HR.out]; have hP5 := hP4.below hb5 hP4.lt; obtain ⟨s0, s1, s2, s3⟩ := hP5.two; have hacc5 := below_then hacc4 (by simp; omega) hb5)
    go_quiet (fail)
    go_wp2
    go_ret3
    exact ⟨rfl, below_drewN ((hacc5.setCell (p := ⟨w2.heap.size + 1, 0, none⟩) (by show w.heap.size ≤ w2.heap.size + 1; omega) _).setCell (p := ⟨w2.heap.size + 1, 1, none⟩) (by show w.heap.size ≤ w2.heap.size + 1; omega) _) _⟩
  · go_wp2_with ((go_at_call 144); refine (goer_found a n c l k m op _ hI4 HN.out hn2 hk1 HK2.out hm0 hm1 key arg HF.out).mono ?_; rintro e w5 ⟨rfl, hb5⟩; rw [HR.out]; have hP5 := hP4.below hb5 hP4.lt; obtain ⟨s0, s1, s2, s3⟩ := hP5.two; have hacc5 := below_then hacc4 (by simp; omega) hb5)
    go_quiet (fail)
    go_wp2
    go_ret3
    exact ⟨rfl, below_drewN ((hacc5.setCell (p := ⟨w2.heap.size + 1, 0, none⟩) (by show w.heap.size ≤ w2.heap.size + 1; omega) _).setCell (p := ⟨w2.heap.size + 1, 1, none⟩) (by show w.heap.size ≤ w2.heap.size + 1; omega) _) _⟩


theorem moveE_ok {l : List Int} {k key count : Int} (h : moveE l k key count = 0) : l.length ≤ 4096 ∧ 0 ≤ k ∧ (k < l.length ∨ k = 0) ∧ 0 ≤ count ∧ count ≤ 999 ∧ knownS key = true := by
  unfold moveE at h
  split at h
  · simp at h
  · split at h
    · simp at h
    · split at h
      · exact ⟨by omega, by omega, by omega, by omega, by omega, by assumption⟩
      · simp at h
theorem motion_go (a : Option Addr) (n c : Nat) (l : List Int) (k key count arg : Int) (op : Bool) (w : World) (hl : Ints w a l) (hn : l.length = n) (hn2 : n ≤ 9223372036854775807) (hk : InR k) :
    Calls Try.prog 79 #[.slice a n c, .int .i64 k, mvV key count arg, .bool op] w (GoPost (goA l k key count arg op) (goB l k key count arg op) (goE l k key count arg op) w) := by
  by_cases hE : moveE l k key count = 0
  · obtain ⟨h1, h2, h3, h4, h5, h6⟩ := moveE_ok hE
    rw [goA, goB, goE, if_pos hE, if_pos hE, if_pos hE]
    obtain ⟨k, rfl⟩ := Int.eq_ofNat_of_zero_le h2
    obtain ⟨m, rfl⟩ := Int.eq_ofNat_of_zero_le h4
    rw [Int.toNat_natCast]
    rcases (show m = 0 ∨ m = 1 ∨ 2 ≤ m by omega) with rfl | rfl | hm
    · exact motion_go_zero a n c l k key arg op w hl hn (by omega) (by omega) (by omega) h6 hE _ rfl
    · exact motion_go_one a n c l k key arg op w hl hn (by omega) (by omega) (by omega) h6 hE _ rfl
    · rw [show max 1 (m : Int) = (m : Int) from by omega]
      exact motion_go_pos a n c l k m key arg op w hl hn (by omega) (by omega) (by omega) hm (by omega) h6 hE _ rfl
  · rw [goA, goB, goE, if_neg hE, if_neg hE, if_neg hE]
    exact motion_go_bad a n c l k key count arg op w hn hn2 hk _ rfl hE

/-- Range's answer -/
def raF (l : List Int) (k key count arg : Int) : Int := if goE l k key count arg true = 0 then min k (goA l k key count arg true) else 0
def raT (l : List Int) (k key count arg : Int) : Int := if goE l k key count arg true = 0 then max k (goA l k key count arg true) + (if goB l k key count arg true then 1 else 0) else 0
def RaPost (F T E : Int) (w : World) (e : Ending) (w' : World) : Prop := e = .returned (.tuple #[.int .i64 F, .int .i64 T, .int .i64 E]) ∧ Below w.heap.size w w'

set_option maxRecDepth 100000 in
set_option maxHeartbeats 1000000 in
theorem motion_range (a : Option Addr) (n c : Nat) (l : List Int) (k key count arg : Int) (w : World) (hl : Ints w a l) (hn : l.length = n) (hn2 : n ≤ 9223372036854775807) (hk : InR k) (hA : InR (goA l k key count arg true + 1)) (hk3 : goE l k key count arg true = 0 → k ≤ 4096) :
    Calls Try.prog 80 #[.slice a n c, .int .i64 k, mvV key count arg] w (RaPost (raF l k key count arg) (raT l k key count arg) (goE l k key count arg true) w) := by
  have hF : raF l k key count arg = if goE l k key count arg true = 0 then min k (goA l k key count arg true) else 0 := rfl
  have hT : raT l k key count arg = if goE l k key count arg true = 0 then max k (goA l k key count arg true) + (if goB l k key count arg true then 1 else 0) else 0 := rfl
  obtain ⟨A, hA2⟩ : ∃ A, goA l k key count arg true = A := ⟨_, rfl⟩
  obtain ⟨B, hB2⟩ : ∃ B, goB l k key count arg true = B := ⟨_, rfl⟩
  obtain ⟨E, hE2⟩ : ∃ E, goE l k key count arg true = E := ⟨_, rfl⟩
  rw [hA2, hB2, hE2] at hT
  rw [hA2, hE2] at hF
  rw [hE2] at hk3 ⊢
  rw [hA2] at hA
  obtain ⟨a1, a2⟩ := hA
  obtain ⟨k1, k2⟩ := hk
  have HA := Lib.hid hA2; have HB := Lib.hid hB2; have HE := Lib.hid hE2; have HN := Lib.hid hn
  clear hA2 hB2 hE2 hn
  unfold mvV
  have hB := Blk.new w #[.int .i64 key, .int .i64 count, .int .i64 arg] 116
  obtain ⟨c0, c1, c2, -, -, -⟩ := hB.three
  have hacc := below1 w (.cells #[.int .i64 key, .int .i64 count, .int .i64 arg] 116)
  have hI := hl.below hacc
  by_cases h0 : E = 0
  · rw [if_pos h0] at hF hT
    have hk4 := hk3 h0
    subst h0
    rcases (show k ≤ A ∨ A < k by omega) with h1 | h1
    · rw [show min k A = k by omega] at hF
      rw [show max k A = A by omega] at hT
      cases B
      all_goals
        have HF := Lib.hid hF; have HT := Lib.hid hT; clear hF hT
        go_enter Try.func80, Try.ntmps80
        go_wp2_with ((go_at_call 79); refine (motion_go a n c l k key count arg true _ hI HN.out hn2 ⟨k1, k2⟩).mono ?_; rintro e w2 ⟨rfl, hb2⟩; rw [HA.out, HB.out, HE.out])
        all_goals
          go_ret3
          rw [HF.out, HT.out]
          refine ⟨?_, below_then hacc (by simp) hb2⟩
          simp
          try omega
    · rw [show min k A = A by omega] at hF
      rw [show max k A = k by omega] at hT
      cases B
      all_goals
        have HF := Lib.hid hF; have HT := Lib.hid hT; clear hF hT
        go_enter Try.func80, Try.ntmps80
        go_wp2_with ((go_at_call 79); refine (motion_go a n c l k key count arg true _ hI HN.out hn2 ⟨k1, k2⟩).mono ?_; rintro e w2 ⟨rfl, hb2⟩; rw [HA.out, HB.out, HE.out])
        all_goals
          go_ret3
          rw [HF.out, HT.out]
          refine ⟨?_, below_then hacc (by simp) hb2⟩
          simp
          try omega
  · rw [if_neg h0] at hF hT
    have HF := Lib.hid hF; have HT := Lib.hid hT
    have h0' : (E != 0) = true := by simpa using h0
    clear hF hT h0 hk3
    go_enter Try.func80, Try.ntmps80
    go_wp2_with ((go_at_call 79); refine (motion_go a n c l k key count arg true _ hI HN.out hn2 ⟨k1, k2⟩).mono ?_; rintro e w2 ⟨rfl, hb2⟩; rw [HA.out, HB.out, HE.out])
    go_ret3
    rw [HF.out, HT.out]
    exact ⟨rfl, below_then hacc (by simp) hb2⟩

end Go.Proofs.Ytbgbcmfgncneiaa
