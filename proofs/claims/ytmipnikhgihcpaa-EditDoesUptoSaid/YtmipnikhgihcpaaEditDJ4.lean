/- LiftEditDoes, part 4: joined from the texts Mot5 Do1 Key1 Key2 Key3 KeyP CRow Do2 Do3. No condition of its own. -/
import Derived.Test.YtmipnikhgihcpaaEditDJ1
import Derived.Test.YtmipnikhgihcpaaEditDJ3
import Derived.Deep.CutBlock
import Derived.Lib.ConvBytes
import Derived.Deep.RegionHeld3
import Derived.Deep.DeepCutAuto
import Derived.Deep.Light
import Derived.Deep.RegionLaw
import Derived.Deep.AppendLies
import Derived.BigQuiet
set_option linter.unusedVariables false
set_option linter.unusedSimpArgs false
namespace Go.Proofs.Ytmipnikhgihcpaa
open Go.RowKit
def goA (l : List Int) (k key count arg : Int) (op : Bool) : Int := if moveE l k key count = 0 then moA (moS l k.toNat key (max 1 count) arg op) else 0
def goB (l : List Int) (k key count arg : Int) (op : Bool) : Bool := if moveE l k key count = 0 then moTh (moS l k.toNat key (max 1 count) arg op) else false
def goE (l : List Int) (k key count arg : Int) (op : Bool) : Int := if moveE l k key count = 0 then moE (moS l k.toNat key (max 1 count) arg op) else moveE l k key count
def GoPost (A : Int) (B : Bool) (E : Int) (w : World) (e : Ending) (w' : World) : Prop := e = .returned (.tuple #[.int .i64 A, .bool B, .int .i64 E]) ∧ Below w.heap.size w w'
set_option maxRecDepth 100000 in
set_option maxHeartbeats 1000000 in
theorem motion_go_bad (a : Option Addr) (n c : Nat) (l : List Int) (k key count arg : Int) (op : Bool) (w : World) (hn : l.length = n) (hn2 : n ≤ 9223372036854775807) (hk : InR k) (E : Int) (hE : moveE l k key count = E) (h0 : E ≠ 0) :
  Calls Try.prog 222 #[.slice a n c, .int .i64 k, mvV key count arg, .bool op] w (GoPost 0 false E w) := by
 have HE := Lib.hid hE; have HN := Lib.hid hn
 have h0' : (E != 0) = true := by simpa using h0
 clear hE hn h0
 unfold mvV
 have hB := Blk.new w #[.int .i64 key, .int .i64 count, .int .i64 arg] 227
 obtain ⟨c0, c1, c2, -, -, -⟩ := hB.three
 have hacc := below1 w (.cells #[.int .i64 key, .int .i64 count, .int .i64 arg] 227)
 go_enter Try.func222, Try.ntmps222
 go_wp2_with ((go_at_call 250); refine (motion_check a n c l k key count arg _ HN.out hn2 hk).mono ?_; rintro e w2 ⟨rfl, hb2⟩; rw [HE.out])
 go_ret3
 exact ⟨rfl, below_then hacc (by simp) hb2⟩
set_option maxRecDepth 100000 in
set_option maxHeartbeats 2000000 in
theorem motion_go_zero (a : Option Addr) (n c : Nat) (l : List Int) (k : Nat) (key arg : Int) (op : Bool) (w : World) (hl : Ints w a l) (hn : l.length = n) (hn2 : n ≤ 4096) (hk1 : k ≤ n) (hk2 : k < n ∨ n = 0) (hK : knownS key = true) (hE : moveE l k key 0 = 0)
  (r : Option (Int × Bool)) (hr : moS l k key ((1 : Nat) : Int) arg op = r) :
  Calls Try.prog 222 #[.slice a n c, .int .i64 (k : Int), mvV key 0 arg, .bool op] w (GoPost (moA r) (moTh r) (moE r) w) := by
 have hm0 : 1 ≤ 1 := Nat.le_refl _
 have hm1 : 1 ≤ 999 := by omega
 have HE := Lib.hid hE; have HN := Lib.hid hn; have HK := Lib.hid hK; have HR := Lib.hid hr; have HK2 := Lib.hid hk2
 clear hE hn hK hr hk2
 unfold mvV
 have hB := Blk.new w #[.int .i64 key, .int .i64 0, .int .i64 arg] 227
 obtain ⟨c0, c1, c2, -, -, -⟩ := hB.three
 have hacc := below1 w (.cells #[.int .i64 key, .int .i64 0, .int .i64 arg] 227)
 have hsz : w.heap.size + 1 ≤ (w.alloc (.cells #[.int .i64 key, .int .i64 0, .int .i64 arg] 227)).heap.size := by simp
 cases hF : findS key
 all_goals
  have HF := Lib.hid hF; clear hF
  go_enter Try.func222, Try.ntmps222
  go_wp2_with (first | ((go_at_call 250); refine (motion_check a n c l k key 0 arg _ HN.out (by omega) ⟨by omega, by omega⟩).mono ?_; rintro e w2 ⟨rfl, hb2⟩; rw [HE.out]; have hB2 := hB.below hb2 hB.lt; obtain ⟨d0, d1, d2, -, -, -⟩ := hB2.three; have hacc2 := below_then hacc (by omega) hb2; have hlt2 := hB2.lt; have hI2 := hl.below hacc2) | ((go_at_call 251); refine (motion_known _ _).mono ?_; rintro e w3 ⟨rfl, rfl⟩; rw [HK.out, HF.out]))
  have hkk := HK2.out
  clear hkk
  have hacc4 := (hacc2.alloc (by omega) (.cells #[.slice a n c, .int .i64 (k : Int), .int .i64 1, .bool op] 323)).alloc (by simp; omega) (.cells #[.int .i64 0, .bool false] 325)
  have hP4 := Blk.new (w2.alloc (.cells #[.slice a n c, .int .i64 (k : Int), .int .i64 1, .bool op] 323)) #[.int .i64 0, .bool false] 325
  rw [World.size_alloc] at hP4
  have hI4 := hl.below hacc4
 ·go_wp2_with ((go_at_call 253); refine (goer_plain a n c l k 1 op _ hI4 HN.out hn2 hk1 HK2.out hm0 hm1 key arg HK.out HF.out).mono ?_; rintro e w5 ⟨rfl, hb5⟩; rw [HR.out]; have hP5 := hP4.below hb5 hP4.lt; obtain ⟨s0, s1, s2, s3⟩ := hP5.two; have hacc5 := below_then hacc4 (by simp; omega) hb5)
  go_quiet (fail)
  go_wp2
  go_ret3
  exact ⟨rfl, below_drewN ((hacc5.setCell (p := ⟨w2.heap.size + 1, 0, none⟩) (by show w.heap.size ≤ w2.heap.size + 1; omega) _).setCell (p := ⟨w2.heap.size + 1, 1, none⟩) (by show w.heap.size ≤ w2.heap.size + 1; omega) _) _⟩
 ·go_wp2_with ((go_at_call 252); refine (goer_found a n c l k 1 op _ hI4 HN.out hn2 hk1 HK2.out hm0 hm1 key arg HF.out).mono ?_; rintro e w5 ⟨rfl, hb5⟩; rw [HR.out]; have hP5 := hP4.below hb5 hP4.lt; obtain ⟨s0, s1, s2, s3⟩ := hP5.two; have hacc5 := below_then hacc4 (by simp; omega) hb5)
  go_quiet (fail)
  go_wp2
  go_ret3
  exact ⟨rfl, below_drewN ((hacc5.setCell (p := ⟨w2.heap.size + 1, 0, none⟩) (by show w.heap.size ≤ w2.heap.size + 1; omega) _).setCell (p := ⟨w2.heap.size + 1, 1, none⟩) (by show w.heap.size ≤ w2.heap.size + 1; omega) _) _⟩
set_option maxRecDepth 100000 in
set_option maxHeartbeats 2000000 in
theorem motion_go_one (a : Option Addr) (n c : Nat) (l : List Int) (k : Nat) (key arg : Int) (op : Bool) (w : World) (hl : Ints w a l) (hn : l.length = n) (hn2 : n ≤ 4096) (hk1 : k ≤ n) (hk2 : k < n ∨ n = 0) (hK : knownS key = true) (hE : moveE l k key 1 = 0)
  (r : Option (Int × Bool)) (hr : moS l k key ((1 : Nat) : Int) arg op = r) :
  Calls Try.prog 222 #[.slice a n c, .int .i64 (k : Int), mvV key 1 arg, .bool op] w (GoPost (moA r) (moTh r) (moE r) w) := by
 have hm0 : 1 ≤ 1 := Nat.le_refl _
 have hm1 : 1 ≤ 999 := by omega
 have HE := Lib.hid hE; have HN := Lib.hid hn; have HK := Lib.hid hK; have HR := Lib.hid hr; have HK2 := Lib.hid hk2
 clear hE hn hK hr hk2
 unfold mvV
 have hB := Blk.new w #[.int .i64 key, .int .i64 1, .int .i64 arg] 227
 obtain ⟨c0, c1, c2, -, -, -⟩ := hB.three
 have hacc := below1 w (.cells #[.int .i64 key, .int .i64 1, .int .i64 arg] 227)
 have hsz : w.heap.size + 1 ≤ (w.alloc (.cells #[.int .i64 key, .int .i64 1, .int .i64 arg] 227)).heap.size := by simp
 cases hF : findS key
 all_goals
  have HF := Lib.hid hF; clear hF
  go_enter Try.func222, Try.ntmps222
  go_wp2_with (first | ((go_at_call 250); refine (motion_check a n c l k key 1 arg _ HN.out (by omega) ⟨by omega, by omega⟩).mono ?_; rintro e w2 ⟨rfl, hb2⟩; rw [HE.out]; have hB2 := hB.below hb2 hB.lt; obtain ⟨d0, d1, d2, -, -, -⟩ := hB2.three; have hacc2 := below_then hacc (by omega) hb2; have hlt2 := hB2.lt; have hI2 := hl.below hacc2) | ((go_at_call 251); refine (motion_known _ _).mono ?_; rintro e w3 ⟨rfl, rfl⟩; rw [HK.out, HF.out]))
  have hkk := HK2.out
  clear hkk
  have hacc4 := (hacc2.alloc (by omega) (.cells #[.slice a n c, .int .i64 (k : Int), .int .i64 1, .bool op] 323)).alloc (by simp; omega) (.cells #[.int .i64 0, .bool false] 325)
  have hP4 := Blk.new (w2.alloc (.cells #[.slice a n c, .int .i64 (k : Int), .int .i64 1, .bool op] 323)) #[.int .i64 0, .bool false] 325
  rw [World.size_alloc] at hP4
  have hI4 := hl.below hacc4
 ·go_wp2_with ((go_at_call 253); refine (goer_plain a n c l k 1 op _ hI4 HN.out hn2 hk1 HK2.out hm0 hm1 key arg HK.out HF.out).mono ?_; rintro e w5 ⟨rfl, hb5⟩; rw [HR.out]; have hP5 := hP4.below hb5 hP4.lt; obtain ⟨s0, s1, s2, s3⟩ := hP5.two; have hacc5 := below_then hacc4 (by simp; omega) hb5)
  go_quiet (fail)
  go_wp2
  go_ret3
  exact ⟨rfl, below_drewN ((hacc5.setCell (p := ⟨w2.heap.size + 1, 0, none⟩) (by show w.heap.size ≤ w2.heap.size + 1; omega) _).setCell (p := ⟨w2.heap.size + 1, 1, none⟩) (by show w.heap.size ≤ w2.heap.size + 1; omega) _) _⟩
 ·go_wp2_with ((go_at_call 252); refine (goer_found a n c l k 1 op _ hI4 HN.out hn2 hk1 HK2.out hm0 hm1 key arg HF.out).mono ?_; rintro e w5 ⟨rfl, hb5⟩; rw [HR.out]; have hP5 := hP4.below hb5 hP4.lt; obtain ⟨s0, s1, s2, s3⟩ := hP5.two; have hacc5 := below_then hacc4 (by simp; omega) hb5)
  go_quiet (fail)
  go_wp2
  go_ret3
  exact ⟨rfl, below_drewN ((hacc5.setCell (p := ⟨w2.heap.size + 1, 0, none⟩) (by show w.heap.size ≤ w2.heap.size + 1; omega) _).setCell (p := ⟨w2.heap.size + 1, 1, none⟩) (by show w.heap.size ≤ w2.heap.size + 1; omega) _) _⟩
set_option maxRecDepth 100000 in
set_option maxHeartbeats 2000000 in
theorem motion_go_pos (a : Option Addr) (n c : Nat) (l : List Int) (k m : Nat) (key arg : Int) (op : Bool) (w : World) (hl : Ints w a l) (hn : l.length = n) (hn2 : n ≤ 4096) (hk1 : k ≤ n) (hk2 : k < n ∨ n = 0) (hm2 : 2 ≤ m) (hm1 : m ≤ 999) (hK : knownS key = true) (hE : moveE l k key (m : Int) = 0)
  (r : Option (Int × Bool)) (hr : moS l k key (m : Int) arg op = r) :
  Calls Try.prog 222 #[.slice a n c, .int .i64 (k : Int), mvV key (m : Int) arg, .bool op] w (GoPost (moA r) (moTh r) (moE r) w) := by
 have hm0 : 1 ≤ m := by omega
 have HE := Lib.hid hE; have HN := Lib.hid hn; have HK := Lib.hid hK; have HR := Lib.hid hr; have HK2 := Lib.hid hk2
 clear hE hn hK hr hk2
 unfold mvV
 have hB := Blk.new w #[.int .i64 key, .int .i64 (m : Int), .int .i64 arg] 227
 obtain ⟨c0, c1, c2, -, -, -⟩ := hB.three
 have hacc := below1 w (.cells #[.int .i64 key, .int .i64 (m : Int), .int .i64 arg] 227)
 have hsz : w.heap.size + 1 ≤ (w.alloc (.cells #[.int .i64 key, .int .i64 (m : Int), .int .i64 arg] 227)).heap.size := by simp
 cases hF : findS key
 all_goals
  have HF := Lib.hid hF; clear hF
  go_enter Try.func222, Try.ntmps222
  go_wp2_with (first | ((go_at_call 250); refine (motion_check a n c l k key (m : Int) arg _ HN.out (by omega) ⟨by omega, by omega⟩).mono ?_; rintro e w2 ⟨rfl, hb2⟩; rw [HE.out]; have hB2 := hB.below hb2 hB.lt; obtain ⟨d0, d1, d2, -, -, -⟩ := hB2.three; have hacc2 := below_then hacc (by omega) hb2; have hlt2 := hB2.lt; have hI2 := hl.below hacc2) | ((go_at_call 251); refine (motion_known _ _).mono ?_; rintro e w3 ⟨rfl, rfl⟩; rw [HK.out, HF.out]))
  have hkk := HK2.out
  clear hkk
  have hacc4 := (hacc2.alloc (by omega) (.cells #[.slice a n c, .int .i64 (k : Int), .int .i64 (m : Int), .bool op] 323)).alloc (by simp; omega) (.cells #[.int .i64 0, .bool false] 325)
  have hP4 := Blk.new (w2.alloc (.cells #[.slice a n c, .int .i64 (k : Int), .int .i64 (m : Int), .bool op] 323)) #[.int .i64 0, .bool false] 325
  rw [World.size_alloc] at hP4
  have hI4 := hl.below hacc4
 ·go_wp2_with ((go_at_call 253); refine (goer_plain a n c l k m op _ hI4 HN.out hn2 hk1 HK2.out hm0 hm1 key arg HK.out HF.out).mono ?_; rintro e w5 ⟨rfl, hb5⟩; rw [HR.out]; have hP5 := hP4.below hb5 hP4.lt; obtain ⟨s0, s1, s2, s3⟩ := hP5.two; have hacc5 := below_then hacc4 (by simp; omega) hb5)
  go_quiet (fail)
  go_wp2
  go_ret3
  exact ⟨rfl, below_drewN ((hacc5.setCell (p := ⟨w2.heap.size + 1, 0, none⟩) (by show w.heap.size ≤ w2.heap.size + 1; omega) _).setCell (p := ⟨w2.heap.size + 1, 1, none⟩) (by show w.heap.size ≤ w2.heap.size + 1; omega) _) _⟩
 ·go_wp2_with ((go_at_call 252); refine (goer_found a n c l k m op _ hI4 HN.out hn2 hk1 HK2.out hm0 hm1 key arg HF.out).mono ?_; rintro e w5 ⟨rfl, hb5⟩; rw [HR.out]; have hP5 := hP4.below hb5 hP4.lt; obtain ⟨s0, s1, s2, s3⟩ := hP5.two; have hacc5 := below_then hacc4 (by simp; omega) hb5)
  go_quiet (fail)
  go_wp2
  go_ret3
  exact ⟨rfl, below_drewN ((hacc5.setCell (p := ⟨w2.heap.size + 1, 0, none⟩) (by show w.heap.size ≤ w2.heap.size + 1; omega) _).setCell (p := ⟨w2.heap.size + 1, 1, none⟩) (by show w.heap.size ≤ w2.heap.size + 1; omega) _) _⟩
theorem moveE_ok {l : List Int} {k key count : Int} (h : moveE l k key count = 0) : l.length ≤ 4096 ∧ 0 ≤ k ∧ (k < l.length ∨ k = 0) ∧ 0 ≤ count ∧ count ≤ 999 ∧ knownS key = true := by
 unfold moveE at h
 split at h
 ·simp at h
 ·split at h
  ·simp at h
  ·split at h
   ·exact ⟨by omega, by omega, by omega, by omega, by omega, by assumption⟩
   ·simp at h
theorem motion_go (a : Option Addr) (n c : Nat) (l : List Int) (k key count arg : Int) (op : Bool) (w : World) (hl : Ints w a l) (hn : l.length = n) (hn2 : n ≤ 9223372036854775807) (hk : InR k) :
  Calls Try.prog 222 #[.slice a n c, .int .i64 k, mvV key count arg, .bool op] w (GoPost (goA l k key count arg op) (goB l k key count arg op) (goE l k key count arg op) w) := by
 by_cases hE : moveE l k key count = 0
 ·obtain ⟨h1, h2, h3, h4, h5, h6⟩ := moveE_ok hE
  rw [goA, goB, goE, if_pos hE, if_pos hE, if_pos hE]
  obtain ⟨k, rfl⟩ := Int.eq_ofNat_of_zero_le h2
  obtain ⟨m, rfl⟩ := Int.eq_ofNat_of_zero_le h4
  rw [Int.toNat_natCast]
  rcases (show m = 0 ∨ m = 1 ∨ 2 ≤ m by omega) with rfl | rfl | hm
  ·exact motion_go_zero a n c l k key arg op w hl hn (by omega) (by omega) (by omega) h6 hE _ rfl
  ·exact motion_go_one a n c l k key arg op w hl hn (by omega) (by omega) (by omega) h6 hE _ rfl
  ·rw [show max 1 (m : Int) = (m : Int) from by omega]
   exact motion_go_pos a n c l k m key arg op w hl hn (by omega) (by omega) (by omega) hm (by omega) h6 hE _ rfl
 ·rw [goA, goB, goE, if_neg hE, if_neg hE, if_neg hE]
  exact motion_go_bad a n c l k key count arg op w hn hn2 hk _ rfl hE
def raF (l : List Int) (k key count arg : Int) : Int := if goE l k key count arg true = 0 then min k (goA l k key count arg true) else 0
def raT (l : List Int) (k key count arg : Int) : Int := if goE l k key count arg true = 0 then max k (goA l k key count arg true) + (if goB l k key count arg true then 1 else 0) else 0
def RaPost (F T E : Int) (w : World) (e : Ending) (w' : World) : Prop := e = .returned (.tuple #[.int .i64 F, .int .i64 T, .int .i64 E]) ∧ Below w.heap.size w w'
set_option maxRecDepth 100000 in
set_option maxHeartbeats 1000000 in
theorem motion_range (a : Option Addr) (n c : Nat) (l : List Int) (k key count arg : Int) (w : World) (hl : Ints w a l) (hn : l.length = n) (hn2 : n ≤ 9223372036854775807) (hk : InR k) (hA : InR (goA l k key count arg true + 1)) (hk3 : goE l k key count arg true = 0 → k ≤ 4096) :
  Calls Try.prog 223 #[.slice a n c, .int .i64 k, mvV key count arg] w (RaPost (raF l k key count arg) (raT l k key count arg) (goE l k key count arg true) w) := by
 have hF : raF l k key count arg = if goE l k key count arg true = 0 then min k (goA l k key count arg true) else 0 := rfl
 have hT : raT l k key count arg = if goE l k key count arg true = 0 then max k (goA l k key count arg true) + (if goB l k key count arg true then 1 else 0) else 0 := rfl
 obtain ⟨A, hA2⟩ : ∃ A, goA l k key count arg true = A := ⟨_, rfl⟩
 obtain ⟨B, hB2⟩ : ∃ B, goB l k key count arg true = B := ⟨_, rfl⟩
 obtain ⟨E, hE2⟩ : ∃ E, goE l k key count arg true = E := ⟨_, rfl⟩
 rw [hA2, hB2, hE2] at hT
 rw [hA2, hE2] at hF
 rw [hE2] at hk3 ⊢
 rw [hA2] at hA
 obtain ⟨a1, a2⟩ := hA
 obtain ⟨k1, k2⟩ := hk
 have HA := Lib.hid hA2; have HB := Lib.hid hB2; have HE := Lib.hid hE2; have HN := Lib.hid hn
 clear hA2 hB2 hE2 hn
 unfold mvV
 have hB := Blk.new w #[.int .i64 key, .int .i64 count, .int .i64 arg] 227
 obtain ⟨c0, c1, c2, -, -, -⟩ := hB.three
 have hacc := below1 w (.cells #[.int .i64 key, .int .i64 count, .int .i64 arg] 227)
 have hI := hl.below hacc
 by_cases h0 : E = 0
 ·rw [if_pos h0] at hF hT
  have hk4 := hk3 h0
  subst h0
  rcases (show k ≤ A ∨ A < k by omega) with h1 | h1
  ·rw [show min k A = k by omega] at hF
   rw [show max k A = A by omega] at hT
   cases B
   all_goals
    have HF := Lib.hid hF; have HT := Lib.hid hT; clear hF hT
    go_enter Try.func223, Try.ntmps223
    go_wp2_with ((go_at_call 222); refine (motion_go a n c l k key count arg true _ hI HN.out hn2 ⟨k1, k2⟩).mono ?_; rintro e w2 ⟨rfl, hb2⟩; rw [HA.out, HB.out, HE.out])
    all_goals
     go_ret3
     rw [HF.out, HT.out]
     refine ⟨?_, below_then hacc (by simp) hb2⟩
     simp
     try omega
  ·rw [show min k A = A by omega] at hF
   rw [show max k A = k by omega] at hT
   cases B
   all_goals
    have HF := Lib.hid hF; have HT := Lib.hid hT; clear hF hT
    go_enter Try.func223, Try.ntmps223
    go_wp2_with ((go_at_call 222); refine (motion_go a n c l k key count arg true _ hI HN.out hn2 ⟨k1, k2⟩).mono ?_; rintro e w2 ⟨rfl, hb2⟩; rw [HA.out, HB.out, HE.out])
    all_goals
     go_ret3
     rw [HF.out, HT.out]
     refine ⟨?_, below_then hacc (by simp) hb2⟩
     simp
     try omega
 ·rw [if_neg h0] at hF hT
  have HF := Lib.hid hF; have HT := Lib.hid hT
  have h0' : (E != 0) = true := by simpa using h0
  clear hF hT h0 hk3
  go_enter Try.func223, Try.ntmps223
  go_wp2_with ((go_at_call 222); refine (motion_go a n c l k key count arg true _ hI HN.out hn2 ⟨k1, k2⟩).mono ?_; rintro e w2 ⟨rfl, hb2⟩; rw [HA.out, HB.out, HE.out])
  go_ret3
  rw [HF.out, HT.out]
  exact ⟨rfl, below_then hacc (by simp) hb2⟩
def lnE (n : Nat) (k : Int) : Int := if 200 < n then 2 else if k < 0 ∨ (0 < k ∧ (n : Int) ≤ k) then 1 else 0
set_option maxRecDepth 100000 in
theorem edit_check (a : Option Addr) (n c : Nat) (k : Int) (w : World) :
  Calls Try.prog 88 #[.agg #[.slice a n c, .int .i64 k]] w fun e w' => e = .returned (.int .i64 (lnE n k)) ∧ Below w.heap.size w w' := by
 have hA := Blk.new w #[.slice a n c, .int .i64 k] 131
 have hacc := below1 w (.cells #[.slice a n c, .int .i64 k] 131)
 have HE := Lib.hid (show lnE n k = if 200 < n then 2 else if k < 0 ∨ (0 < k ∧ (n : Int) ≤ k) then 1 else 0 from rfl)
 go_enter Try.func88, Try.ntmps88
 go_upto_region 1 with fail
 generalize w.alloc (.cells #[.slice a n c, .int .i64 k] 131) = w1 at *
 obtain ⟨c0, c1, -, -⟩ := hA.two
 by_cases h1 : 200 < n
 ·have i1 : (200 : Int) < (n : Int) := by omega
  go_wp2
  go_ret
  refine ⟨?_, hacc⟩
  rw [HE.out, if_pos h1]; rfl
 ·have i1 : ¬ (200 : Int) < (n : Int) := by omega
  by_cases h2 : k < 0
  ·go_wp2
   go_ret
   refine ⟨?_, hacc⟩
   rw [HE.out, if_neg h1, if_pos (.inl h2)]; rfl
  ·by_cases hn : n = 0
   ·subst hn
    have i2 : 0 ≤ k := by omega
    by_cases h3 : 0 < k
    ·go_wp2
     go_ret
     refine ⟨?_, hacc⟩
     rw [HE.out, if_neg (by omega), if_pos (by omega)]; rfl
    ·go_wp2
     go_ret
     refine ⟨?_, hacc⟩
     rw [HE.out, if_neg (by omega), if_neg (by omega)]; rfl
   ·have i2 : 0 ≤ k := by omega
    have iw : IntKind.i64.wrap ((n : Int) - 1) = (n : Int) - 1 := by rw [IntKind.wrap_i64]; omega
    obtain ⟨m, rfl⟩ : ∃ m, n = m + 1 := ⟨n - 1, by omega⟩
    by_cases h3 : ((m : Int)) < k
    ·have i3 : (((m + 1 : Nat) : Int) - 1) < k := by omega
     have i4 : (0 : Int) ≤ ((m + 1 : Nat) : Int) - 1 := by omega
     go_wp2
     all_goals
      go_ret
      refine ⟨?_, hacc⟩
      rw [HE.out, if_neg h1, if_pos (by omega)]; first | rfl | skip
    ·have i3 : ¬ (((m + 1 : Nat) : Int) - 1) < k := by omega
     have i4 : (0 : Int) ≤ ((m + 1 : Nat) : Int) - 1 := by omega
     go_wp2
     all_goals
      go_ret
      refine ⟨?_, hacc⟩
      rw [HE.out, if_neg h1, if_neg (by omega)]; first | rfl | skip
set_option maxRecDepth 100000 in
theorem ref_lineErr (a : Option Addr) (n c : Nat) (k : Int) (w : World) :
  Calls Try.prog 89 #[.agg #[.slice a n c, .int .i64 k]] w fun e w' => e = .returned (.int .i64 (lnE n k)) ∧ Below w.heap.size w w' := by
 have hA := Blk.new w #[.slice a n c, .int .i64 k] 131
 have hacc := below1 w (.cells #[.slice a n c, .int .i64 k] 131)
 have HE := Lib.hid (show lnE n k = if 200 < n then 2 else if k < 0 ∨ (0 < k ∧ (n : Int) ≤ k) then 1 else 0 from rfl)
 go_enter Try.func89, Try.ntmps89
 go_upto_region 1 with fail
 generalize w.alloc (.cells #[.slice a n c, .int .i64 k] 131) = w1 at *
 obtain ⟨c0, c1, -, -⟩ := hA.two
 by_cases h1 : 200 < n
 ·have i1 : (200 : Int) < (n : Int) := by omega
  go_wp2
  go_ret
  refine ⟨?_, hacc⟩
  rw [HE.out, if_pos h1]; rfl
 ·have i1 : ¬ (200 : Int) < (n : Int) := by omega
  by_cases h2 : k < 0
  ·go_wp2
   go_ret
   refine ⟨?_, hacc⟩
   rw [HE.out, if_neg h1, if_pos (.inl h2)]; rfl
  ·have i2 : 0 ≤ k := by omega
   by_cases h3 : 0 < k
   ·by_cases h4 : (n : Int) ≤ k
    ·go_wp2
     go_ret
     refine ⟨?_, hacc⟩
     rw [HE.out, if_neg h1, if_pos (.inr ⟨h3, h4⟩)]; rfl
    ·have i4 : k < (n : Int) := by omega
     go_wp2
     go_ret
     refine ⟨?_, hacc⟩
     rw [HE.out, if_neg h1, if_neg (by omega)]; rfl
   ·have i3 : k = 0 := by omega
    subst i3
    go_wp2
    go_ret
    refine ⟨?_, hacc⟩
    rw [HE.out, if_neg h1, if_neg (by omega)]; rfl
def clV (k n : Int) : Int := max 0 (min k (n - 1))
theorem edit_clamp (k n : Int) (w : World) (h0 : -4096 ≤ k) (h1 : k ≤ 4096) (h2 : 0 ≤ n) (h3 : n ≤ 4096) :
  Calls Try.prog 227 #[.int .i64 k, .int .i64 n] w fun e w' => e = .returned (.int .i64 (clV k n)) ∧ w = w' := by
 by_cases a : k < n - 1
 ·by_cases b : 0 < k
  ·go_enter Try.func227, Try.ntmps227
   go_wp2
   all_goals
    go_ret
    refine ⟨ret1_int ?_, rfl⟩
    unfold clV; omega
  ·go_enter Try.func227, Try.ntmps227
   go_wp2
   all_goals
    go_ret
    refine ⟨ret1_int ?_, rfl⟩
    unfold clV; omega
 ·by_cases b : 0 < n - 1
  ·go_enter Try.func227, Try.ntmps227
   go_wp2
   all_goals
    go_ret
    refine ⟨ret1_int ?_, rfl⟩
    unfold clV; omega
  ·go_enter Try.func227, Try.ntmps227
   go_wp2
   all_goals
    go_ret
    refine ⟨ret1_int ?_, rfl⟩
    unfold clV; omega
def turnV (c : Int) : Int := if 97 ≤ c ∧ c ≤ 122 then c - 32 else if 65 ≤ c ∧ c ≤ 90 then c + 32 else c
theorem xor32 : ∀ c : Fin 58, bits BinOp.xor IntKind.i64 ((c.val + 65 : Nat) : Int) 32 = turnV ((c.val + 65 : Nat) : Int) ∨ (26 ≤ c.val ∧ c.val < 32) := by decide +kernel
theorem edit_turned (c : Int) (w : World) :
  Calls Try.prog 226 #[.int .i64 c] w fun e w' => e = .returned (.int .i64 (turnV c)) ∧ w = w' := by
 have HT := Lib.hid (show turnV c = if 97 ≤ c ∧ c ≤ 122 then c - 32 else if 65 ≤ c ∧ c ≤ 90 then c + 32 else c from rfl)
 by_cases h : (97 ≤ c ∧ c ≤ 122) ∨ (65 ≤ c ∧ c ≤ 90)
 ·have hx : bits BinOp.xor IntKind.i64 c 32 = turnV c := by
   have := xor32 ⟨(c - 65).toNat, by omega⟩
   have e : ((((c - 65).toNat + 65 : Nat)) : Int) = c := by omega
   simp only [e] at this
   rcases this with h1 | h1
   ·exact h1
   ·omega
  have HX := Lib.hid hx
  clear hx
  go_enter Try.func226, Try.ntmps226
  go_wp2
  all_goals
   first
    | (exfalso; omega)
    | (go_ret; refine ⟨ret1_int ?_, rfl⟩; exact HX.out)
 ·go_enter Try.func226, Try.ntmps226
  go_wp2
  all_goals
   first
    | (exfalso; omega)
    | (go_ret; refine ⟨ret1_int ?_, rfl⟩; rw [HT.out, if_neg (by omega), if_neg (by omega)])
theorem ref_turned (c : Int) (w : World) :
  Calls Try.prog 197 #[.int .i64 c] w fun e w' => e = .returned (.int .i64 (turnV c)) ∧ w = w' := by
 have HT := Lib.hid (show turnV c = if 97 ≤ c ∧ c ≤ 122 then c - 32 else if 65 ≤ c ∧ c ≤ 90 then c + 32 else c from rfl)
 go_enter Try.func197, Try.ntmps197
 go_wp2
 all_goals
  go_ret
  refine ⟨ret1_int ?_, rfl⟩
  rw [HT.out]
  repeat' split
  all_goals omega
def bt (s : ByteArray) (j : Nat) : Int := ((s.data.toList.getD j 0).toNat : Int)
theorem bt_range (s : ByteArray) (j : Nat) : 0 ≤ bt s j ∧ bt s j ≤ 255 := by
 unfold bt
 have := (s.data.toList.getD j 0).toNat_lt
 omega
def inB (key : Int) (s : ByteArray) : Bool := s.data.toList.any fun b => (b.toNat : Int) == key
theorem inB_yes {key : Int} {s : ByteArray} {j : Nat} (hj : j < s.size) (h : bt s j = key) : inB key s = true := by
 unfold inB
 rw [List.any_eq_true]
 have hl : j < s.data.toList.length := by simpa using hj
 refine ⟨s.data.toList[j], List.getElem_mem hl, ?_⟩
 unfold bt at h
 simpa [List.getD, hj] using h
theorem inB_no {key : Int} {s : ByteArray} (h : ∀ j, j < s.size → bt s j ≠ key) : inB key s = false := by
 unfold inB
 rw [List.any_eq_false]
 intro x hx
 obtain ⟨j, hj, rfl⟩ := List.mem_iff_getElem.1 hx
 have hj2 : j < s.size := by simpa using hj
 have := h j hj2
 unfold bt at this
 simpa [List.getD, hj2] using this
theorem below_bytes (w : World) (e : TypeId) (s : ByteArray) : Below w.heap.size w (Lib.bytesWorld w e s) :=
 ⟨rfl, rfl, rfl, by rw [Lib.bytesWorld_size]; omega, fun k hk => Lib.bytesWorld_at_old w e s k hk⟩
theorem ref_in (key : Int) (s : ByteArray) (hs : s.size ≤ 4096) (w : World) :
  Calls Try.prog 121 #[.int .i64 key, .string s] w fun e w' => e = .returned (.bool (inB key s)) ∧ Below w.heap.size w w' := by
 have hcv := Lib.run_convert_string_bytes (P := Try.prog) w 9 146 5 s Try.underlying9 Try.underlying146 Try.underlying5
 have hb := below_bytes w 5 s
 have HC := Lib.hid (show ∀ j, j < s.size → (Lib.bytesWorld w 5 s).cell? ⟨w.heap.size, j, none⟩ = some (.int .u8 (bt s j)) from fun j hj => Lib.bytesWorld_cell w 5 s j hj)
 go_enter Try.func121, Try.ntmps121
 go_wp2
 generalize Lib.bytesWorld w 5 s = w1 at *
 clear hcv
 go_loopw [10] (fun v wr => ∃ k : Nat, v = .int .i64 (k : Int) ∧ k ≤ s.size ∧ (∀ j, j < k → bt s j ≠ key) ∧ w1 = wr) (fun v _ => s.size - (intOf v).toNat)
 case atStart => exact ⟨0, rfl, by omega, fun j hj => by omega, rfl⟩
 case round =>
  obtain ⟨k, rfl, hk, hno, rfl⟩ := hrel
  have HNO := Lib.hid hno
  clear hno
  by_cases hlt : k < s.size
  ·have ck := HC.out k hlt
   obtain ⟨r0, r1⟩ := bt_range s k
   have i1 : (k : Int) < (s.size : Int) := by omega
   by_cases he : bt s k = key
   ·have HE := Lib.hid (inB_yes hlt he)
    have g1 : (bt s k == key) = true := by simpa using he
    clear he
    go_wp2
    go_ret
    exact ⟨ret1_bool (by rw [HE.out]), hb⟩
   ·have HE := Lib.hid he
    have g1 : (bt s k == key) = false := by simpa using he
    clear he
    go_wp2
    go_roundw
    case rel =>
     refine ⟨k + 1, by go_num, by omega, fun j hj => ?_, by first | rfl | trivial⟩
     rcases Nat.lt_succ_iff_lt_or_eq.1 hj with h | rfl
     ·exact HNO.out j h
     ·exact HE.out
    case measure => simp [intOf]; omega
  ·have HE := Lib.hid (inB_no (key := key) (s := s) fun j hj => HNO.out j (by omega))
   go_wp2
   go_ret
   exact ⟨ret1_bool (by rw [HE.out]), hb⟩
def fiB (key : Int) : Bool := decide (key = 102 ∨ key = 70 ∨ key = 116 ∨ key = 84)
def iaB (key : Int) : Bool := decide (key = 105 ∨ key = 97)
theorem inB_mem (key : Int) (s : ByteArray) : inB key s = true ↔ key ∈ s.data.toList.map fun b => (b.toNat : Int) := by
 unfold inB
 rw [List.any_eq_true, List.mem_map]
 constructor
 ·rintro ⟨b, h1, h2⟩; exact ⟨b, h1, by simpa using h2⟩
 ·rintro ⟨b, h1, h2⟩; exact ⟨b, h1, by simpa using h2⟩
theorem in_ia (key : Int) : inB key ⟨#[105, 97]⟩ = iaB key := by rw [Bool.eq_iff_iff, inB_mem]; simp [iaB]
theorem Blk.five {w : World} {B : Nat} {u0 u1 u2 u3 u4 : Value} {e : TypeId} (h : Blk w B #[u0, u1, u2, u3, u4] e) :
  w.cell? ⟨B, 0, none⟩ = some u0 ∧ w.cell? ⟨B, 1, none⟩ = some u1 ∧ w.cell? ⟨B, 2, none⟩ = some u2 ∧ w.cell? ⟨B, 3, none⟩ = some u3 ∧ w.cell? ⟨B, 4, none⟩ = some u4 := ⟨h.cell 0, h.cell 1, h.cell 2, h.cell 3, h.cell 4⟩
theorem Blk.fiveF {w : World} {B : Nat} {u0 u1 u2 u3 u4 : Value} {e : TypeId} (h : Blk w B #[u0, u1, u2, u3, u4] e) :
  w.frozen? ⟨B, 0, none⟩ = false ∧ w.frozen? ⟨B, 1, none⟩ = false ∧ w.frozen? ⟨B, 2, none⟩ = false ∧ w.frozen? ⟨B, 3, none⟩ = false ∧ w.frozen? ⟨B, 4, none⟩ = false := ⟨h.free 0, h.free 1, h.free 2, h.free 3, h.free 4⟩
def totV (f s : Int) : Int := if f = 0 then s else if s = 0 then f else min 999 (f * s)
structure TK where
 q0 : Int
 q1 : Int
 q2 : Int
 q3 : Int
 q4 : Int
 c0 : Int
 c1 : Int
 c2 : Int
 c3 : Int
 c4 : Int
 how : Int
deriving DecidableEq
def TK.done (f r o s verb arg : Int) : TK := ⟨0, 0, 0, 0, 0, totV f s, r, o, verb, arg, 2⟩
def TK.more (f r o s wt : Int) : TK := ⟨f, r, o, s, wt, 0, 0, 0, 0, 0, 1⟩
def TK.q (t : TK) : Value := .agg #[.int .i64 t.q0, .int .i64 t.q1, .int .i64 t.q2, .int .i64 t.q3, .int .i64 t.q4]
def TK.c (t : TK) : Value := .agg #[.int .i64 t.c0, .int .i64 t.c1, .int .i64 t.c2, .int .i64 t.c3, .int .i64 t.c4]
theorem Blk.set5 {w : World} {B : Nat} {u0 u1 u2 u3 u4 : Value} {e : TypeId} (h : Blk w B #[u0, u1, u2, u3, u4] e) (x0 x1 x2 x3 x4 : Value) :
  Blk (((((w.setCell ⟨B, 0, none⟩ x0).setCell ⟨B, 1, none⟩ x1).setCell ⟨B, 2, none⟩ x2).setCell ⟨B, 3, none⟩ x3).setCell ⟨B, 4, none⟩ x4) B #[x0, x1, x2, x3, x4] e :=
 ((((h.set 0 x0).set 1 x1).set 2 x2).set 3 x3).set 4 x4
theorem below_set5 {N B : Nat} {a w : World} (h : Below N a w) (hB : N ≤ B) {x0 x1 x2 x3 x4 : Value} :
  Below N a (((((w.setCell ⟨B, 0, none⟩ x0).setCell ⟨B, 1, none⟩ x1).setCell ⟨B, 2, none⟩ x2).setCell ⟨B, 3, none⟩ x3).setCell ⟨B, 4, none⟩ x4) :=
 ((((h.setCell (p := ⟨B, 0, none⟩) hB _).setCell (p := ⟨B, 1, none⟩) hB _).setCell (p := ⟨B, 2, none⟩) hB _).setCell (p := ⟨B, 3, none⟩) hB _).setCell (p := ⟨B, 4, none⟩) hB _
structure C5 where
 a : Int
 b : Int
 c : Int
 d : Int
 e : Int
def C5.cells (s : C5) : List Value := [.int .i64 s.a, .int .i64 s.b, .int .i64 s.c, .int .i64 s.d, .int .i64 s.e]
def C5.v (s : C5) : Value := .agg #[.int .i64 s.a, .int .i64 s.b, .int .i64 s.c, .int .i64 s.d, .int .i64 s.e]
def COwn (base : Nat) (w : World) (v : Value) (es : List C5) : Prop :=
 w.ownsRow base 80 5 v es.length (es.flatMap C5.cells)
def Cmds (w : World) (a : Option Addr) (es : List C5) : Prop :=
 es = [] ∨ ∃ b o, a = some ⟨b, o, none⟩ ∧ ∀ i (h : i < es.length) j v, (es[i].cells)[j]? = some v → w.cell? ⟨b, o + (i * 5 + j), none⟩ = some v
theorem Cmds.keep {w w' : World} {a : Option Addr} {es : List C5} (h : Cmds w a es) (hc : ∀ p v, w.cell? p = some v → w'.cell? p = some v) : Cmds w' a es := by
 rcases h with h | ⟨b, o, rfl, h⟩
 ·exact .inl h
 ·exact .inr ⟨b, o, rfl, fun i hi j v hj => hc _ _ (h i hi j v hj)⟩
theorem Cmds.below {w w' : World} {a : Option Addr} {es : List C5} (h : Cmds w a es) (hb : Below w.heap.size w w') : Cmds w' a es := h.keep (below_keeps hb)
theorem Cmds.drewN {w : World} {a : Option Addr} {es : List C5} (h : Cmds w a es) (n : Nat) : Cmds (w.drewN n) a es := h.keep (fun _ _ h => h)
theorem COwn.nil (base : Nat) (w : World) : COwn base w (.slice none 0 0) [] := World.ownsRow_nil _ _ _ _
theorem COwn.alloc {base : Nat} {w : World} {v : Value} {es : List C5} (h : COwn base w v es) (o : Obj) : COwn base (w.alloc o) v es := World.ownsRow.alloc h o
theorem COwn.drewN {base : Nat} {w : World} {v : Value} {es : List C5} (h : COwn base w v es) (n : Nat) : COwn base (w.drewN n) v es := h
theorem COwn.drew {base : Nat} {w : World} {v : Value} {es : List C5} (h : COwn base w v es) : COwn base w.drew v es := h
theorem COwn.mono {base base' : Nat} {w : World} {v : Value} {es : List C5} (h : COwn base w v es) (hb : base' ≤ base) : COwn base' w v es := by
 refine ⟨h.1, ?_⟩
 rcases h.2 with hn | ⟨g, cap, cur, rfl, hb', rest⟩
 ·exact .inl hn
 ·exact .inr ⟨g, cap, cur, rfl, by omega, rest⟩
theorem COwn.kept {base : Nat} {w w' : World} {v : Value} {es : List C5} (h : COwn base w v es) (hb : Below w.heap.size w w') : COwn base w' v es := by
 refine ⟨h.1, ?_⟩
 rcases h.2 with hn | ⟨g, cap, cur, rfl, hb', hgg, rest⟩
 ·exact .inl hn
 ·exact .inr ⟨g, cap, cur, rfl, hb', by rw [hb.block g (Array.getElem?_eq_some_iff.1 hgg).1]; exact hgg, rest⟩
theorem COwn.row {base : Nat} {w : World} {v : Value} {es : List C5} (h : COwn base w v es) : ∀ k, v.ownBlock = some k → base ≤ k := fun k hk => (World.ownsRow.lt h k hk).1
theorem COwn.form {base : Nat} {w : World} {v : Value} {es : List C5} (h : COwn base w v es) : ∃ a c, v = .slice a es.length c ∧ es.length ≤ c ∧ c ≤ 9223372036854775807 ∧ (a = none → es.length = 0) := by
 rcases h.2 with ⟨rfl, h0⟩ | ⟨g, cap, cur, rfl, hb', hgg, hn, hm, rest⟩
 ·exact ⟨none, 0, by rw [h0], by omega, by omega, fun _ => h0⟩
 ·exact ⟨_, cap, rfl, hn, by unfold maxLen at hm; omega, by simp⟩
theorem COwn.neBlk {base : Nat} {w : World} {v : Value} {es : List C5} {e' : TypeId} {B : Nat} {cs : Array Value} (h : COwn base w v es) (hB : Blk w B cs e') (he : 80 ≠ e') : some B ≠ v.ownBlock := by
 rcases h.2 with ⟨rfl, _⟩ | ⟨g, cap, cur, rfl, hb', hgg, rest⟩
 ·simp [Value.ownBlock]
 ·intro hv
  simp only [Value.ownBlock, Option.some.injEq] at hv
  subst hv
  rw [show w.heap[B]? = _ from hB] at hgg
  simp at hgg
  exact he hgg.2.symm
def shK (v : Int) : Option (Int × Int) := if v = 120 then some (100, 108) else if v = 88 then some (100, 104) else if v = 115 then some (99, 108) else if v = 83 then some (99, 99) else if v = 67 then some (99, 36) else if v = 68 then some (100, 36) else if v = 89 then some (121, 121) else none
def shC (c : C5) : C5 := match shK c.d with | some (p, q) => ⟨c.a, c.b, p, q, c.e⟩ | none => c
def lgC (c : C5) : C5 := if c.c ≠ 0 then c else shC c
theorem twoC (w : World) (u v : Array Value) (e f : TypeId) : Blk ((w.alloc (.cells u e)).alloc (.cells v f)) w.heap.size u e ∧ Blk ((w.alloc (.cells u e)).alloc (.cells v f)) (w.heap.size + 1) v f ∧ Below w.heap.size w ((w.alloc (.cells u e)).alloc (.cells v f)) := by
 have h := Blk.new (w.alloc (.cells u e)) v f
 rw [World.size_alloc] at h
 exact ⟨(Blk.new _ _ _).alloc _, h, below2 _ _ _⟩
def ShPost (c : C5) (ok : Bool) (w : World) (e : Ending) (w' : World) : Prop := e = .returned (.tuple #[c.v, .bool ok]) ∧ Below w.heap.size w w'
set_option maxRecDepth 100000 in
set_option maxHeartbeats 1000000 in
theorem short_120 (a b c e : Int) (w : World) : Calls Try.prog 179 #[.agg #[.int .i64 a, .int .i64 b, .int .i64 c, .int .i64 120, .int .i64 e]] w (ShPost ⟨a, b, 100, 108, e⟩ true w) := by
 obtain ⟨hA, hR, hb0⟩ := twoC w #[.int .i64 a, .int .i64 b, .int .i64 c, .int .i64 120, .int .i64 e] #[.int .i64 0, .int .i64 0, .int .i64 0, .int .i64 0, .int .i64 0] 80 80
 go_enter Try.func179, Try.ntmps179
 go_upto_region 1 with fail
 generalize ((w.alloc (.cells #[.int .i64 a, .int .i64 b, .int .i64 c, .int .i64 120, .int .i64 e] 80)).alloc (.cells #[.int .i64 0, .int .i64 0, .int .i64 0, .int .i64 0, .int .i64 0] 80)) = w1 at *
 obtain ⟨c0, c1, c2, c3, c4⟩ := hA.five
 obtain ⟨f0, f1, f2, f3, f4⟩ := hA.fiveF
 obtain ⟨d0, d1, d2, d3, d4⟩ := hR.five
 obtain ⟨g0, g1, g2, g3, g4⟩ := hR.fiveF
 have hG := ((hR.other (a := ⟨w.heap.size, 2, none⟩) (show w.heap.size + 1 ≠ w.heap.size by omega) (.int .i64 100)).other (a := ⟨w.heap.size, 3, none⟩) (show w.heap.size + 1 ≠ w.heap.size by omega) (.int .i64 108)).set5 (.int .i64 a) (.int .i64 b) (.int .i64 100) (.int .i64 108) (.int .i64 e)
 have hbG := below_set5 (B := w.heap.size + 1) ((hb0.setCell (p := ⟨w.heap.size, 2, none⟩) (Nat.le_refl _) (.int .i64 100)).setCell (p := ⟨w.heap.size, 3, none⟩) (Nat.le_refl _) (.int .i64 108)) (by omega) (x0 := .int .i64 a) (x1 := .int .i64 b) (x2 := .int .i64 100) (x3 := .int .i64 108) (x4 := .int .i64 e)
 obtain ⟨y0, y1, y2, y3, y4⟩ := hG.five
 have HB := Lib.hid hbG
 clear hG hbG
 go_wp2
 refine bodyPost_ret (v := .tuple #[.agg #[.int .i64 a, .int .i64 b, .int .i64 100, .int .i64 108, .int .i64 e], .bool true]) (by simp [results, Try.results179, go_sem, y0, y1, y2, y3, y4]) rfl ?_
 exact ⟨rfl, HB.out⟩
set_option maxRecDepth 100000 in
set_option maxHeartbeats 1000000 in
theorem short_88 (a b c e : Int) (w : World) : Calls Try.prog 179 #[.agg #[.int .i64 a, .int .i64 b, .int .i64 c, .int .i64 88, .int .i64 e]] w (ShPost ⟨a, b, 100, 104, e⟩ true w) := by
 obtain ⟨hA, hR, hb0⟩ := twoC w #[.int .i64 a, .int .i64 b, .int .i64 c, .int .i64 88, .int .i64 e] #[.int .i64 0, .int .i64 0, .int .i64 0, .int .i64 0, .int .i64 0] 80 80
 go_enter Try.func179, Try.ntmps179
 go_upto_region 1 with fail
 generalize ((w.alloc (.cells #[.int .i64 a, .int .i64 b, .int .i64 c, .int .i64 88, .int .i64 e] 80)).alloc (.cells #[.int .i64 0, .int .i64 0, .int .i64 0, .int .i64 0, .int .i64 0] 80)) = w1 at *
 obtain ⟨c0, c1, c2, c3, c4⟩ := hA.five
 obtain ⟨f0, f1, f2, f3, f4⟩ := hA.fiveF
 obtain ⟨d0, d1, d2, d3, d4⟩ := hR.five
 obtain ⟨g0, g1, g2, g3, g4⟩ := hR.fiveF
 have hG := ((hR.other (a := ⟨w.heap.size, 2, none⟩) (show w.heap.size + 1 ≠ w.heap.size by omega) (.int .i64 100)).other (a := ⟨w.heap.size, 3, none⟩) (show w.heap.size + 1 ≠ w.heap.size by omega) (.int .i64 104)).set5 (.int .i64 a) (.int .i64 b) (.int .i64 100) (.int .i64 104) (.int .i64 e)
 have hbG := below_set5 (B := w.heap.size + 1) ((hb0.setCell (p := ⟨w.heap.size, 2, none⟩) (Nat.le_refl _) (.int .i64 100)).setCell (p := ⟨w.heap.size, 3, none⟩) (Nat.le_refl _) (.int .i64 104)) (by omega) (x0 := .int .i64 a) (x1 := .int .i64 b) (x2 := .int .i64 100) (x3 := .int .i64 104) (x4 := .int .i64 e)
 obtain ⟨y0, y1, y2, y3, y4⟩ := hG.five
 have HB := Lib.hid hbG
 clear hG hbG
 go_wp2
 refine bodyPost_ret (v := .tuple #[.agg #[.int .i64 a, .int .i64 b, .int .i64 100, .int .i64 104, .int .i64 e], .bool true]) (by simp [results, Try.results179, go_sem, y0, y1, y2, y3, y4]) rfl ?_
 exact ⟨rfl, HB.out⟩
set_option maxRecDepth 100000 in
set_option maxHeartbeats 1000000 in
theorem short_115 (a b c e : Int) (w : World) : Calls Try.prog 179 #[.agg #[.int .i64 a, .int .i64 b, .int .i64 c, .int .i64 115, .int .i64 e]] w (ShPost ⟨a, b, 99, 108, e⟩ true w) := by
 obtain ⟨hA, hR, hb0⟩ := twoC w #[.int .i64 a, .int .i64 b, .int .i64 c, .int .i64 115, .int .i64 e] #[.int .i64 0, .int .i64 0, .int .i64 0, .int .i64 0, .int .i64 0] 80 80
 go_enter Try.func179, Try.ntmps179
 go_upto_region 1 with fail
 generalize ((w.alloc (.cells #[.int .i64 a, .int .i64 b, .int .i64 c, .int .i64 115, .int .i64 e] 80)).alloc (.cells #[.int .i64 0, .int .i64 0, .int .i64 0, .int .i64 0, .int .i64 0] 80)) = w1 at *
 obtain ⟨c0, c1, c2, c3, c4⟩ := hA.five
 obtain ⟨f0, f1, f2, f3, f4⟩ := hA.fiveF
 obtain ⟨d0, d1, d2, d3, d4⟩ := hR.five
 obtain ⟨g0, g1, g2, g3, g4⟩ := hR.fiveF
 have hG := ((hR.other (a := ⟨w.heap.size, 2, none⟩) (show w.heap.size + 1 ≠ w.heap.size by omega) (.int .i64 99)).other (a := ⟨w.heap.size, 3, none⟩) (show w.heap.size + 1 ≠ w.heap.size by omega) (.int .i64 108)).set5 (.int .i64 a) (.int .i64 b) (.int .i64 99) (.int .i64 108) (.int .i64 e)
 have hbG := below_set5 (B := w.heap.size + 1) ((hb0.setCell (p := ⟨w.heap.size, 2, none⟩) (Nat.le_refl _) (.int .i64 99)).setCell (p := ⟨w.heap.size, 3, none⟩) (Nat.le_refl _) (.int .i64 108)) (by omega) (x0 := .int .i64 a) (x1 := .int .i64 b) (x2 := .int .i64 99) (x3 := .int .i64 108) (x4 := .int .i64 e)
 obtain ⟨y0, y1, y2, y3, y4⟩ := hG.five
 have HB := Lib.hid hbG
 clear hG hbG
 go_wp2
 refine bodyPost_ret (v := .tuple #[.agg #[.int .i64 a, .int .i64 b, .int .i64 99, .int .i64 108, .int .i64 e], .bool true]) (by simp [results, Try.results179, go_sem, y0, y1, y2, y3, y4]) rfl ?_
 exact ⟨rfl, HB.out⟩
set_option maxRecDepth 100000 in
set_option maxHeartbeats 1000000 in
theorem short_83 (a b c e : Int) (w : World) : Calls Try.prog 179 #[.agg #[.int .i64 a, .int .i64 b, .int .i64 c, .int .i64 83, .int .i64 e]] w (ShPost ⟨a, b, 99, 99, e⟩ true w) := by
 obtain ⟨hA, hR, hb0⟩ := twoC w #[.int .i64 a, .int .i64 b, .int .i64 c, .int .i64 83, .int .i64 e] #[.int .i64 0, .int .i64 0, .int .i64 0, .int .i64 0, .int .i64 0] 80 80
 go_enter Try.func179, Try.ntmps179
 go_upto_region 1 with fail
 generalize ((w.alloc (.cells #[.int .i64 a, .int .i64 b, .int .i64 c, .int .i64 83, .int .i64 e] 80)).alloc (.cells #[.int .i64 0, .int .i64 0, .int .i64 0, .int .i64 0, .int .i64 0] 80)) = w1 at *
 obtain ⟨c0, c1, c2, c3, c4⟩ := hA.five
 obtain ⟨f0, f1, f2, f3, f4⟩ := hA.fiveF
 obtain ⟨d0, d1, d2, d3, d4⟩ := hR.five
 obtain ⟨g0, g1, g2, g3, g4⟩ := hR.fiveF
 have hG := ((hR.other (a := ⟨w.heap.size, 2, none⟩) (show w.heap.size + 1 ≠ w.heap.size by omega) (.int .i64 99)).other (a := ⟨w.heap.size, 3, none⟩) (show w.heap.size + 1 ≠ w.heap.size by omega) (.int .i64 99)).set5 (.int .i64 a) (.int .i64 b) (.int .i64 99) (.int .i64 99) (.int .i64 e)
 have hbG := below_set5 (B := w.heap.size + 1) ((hb0.setCell (p := ⟨w.heap.size, 2, none⟩) (Nat.le_refl _) (.int .i64 99)).setCell (p := ⟨w.heap.size, 3, none⟩) (Nat.le_refl _) (.int .i64 99)) (by omega) (x0 := .int .i64 a) (x1 := .int .i64 b) (x2 := .int .i64 99) (x3 := .int .i64 99) (x4 := .int .i64 e)
 obtain ⟨y0, y1, y2, y3, y4⟩ := hG.five
 have HB := Lib.hid hbG
 clear hG hbG
 go_wp2
 refine bodyPost_ret (v := .tuple #[.agg #[.int .i64 a, .int .i64 b, .int .i64 99, .int .i64 99, .int .i64 e], .bool true]) (by simp [results, Try.results179, go_sem, y0, y1, y2, y3, y4]) rfl ?_
 exact ⟨rfl, HB.out⟩
set_option maxRecDepth 100000 in
set_option maxHeartbeats 1000000 in
theorem short_67 (a b c e : Int) (w : World) : Calls Try.prog 179 #[.agg #[.int .i64 a, .int .i64 b, .int .i64 c, .int .i64 67, .int .i64 e]] w (ShPost ⟨a, b, 99, 36, e⟩ true w) := by
 obtain ⟨hA, hR, hb0⟩ := twoC w #[.int .i64 a, .int .i64 b, .int .i64 c, .int .i64 67, .int .i64 e] #[.int .i64 0, .int .i64 0, .int .i64 0, .int .i64 0, .int .i64 0] 80 80
 go_enter Try.func179, Try.ntmps179
 go_upto_region 1 with fail
 generalize ((w.alloc (.cells #[.int .i64 a, .int .i64 b, .int .i64 c, .int .i64 67, .int .i64 e] 80)).alloc (.cells #[.int .i64 0, .int .i64 0, .int .i64 0, .int .i64 0, .int .i64 0] 80)) = w1 at *
 obtain ⟨c0, c1, c2, c3, c4⟩ := hA.five
 obtain ⟨f0, f1, f2, f3, f4⟩ := hA.fiveF
 obtain ⟨d0, d1, d2, d3, d4⟩ := hR.five
 obtain ⟨g0, g1, g2, g3, g4⟩ := hR.fiveF
 have hG := ((hR.other (a := ⟨w.heap.size, 2, none⟩) (show w.heap.size + 1 ≠ w.heap.size by omega) (.int .i64 99)).other (a := ⟨w.heap.size, 3, none⟩) (show w.heap.size + 1 ≠ w.heap.size by omega) (.int .i64 36)).set5 (.int .i64 a) (.int .i64 b) (.int .i64 99) (.int .i64 36) (.int .i64 e)
 have hbG := below_set5 (B := w.heap.size + 1) ((hb0.setCell (p := ⟨w.heap.size, 2, none⟩) (Nat.le_refl _) (.int .i64 99)).setCell (p := ⟨w.heap.size, 3, none⟩) (Nat.le_refl _) (.int .i64 36)) (by omega) (x0 := .int .i64 a) (x1 := .int .i64 b) (x2 := .int .i64 99) (x3 := .int .i64 36) (x4 := .int .i64 e)
 obtain ⟨y0, y1, y2, y3, y4⟩ := hG.five
 have HB := Lib.hid hbG
 clear hG hbG
 go_wp2
 refine bodyPost_ret (v := .tuple #[.agg #[.int .i64 a, .int .i64 b, .int .i64 99, .int .i64 36, .int .i64 e], .bool true]) (by simp [results, Try.results179, go_sem, y0, y1, y2, y3, y4]) rfl ?_
 exact ⟨rfl, HB.out⟩
set_option maxRecDepth 100000 in
set_option maxHeartbeats 1000000 in
theorem short_68 (a b c e : Int) (w : World) : Calls Try.prog 179 #[.agg #[.int .i64 a, .int .i64 b, .int .i64 c, .int .i64 68, .int .i64 e]] w (ShPost ⟨a, b, 100, 36, e⟩ true w) := by
 obtain ⟨hA, hR, hb0⟩ := twoC w #[.int .i64 a, .int .i64 b, .int .i64 c, .int .i64 68, .int .i64 e] #[.int .i64 0, .int .i64 0, .int .i64 0, .int .i64 0, .int .i64 0] 80 80
 go_enter Try.func179, Try.ntmps179
 go_upto_region 1 with fail
 generalize ((w.alloc (.cells #[.int .i64 a, .int .i64 b, .int .i64 c, .int .i64 68, .int .i64 e] 80)).alloc (.cells #[.int .i64 0, .int .i64 0, .int .i64 0, .int .i64 0, .int .i64 0] 80)) = w1 at *
 obtain ⟨c0, c1, c2, c3, c4⟩ := hA.five
 obtain ⟨f0, f1, f2, f3, f4⟩ := hA.fiveF
 obtain ⟨d0, d1, d2, d3, d4⟩ := hR.five
 obtain ⟨g0, g1, g2, g3, g4⟩ := hR.fiveF
 have hG := ((hR.other (a := ⟨w.heap.size, 2, none⟩) (show w.heap.size + 1 ≠ w.heap.size by omega) (.int .i64 100)).other (a := ⟨w.heap.size, 3, none⟩) (show w.heap.size + 1 ≠ w.heap.size by omega) (.int .i64 36)).set5 (.int .i64 a) (.int .i64 b) (.int .i64 100) (.int .i64 36) (.int .i64 e)
 have hbG := below_set5 (B := w.heap.size + 1) ((hb0.setCell (p := ⟨w.heap.size, 2, none⟩) (Nat.le_refl _) (.int .i64 100)).setCell (p := ⟨w.heap.size, 3, none⟩) (Nat.le_refl _) (.int .i64 36)) (by omega) (x0 := .int .i64 a) (x1 := .int .i64 b) (x2 := .int .i64 100) (x3 := .int .i64 36) (x4 := .int .i64 e)
 obtain ⟨y0, y1, y2, y3, y4⟩ := hG.five
 have HB := Lib.hid hbG
 clear hG hbG
 go_wp2
 refine bodyPost_ret (v := .tuple #[.agg #[.int .i64 a, .int .i64 b, .int .i64 100, .int .i64 36, .int .i64 e], .bool true]) (by simp [results, Try.results179, go_sem, y0, y1, y2, y3, y4]) rfl ?_
 exact ⟨rfl, HB.out⟩
set_option maxRecDepth 100000 in
set_option maxHeartbeats 1000000 in
theorem short_89 (a b c e : Int) (w : World) : Calls Try.prog 179 #[.agg #[.int .i64 a, .int .i64 b, .int .i64 c, .int .i64 89, .int .i64 e]] w (ShPost ⟨a, b, 121, 121, e⟩ true w) := by
 obtain ⟨hA, hR, hb0⟩ := twoC w #[.int .i64 a, .int .i64 b, .int .i64 c, .int .i64 89, .int .i64 e] #[.int .i64 0, .int .i64 0, .int .i64 0, .int .i64 0, .int .i64 0] 80 80
 go_enter Try.func179, Try.ntmps179
 go_upto_region 1 with fail
 generalize ((w.alloc (.cells #[.int .i64 a, .int .i64 b, .int .i64 c, .int .i64 89, .int .i64 e] 80)).alloc (.cells #[.int .i64 0, .int .i64 0, .int .i64 0, .int .i64 0, .int .i64 0] 80)) = w1 at *
 obtain ⟨c0, c1, c2, c3, c4⟩ := hA.five
 obtain ⟨f0, f1, f2, f3, f4⟩ := hA.fiveF
 obtain ⟨d0, d1, d2, d3, d4⟩ := hR.five
 obtain ⟨g0, g1, g2, g3, g4⟩ := hR.fiveF
 have hG := ((hR.other (a := ⟨w.heap.size, 2, none⟩) (show w.heap.size + 1 ≠ w.heap.size by omega) (.int .i64 121)).other (a := ⟨w.heap.size, 3, none⟩) (show w.heap.size + 1 ≠ w.heap.size by omega) (.int .i64 121)).set5 (.int .i64 a) (.int .i64 b) (.int .i64 121) (.int .i64 121) (.int .i64 e)
 have hbG := below_set5 (B := w.heap.size + 1) ((hb0.setCell (p := ⟨w.heap.size, 2, none⟩) (Nat.le_refl _) (.int .i64 121)).setCell (p := ⟨w.heap.size, 3, none⟩) (Nat.le_refl _) (.int .i64 121)) (by omega) (x0 := .int .i64 a) (x1 := .int .i64 b) (x2 := .int .i64 121) (x3 := .int .i64 121) (x4 := .int .i64 e)
 obtain ⟨y0, y1, y2, y3, y4⟩ := hG.five
 have HB := Lib.hid hbG
 clear hG hbG
 go_wp2
 refine bodyPost_ret (v := .tuple #[.agg #[.int .i64 a, .int .i64 b, .int .i64 121, .int .i64 121, .int .i64 e], .bool true]) (by simp [results, Try.results179, go_sem, y0, y1, y2, y3, y4]) rfl ?_
 exact ⟨rfl, HB.out⟩
set_option maxRecDepth 100000 in
set_option maxHeartbeats 1000000 in
theorem short_no (a b c d e : Int) (w : World) (h : shK d = none) : Calls Try.prog 179 #[.agg #[.int .i64 a, .int .i64 b, .int .i64 c, .int .i64 d, .int .i64 e]] w (ShPost ⟨a, b, c, d, e⟩ false w) := by
 have n120 : (d == 120) = false := by rw [beq_eq_false_iff_ne]; rintro rfl; simp [shK] at h
 have n88 : (d == 88) = false := by rw [beq_eq_false_iff_ne]; rintro rfl; simp [shK] at h
 have n115 : (d == 115) = false := by rw [beq_eq_false_iff_ne]; rintro rfl; simp [shK] at h
 have n83 : (d == 83) = false := by rw [beq_eq_false_iff_ne]; rintro rfl; simp [shK] at h
 have n67 : (d == 67) = false := by rw [beq_eq_false_iff_ne]; rintro rfl; simp [shK] at h
 have n68 : (d == 68) = false := by rw [beq_eq_false_iff_ne]; rintro rfl; simp [shK] at h
 have n89 : (d == 89) = false := by rw [beq_eq_false_iff_ne]; rintro rfl; simp [shK] at h
 obtain ⟨hA, hR, hb0⟩ := twoC w #[.int .i64 a, .int .i64 b, .int .i64 c, .int .i64 d, .int .i64 e] #[.int .i64 0, .int .i64 0, .int .i64 0, .int .i64 0, .int .i64 0] 80 80
 go_enter Try.func179, Try.ntmps179
 go_upto_region 1 with fail
 generalize ((w.alloc (.cells #[.int .i64 a, .int .i64 b, .int .i64 c, .int .i64 d, .int .i64 e] 80)).alloc (.cells #[.int .i64 0, .int .i64 0, .int .i64 0, .int .i64 0, .int .i64 0] 80)) = w1 at *
 obtain ⟨c0, c1, c2, c3, c4⟩ := hA.five
 obtain ⟨f0, f1, f2, f3, f4⟩ := hA.fiveF
 obtain ⟨d0, d1, d2, d3, d4⟩ := hR.five
 obtain ⟨g0, g1, g2, g3, g4⟩ := hR.fiveF
 have hG := hR.set5 (.int .i64 a) (.int .i64 b) (.int .i64 c) (.int .i64 d) (.int .i64 e)
 have hbG := below_set5 (B := w.heap.size + 1) hb0 (by omega) (x0 := .int .i64 a) (x1 := .int .i64 b) (x2 := .int .i64 c) (x3 := .int .i64 d) (x4 := .int .i64 e)
 obtain ⟨y0, y1, y2, y3, y4⟩ := hG.five
 have HB := Lib.hid hbG
 clear hG hbG
 go_wp2
 refine bodyPost_ret (v := .tuple #[.agg #[.int .i64 a, .int .i64 b, .int .i64 c, .int .i64 d, .int .i64 e], .bool false]) (by simp [results, Try.results179, go_sem, y0, y1, y2, y3, y4]) rfl ?_
 exact ⟨rfl, HB.out⟩
theorem edit_short (c : C5) (w : World) : Calls Try.prog 179 #[c.v] w (ShPost (shC c) (shK c.d).isSome w) := by
 obtain ⟨a, b, o, d, e⟩ := c
 by_cases h120 : d = 120
 ·subst h120; exact short_120 a b o e w
 by_cases h88 : d = 88
 ·subst h88; exact short_88 a b o e w
 by_cases h115 : d = 115
 ·subst h115; exact short_115 a b o e w
 by_cases h83 : d = 83
 ·subst h83; exact short_83 a b o e w
 by_cases h67 : d = 67
 ·subst h67; exact short_67 a b o e w
 by_cases h68 : d = 68
 ·subst h68; exact short_68 a b o e w
 by_cases h89 : d = 89
 ·subst h89; exact short_89 a b o e w
 have hn : shK d = none := by unfold shK; rw [if_neg h120, if_neg h88, if_neg h115, if_neg h83, if_neg h67, if_neg h68, if_neg h89]
 have h1 : shC ⟨a, b, o, d, e⟩ = ⟨a, b, o, d, e⟩ := by unfold shC; simp only [hn]
 have h2 : (shK d).isSome = false := by rw [hn]; rfl
 rw [h1]; simp only [h2]
 exact short_no a b o d e w hn
set_option maxRecDepth 100000 in
set_option maxHeartbeats 1000000 in
theorem long_op (a b op d e : Int) (w : World) (h : op ≠ 0) : Calls Try.prog 142 #[.agg #[.int .i64 a, .int .i64 b, .int .i64 op, .int .i64 d, .int .i64 e]] w fun e' w' => e' = .returned (.agg #[.int .i64 a, .int .i64 b, .int .i64 op, .int .i64 d, .int .i64 e]) ∧ Below w.heap.size w w' := by
 have n0 : (op != 0) = true := by simpa using h
 obtain ⟨hA, hR, hb0⟩ := twoC w #[.int .i64 a, .int .i64 b, .int .i64 op, .int .i64 d, .int .i64 e] #[.int .i64 0, .int .i64 0, .int .i64 0, .int .i64 0, .int .i64 0] 80 80
 clear h
 go_enter Try.func142, Try.ntmps142
 go_upto_region 1 with fail
 generalize ((w.alloc (.cells #[.int .i64 a, .int .i64 b, .int .i64 op, .int .i64 d, .int .i64 e] 80)).alloc (.cells #[.int .i64 0, .int .i64 0, .int .i64 0, .int .i64 0, .int .i64 0] 80)) = w1 at *
 obtain ⟨c0, c1, c2, c3, c4⟩ := hA.five
 obtain ⟨d0, d1, d2, d3, d4⟩ := hR.five
 obtain ⟨g0, g1, g2, g3, g4⟩ := hR.fiveF
 have hG := hR.set5 (.int .i64 a) (.int .i64 b) (.int .i64 op) (.int .i64 d) (.int .i64 e)
 have hbG := below_set5 (B := w.heap.size + 1) hb0 (by omega) (x0 := .int .i64 a) (x1 := .int .i64 b) (x2 := .int .i64 op) (x3 := .int .i64 d) (x4 := .int .i64 e)
 obtain ⟨y0, y1, y2, y3, y4⟩ := hG.five
 have HB := Lib.hid hbG
 clear hG hbG
 go_wp2
 refine bodyPost_ret (v := .agg #[.int .i64 a, .int .i64 b, .int .i64 op, .int .i64 d, .int .i64 e]) (by simp [results, Try.results142, go_sem, y0, y1, y2, y3, y4]) rfl ?_
 exact ⟨rfl, HB.out⟩
set_option maxRecDepth 100000 in
set_option maxHeartbeats 40000000 in
theorem long_z (a b d e : Int) (w : World) : Calls Try.prog 142 #[.agg #[.int .i64 a, .int .i64 b, .int .i64 0, .int .i64 d, .int .i64 e]] w fun e' w' => e' = .returned (shC ⟨a, b, 0, d, e⟩).v ∧ Below w.heap.size w w' := by
 obtain ⟨cv, hcv⟩ : ∃ cv, shC ⟨a, b, 0, d, e⟩ = cv := ⟨_, rfl⟩
 rw [hcv]
 have HCV := Lib.hid hcv
 clear hcv
 obtain ⟨hA, hR, hb0⟩ := twoC w #[.int .i64 a, .int .i64 b, .int .i64 0, .int .i64 d, .int .i64 e] #[.int .i64 0, .int .i64 0, .int .i64 0, .int .i64 0, .int .i64 0] 80 80
 go_enter Try.func142, Try.ntmps142
 go_upto_region 1 with fail
 have hsz : ((w.alloc (.cells #[.int .i64 a, .int .i64 b, .int .i64 0, .int .i64 d, .int .i64 e] 80)).alloc (.cells #[.int .i64 0, .int .i64 0, .int .i64 0, .int .i64 0, .int .i64 0] 80)).heap.size = w.heap.size + 2 := by rw [World.size_alloc, World.size_alloc]
 generalize ((w.alloc (.cells #[.int .i64 a, .int .i64 b, .int .i64 0, .int .i64 d, .int .i64 e] 80)).alloc (.cells #[.int .i64 0, .int .i64 0, .int .i64 0, .int .i64 0, .int .i64 0] 80)) = w1 at *
 obtain ⟨c0, c1, c2, c3, c4⟩ := hA.five
 go_upto_region 3 with fail
 have hS := Blk.new w1 #[.string ⟨#[120, 100, 108]⟩, .string ⟨#[88, 100, 104]⟩, .string ⟨#[115, 99, 108]⟩, .string ⟨#[83, 99, 99]⟩, .string ⟨#[67, 99, 36]⟩, .string ⟨#[68, 100, 36]⟩, .string ⟨#[89, 121, 121]⟩] 9
 have hA2 := hA.alloc (.cells #[.string ⟨#[120, 100, 108]⟩, .string ⟨#[88, 100, 104]⟩, .string ⟨#[115, 99, 108]⟩, .string ⟨#[83, 99, 99]⟩, .string ⟨#[67, 99, 36]⟩, .string ⟨#[68, 100, 36]⟩, .string ⟨#[89, 121, 121]⟩] 9)
 have hR2 := hR.alloc (.cells #[.string ⟨#[120, 100, 108]⟩, .string ⟨#[88, 100, 104]⟩, .string ⟨#[115, 99, 108]⟩, .string ⟨#[83, 99, 99]⟩, .string ⟨#[67, 99, 36]⟩, .string ⟨#[68, 100, 36]⟩, .string ⟨#[89, 121, 121]⟩] 9)
 have hb2 := hb0.alloc hb0.size (.cells #[.string ⟨#[120, 100, 108]⟩, .string ⟨#[88, 100, 104]⟩, .string ⟨#[115, 99, 108]⟩, .string ⟨#[83, 99, 99]⟩, .string ⟨#[67, 99, 36]⟩, .string ⟨#[68, 100, 36]⟩, .string ⟨#[89, 121, 121]⟩] 9)
 rw [hsz] at hS
 go_upto_region 4 with fail
 clear c0 c1 c2 c3 c4 hA hR hb0
 generalize (w1.alloc (.cells #[.string ⟨#[120, 100, 108]⟩, .string ⟨#[88, 100, 104]⟩, .string ⟨#[115, 99, 108]⟩, .string ⟨#[83, 99, 99]⟩, .string ⟨#[67, 99, 36]⟩, .string ⟨#[68, 100, 36]⟩, .string ⟨#[89, 121, 121]⟩] 9)) = w2 at *
 go_loopw [11] (fun i wr => ∃ k : Nat, i = .int .i64 (k : Int) ∧ k ≤ 7 ∧ (∀ j, j < k → d ≠ ([120, 88, 115, 83, 67, 68, 89] : List Int).getD j 0) ∧ Blk wr w.heap.size #[.int .i64 a, .int .i64 b, .int .i64 0, .int .i64 d, .int .i64 e] 80 ∧ Blk wr (w.heap.size + 1) #[.int .i64 0, .int .i64 0, .int .i64 0, .int .i64 0, .int .i64 0] 80 ∧ Blk wr (w.heap.size + 2) #[.string ⟨#[120, 100, 108]⟩, .string ⟨#[88, 100, 104]⟩, .string ⟨#[115, 99, 108]⟩, .string ⟨#[83, 99, 99]⟩, .string ⟨#[67, 99, 36]⟩, .string ⟨#[68, 100, 36]⟩, .string ⟨#[89, 121, 121]⟩] 9 ∧ Below w.heap.size w wr) (fun i _ => 7 - (intOf i).toNat)
 case atStart => exact ⟨0, rfl, by omega, fun j hj => by omega, hA2, hR2, hS, hb2⟩
 case round =>
  obtain ⟨k, rfl, hk, hno, hA, hR, hS, hb⟩ := hrel
  have HNO := Lib.hid hno
  clear hno
  obtain ⟨c0, c1, c2, c3, c4⟩ := hA.five
  obtain ⟨f0, f1, f2, f3, f4⟩ := hA.fiveF
  obtain ⟨d0, d1, d2, d3, d4⟩ := hR.five
  obtain ⟨g0, g1, g2, g3, g4⟩ := hR.fiveF
  have hk7 : k = 7 ∨ k = 0 ∨ k = 1 ∨ k = 2 ∨ k = 3 ∨ k = 4 ∨ k = 5 ∨ k = 6 := by omega
  rcases hk7 with rfl | rfl | rfl | rfl | rfl | rfl | rfl | rfl
  ·have hn : shK d = none := by
    unfold shK
    rw [if_neg (show ¬ d = 120 from HNO.out 0 (by omega)), if_neg (show ¬ d = 88 from HNO.out 1 (by omega)), if_neg (show ¬ d = 115 from HNO.out 2 (by omega)), if_neg (show ¬ d = 83 from HNO.out 3 (by omega)), if_neg (show ¬ d = 67 from HNO.out 4 (by omega)), if_neg (show ¬ d = 68 from HNO.out 5 (by omega)), if_neg (show ¬ d = 89 from HNO.out 6 (by omega))]
   have HE := Lib.hid (show cv = ⟨a, b, 0, d, e⟩ by rw [← HCV.out]; unfold shC; simp only [hn])
   clear hn
   have hG := hR.set5 (.int .i64 a) (.int .i64 b) (.int .i64 0) (.int .i64 d) (.int .i64 e)
   have hbG := below_set5 (B := w.heap.size + 1) hb (by omega) (x0 := .int .i64 a) (x1 := .int .i64 b) (x2 := .int .i64 0) (x3 := .int .i64 d) (x4 := .int .i64 e)
   obtain ⟨y0, y1, y2, y3, y4⟩ := hG.five
   have HB := Lib.hid hbG
   clear hG hbG
   go_wp2
   refine bodyPost_ret (v := .agg #[.int .i64 a, .int .i64 b, .int .i64 0, .int .i64 d, .int .i64 e]) (by simp [results, Try.results142, go_sem, y0, y1, y2, y3, y4]) rfl ?_
   exact ⟨by rw [HE.out]; rfl, HB.out⟩
  ·have s0 : wr.cell? ⟨w.heap.size + 2, 0, none⟩ = some (.string ⟨#[120, 100, 108]⟩) := hS.cell 0
   have q0 : (((⟨#[120, 100, 108]⟩ : ByteArray)[0]'(by decide)).toNat : Int) = 120 := rfl
   have q1 : (((⟨#[120, 100, 108]⟩ : ByteArray)[1]'(by decide)).toNat : Int) = 100 := rfl
   have q2 : (((⟨#[120, 100, 108]⟩ : ByteArray)[2]'(by decide)).toNat : Int) = 108 := rfl
   have HW := Lib.hid (show _ ∧ _ ∧ _ ∧ _ from ⟨hA, hR, hS, hb⟩)
   go_upto_region 6 with fail
   go_cut [20] (fun v wx => v = .bool (d == 120) ∧ Blk wx w.heap.size #[.int .i64 a, .int .i64 b, .int .i64 0, .int .i64 d, .int .i64 e] 80 ∧ Blk wx (w.heap.size + 1) #[.int .i64 0, .int .i64 0, .int .i64 0, .int .i64 0, .int .i64 0] 80 ∧ Blk wx (w.heap.size + 2) #[.string ⟨#[120, 100, 108]⟩, .string ⟨#[88, 100, 104]⟩, .string ⟨#[115, 99, 108]⟩, .string ⟨#[83, 99, 99]⟩, .string ⟨#[67, 99, 36]⟩, .string ⟨#[68, 100, 36]⟩, .string ⟨#[89, 121, 121]⟩] 9 ∧ Below w.heap.size w wx)
   case first =>
    go_quiet (fail)
    go_wp2
    go_meet
    exact ⟨rfl, HW.out.1.drewN _, HW.out.2.1.drewN _, HW.out.2.2.1.drewN _, below_drewN HW.out.2.2.2 _⟩
   case rest =>
    obtain ⟨rfl, hA, hR, hS, hb⟩ := hcut
    clear HW s0
    clear c0 c1 c2 c3 c4 f0 f1 f2 f3 f4 d0 d1 d2 d3 d4 g0 g1 g2 g3 g4
    obtain ⟨c0, c1, c2, c3, c4⟩ := hA.five
    obtain ⟨f0, f1, f2, f3, f4⟩ := hA.fiveF
    obtain ⟨d0, d1, d2, d3, d4⟩ := hR.five
    obtain ⟨g0, g1, g2, g3, g4⟩ := hR.fiveF
    by_cases hd : d = 120
    ·subst hd
     have HE := Lib.hid (show cv = ⟨a, b, 100, 108, e⟩ by rw [← HCV.out]; rfl)
     rw [show ((120 : Int) == 120) = true from rfl]
     go_upto_region 7 with fail
     go_cut [29] (fun v wx => Blk wx w.heap.size #[.int .i64 a, .int .i64 b, .int .i64 100, .int .i64 108, .int .i64 e] 80 ∧ Blk wx (w.heap.size + 1) #[.int .i64 0, .int .i64 0, .int .i64 0, .int .i64 0, .int .i64 0] 80 ∧ Below w.heap.size w wx)
     case first =>
      have HF := Lib.hid (show _ ∧ _ ∧ _ from ⟨(hA.set 2 (.int .i64 100)).set 3 (.int .i64 108), (hR.other (a := ⟨w.heap.size, 2, none⟩) (show w.heap.size + 1 ≠ w.heap.size by omega) (.int .i64 100)).other (a := ⟨w.heap.size, 3, none⟩) (show w.heap.size + 1 ≠ w.heap.size by omega) (.int .i64 108), (hb.setCell (p := ⟨w.heap.size, 2, none⟩) (Nat.le_refl _) (.int .i64 100)).setCell (p := ⟨w.heap.size, 3, none⟩) (Nat.le_refl _) (.int .i64 108)⟩)
      clear hA hR hS hb HCV HE HNO
      go_region
      all_goals
       go_wp2
       go_meet
       exact ⟨HF.out.1, HF.out.2.1, HF.out.2.2.drew⟩
     case rest =>
      obtain ⟨hA, hR, hb⟩ := hcut
      clear c0 c1 c2 c3 c4 f0 f1 f2 f3 f4 d0 d1 d2 d3 d4 g0 g1 g2 g3 g4
      obtain ⟨c0, c1, c2, c3, c4⟩ := hA.five
      obtain ⟨d0, d1, d2, d3, d4⟩ := hR.five
      obtain ⟨g0, g1, g2, g3, g4⟩ := hR.fiveF
      have hG := hR.set5 (.int .i64 a) (.int .i64 b) (.int .i64 100) (.int .i64 108) (.int .i64 e)
      have hbG := below_set5 (B := w.heap.size + 1) hb (by omega) (x0 := .int .i64 a) (x1 := .int .i64 b) (x2 := .int .i64 100) (x3 := .int .i64 108) (x4 := .int .i64 e)
      obtain ⟨y0, y1, y2, y3, y4⟩ := hG.five
      have HB := Lib.hid hbG
      clear hG hbG
      go_wp2
      refine bodyPost_ret (v := .agg #[.int .i64 a, .int .i64 b, .int .i64 100, .int .i64 108, .int .i64 e]) (by simp [results, Try.results142, go_sem, y0, y1, y2, y3, y4]) rfl ?_
      exact ⟨by rw [HE.out]; rfl, HB.out⟩
    ·have n0 : (d == 120) = false := by rw [beq_eq_false_iff_ne]; exact hd
     have HD := Lib.hid hd
     clear hd
     rw [n0]
     go_wp2
     go_roundw
     case rel =>
      refine ⟨1, rfl, by omega, fun j hj => ?_, hA, hR, hS, hb⟩
      rcases Nat.lt_succ_iff_lt_or_eq.1 hj with h | rfl
      ·exact HNO.out j h
      ·exact HD.out
     case measure => simp [intOf]
  ·have s1 : wr.cell? ⟨w.heap.size + 2, 1, none⟩ = some (.string ⟨#[88, 100, 104]⟩) := hS.cell 1
   have q0 : (((⟨#[88, 100, 104]⟩ : ByteArray)[0]'(by decide)).toNat : Int) = 88 := rfl
   have q1 : (((⟨#[88, 100, 104]⟩ : ByteArray)[1]'(by decide)).toNat : Int) = 100 := rfl
   have q2 : (((⟨#[88, 100, 104]⟩ : ByteArray)[2]'(by decide)).toNat : Int) = 104 := rfl
   have HW := Lib.hid (show _ ∧ _ ∧ _ ∧ _ from ⟨hA, hR, hS, hb⟩)
   go_upto_region 6 with fail
   go_cut [20] (fun v wx => v = .bool (d == 88) ∧ Blk wx w.heap.size #[.int .i64 a, .int .i64 b, .int .i64 0, .int .i64 d, .int .i64 e] 80 ∧ Blk wx (w.heap.size + 1) #[.int .i64 0, .int .i64 0, .int .i64 0, .int .i64 0, .int .i64 0] 80 ∧ Blk wx (w.heap.size + 2) #[.string ⟨#[120, 100, 108]⟩, .string ⟨#[88, 100, 104]⟩, .string ⟨#[115, 99, 108]⟩, .string ⟨#[83, 99, 99]⟩, .string ⟨#[67, 99, 36]⟩, .string ⟨#[68, 100, 36]⟩, .string ⟨#[89, 121, 121]⟩] 9 ∧ Below w.heap.size w wx)
   case first =>
    go_quiet (fail)
    go_wp2
    go_meet
    exact ⟨rfl, HW.out.1.drewN _, HW.out.2.1.drewN _, HW.out.2.2.1.drewN _, below_drewN HW.out.2.2.2 _⟩
   case rest =>
    obtain ⟨rfl, hA, hR, hS, hb⟩ := hcut
    clear HW s1
    clear c0 c1 c2 c3 c4 f0 f1 f2 f3 f4 d0 d1 d2 d3 d4 g0 g1 g2 g3 g4
    obtain ⟨c0, c1, c2, c3, c4⟩ := hA.five
    obtain ⟨f0, f1, f2, f3, f4⟩ := hA.fiveF
    obtain ⟨d0, d1, d2, d3, d4⟩ := hR.five
    obtain ⟨g0, g1, g2, g3, g4⟩ := hR.fiveF
    by_cases hd : d = 88
    ·subst hd
     have HE := Lib.hid (show cv = ⟨a, b, 100, 104, e⟩ by rw [← HCV.out]; rfl)
     rw [show ((88 : Int) == 88) = true from rfl]
     go_upto_region 7 with fail
     go_cut [29] (fun v wx => Blk wx w.heap.size #[.int .i64 a, .int .i64 b, .int .i64 100, .int .i64 104, .int .i64 e] 80 ∧ Blk wx (w.heap.size + 1) #[.int .i64 0, .int .i64 0, .int .i64 0, .int .i64 0, .int .i64 0] 80 ∧ Below w.heap.size w wx)
     case first =>
      have HF := Lib.hid (show _ ∧ _ ∧ _ from ⟨(hA.set 2 (.int .i64 100)).set 3 (.int .i64 104), (hR.other (a := ⟨w.heap.size, 2, none⟩) (show w.heap.size + 1 ≠ w.heap.size by omega) (.int .i64 100)).other (a := ⟨w.heap.size, 3, none⟩) (show w.heap.size + 1 ≠ w.heap.size by omega) (.int .i64 104), (hb.setCell (p := ⟨w.heap.size, 2, none⟩) (Nat.le_refl _) (.int .i64 100)).setCell (p := ⟨w.heap.size, 3, none⟩) (Nat.le_refl _) (.int .i64 104)⟩)
      clear hA hR hS hb HCV HE HNO
      go_region
      all_goals
       go_wp2
       go_meet
       exact ⟨HF.out.1, HF.out.2.1, HF.out.2.2.drew⟩
     case rest =>
      obtain ⟨hA, hR, hb⟩ := hcut
      clear c0 c1 c2 c3 c4 f0 f1 f2 f3 f4 d0 d1 d2 d3 d4 g0 g1 g2 g3 g4
      obtain ⟨c0, c1, c2, c3, c4⟩ := hA.five
      obtain ⟨d0, d1, d2, d3, d4⟩ := hR.five
      obtain ⟨g0, g1, g2, g3, g4⟩ := hR.fiveF
      have hG := hR.set5 (.int .i64 a) (.int .i64 b) (.int .i64 100) (.int .i64 104) (.int .i64 e)
      have hbG := below_set5 (B := w.heap.size + 1) hb (by omega) (x0 := .int .i64 a) (x1 := .int .i64 b) (x2 := .int .i64 100) (x3 := .int .i64 104) (x4 := .int .i64 e)
      obtain ⟨y0, y1, y2, y3, y4⟩ := hG.five
      have HB := Lib.hid hbG
      clear hG hbG
      go_wp2
      refine bodyPost_ret (v := .agg #[.int .i64 a, .int .i64 b, .int .i64 100, .int .i64 104, .int .i64 e]) (by simp [results, Try.results142, go_sem, y0, y1, y2, y3, y4]) rfl ?_
      exact ⟨by rw [HE.out]; rfl, HB.out⟩
    ·have n1 : (d == 88) = false := by rw [beq_eq_false_iff_ne]; exact hd
     have HD := Lib.hid hd
     clear hd
     rw [n1]
     go_wp2
     go_roundw
     case rel =>
      refine ⟨2, rfl, by omega, fun j hj => ?_, hA, hR, hS, hb⟩
      rcases Nat.lt_succ_iff_lt_or_eq.1 hj with h | rfl
      ·exact HNO.out j h
      ·exact HD.out
     case measure => simp [intOf]
  ·have s2 : wr.cell? ⟨w.heap.size + 2, 2, none⟩ = some (.string ⟨#[115, 99, 108]⟩) := hS.cell 2
   have q0 : (((⟨#[115, 99, 108]⟩ : ByteArray)[0]'(by decide)).toNat : Int) = 115 := rfl
   have q1 : (((⟨#[115, 99, 108]⟩ : ByteArray)[1]'(by decide)).toNat : Int) = 99 := rfl
   have q2 : (((⟨#[115, 99, 108]⟩ : ByteArray)[2]'(by decide)).toNat : Int) = 108 := rfl
   have HW := Lib.hid (show _ ∧ _ ∧ _ ∧ _ from ⟨hA, hR, hS, hb⟩)
   go_upto_region 6 with fail
   go_cut [20] (fun v wx => v = .bool (d == 115) ∧ Blk wx w.heap.size #[.int .i64 a, .int .i64 b, .int .i64 0, .int .i64 d, .int .i64 e] 80 ∧ Blk wx (w.heap.size + 1) #[.int .i64 0, .int .i64 0, .int .i64 0, .int .i64 0, .int .i64 0] 80 ∧ Blk wx (w.heap.size + 2) #[.string ⟨#[120, 100, 108]⟩, .string ⟨#[88, 100, 104]⟩, .string ⟨#[115, 99, 108]⟩, .string ⟨#[83, 99, 99]⟩, .string ⟨#[67, 99, 36]⟩, .string ⟨#[68, 100, 36]⟩, .string ⟨#[89, 121, 121]⟩] 9 ∧ Below w.heap.size w wx)
   case first =>
    go_quiet (fail)
    go_wp2
    go_meet
    exact ⟨rfl, HW.out.1.drewN _, HW.out.2.1.drewN _, HW.out.2.2.1.drewN _, below_drewN HW.out.2.2.2 _⟩
   case rest =>
    obtain ⟨rfl, hA, hR, hS, hb⟩ := hcut
    clear HW s2
    clear c0 c1 c2 c3 c4 f0 f1 f2 f3 f4 d0 d1 d2 d3 d4 g0 g1 g2 g3 g4
    obtain ⟨c0, c1, c2, c3, c4⟩ := hA.five
    obtain ⟨f0, f1, f2, f3, f4⟩ := hA.fiveF
    obtain ⟨d0, d1, d2, d3, d4⟩ := hR.five
    obtain ⟨g0, g1, g2, g3, g4⟩ := hR.fiveF
    by_cases hd : d = 115
    ·subst hd
     have HE := Lib.hid (show cv = ⟨a, b, 99, 108, e⟩ by rw [← HCV.out]; rfl)
     rw [show ((115 : Int) == 115) = true from rfl]
     go_upto_region 7 with fail
     go_cut [29] (fun v wx => Blk wx w.heap.size #[.int .i64 a, .int .i64 b, .int .i64 99, .int .i64 108, .int .i64 e] 80 ∧ Blk wx (w.heap.size + 1) #[.int .i64 0, .int .i64 0, .int .i64 0, .int .i64 0, .int .i64 0] 80 ∧ Below w.heap.size w wx)
     case first =>
      have HF := Lib.hid (show _ ∧ _ ∧ _ from ⟨(hA.set 2 (.int .i64 99)).set 3 (.int .i64 108), (hR.other (a := ⟨w.heap.size, 2, none⟩) (show w.heap.size + 1 ≠ w.heap.size by omega) (.int .i64 99)).other (a := ⟨w.heap.size, 3, none⟩) (show w.heap.size + 1 ≠ w.heap.size by omega) (.int .i64 108), (hb.setCell (p := ⟨w.heap.size, 2, none⟩) (Nat.le_refl _) (.int .i64 99)).setCell (p := ⟨w.heap.size, 3, none⟩) (Nat.le_refl _) (.int .i64 108)⟩)
      clear hA hR hS hb HCV HE HNO
      go_region
      all_goals
       go_wp2
       go_meet
       exact ⟨HF.out.1, HF.out.2.1, HF.out.2.2.drew⟩
     case rest =>
      obtain ⟨hA, hR, hb⟩ := hcut
      clear c0 c1 c2 c3 c4 f0 f1 f2 f3 f4 d0 d1 d2 d3 d4 g0 g1 g2 g3 g4
      obtain ⟨c0, c1, c2, c3, c4⟩ := hA.five
      obtain ⟨d0, d1, d2, d3, d4⟩ := hR.five
      obtain ⟨g0, g1, g2, g3, g4⟩ := hR.fiveF
      have hG := hR.set5 (.int .i64 a) (.int .i64 b) (.int .i64 99) (.int .i64 108) (.int .i64 e)
      have hbG := below_set5 (B := w.heap.size + 1) hb (by omega) (x0 := .int .i64 a) (x1 := .int .i64 b) (x2 := .int .i64 99) (x3 := .int .i64 108) (x4 := .int .i64 e)
      obtain ⟨y0, y1, y2, y3, y4⟩ := hG.five
      have HB := Lib.hid hbG
      clear hG hbG
      go_wp2
      refine bodyPost_ret (v := .agg #[.int .i64 a, .int .i64 b, .int .i64 99, .int .i64 108, .int .i64 e]) (by simp [results, Try.results142, go_sem, y0, y1, y2, y3, y4]) rfl ?_
      exact ⟨by rw [HE.out]; rfl, HB.out⟩
    ·have n2 : (d == 115) = false := by rw [beq_eq_false_iff_ne]; exact hd
     have HD := Lib.hid hd
     clear hd
     rw [n2]
     go_wp2
     go_roundw
     case rel =>
      refine ⟨3, rfl, by omega, fun j hj => ?_, hA, hR, hS, hb⟩
      rcases Nat.lt_succ_iff_lt_or_eq.1 hj with h | rfl
      ·exact HNO.out j h
      ·exact HD.out
     case measure => simp [intOf]
  ·have s3 : wr.cell? ⟨w.heap.size + 2, 3, none⟩ = some (.string ⟨#[83, 99, 99]⟩) := hS.cell 3
   have q0 : (((⟨#[83, 99, 99]⟩ : ByteArray)[0]'(by decide)).toNat : Int) = 83 := rfl
   have q1 : (((⟨#[83, 99, 99]⟩ : ByteArray)[1]'(by decide)).toNat : Int) = 99 := rfl
   have q2 : (((⟨#[83, 99, 99]⟩ : ByteArray)[2]'(by decide)).toNat : Int) = 99 := rfl
   have HW := Lib.hid (show _ ∧ _ ∧ _ ∧ _ from ⟨hA, hR, hS, hb⟩)
   go_upto_region 6 with fail
   go_cut [20] (fun v wx => v = .bool (d == 83) ∧ Blk wx w.heap.size #[.int .i64 a, .int .i64 b, .int .i64 0, .int .i64 d, .int .i64 e] 80 ∧ Blk wx (w.heap.size + 1) #[.int .i64 0, .int .i64 0, .int .i64 0, .int .i64 0, .int .i64 0] 80 ∧ Blk wx (w.heap.size + 2) #[.string ⟨#[120, 100, 108]⟩, .string ⟨#[88, 100, 104]⟩, .string ⟨#[115, 99, 108]⟩, .string ⟨#[83, 99, 99]⟩, .string ⟨#[67, 99, 36]⟩, .string ⟨#[68, 100, 36]⟩, .string ⟨#[89, 121, 121]⟩] 9 ∧ Below w.heap.size w wx)
   case first =>
    go_quiet (fail)
    go_wp2
    go_meet
    exact ⟨rfl, HW.out.1.drewN _, HW.out.2.1.drewN _, HW.out.2.2.1.drewN _, below_drewN HW.out.2.2.2 _⟩
   case rest =>
    obtain ⟨rfl, hA, hR, hS, hb⟩ := hcut
    clear HW s3
    clear c0 c1 c2 c3 c4 f0 f1 f2 f3 f4 d0 d1 d2 d3 d4 g0 g1 g2 g3 g4
    obtain ⟨c0, c1, c2, c3, c4⟩ := hA.five
    obtain ⟨f0, f1, f2, f3, f4⟩ := hA.fiveF
    obtain ⟨d0, d1, d2, d3, d4⟩ := hR.five
    obtain ⟨g0, g1, g2, g3, g4⟩ := hR.fiveF
    by_cases hd : d = 83
    ·subst hd
     have HE := Lib.hid (show cv = ⟨a, b, 99, 99, e⟩ by rw [← HCV.out]; rfl)
     rw [show ((83 : Int) == 83) = true from rfl]
     go_upto_region 7 with fail
     go_cut [29] (fun v wx => Blk wx w.heap.size #[.int .i64 a, .int .i64 b, .int .i64 99, .int .i64 99, .int .i64 e] 80 ∧ Blk wx (w.heap.size + 1) #[.int .i64 0, .int .i64 0, .int .i64 0, .int .i64 0, .int .i64 0] 80 ∧ Below w.heap.size w wx)
     case first =>
      have HF := Lib.hid (show _ ∧ _ ∧ _ from ⟨(hA.set 2 (.int .i64 99)).set 3 (.int .i64 99), (hR.other (a := ⟨w.heap.size, 2, none⟩) (show w.heap.size + 1 ≠ w.heap.size by omega) (.int .i64 99)).other (a := ⟨w.heap.size, 3, none⟩) (show w.heap.size + 1 ≠ w.heap.size by omega) (.int .i64 99), (hb.setCell (p := ⟨w.heap.size, 2, none⟩) (Nat.le_refl _) (.int .i64 99)).setCell (p := ⟨w.heap.size, 3, none⟩) (Nat.le_refl _) (.int .i64 99)⟩)
      clear hA hR hS hb HCV HE HNO
      go_region
      all_goals
       go_wp2
       go_meet
       exact ⟨HF.out.1, HF.out.2.1, HF.out.2.2.drew⟩
     case rest =>
      obtain ⟨hA, hR, hb⟩ := hcut
      clear c0 c1 c2 c3 c4 f0 f1 f2 f3 f4 d0 d1 d2 d3 d4 g0 g1 g2 g3 g4
      obtain ⟨c0, c1, c2, c3, c4⟩ := hA.five
      obtain ⟨d0, d1, d2, d3, d4⟩ := hR.five
      obtain ⟨g0, g1, g2, g3, g4⟩ := hR.fiveF
      have hG := hR.set5 (.int .i64 a) (.int .i64 b) (.int .i64 99) (.int .i64 99) (.int .i64 e)
      have hbG := below_set5 (B := w.heap.size + 1) hb (by omega) (x0 := .int .i64 a) (x1 := .int .i64 b) (x2 := .int .i64 99) (x3 := .int .i64 99) (x4 := .int .i64 e)
      obtain ⟨y0, y1, y2, y3, y4⟩ := hG.five
      have HB := Lib.hid hbG
      clear hG hbG
      go_wp2
      refine bodyPost_ret (v := .agg #[.int .i64 a, .int .i64 b, .int .i64 99, .int .i64 99, .int .i64 e]) (by simp [results, Try.results142, go_sem, y0, y1, y2, y3, y4]) rfl ?_
      exact ⟨by rw [HE.out]; rfl, HB.out⟩
    ·have n3 : (d == 83) = false := by rw [beq_eq_false_iff_ne]; exact hd
     have HD := Lib.hid hd
     clear hd
     rw [n3]
     go_wp2
     go_roundw
     case rel =>
      refine ⟨4, rfl, by omega, fun j hj => ?_, hA, hR, hS, hb⟩
      rcases Nat.lt_succ_iff_lt_or_eq.1 hj with h | rfl
      ·exact HNO.out j h
      ·exact HD.out
     case measure => simp [intOf]
  ·have s4 : wr.cell? ⟨w.heap.size + 2, 4, none⟩ = some (.string ⟨#[67, 99, 36]⟩) := hS.cell 4
   have q0 : (((⟨#[67, 99, 36]⟩ : ByteArray)[0]'(by decide)).toNat : Int) = 67 := rfl
   have q1 : (((⟨#[67, 99, 36]⟩ : ByteArray)[1]'(by decide)).toNat : Int) = 99 := rfl
   have q2 : (((⟨#[67, 99, 36]⟩ : ByteArray)[2]'(by decide)).toNat : Int) = 36 := rfl
   have HW := Lib.hid (show _ ∧ _ ∧ _ ∧ _ from ⟨hA, hR, hS, hb⟩)
   go_upto_region 6 with fail
   go_cut [20] (fun v wx => v = .bool (d == 67) ∧ Blk wx w.heap.size #[.int .i64 a, .int .i64 b, .int .i64 0, .int .i64 d, .int .i64 e] 80 ∧ Blk wx (w.heap.size + 1) #[.int .i64 0, .int .i64 0, .int .i64 0, .int .i64 0, .int .i64 0] 80 ∧ Blk wx (w.heap.size + 2) #[.string ⟨#[120, 100, 108]⟩, .string ⟨#[88, 100, 104]⟩, .string ⟨#[115, 99, 108]⟩, .string ⟨#[83, 99, 99]⟩, .string ⟨#[67, 99, 36]⟩, .string ⟨#[68, 100, 36]⟩, .string ⟨#[89, 121, 121]⟩] 9 ∧ Below w.heap.size w wx)
   case first =>
    go_quiet (fail)
    go_wp2
    go_meet
    exact ⟨rfl, HW.out.1.drewN _, HW.out.2.1.drewN _, HW.out.2.2.1.drewN _, below_drewN HW.out.2.2.2 _⟩
   case rest =>
    obtain ⟨rfl, hA, hR, hS, hb⟩ := hcut
    clear HW s4
    clear c0 c1 c2 c3 c4 f0 f1 f2 f3 f4 d0 d1 d2 d3 d4 g0 g1 g2 g3 g4
    obtain ⟨c0, c1, c2, c3, c4⟩ := hA.five
    obtain ⟨f0, f1, f2, f3, f4⟩ := hA.fiveF
    obtain ⟨d0, d1, d2, d3, d4⟩ := hR.five
    obtain ⟨g0, g1, g2, g3, g4⟩ := hR.fiveF
    by_cases hd : d = 67
    ·subst hd
     have HE := Lib.hid (show cv = ⟨a, b, 99, 36, e⟩ by rw [← HCV.out]; rfl)
     rw [show ((67 : Int) == 67) = true from rfl]
     go_upto_region 7 with fail
     go_cut [29] (fun v wx => Blk wx w.heap.size #[.int .i64 a, .int .i64 b, .int .i64 99, .int .i64 36, .int .i64 e] 80 ∧ Blk wx (w.heap.size + 1) #[.int .i64 0, .int .i64 0, .int .i64 0, .int .i64 0, .int .i64 0] 80 ∧ Below w.heap.size w wx)
     case first =>
      have HF := Lib.hid (show _ ∧ _ ∧ _ from ⟨(hA.set 2 (.int .i64 99)).set 3 (.int .i64 36), (hR.other (a := ⟨w.heap.size, 2, none⟩) (show w.heap.size + 1 ≠ w.heap.size by omega) (.int .i64 99)).other (a := ⟨w.heap.size, 3, none⟩) (show w.heap.size + 1 ≠ w.heap.size by omega) (.int .i64 36), (hb.setCell (p := ⟨w.heap.size, 2, none⟩) (Nat.le_refl _) (.int .i64 99)).setCell (p := ⟨w.heap.size, 3, none⟩) (Nat.le_refl _) (.int .i64 36)⟩)
      clear hA hR hS hb HCV HE HNO
      go_region
      all_goals
       go_wp2
       go_meet
       exact ⟨HF.out.1, HF.out.2.1, HF.out.2.2.drew⟩
     case rest =>
      obtain ⟨hA, hR, hb⟩ := hcut
      clear c0 c1 c2 c3 c4 f0 f1 f2 f3 f4 d0 d1 d2 d3 d4 g0 g1 g2 g3 g4
      obtain ⟨c0, c1, c2, c3, c4⟩ := hA.five
      obtain ⟨d0, d1, d2, d3, d4⟩ := hR.five
      obtain ⟨g0, g1, g2, g3, g4⟩ := hR.fiveF
      have hG := hR.set5 (.int .i64 a) (.int .i64 b) (.int .i64 99) (.int .i64 36) (.int .i64 e)
      have hbG := below_set5 (B := w.heap.size + 1) hb (by omega) (x0 := .int .i64 a) (x1 := .int .i64 b) (x2 := .int .i64 99) (x3 := .int .i64 36) (x4 := .int .i64 e)
      obtain ⟨y0, y1, y2, y3, y4⟩ := hG.five
      have HB := Lib.hid hbG
      clear hG hbG
      go_wp2
      refine bodyPost_ret (v := .agg #[.int .i64 a, .int .i64 b, .int .i64 99, .int .i64 36, .int .i64 e]) (by simp [results, Try.results142, go_sem, y0, y1, y2, y3, y4]) rfl ?_
      exact ⟨by rw [HE.out]; rfl, HB.out⟩
    ·have n4 : (d == 67) = false := by rw [beq_eq_false_iff_ne]; exact hd
     have HD := Lib.hid hd
     clear hd
     rw [n4]
     go_wp2
     go_roundw
     case rel =>
      refine ⟨5, rfl, by omega, fun j hj => ?_, hA, hR, hS, hb⟩
      rcases Nat.lt_succ_iff_lt_or_eq.1 hj with h | rfl
      ·exact HNO.out j h
      ·exact HD.out
     case measure => simp [intOf]
  ·have s5 : wr.cell? ⟨w.heap.size + 2, 5, none⟩ = some (.string ⟨#[68, 100, 36]⟩) := hS.cell 5
   have q0 : (((⟨#[68, 100, 36]⟩ : ByteArray)[0]'(by decide)).toNat : Int) = 68 := rfl
   have q1 : (((⟨#[68, 100, 36]⟩ : ByteArray)[1]'(by decide)).toNat : Int) = 100 := rfl
   have q2 : (((⟨#[68, 100, 36]⟩ : ByteArray)[2]'(by decide)).toNat : Int) = 36 := rfl
   have HW := Lib.hid (show _ ∧ _ ∧ _ ∧ _ from ⟨hA, hR, hS, hb⟩)
   go_upto_region 6 with fail
   go_cut [20] (fun v wx => v = .bool (d == 68) ∧ Blk wx w.heap.size #[.int .i64 a, .int .i64 b, .int .i64 0, .int .i64 d, .int .i64 e] 80 ∧ Blk wx (w.heap.size + 1) #[.int .i64 0, .int .i64 0, .int .i64 0, .int .i64 0, .int .i64 0] 80 ∧ Blk wx (w.heap.size + 2) #[.string ⟨#[120, 100, 108]⟩, .string ⟨#[88, 100, 104]⟩, .string ⟨#[115, 99, 108]⟩, .string ⟨#[83, 99, 99]⟩, .string ⟨#[67, 99, 36]⟩, .string ⟨#[68, 100, 36]⟩, .string ⟨#[89, 121, 121]⟩] 9 ∧ Below w.heap.size w wx)
   case first =>
    go_quiet (fail)
    go_wp2
    go_meet
    exact ⟨rfl, HW.out.1.drewN _, HW.out.2.1.drewN _, HW.out.2.2.1.drewN _, below_drewN HW.out.2.2.2 _⟩
   case rest =>
    obtain ⟨rfl, hA, hR, hS, hb⟩ := hcut
    clear HW s5
    clear c0 c1 c2 c3 c4 f0 f1 f2 f3 f4 d0 d1 d2 d3 d4 g0 g1 g2 g3 g4
    obtain ⟨c0, c1, c2, c3, c4⟩ := hA.five
    obtain ⟨f0, f1, f2, f3, f4⟩ := hA.fiveF
    obtain ⟨d0, d1, d2, d3, d4⟩ := hR.five
    obtain ⟨g0, g1, g2, g3, g4⟩ := hR.fiveF
    by_cases hd : d = 68
    ·subst hd
     have HE := Lib.hid (show cv = ⟨a, b, 100, 36, e⟩ by rw [← HCV.out]; rfl)
     rw [show ((68 : Int) == 68) = true from rfl]
     go_upto_region 7 with fail
     go_cut [29] (fun v wx => Blk wx w.heap.size #[.int .i64 a, .int .i64 b, .int .i64 100, .int .i64 36, .int .i64 e] 80 ∧ Blk wx (w.heap.size + 1) #[.int .i64 0, .int .i64 0, .int .i64 0, .int .i64 0, .int .i64 0] 80 ∧ Below w.heap.size w wx)
     case first =>
      have HF := Lib.hid (show _ ∧ _ ∧ _ from ⟨(hA.set 2 (.int .i64 100)).set 3 (.int .i64 36), (hR.other (a := ⟨w.heap.size, 2, none⟩) (show w.heap.size + 1 ≠ w.heap.size by omega) (.int .i64 100)).other (a := ⟨w.heap.size, 3, none⟩) (show w.heap.size + 1 ≠ w.heap.size by omega) (.int .i64 36), (hb.setCell (p := ⟨w.heap.size, 2, none⟩) (Nat.le_refl _) (.int .i64 100)).setCell (p := ⟨w.heap.size, 3, none⟩) (Nat.le_refl _) (.int .i64 36)⟩)
      clear hA hR hS hb HCV HE HNO
      go_region
      all_goals
       go_wp2
       go_meet
       exact ⟨HF.out.1, HF.out.2.1, HF.out.2.2.drew⟩
     case rest =>
      obtain ⟨hA, hR, hb⟩ := hcut
      clear c0 c1 c2 c3 c4 f0 f1 f2 f3 f4 d0 d1 d2 d3 d4 g0 g1 g2 g3 g4
      obtain ⟨c0, c1, c2, c3, c4⟩ := hA.five
      obtain ⟨d0, d1, d2, d3, d4⟩ := hR.five
      obtain ⟨g0, g1, g2, g3, g4⟩ := hR.fiveF
      have hG := hR.set5 (.int .i64 a) (.int .i64 b) (.int .i64 100) (.int .i64 36) (.int .i64 e)
      have hbG := below_set5 (B := w.heap.size + 1) hb (by omega) (x0 := .int .i64 a) (x1 := .int .i64 b) (x2 := .int .i64 100) (x3 := .int .i64 36) (x4 := .int .i64 e)
      obtain ⟨y0, y1, y2, y3, y4⟩ := hG.five
      have HB := Lib.hid hbG
      clear hG hbG
      go_wp2
      refine bodyPost_ret (v := .agg #[.int .i64 a, .int .i64 b, .int .i64 100, .int .i64 36, .int .i64 e]) (by simp [results, Try.results142, go_sem, y0, y1, y2, y3, y4]) rfl ?_
      exact ⟨by rw [HE.out]; rfl, HB.out⟩
    ·have n5 : (d == 68) = false := by rw [beq_eq_false_iff_ne]; exact hd
     have HD := Lib.hid hd
     clear hd
     rw [n5]
     go_wp2
     go_roundw
     case rel =>
      refine ⟨6, rfl, by omega, fun j hj => ?_, hA, hR, hS, hb⟩
      rcases Nat.lt_succ_iff_lt_or_eq.1 hj with h | rfl
      ·exact HNO.out j h
      ·exact HD.out
     case measure => simp [intOf]
  ·have s6 : wr.cell? ⟨w.heap.size + 2, 6, none⟩ = some (.string ⟨#[89, 121, 121]⟩) := hS.cell 6
   have q0 : (((⟨#[89, 121, 121]⟩ : ByteArray)[0]'(by decide)).toNat : Int) = 89 := rfl
   have q1 : (((⟨#[89, 121, 121]⟩ : ByteArray)[1]'(by decide)).toNat : Int) = 121 := rfl
   have q2 : (((⟨#[89, 121, 121]⟩ : ByteArray)[2]'(by decide)).toNat : Int) = 121 := rfl
   have HW := Lib.hid (show _ ∧ _ ∧ _ ∧ _ from ⟨hA, hR, hS, hb⟩)
   go_upto_region 6 with fail
   go_cut [20] (fun v wx => v = .bool (d == 89) ∧ Blk wx w.heap.size #[.int .i64 a, .int .i64 b, .int .i64 0, .int .i64 d, .int .i64 e] 80 ∧ Blk wx (w.heap.size + 1) #[.int .i64 0, .int .i64 0, .int .i64 0, .int .i64 0, .int .i64 0] 80 ∧ Blk wx (w.heap.size + 2) #[.string ⟨#[120, 100, 108]⟩, .string ⟨#[88, 100, 104]⟩, .string ⟨#[115, 99, 108]⟩, .string ⟨#[83, 99, 99]⟩, .string ⟨#[67, 99, 36]⟩, .string ⟨#[68, 100, 36]⟩, .string ⟨#[89, 121, 121]⟩] 9 ∧ Below w.heap.size w wx)
   case first =>
    go_quiet (fail)
    go_wp2
    go_meet
    exact ⟨rfl, HW.out.1.drewN _, HW.out.2.1.drewN _, HW.out.2.2.1.drewN _, below_drewN HW.out.2.2.2 _⟩
   case rest =>
    obtain ⟨rfl, hA, hR, hS, hb⟩ := hcut
    clear HW s6
    clear c0 c1 c2 c3 c4 f0 f1 f2 f3 f4 d0 d1 d2 d3 d4 g0 g1 g2 g3 g4
    obtain ⟨c0, c1, c2, c3, c4⟩ := hA.five
    obtain ⟨f0, f1, f2, f3, f4⟩ := hA.fiveF
    obtain ⟨d0, d1, d2, d3, d4⟩ := hR.five
    obtain ⟨g0, g1, g2, g3, g4⟩ := hR.fiveF
    by_cases hd : d = 89
    ·subst hd
     have HE := Lib.hid (show cv = ⟨a, b, 121, 121, e⟩ by rw [← HCV.out]; rfl)
     rw [show ((89 : Int) == 89) = true from rfl]
     go_upto_region 7 with fail
     go_cut [29] (fun v wx => Blk wx w.heap.size #[.int .i64 a, .int .i64 b, .int .i64 121, .int .i64 121, .int .i64 e] 80 ∧ Blk wx (w.heap.size + 1) #[.int .i64 0, .int .i64 0, .int .i64 0, .int .i64 0, .int .i64 0] 80 ∧ Below w.heap.size w wx)
     case first =>
      have HF := Lib.hid (show _ ∧ _ ∧ _ from ⟨(hA.set 2 (.int .i64 121)).set 3 (.int .i64 121), (hR.other (a := ⟨w.heap.size, 2, none⟩) (show w.heap.size + 1 ≠ w.heap.size by omega) (.int .i64 121)).other (a := ⟨w.heap.size, 3, none⟩) (show w.heap.size + 1 ≠ w.heap.size by omega) (.int .i64 121), (hb.setCell (p := ⟨w.heap.size, 2, none⟩) (Nat.le_refl _) (.int .i64 121)).setCell (p := ⟨w.heap.size, 3, none⟩) (Nat.le_refl _) (.int .i64 121)⟩)
      clear hA hR hS hb HCV HE HNO
      go_region
      all_goals
       go_wp2
       go_meet
       exact ⟨HF.out.1, HF.out.2.1, HF.out.2.2.drew⟩
     case rest =>
      obtain ⟨hA, hR, hb⟩ := hcut
      clear c0 c1 c2 c3 c4 f0 f1 f2 f3 f4 d0 d1 d2 d3 d4 g0 g1 g2 g3 g4
      obtain ⟨c0, c1, c2, c3, c4⟩ := hA.five
      obtain ⟨d0, d1, d2, d3, d4⟩ := hR.five
      obtain ⟨g0, g1, g2, g3, g4⟩ := hR.fiveF
      have hG := hR.set5 (.int .i64 a) (.int .i64 b) (.int .i64 121) (.int .i64 121) (.int .i64 e)
      have hbG := below_set5 (B := w.heap.size + 1) hb (by omega) (x0 := .int .i64 a) (x1 := .int .i64 b) (x2 := .int .i64 121) (x3 := .int .i64 121) (x4 := .int .i64 e)
      obtain ⟨y0, y1, y2, y3, y4⟩ := hG.five
      have HB := Lib.hid hbG
      clear hG hbG
      go_wp2
      refine bodyPost_ret (v := .agg #[.int .i64 a, .int .i64 b, .int .i64 121, .int .i64 121, .int .i64 e]) (by simp [results, Try.results142, go_sem, y0, y1, y2, y3, y4]) rfl ?_
      exact ⟨by rw [HE.out]; rfl, HB.out⟩
    ·have n6 : (d == 89) = false := by rw [beq_eq_false_iff_ne]; exact hd
     have HD := Lib.hid hd
     clear hd
     rw [n6]
     go_wp2
     go_roundw
     case rel =>
      refine ⟨7, rfl, by omega, fun j hj => ?_, hA, hR, hS, hb⟩
      rcases Nat.lt_succ_iff_lt_or_eq.1 hj with h | rfl
      ·exact HNO.out j h
      ·exact HD.out
     case measure => simp [intOf]
theorem ref_long (c : C5) (w : World) : Calls Try.prog 142 #[c.v] w fun e' w' => e' = .returned (lgC c).v ∧ Below w.heap.size w w' := by
 obtain ⟨a, b, op, d, e⟩ := c
 by_cases h : op = 0
 ·subst h
  rw [show lgC ⟨a, b, 0, d, e⟩ = shC ⟨a, b, 0, d, e⟩ by unfold lgC; rw [if_neg (by simp)]]
  exact long_z a b d e w
 ·rw [show lgC ⟨a, b, op, d, e⟩ = ⟨a, b, op, d, e⟩ by unfold lgC; rw [if_pos h]]
  exact long_op a b op d e w h
end Go.Proofs.Ytmipnikhgihcpaa
