/- Contracts of fairref.begins, ends, Next, Back, End. -/
import Derived.Test.YtbgbcmfgncneiaaWord3
namespace Go.Proofs.Ytbgbcmfgncneiaa
open Go.RowKit
set_option linter.unusedVariables false
set_option linter.unusedSimpArgs false

def beginsB (l : List Int) (big : Bool) (i : Int) : Bool := kAt l big i != 0 && (i == 0 || kAt l big (i - 1) != kAt l big i)
def endsB (l : List Int) (big : Bool) (i : Int) : Bool := kAt l big i != 0 && kAt l big (i + 1) != kAt l big i
theorem beginsB_iff (l : List Int) (big : Bool) (i : Int) : beginsB l big i = true ↔ Begins l big i := by simp [beginsB, Begins]
theorem endsB_iff (l : List Int) (big : Bool) (i : Int) : endsB l big i = true ↔ Ends l big i := by simp [endsB, Ends]

theorem ref_begins (a : Option Addr) (n c : Nat) (l : List Int) (big : Bool) (k : Nat) (w : World) (hl : Ints w a l) (hn : l.length = n) (hn2 : n ≤ 4096) (hk : k < n) :
    Calls Try.prog 177 #[.slice a n c, .int .i64 k, .bool big] w fun e w' => e = .returned (.bool (beginsB l big k)) ∧ w = w' := by
  obtain ⟨b1, o1, rfl, hc⟩ := hl.at (k := k) (by omega)
  have e1 := hc k (by omega)
  have i1 : (k : Int) < (n : Int) := by omega
  have q1 := kAt_in (l := l) (big := big) (k := k) (by omega) (by omega)
  simp only [Int.toNat_natCast] at q1
  by_cases hz : kindS (ix l k) big = 0
  · have HB : beginsB l big k = false := by unfold beginsB; rw [q1, hz]; simp
    rw [HB]
    have HZ := Lib.hid hz; clear hz HB q1 hc hl hn
    go_enter Try.func177, Try.ntmps177
    go_wp2_with fail
    refine (ref_kindOf _ _ _).mono ?_
    rintro e w' ⟨rfl, rfl⟩
    rw [HZ.out]
    go_wp2
    go_ret
    exact ⟨rfl, rfl⟩
  · have hzb : (kindS (ix l k) big != 0) = true := by simpa using hz
    by_cases h0 : k = 0
    · subst h0
      simp only [Nat.add_zero] at e1
      have HB : beginsB l big ((0 : Nat) : Int) = true := by unfold beginsB; rw [q1]; simpa using hz
      rw [HB]
      have HZ := Lib.hid hz; clear hz HB q1 hc hl hn
      go_enter Try.func177, Try.ntmps177
      go_wp2_with fail
      refine (ref_kindOf _ _ _).mono ?_
      rintro e w' ⟨rfl, rfl⟩
      go_wp2
      go_ret
      exact ⟨rfl, rfl⟩
    · have e2 := hc (k - 1) (by omega)
      obtain ⟨j, rfl⟩ : ∃ j, k = j + 1 := ⟨k - 1, by omega⟩
      have q2 := kAt_in (l := l) (big := big) (k := j) (by omega) (by omega)
      simp only [Int.toNat_natCast] at q2
      simp only [Nat.add_sub_cancel] at e2
      have i2 : (j : Int) < (n : Int) := by omega
      have HB : beginsB l big ((j + 1 : Nat) : Int) = (kindS (ix l j) big != kindS (ix l (j + 1)) big) := by
        unfold beginsB
        rw [q1, show (((j + 1 : Nat) : Int) - 1) = (j : Int) from by omega, q2, hzb, Bool.true_and, beq_eq_false_iff_ne.2 (by omega), Bool.false_or]
      rw [HB]
      have HZ := Lib.hid hz; clear hz HB q1 q2 hc hl hn h0
      go_enter Try.func177, Try.ntmps177
      go_wp2_with fail
      refine (ref_kindOf _ _ _).mono ?_
      rintro e w' ⟨rfl, rfl⟩
      go_wp2_with fail
      refine (ref_kindOf _ _ _).mono ?_
      rintro e w' ⟨rfl, rfl⟩
      go_wp2
      go_ret
      exact ⟨rfl, rfl⟩

theorem ref_ends (a : Option Addr) (n c : Nat) (l : List Int) (big : Bool) (k : Nat) (w : World) (hl : Ints w a l) (hn : l.length = n) (hn2 : n ≤ 4096) (hk : k < n) :
    Calls Try.prog 178 #[.slice a n c, .int .i64 k, .bool big] w fun e w' => e = .returned (.bool (endsB l big k)) ∧ w = w' := by
  obtain ⟨b1, o1, rfl, hc⟩ := hl.at (k := k) (by omega)
  have e1 := hc k (by omega)
  have i1 : (k : Int) < (n : Int) := by omega
  have q1 := kAt_in (l := l) (big := big) (k := k) (by omega) (by omega)
  simp only [Int.toNat_natCast] at q1
  by_cases hz : kindS (ix l k) big = 0
  · have HB : endsB l big k = false := by unfold endsB; rw [q1, hz]; simp
    rw [HB]
    have HZ := Lib.hid hz; clear hz HB q1 hc hl hn
    go_enter Try.func178, Try.ntmps178
    go_wp2_with fail
    refine (ref_kindOf _ _ _).mono ?_
    rintro e w' ⟨rfl, rfl⟩
    rw [HZ.out]
    go_wp2
    go_ret
    exact ⟨rfl, rfl⟩
  · have hzb : (kindS (ix l k) big != 0) = true := by simpa using hz
    have hge := (kindS_range (ix l k) big).1
    by_cases h0 : k + 1 = n
    · have HB : endsB l big k = true := by
        unfold endsB; rw [q1, hzb, kAt_out (.inr (by omega))]; simp; omega
      rw [HB]
      have hlast : ((k : Int) == (n : Int) - 1) = true := by simp; omega
      have HZ := Lib.hid hz; have H0 := Lib.hid h0; clear hz HB q1 hc hl hn h0
      go_enter Try.func178, Try.ntmps178
      go_wp2_with fail
      refine (ref_kindOf _ _ _).mono ?_
      rintro e w' ⟨rfl, rfl⟩
      go_wp2
      go_ret
      exact ⟨rfl, rfl⟩
    · have e2 := hc (k + 1) (by omega)
      have q2 := kAt_in (l := l) (big := big) (k := (k : Int) + 1) (by omega) (by omega)
      rw [show (((k : Int) + 1).toNat) = k + 1 from by omega] at q2
      have i2 : (k : Int) + 1 < (n : Int) := by omega
      have hlast : ((k : Int) == (n : Int) - 1) = false := by simp; omega
      have HB : endsB l big k = (kindS (ix l (k + 1)) big != kindS (ix l k) big) := by
        unfold endsB
        rw [q1, q2, hzb, Bool.true_and]
      rw [HB]
      have HZ := Lib.hid hz; clear hz HB q1 q2 hc hl hn h0
      go_enter Try.func178, Try.ntmps178
      go_wp2_with fail
      refine (ref_kindOf _ _ _).mono ?_
      rintro e w' ⟨rfl, rfl⟩
      go_wp2_with fail
      refine (ref_kindOf _ _ _).mono ?_
      rintro e w' ⟨rfl, rfl⟩
      go_wp2
      go_ret
      exact ⟨rfl, rfl⟩

def RefPost (P : Int → Prop) (w : World) (e : Ending) (w' : World) : Prop := ∃ r : Int, e = .returned (.int .i64 r) ∧ P r ∧ w = w'

theorem ref_next (a : Option Addr) (n c : Nat) (l : List Int) (big : Bool) (k : Int) (w : World) (hl : Ints w a l) (hn : l.length = n) (hn2 : n ≤ 4096) (hk0 : 0 ≤ k) (hk1 : k ≤ n) :
    Calls Try.prog 150 #[.slice a n c, .int .i64 k, .bool big] w (RefPost (RefNext l big k) w) := by
  have HN := Lib.hid hn; clear hn
  obtain ⟨k, rfl⟩ := Int.eq_ofNat_of_zero_le hk0
  go_enter Try.func150, Try.ntmps150
  go_wp2
  go_loop [7] (fun v => ∃ j : Nat, v = .int .i64 ((j : Nat) : Int) ∧ k + 1 ≤ j ∧ (j ≤ n ∨ j = k + 1) ∧ ∀ i : Int, k < i → i < j → i < l.length → ¬ Begins l big i) (fun v => (n - intOf v).toNat)
  case atStart => exact ⟨k + 1, by simp, by omega, by omega, fun i h1 h2 => by omega⟩
  case round =>
    obtain ⟨j, rfl, hj, hj2, hno⟩ := hrel
    have HO := Lib.hid hno; clear hno
    by_cases hlt : j < n
    · go_wp2_with fail
      refine (ref_begins a n c l big j w hl HN.out hn2 hlt).mono ?_
      rintro e w' ⟨rfl, rfl⟩
      by_cases hb : beginsB l big j = true
      · have HB := Lib.hid ((beginsB_iff l big j).1 hb)
        rw [hb]; clear hb
        go_wp2
        go_ret
        exact ⟨_, rfl, ⟨.inl ⟨by omega, by rw [HN.out]; omega, HB.out⟩, HO.out⟩, rfl⟩
      · have HB := Lib.hid (mt (beginsB_iff l big j).2 hb)
        rw [Bool.not_eq_true] at hb
        rw [hb]; clear hb
        go_wp2
        go_round
        case rel => exact ⟨j + 1, by go_num, by omega, by omega, fun i h1 h2 h3 => by
          rcases Int.lt_or_le i j with h | h
          · exact HO.out i h1 h h3
          · rw [show i = j from by omega]; exact HB.out⟩
        case measure => simp [intOf]; omega
    · go_wp2
      go_ret
      exact ⟨_, rfl, ⟨.inr (by rw [HN.out]), fun i h1 h2 h3 => HO.out i h1 (by omega) h3⟩, rfl⟩

theorem ref_back (a : Option Addr) (n c : Nat) (l : List Int) (big : Bool) (k : Int) (w : World) (hl : Ints w a l) (hn : l.length = n) (hn2 : n ≤ 4096) (hk0 : 0 ≤ k) (hk1 : k ≤ n) :
    Calls Try.prog 148 #[.slice a n c, .int .i64 k, .bool big] w (RefPost (RefBack l big k) w) := by
  have HN := Lib.hid hn; clear hn
  go_enter Try.func148, Try.ntmps148
  go_wp2
  go_loop [7] (fun v => ∃ j : Int, v = .int .i64 j ∧ j ≤ k - 1 ∧ -1 ≤ j ∧ ∀ i : Int, j < i → i < k → 0 < i → ¬ Begins l big i) (fun v => (intOf v).toNat)
  case atStart => exact ⟨k - 1, rfl, by omega, by omega, fun i h1 h2 => by omega⟩
  case round =>
    obtain ⟨j, rfl, hj, hj2, hno⟩ := hrel
    have HO := Lib.hid hno; clear hno
    by_cases hlt : 0 < j
    · obtain ⟨m, rfl⟩ := Int.eq_ofNat_of_zero_le (show 0 ≤ j by omega)
      go_wp2_with fail
      refine (ref_begins a n c l big m w hl HN.out hn2 (by omega)).mono ?_
      rintro e w' ⟨rfl, rfl⟩
      by_cases hb : beginsB l big m = true
      · have HB := Lib.hid ((beginsB_iff l big m).1 hb)
        rw [hb]; clear hb
        go_wp2
        go_ret
        exact ⟨_, rfl, ⟨.inl ⟨by omega, by omega, HB.out⟩, HO.out⟩, rfl⟩
      · have HB := Lib.hid (mt (beginsB_iff l big m).2 hb)
        rw [Bool.not_eq_true] at hb
        rw [hb]; clear hb
        go_wp2
        go_round
        case rel => exact ⟨(m : Int) - 1, rfl, by omega, by omega, fun i h1 h2 h3 => by
          rcases Int.lt_or_le m i with h | h
          · exact HO.out i h h2 h3
          · rw [show i = m from by omega]; exact HB.out⟩
        case measure => simp [intOf]; omega
    · go_wp2
      go_ret
      exact ⟨_, rfl, ⟨.inr rfl, fun i h1 h2 h3 => HO.out i (by omega) h2 h3⟩, rfl⟩

theorem ref_end (a : Option Addr) (n c : Nat) (l : List Int) (big : Bool) (k : Int) (w : World) (hl : Ints w a l) (hn : l.length = n) (hn2 : n ≤ 4096) (hk0 : 0 ≤ k) (hk1 : k ≤ n) :
    Calls Try.prog 152 #[.slice a n c, .int .i64 k, .bool big] w (RefPost (RefEnd l big k) w) := by
  have HN := Lib.hid hn; clear hn
  obtain ⟨k, rfl⟩ := Int.eq_ofNat_of_zero_le hk0
  go_enter Try.func152, Try.ntmps152
  go_wp2
  go_loop [7] (fun v => ∃ j : Nat, v = .int .i64 ((j : Nat) : Int) ∧ k + 1 ≤ j ∧ (j ≤ n ∨ j = k + 1) ∧ ∀ i : Int, k < i → i < j → i < l.length → ¬ Ends l big i) (fun v => (n - intOf v).toNat)
  case atStart => exact ⟨k + 1, by simp, by omega, by omega, fun i h1 h2 => by omega⟩
  case round =>
    obtain ⟨j, rfl, hj, hj2, hno⟩ := hrel
    have HO := Lib.hid hno; clear hno
    by_cases hlt : j < n
    · go_wp2_with fail
      refine (ref_ends a n c l big j w hl HN.out hn2 hlt).mono ?_
      rintro e w' ⟨rfl, rfl⟩
      by_cases hb : endsB l big j = true
      · have HB := Lib.hid ((endsB_iff l big j).1 hb)
        rw [hb]; clear hb
        go_wp2
        go_ret
        exact ⟨_, rfl, .inl ⟨by omega, by rw [HN.out]; omega, HB.out, fun i h1 h2 => HO.out i h1 h2 (by rw [HN.out]; omega)⟩, rfl⟩
      · have HB := Lib.hid (mt (endsB_iff l big j).2 hb)
        rw [Bool.not_eq_true] at hb
        rw [hb]; clear hb
        go_wp2
        go_round
        case rel => exact ⟨j + 1, by go_num, by omega, by omega, fun i h1 h2 h3 => by
          rcases Int.lt_or_le i j with h | h
          · exact HO.out i h1 h h3
          · rw [show i = j from by omega]; exact HB.out⟩
        case measure => simp [intOf]; omega
    · go_wp2
      all_goals
        go_ret
        exact ⟨max 0 ((n : Int) - 1), ret1_int (by omega), .inr ⟨by rw [HN.out], fun i h1 h2 => HO.out i h1 (by rw [HN.out] at h2; omega) h2⟩, rfl⟩

end Go.Proofs.Ytbgbcmfgncneiaa
