/- Contracts of word.Next, Back, End at right arguments and at wrong ones. -/
import Derived.Test.YtbgbcmfgncneiaaWord2
import Derived.Deep.RegionHeld3
namespace Go.Proofs.Ytbgbcmfgncneiaa
open Go.RowKit
set_option linter.unusedVariables false
set_option linter.unusedSimpArgs false

def IntErr (P : Int → Prop) (w : World) (e : Ending) (w' : World) : Prop := ∃ r : Int, e = .returned (.tuple #[.int .i64 r, .int .i64 0]) ∧ P r ∧ Below w.heap.size w w'

theorem wordErr_ok {n : Nat} {k : Int} (h : n ≤ 4096) (h0 : 0 ≤ k) (h1 : k ≤ n) : wordErr n k = 0 := by
  unfold wordErr; rw [if_neg (by omega), if_neg (by omega)]
theorem word_right_ok (a : Option Addr) (n c : Nat) (k : Int) (w : World) (h : n ≤ 4096) (h0 : 0 ≤ k) (h1 : k ≤ n) :
    Calls Try.prog 185 #[.slice a n c, .int .i64 k] w fun e w' => e = .returned (.int .i64 0) ∧ w = w' := by
  have := word_right a n c k w
  rwa [wordErr_ok h h0 h1] at this

theorem word_next_bad (a : Option Addr) (n c : Nat) (big : Bool) (k err : Int) (w : World) (he : wordErr n k = err) (h0 : err ≠ 0) :
    Calls Try.prog 188 #[.slice a n c, .int .i64 k, .bool big] w fun e w' => e = .returned (.tuple #[.int .i64 0, .int .i64 err]) ∧ w = w' := by
  have HE := Lib.hid he; clear he
  have hne : (err != 0) = true := by simpa using h0
  clear h0
  go_enter Try.func188, Try.ntmps188
  go_wp2_with fail
  refine (word_right a n c k w).mono ?_
  rintro e w' ⟨rfl, rfl⟩
  rw [HE.out]
  go_wp2
  go_ret2
  exact ⟨rfl, rfl⟩

theorem word_back_bad (a : Option Addr) (n c : Nat) (big : Bool) (k err : Int) (w : World) (he : wordErr n k = err) (h0 : err ≠ 0) :
    Calls Try.prog 173 #[.slice a n c, .int .i64 k, .bool big] w fun e w' => e = .returned (.tuple #[.int .i64 0, .int .i64 err]) ∧ w = w' := by
  have HE := Lib.hid he; clear he
  have hne : (err != 0) = true := by simpa using h0
  clear h0
  go_enter Try.func173, Try.ntmps173
  go_wp2_with fail
  refine (word_right a n c k w).mono ?_
  rintro e w' ⟨rfl, rfl⟩
  rw [HE.out]
  go_wp2
  go_ret2
  exact ⟨rfl, rfl⟩

theorem word_end_bad (a : Option Addr) (n c : Nat) (big : Bool) (k err : Int) (w : World) (he : wordErr n k = err) (h0 : err ≠ 0) :
    Calls Try.prog 189 #[.slice a n c, .int .i64 k, .bool big] w fun e w' => e = .returned (.tuple #[.int .i64 0, .int .i64 err]) ∧ w = w' := by
  have HE := Lib.hid he; clear he
  have hne : (err != 0) = true := by simpa using h0
  clear h0
  go_enter Try.func189, Try.ntmps189
  go_wp2_with fail
  refine (word_right a n c k w).mono ?_
  rintro e w' ⟨rfl, rfl⟩
  rw [HE.out]
  go_wp2
  go_ret2
  exact ⟨rfl, rfl⟩

theorem kAt_le2 (l : List Int) (big : Bool) (k : Int) : -1 ≤ kAt l big k ∧ kAt l big k ≤ 2 := by
  unfold kAt; split
  · omega
  · have := kindS_range (ix l k.toNat) big; omega

set_option maxRecDepth 100000 in
theorem word_next_ok (a : Option Addr) (n c : Nat) (l : List Int) (big : Bool) (k : Int) (w : World) (hl : Ints w a l) (hn : l.length = n) (hn2 : n ≤ 4096) (hk0 : 0 ≤ k) (hk1 : k ≤ n) :
    Calls Try.prog 188 #[.slice a n c, .int .i64 k, .bool big] w (IntErr (WordNext l big k) w) := by
  have HN := Lib.hid hn; clear hn
  go_enter Try.func188, Try.ntmps188
  go_wp2_with fail
  refine (word_right_ok a n c k w hn2 hk0 hk1).mono ?_
  rintro e w' ⟨rfl, rfl⟩
  go_wp2_with fail
  have hB0 := Blk.new w #[.slice a n c, .bool big] 238
  refine (word_kind a n c l big k _ (hl.below (below1 _ _)) HN.out (by omega)).mono ?_
  rintro e w1 ⟨rfl, hb1⟩
  have hB1 := hB0.below hb1 hB0.lt
  obtain ⟨c0, c1, -, -⟩ := hB1.two
  have hbel1 := below_then (below1 w _) (by simp) hb1
  by_cases hp : 0 < kAt l big k
  · go_wp2_with fail
    refine (word_overUp a n c l big k (kAt l big k) w1 (hl.below hbel1) HN.out hn2 hk0 (by omega) (by omega)).mono ?_
    rintro e w2 ⟨r, rfl, hu, hr, hb2⟩
    rw [HN.out] at hr
    have hB2 := hB1.below hb2 hB1.lt
    obtain ⟨d0, d1, -, -⟩ := hB2.two
    have hbel2 := below_then hbel1 hbel1.size hb2
    have HU := Lib.hid hu; have hkr := hu.1; clear hu
    go_wp2_with fail
    refine (word_overUp a n c l big r 0 w2 (hl.below hbel2) HN.out hn2 (by omega) (by omega) (by omega)).mono ?_
    rintro e w3 ⟨r2, rfl, hu2, hr2, hb3⟩
    have HU2 := Lib.hid hu2; clear hu2
    go_wp2
    go_ret2
    exact ⟨r2, rfl, ⟨r, .inl ⟨hp, HU.out⟩, HU2.out⟩, below_then hbel2 hbel2.size hb3⟩
  · go_wp2_with fail
    refine (word_overUp a n c l big k 0 w1 (hl.below hbel1) HN.out hn2 (by omega) (by omega) (by omega)).mono ?_
    rintro e w3 ⟨r2, rfl, hu2, hr2, hb3⟩
    have HU2 := Lib.hid hu2; clear hu2
    go_wp2
    go_ret2
    exact ⟨r2, rfl, ⟨k, .inr ⟨by omega, rfl⟩, HU2.out⟩, below_then hbel1 hbel1.size hb3⟩

theorem keepW {B : Nat} {u v : Value} {w2 w' w'' : World} (h : w'.cell? ⟨B, 0, none⟩ = some u ∧ w'.cell? ⟨B, 1, none⟩ = some v ∧ Below w2.heap.size w2 w') (hb : Below w'.heap.size w' w'') :
    w''.cell? ⟨B, 0, none⟩ = some u ∧ w''.cell? ⟨B, 1, none⟩ = some v ∧ Below w2.heap.size w2 w'' :=
  ⟨below_keeps hb _ _ h.1, below_keeps hb _ _ h.2.1, below_then h.2.2 h.2.2.size hb⟩

set_option maxRecDepth 100000 in
theorem word_back_ok (a : Option Addr) (n c : Nat) (l : List Int) (big : Bool) (k : Int) (w : World) (hl : Ints w a l) (hn : l.length = n) (hn2 : n ≤ 4096) (hk0 : 0 ≤ k) (hk1 : k ≤ n) :
    Calls Try.prog 173 #[.slice a n c, .int .i64 k, .bool big] w (IntErr (WordBack l big k) w) := by
  have HN := Lib.hid hn; clear hn
  go_enter Try.func173, Try.ntmps173
  go_wp2_with fail
  refine (word_right_ok a n c k w hn2 hk0 hk1).mono ?_
  rintro e w' ⟨rfl, rfl⟩
  go_wp2_with fail
  have hB0 := Blk.new w #[.slice a n c, .bool big] 238
  refine (word_overDown a n c l big (k - 1) 0 _ (hl.below (below1 _ _)) HN.out (by omega) (by omega) (by omega) (by omega)).mono ?_
  rintro e w1 ⟨k1, rfl, hu, hr, hb1⟩
  have hB1 := hB0.below hb1 hB0.lt
  obtain ⟨c0, c1, -, -⟩ := hB1.two
  have hbel1 := below_then (below1 w _) (by simp) hb1
  have HU := Lib.hid hu; have hkr := hu.1; clear hu
  by_cases hp : k1 < 0
  · go_wp2
    go_ret2
    exact ⟨0, rfl, ⟨k1, HU.out, .inl ⟨hp, rfl⟩⟩, hbel1⟩
  · have hkk : 0 ≤ kAt l big k1 := kAt_nn (by omega) (by rw [HN.out]; omega)
    have hl1 := hl.below hbel1
    go_wp2_with fail
    go_region_held3 (fun w' => w'.cell? ⟨w.heap.size, 0, none⟩ = some (.slice a n c) ∧ w'.cell? ⟨w.heap.size, 1, none⟩ = some (.bool big) ∧ Below w1.heap.size w1 w') (first | exact ⟨c0, c1, (Below.refl _ _).drew⟩ | assumption | exact keepW ‹_› ‹_›)
      (first | (go_at_call 187; refine (word_kind a n c l big k1 _ (hl1.below (And.right (And.right ‹_›))) HN.out (by omega)).mono ?_; rintro e w2 ⟨rfl, hb2⟩) | (go_at_call 186; refine (word_overDown a n c l big k1 (kAt l big k1) _ (hl1.below (And.right (And.right ‹_›))) HN.out (by omega) (by omega) (by omega) hkk).mono ?_; rintro e w3 ⟨r, rfl, hu3, hr3, hb3⟩; have HU3 := Lib.hid hu3; have hur := hu3.1; clear hu3))
    all_goals
      go_wp2
      go_ret2
      refine ⟨r + 1, ret2_int (IntWalk.i64_in _ (by omega)) rfl, ⟨k1, HU.out, .inr ⟨by omega, ?_⟩⟩, below_then hbel1 hbel1.size (And.right (And.right ‹_›))⟩
      rw [show r + 1 - 1 = r from by omega]; exact HU3.out

set_option maxRecDepth 100000 in
theorem word_end_ok (a : Option Addr) (n c : Nat) (l : List Int) (big : Bool) (k : Int) (w : World) (hl : Ints w a l) (hn : l.length = n) (hn2 : n ≤ 4096) (hk0 : 0 ≤ k) (hk1 : k ≤ n) :
    Calls Try.prog 189 #[.slice a n c, .int .i64 k, .bool big] w (IntErr (WordEnd l big k) w) := by
  have HN := Lib.hid hn; clear hn
  go_enter Try.func189, Try.ntmps189
  go_wp2_with fail
  refine (word_right_ok a n c k w hn2 hk0 hk1).mono ?_
  rintro e w' ⟨rfl, rfl⟩
  go_wp2_with fail
  have hB0 := Blk.new w #[.slice a n c, .bool big] 238
  refine (word_overUp a n c l big (k + 1) 0 _ (hl.below (below1 _ _)) HN.out (by omega) (by omega) (by omega) (by omega)).mono ?_
  rintro e w1 ⟨k1, rfl, hu, hr, hb1⟩
  have hB1 := hB0.below hb1 hB0.lt
  obtain ⟨c0, c1, -, -⟩ := hB1.two
  have hbel1 := below_then (below1 w _) (by simp) hb1
  have HU := Lib.hid hu; have hkr := hu.1; clear hu
  rw [HN.out] at hr
  by_cases hp : (n : Int) ≤ k1
  · go_wp2
    all_goals
      go_ret2
      exact ⟨max 0 ((n : Int) - 1), ret2_int (by omega) rfl, ⟨k1, HU.out, .inl ⟨by rw [HN.out]; exact hp, by rw [HN.out]⟩⟩, hbel1⟩
  · have hkk : 0 ≤ kAt l big k1 := kAt_nn (by omega) (by rw [HN.out]; omega)
    have hl1 := hl.below hbel1
    go_wp2_with fail
    go_region_held3 (fun w' => w'.cell? ⟨w.heap.size, 0, none⟩ = some (.slice a n c) ∧ w'.cell? ⟨w.heap.size, 1, none⟩ = some (.bool big) ∧ Below w1.heap.size w1 w') (first | exact ⟨c0, c1, (Below.refl _ _).drew⟩ | assumption | exact keepW ‹_› ‹_›)
      (first | (go_at_call 187; refine (word_kind a n c l big k1 _ (hl1.below (And.right (And.right ‹_›))) HN.out (by omega)).mono ?_; rintro e w2 ⟨rfl, hb2⟩) | (go_at_call 186; refine (word_overUp a n c l big k1 (kAt l big k1) _ (hl1.below (And.right (And.right ‹_›))) HN.out (by omega) (by omega) (by omega) hkk).mono ?_; rintro e w3 ⟨r, rfl, hu3, hr3, hb3⟩; have HU3 := Lib.hid hu3; have hur := hu3.1; clear hu3))
    all_goals
      rw [HN.out] at hr3
      go_wp2
      go_ret2
      refine ⟨r - 1, ret2_int (IntWalk.i64_in _ (by omega)) rfl, ⟨k1, HU.out, .inr ⟨by rw [HN.out]; omega, ?_⟩⟩, below_then hbel1 hbel1.size (And.right (And.right ‹_›))⟩
      rw [show r - 1 + 1 = r from by omega]; exact HU3.out

end Go.Proofs.Ytbgbcmfgncneiaa
