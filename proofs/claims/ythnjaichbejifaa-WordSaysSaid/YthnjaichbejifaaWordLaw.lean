/- The walk of the law WordSays: the call returns true and writes nothing that was there. -/
import Derived.Test.YthnjaichbejifaaWord4
namespace Go.Proofs.Ythnjaichbejifaa
open Go.RowKit
set_option linter.unusedVariables false
set_option linter.unusedSimpArgs false

set_option maxRecDepth 100000 in
set_option maxHeartbeats 1000000 in
theorem wordSays_ok (a : Option Addr) (c0 n : Nat) (l : List Int) (k : Int) (big : Bool) (c : Int) (w : World) (hl : Ints w a l) (hn : l.length = n) (hn2 : n ≤ 4096) (hk0 : 0 ≤ k) (hk1 : k ≤ n) :
    Calls Try.prog 7 #[.slice a n c0, .int .i64 k, .bool big, .int .i64 c] w fun e w' => e = .returned (.bool true) ∧ Below w.heap.size w w' := by
  have HN := Lib.hid hn; clear hn
  go_enter Try.func7, Try.ntmps7
  go_wp2_with fail
  refine (word_next_ok a n c0 l big k w hl HN.out hn2 hk0 hk1).mono ?_
  rintro e w1 ⟨r1, rfl, p1, hb1⟩
  have P1 := Lib.hid p1; clear p1
  go_wp2_with fail
  refine (word_back_ok a n c0 l big k w1 (hl.below hb1) HN.out hn2 hk0 hk1).mono ?_
  rintro e w2 ⟨r2, rfl, p2, hb2⟩
  have P2 := Lib.hid p2; clear p2
  have hb2 := below_then hb1 hb1.size hb2
  go_wp2_with fail
  refine (word_end_ok a n c0 l big k w2 (hl.below hb2) HN.out hn2 hk0 hk1).mono ?_
  rintro e w3 ⟨r3, rfl, p3, hb3⟩
  have P3 := Lib.hid p3; clear p3
  have hb3 := below_then hb2 hb2.size hb3
  go_wp2_with fail
  refine (word_kindOf c big w3).mono ?_
  rintro e w' ⟨rfl, rfl⟩
  go_wp2_with fail
  refine (ref_kindOf c big w3).mono ?_
  rintro e w' ⟨rfl, rfl⟩
  go_wp2_with fail
  refine (ref_next a n c0 l big k w3 (hl.below hb3) HN.out hn2 hk0 hk1).mono ?_
  rintro e w' ⟨q1, rfl, h1, rfl⟩
  obtain rfl := next_same hk0 (by rw [HN.out]; exact hk1) P1.out h1
  clear h1
  go_wp2_with fail
  refine (ref_back a n c0 l big k w3 (hl.below hb3) HN.out hn2 hk0 hk1).mono ?_
  rintro e w' ⟨q2, rfl, h2, rfl⟩
  obtain rfl := back_same hk0 (by rw [HN.out]; exact hk1) P2.out h2
  clear h2
  go_wp2_with fail
  refine (ref_end a n c0 l big k w3 (hl.below hb3) HN.out hn2 hk0 hk1).mono ?_
  rintro e w' ⟨q3, rfl, h3, rfl⟩
  obtain rfl := end_same hk0 (by rw [HN.out]; exact hk1) P3.out h3
  clear h3
  go_wp2
  go_ret
  exact ⟨rfl, hb3⟩

set_option maxRecDepth 100000 in
set_option maxHeartbeats 1000000 in
theorem wordSays_bad (a : Option Addr) (c0 n : Nat) (k : Int) (big : Bool) (c err : Int) (w : World) (he : wordErr n k = err) (h0 : err ≠ 0) (hv : 4096 < n ∧ err = 2 ∨ n ≤ 4096 ∧ (k < 0 ∨ (n : Int) < k) ∧ err = 1) :
    Calls Try.prog 7 #[.slice a n c0, .int .i64 k, .bool big, .int .i64 c] w fun e w' => e = .returned (.bool true) ∧ Below w.heap.size w w' := by
  have HE := Lib.hid he; clear he
  have H0 := Lib.hid h0; clear h0
  rcases hv with ⟨h1, rfl⟩ | ⟨h1, h2 | h2, rfl⟩
  all_goals
    go_enter Try.func7, Try.ntmps7
    go_wp2_with fail
    refine (word_next_bad a n c0 big k _ w HE.out H0.out).mono ?_
    rintro e w' ⟨rfl, rfl⟩
    go_wp2_with fail
    refine (word_back_bad a n c0 big k _ w HE.out H0.out).mono ?_
    rintro e w' ⟨rfl, rfl⟩
    go_wp2_with fail
    refine (word_end_bad a n c0 big k _ w HE.out H0.out).mono ?_
    rintro e w' ⟨rfl, rfl⟩
    go_wp2_with fail
    refine (word_kindOf c big w).mono ?_
    rintro e w' ⟨rfl, rfl⟩
    go_wp2_with fail
    refine (ref_kindOf c big w).mono ?_
    rintro e w' ⟨rfl, rfl⟩
    go_wp2
    go_ret
    exact ⟨rfl, Below.refl _ _⟩

theorem wordSays_walk (a : Option Addr) (c0 n : Nat) (l : List Int) (k : Int) (big : Bool) (c : Int) (w : World) (hl : Ints w a l) (hn : l.length = n) :
    Calls Try.prog 7 #[.slice a n c0, .int .i64 k, .bool big, .int .i64 c] w fun e w' => e = .returned (.bool true) ∧ Below w.heap.size w w' := by
  by_cases h1 : 4096 < n
  · exact wordSays_bad a c0 n k big c 2 w (by simp [wordErr, h1]) (by decide) (.inl ⟨h1, rfl⟩)
  · by_cases h2 : k < 0 ∨ (n : Int) < k
    · exact wordSays_bad a c0 n k big c 1 w (by simp [wordErr, h1, h2]) (by decide) (.inr ⟨by omega, h2, rfl⟩)
    · exact wordSays_ok a c0 n l k big c w hl hn (by omega) (by omega) (by omega)

end Go.Proofs.Ythnjaichbejifaa
