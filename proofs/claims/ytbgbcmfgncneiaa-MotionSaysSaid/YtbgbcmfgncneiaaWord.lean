/- Contracts of the functions of package word, and of their references. -/
import Derived.Test.YtbgbcmfgncneiaaSlib
import Derived.Test.YtbgbcmfgncneiaaWordS
import Derived.Deep.RegionHeld3
namespace Go.Proofs.Ytbgbcmfgncneiaa
open Go.RowKit
set_option linter.unusedVariables false
set_option linter.unusedSimpArgs false

theorem word_kindOf (c : Int) (big : Bool) (w : World) :
    Calls Try.prog 158 #[.int .i64 c, .bool big] w fun e w' => e = .returned (.int .i64 (kindS c big)) ∧ w = w' := by
  cases big
  all_goals
    go_enter Try.func158, Try.ntmps158
    go_wp2
    all_goals (go_ret; refine ⟨ret1_int ?_, rfl⟩; unfold kindS; (repeat' split) <;> simp_all <;> omega)

set_option maxHeartbeats 2000000 in
theorem ref_kindOf (c : Int) (big : Bool) (w : World) :
    Calls Try.prog 118 #[.int .i64 c, .bool big] w fun e w' => e = .returned (.int .i64 (kindS c big)) ∧ w = w' := by
  have H : (32 ≤ c ∧ c ≤ 32) ∨ (9 ≤ c ∧ c ≤ 9) ∨ (97 ≤ c ∧ c ≤ 122) ∨ (65 ≤ c ∧ c ≤ 90) ∨ (48 ≤ c ∧ c ≤ 57) ∨ (95 ≤ c ∧ c ≤ 95) ∨ 128 ≤ c ∨ c ≤ 8 ∨ (10 ≤ c ∧ c ≤ 31) ∨ (33 ≤ c ∧ c ≤ 47) ∨ (58 ≤ c ∧ c ≤ 64) ∨ (91 ≤ c ∧ c ≤ 94) ∨ (96 ≤ c ∧ c ≤ 96) ∨ (123 ≤ c ∧ c ≤ 127) := by omega
  rcases H with h | h | h | h | h | h | h | h | h | h | h | h | h | h
  all_goals
    cases big
    all_goals
      go_enter Try.func118, Try.ntmps118
      go_wp2
      all_goals (go_ret; refine ⟨ret1_int ?_, rfl⟩; unfold kindS; (repeat' split) <;> first | rfl | omega | (simp_all; done) | (simp_all; omega))

/-- the walker of a line: its fields -/
def wk (a : Option Addr) (n c : Nat) (big : Bool) : Value := .agg #[.slice a n c, .bool big]

set_option maxRecDepth 100000 in
theorem word_kind (a : Option Addr) (n c : Nat) (l : List Int) (big : Bool) (k : Int) (w : World) (hl : Ints w a l) (hn : l.length = n) (hn2 : n ≤ 9223372036854775807) :
    Calls Try.prog 187 #[.agg #[.slice a n c, .bool big], .int .i64 k] w fun e w' => e = .returned (.int .i64 (kAt l big k)) ∧ Below w.heap.size w w' := by
  by_cases h0 : k < 0
  · rw [kAt_out (.inl h0)]
    go_enter Try.func187, Try.ntmps187
    go_wp2
    go_ret
    exact ⟨rfl, below1 _ _⟩
  · by_cases h1 : (n : Int) ≤ k
    · rw [kAt_out (.inr (by omega))]
      have HN := Lib.hid hn; clear hn
      go_enter Try.func187, Try.ntmps187
      go_wp2
      go_ret
      exact ⟨rfl, below1 _ _⟩
    · obtain ⟨j, rfl⟩ := Int.eq_ofNat_of_zero_le (show 0 ≤ k by omega)
      obtain ⟨b1, o1, rfl, hc⟩ := hl.at (k := j) (by omega)
      have e1 := hc j (by omega)
      have hb := cell_lt e1
      rw [kAt_in (by omega) (by omega), show ((j : Int)).toNat = j from rfl]
      have HN := Lib.hid hn; clear hn hc hl
      have i1 : (j : Int) < (n : Int) := by omega
      have i2 : b1 < w.heap.size := hb
      go_enter Try.func187, Try.ntmps187
      go_wp2
      go_quiet ((go_at_call 158; exact Calls.quiet_of_same ((word_kindOf _ _ _).mono fun _ _ ⟨h, h'⟩ => ⟨h, h'.symm⟩)))
      go_wp2
      go_ret
      exact ⟨rfl, below_drewN (below1 _ _) _⟩

end Go.Proofs.Ytbgbcmfgncneiaa
