/- Contract of fairref.bracket. -/
import Derived.Test.YtmipnikhgihcpaaDyck
namespace Go.Proofs.Ytmipnikhgihcpaa
open Go.RowKit
set_option linter.unusedVariables false
set_option linter.unusedSimpArgs false

def NotYet (k : Nat) (c : Int) : Prop := (1 ≤ k → c ≠ 40 ∧ c ≠ 41) ∧ (2 ≤ k → c ≠ 91 ∧ c ≠ 93) ∧ (3 ≤ k → c ≠ 123 ∧ c ≠ 125)
def pairCells : Array Value := #[.string { data := #[40, 41] }, .string { data := #[91, 93] }, .string { data := #[123, 125] }]

set_option maxRecDepth 100000 in
theorem ref_bracket (c : Int) (w : World) :
    Calls Try.prog 193 #[.int .i64 c] w fun e w' => e = .returned (.tuple #[.int .i64 (openS c), .int .i64 (closeS c)]) ∧ Below w.heap.size w w' := by
  go_enter Try.func193, Try.ntmps193
  go_wp2
  go_loopw [8] (fun i wr => ∃ k : Nat, i = .int .i64 (k : Int) ∧ k ≤ 3 ∧ NotYet k c ∧ Blk wr w.heap.size pairCells 9 ∧ Below w.heap.size w wr) (fun i _ => 3 - (intOf i).toNat)
  case atStart => exact ⟨0, rfl, by omega, ⟨by omega, by omega, by omega⟩, Blk.new _ _ _, below1 _ _⟩
  case round =>
    obtain ⟨k, rfl, hk, hny, hB, hbel⟩ := hrel
    obtain ⟨c0, c1, c2, -⟩ := hB.three
    have hny' := Lib.hid hny; clear hny
    have e00 : wrap64 ((({ data := #[40, 41] } : ByteArray)[0]'(by decide)).toNat : Int) = 40 := by decide +kernel
    have e01 : wrap64 ((({ data := #[40, 41] } : ByteArray)[1]'(by decide)).toNat : Int) = 41 := by decide +kernel
    have e10 : wrap64 ((({ data := #[91, 93] } : ByteArray)[0]'(by decide)).toNat : Int) = 91 := by decide +kernel
    have e11 : wrap64 ((({ data := #[91, 93] } : ByteArray)[1]'(by decide)).toNat : Int) = 93 := by decide +kernel
    have e20 : wrap64 ((({ data := #[123, 125] } : ByteArray)[0]'(by decide)).toNat : Int) = 123 := by decide +kernel
    have e21 : wrap64 ((({ data := #[123, 125] } : ByteArray)[1]'(by decide)).toNat : Int) = 125 := by decide +kernel
    obtain rfl | rfl | rfl | rfl : k = 0 ∨ k = 1 ∨ k = 2 ∨ k = 3 := by omega
    · by_cases h0 : c = 40
      · subst h0
        go_wp2
        go_quiet (fail)
        all_goals
          go_wp2
          go_ret2
          exact ⟨ret2_int (by first | exact e00 | rfl) (by first | exact e01 | rfl), below_drewN hbel _⟩
      · by_cases h1 : c = 41
        · subst h1
          go_wp2
          go_quiet (fail)
          all_goals
            go_wp2
            go_ret2
            exact ⟨ret2_int (by first | exact e00 | rfl) (by first | exact e01 | rfl), below_drewN hbel _⟩
        · have g0 : (c == 40) = false := by simpa using h0
          have g1 : (c == 41) = false := by simpa using h1
          go_wp2
          go_roundw
          case rel => exact ⟨1, by go_num, by omega, by have := hny'.out; unfold NotYet at *; omega, hB, hbel⟩
          case measure => simp [intOf]
    · by_cases h0 : c = 91
      · subst h0
        go_wp2
        go_quiet (fail)
        all_goals
          go_wp2
          go_ret2
          exact ⟨ret2_int (by first | exact e10 | rfl) (by first | exact e11 | rfl), below_drewN hbel _⟩
      · by_cases h1 : c = 93
        · subst h1
          go_wp2
          go_quiet (fail)
          all_goals
            go_wp2
            go_ret2
            exact ⟨ret2_int (by first | exact e10 | rfl) (by first | exact e11 | rfl), below_drewN hbel _⟩
        · have g0 : (c == 91) = false := by simpa using h0
          have g1 : (c == 93) = false := by simpa using h1
          go_wp2
          go_roundw
          case rel => exact ⟨2, by go_num, by omega, by have := hny'.out; unfold NotYet at *; omega, hB, hbel⟩
          case measure => simp [intOf]
    · by_cases h0 : c = 123
      · subst h0
        go_wp2
        go_quiet (fail)
        all_goals
          go_wp2
          go_ret2
          exact ⟨ret2_int (by first | exact e20 | rfl) (by first | exact e21 | rfl), below_drewN hbel _⟩
      · by_cases h1 : c = 125
        · subst h1
          go_wp2
          go_quiet (fail)
          all_goals
            go_wp2
            go_ret2
            exact ⟨ret2_int (by first | exact e20 | rfl) (by first | exact e21 | rfl), below_drewN hbel _⟩
        · have g0 : (c == 123) = false := by simpa using h0
          have g1 : (c == 125) = false := by simpa using h1
          go_wp2
          go_roundw
          case rel => exact ⟨3, by go_num, by omega, by have := hny'.out; unfold NotYet at *; omega, hB, hbel⟩
          case measure => simp [intOf]
    · have h0 : openS c = 0 := by have := hny'.out; unfold NotYet at *; unfold openS; rw [if_neg (by omega), if_neg (by omega), if_neg (by omega)]
      have h1 : closeS c = 0 := by have := hny'.out; unfold NotYet at *; unfold closeS; rw [if_neg (by omega), if_neg (by omega), if_neg (by omega)]
      have H0 := Lib.hid h0; have H1 := Lib.hid h1; clear h0 h1
      go_wp2
      go_ret2
      exact ⟨ret2_int H0.out.symm H1.out.symm, hbel⟩

end Go.Proofs.Ytmipnikhgihcpaa
