/- FeedSays: plain: the machine runs as the document decodes. -/
import Derived.Test.YtmipnikhgihcpaaFeed6
namespace Go.Proofs.Ytmipnikhgihcpaa
open Go.RowKit
set_option linter.unusedVariables false
set_option linter.unusedSimpArgs false

def gL (l : List Int) : G := gV l.length (ix l 0) (ix l 1) (ix l 2) (ix l 3)
def secB (b0 b1 : Int) : Prop := secLo b0 ≤ b1 ∧ b1 ≤ secHi b0
theorem sec_con {b0 b1 : Int} (h : secB b0 b1) : 128 ≤ b1 ∧ b1 < 192 := by
  unfold secB secLo secHi at h
  repeat' split at h
  all_goals omega
theorem gFin_e {k c : Int} : (gFin k c).e = 0 ↔ ¬ c < lstV k ∧ scaB c = true := by
  constructor
  · exact fin_ok
  · intro h; unfold gFin; rw [if_neg (by simp [h.1, h.2])]
theorem gFin_c {k c : Int} (h : (gFin k c).e = 0) : (gFin k c).c = c := by
  have := gFin_e.1 h; unfold gFin; rw [if_neg (by simp [this.1, this.2])]
theorem gFin_e4 {k c : Int} (h : (gFin k c).e ≠ 0) : (gFin k c).e = 4 := by
  unfold gFin at h ⊢; split
  · rfl
  · rename_i hh; rw [if_neg hh] at h; simp at h
/-- the four ways a character can be -/
theorem g_one {n : Nat} {b0 b1 b2 b3 : Int} (hn : 1 ≤ n) (h : b0 < 128) : gV n b0 b1 b2 b3 = ⟨b0, 1, 0⟩ := by
  unfold gV; rw [if_neg (by omega), if_pos h]
theorem g_two {n : Nat} {b0 b1 b2 b3 : Int} (hn : 2 ≤ n) (h1 : 194 ≤ b0) (h2 : b0 < 224) (h3 : 128 ≤ b1 ∧ b1 < 192) : gV n b0 b1 b2 b3 = ⟨b0 % 32 * 64 + b1 % 64, 2, 0⟩ := by
  unfold gV
  have hc : conB b1 = true := decide_eq_true h3
  rw [if_neg (by omega), if_neg (by omega), if_neg (by omega), if_neg (by omega), if_neg (by rw [hc]; simp), if_pos h2]
  unfold gFin
  rw [if_neg (by rw [show lstV 2 = 128 from rfl]; simp [scaB]; omega)]
theorem g_three {n : Nat} {b0 b1 b2 b3 : Int} (hn : 3 ≤ n) (h1 : 224 ≤ b0) (h2 : b0 < 240) (h3 : secB b0 b1) (h4 : 128 ≤ b2 ∧ b2 < 192) : gV n b0 b1 b2 b3 = ⟨(b0 % 16 * 64 + b1 % 64) * 64 + b2 % 64, 3, 0⟩ := by
  unfold gV
  have hs := sec_con h3
  have hc : conB b1 = true := decide_eq_true hs
  have hc2 : conB b2 = true := decide_eq_true h4
  rw [if_neg (by omega), if_neg (by omega), if_neg (by omega), if_neg (by omega), if_neg (by rw [hc]; simp), if_neg (by omega), if_neg (by omega), if_neg (by rw [hc2]; simp), if_pos h2]
  unfold gFin
  unfold secB secLo secHi at h3
  rw [if_neg (by
    rw [show lstV 3 = 2048 from rfl]
    simp [scaB]
    repeat' split at h3
    all_goals omega)]
theorem g_four {n : Nat} {b0 b1 b2 b3 : Int} (hn : 4 ≤ n) (h1 : 240 ≤ b0) (h2 : b0 < 245) (h3 : secB b0 b1) (h4 : 128 ≤ b2 ∧ b2 < 192) (h5 : 128 ≤ b3 ∧ b3 < 192) : gV n b0 b1 b2 b3 = ⟨((b0 % 8 * 64 + b1 % 64) * 64 + b2 % 64) * 64 + b3 % 64, 4, 0⟩ := by
  unfold gV
  have hs := sec_con h3
  have hc : conB b1 = true := decide_eq_true hs
  have hc2 : conB b2 = true := decide_eq_true h4
  have hc3 : conB b3 = true := decide_eq_true h5
  rw [if_neg (by omega), if_neg (by omega), if_neg (by omega), if_neg (by omega), if_neg (by rw [hc]; simp), if_neg (by omega), if_neg (by omega), if_neg (by rw [hc2]; simp), if_neg (by omega), if_neg (by omega), if_neg (by rw [hc3]; simp)]
  unfold gFin
  unfold secB secLo secHi at h3
  rw [if_neg (by
    rw [show lstV 4 = 65536 from rfl]
    simp [scaB]
    repeat' split at h3
    all_goals omega)]
theorem g_ways {n : Nat} {b0 b1 b2 b3 : Int} (h : (gV n b0 b1 b2 b3).e = 0) (r1 : 0 ≤ b1 ∧ b1 < 256) :
    (1 ≤ n ∧ b0 < 128) ∨ (2 ≤ n ∧ 194 ≤ b0 ∧ b0 < 224 ∧ 128 ≤ b1 ∧ b1 < 192) ∨ (3 ≤ n ∧ 224 ≤ b0 ∧ b0 < 240 ∧ secB b0 b1 ∧ 128 ≤ b2 ∧ b2 < 192) ∨ (4 ≤ n ∧ 240 ≤ b0 ∧ b0 < 245 ∧ secB b0 b1 ∧ (128 ≤ b2 ∧ b2 < 192) ∧ 128 ≤ b3 ∧ b3 < 192) := by
  unfold gV at h
  by_cases h0 : n = 0
  · rw [if_pos h0] at h; simp at h
  rw [if_neg h0] at h
  by_cases h1 : b0 < 128
  · exact .inl ⟨by omega, h1⟩
  rw [if_neg h1] at h
  by_cases h2 : b0 < 192 ∨ 248 ≤ b0
  · rw [if_pos h2] at h; simp at h
  rw [if_neg h2] at h
  by_cases h3 : n = 1
  · rw [if_pos h3] at h; simp at h
  rw [if_neg h3] at h
  by_cases h4 : conB b1 = false
  · rw [if_pos h4] at h; simp at h
  rw [if_neg h4] at h
  have c1 : 128 ≤ b1 ∧ b1 < 192 := by simpa [conB] using h4
  by_cases h5 : b0 < 224
  · rw [if_pos h5] at h
    obtain ⟨f1, f2⟩ := gFin_e.1 h
    rw [show lstV 2 = 128 from rfl] at f1
    exact .inr (.inl ⟨by omega, by omega, h5, c1⟩)
  rw [if_neg h5] at h
  by_cases h6 : n = 2
  · rw [if_pos h6] at h; simp at h
  rw [if_neg h6] at h
  by_cases h7 : conB b2 = false
  · rw [if_pos h7] at h; simp at h
  rw [if_neg h7] at h
  have c2 : 128 ≤ b2 ∧ b2 < 192 := by simpa [conB] using h7
  by_cases h8 : b0 < 240
  · rw [if_pos h8] at h
    obtain ⟨f1, f2⟩ := gFin_e.1 h
    rw [show lstV 3 = 2048 from rfl] at f1
    simp [scaB] at f2
    refine .inr (.inr (.inl ⟨by omega, by omega, h8, ?_, c2⟩))
    unfold secB secLo secHi
    repeat' split
    all_goals omega
  rw [if_neg h8] at h
  by_cases h9 : n = 3
  · rw [if_pos h9] at h; simp at h
  rw [if_neg h9] at h
  by_cases h10 : conB b3 = false
  · rw [if_pos h10] at h; simp at h
  rw [if_neg h10] at h
  have c3 : 128 ≤ b3 ∧ b3 < 192 := by simpa [conB] using h10
  obtain ⟨f1, f2⟩ := gFin_e.1 h
  rw [show lstV 4 = 65536 from rfl] at f1
  simp [scaB] at f2
  refine .inr (.inr (.inr ⟨by omega, by omega, by omega, ?_, c2, c3⟩))
  unfold secB secLo secHi
  repeat' split
  all_goals omega

end Go.Proofs.Ytmipnikhgihcpaa
