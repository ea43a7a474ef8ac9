/- Cutting a slice of numbers: the run of xs[i:j], xs[i:], and what the cut reads as. -/
import Derived.Test.YtmipnikhgihcpaaCat
namespace Go.Proofs.Ytmipnikhgihcpaa
open Go.RowKit
set_option linter.unusedVariables false
set_option linter.unusedSimpArgs false

/-- where a cut from k on begins -/
def cutA (a : Option Addr) (c k : Nat) : Option Addr := if c = k then a else a.map (·.add (k * 1))
theorem cutA_none {a : Option Addr} {c k : Nat} (h : cutA a c k = none) : a = none := by
  unfold cutA at h
  split at h
  · exact h
  · cases a <;> simp_all
theorem Ints.cutTo {w : World} {a : Option Addr} {xs : List Int} {c : Nat} (h : Ints w a xs) (lo hi : Nat) (hc : xs.length ≤ c) (hl : lo ≤ hi) (hh : hi ≤ xs.length) : Ints w (cutA a c lo) ((xs.take hi).drop lo) := by
  unfold cutA
  by_cases hk : c = lo
  · refine .inl ?_
    rw [List.drop_eq_nil_iff, List.length_take]; omega
  · rw [if_neg hk]
    rcases a with _ | ad
    · rcases h with rfl | ⟨b, o, ha, _⟩
      · exact .inl (by simp)
      · simp at ha
    · simp only [Nat.mul_one, Option.map_some]
      exact (h.take hi).dropA lo
theorem Ints.cutEnd {w : World} {a : Option Addr} {xs : List Int} {c : Nat} (h : Ints w a xs) (lo : Nat) (hc : xs.length ≤ c) (hl : lo ≤ xs.length) : Ints w (cutA a c lo) (xs.drop lo) := by
  have := h.cutTo lo xs.length hc hl (Nat.le_refl _)
  rwa [List.take_length] at this
theorem cut_run (a : Option Addr) (n c lo hi : Nat) (h1 : lo ≤ hi) (h2 : hi ≤ c) (w : World) :
    (Instr.slice 22 (.slice a n c) (some (.int .i64 (lo : Int))) (some (.int .i64 (hi : Int))) none).run Try.prog w = .ok (.slice (cutA a c lo) (hi - lo) (c - lo)) w := by
  obtain ⟨i0, hi0, hz0, hz1, hz2⟩ := info_parts info_int
  have b1 : (0 : Int) ≤ (lo : Int) ∧ (lo : Int) ≤ (hi : Int) := by omega
  have b2 : (0 : Int) ≤ (hi : Int) ∧ (hi : Int) ≤ (c : Int) := by omega
  simp [Instr.slice, Instr.sliceBounds, Instr.sliceBound, asIntOf, run_underlying Try.underlying22, sizeOf, typeInfo, hi0, hz1, b1, b2, go_sem, cutA, h1, h2]
theorem cut_run_end (a : Option Addr) (n c lo : Nat) (h1 : lo ≤ n) (w : World) :
    (Instr.slice 22 (.slice a n c) (some (.int .i64 (lo : Int))) none none).run Try.prog w = .ok (.slice (cutA a c lo) (n - lo) (c - lo)) w := by
  obtain ⟨i0, hi0, hz0, hz1, hz2⟩ := info_parts info_int
  have b1 : (0 : Int) ≤ (lo : Int) ∧ (lo : Int) ≤ (n : Int) := by omega
  simp [Instr.slice, Instr.sliceBounds, Instr.sliceBound, asIntOf, run_underlying Try.underlying22, sizeOf, typeInfo, hi0, hz1, b1, go_sem, cutA, h1]
theorem cut_run_to (a : Option Addr) (n c hi : Nat) (h2 : hi ≤ c) (w : World) :
    (Instr.slice 22 (.slice a n c) none (some (.int .i64 (hi : Int))) none).run Try.prog w = .ok (.slice a hi c) w := by
  obtain ⟨i0, hi0, hz0, hz1, hz2⟩ := info_parts info_int
  have b2 : (0 : Int) ≤ (hi : Int) ∧ (hi : Int) ≤ (c : Int) := by omega
  simp [Instr.slice, Instr.sliceBounds, Instr.sliceBound, asIntOf, run_underlying Try.underlying22, sizeOf, typeInfo, hi0, hz1, b2, go_sem, h2]

end Go.Proofs.Ytmipnikhgihcpaa
