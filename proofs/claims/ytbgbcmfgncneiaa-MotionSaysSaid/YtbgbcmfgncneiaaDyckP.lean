/- Plain laws of brackets: prefix sums, and what a match means for Partner. -/
import Derived.Test.YtbgbcmfgncneiaaDyck8
namespace Go.Proofs.Ytbgbcmfgncneiaa
set_option linter.unusedVariables false
set_option linter.unusedSimpArgs false

/-- opens less closes ahead of place i -/
def sumOS (l : List Int) (o s : Int) : Nat → Int
  | 0 => 0
  | i + 1 => sumOS l o s i + dOS l o s i
theorem cnt_up (l : List Int) (o s : Int) (k t : Nat) : cnt l o s (fun t => k + t) t = sumOS l o s (k + t) - sumOS l o s k := by
  induction t with
  | zero => simp [cnt]
  | succ t ih => simp only [cnt]; rw [ih, show k + (t + 1) = (k + t) + 1 from rfl]; simp only [sumOS]; omega
theorem dOS_swap (l : List Int) (o s : Int) (i : Nat) : dOS l s o i = - dOS l o s i := by unfold dOS; omega
theorem cnt_down (l : List Int) (o s : Int) (k t : Nat) (h : t ≤ k + 1) : cnt l s o (fun t => k - t) t = sumOS l o s (k + 1 - t) - sumOS l o s (k + 1) := by
  induction t with
  | zero => simp [cnt]
  | succ t ih =>
    have ih := ih (by omega)
    simp only [cnt]
    rw [ih, dOS_swap, show k + 1 - t = (k - t) + 1 from by omega, show k + 1 - (t + 1) = k - t from by omega]
    simp only [sumOS]; omega

/-- an opener at p and a closer at i that match -/
structure Match (l : List Int) (o s : Int) (p i : Nat) : Prop where
  lt : p < i
  opener : ix l p = o
  closer : ix l i = s
  above : ∀ b, p < b → b ≤ i → sumOS l o s p + 1 ≤ sumOS l o s b
  meets : sumOS l o s (i + 1) = sumOS l o s p
theorem Match.up {l : List Int} {o s : Int} {p i n : Nat} (h : Match l o s p i) (hi : i < n) : PartP l o s (fun t => p + t) (n - p) (i : Int) := by
  have hlt := h.lt
  refine .inl ⟨i - p, by omega, ⟨?_, ?_⟩, fun t ht he => ?_, by show _ = ((p + (i - p) : Nat) : Int); omega⟩
  · show ix l (p + (i - p)) = s; rw [show p + (i - p) = i from by omega]; exact h.closer
  · rw [cnt_up, show p + (i - p + 1) = i + 1 from by omega, h.meets]; omega
  · have h1 := he.2; rw [cnt_up] at h1
    have := h.above (p + (t + 1)) (by omega) (by omega); omega
theorem Match.down {l : List Int} {o s : Int} {p i : Nat} (h : Match l o s p i) : PartP l s o (fun t => i - t) (i + 1) (p : Int) := by
  have hlt := h.lt
  refine .inl ⟨i - p, by omega, ⟨?_, ?_⟩, fun t ht he => ?_, by show _ = ((i - (i - p) : Nat) : Int); omega⟩
  · show ix l (i - (i - p)) = o; rw [show i - (i - p) = p from by omega]; exact h.opener
  · rw [cnt_down l o s _ _ (by omega), show i + 1 - (i - p + 1) = p from by omega, h.meets]; omega
  · have h1 := he.2; rw [cnt_down l o s _ _ (by omega), h.meets] at h1
    have := h.above (i + 1 - (t + 1)) (by omega) (by omega); omega
theorem lone_up {l : List Int} {o s : Int} {p n : Nat} (h : ∀ b, p < b → b ≤ n → sumOS l o s p + 1 ≤ sumOS l o s b) (hp : p < n) : PartP l o s (fun t => p + t) (n - p) (-1) := by
  refine .inr ⟨fun t ht he => ?_, rfl⟩
  have h1 := he.2; rw [cnt_up] at h1
  have := h (p + (t + 1)) (by omega) (by omega); omega
theorem lone_down {l : List Int} {o s : Int} {i : Nat} (h : ∀ a, a ≤ i → sumOS l o s (i + 1) + 1 ≤ sumOS l o s a) : PartP l s o (fun t => i - t) (i + 1) (-1) := by
  refine .inr ⟨fun t ht he => ?_, rfl⟩
  have h1 := he.2; rw [cnt_down l o s _ _ (by omega)] at h1
  have := h (i + 1 - (t + 1)) (by omega); omega

end Go.Proofs.Ytbgbcmfgncneiaa
