/- What a region that draws its order keeps: cells that it loads, and all that was there. -/
import Derived.Test.YtmipnikhgihcpaaBase
namespace Go.Proofs.Ytmipnikhgihcpaa
open Go.RowKit
set_option linter.unusedVariables false
set_option linter.unusedSimpArgs false

theorem keepB1 {W w1 w2 : World} {a0 : Addr} {u0 : Value} (h : w1.cell? a0 = some u0 ∧ Below W.heap.size W w1) (hb : Below w1.heap.size w1 w2) : w2.cell? a0 = some u0 ∧ Below W.heap.size W w2 := by
  obtain ⟨h0, hW⟩ := h
  exact ⟨below_keeps hb _ _ h0, below_then hW hW.size hb⟩
theorem keepG1 {W w1 w2 : World} {a0 : Addr} {u0 : Value} {row : Option Nat} (h : w1.cell? a0 = some u0 ∧ Below W.heap.size W w1) (hg : w1.grownBy w2 row) (hr : ∀ k, row = some k → W.heap.size ≤ k) (n0 : a0.block < W.heap.size) : w2.cell? a0 = some u0 ∧ Below W.heap.size W w2 := by
  obtain ⟨h0, hW⟩ := h
  have hb : Below W.heap.size W w2 := hW.grown hg hW.size hr
  exact ⟨by rw [hb.cell n0, ← hW.cell n0]; exact h0, hb⟩
theorem keepB2 {W w1 w2 : World} {a0 a1 : Addr} {u0 u1 : Value} (h : w1.cell? a0 = some u0 ∧ w1.cell? a1 = some u1 ∧ Below W.heap.size W w1) (hb : Below w1.heap.size w1 w2) : w2.cell? a0 = some u0 ∧ w2.cell? a1 = some u1 ∧ Below W.heap.size W w2 := by
  obtain ⟨h0, h1, hW⟩ := h
  exact ⟨below_keeps hb _ _ h0, below_keeps hb _ _ h1, below_then hW hW.size hb⟩
theorem keepG2 {W w1 w2 : World} {a0 a1 : Addr} {u0 u1 : Value} {row : Option Nat} (h : w1.cell? a0 = some u0 ∧ w1.cell? a1 = some u1 ∧ Below W.heap.size W w1) (hg : w1.grownBy w2 row) (hr : ∀ k, row = some k → W.heap.size ≤ k) (n0 : a0.block < W.heap.size) (n1 : a1.block < W.heap.size) : w2.cell? a0 = some u0 ∧ w2.cell? a1 = some u1 ∧ Below W.heap.size W w2 := by
  obtain ⟨h0, h1, hW⟩ := h
  have hb : Below W.heap.size W w2 := hW.grown hg hW.size hr
  exact ⟨by rw [hb.cell n0, ← hW.cell n0]; exact h0, by rw [hb.cell n1, ← hW.cell n1]; exact h1, hb⟩
theorem keepB3 {W w1 w2 : World} {a0 a1 a2 : Addr} {u0 u1 u2 : Value} (h : w1.cell? a0 = some u0 ∧ w1.cell? a1 = some u1 ∧ w1.cell? a2 = some u2 ∧ Below W.heap.size W w1) (hb : Below w1.heap.size w1 w2) : w2.cell? a0 = some u0 ∧ w2.cell? a1 = some u1 ∧ w2.cell? a2 = some u2 ∧ Below W.heap.size W w2 := by
  obtain ⟨h0, h1, h2, hW⟩ := h
  exact ⟨below_keeps hb _ _ h0, below_keeps hb _ _ h1, below_keeps hb _ _ h2, below_then hW hW.size hb⟩
theorem keepG3 {W w1 w2 : World} {a0 a1 a2 : Addr} {u0 u1 u2 : Value} {row : Option Nat} (h : w1.cell? a0 = some u0 ∧ w1.cell? a1 = some u1 ∧ w1.cell? a2 = some u2 ∧ Below W.heap.size W w1) (hg : w1.grownBy w2 row) (hr : ∀ k, row = some k → W.heap.size ≤ k) (n0 : a0.block < W.heap.size) (n1 : a1.block < W.heap.size) (n2 : a2.block < W.heap.size) : w2.cell? a0 = some u0 ∧ w2.cell? a1 = some u1 ∧ w2.cell? a2 = some u2 ∧ Below W.heap.size W w2 := by
  obtain ⟨h0, h1, h2, hW⟩ := h
  have hb : Below W.heap.size W w2 := hW.grown hg hW.size hr
  exact ⟨by rw [hb.cell n0, ← hW.cell n0]; exact h0, by rw [hb.cell n1, ← hW.cell n1]; exact h1, by rw [hb.cell n2, ← hW.cell n2]; exact h2, hb⟩
theorem keepB4 {W w1 w2 : World} {a0 a1 a2 a3 : Addr} {u0 u1 u2 u3 : Value} (h : w1.cell? a0 = some u0 ∧ w1.cell? a1 = some u1 ∧ w1.cell? a2 = some u2 ∧ w1.cell? a3 = some u3 ∧ Below W.heap.size W w1) (hb : Below w1.heap.size w1 w2) : w2.cell? a0 = some u0 ∧ w2.cell? a1 = some u1 ∧ w2.cell? a2 = some u2 ∧ w2.cell? a3 = some u3 ∧ Below W.heap.size W w2 := by
  obtain ⟨h0, h1, h2, h3, hW⟩ := h
  exact ⟨below_keeps hb _ _ h0, below_keeps hb _ _ h1, below_keeps hb _ _ h2, below_keeps hb _ _ h3, below_then hW hW.size hb⟩
theorem keepG4 {W w1 w2 : World} {a0 a1 a2 a3 : Addr} {u0 u1 u2 u3 : Value} {row : Option Nat} (h : w1.cell? a0 = some u0 ∧ w1.cell? a1 = some u1 ∧ w1.cell? a2 = some u2 ∧ w1.cell? a3 = some u3 ∧ Below W.heap.size W w1) (hg : w1.grownBy w2 row) (hr : ∀ k, row = some k → W.heap.size ≤ k) (n0 : a0.block < W.heap.size) (n1 : a1.block < W.heap.size) (n2 : a2.block < W.heap.size) (n3 : a3.block < W.heap.size) : w2.cell? a0 = some u0 ∧ w2.cell? a1 = some u1 ∧ w2.cell? a2 = some u2 ∧ w2.cell? a3 = some u3 ∧ Below W.heap.size W w2 := by
  obtain ⟨h0, h1, h2, h3, hW⟩ := h
  have hb : Below W.heap.size W w2 := hW.grown hg hW.size hr
  exact ⟨by rw [hb.cell n0, ← hW.cell n0]; exact h0, by rw [hb.cell n1, ← hW.cell n1]; exact h1, by rw [hb.cell n2, ← hW.cell n2]; exact h2, by rw [hb.cell n3, ← hW.cell n3]; exact h3, hb⟩
theorem keepB5 {W w1 w2 : World} {a0 a1 a2 a3 a4 : Addr} {u0 u1 u2 u3 u4 : Value} (h : w1.cell? a0 = some u0 ∧ w1.cell? a1 = some u1 ∧ w1.cell? a2 = some u2 ∧ w1.cell? a3 = some u3 ∧ w1.cell? a4 = some u4 ∧ Below W.heap.size W w1) (hb : Below w1.heap.size w1 w2) : w2.cell? a0 = some u0 ∧ w2.cell? a1 = some u1 ∧ w2.cell? a2 = some u2 ∧ w2.cell? a3 = some u3 ∧ w2.cell? a4 = some u4 ∧ Below W.heap.size W w2 := by
  obtain ⟨h0, h1, h2, h3, h4, hW⟩ := h
  exact ⟨below_keeps hb _ _ h0, below_keeps hb _ _ h1, below_keeps hb _ _ h2, below_keeps hb _ _ h3, below_keeps hb _ _ h4, below_then hW hW.size hb⟩
theorem keepG5 {W w1 w2 : World} {a0 a1 a2 a3 a4 : Addr} {u0 u1 u2 u3 u4 : Value} {row : Option Nat} (h : w1.cell? a0 = some u0 ∧ w1.cell? a1 = some u1 ∧ w1.cell? a2 = some u2 ∧ w1.cell? a3 = some u3 ∧ w1.cell? a4 = some u4 ∧ Below W.heap.size W w1) (hg : w1.grownBy w2 row) (hr : ∀ k, row = some k → W.heap.size ≤ k) (n0 : a0.block < W.heap.size) (n1 : a1.block < W.heap.size) (n2 : a2.block < W.heap.size) (n3 : a3.block < W.heap.size) (n4 : a4.block < W.heap.size) : w2.cell? a0 = some u0 ∧ w2.cell? a1 = some u1 ∧ w2.cell? a2 = some u2 ∧ w2.cell? a3 = some u3 ∧ w2.cell? a4 = some u4 ∧ Below W.heap.size W w2 := by
  obtain ⟨h0, h1, h2, h3, h4, hW⟩ := h
  have hb : Below W.heap.size W w2 := hW.grown hg hW.size hr
  exact ⟨by rw [hb.cell n0, ← hW.cell n0]; exact h0, by rw [hb.cell n1, ← hW.cell n1]; exact h1, by rw [hb.cell n2, ← hW.cell n2]; exact h2, by rw [hb.cell n3, ← hW.cell n3]; exact h3, by rw [hb.cell n4, ← hW.cell n4]; exact h4, hb⟩
theorem keepB6 {W w1 w2 : World} {a0 a1 a2 a3 a4 a5 : Addr} {u0 u1 u2 u3 u4 u5 : Value} (h : w1.cell? a0 = some u0 ∧ w1.cell? a1 = some u1 ∧ w1.cell? a2 = some u2 ∧ w1.cell? a3 = some u3 ∧ w1.cell? a4 = some u4 ∧ w1.cell? a5 = some u5 ∧ Below W.heap.size W w1) (hb : Below w1.heap.size w1 w2) : w2.cell? a0 = some u0 ∧ w2.cell? a1 = some u1 ∧ w2.cell? a2 = some u2 ∧ w2.cell? a3 = some u3 ∧ w2.cell? a4 = some u4 ∧ w2.cell? a5 = some u5 ∧ Below W.heap.size W w2 := by
  obtain ⟨h0, h1, h2, h3, h4, h5, hW⟩ := h
  exact ⟨below_keeps hb _ _ h0, below_keeps hb _ _ h1, below_keeps hb _ _ h2, below_keeps hb _ _ h3, below_keeps hb _ _ h4, below_keeps hb _ _ h5, below_then hW hW.size hb⟩
theorem keepG6 {W w1 w2 : World} {a0 a1 a2 a3 a4 a5 : Addr} {u0 u1 u2 u3 u4 u5 : Value} {row : Option Nat} (h : w1.cell? a0 = some u0 ∧ w1.cell? a1 = some u1 ∧ w1.cell? a2 = some u2 ∧ w1.cell? a3 = some u3 ∧ w1.cell? a4 = some u4 ∧ w1.cell? a5 = some u5 ∧ Below W.heap.size W w1) (hg : w1.grownBy w2 row) (hr : ∀ k, row = some k → W.heap.size ≤ k) (n0 : a0.block < W.heap.size) (n1 : a1.block < W.heap.size) (n2 : a2.block < W.heap.size) (n3 : a3.block < W.heap.size) (n4 : a4.block < W.heap.size) (n5 : a5.block < W.heap.size) : w2.cell? a0 = some u0 ∧ w2.cell? a1 = some u1 ∧ w2.cell? a2 = some u2 ∧ w2.cell? a3 = some u3 ∧ w2.cell? a4 = some u4 ∧ w2.cell? a5 = some u5 ∧ Below W.heap.size W w2 := by
  obtain ⟨h0, h1, h2, h3, h4, h5, hW⟩ := h
  have hb : Below W.heap.size W w2 := hW.grown hg hW.size hr
  exact ⟨by rw [hb.cell n0, ← hW.cell n0]; exact h0, by rw [hb.cell n1, ← hW.cell n1]; exact h1, by rw [hb.cell n2, ← hW.cell n2]; exact h2, by rw [hb.cell n3, ← hW.cell n3]; exact h3, by rw [hb.cell n4, ← hW.cell n4]; exact h4, by rw [hb.cell n5, ← hW.cell n5]; exact h5, hb⟩

end Go.Proofs.Ytmipnikhgihcpaa
