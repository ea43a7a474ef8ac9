/- A slice value that reads as numbers; lists of values. -/
import Derived.Test.YtmipnikhgihcpaaSlib
namespace Go.Proofs.Ytmipnikhgihcpaa
open Go.RowKit
set_option linter.unusedVariables false
set_option linter.unusedSimpArgs false

/-- the value, the list at a place; the walk does not look behind these names -/
def vx (vs : List Value) (i : Nat) : Value := vs.getD i undef
def rx (X : List (List Int)) (i : Nat) : List Int := X.getD i []
def rgA (vs : List Value) : Array Value := vs.toArray
theorem rgA_size (vs : List Value) : (rgA vs).size = vs.length := by simp [rgA]
theorem vx_set_eq {vs : List Value} {i : Nat} (h : i < vs.length) (v : Value) : vx (vs.set i v) i = v := by simp [vx, h]
theorem vx_set_ne {vs : List Value} {i j : Nat} (h : i ≠ j) (v : Value) : vx (vs.set i v) j = vx vs j := by
  unfold vx; simp [List.getElem?_set, h]
theorem vx_mem {vs : List Value} {v : Value} (h : v ∈ vs) : ∃ i, i < vs.length ∧ vx vs i = v := by
  obtain ⟨i, hi, rfl⟩ := List.mem_iff_getElem.1 h
  exact ⟨i, hi, by simp [vx, hi]⟩
theorem rx_set_eq {X : List (List Int)} {i : Nat} (h : i < X.length) (v : List Int) : rx (X.set i v) i = v := by simp [rx, h]
theorem rx_set_ne {X : List (List Int)} {i j : Nat} (h : i ≠ j) (v : List Int) : rx (X.set i v) j = rx X j := by
  unfold rx; simp [List.getElem?_set, h]

/-- a slice value that reads as the numbers xs -/
def Sl (w : World) (v : Value) (xs : List Int) : Prop := ∃ a n c, v = .slice a n c ∧ xs.length = n ∧ n ≤ c ∧ c ≤ 9223372036854775807 ∧ Ints w a xs ∧ (a = none → n = 0)
theorem Sl.keep {w w' : World} {v : Value} {xs : List Int} (h : Sl w v xs) (hc : ∀ p v, w.cell? p = some v → w'.cell? p = some v) : Sl w' v xs := by
  obtain ⟨a, n, c, h1, h2, h3, h4, h5, h6⟩ := h
  exact ⟨a, n, c, h1, h2, h3, h4, h5.keep hc, h6⟩
theorem Sl.below {w w' : World} {v : Value} {xs : List Int} (h : Sl w v xs) (hb : Below w.heap.size w w') : Sl w' v xs := h.keep (below_keeps hb)
theorem Sl.drewN {w : World} {v : Value} {xs : List Int} (h : Sl w v xs) (n : Nat) : Sl (w.drewN n) v xs := h.keep (fun _ _ h => h)
theorem Sl.drew {w : World} {v : Value} {xs : List Int} (h : Sl w v xs) : Sl w.drew v xs := h.keep (fun _ _ h => h)
theorem Sl.nil (w : World) : Sl w (.slice none 0 0) [] := ⟨none, 0, 0, rfl, rfl, Nat.le_refl _, by omega, Ints.nil _ _, fun _ => rfl⟩
theorem Own.sl {e : TypeId} {base : Nat} {w : World} {v : Value} {xs : List Int} (h : Own e base w v xs) : Sl w v xs := by
  obtain ⟨a, c, rfl, h1, h2⟩ := h.ints
  refine ⟨a, _, c, rfl, rfl, h1, ?_, h2, fun ha => ?_⟩
  · rcases h.2 with ⟨hv, _⟩ | ⟨g, cap, cur, hv, hb, hg, hn, hm, hs, ht⟩
    · simp at hv; omega
    · simp only [Value.slice.injEq] at hv
      obtain ⟨_, _, rfl⟩ := hv
      unfold maxLen at hm; omega
  · rcases h.2 with ⟨hv, h0⟩ | ⟨g, cap, cur, hv, _⟩
    · exact h0
    · simp [ha] at hv
theorem Sl.get {w : World} {a : Option Addr} {n c : Nat} {xs : List Int} (h : Sl w (.slice a n c) xs) : xs.length = n ∧ n ≤ c ∧ c ≤ 9223372036854775807 ∧ Ints w a xs ∧ (a = none → n = 0) := by
  obtain ⟨a', n', c', h1, rest⟩ := h
  simp only [Value.slice.injEq] at h1
  obtain ⟨rfl, rfl, rfl⟩ := h1
  exact rest

end Go.Proofs.Ytmipnikhgihcpaa
