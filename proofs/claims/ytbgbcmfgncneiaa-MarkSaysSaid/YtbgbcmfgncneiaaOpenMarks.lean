/- Opening an array of 26 numbers, by value. -/
import Derived.Test.YtbgbcmfgncneiaaMark1
import Derived.ProofKit
import Derived.OpenShut
namespace Go.Proofs.Ytbgbcmfgncneiaa
open Go.ChangeShapes Go.WideShapes Go.ChangeAt Go.RowKit
set_option linter.unusedVariables false
set_option linter.unusedSimpArgs false

def intV : Value → Int
  | .int _ i => i
  | _ => 0
set_option maxRecDepth 100000 in
theorem open_marks {H : Type} {enc : TypeId × Value → H} {w : World} {base : Nat} {spare : Nat → Bool} {held : Bool} {r : Reach} {b0 : Nat} {v : Value} {d : DataW H} {p : List MemPlace}
    (hv : Value.okWide Try.prog w r b0 24 v) (h : DataW.Trod enc Try.prog w base spare held 24 v d p) : ∃ xs : List Int, v = .agg (mkA xs) ∧ xs.length = 26 := by
  have hc1 : Try.prog.cellsOf 3 = 1 := by kernel_rfl
  have hc26 : Try.prog.cellsOf 24 = 26 := by kernel_rfl
  obtain ⟨cs, rfl, hsz⟩ : ∃ cs, v = .agg cs ∧ cs.size = 26 := by
    simp only [Value.okWide, under_marks] at hv
    obtain ⟨cs, h1, h2, _⟩ := hv
    exact ⟨cs, h1, by rw [h2, hc26]⟩
  obtain ⟨fuel, hf⟩ := h
  obtain ⟨ys, m, -, -, hl, hyl, hi⟩ := DataW.trod_array under_marks hf
  refine ⟨cs.toList.map intV, ?_, by simp [hsz]⟩
  congr 1
  apply Array.ext_getElem?
  intro i
  by_cases hlt : i < 26
  · have h1 := hi i hlt
    rw [hc1, Nat.mul_one] at h1
    have hil : i < cs.toList.length := by simp [hsz, hlt]
    have hcell : ((Value.agg cs).cells.toList.drop i).take 1 = [cs[i]'(by omega)] := by
      simp only [Value.cells]
      rw [List.drop_eq_getElem_cons hil]
      simp
    rw [hcell, List.getElem?_eq_getElem (by omega)] at h1
    obtain ⟨k, hk, -, -⟩ := DataW.trod_int Try.underlying3 h1
    simp at hk
    rw [Array.getElem?_eq_getElem (by omega), hk]
    simp [mkA, hsz, hlt, hk, intV]
  · rw [Array.getElem?_eq_none (by omega), Array.getElem?_eq_none (by rw [mkA_size]; simp [hsz]; omega)]

end Go.Proofs.Ytbgbcmfgncneiaa
