/- Opening a struct of a list of numbers and a number, by value. -/
import Derived.Test.YtmipnikhgihcpaaSlib
import Derived.WalkKit
import Derived.ProofKit
import Derived.OpenShut
import Derived.ChangeOld
import Derived.Below
import Derived.SizedLaws
import Derived.ChangeSame
namespace Go.Proofs.Ytmipnikhgihcpaa
open Go.ChangeShapes Go.WideShapes Go.ChangeAt Go.RowKit
set_option linter.unusedVariables false
set_option linter.unusedSimpArgs false

set_option maxRecDepth 100000 in
theorem open_row2 {H : Type} {enc : TypeId × Value → H} {W : World} {base : Nat} {t : TypeId} {f0 f1 : Field} {v : Value} {d : DataW H} {p : List MemPlace}
    (ht : Try.prog.underlying t = some (.struct #[f0, f1])) (hc : Try.prog.cellsOf t = 2) (h0 : f0.offset = 0) (h1 : f1.offset = 1) (t0 : f0.type = 22) (t1 : f1.type = 3)
    (hval : Value.okWide Try.prog W .any base t v) (h : DataW.Trod enc Try.prog W 0 (fun _ => true) true t v d p) :
    ∃ a n c xs i, v = .agg #[.slice a n c, .int .i64 i] ∧ Ints W a xs ∧ xs.length = n ∧ n ≤ c ∧ c ≤ 9223372036854775807 ∧ (∀ x ∈ xs, InR x) ∧ (a = none → n = 0) ∧ InR i ∧ (a = none → c = 0) := by
  obtain ⟨cs, rfl, hsz⟩ := okWide_struct ht hval
  rw [hc] at hsz
  obtain ⟨fuel, hf⟩ := h
  obtain ⟨y0, y1, n, _, _, hf0, hf1⟩ := trod_struct2 ht hf
  obtain ⟨c0, c1, rfl⟩ : ∃ c0 c1, cs = #[c0, c1] := by
    rcases cs with ⟨l⟩
    match l, hsz with
    | [c0, c1], _ => exact ⟨c0, c1, rfl⟩
  have e0 : Try.prog.cellsOf 22 = 1 := by kernel_rfl
  have e1 : Try.prog.cellsOf 3 = 1 := by kernel_rfl
  rw [h0, t0, e0] at hf0
  rw [h1, t1, e1] at hf1
  simp [Value.cells] at hf0 hf1
  obtain ⟨i, hi, -, hw⟩ := DataW.trod_int Try.underlying3 hf1
  simp at hi
  subst hi
  rcases open_ints Try.underlying22 Try.underlying3 (by kernel_rfl) hf0 with ⟨hcs, _⟩ | ⟨x, l, c, zs, hcs, _, hl, hm, hz, hx, hcell, hwz⟩
  · simp at hcs
    subst hcs
    exact ⟨none, 0, 0, [], i, rfl, .inl rfl, rfl, by omega, by omega, by simp, fun _ => rfl, InR.of_wf hw, fun _ => rfl⟩
  · simp at hcs
    subst hcs
    simp only [if_true] at hz
    exact ⟨some x, l, c, zs.take l, i, rfl, Ints.of_row hcell (by omega), by simp; omega, hl, by simpa [maxLen] using hm, fun y hy => InR.of_wf (hwz y (List.mem_of_mem_take hy)), by simp, InR.of_wf hw, by simp⟩

end Go.Proofs.Ytmipnikhgihcpaa
