/- Opening a struct of one-cell fields, of whatever number, by value. -/
import Derived.Test.YtmipnikhgihcpaaSlib
import Derived.Lib.SmallJoins
import Derived.ProofKit
import Derived.OpenShut
namespace Go.Proofs.Ytmipnikhgihcpaa
open Go.Joins Go.ChangeShapes Go.WideShapes Go.RowKit Go.Deep
set_option linter.unusedVariables false
set_option linter.unusedSimpArgs false

section
variable {H : Type} {enc : TypeId × Value → H} {P : Program} {w : World} {base : Nat} {spare : Nat → Bool} {held : Bool}
theorem open_aggN {r : Reach} {b0 : Nat} {t : TypeId} {fs : Array Field} {v : Value} {d : DataW H} {p : List MemPlace} (hs : P.underlying t = some (.struct fs)) (hone : oneCellFields P fs = true) (hC : P.cellsOf t = fs.size)
    (hv : Value.okWide P w r b0 t v) (h : DataW.Trod enc P w base spare held t v d p) :
    ∃ (vs : List Value) (ys : List (DataW H × List MemPlace)) (n : Nat), v = .agg vs.toArray ∧ vs.length = fs.size ∧ ys.length = fs.size ∧ d = .agg (ys.map (·.1)) ∧
      ∀ (i : Nat) (f : Field), fs[i]? = some f → ∃ vi yi, vs[i]? = some vi ∧ ys[i]? = some yi ∧ DataW.trod enc P w base spare held n f.type [vi] = some yi := by
  obtain ⟨cs, rfl, hsz⟩ := okWide_struct hs hv
  obtain ⟨fuel, hf⟩ := h
  obtain ⟨xs, n, _, hx, _, hlen, hg⟩ := DataW.trod_struct hs hf
  simp only [Prod.mk.injEq] at hx
  refine ⟨cs.toList, xs, n, by simp, by rw [Array.length_toList, hsz, hC], hlen, hx.1, fun i f hi => ?_⟩
  obtain ⟨o, k⟩ := hone_of hone i f hi
  have hlt : i < fs.size := (Array.getElem?_eq_some_iff.1 hi).1
  have h1 := hg i f hi
  rw [o, k] at h1
  have hil : i < cs.toList.length := by rw [Array.length_toList, hsz, hC]; exact hlt
  have hcell : ((Value.agg cs).cells.toList.drop i).take 1 = [cs.toList[i]'hil] := by
    simp only [Value.cells]
    rw [List.drop_eq_getElem_cons hil]
    simp
  rw [hcell] at h1
  have hxl : i < xs.length := by omega
  rw [List.getElem?_eq_getElem hxl] at h1
  exact ⟨_, _, List.getElem?_eq_getElem hil, List.getElem?_eq_getElem hxl, h1⟩
end
theorem trod_int1 {H : Type} {enc : TypeId × Value → H} {w : World} {base : Nat} {spare : Nat → Bool} {held : Bool} {n : Nat} {t : TypeId} {v : Value} {y : DataW H × List MemPlace} (ht : t = 3) (h : DataW.trod enc Try.prog w base spare held n t [v] = some y) : ∃ a : Int, v = .int .i64 a ∧ InR a := by
  subst ht
  obtain ⟨i, hi, -, hw⟩ := DataW.trod_int Try.underlying3 h
  simp at hi
  exact ⟨i, hi, InR.of_wf hw⟩

set_option maxRecDepth 100000 in
theorem open_i3 {H : Type} {enc : TypeId × Value → H} {w : World} {base : Nat} {spare : Nat → Bool} {held : Bool} {r : Reach} {b0 : Nat} {t : TypeId} {f0 f1 f2 : Field} {v : Value} {d : DataW H} {p : List MemPlace} (hs : Try.prog.underlying t = some (.struct #[f0, f1, f2])) (hone : oneCellFields Try.prog #[f0, f1, f2] = true) (hC : Try.prog.cellsOf t = 3)
    (h0 : f0.type = 3) (h1 : f1.type = 3) (h2 : f2.type = 3)
    (hv : Value.okWide Try.prog w r b0 t v) (h : DataW.Trod enc Try.prog w base spare held t v d p) :
    ∃ a0 a1 a2 : Int, v = .agg #[.int .i64 a0, .int .i64 a1, .int .i64 a2] ∧ InR a0 ∧ InR a1 ∧ InR a2 := by
  obtain ⟨vs, ys, n, rfl, hl, -, -, hg⟩ := open_aggN hs hone hC hv h
  match vs, hl with
  | [v0, v1, v2], _ =>
    obtain ⟨u0, y0, e0, -, g0⟩ := hg 0 f0 rfl
    obtain ⟨u1, y1, e1, -, g1⟩ := hg 1 f1 rfl
    obtain ⟨u2, y2, e2, -, g2⟩ := hg 2 f2 rfl
    simp at e0 e1 e2
    subst e0 e1 e2
    obtain ⟨a0, rfl, r0⟩ := trod_int1 h0 g0
    obtain ⟨a1, rfl, r1⟩ := trod_int1 h1 g1
    obtain ⟨a2, rfl, r2⟩ := trod_int1 h2 g2
    exact ⟨a0, a1, a2, rfl, r0, r1, r2⟩

end Go.Proofs.Ytmipnikhgihcpaa
