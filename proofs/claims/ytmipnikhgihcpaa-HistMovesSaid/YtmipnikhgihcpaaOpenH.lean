/- Opening a history by value. -/
import Derived.Test.YtmipnikhgihcpaaOpenL
import Derived.Test.YtmipnikhgihcpaaOpenN
import Derived.Test.YtmipnikhgihcpaaHist1
namespace Go.Proofs.Ytmipnikhgihcpaa
open Go.ChangeShapes Go.WideShapes Go.ChangeAt Go.RowKit Go.Deep
set_option linter.unusedVariables false
set_option linter.unusedSimpArgs false

set_option maxRecDepth 100000 in
theorem open_hist {H : Type} {enc : TypeId × Value → H} {w : World} {r : Reach} {b0 : Nat} {t : TypeId} {f0 f1 f2 f3 f4 f5 : Field} {v : Value} {d : DataW H} {p : List MemPlace} (hs : Try.prog.underlying t = some (.struct #[f0, f1, f2, f3, f4, f5])) (hone : oneCellFields Try.prog #[f0, f1, f2, f3, f4, f5] = true) (hC : Try.prog.cellsOf t = 6)
    (h0 : f0.type = 46) (h1 : f1.type = 3) (h2 : f2.type = 3) (h3 : f3.type = 22) (h4 : f4.type = 22) (h5 : f5.type = 4)
    (hv : Value.okWide Try.prog w r b0 t v) (h : DataW.Trod enc Try.prog w 0 (fun _ => true) true t v d p) :
    ∃ lv most wher sv pv older hh, v = .agg (hiC lv most wher sv pv older) ∧ HiR w lv most wher sv pv older hh := by
  obtain ⟨vs, ys, n, rfl, hl, -, -, hg⟩ := open_aggN hs hone hC hv h
  match vs, hl with
  | [v0, v1, v2, v3, v4, v5], _ =>
    obtain ⟨u0, y0, e0, -, g0⟩ := hg 0 f0 rfl
    obtain ⟨u1, y1, e1, -, g1⟩ := hg 1 f1 rfl
    obtain ⟨u2, y2, e2, -, g2⟩ := hg 2 f2 rfl
    obtain ⟨u3, y3, e3, -, g3⟩ := hg 3 f3 rfl
    obtain ⟨u4, y4, e4, -, g4⟩ := hg 4 f4 rfl
    obtain ⟨u5, y5, e5, -, g5⟩ := hg 5 f5 rfl
    simp at e0 e1 e2 e3 e4 e5
    subst e0 e1 e2 e3 e4 e5
    rw [h0] at g0; rw [h3] at g3; rw [h4] at g4; rw [h5] at g5
    obtain ⟨v', us, X, hc0, hV, hL, -⟩ := open_lists g0
    obtain ⟨a1, rfl, r1⟩ := trod_int1 h1 g1
    obtain ⟨a2, rfl, r2⟩ := trod_int1 h2 g2
    obtain ⟨v3', xs3, hc3, hs3, -⟩ := open_sl0 g3
    obtain ⟨v4', xs4, hc4, hs4, -⟩ := open_sl0 g4
    obtain ⟨b, hb, -⟩ := DataW.trod_bool Try.underlying4 g5
    simp at hc0 hc3 hc4 hb
    subst hc0 hc3 hc4 hb
    exact ⟨v0, a1, a2, v3, v4, b, ⟨X, a1, a2, xs3, xs4, b⟩, rfl, ⟨us, hV, hL⟩, rfl, rfl, hs3, hs4, rfl⟩

end Go.Proofs.Ytmipnikhgihcpaa
