/- Opening a slice of splices that came in. -/
import Derived.Test.YtbgbcmfgncneiaaSpl1
import Derived.Deep.Slices
import Derived.Deep.Fields
import Derived.ChangeSame
import Derived.ProofKit
import Derived.OpenShut
namespace Go.Proofs.Ytbgbcmfgncneiaa
open Go.ChangeShapes Go.WideShapes Go.ChangeAt Go.RowKit Go.Deep
set_option linter.unusedVariables false
set_option linter.unusedSimpArgs false

section
variable {H : Type} {enc : TypeId × Value → H} {P : Program} {w : World} {base : Nat} {spare : Nat → Bool} {held : Bool}
theorem open_slice_fields {t e : TypeId} {fs : Array Field} {fuel : Nat} {cs : List Value} {x : DataW H × List MemPlace} (ht : P.underlying t = some (.slice e)) (he : P.underlying e = some (.struct fs))
    (hone : oneCellFields P fs = true) (hC : P.cellsOf e = fs.size) (h : DataW.trod enc P w base spare held fuel t cs = some x) :
    (cs = [.slice none 0 0] ∧ x = (.nil, [])) ∨
    ∃ (a : Addr) (len cap m : Nat) (D : Nat → DataW H) (Pl : Nat → List MemPlace), cs = [.slice (some a) len cap] ∧ base ≤ a.block ∧ len ≤ cap ∧ cap ≤ maxLen ∧ m = (if spare a.block then cap else len) ∧
      x = (.slice ((List.range len).map D) ((List.range (m - len)).map fun j => D (len + j)), MemPlace.row a (m * fs.size) ++ (List.range m).flatMap Pl) ∧
      ∀ i, i < m → ∃ (ys : List (DataW H × List MemPlace)) (n : Nat), D i = .agg (ys.map (·.1)) ∧ Pl i = ys.flatMap (·.2) ∧ ys.length = fs.size ∧
        ∀ (j : Nat) (f : Field), fs[j]? = some f → ∃ (v : Value) (y : DataW H × List MemPlace), w.cell? (a.add (i * fs.size + j)) = some v ∧ ys[j]? = some y ∧ DataW.trod enc P w base spare held n f.type [v] = some y := by
  rcases open_slice ht h with h0 | ⟨a, len, cap, m, n, D, Pl, hcs, hb, hl, hm, hmm, hx, hi⟩
  · exact .inl h0
  · refine .inr ⟨a, len, cap, m, D, Pl, hcs, hb, hl, hm, hmm, by rw [hC] at hx; exact hx, fun i him => ?_⟩
    obtain ⟨cs', hc, ht'⟩ := hi i him
    rw [hC] at hc
    obtain ⟨ys, n', hn', hy, hlen, hyl, hf⟩ := DataW.trod_struct he ht'
    obtain ⟨_, hcl, hat⟩ := World.cells?_some hc
    simp only [Prod.mk.injEq] at hy
    refine ⟨ys, n', hy.1, hy.2, hyl, fun j f hj => ?_⟩
    obtain ⟨ho, hk⟩ := hone_of hone j f hj
    have hjl : j < fs.size := (Array.getElem?_eq_some_iff.1 hj).1
    have hcell := hat j hjl
    have hv : cs'[j]? = some (cs'[j]'(by omega)) := List.getElem?_eq_getElem (by omega)
    have h1 := hf j f hj
    rw [ho, hk] at h1
    have hone' : (cs'.drop j).take 1 = [cs'[j]'(by omega)] := by
      rw [List.drop_eq_getElem_cons (by omega)]
      rfl
    rw [hone'] at h1
    have hys : ys[j]? = some (ys[j]'(by omega)) := List.getElem?_eq_getElem (by omega)
    refine ⟨_, _, ?_, hys, h1.trans hys⟩
    rw [← Go.Deep.add_add, hcell, hv]
end

set_option maxRecDepth 100000 in
theorem open_spls {H : Type} {enc : TypeId × Value → H} {W : World} {f0 f1 f2 : Field} {fuel : Nat} {cs : List Value} {y : DataW H × List MemPlace}
    (ht : Try.prog.underlying 22 = some (.slice 127)) (he : Try.prog.underlying 127 = some (.struct #[f0, f1, f2])) (hone : oneCellFields Try.prog #[f0, f1, f2] = true) (hC : Try.prog.cellsOf 127 = 3)
    (t0 : f0.type = 3) (t1 : f1.type = 3) (t2 : f2.type = 35)
    (h : DataW.trod enc Try.prog W 0 (fun _ => true) true fuel 22 cs = some y) :
    ∃ a n c es, cs = [.slice a n c] ∧ Spls W a es ∧ es.length = n ∧ n ≤ c ∧ c ≤ 9223372036854775807 ∧ (a = none → n = 0) := by
  rcases open_slice_fields ht he hone hC h with ⟨rfl, -⟩ | ⟨a, len, cap, m, D, Pl, rfl, -, hl, hm, hmm, -, hi⟩
  · exact ⟨none, 0, 0, [], rfl, .inl rfl, rfl, by omega, by omega, fun _ => rfl⟩
  · simp only [if_true] at hmm
    subst hmm
    have hcap : m ≤ 9223372036854775807 := by unfold maxLen at hm; omega
    obtain ⟨b, o, sp'⟩ := a
    by_cases h0 : len = 0
    · exact ⟨_, len, m, [], rfl, .inl rfl, by simp [h0], hl, hcap, by simp⟩
    · have hsp : sp' = none := by
        obtain ⟨ys, n, -, -, -, hf⟩ := hi 0 (by omega)
        obtain ⟨v, y, hc, -, -⟩ := hf 0 f0 rfl
        simpa [Addr.add] using World.cell?_spot hc
      subst hsp
      have hadd : ∀ k, (⟨b, o, none⟩ : Addr).add k = ⟨b, o + k, none⟩ := fun k => by unfold Addr.add; split <;> simp_all
      have hall : ∀ i : Nat, ∃ s : Sp, i < len → SplAt W b (o + i * 3) s := by
        intro i
        by_cases hil : i < len
        · obtain ⟨ys, n, -, -, -, hf⟩ := hi i (by omega)
          obtain ⟨v0, y0, c0, -, r0⟩ := hf 0 f0 rfl
          obtain ⟨v1, y1, c1, -, r1⟩ := hf 1 f1 rfl
          obtain ⟨v2, y2, c2, -, r2⟩ := hf 2 f2 rfl
          rw [t0] at r0
          rw [t1] at r1
          rw [t2] at r2
          obtain ⟨i0, hi0, -, -⟩ := DataW.trod_int Try.underlying3 r0
          obtain ⟨i1, hi1, -, -⟩ := DataW.trod_int Try.underlying3 r1
          simp at hi0 hi1
          subst hi0 hi1
          rw [hadd] at c0 c1 c2
          simp only [List.size_toArray, List.length_cons, List.length_nil, Nat.zero_add, Nat.reduceAdd, Nat.add_zero] at c0 c1 c2
          rcases open_ints Try.underlying35 Try.underlying3 (by kernel_rfl) r2 with ⟨hcs, _⟩ | ⟨x, l, c, zs, hcs, _, hl', hm', hz, hx, hcell, hwz⟩
          · simp at hcs
            subst hcs
            exact ⟨⟨i0, i1, []⟩, fun _ => ⟨none, 0, c0, c1, c2, .inl rfl, by simp, by omega, fun _ => rfl⟩⟩
          · simp at hcs
            subst hcs
            simp only [if_true] at hz
            have hlen : (zs.take l).length = l := by simp; omega
            exact ⟨⟨i0, i1, zs.take l⟩, fun _ => ⟨some x, c, c0, c1, by rw [hlen]; exact c2, Ints.of_row hcell (by omega), by rw [hlen]; exact hl', by unfold maxLen at hm'; omega, by simp⟩⟩
        · exact ⟨⟨0, 0, []⟩, fun h => absurd h hil⟩
      obtain ⟨f, hf⟩ := Classical.axiomOfChoice hall
      refine ⟨some ⟨b, o, none⟩, len, m, (List.range len).map f, rfl, .inr ⟨b, o, rfl, fun i hi' => ?_⟩, by simp, hl, hcap, by simp⟩
      have hil : i < len := by simpa using hi'
      rw [sp_eq hi']
      simpa using hf i hil

end Go.Proofs.Ytbgbcmfgncneiaa
