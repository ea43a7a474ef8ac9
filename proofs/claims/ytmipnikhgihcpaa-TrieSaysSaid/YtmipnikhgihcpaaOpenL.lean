/- Opening a slice of slices of numbers that came in. -/
import Derived.Test.YtmipnikhgihcpaaVRow
import Derived.Deep.Slices
import Derived.Deep.Fields
import Derived.ChangeSame
import Derived.ProofKit
import Derived.OpenShut
namespace Go.Proofs.Ytmipnikhgihcpaa
open Go.ChangeShapes Go.WideShapes Go.ChangeAt Go.RowKit Go.Deep
set_option linter.unusedVariables false
set_option linter.unusedSimpArgs false

theorem open_sl0 {H : Type} {enc : TypeId × Value → H} {W : World} {fuel : Nat} {cs : List Value} {y : DataW H × List MemPlace}
    (h : DataW.trod enc Try.prog W 0 (fun _ => true) true fuel 22 cs = some y) :
    ∃ v xs, cs = [v] ∧ Sl W v xs ∧ (∀ x ∈ xs, InR x) := by
  rcases open_ints Try.underlying22 Try.underlying3 (by kernel_rfl) h with ⟨hcs, _⟩ | ⟨x, l, c, zs, hcs, _, hl, hm, hz, hx, hcell, hwz⟩
  · exact ⟨_, [], hcs, Sl.nil _, by simp⟩
  · simp only [if_true] at hz
    have hlen : (zs.take l).length = l := by simp; omega
    exact ⟨_, zs.take l, hcs, ⟨some x, l, c, rfl, hlen, hl, by unfold maxLen at hm; omega, Ints.of_row hcell (by omega), by simp⟩, fun y hy => InR.of_wf (hwz y (List.mem_of_mem_take hy))⟩
theorem open_slv {H : Type} {enc : TypeId × Value → H} {W : World} {a : Option Addr} {n c : Nat} {d : DataW H} {p : List MemPlace}
    (h : DataW.Trod enc Try.prog W 0 (fun _ => true) true 22 (.slice a n c) d p) :
    ∃ xs, Sl W (.slice a n c) xs ∧ (∀ x ∈ xs, InR x) := by
  obtain ⟨fuel, hf⟩ := h
  obtain ⟨v', xs, hcs, hs, hr⟩ := open_sl0 hf
  simp [Value.cells] at hcs
  subst hcs
  exact ⟨xs, hs, hr⟩

set_option maxRecDepth 100000 in
theorem open_lists {H : Type} {enc : TypeId × Value → H} {W : World} {fuel : Nat} {cs : List Value} {y : DataW H × List MemPlace}
    (h : DataW.trod enc Try.prog W 0 (fun _ => true) true fuel 46 cs = some y) :
    ∃ v vs X, cs = [v] ∧ Vs W v vs ∧ Lists W vs X ∧ (∀ i, i < X.length → ∀ x ∈ rx X i, InR x) := by
  rcases open_slice1 Try.underlying46 (by kernel_rfl) h with ⟨rfl, -⟩ | ⟨a, len, cap, m, n, V, D, Pl, rfl, -, hl, hm, hmm, -, hi⟩
  · exact ⟨_, [], [], rfl, Vs.nil _, Lists.nil _, fun i hi => by simp at hi⟩
  · simp only [if_true] at hmm
    subst hmm
    have hcap : m ≤ 9223372036854775807 := by unfold maxLen at hm; omega
    obtain ⟨b, o, sp'⟩ := a
    by_cases h0 : len = 0
    · exact ⟨_, [], [], rfl, ⟨_, len, m, rfl, by simp [h0], hl, hcap, .inl rfl, by simp⟩, Lists.nil _, fun i hi => by simp at hi⟩
    · have hsp : sp' = none := by
        have hc := (hi 0 (by omega)).1
        simpa [Addr.add] using World.cell?_spot hc
      subst hsp
      have hadd : ∀ k, (⟨b, o, none⟩ : Addr).add k = ⟨b, o + k, none⟩ := fun k => by unfold Addr.add; split <;> simp_all
      have hall : ∀ i : Nat, ∃ xs : List Int, i < len → Sl W (V i) xs ∧ ∀ x ∈ xs, InR x := by
        intro i
        by_cases hil : i < len
        · obtain ⟨v', xs, hcs, hs, hr⟩ := open_sl0 (hi i (by omega)).2
          simp at hcs
          subst hcs
          exact ⟨xs, fun _ => ⟨hs, hr⟩⟩
        · exact ⟨[], fun h => absurd h hil⟩
      obtain ⟨f, hf⟩ := Classical.axiomOfChoice hall
      have hX : ∀ i, i < len → rx ((List.range len).map f) i = f i := fun i hlt => by
        unfold rx; rw [List.getD_eq_getElem?_getD, List.getElem?_map, List.getElem?_range hlt]; rfl
      have hV : ∀ i, i < len → vx ((List.range len).map V) i = V i := fun i hlt => by
        unfold vx; rw [List.getD_eq_getElem?_getD, List.getElem?_map, List.getElem?_range hlt]; rfl
      refine ⟨_, (List.range len).map V, (List.range len).map f, rfl, ⟨_, len, m, rfl, by simp, hl, hcap, .inr ⟨b, o, rfl, fun i hi' => ?_⟩, by simp⟩, ⟨by simp, fun i hi' => ?_⟩, fun i hi' => ?_⟩
      · have hil : i < len := by simpa using hi'
        rw [hV i hil, ← hadd]; exact (hi i (by omega)).1
      · have hil : i < len := by simpa using hi'
        rw [hV i hil, hX i hil]; exact (hf i hil).1
      · have hil : i < len := by simpa using hi'
        rw [hX i hil]; exact (hf i hil).2

end Go.Proofs.Ytmipnikhgihcpaa
