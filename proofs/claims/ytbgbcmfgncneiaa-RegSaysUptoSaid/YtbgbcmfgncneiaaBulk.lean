/- What the bound of an Upto statement gives; opening slices of numbers and registers, with their bulk. -/
import Derived.Test.YtbgbcmfgncneiaaRows
import Derived.Test.YtbgbcmfgncneiaaReg1
import Derived.ProofKit
import Derived.OpenShut
namespace Go.Proofs.Ytbgbcmfgncneiaa
open Go.ChangeShapes Go.WideShapes Go.ChangeAt Go.RowKit
set_option linter.unusedVariables false
set_option linter.unusedSimpArgs false

theorem bulk_one {H : Type} (d : DataW H) : 1 ≤ Rows.uptoBulk d := by
  cases d with
  | lit l => cases l <;> simp [Rows.uptoBulk]
  | nil => simp [Rows.uptoBulk]
  | ptr d => simp [Rows.uptoBulk]
  | slice elems spare => simp [Rows.uptoBulk]
  | agg parts => simp [Rows.uptoBulk]
  | iface t d => simp [Rows.uptoBulk]
  | map entries => simp [Rows.uptoBulk]
  | held h => simp [Rows.uptoBulk]
theorem bulk_part {H : Type} {d : DataW H} {l : List (DataW H)} (h : d ∈ l) : Rows.uptoBulk d ≤ Rows.uptoBulkAll l := by
  induction l with
  | nil => cases h
  | cons x r ih =>
    simp only [Rows.uptoBulkAll]
    cases List.mem_cons.1 h with
    | inl e => subst e; omega
    | inr e => have := ih e; omega
theorem bulk_append {H : Type} (l r : List (DataW H)) : Rows.uptoBulkAll (l ++ r) = Rows.uptoBulkAll l + Rows.uptoBulkAll r := by
  induction l with
  | nil => simp [Rows.uptoBulkAll]
  | cons x l ih => simp only [List.cons_append, Rows.uptoBulkAll, ih]; omega
theorem bulk_length {H : Type} (l : List (DataW H)) : l.length ≤ Rows.uptoBulkAll l := by
  induction l with
  | nil => simp [Rows.uptoBulkAll]
  | cons x r ih => have := bulk_one x; simp only [Rows.uptoBulkAll, List.length_cons]; omega
theorem bulk_slice {H : Type} (elems spare : List (DataW H)) : elems.length + spare.length + 1 ≤ Rows.uptoBulk (.slice elems spare) := by
  have h1 := bulk_length elems
  have h2 := bulk_length spare
  simp only [Rows.uptoBulk]
  omega
theorem bulk_elem {H : Type} {d : DataW H} {elems spare : List (DataW H)} (h : d ∈ elems) : Rows.uptoBulk d + 1 ≤ Rows.uptoBulk (.slice elems spare) := by
  have := bulk_part h
  simp only [Rows.uptoBulk]
  omega
theorem bulk_agg {H : Type} {d : DataW H} {l : List (DataW H)} (h : d ∈ l) : Rows.uptoBulk d + 1 ≤ Rows.uptoBulk (.agg l) := by
  have := bulk_part h
  simp only [Rows.uptoBulk]
  omega
theorem bulk_string {H : Type} (bytes : List UInt8) : Rows.uptoBulk (DataW.lit (H := H) (.string bytes)) = bytes.length + 1 := by simp [Rows.uptoBulk]
theorem bulk_bound {H : Type} {l : List (DataW H)} (hk : Rows.uptoSmall H l = true) : Rows.uptoBulkAll l ≤ 1048576 := of_decide_eq_true hk
theorem bulk_arg {H : Type} {l : List (DataW H)} (hk : Rows.uptoSmall H l = true) {d : DataW H} (h : d ∈ l) : Rows.uptoBulk d ≤ 1048576 :=
  Nat.le_trans (bulk_part h) (bulk_bound hk)

/-- a slice of numbers that came in -/
theorem open_sl {H : Type} {enc : TypeId × Value → H} {W : World} {fuel : Nat} {cs : List Value} {y : DataW H × List MemPlace}
    (h : DataW.trod enc Try.prog W 0 (fun _ => true) true fuel 35 cs = some y) :
    ∃ v xs, cs = [v] ∧ Sl W v xs ∧ (∀ x ∈ xs, InR x) ∧ xs.length ≤ Rows.uptoBulk y.1 := by
  rcases open_ints Try.underlying35 Try.underlying3 (by kernel_rfl) h with ⟨hcs, _⟩ | ⟨x, l, c, zs, hcs, _, hl, hm, hz, hx, hcell, hwz⟩
  · exact ⟨_, [], hcs, Sl.nil _, by simp, Nat.zero_le _⟩
  · simp only [if_true] at hz
    have hlen : (zs.take l).length = l := by simp; omega
    refine ⟨_, zs.take l, hcs, ⟨some x, l, c, rfl, hlen, hl, by unfold maxLen at hm; omega, Ints.of_row hcell (by omega), by simp⟩, fun y hy => InR.of_wf (hwz y (List.mem_of_mem_take hy)), ?_⟩
    rw [hx]
    refine Nat.le_trans ?_ (Nat.le_trans (Nat.le_of_lt (Nat.lt_of_lt_of_le (Nat.lt_succ_self _) (bulk_slice _ _))) (Nat.le_refl _))
    simp [lits]

theorem open_ints_up {H : Type} {enc : TypeId × Value → H} {W : World} {a : Option Addr} {n c : Nat} {d : DataW H} {p : List MemPlace}
    (h : DataW.Trod enc Try.prog W 0 (fun _ => true) true 35 (.slice a n c) d p) :
    ∃ xs, Ints W a xs ∧ xs.length = n ∧ n ≤ c ∧ c ≤ 9223372036854775807 ∧ (a = none → n = 0) ∧ (∀ x ∈ xs, InR x) ∧ n ≤ Rows.uptoBulk d := by
  obtain ⟨fuel, hf⟩ := h
  obtain ⟨v', xs, hcs, hs, hr, hb⟩ := open_sl hf
  simp [Value.cells] at hcs
  subst hcs
  obtain ⟨h1, h2, h3, h4, h5⟩ := hs.get
  exact ⟨xs, h4, h1, h2, h3, h5, hr, h1 ▸ hb⟩

set_option maxRecDepth 100000 in
theorem open_regs {H : Type} {enc : TypeId × Value → H} {w : World} {r : Reach} {b0 : Nat} {v : Value} {d : DataW H} {p : List MemPlace}
    (hv : Value.okWide Try.prog w r b0 37 v) (h : DataW.Trod enc Try.prog w 0 (fun _ => true) true 37 v d p) :
    ∃ vs X, v = .agg (rgA vs) ∧ Rgs w vs X ∧ (∀ i, i < 27 → (rx X i).length ≤ Rows.uptoBulk d) ∧ (∀ i, i < 27 → ∀ x ∈ rx X i, InR x) := by
  have hc1 : Try.prog.cellsOf 35 = 1 := by kernel_rfl
  have hc27 : Try.prog.cellsOf 37 = 27 := by kernel_rfl
  obtain ⟨cs, rfl, hsz⟩ : ∃ cs, v = .agg cs ∧ cs.size = 27 := by
    simp only [Value.okWide, under_regs] at hv
    obtain ⟨cs, h1, h2, _⟩ := hv
    exact ⟨cs, h1, by rw [h2, hc27]⟩
  obtain ⟨fuel, hf⟩ := h
  obtain ⟨ys, m, -, hy, hl, hyl, hi⟩ := DataW.trod_array under_regs hf
  simp only [Prod.mk.injEq] at hy
  have hall : ∀ i : Nat, ∃ xs : List Int, i < 27 → Sl w (vx cs.toList i) xs ∧ xs.length ≤ Rows.uptoBulk d ∧ ∀ x ∈ xs, InR x := by
    intro i
    by_cases hlt : i < 27
    · have h1 := hi i hlt
      rw [hc1, Nat.mul_one] at h1
      have hil : i < cs.toList.length := by simp [hsz, hlt]
      have hcell : ((Value.agg cs).cells.toList.drop i).take 1 = [cs[i]'(by omega)] := by
        simp only [Value.cells]
        rw [List.drop_eq_getElem_cons hil]
        simp
      rw [hcell, List.getElem?_eq_getElem (by omega)] at h1
      obtain ⟨v', xs, hv', hs, hr, hb⟩ := open_sl h1
      simp at hv'
      subst hv'
      refine ⟨xs, fun _ => ⟨?_, ?_, hr⟩⟩
      · have : vx cs.toList i = cs[i]'(by omega) := by simp [vx, hsz, hlt]
        rw [this]; exact hs
      · refine Nat.le_trans hb ?_
        rw [hy.1]
        have hmem : (ys[i]'(by omega)).1 ∈ ys.map (·.1) := List.mem_map.2 ⟨_, List.getElem_mem _, rfl⟩
        have := bulk_agg hmem
        omega
    · exact ⟨[], fun h => absurd h hlt⟩
  obtain ⟨f, hf⟩ := Classical.axiomOfChoice hall
  have hX : ∀ i, i < 27 → rx ((List.range 27).map f) i = f i := fun i hlt => by
    unfold rx
    rw [List.getD_eq_getElem?_getD, List.getElem?_map, List.getElem?_range hlt]
    rfl
  refine ⟨cs.toList, (List.range 27).map f, by simp [rgA], ⟨by simp [hsz], by simp, fun i hlt => ?_⟩, fun i hlt => ?_, fun i hlt => ?_⟩
  · rw [hX i hlt]; exact (hf i hlt).1
  · rw [hX i hlt]; exact (hf i hlt).2.1
  · rw [hX i hlt]; exact (hf i hlt).2.2

end Go.Proofs.Ytbgbcmfgncneiaa
