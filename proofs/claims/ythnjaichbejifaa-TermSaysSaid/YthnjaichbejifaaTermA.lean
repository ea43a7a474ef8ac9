/- append onto a slice cut at its length: a law at a step of a drawn region. -/
import Derived.Test.YthnjaichbejifaaTerm4
namespace Go.Proofs.Ythnjaichbejifaa
open Go.RowKit
set_option linter.unusedVariables false
set_option linter.unusedSimpArgs false

theorem run_app_zero (w : World) (ty : TypeId) (b : Addr) (p : Nat) (a2 : Option Addr) (c2 : Nat) (hp : p ≤ 4096) :
    (Builtin.append_ #[24, 24] ty #[.slice (some b) p p, .slice a2 0 c2]).run Try.prog w = .ok (.slice (some b) p p) w := by
  obtain ⟨i0, hi, hz0, hz1, hz2⟩ := info_parts info_int
  rcases a2 with _ | a2
  all_goals
    simp [Builtin.append_, run_underlying Try.underlying24, sizeOf, typeInfo, hi, Builtin.lenOf, Builtin.firstCells, loadCells, loadCellsFrom, storeCells]

theorem step_app_cut {ops : Array Oper} {o : Oper} {a : Act} {K : Act → World → Prop} {Q : Exit → Act → World → Prop} {w : World} {E : Prop} (hgd : o.guard = none) (s x : Operand)
    (ho : o.op = .call { callee := .builtin .append, args := #[s, x], argTypes := #[24, 24] })
    (g p m base2 : Nat) (xs ys : List Int) (v2 : Value) (hs : a.eval s = .slice (some ⟨g, 0, none⟩) p p) (hxs : Ints w (some ⟨g, 0, none⟩) xs) (hp : xs.length = p) (hx : a.eval x = v2)
    (hown : Own 3 base2 w v2 ys) (hm : ys.length = m) (hsm : p + m ≤ 4096)
    (h : ∀ v' w', (m = 0 → v' = .slice (some ⟨g, 0, none⟩) p p ∧ w' = w) → (0 < m → ∃ g' c', v' = .slice (some ⟨g', 0, none⟩) (p + m) c' ∧ RowB w.heap.size w' g' (p + m) c' (xs ++ ys) ∧ Below w.heap.size w w') → K (a.put o.dst v') w') :
    if Region.wanted o (yielded ops a.tmps) = true then Oper.wp Try.prog o a w K Q else E := by
  have hw : Region.wanted o (yielded ops a.tmps) = true := by simp [Region.wanted, hgd]
  rw [if_pos hw]
  by_cases h0 : m = 0
  · subst h0
    obtain ⟨a2, n2, c2, rfl⟩ := hown.form
    obtain rfl : n2 = 0 := by have := hown.get.1; omega
    have hr := run_app_zero w o.type ⟨g, 0, none⟩ p a2 c2 (by omega)
    unfold Oper.wp execOp
    simp only [ho, resolve, invoke, builtin, Sem.run_bind, Sem.run_pure, Result.andThen_ok, List.map_toArray, List.map_cons, List.map_nil, hs, hx, hr]
    exact h _ _ (fun _ => ⟨rfl, rfl⟩) (fun hh => by omega)
  · obtain ⟨g2, k2, c2, rfl, m1, m2, m3, m4, m5, m6, hI⟩ := hown.full (by omega)
    obtain rfl : k2 = m := by omega
    obtain ⟨i0, hi, hz0, hz1, hz2⟩ := info_parts info_int
    have hr := run_append_grow (P := Try.prog) w 24 o.type 3 i0 (.int .i64 0) Try.underlying24 hi hz0 ⟨g, 0, none⟩ p p (xs.map (Value.int .i64)) (by rw [hz1]; simp [hp]) (by
        intro j v hj
        have hlt : j < xs.length := by
          rcases Nat.lt_or_ge j xs.length with h | h
          · exact h
          · simp [h] at hj
        obtain ⟨ad, h1, h2⟩ := hxs.src (by omega)
        cases h1; exact h2 j v hj)
      ⟨g2, 0, none⟩ k2 c2 (ys.map (Value.int .i64)) (by rw [hz1]; simp [hm]) (by
        intro j v hj
        obtain ⟨ad, h1, h2⟩ := hI.src (by omega)
        cases h1; exact h2 j v hj) (by omega) (by omega) (growslice_fits (by omega) (by rw [hz2]; omega))
    unfold Oper.wp execOp
    simp only [ho, resolve, invoke, builtin, Sem.run_bind, Sem.run_pure, Result.andThen_ok, List.map_toArray, List.map_cons, List.map_nil, hs, hx, hr]
    refine h _ _ (fun hh => absurd hh h0) (fun _ => ⟨_, _, rfl, ⟨Nat.le_refl _, ⟨_, heap_alloc_new w.drew _, ?_, ?_⟩, by simp [hp, hm], grownCap_ge _ _ _ _⟩, (Below.refl _ _).drew.alloc (Nat.le_refl _) _⟩)
    · simp [hp, hm]
    · simp only [Array.toList_append, List.append_assoc, List.map_append]
      rw [← List.append_assoc, List.take_append_of_le_length (by simp; omega), List.take_of_length_le (by simp; omega)]

end Go.Proofs.Ythnjaichbejifaa
