/- Arrays of numbers, by value: equal to themselves; loads, stores and indexes of whole arrays. -/
import Derived.Test.YtbgbcmfgncneiaaSlib
import Derived.Deep.MidRow
import Derived.Laws.Rows
namespace Go.Proofs.Ytbgbcmfgncneiaa
open Go.RowKit
set_option linter.unusedVariables false
set_option linter.unusedSimpArgs false

theorem loop_yield {α β : Type} {P : Program} (b : β) (f : α → β → Sem (ForInStep β)) (L : List α) (h : ∀ i, i ∈ L → ∀ w, (f i b).run P w = .ok (.yield b) w) : ∀ w, (forIn L b f).run P w = .ok b w := by
  induction L with
  | nil => intro w; simp [Sem.run_pure]
  | cons a l ih =>
    intro w
    rw [List.forIn_cons, Sem.run_bind, h a (by simp) w, Result.andThen_ok]
    exact ih (fun i hi => h i (by simp [hi])) w

theorem under_marks : Try.prog.underlying 24 = some (.array 26 3) := by kernel_rfl
theorem info_marks : (Try.prog.info? 24).map (fun i => (i.zero, i.size, i.bytes)) = some (some (.agg (Array.replicate 26 (.int .i64 0))), 26, 208) := by kernel_rfl
theorem size_marks : (Try.prog.info? 24).map (·.size) = some 26 := by kernel_rfl

theorem equalIn_int (d : Nat) (x : Int) (w : World) : (Op.equalIn (d + 1) 3 (.int .i64 x) (.int .i64 x)).run Try.prog w = .ok true w := by
  simp [Op.equalIn, run_underlying Try.underlying3, go_sem]

theorem eql_marks (xs : List Int) (hx : xs.length = 26) (w : World) :
    (Op.equal 24 (.agg (xs.map (Value.int .i64)).toArray) (.agg (xs.map (Value.int .i64)).toArray)).run Try.prog w = .ok true w := by
  obtain ⟨i0, hi0, hz0, hz1, hz2⟩ := info_parts info_int
  unfold Op.equal Op.maxDepth
  rw [show (10000 : Nat) = 9998 + 1 + 1 from rfl]
  unfold Op.equalIn
  simp only [Sem.run_bind, run_underlying under_marks, Result.andThen_ok]
  simp [sizeOf, typeInfo, hi0, hz1, Std.Legacy.Range.forIn_eq_forIn_range', go_sem]
  rw [loop_yield (none, ()) _ _ (fun i hi w => ?_)]
  · simp [go_sem]
  · have hl : i < xs.length := by
      have := (List.mem_range'_1.1 hi).2
      omega
    have hagg : ∀ w, (isAgg 3).run Try.prog w = .ok false w := by
      intro w
      unfold isAgg
      rw [Sem.run_bind, run_underlying Try.underlying3 w]
      simp [go_sem]
    have he := equalIn_int 9998 (xs[i]'hl)
    simp [Sem.run_bind, hagg, List.getElem?_eq_getElem hl, go_sem, he]

/-- the walk's own form -/
theorem run_eql_marks (xs : List Int) (hx : xs.length = 26) (w : World) :
    (binOp .eql 24 (.agg (xs.map (Value.int .i64)).toArray) (.agg (xs.map (Value.int .i64)).toArray)).run Try.prog w = .ok (.bool true) w := by
  have := eql_marks xs hx w
  simp [binOp, this, go_sem]
theorem run_neq_marks (xs : List Int) (hx : xs.length = 26) (w : World) :
    (binOp .neq 24 (.agg (xs.map (Value.int .i64)).toArray) (.agg (xs.map (Value.int .i64)).toArray)).run Try.prog w = .ok (.bool false) w := by
  have := eql_marks xs hx w
  simp [binOp, this, go_sem]
theorem run_index_marks (xs : List Int) (hx : xs.length = 26) (k : Nat) (hk : k < 26) (w : World) :
    (Instr.index 24 (.agg (xs.map (Value.int .i64)).toArray) (.int .i64 (k : Int))).run Try.prog w = .ok (.int .i64 (ix xs k)) w := by
  obtain ⟨i0, hi0, hz0, hz1, hz2⟩ := info_parts info_int
  have hagg : ∀ w, (isAgg 3).run Try.prog w = .ok false w := by
    intro w
    unfold isAgg
    rw [Sem.run_bind, run_underlying Try.underlying3 w]
    simp [go_sem]
  have hl : k < xs.length := by omega
  simp [Instr.index, run_underlying under_marks, asIntOf, sizeOf, typeInfo, hi0, hz1, go_sem, hagg, List.getElem?_eq_getElem hl, ix_eq hl]
  omega

end Go.Proofs.Ytbgbcmfgncneiaa
