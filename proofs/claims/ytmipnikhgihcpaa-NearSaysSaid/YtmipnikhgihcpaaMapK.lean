/- A map of numbers by pairs of numbers, seen as a function of its keys. -/
import Derived.Test.YtmipnikhgihcpaaMapV
import Derived.DeepKeys4
namespace Go.Proofs.Ytmipnikhgihcpaa
open Go.RowKit Go.Maps
set_option linter.unusedVariables false
set_option linter.unusedSimpArgs false

def pairV (x y : Int) : Value := .agg #[.int .i64 x, .int .i64 y]
theorem laidOutK : laidOutB Try.prog = true := by kernel_rfl
theorem keyed2 : Maps.Keyed Try.prog 175 := .of_law (deep_law_laid laidOutK (m := 2) (by omega) (of_decide_eq_true (by kernel_rfl)) (by kernel_rfl) (by rw [Try.underlying175]))
theorem cellsK : Try.prog.cellsOf 175 = 2 := by kernel_rfl
theorem cellsI : Try.prog.cellsOf 3 = 1 := by kernel_rfl
theorem keyTyK : Try.prog.keyType 175 = true := by kernel_rfl
theorem wfI {x : Int} (h : InR x) : (Lit.int .i64 x).wf = true := by simpa [Lit.wf, IntKind.min, IntKind.max, IntKind.signed, IntKind.bits, InR] using h
theorem lits1 (d : Nat) {x : Int} (h : InR x) : Try.prog.keyLits (d + 1) 3 [.int .i64 x] = some [.int .i64 x] := by
  unfold Program.keyLits
  rw [Try.underlying3]
  simp [wfI h]
theorem lits2 (d : Nat) {x y : Int} (hx : InR x) (hy : InR y) : Try.prog.keyLits (d + 2) 175 [.int .i64 x, .int .i64 y] = some [.int .i64 x, .int .i64 y] := by
  unfold Program.keyLits
  rw [Try.underlying175]
  simp [cellsK, cellsI, lits1 d hx, lits1 d hy, List.range, List.range.loop]
theorem key2 {x y : Int} (hx : InR x) (hy : InR y) : ∃ l, keyOf Try.prog 175 (pairV x y) = some l := by
  refine ⟨.string (keyBytes [.int .i64 x, .int .i64 y]), ?_⟩
  unfold keyOf pairV
  rw [Try.underlying175]
  simp only [keyTyK, Bool.true_and]
  rw [if_pos (by simp [Value.formed, Try.underlying175, cellsK])]
  simp only [Value.cells]
  rw [show Try.prog.types.size + 1 = (Try.prog.types.size - 1) + 2 from by have : 0 < Try.prog.types.size := of_decide_eq_true (by kernel_rfl); omega, lits2 _ hx hy]
  rfl
theorem key2_ne {x y x' y' : Int} {l l' : Lit} (h : keyOf Try.prog 175 (pairV x y) = some l) (h' : keyOf Try.prog 175 (pairV x' y') = some l') (hne : ¬ (x = x' ∧ y = y')) : l ≠ l' := by
  rintro rfl
  have := keyed2.inj h h'
  unfold pairV at this
  simp at this
  exact hne this
/-- block b is a map of at most n entries that answers f at each pair -/
def MapK (w : World) (b n : Nat) (f : Int → Int → Int) : Prop :=
  ∃ D : DataW Value, w.ownsMap Try.prog 175 heldV b n D ∧ ∀ x y l, keyOf Try.prog 175 (pairV x y) = some l → D.atKey l (.held (.int .i64 0)) = .held (.int .i64 (f x y))
theorem MapK.kept {w w' : World} {b n : Nat} {f : Int → Int → Int} {row : Option Nat} (h : MapK w b n f) (hg : w.grownBy w' row) (hne : some b ≠ row) : MapK w' b n f := by
  obtain ⟨D, h1, h2⟩ := h; exact ⟨D, h1.kept hg hne, h2⟩
theorem MapK.drew {w : World} {b n : Nat} {f : Int → Int → Int} (h : MapK w b n f) : MapK w.drew b n f := h
theorem MapK.drewN {w : World} {b n : Nat} {f : Int → Int → Int} (h : MapK w b n f) (q : Nat) : MapK (w.drewN q) b n f := h
theorem MapK.lt {w : World} {b n : Nat} {f : Int → Int → Int} (h : MapK w b n f) : b < w.heap.size := by
  obtain ⟨D, h1, h2⟩ := h; exact h1.lt
theorem MapK.made (w : World) : MapK (w.alloc (.map #[] 0)) w.heap.size 0 (fun _ _ => 0) := ⟨_, World.ownsMap_made w _ _ _, fun x y l _ => rfl⟩
theorem zeroI (w : World) : (zeroValue 3).run Try.prog w = .ok (.int .i64 0) w := by kernel_rfl
theorem MapK.lookup {w : World} {b n : Nat} {f : Int → Int → Int} (h : MapK w b n f) {x y : Int} (hx : InR x) (hy : InR y) :
    (Instr.lookup 211 (.map (some b)) (.agg #[.int .i64 x, .int .i64 y]) false).run Try.prog w = .ok (.int .i64 (f x y)) w := by
  obtain ⟨D, h1, h2⟩ := h
  obtain ⟨l, hl⟩ := key2 hx hy
  obtain ⟨v, ps, hrun, hv⟩ := h1.lookup keyed2 Try.underlying211 (zeroI w) rfl hl
  rw [h2 x y l hl] at hv
  simp only [heldV, Option.some.injEq, Prod.mk.injEq, DataW.held.injEq] at hv
  rw [show (Value.agg #[.int .i64 x, .int .i64 y]) = pairV x y from rfl, hrun, hv.1]
theorem MapK.update {w : World} {b n : Nat} {f : Int → Int → Int} (h : MapK w b n f) (hn : n ≤ 1000000000) {x y : Int} (hx : InR x) (hy : InR y) (val : Int) :
    ∃ w', (Instr.mapUpdate 211 (.map (some b)) (.agg #[.int .i64 x, .int .i64 y]) (.int .i64 val)).run Try.prog w = .ok () w' ∧ MapK w' b (n + 1) (fun p q => if p = x ∧ q = y then val else f p q) ∧ w.grownBy w' (some b) := by
  obtain ⟨D, h1, h2⟩ := h
  obtain ⟨l, hl⟩ := key2 hx hy
  obtain ⟨w', hrun, h3, h4⟩ := h1.update keyed2 Try.underlying211 (by unfold maxLen; omega) hl (show heldV (.int .i64 val) = some (.held (.int .i64 val), []) from rfl)
  refine ⟨w', hrun, ⟨_, h3, fun p q l' hl' => ?_⟩, h4⟩
  show _ = DataW.held (Value.int .i64 (if p = x ∧ q = y then val else f p q))
  by_cases e : p = x ∧ q = y
  · obtain ⟨rfl, rfl⟩ := e
    rw [if_pos ⟨rfl, rfl⟩]
    obtain rfl : l = l' := by rw [hl] at hl'; exact Option.some.inj hl'
    obtain ⟨es, clock, _, _, _, hD⟩ := h1
    exact atKey_put_same ⟨_, hD⟩ (keyed2.key hl) _ _
  · rw [if_neg e, ← h2 p q l' hl']
    exact atKey_put_other (fun hh => key2_ne hl' hl e hh) _ _

theorem look_mapk {ops : Array Oper} {rest : List Oper} {o : Oper} {a : Act} {Q : Exit → Act → World → Prop} {w : World} (hg : o.guard = none) (m x : Operand)
    (ho : o.op = Op.lookup 211 m x false) {b n : Nat} {f : Int → Int → Int} (hM : MapK w b n f) {p q : Int} (hp : InR p) (hq : InR q) {v : Int} (hv : f p q = v) (hm : a.eval m = .map (some b)) (hx : a.eval x = .agg #[.int .i64 p, .int .i64 q])
    (h : wpList Try.prog ops Q rest (a.put o.dst (.int .i64 v)) w) : wpList Try.prog ops Q (o :: rest) a w := by
  subst hv
  refine wpList_plain hg fun K' hK' => ?_
  have hrun := hM.lookup hp hq
  unfold Oper.wp
  simp [execOp, ho, hm, hx, hrun, Result.andThen]
  exact hK' _ _ h
theorem upd_mapk {ops : Array Oper} {rest : List Oper} {o : Oper} {a : Act} {Q : Exit → Act → World → Prop} {w : World} (hg : o.guard = none) (m x v : Operand)
    (ho : o.op = Op.mapUpdate 211 m x v) {b n : Nat} {f : Int → Int → Int} (hM : MapK w b n f) (hn : n ≤ 1000000000) {p q : Int} (hp : InR p) (hq : InR q) {val : Int} (hm : a.eval m = .map (some b)) (hx : a.eval x = .agg #[.int .i64 p, .int .i64 q]) (hv : a.eval v = .int .i64 val)
    (h : ∀ w', MapK w' b (n + 1) (fun p' q' => if p' = p ∧ q' = q then val else f p' q') → w.grownBy w' (some b) → wpList Try.prog ops Q rest (a.put o.dst undef) w') : wpList Try.prog ops Q (o :: rest) a w := by
  refine wpList_plain hg fun K' hK' => ?_
  obtain ⟨w', hrun, r1, r2⟩ := hM.update hn hp hq val
  unfold Oper.wp
  simp [execOp, ho, hm, hx, hv, hrun, Result.andThen]
  exact hK' _ _ (h w' r1 r2)

end Go.Proofs.Ytmipnikhgihcpaa
