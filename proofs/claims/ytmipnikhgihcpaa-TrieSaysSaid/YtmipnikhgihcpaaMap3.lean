/- A map of functions by int: stores of new keys, a range over it. -/
import Derived.Test.YtmipnikhgihcpaaSlib
import Derived.Maps.RangeRun
import Derived.Carry
namespace Go.Proofs.Ytmipnikhgihcpaa
open Go.RowKit
open Go.ChangeMaps (setBlock)
set_option linter.unusedVariables false
set_option linter.unusedSimpArgs false

/-- block b is a map of these entries -/
def MapB (w : World) (b : Nat) (es : Array MapEntry) (c : Nat) : Prop := w.heap[b]? = some (.map es c)
theorem MapB.below {w w' : World} {b : Nat} {es : Array MapEntry} {c : Nat} (h : MapB w b es c) (hb : Below w.heap.size w w') : MapB w' b es c := by
  unfold MapB at *; rw [hb.block b (Array.getElem?_eq_some_iff.1 h).1]; exact h
theorem MapB.lt {w : World} {b : Nat} {es : Array MapEntry} {c : Nat} (h : MapB w b es c) : b < w.heap.size := (Array.getElem?_eq_some_iff.1 h).1

theorem setBlock_below {N r : Nat} {w0 w : World} {o : Obj} (h : Below N w0 w) (hr : N ≤ r) : Below N w0 (setBlock w r o) := by
  refine ⟨h.os, h.tape, h.output, by simp [setBlock]; exact h.size, fun i hi => ?_⟩
  simp only [setBlock]
  rw [Array.getElem?_setIfInBounds_ne (by omega)]
  exact h.block i hi
theorem setBlock_get {w : World} {r : Nat} (o : Obj) (hr : r < w.heap.size) : (setBlock w r o).heap[r]? = some o := by
  simp [setBlock, hr]
theorem setBlock_ne {w : World} {r b : Nat} (o : Obj) (hr : r ≠ b) : (setBlock w r o).heap[b]? = w.heap[b]? := by
  simp only [setBlock]
  rw [Array.getElem?_setIfInBounds_ne hr]

theorem checkKey_int (em : Bool) (k : Int) (w : World) : (Instr.checkKey em 10000 3 (.int .i64 k)).run Try.prog w = .ok () w := by
  show (Instr.checkKey em (9999 + 1) 3 (.int .i64 k)).run Try.prog w = .ok () w
  unfold Instr.checkKey
  generalize 9999 = m
  simp [run_underlying Try.underlying3, Sem.run, Result.andThen]
/-- no entry has this key -/
def noKey (k : Int) (es : List MapEntry) : Prop := ∀ e ∈ es, ∃ x, e.key = .int .i64 x ∧ x ≠ k
theorem findNow_no (k : Int) : ∀ (es : List MapEntry) (i : Nat), noKey k es → Instr.findNow (.int .i64) (.int .i64 k) es i = some none
  | [], i, _ => rfl
  | e :: es, i, h => by
    obtain ⟨x, hx, hne⟩ := h e (by simp)
    unfold Instr.findNow
    rw [hx]
    simp only [Instr.sameNow, if_true]
    rw [show (k == x) = false from by simpa using fun e => hne e.symm]
    exact findNow_no k es (i + 1) fun e he => h e (by simp [he])
theorem ins_new {w : World} {b c : Nat} {es : Array MapEntry} (k : Int) (v : Value) (h : MapB w b es c) (hn : noKey k es.toList) :
    ∃ w', (Instr.mapUpdate 54 (.map (some b)) (.int .i64 k) v).run Try.prog w = .ok () w' ∧ MapB w' b (es.push ⟨.int .i64 k, v, c⟩) (c + 1) ∧ w'.heap.size = w.heap.size ∧ (∀ N w0, N ≤ b → Below N w0 w → Below N w0 w') := by
  refine ⟨setBlock w b (.map (es.push ⟨.int .i64 k, v, c⟩) (c + 1)), ?_, setBlock_get _ h.lt, by simp [setBlock], fun N w0 hN hb => setBlock_below hb hN⟩
  unfold MapB at h
  simp only [Instr.mapUpdate, Sem.run_bind, run_underlying Try.underlying54, Result.andThen, getObj, Sem.run, h, checkKey_int, Instr.findKey, run_underlying Try.underlying3, findNow_no k _ 0 hn, setObj, setBlock]
  simp [Sem.run_pure, Sem.run, h]

/-- an iterator over a map in block r -/
def IterB (w : World) (r b since : Nat) (seen : Array Nat) (c : Nat) : Prop := w.heap[r]? = some (.mapIter (some b) since seen c)
theorem IterB.below {w w' : World} {r b s c : Nat} {seen : Array Nat} (h : IterB w r b s seen c) (hb : Below w.heap.size w w') : IterB w' r b s seen c := by
  unfold IterB at *; rw [hb.block r (Array.getElem?_eq_some_iff.1 h).1]; exact h
theorem IterB.lt {w : World} {r b s c : Nat} {seen : Array Nat} (h : IterB w r b s seen c) : r < w.heap.size := (Array.getElem?_eq_some_iff.1 h).1

/-- a step of a range over a map -/
theorem next_at {ops : Array Oper} {rest : List Oper} {o : Oper} {a : Act} {Q : Exit → Act → World → Prop} {w : World} (hg : o.guard = none) (it : Operand) (hop : o.op = .next it false)
    (r b c0 c : Nat) (seen : Array Nat) (es : Array MapEntry) (hit : a.eval it = .pointer (some ⟨r, 0, none⟩)) (hr : IterB w r b c seen c0) (hb : MapB w b es c) (hold : ∀ x ∈ es.toList, x.born < c) (hsc : c ≤ c0)
    (hn : (es.toList.map (·.born)).Nodup) (hrb : r ≠ b)
    (hDone : (leftOf es seen).size = 0 → wpList Try.prog ops Q rest (a.put o.dst (.tuple #[.bool false])) w)
    (hMore : ∀ (e : MapEntry) (w' : World), e ∈ es.toList → IterB w' r b c (seen.push e.born) c → MapB w' b es c → (leftOf es (seen.push e.born)).size < (leftOf es seen).size →
      (∀ N w0, N ≤ r → Below N w0 w → Below N w0 w') → w'.heap.size = w.heap.size → (Instr.entry (.pointer (some ⟨r, 0, none⟩))).run Try.prog w' = .ok (.tuple #[e.key, e.val]) w' → wpList Try.prog ops Q rest (a.put o.dst (.tuple #[.bool true, e.key, e.val])) w') :
    wpList Try.prog ops Q (o :: rest) a w := by
  refine wpList_plain hg fun K' hK' => ?_
  unfold Oper.wp
  rcases run_next_at (P := Try.prog) w o.type r b c c0 seen es c hr hb hold hsc with ⟨h0, hrun⟩ | ⟨e, he, w1, hw1, hrun⟩
  · simp [execOp, hop, hit, hrun, Result.andThen]
    exact hK' _ _ (hDone h0)
  · have hbel : ∀ N w0, N ≤ r → Below N w0 w → Below N w0 (setBlock w1 r (.mapIter (some b) c (seen.push e.born) c)) := fun N w0 hN hb => by
      rcases hw1 with rfl | rfl
      · exact setBlock_below hb hN
      · exact setBlock_below hb.drew hN
    have hsz : (setBlock w1 r (.mapIter (some b) c (seen.push e.born) c)).heap.size = w.heap.size := by rcases hw1 with rfl | rfl <;> simp only [setBlock, Array.size_setIfInBounds] <;> rfl
    have hit' : IterB (setBlock w1 r (.mapIter (some b) c (seen.push e.born) c)) r b c (seen.push e.born) c := setBlock_get _ (by rcases hw1 with rfl | rfl <;> exact hr.lt)
    have hmp : MapB (setBlock w1 r (.mapIter (some b) c (seen.push e.born) c)) b es c := by
      unfold MapB at *
      rw [setBlock_ne _ hrb]
      rcases hw1 with rfl | rfl <;> exact hb
    have hent := run_entry_at (P := Try.prog) _ r b c seen es c e hit' hmp (mem_left he).1 hn
    simp [execOp, hop, hit, hrun, Result.andThen]
    exact hK' _ _ (hMore e _ (mem_left he).1 hit' hmp (left_shrinks es seen e he) hbel hsz hent)

end Go.Proofs.Ytmipnikhgihcpaa
