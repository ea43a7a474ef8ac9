/- A map of pointers by int: its entries; stores of new keys, what is found, a range over it. -/
import Derived.Test.YtmipnikhgihcpaaMap3
namespace Go.Proofs.Ytmipnikhgihcpaa
open Go.RowKit
open Go.ChangeMaps (setBlock)
set_option linter.unusedVariables false
set_option linter.unusedSimpArgs false

theorem ins_newT {w : World} {b c : Nat} {es : Array MapEntry} (k : Int) (v : Value) (h : MapB w b es c) (hn : noKey k es.toList) :
    ∃ w', (Instr.mapUpdate 204 (.map (some b)) (.int .i64 k) v).run Try.prog w = .ok () w' ∧ MapB w' b (es.push ⟨.int .i64 k, v, c⟩) (c + 1) ∧ w.grownBy w' (some b) := by
  refine ⟨setBlock w b (.map (es.push ⟨.int .i64 k, v, c⟩) (c + 1)), ?_, setBlock_get _ h.lt, ⟨rfl, rfl, rfl, by simp [setBlock], fun i hi hne => ?_⟩⟩
  · unfold MapB at h
    simp only [Instr.mapUpdate, Sem.run_bind, run_underlying Try.underlying204, Result.andThen, getObj, Sem.run, h, checkKey_int, Instr.findKey, run_underlying Try.underlying3, findNow_no k _ 0 hn, setObj, setBlock]
    simp [Sem.run_pure, Sem.run, h]
  · exact setBlock_ne _ (fun e => hne (by rw [e]))
theorem zeroT (w : World) : (zeroValue 106).run Try.prog w = .ok (.pointer none) w := by kernel_rfl
theorem look_no {w : World} {b c : Nat} {es : Array MapEntry} {k : Int} (h : MapB w b es c) (hn : noKey k es.toList) :
    (Instr.lookup 204 (.map (some b)) (.int .i64 k) false).run Try.prog w = .ok (.pointer none) w := by
  unfold MapB at h
  simp only [Instr.lookup, Sem.run_bind, run_underlying Try.underlying204, Result.andThen, getObj, Sem.run, h, checkKey_int, Instr.findKey, run_underlying Try.underlying3, findNow_no k _ 0 hn]
  simp only [Sem.run_pure, Result.andThen, zeroT, Bool.false_eq_true, if_false]
  try rw [findNow_no k _ 0 hn]
  simp [Sem.run_pure, zeroT, Result.andThen]
/-- all keys are numbers, no two alike -/
def intKeys (es : List MapEntry) : Prop := (∀ e ∈ es, ∃ x, e.key = .int .i64 x) ∧ es.Pairwise (fun p q => p.key ≠ q.key)
theorem findNow_yes {k : Int} {e : MapEntry} (he : e.key = .int .i64 k) : ∀ (es : List MapEntry) (i : Nat), intKeys es → e ∈ es → ∃ j, Instr.findNow (.int .i64) (.int .i64 k) es i = some (some (j, e.val))
  | [], i, _, h => by cases h
  | x :: es, i, hk, h => by
    obtain ⟨y, hy⟩ := hk.1 x (by simp)
    have h2 := List.pairwise_cons.1 hk.2
    unfold Instr.findNow
    rw [hy]
    simp only [Instr.sameNow, if_true]
    rcases List.mem_cons.1 h with rfl | h
    · have : y = k := by rw [he] at hy; simpa using hy.symm
      subst this
      rw [show (y == y) = true from by simp]
      exact ⟨i, rfl⟩
    · have hne : k ≠ y := fun e1 => h2.1 e h (by rw [hy, he, e1])
      rw [show (k == y) = false from by simpa using hne]
      exact findNow_yes he es (i + 1) ⟨fun e1 h1 => hk.1 e1 (by simp [h1]), h2.2⟩ h
theorem look_yes {w : World} {b c : Nat} {es : Array MapEntry} {k : Int} {e : MapEntry} (h : MapB w b es c) (hk : intKeys es.toList) (he : e ∈ es.toList) (hek : e.key = .int .i64 k) :
    (Instr.lookup 204 (.map (some b)) (.int .i64 k) false).run Try.prog w = .ok e.val w := by
  obtain ⟨j, hj⟩ := findNow_yes hek es.toList 0 hk he
  unfold MapB at h
  simp only [Instr.lookup, Sem.run_bind, run_underlying Try.underlying204, Result.andThen, getObj, Sem.run, h, checkKey_int, Instr.findKey, run_underlying Try.underlying3, hj]
  simp only [Sem.run_pure, Result.andThen, Bool.false_eq_true, if_false]
  try rw [hj]
  simp [Sem.run_pure, Result.andThen]
theorem MapB.grown {w w' : World} {b : Nat} {es : Array MapEntry} {c : Nat} {row : Option Nat} (h : MapB w b es c) (hg : w.grownBy w' row) (hne : some b ≠ row) : MapB w' b es c := by
  unfold MapB at *; rw [hg.block b (Array.getElem?_eq_some_iff.1 h).1 hne]; exact h
theorem MapB.made (w : World) : MapB (w.alloc (.map #[] 0)) w.heap.size #[] 0 := heap_alloc_new w _

/-- a step of a range over a map: the entry was not seen -/
theorem next_at2 {ops : Array Oper} {rest : List Oper} {o : Oper} {a : Act} {Q : Exit → Act → World → Prop} {w : World} (hg : o.guard = none) (it : Operand) (hop : o.op = .next it false)
    (r b c0 c : Nat) (seen : Array Nat) (es : Array MapEntry) (hit : a.eval it = .pointer (some ⟨r, 0, none⟩)) (hr : IterB w r b c seen c0) (hb : MapB w b es c) (hold : ∀ x ∈ es.toList, x.born < c) (hsc : c ≤ c0)
    (hn : (es.toList.map (·.born)).Nodup) (hrb : r ≠ b)
    (hDone : (∀ x ∈ es.toList, x.born ∈ seen) → wpList Try.prog ops Q rest (a.put o.dst (.tuple #[.bool false])) w)
    (hMore : ∀ (e : MapEntry) (w' : World), e ∈ es.toList → e.born ∉ seen → IterB w' r b c (seen.push e.born) c → MapB w' b es c → (leftOf es (seen.push e.born)).size < (leftOf es seen).size →
      (∀ N w0, N ≤ r → Below N w0 w → Below N w0 w') → w.grownBy w' (some r) → (Instr.entry (.pointer (some ⟨r, 0, none⟩))).run Try.prog w' = .ok (.tuple #[e.key, e.val]) w' → wpList Try.prog ops Q rest (a.put o.dst (.tuple #[.bool true, e.key, e.val])) w') :
    wpList Try.prog ops Q (o :: rest) a w := by
  refine wpList_plain hg fun K' hK' => ?_
  unfold Oper.wp
  rcases run_next_at (P := Try.prog) w o.type r b c c0 seen es c hr hb hold hsc with ⟨h0, hrun⟩ | ⟨e, he, w1, hw1, hrun⟩
  · simp [execOp, hop, hit, hrun, Result.andThen]
    refine hK' _ _ (hDone fun x hx => ?_)
    have h1 : (leftOf es seen).toList = [] := List.eq_nil_of_length_eq_zero (by simpa using h0)
    apply Classical.byContradiction
    intro hc
    have : x ∈ (leftOf es seen).toList := by
      unfold leftOf
      simp
      exact ⟨by simpa using hx, by simpa using hc⟩
    rw [h1] at this
    cases this
  · have hbel : ∀ N w0, N ≤ r → Below N w0 w → Below N w0 (setBlock w1 r (.mapIter (some b) c (seen.push e.born) c)) := fun N w0 hN hb => by
      rcases hw1 with rfl | rfl
      · exact setBlock_below hb hN
      · exact setBlock_below hb.drew hN
    have hgr : w.grownBy (setBlock w1 r (.mapIter (some b) c (seen.push e.born) c)) (some r) := by
      refine ⟨by rcases hw1 with rfl | rfl <;> rfl, by rcases hw1 with rfl | rfl <;> rfl, by rcases hw1 with rfl | rfl <;> rfl, by rcases hw1 with rfl | rfl <;> simp only [setBlock, Array.size_setIfInBounds] <;> exact Nat.le_refl _, fun i hi hne => ?_⟩
      rw [setBlock_ne _ (fun e => hne (by rw [e]))]
      rcases hw1 with rfl | rfl <;> rfl
    have hit' : IterB (setBlock w1 r (.mapIter (some b) c (seen.push e.born) c)) r b c (seen.push e.born) c := setBlock_get _ (by rcases hw1 with rfl | rfl <;> exact hr.lt)
    have hmp : MapB (setBlock w1 r (.mapIter (some b) c (seen.push e.born) c)) b es c := by
      unfold MapB at *
      rw [setBlock_ne _ hrb]
      rcases hw1 with rfl | rfl <;> exact hb
    have hent := run_entry_at (P := Try.prog) _ r b c seen es c e hit' hmp (mem_left he).1 hn
    have hns : e.born ∉ seen := by
      have := he
      unfold leftOf at this
      simp at this
      simpa using this.2
    simp [execOp, hop, hit, hrun, Result.andThen]
    exact hK' _ _ (hMore e _ (mem_left he).1 hns hit' hmp (left_shrinks es seen e he) hbel hgr hent)

end Go.Proofs.Ytmipnikhgihcpaa
