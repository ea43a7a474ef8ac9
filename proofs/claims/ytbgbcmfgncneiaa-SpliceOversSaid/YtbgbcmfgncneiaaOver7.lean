/- Rows of signs that the call has made. -/
import Derived.Test.YtbgbcmfgncneiaaOver6
namespace Go.Proofs.Ytbgbcmfgncneiaa
open Go.RowKit
set_option linter.unusedVariables false
set_option linter.unusedSimpArgs false

theorem info_sign : (Try.prog.info? 155).map (fun i => (i.zero, i.size, i.bytes)) = some (some (.agg #[.int .i64 0, .int .i64 0]), 2, 16) := by kernel_rfl
def Sg.cells (s : Sg) : List Value := [.int .i64 s.h, .int .i64 s.c]
def GOwn (base : Nat) (w : World) (v : Value) (l : List Sg) : Prop := w.ownsRow base 155 2 v l.length (l.flatMap Sg.cells)
theorem gflat_len (l : List Sg) : (l.flatMap Sg.cells).length = l.length * 2 := by
  induction l with
  | nil => rfl
  | cons u r ih => simp [List.flatMap_cons, Sg.cells] at ih ⊢; omega
theorem gflat_at (l : List Sg) : ∀ (i : Nat) (h : i < l.length) (j : Nat), j < 2 → (l.flatMap Sg.cells)[i * 2 + j]? = (l[i].cells)[j]? := by
  induction l with
  | nil => intro i h; simp at h
  | cons u r ih =>
    intro i h j hj
    match i with
    | 0 =>
      simp only [List.flatMap_cons, Nat.zero_mul, Nat.zero_add, List.getElem_cons_zero]
      rw [List.getElem?_append_left (by simp [Sg.cells]; omega)]
    | i + 1 =>
      simp only [List.flatMap_cons, List.getElem_cons_succ]
      rw [List.getElem?_append_right (by simp [Sg.cells]; omega)]
      rw [show (i + 1) * 2 + j - u.cells.length = i * 2 + j from by simp [Sg.cells]; omega]
      exact ih i (by simpa using h) j hj
theorem GOwn.nil (base : Nat) (w : World) : GOwn base w (.slice none 0 0) [] := World.ownsRow_nil _ _ _ _
theorem GOwn.alloc {base : Nat} {w : World} {v : Value} {l : List Sg} (h : GOwn base w v l) (o : Obj) : GOwn base (w.alloc o) v l := World.ownsRow.alloc h o
theorem GOwn.row {base : Nat} {w : World} {v : Value} {l : List Sg} (h : GOwn base w v l) : ∀ k, v.ownBlock = some k → base ≤ k := fun k hk => (World.ownsRow.lt h k hk).1
theorem GOwn.form {base : Nat} {w : World} {v : Value} {l : List Sg} (h : GOwn base w v l) : ∃ a c, v = .slice a l.length c ∧ l.length ≤ c ∧ c ≤ 9223372036854775807 ∧ (a = none → l.length = 0 ∧ c = 0) := by
  rcases h.2 with ⟨rfl, h0⟩ | ⟨g, cap, cur, rfl, hb', hgg, hn, hm, rest⟩
  · exact ⟨none, 0, by rw [h0], by omega, by omega, fun _ => ⟨h0, rfl⟩⟩
  · exact ⟨_, cap, rfl, hn, by unfold maxLen at hm; omega, by simp⟩
theorem GOwn.sgs {base : Nat} {w : World} {a : Option Addr} {n c : Nat} {l : List Sg} (h : GOwn base w (.slice a n c) l) : Sgs w a l ∧ l.length = n := by
  rcases h.2 with ⟨hv, h0⟩ | ⟨g, cap, cur, hv, hb', hgg, rest⟩
  · simp only [Value.slice.injEq] at hv
    exact ⟨.inl (List.eq_nil_of_length_eq_zero h0), by omega⟩
  · simp only [Value.slice.injEq] at hv
    obtain ⟨rfl, rfl, rfl⟩ := hv
    refine ⟨.inr ⟨g, rfl, fun i hi => ?_⟩, rfl⟩
    have h0 := World.ownsRow.cellAt h (i * 2 + 0) (by omega)
    have h1 := World.ownsRow.cellAt h (i * 2 + 1) (by omega)
    rw [gflat_at l i hi _ (by omega)] at h0 h1
    exact ⟨h0, h1⟩
/-- signs read in another world -/
theorem GOwn.below {base : Nat} {w w' : World} {v : Value} {l : List Sg} (h : GOwn base w v l) (hb : Below w.heap.size w w') : GOwn base w' v l := by
  refine ⟨h.1, ?_⟩
  rcases h.2 with hn | ⟨g, cap, cur, rfl, hb', hgg, rest⟩
  · exact .inl hn
  · exact .inr ⟨g, cap, cur, rfl, hb', by rw [hb.block g (Array.getElem?_eq_some_iff.1 hgg).1]; exact hgg, rest⟩
/-- two rows do not share a block -/
def Dis (v1 v2 : Value) : Prop := ∀ k, v1.ownBlock = some k → v2.ownBlock ≠ some k
theorem Dis.nilR (v : Value) : Dis v (.slice none 0 0) := fun k _ hc => by simp [Value.ownBlock] at hc
theorem Dis.nilL (v : Value) : Dis (.slice none 0 0) v := fun k hk => by simp [Value.ownBlock] at hk
theorem Dis.symm {v1 v2 : Value} (h : Dis v1 v2) : Dis v2 v1 := fun k h1 h2 => h k h2 h1
theorem GOwn.keptOf {base : Nat} {w w' : World} {v1 v2 : Value} {l : List Sg} (h : GOwn base w v1 l) (hd : Dis v1 v2) (hg : w.grownBy w' v2.ownBlock) : GOwn base w' v1 l := by
  refine World.ownsRow.kept h hg ?_
  cases hv : v1.ownBlock with
  | none => exact .inl rfl
  | some k => exact .inr (fun hc => hd k hv hc.symm)
theorem GOwn.disNext {base : Nat} {w : World} {v1 v2 v2' : Value} {l : List Sg} (h : GOwn base w v1 l) (hd : Dis v1 v2) (hb : v2'.ownBlock = v2.ownBlock ∨ v2'.ownBlock = some w.heap.size) : Dis v1 v2' := by
  intro k hk hc
  rcases hb with hb | hb
  · rw [hb] at hc; exact hd k hk hc
  · have := (World.ownsRow.lt h k hk).2
    rw [hb] at hc
    simp only [Option.some.injEq] at hc
    omega
theorem one2 (l : List Sg) : ∀ u ∈ l.flatMap Sg.cells, u.oneCell' = true := by
  intro u hu
  rw [List.mem_flatMap] at hu
  obtain ⟨s, -, hs⟩ := hu
  simp [Sg.cells] at hs
  rcases hs with rfl | rfl <;> rfl
theorem Sgs.cells {w : World} {b : Nat} {l : List Sg} (h : ∀ i (h : i < l.length), w.cell? ⟨b, i * 2, none⟩ = some (.int .i64 l[i].h) ∧ w.cell? ⟨b, i * 2 + 1, none⟩ = some (.int .i64 l[i].c)) : ∀ j u, (l.flatMap Sg.cells)[j]? = some u → w.cell? ((⟨b, 0, none⟩ : Addr).add j) = some u := by
  intro j u hj
  have hadd : (⟨b, 0, none⟩ : Addr).add j = ⟨b, 0 + j, none⟩ := by unfold Addr.add; split <;> simp_all
  rw [hadd, Nat.zero_add]
  have hlt : j < (l.flatMap Sg.cells).length := by
    rcases Nat.lt_or_ge j (l.flatMap Sg.cells).length with h | h
    · exact h
    · simp [List.getElem?_eq_none h] at hj
  rw [gflat_len] at hlt
  have hi : j / 2 < l.length := by omega
  obtain ⟨c0, c1⟩ := h (j / 2) hi
  have e : j = j / 2 * 2 + j % 2 := by omega
  have hm : j % 2 < 2 := by omega
  rw [e, gflat_at l (j / 2) hi _ hm] at hj
  rw [e]
  rcases (show j % 2 = 0 ∨ j % 2 = 1 by omega) with hz | hz
  · rw [hz] at hj ⊢
    simp [Sg.cells] at hj; subst hj; exact c0
  · rw [hz] at hj ⊢
    simp [Sg.cells] at hj; subst hj; exact c1
/-- append of signs that lie in a block -/
theorem gappN {ops : Array Oper} {rest : List Oper} {o : Oper} {a : Act} {Q : Exit → Act → World → Prop} {w : World} (hgd : o.guard = none) (s x : Operand)
    (ho : o.op = .call { callee := .builtin .append, args := #[s, x], argTypes := #[153, 153] })
    (base : Nat) (v : Value) (l m : List Sg) (B n c : Nat) (hs : a.eval s = v) (hx : a.eval x = .slice (some ⟨B, 0, none⟩) n c)
    (hown : GOwn base w v l) (hB : ∀ i (h : i < m.length), w.cell? ⟨B, i * 2, none⟩ = some (.int .i64 m[i].h) ∧ w.cell? ⟨B, i * 2 + 1, none⟩ = some (.int .i64 m[i].c)) (hm : m.length = n) (hl : l.length + n < 1000000000) (hbase : base ≤ w.heap.size)
    (h : ∀ v' w', GOwn base w' v' (l ++ m) → w.grownBy w' v.ownBlock → (v'.ownBlock = v.ownBlock ∨ v'.ownBlock = some w.heap.size) → wpList Try.prog ops Q rest (a.put o.dst v') w') :
    wpList Try.prog ops Q (o :: rest) a w := by
  obtain ⟨i0, hi, hz0, hz1, hz2⟩ := info_parts info_sign
  refine wpList_append_own_at w hgd s x 153 ho base 155 i0 _ 2 16 Try.underlying153 hi hz0 hz1 hz2 rfl (by decide) v l.length _ hs hown ⟨B, 0, none⟩ n c (m.flatMap Sg.cells) hx (by rw [gflat_len, hm]) (Sgs.cells hB) (one2 m) ?_ ?_ hbase ?_
  · unfold maxLen; omega
  · omega
  · intro v' w' h1 h2 _ h4
    refine h v' w' ?_ h2 h4
    unfold GOwn
    rw [List.length_append, List.flatMap_append, hm]
    exact h1
/-- append of one sign -/
theorem gapp1 {ops : Array Oper} {rest : List Oper} {o : Oper} {a : Act} {Q : Exit → Act → World → Prop} {w : World} (hgd : o.guard = none) (s x : Operand)
    (ho : o.op = .call { callee := .builtin .append, args := #[s, x], argTypes := #[153, 153] })
    (base : Nat) (v : Value) (l : List Sg) (y : Sg) (B : Nat) (hs : a.eval s = v) (hx : a.eval x = .slice (some ⟨B, 0, none⟩) 1 1)
    (hown : GOwn base w v l) (hB : Blk w B #[.int .i64 y.h, .int .i64 y.c] 155) (hl : l.length < 100000000) (hbase : base ≤ w.heap.size)
    (h : ∀ v' w', GOwn base w' v' (l ++ [y]) → w.grownBy w' v.ownBlock → (v'.ownBlock = v.ownBlock ∨ v'.ownBlock = some w.heap.size) → wpList Try.prog ops Q rest (a.put o.dst v') w') :
    wpList Try.prog ops Q (o :: rest) a w := by
  obtain ⟨e0, e1, -, -⟩ := hB.two
  refine gappN hgd s x ho base v l [y] B 1 1 hs hx hown ?_ rfl (by omega) hbase h
  intro i hi
  obtain rfl : i = 0 := by simpa using hi
  exact ⟨e0, e1⟩
theorem run_gapp_nil (w : World) (ty : TypeId) (v : Value) (l : List Sg) (base : Nat) (hown : GOwn base w v l) :
    (Builtin.append_ #[153, 153] ty #[v, .slice none 0 0]).run Try.prog w = .ok v w := by
  obtain ⟨i0, hi, hz0, hz1, hz2⟩ := info_parts info_sign
  rcases hown.2 with ⟨rfl, h0⟩ | ⟨g, cap, cur, rfl, hb, hg, hn, hm, hs, ht⟩
  · simp [Builtin.append_, run_underlying Try.underlying153, sizeOf, typeInfo, hi, Builtin.lenOf, Builtin.firstCells, loadCells, loadCellsFrom, storeCells]
  · simp [Builtin.append_, run_underlying Try.underlying153, sizeOf, typeInfo, hi, Builtin.lenOf, Builtin.firstCells, loadCells, loadCellsFrom, storeCells, hn]
/-- append of a row of signs -/
theorem gappR {ops : Array Oper} {rest : List Oper} {o : Oper} {a : Act} {Q : Exit → Act → World → Prop} {w : World} (hgd : o.guard = none) (s x : Operand)
    (ho : o.op = .call { callee := .builtin .append, args := #[s, x], argTypes := #[153, 153] })
    (base : Nat) (v y : Value) (l m : List Sg) (hs : a.eval s = v) (hx : a.eval x = y)
    (hown : GOwn base w v l) (hy : GOwn base w y m) (hl : l.length + m.length < 1000000000) (hbase : base ≤ w.heap.size)
    (h : ∀ v' w', GOwn base w' v' (l ++ m) → w.grownBy w' v.ownBlock → wpList Try.prog ops Q rest (a.put o.dst v') w') :
    wpList Try.prog ops Q (o :: rest) a w := by
  rcases hy.2 with ⟨rfl, h0⟩ | ⟨g, cap, cur, rfl, hb, hg, hn, hm, hcs, ht⟩
  · obtain rfl := List.eq_nil_of_length_eq_zero h0
    refine Lib.wpList_append_run w hgd s x _ _ ho v (.slice none 0 0) hs hx v w (run_gapp_nil w _ v l base hown) ?_
    exact h v w (by simpa using hown) ⟨rfl, rfl, rfl, Nat.le_refl _, fun _ _ _ => rfl⟩
  · refine gappN hgd s x ho base v l m g m.length cap hs hx hown ?_ rfl hl hbase fun v' w' h1 h2 _ => h v' w' h1 h2
    rcases hy.sgs.1 with rfl | ⟨b', he, hc⟩
    · intro i hi; simp at hi
    · simp only [Option.some.injEq, Addr.mk.injEq] at he
      obtain ⟨rfl, -⟩ := he
      exact hc

end Go.Proofs.Ytbgbcmfgncneiaa
