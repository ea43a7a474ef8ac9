/- Rows of commands that the call has made: each of five numbers. -/
import Derived.Test.YtmipnikhgihcpaaKeyP
import Derived.Test.YtmipnikhgihcpaaCat
import Derived.Deep.RegionHeld3
import Derived.Deep.AppendLies
namespace Go.Proofs.Ytmipnikhgihcpaa
open Go.RowKit
set_option linter.unusedVariables false
set_option linter.unusedSimpArgs false

theorem info_cmd : (Try.prog.info? 80).map (fun i => (i.zero, i.size, i.bytes)) = some (some (.agg #[.int .i64 0, .int .i64 0, .int .i64 0, .int .i64 0, .int .i64 0]), 5, 40) := by kernel_rfl

/-- five numbers -/
structure C5 where
  a : Int
  b : Int
  c : Int
  d : Int
  e : Int
def C5.cells (s : C5) : List Value := [.int .i64 s.a, .int .i64 s.b, .int .i64 s.c, .int .i64 s.d, .int .i64 s.e]
def C5.v (s : C5) : Value := .agg #[.int .i64 s.a, .int .i64 s.b, .int .i64 s.c, .int .i64 s.d, .int .i64 s.e]
/-- the commands es in a row of the call's own -/
def COwn (base : Nat) (w : World) (v : Value) (es : List C5) : Prop :=
  w.ownsRow base 80 5 v es.length (es.flatMap C5.cells)
/-- they can be read at that address -/
def Cmds (w : World) (a : Option Addr) (es : List C5) : Prop :=
  es = [] ∨ ∃ b o, a = some ⟨b, o, none⟩ ∧ ∀ i (h : i < es.length) j v, (es[i].cells)[j]? = some v → w.cell? ⟨b, o + (i * 5 + j), none⟩ = some v

theorem Cmds.keep {w w' : World} {a : Option Addr} {es : List C5} (h : Cmds w a es) (hc : ∀ p v, w.cell? p = some v → w'.cell? p = some v) : Cmds w' a es := by
  rcases h with h | ⟨b, o, rfl, h⟩
  · exact .inl h
  · exact .inr ⟨b, o, rfl, fun i hi j v hj => hc _ _ (h i hi j v hj)⟩
theorem Cmds.below {w w' : World} {a : Option Addr} {es : List C5} (h : Cmds w a es) (hb : Below w.heap.size w w') : Cmds w' a es := h.keep (below_keeps hb)
theorem Cmds.drewN {w : World} {a : Option Addr} {es : List C5} (h : Cmds w a es) (n : Nat) : Cmds (w.drewN n) a es := h.keep (fun _ _ h => h)

theorem COwn.nil (base : Nat) (w : World) : COwn base w (.slice none 0 0) [] := World.ownsRow_nil _ _ _ _
theorem COwn.alloc {base : Nat} {w : World} {v : Value} {es : List C5} (h : COwn base w v es) (o : Obj) : COwn base (w.alloc o) v es := World.ownsRow.alloc h o
theorem COwn.drewN {base : Nat} {w : World} {v : Value} {es : List C5} (h : COwn base w v es) (n : Nat) : COwn base (w.drewN n) v es := h
theorem COwn.drew {base : Nat} {w : World} {v : Value} {es : List C5} (h : COwn base w v es) : COwn base w.drew v es := h
theorem COwn.mono {base base' : Nat} {w : World} {v : Value} {es : List C5} (h : COwn base w v es) (hb : base' ≤ base) : COwn base' w v es := by
  refine ⟨h.1, ?_⟩
  rcases h.2 with hn | ⟨g, cap, cur, rfl, hb', rest⟩
  · exact .inl hn
  · exact .inr ⟨g, cap, cur, rfl, by omega, rest⟩
theorem COwn.kept {base : Nat} {w w' : World} {v : Value} {es : List C5} (h : COwn base w v es) (hb : Below w.heap.size w w') : COwn base w' v es := by
  refine ⟨h.1, ?_⟩
  rcases h.2 with hn | ⟨g, cap, cur, rfl, hb', hgg, rest⟩
  · exact .inl hn
  · exact .inr ⟨g, cap, cur, rfl, hb', by rw [hb.block g (Array.getElem?_eq_some_iff.1 hgg).1]; exact hgg, rest⟩
theorem COwn.row {base : Nat} {w : World} {v : Value} {es : List C5} (h : COwn base w v es) : ∀ k, v.ownBlock = some k → base ≤ k := fun k hk => (World.ownsRow.lt h k hk).1
theorem COwn.form {base : Nat} {w : World} {v : Value} {es : List C5} (h : COwn base w v es) : ∃ a c, v = .slice a es.length c ∧ es.length ≤ c ∧ c ≤ 9223372036854775807 ∧ (a = none → es.length = 0) := by
  rcases h.2 with ⟨rfl, h0⟩ | ⟨g, cap, cur, rfl, hb', hgg, hn, hm, rest⟩
  · exact ⟨none, 0, by rw [h0], by omega, by omega, fun _ => h0⟩
  · exact ⟨_, cap, rfl, hn, by unfold maxLen at hm; omega, by simp⟩
theorem COwn.neBlk {base : Nat} {w : World} {v : Value} {es : List C5} {e' : TypeId} {B : Nat} {cs : Array Value} (h : COwn base w v es) (hB : Blk w B cs e') (he : 80 ≠ e') : some B ≠ v.ownBlock := by
  rcases h.2 with ⟨rfl, _⟩ | ⟨g, cap, cur, rfl, hb', hgg, rest⟩
  · simp [Value.ownBlock]
  · intro hv
    simp only [Value.ownBlock, Option.some.injEq] at hv
    subst hv
    rw [show w.heap[B]? = _ from hB] at hgg
    simp at hgg
    exact he hgg.2.symm
theorem COwn.neOf {base : Nat} {w : World} {v : Value} {es : List C5} (h : COwn base w v es) {B : Nat} (hB : w.heap.size ≤ B) : some B ≠ v.ownBlock := by
  intro he
  have := (World.ownsRow.lt h B he.symm).2
  omega

theorem cflat_at (us : List C5) : ∀ (i : Nat) (h : i < us.length) (j : Nat), j < 5 → (us.flatMap C5.cells)[i * 5 + j]? = (us[i].cells)[j]? := by
  induction us with
  | nil => intro i h; simp at h
  | cons u r ih =>
    intro i h j hj
    match i with
    | 0 =>
      simp only [List.flatMap_cons, Nat.zero_mul, Nat.zero_add, List.getElem_cons_zero]
      rw [List.getElem?_append_left (by simp [C5.cells]; omega)]
    | i + 1 =>
      simp only [List.flatMap_cons, List.getElem_cons_succ]
      rw [List.getElem?_append_right (by simp [C5.cells]; omega)]
      rw [show (i + 1) * 5 + j - u.cells.length = i * 5 + j from by simp [C5.cells]; omega]
      exact ih i (by simpa using h) j hj
theorem COwn.cmds {base : Nat} {w : World} {a : Option Addr} {n c : Nat} {es : List C5} (h : COwn base w (.slice a n c) es) : Cmds w a es ∧ n = es.length := by
  rcases h.2 with ⟨hv, h0⟩ | ⟨g, cap, cur, hv, hb', hgg, rest⟩
  · simp only [Value.slice.injEq] at hv
    exact ⟨.inl (List.eq_nil_of_length_eq_zero h0), by omega⟩
  · simp only [Value.slice.injEq] at hv
    obtain ⟨rfl, rfl, rfl⟩ := hv
    refine ⟨.inr ⟨g, 0, rfl, fun i hi j v hj => ?_⟩, rfl⟩
    have hj5 : j < 5 := by
      have := (List.getElem?_eq_some_iff.1 hj).1
      simpa [C5.cells] using this
    have hc := World.ownsRow.cells h (g := g) rfl (i * 5 + j) v (by rw [cflat_at es i hi j hj5]; exact hj)
    have hadd : ∀ k, (⟨g, 0, none⟩ : Addr).add k = ⟨g, 0 + k, none⟩ := fun k => by unfold Addr.add; split <;> simp_all
    rw [hadd] at hc
    exact hc

theorem capp_core {w' : World} {base : Nat} {v' : Value} {es : List C5} {u : C5}
    (h1 : w'.ownsRow base 80 5 v' (es.length + 1) (es.flatMap C5.cells ++ u.cells)) : COwn base w' v' (es ++ [u]) := by
  unfold COwn
  rw [List.length_append, List.flatMap_append]
  simpa using h1
theorem cells5 {w : World} {B : Nat} {u : C5} (hB : Blk w B #[.int .i64 u.a, .int .i64 u.b, .int .i64 u.c, .int .i64 u.d, .int .i64 u.e] 80) : ∀ j x, u.cells[j]? = some x → w.cell? ((⟨B, 0, none⟩ : Addr).add j) = some x := by
  obtain ⟨e0, e1, e2, e3, e4⟩ := hB.five
  intro j x hj
  have hadd : (⟨B, 0, none⟩ : Addr).add j = ⟨B, 0 + j, none⟩ := by unfold Addr.add; split <;> simp_all
  rw [hadd]
  match j with
  | 0 => simp [C5.cells] at hj; subst hj; exact e0
  | 1 => simp [C5.cells] at hj; subst hj; exact e1
  | 2 => simp [C5.cells] at hj; subst hj; exact e2
  | 3 => simp [C5.cells] at hj; subst hj; exact e3
  | 4 => simp [C5.cells] at hj; subst hj; exact e4
  | j + 5 => simp [C5.cells] at hj
theorem one5 (u : C5) : ∀ v ∈ u.cells, v.oneCell' = true := by
  intro v hv
  simp [C5.cells] at hv
  rcases hv with rfl | rfl | rfl | rfl | rfl <;> rfl

/-- out = append(out, c): a command, in a row of the call's own -/
theorem capp1 {ops : Array Oper} {rest : List Oper} {o : Oper} {a : Act} {Q : Exit → Act → World → Prop} {w : World} (hgd : o.guard = none) (s x : Operand)
    (ho : o.op = .call { callee := .builtin .append, args := #[s, x], argTypes := #[81, 81] })
    (base : Nat) (v : Value) (es : List C5) (u : C5) (B : Nat) (hs : a.eval s = v) (hx : a.eval x = .slice (some ⟨B, 0, none⟩) 1 1)
    (hown : COwn base w v es) (hB : Blk w B #[.int .i64 u.a, .int .i64 u.b, .int .i64 u.c, .int .i64 u.d, .int .i64 u.e] 80) (hl : es.length < 1048576) (hbase : base ≤ w.heap.size)
    (h : ∀ v' w', COwn base w' v' (es ++ [u]) → w.grownBy w' v.ownBlock → wpList Try.prog ops Q rest (a.put o.dst v') w') :
    wpList Try.prog ops Q (o :: rest) a w := by
  obtain ⟨i0, hi, hz0, hz1, hz2⟩ := info_parts info_cmd
  refine wpList_append_own w hgd s x 81 ho base 80 i0 _ 5 40 Try.underlying81 hi hz0 hz1 hz2 rfl (by decide) v es.length _ hs hown ⟨B, 0, none⟩ 1 1 u.cells hx rfl (cells5 hB) (one5 u) ?_ ?_ hbase ?_
  · unfold maxLen; omega
  · omega
  · intro v' w' h1 h2 _
    exact h v' w' (capp_core h1) h2
/-- .. as an operation of a region that draws its order -/
theorem step_capp1 {ops : Array Oper} {o : Oper} {a : Act} {K : Act → World → Prop} {Q : Exit → Act → World → Prop} {w : World} {E : Prop} (hw : Region.wanted o (yielded ops a.tmps) = true) (s x : Operand)
    (ho : o.op = .call { callee := .builtin .append, args := #[s, x], argTypes := #[81, 81] })
    (base : Nat) (v : Value) (es : List C5) (u : C5) (B : Nat) (hs : a.eval s = v) (hx : a.eval x = .slice (some ⟨B, 0, none⟩) 1 1)
    (hown : COwn base w v es) (hB : Blk w B #[.int .i64 u.a, .int .i64 u.b, .int .i64 u.c, .int .i64 u.d, .int .i64 u.e] 80) (hl : es.length < 1048576) (hbase : base ≤ w.heap.size)
    (h : ∀ v' w', COwn base w' v' (es ++ [u]) → w.grownBy w' v.ownBlock → K (a.put o.dst v') w') :
    if Region.wanted o (yielded ops a.tmps) = true then Oper.wp Try.prog o a w K Q else E := by
  rw [if_pos hw]
  obtain ⟨i0, hi, hz0, hz1, hz2⟩ := info_parts info_cmd
  refine wp_append_own w s x 81 ho base 80 i0 _ 5 40 Try.underlying81 hi hz0 hz1 hz2 rfl (by decide) v es.length _ hs hown ⟨B, 0, none⟩ 1 1 u.cells hx rfl (cells5 hB) (one5 u) ?_ ?_ hbase ?_
  · unfold maxLen; omega
  · omega
  · intro v' w' h1 h2 _
    exact h v' w' (capp_core h1) h2

end Go.Proofs.Ytmipnikhgihcpaa
