/- Rows of pairs of numbers (api.Near) that the call has made. -/
import Derived.Test.YtmipnikhgihcpaaSlib
import Derived.Deep.RegionHeld3
import Derived.Deep.AppendLies
namespace Go.Proofs.Ytmipnikhgihcpaa
open Go.RowKit
set_option linter.unusedVariables false
set_option linter.unusedSimpArgs false

theorem info_near : (Try.prog.info? 116).map (fun i => (i.zero, i.size, i.bytes)) = some (some (.agg #[.int .i64 0, .int .i64 0]), 2, 16) := by kernel_rfl

/-- a word's number, and how far it is -/
structure N2 where
  a : Int
  b : Int
def N2.cells (s : N2) : List Value := [.int .i64 s.a, .int .i64 s.b]
def N2.v (s : N2) : Value := .agg #[.int .i64 s.a, .int .i64 s.b]
/-- the commands es in a row of the call's own -/
def NOwn (base : Nat) (w : World) (v : Value) (es : List N2) : Prop :=
  w.ownsRow base 116 2 v es.length (es.flatMap N2.cells)
/-- they can be read at that address -/
def NearR (w : World) (a : Option Addr) (es : List N2) : Prop :=
  es = [] ∨ ∃ b o, a = some ⟨b, o, none⟩ ∧ ∀ i (h : i < es.length) j v, (es[i].cells)[j]? = some v → w.cell? ⟨b, o + (i * 2 + j), none⟩ = some v

theorem NearR.keep {w w' : World} {a : Option Addr} {es : List N2} (h : NearR w a es) (hc : ∀ p v, w.cell? p = some v → w'.cell? p = some v) : NearR w' a es := by
  rcases h with h | ⟨b, o, rfl, h⟩
  · exact .inl h
  · exact .inr ⟨b, o, rfl, fun i hi j v hj => hc _ _ (h i hi j v hj)⟩
theorem NearR.below {w w' : World} {a : Option Addr} {es : List N2} (h : NearR w a es) (hb : Below w.heap.size w w') : NearR w' a es := h.keep (below_keeps hb)
theorem NearR.drewN {w : World} {a : Option Addr} {es : List N2} (h : NearR w a es) (n : Nat) : NearR (w.drewN n) a es := h.keep (fun _ _ h => h)

theorem NOwn.nil (base : Nat) (w : World) : NOwn base w (.slice none 0 0) [] := World.ownsRow_nil _ _ _ _
theorem NOwn.alloc {base : Nat} {w : World} {v : Value} {es : List N2} (h : NOwn base w v es) (o : Obj) : NOwn base (w.alloc o) v es := World.ownsRow.alloc h o
theorem NOwn.drewN {base : Nat} {w : World} {v : Value} {es : List N2} (h : NOwn base w v es) (n : Nat) : NOwn base (w.drewN n) v es := h
theorem NOwn.drew {base : Nat} {w : World} {v : Value} {es : List N2} (h : NOwn base w v es) : NOwn base w.drew v es := h
theorem NOwn.mono {base base' : Nat} {w : World} {v : Value} {es : List N2} (h : NOwn base w v es) (hb : base' ≤ base) : NOwn base' w v es := by
  refine ⟨h.1, ?_⟩
  rcases h.2 with hn | ⟨g, cap, cur, rfl, hb', rest⟩
  · exact .inl hn
  · exact .inr ⟨g, cap, cur, rfl, by omega, rest⟩
theorem NOwn.kept {base : Nat} {w w' : World} {v : Value} {es : List N2} (h : NOwn base w v es) (hb : Below w.heap.size w w') : NOwn base w' v es := by
  refine ⟨h.1, ?_⟩
  rcases h.2 with hn | ⟨g, cap, cur, rfl, hb', hgg, rest⟩
  · exact .inl hn
  · exact .inr ⟨g, cap, cur, rfl, hb', by rw [hb.block g (Array.getElem?_eq_some_iff.1 hgg).1]; exact hgg, rest⟩
theorem NOwn.row {base : Nat} {w : World} {v : Value} {es : List N2} (h : NOwn base w v es) : ∀ k, v.ownBlock = some k → base ≤ k := fun k hk => (World.ownsRow.lt h k hk).1
theorem NOwn.form {base : Nat} {w : World} {v : Value} {es : List N2} (h : NOwn base w v es) : ∃ a c, v = .slice a es.length c ∧ es.length ≤ c ∧ c ≤ 9223372036854775807 ∧ (a = none → es.length = 0) := by
  rcases h.2 with ⟨rfl, h0⟩ | ⟨g, cap, cur, rfl, hb', hgg, hn, hm, rest⟩
  · exact ⟨none, 0, by rw [h0], by omega, by omega, fun _ => h0⟩
  · exact ⟨_, cap, rfl, hn, by unfold maxLen at hm; omega, by simp⟩
theorem NOwn.neBlk {base : Nat} {w : World} {v : Value} {es : List N2} {e' : TypeId} {B : Nat} {cs : Array Value} (h : NOwn base w v es) (hB : Blk w B cs e') (he : 116 ≠ e') : some B ≠ v.ownBlock := by
  rcases h.2 with ⟨rfl, _⟩ | ⟨g, cap, cur, rfl, hb', hgg, rest⟩
  · simp [Value.ownBlock]
  · intro hv
    simp only [Value.ownBlock, Option.some.injEq] at hv
    subst hv
    rw [show w.heap[B]? = _ from hB] at hgg
    simp at hgg
    exact he hgg.2.symm
theorem NOwn.neOf {base : Nat} {w : World} {v : Value} {es : List N2} (h : NOwn base w v es) {B : Nat} (hB : w.heap.size ≤ B) : some B ≠ v.ownBlock := by
  intro he
  have := (World.ownsRow.lt h B he.symm).2
  omega

theorem nflat_at (us : List N2) : ∀ (i : Nat) (h : i < us.length) (j : Nat), j < 2 → (us.flatMap N2.cells)[i * 2 + j]? = (us[i].cells)[j]? := by
  induction us with
  | nil => intro i h; simp at h
  | cons u r ih =>
    intro i h j hj
    match i with
    | 0 =>
      simp only [List.flatMap_cons, Nat.zero_mul, Nat.zero_add, List.getElem_cons_zero]
      rw [List.getElem?_append_left (by simp [N2.cells]; omega)]
    | i + 1 =>
      simp only [List.flatMap_cons, List.getElem_cons_succ]
      rw [List.getElem?_append_right (by simp [N2.cells]; omega)]
      rw [show (i + 1) * 2 + j - u.cells.length = i * 2 + j from by simp [N2.cells]; omega]
      exact ih i (by simpa using h) j hj
theorem NOwn.nears {base : Nat} {w : World} {a : Option Addr} {n c : Nat} {es : List N2} (h : NOwn base w (.slice a n c) es) : NearR w a es ∧ n = es.length := by
  rcases h.2 with ⟨hv, h0⟩ | ⟨g, cap, cur, hv, hb', hgg, rest⟩
  · simp only [Value.slice.injEq] at hv
    exact ⟨.inl (List.eq_nil_of_length_eq_zero h0), by omega⟩
  · simp only [Value.slice.injEq] at hv
    obtain ⟨rfl, rfl, rfl⟩ := hv
    refine ⟨.inr ⟨g, 0, rfl, fun i hi j v hj => ?_⟩, rfl⟩
    have hj2 : j < 2 := by
      have := (List.getElem?_eq_some_iff.1 hj).1
      simpa [N2.cells] using this
    have hc := World.ownsRow.cells h (g := g) rfl (i * 2 + j) v (by rw [nflat_at es i hi j hj2]; exact hj)
    have hadd : ∀ k, (⟨g, 0, none⟩ : Addr).add k = ⟨g, 0 + k, none⟩ := fun k => by unfold Addr.add; split <;> simp_all
    rw [hadd] at hc
    exact hc

theorem napp_core {w' : World} {base : Nat} {v' : Value} {es : List N2} {u : N2}
    (h1 : w'.ownsRow base 116 2 v' (es.length + 1) (es.flatMap N2.cells ++ u.cells)) : NOwn base w' v' (es ++ [u]) := by
  unfold NOwn
  rw [List.length_append, List.flatMap_append]
  simpa using h1
theorem cells2n {w : World} {B : Nat} {u : N2} (hB : Blk w B #[.int .i64 u.a, .int .i64 u.b] 116) : ∀ j x, u.cells[j]? = some x → w.cell? ((⟨B, 0, none⟩ : Addr).add j) = some x := by
  obtain ⟨e0, e1, -, -⟩ := hB.two
  intro j x hj
  have hadd : (⟨B, 0, none⟩ : Addr).add j = ⟨B, 0 + j, none⟩ := by unfold Addr.add; split <;> simp_all
  rw [hadd]
  match j with
  | 0 => simp [N2.cells] at hj; subst hj; exact e0
  | 1 => simp [N2.cells] at hj; subst hj; exact e1
  | j + 2 => simp [N2.cells] at hj
theorem one2n (u : N2) : ∀ v ∈ u.cells, v.oneCell' = true := by
  intro v hv
  simp [N2.cells] at hv
  rcases hv with rfl | rfl <;> rfl

/-- out = append(out, c): a command, in a row of the call's own -/
theorem napp1 {ops : Array Oper} {rest : List Oper} {o : Oper} {a : Act} {Q : Exit → Act → World → Prop} {w : World} (hgd : o.guard = none) (s x : Operand)
    (ho : o.op = .call { callee := .builtin .append, args := #[s, x], argTypes := #[111, 111] })
    (base : Nat) (v : Value) (es : List N2) (u : N2) (B : Nat) (hs : a.eval s = v) (hx : a.eval x = .slice (some ⟨B, 0, none⟩) 1 1)
    (hown : NOwn base w v es) (hB : Blk w B #[.int .i64 u.a, .int .i64 u.b] 116) (hl : es.length < 1048576) (hbase : base ≤ w.heap.size)
    (h : ∀ v' w', NOwn base w' v' (es ++ [u]) → w.grownBy w' v.ownBlock → wpList Try.prog ops Q rest (a.put o.dst v') w') :
    wpList Try.prog ops Q (o :: rest) a w := by
  obtain ⟨i0, hi, hz0, hz1, hz2⟩ := info_parts info_near
  refine wpList_append_own w hgd s x 111 ho base 116 i0 _ 2 16 Try.underlying111 hi hz0 hz1 hz2 rfl (by decide) v es.length _ hs hown ⟨B, 0, none⟩ 1 1 u.cells hx rfl (cells2n hB) (one2n u) ?_ ?_ hbase ?_
  · unfold maxLen; omega
  · omega
  · intro v' w' h1 h2 _
    exact h v' w' (napp_core h1) h2
/-- .. as an operation of a region that draws its order -/
theorem step_napp1 {ops : Array Oper} {o : Oper} {a : Act} {K : Act → World → Prop} {Q : Exit → Act → World → Prop} {w : World} {E : Prop} (hw : Region.wanted o (yielded ops a.tmps) = true) (s x : Operand)
    (ho : o.op = .call { callee := .builtin .append, args := #[s, x], argTypes := #[111, 111] })
    (base : Nat) (v : Value) (es : List N2) (u : N2) (B : Nat) (hs : a.eval s = v) (hx : a.eval x = .slice (some ⟨B, 0, none⟩) 1 1)
    (hown : NOwn base w v es) (hB : Blk w B #[.int .i64 u.a, .int .i64 u.b] 116) (hl : es.length < 1048576) (hbase : base ≤ w.heap.size)
    (h : ∀ v' w', NOwn base w' v' (es ++ [u]) → w.grownBy w' v.ownBlock → K (a.put o.dst v') w') :
    if Region.wanted o (yielded ops a.tmps) = true then Oper.wp Try.prog o a w K Q else E := by
  rw [if_pos hw]
  obtain ⟨i0, hi, hz0, hz1, hz2⟩ := info_parts info_near
  refine wp_append_own w s x 111 ho base 116 i0 _ 2 16 Try.underlying111 hi hz0 hz1 hz2 rfl (by decide) v es.length _ hs hown ⟨B, 0, none⟩ 1 1 u.cells hx rfl (cells2n hB) (one2n u) ?_ ?_ hbase ?_
  · unfold maxLen; omega
  · omega
  · intro v' w' h1 h2 _
    exact h v' w' (napp_core h1) h2

end Go.Proofs.Ytmipnikhgihcpaa
