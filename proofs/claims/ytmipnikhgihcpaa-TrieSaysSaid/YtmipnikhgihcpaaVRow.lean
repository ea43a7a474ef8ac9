/- Rows of values of one cell each (slices, pointers, ..): read, owned, appended to. -/
import Derived.Test.YtmipnikhgihcpaaSl
import Derived.Test.YtmipnikhgihcpaaSep
namespace Go.Proofs.Ytmipnikhgihcpaa
open Go.RowKit
set_option linter.unusedVariables false
set_option linter.unusedSimpArgs false

/-- the cells from a on read as the values vs -/
def Vals (w : World) (a : Option Addr) (vs : List Value) : Prop :=
  vs = [] ∨ ∃ b o, a = some ⟨b, o, none⟩ ∧ ∀ i, i < vs.length → w.cell? ⟨b, o + i, none⟩ = some (vx vs i)
theorem vx_at {vs : List Value} {i : Nat} (h : i < vs.length) : vx vs i = vs[i] := by simp [vx, h]
theorem vx_take {vs : List Value} {k i : Nat} (h : i < k) : vx (vs.take k) i = vx vs i := by
  unfold vx; simp [List.getElem?_take, h]
theorem vx_drop {vs : List Value} {k i : Nat} : vx (vs.drop k) i = vx vs (k + i) := by unfold vx; simp
theorem vx_left {vs us : List Value} {i : Nat} (h : i < vs.length) : vx (vs ++ us) i = vx vs i := by unfold vx; simp [List.getElem?_append_left h]
theorem vx_right {vs us : List Value} {i : Nat} : vx (vs ++ us) (vs.length + i) = vx us i := by unfold vx; simp [List.getElem?_append_right]
theorem rx_at {X : List (List Int)} {i : Nat} (h : i < X.length) : rx X i = X[i] := by simp [rx, h]
theorem rx_take {X : List (List Int)} {k i : Nat} (h : i < k) : rx (X.take k) i = rx X i := by
  unfold rx; simp [List.getElem?_take, h]
theorem rx_drop {X : List (List Int)} {k i : Nat} : rx (X.drop k) i = rx X (k + i) := by unfold rx; simp
theorem rx_left {X Y : List (List Int)} {i : Nat} (h : i < X.length) : rx (X ++ Y) i = rx X i := by unfold rx; simp [List.getElem?_append_left h]
theorem rx_right {X Y : List (List Int)} {i : Nat} : rx (X ++ Y) (X.length + i) = rx Y i := by unfold rx; simp [List.getElem?_append_right]
theorem take_succ_rx {X : List (List Int)} {k : Nat} (h : k < X.length) : X.take (k + 1) = X.take k ++ [rx X k] := by
  rw [List.take_succ_eq_append_getElem h, rx_at h]
theorem take_succ_vx {X : List Value} {k : Nat} (h : k < X.length) : X.take (k + 1) = X.take k ++ [vx X k] := by
  rw [List.take_succ_eq_append_getElem h, vx_at h]

theorem Vals.at {w : World} {a : Option Addr} {vs : List Value} (h : Vals w a vs) {k : Nat} (hk : k < vs.length) :
    ∃ b o, a = some ⟨b, o, none⟩ ∧ ∀ i, i < vs.length → w.cell? ⟨b, o + i, none⟩ = some (vx vs i) := by
  rcases h with h | h
  · subst h; simp at hk
  · exact h
theorem Vals.keep {w w' : World} {a : Option Addr} {vs : List Value} (h : Vals w a vs) (hc : ∀ p v, w.cell? p = some v → w'.cell? p = some v) : Vals w' a vs := by
  rcases h with h | ⟨b, o, ha, h⟩
  · exact .inl h
  · exact .inr ⟨b, o, ha, fun i hi => hc _ _ (h i hi)⟩
theorem Vals.below {w w' : World} {a : Option Addr} {vs : List Value} (h : Vals w a vs) (hb : Below w.heap.size w w') : Vals w' a vs := h.keep (below_keeps hb)
theorem Vals.drewN {w : World} {a : Option Addr} {vs : List Value} (h : Vals w a vs) (n : Nat) : Vals (w.drewN n) a vs := h.keep (fun _ _ h => h)
theorem Vals.drew {w : World} {a : Option Addr} {vs : List Value} (h : Vals w a vs) : Vals w.drew a vs := h.keep (fun _ _ h => h)
theorem Vals.nil (w : World) (a : Option Addr) : Vals w a [] := .inl rfl
theorem Vals.take {w : World} {a : Option Addr} {vs : List Value} (h : Vals w a vs) (k : Nat) : Vals w a (vs.take k) := by
  rcases h with h | ⟨b, o, ha, h⟩
  · subst h; exact .inl (by simp)
  · refine .inr ⟨b, o, ha, fun i hi => ?_⟩
    have hl : i < vs.length ∧ i < k := by simp at hi; omega
    rw [h i hl.1, vx_take hl.2]
theorem Vals.drop {w : World} {b o : Nat} {vs : List Value} (h : Vals w (some ⟨b, o, none⟩) vs) (k : Nat) : Vals w (some ⟨b, o + k, none⟩) (vs.drop k) := by
  rcases h with h | ⟨b', o', ha, h⟩
  · subst h; exact .inl (by simp)
  · simp only [Option.some.injEq, Addr.mk.injEq] at ha
    obtain ⟨rfl, rfl, -⟩ := ha
    refine .inr ⟨b, o + k, rfl, fun i hi => ?_⟩
    have hl : k + i < vs.length := by simp at hi; omega
    rw [show o + k + i = o + (k + i) from by omega, h _ hl, vx_drop]

/-- a slice value that reads as the values vs -/
def Vs (w : World) (v : Value) (vs : List Value) : Prop := ∃ a n c, v = .slice a n c ∧ vs.length = n ∧ n ≤ c ∧ c ≤ 9223372036854775807 ∧ Vals w a vs ∧ (a = none → n = 0)
theorem Vs.keep {w w' : World} {v : Value} {vs : List Value} (h : Vs w v vs) (hc : ∀ p v, w.cell? p = some v → w'.cell? p = some v) : Vs w' v vs := by
  obtain ⟨a, n, c, h1, h2, h3, h4, h5, h6⟩ := h
  exact ⟨a, n, c, h1, h2, h3, h4, h5.keep hc, h6⟩
theorem Vs.below {w w' : World} {v : Value} {vs : List Value} (h : Vs w v vs) (hb : Below w.heap.size w w') : Vs w' v vs := h.keep (below_keeps hb)
theorem Vs.get {w : World} {a : Option Addr} {n c : Nat} {vs : List Value} (h : Vs w (.slice a n c) vs) : vs.length = n ∧ n ≤ c ∧ c ≤ 9223372036854775807 ∧ Vals w a vs ∧ (a = none → n = 0) := by
  obtain ⟨a', n', c', h1, rest⟩ := h
  simp only [Value.slice.injEq] at h1
  obtain ⟨rfl, rfl, rfl⟩ := h1
  exact rest
theorem Vs.nil (w : World) : Vs w (.slice none 0 0) [] := ⟨none, 0, 0, rfl, rfl, Nat.le_refl _, by omega, Vals.nil _ _, fun _ => rfl⟩
theorem Vs.drewN {w : World} {v : Value} {vs : List Value} (h : Vs w v vs) (n : Nat) : Vs (w.drewN n) v vs := h.keep (fun _ _ h => h)
theorem Vs.drew {w : World} {v : Value} {vs : List Value} (h : Vs w v vs) : Vs w.drew v vs := h.keep (fun _ _ h => h)

/-- the values read as the lists -/
structure Lists (w : World) (vs : List Value) (X : List (List Int)) : Prop where
  len : vs.length = X.length
  sl : ∀ i, i < X.length → Sl w (vx vs i) (rx X i)
theorem Lists.keep {w w' : World} {vs : List Value} {X : List (List Int)} (h : Lists w vs X) (hc : ∀ p v, w.cell? p = some v → w'.cell? p = some v) : Lists w' vs X := ⟨h.len, fun i hi => (h.sl i hi).keep hc⟩
theorem Lists.below {w w' : World} {vs : List Value} {X : List (List Int)} (h : Lists w vs X) (hb : Below w.heap.size w w') : Lists w' vs X := h.keep (below_keeps hb)
theorem Lists.drewN {w : World} {vs : List Value} {X : List (List Int)} (h : Lists w vs X) (n : Nat) : Lists (w.drewN n) vs X := h.keep (fun _ _ h => h)
theorem Lists.drew {w : World} {vs : List Value} {X : List (List Int)} (h : Lists w vs X) : Lists w.drew vs X := h.keep (fun _ _ h => h)
theorem Lists.nil (w : World) : Lists w [] [] := ⟨rfl, fun i hi => by simp at hi⟩
theorem Lists.take {w : World} {vs : List Value} {X : List (List Int)} (h : Lists w vs X) (k : Nat) : Lists w (vs.take k) (X.take k) := by
  refine ⟨by simp [h.len], fun i hi => ?_⟩
  have hl : i < k ∧ i < X.length := by simp at hi; omega
  rw [vx_take hl.1, rx_take hl.1]; exact h.sl i hl.2
theorem Lists.drop {w : World} {vs : List Value} {X : List (List Int)} (h : Lists w vs X) (k : Nat) : Lists w (vs.drop k) (X.drop k) := by
  refine ⟨by simp [h.len], fun i hi => ?_⟩
  rw [vx_drop, rx_drop]; exact h.sl _ (by simp at hi; omega)
theorem Lists.append {w : World} {vs us : List Value} {X Y : List (List Int)} (h : Lists w vs X) (g : Lists w us Y) : Lists w (vs ++ us) (X ++ Y) := by
  refine ⟨by simp [h.len, g.len], fun i hi => ?_⟩
  by_cases hl : i < X.length
  · rw [vx_left (by rw [h.len]; exact hl), rx_left hl]; exact h.sl i hl
  · obtain ⟨j, rfl⟩ : ∃ j, i = X.length + j := ⟨i - X.length, by omega⟩
    rw [rx_right, ← h.len, vx_right]
    exact g.sl j (by simp at hi; omega)
theorem Lists.one {w : World} {v : Value} {xs : List Int} (h : Sl w v xs) : Lists w [v] [xs] := ⟨rfl, fun i hi => by
  obtain rfl : i = 0 := by simp at hi; omega
  exact h⟩

/-- the values vs in a row of the call's own -/
def VOwn (e : TypeId) (base : Nat) (w : World) (v : Value) (vs : List Value) : Prop := w.ownsRow base e 1 v vs.length vs
theorem VOwn.nil (e : TypeId) (base : Nat) (w : World) : VOwn e base w (.slice none 0 0) [] := World.ownsRow_nil _ _ _ _
theorem VOwn.alloc {e : TypeId} {base : Nat} {w : World} {v : Value} {vs : List Value} (h : VOwn e base w v vs) (o : Obj) : VOwn e base (w.alloc o) v vs := World.ownsRow.alloc h o
theorem VOwn.setCell {e : TypeId} {base : Nat} {w : World} {v : Value} {vs : List Value} (h : VOwn e base w v vs) {a : Addr} (ha : a.block < base) (u : Value) : VOwn e base (w.setCell a u) v vs := ownsRow_setCell_below h ha u
theorem VOwn.drewN {e : TypeId} {base : Nat} {w : World} {v : Value} {vs : List Value} (h : VOwn e base w v vs) (n : Nat) : VOwn e base (w.drewN n) v vs := h
theorem VOwn.drew {e : TypeId} {base : Nat} {w : World} {v : Value} {vs : List Value} (h : VOwn e base w v vs) : VOwn e base w.drew v vs := h
theorem VOwn.mono {e : TypeId} {base base' : Nat} {w : World} {v : Value} {vs : List Value} (h : VOwn e base w v vs) (hb : base' ≤ base) : VOwn e base' w v vs := by
  refine ⟨h.1, ?_⟩
  rcases h.2 with hn | ⟨g, cap, cur, rfl, hb', rest⟩
  · exact .inl hn
  · exact .inr ⟨g, cap, cur, rfl, by omega, rest⟩
theorem VOwn.kept {e : TypeId} {base : Nat} {w w' : World} {v : Value} {vs : List Value} (h : VOwn e base w v vs) (hb : Below w.heap.size w w') : VOwn e base w' v vs := by
  refine ⟨h.1, ?_⟩
  rcases h.2 with hn | ⟨g, cap, cur, rfl, hb', hgg, rest⟩
  · exact .inl hn
  · exact .inr ⟨g, cap, cur, rfl, hb', by rw [hb.block g (Array.getElem?_eq_some_iff.1 hgg).1]; exact hgg, rest⟩
theorem VOwn.other {e : TypeId} {base : Nat} {w : World} {v : Value} {vs : List Value} (h : VOwn e base w v vs) {a : Addr} (ha : some a.block ≠ v.ownBlock) (u : Value) : VOwn e base (w.setCell a u) v vs := by
  refine ⟨h.1, ?_⟩
  rcases h.2 with hn | ⟨g, cap, cur, rfl, hb', hgg, rest⟩
  · exact .inl hn
  · exact .inr ⟨g, cap, cur, rfl, hb', by rw [Below.heap_setCell _ _ _ _ (by intro e; exact ha (by simp [Value.ownBlock, e]))]; exact hgg, rest⟩
theorem VOwn.neBlk {e e' : TypeId} {base : Nat} {w : World} {v : Value} {vs : List Value} {B : Nat} {cs : Array Value} (h : VOwn e base w v vs) (hB : Blk w B cs e') (he : e ≠ e') : some B ≠ v.ownBlock := by
  rcases h.2 with ⟨rfl, _⟩ | ⟨g, cap, cur, rfl, hb', hgg, rest⟩
  · simp [Value.ownBlock]
  · intro hv
    simp only [Value.ownBlock, Option.some.injEq] at hv
    subst hv
    rw [show w.heap[B]? = _ from hB] at hgg
    simp at hgg
    exact he hgg.2.symm
theorem VOwn.row {e : TypeId} {base : Nat} {w : World} {v : Value} {vs : List Value} (h : VOwn e base w v vs) : ∀ k, v.ownBlock = some k → base ≤ k := fun k hk => (World.ownsRow.lt h k hk).1
theorem VOwn.ne {e : TypeId} {base : Nat} {w : World} {v : Value} {vs : List Value} (h : VOwn e base w v vs) {B : Nat} (hB : B < base) : some B ≠ v.ownBlock := by
  intro he
  have := World.ownsRow.lt h B he.symm
  omega
theorem VOwn.neOf {e : TypeId} {base : Nat} {w : World} {v : Value} {vs : List Value} (h : VOwn e base w v vs) {B : Nat} (hB : w.heap.size ≤ B) : some B ≠ v.ownBlock := by
  intro he
  have := World.ownsRow.lt h B he.symm
  omega
theorem VOwn.vs {e : TypeId} {base : Nat} {w : World} {v : Value} {vs : List Value} (h : VOwn e base w v vs) : Vs w v vs := by
  rcases h.2 with ⟨rfl, h0⟩ | ⟨g, cap, cur, rfl, hb, hg, hn, hm, hs, ht⟩
  · have : vs = [] := List.eq_nil_of_length_eq_zero h0
    subst this
    exact Vs.nil w
  · refine ⟨_, _, cap, rfl, rfl, hn, by unfold maxLen at hm; omega, .inr ⟨g, 0, rfl, fun i hi => ?_⟩, by simp⟩
    have := h.cells (g := g) rfl i (vx vs i) (by simp [vx, hi])
    have hadd : (⟨g, 0, none⟩ : Addr).add i = ⟨g, 0 + i, none⟩ := by unfold Addr.add; split <;> simp_all
    rwa [hadd] at this
theorem VOwn.form {e : TypeId} {base : Nat} {w : World} {v : Value} {vs : List Value} (h : VOwn e base w v vs) : ∃ a n c, v = .slice a n c := by
  obtain ⟨a, n, c, h1, _⟩ := h.vs
  exact ⟨a, n, c, h1⟩
/-- a row of another element type is not touched by what is appended to this one -/
theorem Own.beside {e e' : TypeId} {base base2 : Nat} {w w' : World} {v v2 : Value} {xs : List Int} {us : List Value} (h : Own e base w v xs) (h2 : VOwn e' base2 w v2 us) (he : e ≠ e') (hg : w.grownBy w' v2.ownBlock) : Own e base w' v xs := by
  refine ⟨h.1, ?_⟩
  rcases h.2 with hn | ⟨g, cap, cur, rfl, hb', hgg, rest⟩
  · exact .inl hn
  · refine .inr ⟨g, cap, cur, rfl, hb', ?_, rest⟩
    rw [hg.block g (Array.getElem?_eq_some_iff.1 hgg).1 (h2.neBlk (cs := cur) hgg (fun e => he e.symm))]
    exact hgg
theorem VOwn.left {e : TypeId} {base B : Nat} {w w' : World} {v : Value} {vs : List Value} (h : VOwn e base w v vs) (hL : ∀ {B' : Nat} {cs : Array Value} {e : TypeId}, B' ≠ B → Blk w B' cs e → Blk w' B' cs e) (hb : some B ≠ v.ownBlock) : VOwn e base w' v vs := by
  refine ⟨h.1, ?_⟩
  rcases h.2 with hn | ⟨g, cap, cur, rfl, hb', hgg, rest⟩
  · exact .inl hn
  · exact .inr ⟨g, cap, cur, rfl, hb', hL (fun e => hb (by simp [Value.ownBlock, e])) hgg, rest⟩

theorem info_sl : (Try.prog.info? 22).map (fun i => (i.zero, i.size, i.bytes)) = some (some (.slice none 0 0), 1, 24) := by kernel_rfl

/-- every value is a slice -/
def Sls (vs : List Value) : Prop := ∀ i, i < vs.length → ∃ a n c, vx vs i = .slice a n c
theorem Sls.mem {vs : List Value} (h : Sls vs) : ∀ v ∈ vs, v.oneCell' = true := by
  intro v hv
  obtain ⟨i, hi, rfl⟩ := vx_mem hv
  obtain ⟨a, n, c, h⟩ := h i hi
  rw [h]; rfl
theorem Lists.sls {w : World} {vs : List Value} {X : List (List Int)} (h : Lists w vs X) : Sls vs := by
  intro i hi
  obtain ⟨a, n, c, h1, _⟩ := h.sl i (by rw [← h.len]; exact hi)
  exact ⟨a, n, c, h1⟩

/-- out = append(out, src...): slices, onto a row of the call's own -/
theorem wp_vapp {o : Oper} {a : Act} {K : Act → World → Prop} {Q : Exit → Act → World → Prop} {w : World} (s x : Operand)
    (ho : o.op = .call { callee := .builtin .append, args := #[s, x], argTypes := #[46, 46] })
    (base : Nat) (v : Value) (vs us : List Value) (ad : Addr) (m c : Nat) (hs : a.eval s = v) (hx : a.eval x = .slice (some ad) m c)
    (hown : VOwn 22 base w v vs) (hy : Vals w (some ad) us) (hus : Sls us) (hm : us.length = m) (hl : vs.length + m ≤ 4398046511104) (hbase : base ≤ w.heap.size)
    (h : ∀ v' w', VOwn 22 base w' v' (vs ++ us) → w.grownBy w' v.ownBlock → K (a.put o.dst v') w') :
    o.wp Try.prog a w K Q := by
  obtain ⟨i0, hi, hz0, hz1, hz2⟩ := info_parts info_sl
  refine wp_append_own w s x 46 ho base 22 i0 (.slice none 0 0) 1 24 Try.underlying46 hi hz0 hz1 hz2 rfl (by decide) v vs.length _ hs hown ad m c us hx (by simp [hm]) ?_ ?_ ?_ ?_ hbase ?_
  · intro j u hj
    have hlt : j < us.length := by
      rcases Nat.lt_or_ge j us.length with h | h
      · exact h
      · simp [h] at hj
    obtain ⟨b, o', ha, hc⟩ := hy.at hlt
    simp only [Option.some.injEq] at ha
    subst ha
    have hadd : (⟨b, o', none⟩ : Addr).add j = ⟨b, o' + j, none⟩ := by unfold Addr.add; split <;> simp_all
    rw [hadd, hc j hlt, vx_at hlt]
    rw [List.getElem?_eq_getElem hlt] at hj
    exact hj
  · exact hus.mem
  · unfold maxLen; omega
  · omega
  · intro v' w' h1 h2 h3
    refine h v' w' ?_ h2
    unfold VOwn
    simpa [hm] using h1
theorem vapp {ops : Array Oper} {rest : List Oper} {o : Oper} {a : Act} {Q : Exit → Act → World → Prop} {w : World} (hgd : o.guard = none) (s x : Operand)
    (ho : o.op = .call { callee := .builtin .append, args := #[s, x], argTypes := #[46, 46] })
    (base : Nat) (v : Value) (vs us : List Value) (ad : Addr) (m c : Nat) (hs : a.eval s = v) (hx : a.eval x = .slice (some ad) m c)
    (hown : VOwn 22 base w v vs) (hy : Vals w (some ad) us) (hus : Sls us) (hm : us.length = m) (hl : vs.length + m ≤ 4398046511104) (hbase : base ≤ w.heap.size)
    (h : ∀ v' w', VOwn 22 base w' v' (vs ++ us) → w.grownBy w' v.ownBlock → wpList Try.prog ops Q rest (a.put o.dst v') w') :
    wpList Try.prog ops Q (o :: rest) a w :=
  wpList_plain hgd fun _ hK => wp_vapp s x ho base v vs us ad m c hs hx hown hy hus hm hl hbase fun v' w' h1 h2 => hK _ _ (h v' w' h1 h2)
/-- .. as an operation of a region that draws its order -/
theorem step_vapp {ops : Array Oper} {o : Oper} {a : Act} {K : Act → World → Prop} {Q : Exit → Act → World → Prop} {w : World} {E : Prop} (hw : Region.wanted o (yielded ops a.tmps) = true) (s x : Operand)
    (ho : o.op = .call { callee := .builtin .append, args := #[s, x], argTypes := #[46, 46] })
    (base : Nat) (v : Value) (vs us : List Value) (ad : Addr) (m c : Nat) (hs : a.eval s = v) (hx : a.eval x = .slice (some ad) m c)
    (hown : VOwn 22 base w v vs) (hy : Vals w (some ad) us) (hus : Sls us) (hm : us.length = m) (hl : vs.length + m ≤ 4398046511104) (hbase : base ≤ w.heap.size)
    (h : ∀ v' w', VOwn 22 base w' v' (vs ++ us) → w.grownBy w' v.ownBlock → K (a.put o.dst v') w') :
    if Region.wanted o (yielded ops a.tmps) = true then Oper.wp Try.prog o a w K Q else E := by
  rw [if_pos hw]
  exact wp_vapp s x ho base v vs us ad m c hs hx hown hy hus hm hl hbase h

/-- a literal row of values -/
theorem vals_lit (w : World) (us : List Value) (e : TypeId) : Vals (w.alloc (.cells us.toArray e)) (some ⟨w.heap.size, 0, none⟩) us := by
  refine .inr ⟨w.heap.size, 0, rfl, fun i hi => ?_⟩
  rw [Blk.cell (Blk.new w us.toArray e)]
  simp [vx, hi]
theorem vown_lit0 (w : World) (base : Nat) (hb : base ≤ w.heap.size) : VOwn 22 base (w.alloc (.cells #[] 22)) (.slice (some ⟨w.heap.size, 0, none⟩) 0 0) [] :=
  World.ownsRow_made w #[] 0 hb (by unfold maxLen; omega) rfl

def VClonePost (vs : List Value) (w : World) (e : Ending) (w' : World) : Prop := ∃ v, e = .returned v ∧ VOwn 22 w.heap.size w' v vs ∧ Below w.heap.size w w'

theorem slices_vclone (a : Option Addr) (n c : Nat) (vs : List Value) (w : World) (ha : Vals w a vs) (hs : Sls vs) (hn : vs.length = n) (hl : n ≤ 4398046511104) (h0 : a = none → n = 0) :
    Calls Try.prog 101 #[.slice a n c] w (VClonePost vs w) := by
  have he := fun (w : World) (n' c' : Nat) => Lib.run_eql_slice_nil (P := Try.prog) w 46 22 a n c n' c' Try.underlying46
  rcases a with _ | ad
  · obtain rfl : n = 0 := h0 rfl
    obtain rfl : vs = [] := List.eq_nil_of_length_eq_zero hn
    clear hn h0 ha
    go_enter Try.func101, Try.ntmps101
    go_wp2
    go_ret
    exact ⟨_, rfl, VOwn.nil _ _ _, Below.refl _ _⟩
  · have HN := Lib.hid hn; have HS := Lib.hid hs; clear hn h0 hs
    go_enter Try.func101, Try.ntmps101
    go_wp2_with (at_builtin; refine vapp rfl _ _ rfl w.heap.size _ _ vs ad n c rfl rfl (vown_lit0 w w.heap.size (Nat.le_refl _)) (ha.below (below1 _ _)) HS.out HN.out (by simpa using hl) (by simp) ?_; intro v1 w1 hown1 hgrow1)
    go_ret
    exact ⟨v1, rfl, by simpa using hown1, (below1 w _).grown hgrow1 (by simp) (vown_lit0 w w.heap.size (Nat.le_refl _)).row⟩

/-- .. with a base of one's own -/
theorem slices_vclone_b (base : Nat) (a : Option Addr) (n c : Nat) (vs : List Value) (w : World) (ha : Vals w a vs) (hbase : base ≤ w.heap.size) (hs : Sls vs) (hn : vs.length = n) (hl : n ≤ 4398046511104) (h0 : a = none → n = 0) :
    Calls Try.prog 101 #[.slice a n c] w fun e w' => ∃ v, e = .returned v ∧ VOwn 22 base w' v vs ∧ Below w.heap.size w w' :=
  (slices_vclone a n c vs w ha hs hn hl h0).mono fun e w' ⟨v, h1, h2, h3⟩ => ⟨v, h1, h2.mono hbase, h3⟩
theorem slices_clone_b (base : Nat) (a : Option Addr) (n c : Nat) (xs : List Int) (w : World) (ha : Ints w a xs) (hbase : base ≤ w.heap.size) (hn : xs.length = n) (hl : n ≤ 17592186044416) (h0 : a = none → n = 0) :
    Calls Try.prog 98 #[.slice a n c] w fun e w' => ∃ v, e = .returned v ∧ Own 3 base w' v xs ∧ Below w.heap.size w w' :=
  (slices_clone a n c xs w ha hn hl h0).mono fun e w' ⟨v, h1, h2, h3⟩ => ⟨v, h1, h2.mono hbase, h3⟩

end Go.Proofs.Ytmipnikhgihcpaa
