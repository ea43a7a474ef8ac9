/- Stores into two blocks; a ring of slices under pushes; append with the place of its row. -/
import Derived.Test.YtmipnikhgihcpaaVRing
import Derived.Test.YtmipnikhgihcpaaSlP
namespace Go.Proofs.Ytmipnikhgihcpaa
open Go.RowKit
set_option linter.unusedVariables false
set_option linter.unusedSimpArgs false

/-- nothing but the blocks p and g is changed, none is made -/
def But2 (p g : Nat) (w w' : World) : Prop := w'.heap.size = w.heap.size ∧ ∀ B, B ≠ p → B ≠ g → w'.heap[B]? = w.heap[B]?
theorem But2.refl (p g : Nat) (w : World) : But2 p g w w := ⟨rfl, fun _ _ _ => rfl⟩
theorem But2.set {p g : Nat} {w w' : World} (h : But2 p g w w') {a : Addr} (ha : a.block = p ∨ a.block = g) (u : Value) : But2 p g w (w'.setCell a u) := by
  refine ⟨by rw [size_setCell]; exact h.1, fun B h1 h2 => ?_⟩
  rw [Below.heap_setCell _ _ _ _ (by rcases ha with e | e <;> rw [e] <;> assumption)]
  exact h.2 B h1 h2
theorem But2.drewN {p g : Nat} {w w' : World} (h : But2 p g w w') (n : Nat) : But2 p g w (w'.drewN n) := h
theorem But2.cell {p g : Nat} {w w' : World} (h : But2 p g w w') {q : Addr} {v : Value} (h1 : q.block ≠ p) (h2 : q.block ≠ g) (hc : w.cell? q = some v) : w'.cell? q = some v := by
  unfold World.cell? at *
  rw [h.2 _ h1 h2]; exact hc
theorem But2.blk {p g : Nat} {w w' : World} (h : But2 p g w w') {B : Nat} {cs : Array Value} {e : TypeId} (h1 : B ≠ p) (h2 : B ≠ g) (hb : Blk w B cs e) : Blk w' B cs e := by
  unfold Blk at *
  rw [h.2 _ h1 h2]; exact hb

theorem RingV.push1 {w : World} {p g n f s : Nat} {slots : List Value} (h : RingV w p g n f s slots) {x : Value} (hx : ∃ a n c, x = .slice a n c) (q j : Nat) :
    RingV (((w.setCell ⟨g, j, none⟩ x).setCell ⟨p, 2, none⟩ (.int .i64 ((s + 1 : Nat) : Int))).drewN q) p g n f (s + 1) (slots.set j x) := by
  obtain ⟨h1, h2, h3, h4, h5⟩ := h
  refine ⟨?_, ?_, by simp [h3], h4, fun i hi => ?_⟩
  · have := (h1.other (a := ⟨g, j, none⟩) h4 x).set 2 (.int .i64 ((s + 1 : Nat) : Int))
    simp only [List.setIfInBounds_toArray, List.set_cons_zero, List.set_cons_succ] at this
    exact this.drewN q
  · exact (vrow_set h2 j x).other (a := ⟨p, 2, none⟩) (fun e => h4 e.symm) _
  · simp only [List.length_set] at hi
    by_cases e : j = i
    · subst e; rw [vx_set_eq hi]; exact hx
    · rw [vx_set_ne e]; exact h5 i hi
theorem RingV.push2 {w : World} {p g n f s : Nat} {slots : List Value} (h : RingV w p g n f s slots) {x : Value} (hx : ∃ a n c, x = .slice a n c) (q j f' : Nat) :
    RingV (((w.setCell ⟨g, j, none⟩ x).setCell ⟨p, 1, none⟩ (.int .i64 f')).drewN q) p g n f' s (slots.set j x) := by
  obtain ⟨h1, h2, h3, h4, h5⟩ := h
  refine ⟨?_, ?_, by simp [h3], h4, fun i hi => ?_⟩
  · have := (h1.other (a := ⟨g, j, none⟩) h4 x).set 1 (.int .i64 f')
    simp only [List.setIfInBounds_toArray, List.set_cons_zero, List.set_cons_succ] at this
    exact this.drewN q
  · exact (vrow_set h2 j x).other (a := ⟨p, 1, none⟩) (fun e => h4 e.symm) _
  · simp only [List.length_set] at hi
    by_cases e : j = i
    · subst e; rw [vx_set_eq hi]; exact hx
    · rw [vx_set_ne e]; exact h5 i hi

/-- out = append(out, src...), and where the row lies -/
theorem wp_vapp_at {o : Oper} {a : Act} {K : Act → World → Prop} {Q : Exit → Act → World → Prop} {w : World} (s x : Operand)
    (ho : o.op = .call { callee := .builtin .append, args := #[s, x], argTypes := #[46, 46] })
    (base : Nat) (v : Value) (vs us : List Value) (ad : Addr) (m c : Nat) (hs : a.eval s = v) (hx : a.eval x = .slice (some ad) m c)
    (hown : VOwn 22 base w v vs) (hy : Vals w (some ad) us) (hus : Sls us) (hm : us.length = m) (hl : vs.length + m ≤ 4398046511104) (hbase : base ≤ w.heap.size)
    (h : ∀ v' w', VOwn 22 base w' v' (vs ++ us) → w.grownBy w' v.ownBlock → (v'.ownBlock = v.ownBlock ∨ v'.ownBlock = some w.heap.size) → K (a.put o.dst v') w') :
    o.wp Try.prog a w K Q := by
  obtain ⟨i0, hi, hz0, hz1, hz2⟩ := info_parts info_sl
  obtain ⟨v', w', hr, h2, h3, -, h5⟩ := run_append_own_at (P := Try.prog) w base 46 o.type 22 i0 (.slice none 0 0) 1 24 Try.underlying46 hi hz0 hz1 hz2 rfl (by decide) v vs.length vs hown ad m c us (by simp [hm]) (by
    intro j u hj
    have hlt : j < us.length := by
      rcases Nat.lt_or_ge j us.length with h | h
      · exact h
      · simp [h] at hj
    obtain ⟨b, o', ha, hc⟩ := hy.at hlt
    simp only [Option.some.injEq] at ha
    subst ha
    have hadd : (⟨b, o', none⟩ : Addr).add j = ⟨b, o' + j, none⟩ := by unfold Addr.add; split <;> simp_all
    rw [hadd, hc j hlt, vx_at hlt]
    rw [List.getElem?_eq_getElem hlt] at hj
    exact hj) hus.mem (by unfold maxLen; omega) (by omega) hbase
  have h2' : VOwn 22 base w' v' (vs ++ us) := by unfold VOwn; simpa [hm] using h2
  have h := h v' w' h2' h3 h5
  unfold Oper.wp execOp
  simp only [ho, resolve, invoke, builtin, Sem.run_bind, Sem.run_pure, Result.andThen_ok, List.map_toArray, List.map_cons, List.map_nil, hs, hx, hr]
  exact h
theorem step_vapp_at {ops : Array Oper} {o : Oper} {a : Act} {K : Act → World → Prop} {Q : Exit → Act → World → Prop} {w : World} {E : Prop} (hw : Region.wanted o (yielded ops a.tmps) = true) (s x : Operand)
    (ho : o.op = .call { callee := .builtin .append, args := #[s, x], argTypes := #[46, 46] })
    (base : Nat) (v : Value) (vs us : List Value) (ad : Addr) (m c : Nat) (hs : a.eval s = v) (hx : a.eval x = .slice (some ad) m c)
    (hown : VOwn 22 base w v vs) (hy : Vals w (some ad) us) (hus : Sls us) (hm : us.length = m) (hl : vs.length + m ≤ 4398046511104) (hbase : base ≤ w.heap.size)
    (h : ∀ v' w', VOwn 22 base w' v' (vs ++ us) → w.grownBy w' v.ownBlock → (v'.ownBlock = v.ownBlock ∨ v'.ownBlock = some w.heap.size) → K (a.put o.dst v') w') :
    if Region.wanted o (yielded ops a.tmps) = true then Oper.wp Try.prog o a w K Q else E := by
  rw [if_pos hw]
  exact wp_vapp_at s x ho base v vs us ad m c hs hx hown hy hus hm hl hbase h

/-- a row of the call's own, told by its block -/
theorem VOwn.vspAt {e : TypeId} {base : Nat} {w : World} {v : Value} {vs : List Value} (h : VOwn e base w v vs) : VsP (fun k => v.ownBlock = some k) w v vs := by
  obtain ⟨a, n, c, h1, h2, h3, h4, h5, h6⟩ := h.vs
  refine ⟨a, n, c, h1, h2, h3, h4, h5, h6, fun ad ea p => ?_⟩
  subst h1 ea
  rcases h.2 with ⟨h8, _⟩ | ⟨g, cap, cur, h8, _⟩ <;> simp_all [Value.ownBlock]
theorem Own.slpAt {e : TypeId} {base : Nat} {w : World} {v : Value} {xs : List Int} (h : Own e base w v xs) : SlP (fun k => v.ownBlock = some k) w v xs := by
  obtain ⟨a, n, c, h1, h2, h3, h4, h5, h6⟩ := h.sl
  refine ⟨a, n, c, h1, h2, h3, h4, h5, h6, fun ad ea p => ?_⟩
  subst h1 ea
  rcases h.2 with ⟨h8, _⟩ | ⟨g, cap, cur, h8, _⟩ <;> simp_all [Value.ownBlock]
theorem Own.slpIn {e : TypeId} {base : Nat} {w w' : World} {v : Value} {xs : List Int} (h : Own e base w v xs) (h' : Own e base w' v xs) : SlP (fun k => base ≤ k ∧ k < w.heap.size) w' v xs :=
  h'.slpAt.imp fun k hk => World.ownsRow.lt h k hk

end Go.Proofs.Ytmipnikhgihcpaa
