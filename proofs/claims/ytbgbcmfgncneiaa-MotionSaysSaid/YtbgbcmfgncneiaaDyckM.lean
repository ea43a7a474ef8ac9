/- Laws at the operations for a map of slices (MapV), and the append that says where the new row lies. -/
import Derived.Test.YtbgbcmfgncneiaaDyckI
import Derived.Maps.OwnOps
import Derived.Maps.AppendAt
import Derived.Test.YtbgbcmfgncneiaaRow
import Derived.Test.YtbgbcmfgncneiaaSep
namespace Go.Proofs.Ytbgbcmfgncneiaa
open Go.RowKit Go.Maps
set_option linter.unusedVariables false
set_option linter.unusedSimpArgs false

theorem look_mapv {ops : Array Oper} {rest : List Oper} {o : Oper} {a : Act} {Q : Exit → Act → World → Prop} {w : World} (hg : o.guard = none) (m x : Operand)
    (hop : o.op = Op.lookup 232 m x false) {b n : Nat} {f : Int → Value} (hmap : MapV w b n f) {k : Int} (hk : InR k) {v : Value} (hv : f k = v) (hm : a.eval m = .map (some b)) (hx : a.eval x = .int .i64 k)
    (hK : wpList Try.prog ops Q rest (a.put o.dst v) w) : wpList Try.prog ops Q (o :: rest) a w := by
  subst hv
  refine wpList_plain hg fun K' hK' => ?_
  have hrun := hmap.lookup (zeroRow w) hk
  unfold Oper.wp
  simp [execOp, hop, hm, hx, hrun, Result.andThen]
  exact hK' _ _ hK
theorem upd_mapv {ops : Array Oper} {rest : List Oper} {o : Oper} {a : Act} {Q : Exit → Act → World → Prop} {w : World} (hg : o.guard = none) (m x v : Operand)
    (hop : o.op = Op.mapUpdate 232 m x v) {b n : Nat} {f : Int → Value} (hmap : MapV w b n f) (hn : n ≤ 1000000000) {k : Int} (hk : InR k) {val : Value}
    (hm : a.eval m = .map (some b)) (hx : a.eval x = .int .i64 k) (hv : a.eval v = val)
    (hK : ∀ w', MapV w' b (n + 1) (fun y => if y = k then val else f y) → w.grownBy w' (some b) → wpList Try.prog ops Q rest (a.put o.dst undef) w') : wpList Try.prog ops Q (o :: rest) a w := by
  refine wpList_plain hg fun K' hK' => ?_
  obtain ⟨w', hrun, r1, r2⟩ := hmap.update hn hk val
  unfold Oper.wp
  simp [execOp, hop, hm, hx, hv, hrun, Result.andThen]
  exact hK' _ _ (hK w' r1 r2)
theorem app1At {ops : Array Oper} {rest : List Oper} {o : Oper} {a : Act} {Q : Exit → Act → World → Prop} {w : World} (hgd : o.guard = none) (s x : Operand)
    (ho : o.op = .call { callee := .builtin .append, args := #[s, x], argTypes := #[35, 35] })
    (base : Nat) (v : Value) (xs : List Int) (y : Int) (ad : Addr) (hs : a.eval s = v) (hx : a.eval x = .slice (some ad) 1 1)
    (hown : Own 3 base w v xs) (hc : w.cell? ad = some (.int .i64 y)) (hl : xs.length < 17592186044416) (hbase : base ≤ w.heap.size)
    (h : ∀ v' w', Own 3 base w' v' (xs ++ [y]) → w.grownBy w' v.ownBlock → (v'.ownBlock = v.ownBlock ∨ v'.ownBlock = some w.heap.size) → wpList Try.prog ops Q rest (a.put o.dst v') w') :
    wpList Try.prog ops Q (o :: rest) a w := by
  obtain ⟨i0, hi, hz0, hz1, hz2⟩ := info_parts info_int
  refine wpList_append_own_at w hgd s x 35 ho base 3 i0 (.int .i64 0) 1 8 Try.underlying35 hi hz0 hz1 hz2 rfl (by decide) v xs.length _ hs hown ad 1 1 [.int .i64 y] hx rfl ?_ ?_ ?_ ?_ hbase ?_
  · intro j u hj
    match j with
    | 0 => simp at hj; subst hj; simpa [Addr.add] using hc
    | j + 1 => simp at hj
  · intro u hu; simp at hu; subst hu; rfl
  · unfold maxLen; omega
  · omega
  · intro v' w' h1 h2 h3 h4
    refine h v' w' ?_ h2 h4
    unfold Own
    simpa using h1

theorem grownSet (w : World) (a : Addr) (u : Value) : w.grownBy (w.setCell a u) (some a.block) :=
  ⟨rfl, rfl, rfl, by simp, fun k _ hk => heap_setCell_other w a k u (fun e => hk (by rw [e]))⟩

/-- what lies in memory in the midst of Pairs: the row out, the map of the stacks, the stacks -/
structure PW (w wr : World) (f : Int → Value) (out : List Int) (stk : Int → List Int) (mm : Nat) : Prop where
  row : Blk wr w.heap.size (out.map (Value.int .i64)).toArray 3
  map : MapV wr (w.heap.size + 1) mm f
  own : ∀ o s, IsKind o s → Own 3 (w.heap.size + 2) wr (f o) (stk o)
  sep : ∀ o s o' s', IsKind o s → IsKind o' s' → o ≠ o' → Sep (f o) (f o')
  bel : Below w.heap.size w wr

theorem PW.set {w wr : World} {f : Int → Value} {out : List Int} {stk : Int → List Int} {mm : Nat} (h : PW w wr f out stk mm) (i : Nat) (x : Int) :
    PW w (wr.setCell ⟨w.heap.size, i, none⟩ (.int .i64 x)) f (out.set i x) stk mm :=
  ⟨rowSet h.row i x, h.map.kept (grownSet _ _ _) (by simp), fun o s hk => (h.own o s hk).setCell (by show w.heap.size < _; omega) _, h.sep, h.bel.setCell (p := ⟨w.heap.size, i, none⟩) (Nat.le_refl _) _⟩
theorem PW.drewN {w wr : World} {f : Int → Value} {out : List Int} {stk : Int → List Int} {mm : Nat} (h : PW w wr f out stk mm) (n : Nat) : PW w (wr.drewN n) f out stk mm :=
  ⟨h.row, by obtain ⟨D, h1, h2⟩ := h.map; exact ⟨D, h1, h2⟩, fun o s hk => (h.own o s hk).drewN n, h.sep, below_drewN h.bel n⟩
theorem PW.alloc {w wr : World} {f : Int → Value} {out : List Int} {stk : Int → List Int} {mm : Nat} (h : PW w wr f out stk mm) (ob : Obj) : PW w (wr.alloc ob) f out stk mm :=
  ⟨h.row.alloc ob, h.map.alloc ob, fun o s hk => (h.own o s hk).alloc ob, h.sep, h.bel.alloc h.bel.size ob⟩
/-- a row has grown: the map still lies -/
theorem PW.mapOf {w w1 w2 : World} {f : Int → Value} {out : List Int} {stk : Int → List Int} {mm : Nat} (h : PW w w1 f out stk mm) {o s : Int} (hk : IsKind o s) (hg : w1.grownBy w2 (f o).ownBlock) : MapV w2 (w.heap.size + 1) mm f :=
  h.map.kept hg ((h.own o s hk).ne (by omega))
theorem Own.grownB {e : TypeId} {base : Nat} {w w' : World} {v : Value} {xs : List Int} {b : Nat} (h : Own e base w v xs) (hg : w.grownBy w' (some b)) (hb : b < base) : Own e base w' v xs := by
  refine World.ownsRow.kept h hg ?_
  rcases hv : v.ownBlock with _ | j
  · exact .inl rfl
  · exact .inr (fun e => by have := h.row j hv; simp at e; omega)
theorem PW.push {w w1 w2 w3 : World} {f : Int → Value} {out : List Int} {stk : Int → List Int} {mm : Nat} (h : PW w w1 f out stk mm) {o s : Int} (hk : IsKind o s) {v' : Value} {ys : List Int}
    (h1 : Own 3 (w.heap.size + 2) w2 v' ys) (hg : w1.grownBy w2 (f o).ownBlock) (hat : v'.ownBlock = (f o).ownBlock ∨ v'.ownBlock = some w1.heap.size)
    (hm : MapV w3 (w.heap.size + 1) (mm + 1) (fun y => if y = o then v' else f y)) (hg2 : w2.grownBy w3 (some (w.heap.size + 1))) :
    PW w w3 (fun y => if y = o then v' else f y) out (fun y => if y = o then ys else stk y) (mm + 1) := by
  have hsepv : ∀ o' s', IsKind o' s' → o' ≠ o → Sep (f o') v' := fun o' s' hk' hne => by
    rcases hat with e | e
    · have := h.sep o' s' o s hk' hk hne; unfold Sep at *; rw [e]; exact this
    · rcases hv : (f o').ownBlock with _ | j
      · exact .inl hv
      · refine .inr ?_
        rw [hv, e]
        have := (World.ownsRow.lt (h.own o' s' hk') j hv).2
        simp; omega
  have hrow := (h.own o s hk).row
  refine ⟨?_, hm, fun o' s' hk' => ?_, fun o1 s1 o2 s2 hk1 hk2 hne => ?_, ?_⟩
  · exact (h.row.grown hg ((h.own o s hk).ne (by omega))).grown hg2 (by simp)
  · by_cases e : o' = o
    · subst e; rw [if_pos rfl]; show Own _ _ _ _ (if o' = o' then ys else stk o'); rw [if_pos rfl]; exact h1.grownB hg2 (by omega)
    · rw [if_neg e]; show Own _ _ _ _ (if o' = o then ys else stk o'); rw [if_neg e]
      exact ((h.own o' s' hk').grown hg (h.sep o' s' o s hk' hk e)).grownB hg2 (by omega)
  · by_cases e1 : o1 = o
    · by_cases e2 : o2 = o
      · exact absurd (e1.trans e2.symm) hne
      · rw [if_pos e1, if_neg e2]; exact (hsepv o2 s2 hk2 e2).symm
    · by_cases e2 : o2 = o
      · rw [if_neg e1, if_pos e2]; exact hsepv o1 s1 hk1 e1
      · rw [if_neg e1, if_neg e2]; exact h.sep o1 s1 o2 s2 hk1 hk2 hne
  · have hb1 : Below w.heap.size w w2 := h.bel.grown hg h.bel.size (fun j hj => by have := hrow j hj; omega)
    exact hb1.grown hg2 hb1.size (fun j hj => by simp at hj; omega)
theorem PW.pop {w w1 w3 : World} {f : Int → Value} {out : List Int} {stk : Int → List Int} {mm : Nat} (h : PW w w1 f out stk mm) {o s : Int} (hk : IsKind o s) {v' : Value} {ys : List Int}
    (h1 : Own 3 (w.heap.size + 2) w1 v' ys) (hat : v'.ownBlock = (f o).ownBlock)
    (hm : MapV w3 (w.heap.size + 1) (mm + 1) (fun y => if y = o then v' else f y)) (hg2 : w1.grownBy w3 (some (w.heap.size + 1))) :
    PW w w3 (fun y => if y = o then v' else f y) out (fun y => if y = o then ys else stk y) (mm + 1) :=
  h.push hk h1 ⟨rfl, rfl, rfl, Nat.le_refl _, fun _ _ _ => rfl⟩ (.inl hat) hm hg2

end Go.Proofs.Ytbgbcmfgncneiaa
