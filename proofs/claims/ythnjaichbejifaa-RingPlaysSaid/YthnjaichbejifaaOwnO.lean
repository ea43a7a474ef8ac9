/- A row of the call's own that begins within its block ('s = s[1:]'), appended to. -/
import Derived.Test.YthnjaichbejifaaSlib
import Derived.ArgAppend
namespace Go.Proofs.Ythnjaichbejifaa
open Go.RowKit
set_option linter.unusedVariables false
set_option linter.unusedSimpArgs false

def OwnO (e : TypeId) (base : Nat) (w : World) (v : Value) (xs : List Int) : Prop :=
  (v = .slice none 0 0 ∧ xs = []) ∨ ∃ g o c cur, v = .slice (some ⟨g, o, none⟩) xs.length c ∧ base ≤ g ∧ w.heap[g]? = some (.cells cur e (0, 0)) ∧ xs.length ≤ c ∧ c ≤ maxLen ∧ (c = 0 ∨ o + c ≤ cur.size) ∧ ∀ i, i < xs.length → cur[o + i]? = some (.int .i64 (ix xs i))

theorem OwnO.of {e : TypeId} {base : Nat} {w : World} {v : Value} {xs : List Int} (h : Own e base w v xs) : OwnO e base w v xs := by
  rcases h.2 with ⟨rfl, h0⟩ | ⟨g, cap, cur, rfl, hb, hg, hn, hm, hs, ht⟩
  · exact .inl ⟨rfl, List.eq_nil_of_length_eq_zero h0⟩
  · refine .inr ⟨g, 0, cap, cur, rfl, hb, hg, hn, hm, .inr (by omega), fun i hi => ?_⟩
    have h1 : (List.take (xs.length * 1) cur.toList)[i]? = (xs.map (Value.int .i64))[i]? := by rw [ht]
    rw [List.getElem?_take, if_pos (by omega)] at h1
    rw [Nat.zero_add]
    rw [Array.getElem?_toList] at h1
    rw [h1]; simp [ix, hi]

theorem OwnO.sl {e : TypeId} {base : Nat} {w : World} {v : Value} {xs : List Int} (h : OwnO e base w v xs) : ∃ a n c, v = .slice a n c ∧ xs.length = n ∧ Ints w a xs ∧ n ≤ c := by
  rcases h with ⟨rfl, rfl⟩ | ⟨g, o, c, cur, rfl, hb, hg, hn, hm, hs, hi⟩
  · exact ⟨none, 0, 0, rfl, rfl, .inl rfl, by omega⟩
  · refine ⟨_, _, c, rfl, rfl, .inr ⟨g, o, rfl, fun i h => ?_⟩, hn⟩
    rw [← hi i h]; simp [World.cell?, hg]

theorem OwnO.kept {e : TypeId} {base : Nat} {w w' : World} {v : Value} {xs : List Int} (h : OwnO e base w v xs) (hb : ∀ k, k < w.heap.size → base ≤ k → w'.heap[k]? = w.heap[k]?) : OwnO e base w' v xs := by
  rcases h with h | ⟨g, o, c, cur, rfl, hg0, hg, rest⟩
  · exact .inl h
  · exact .inr ⟨g, o, c, cur, rfl, hg0, by rw [hb g (Array.getElem?_eq_some_iff.1 hg).1 hg0]; exact hg, rest⟩
theorem OwnO.alloc {e : TypeId} {base : Nat} {w : World} {v : Value} {xs : List Int} (h : OwnO e base w v xs) (o : Obj) : OwnO e base (w.alloc o) v xs := h.kept fun k hk _ => Below.heap_alloc _ _ _ hk
theorem OwnO.drewN {e : TypeId} {base : Nat} {w : World} {v : Value} {xs : List Int} (h : OwnO e base w v xs) (n : Nat) : OwnO e base (w.drewN n) v xs := h
theorem OwnO.setCell {e : TypeId} {base : Nat} {w : World} {v : Value} {xs : List Int} (h : OwnO e base w v xs) {a : Addr} (ha : a.block < base) (u : Value) : OwnO e base (w.setCell a u) v xs :=
  h.kept fun k hk hb => Below.heap_setCell _ _ _ _ (by omega)
theorem OwnO.row {e : TypeId} {base : Nat} {w : World} {v : Value} {xs : List Int} (h : OwnO e base w v xs) : ∀ k, v.ownBlock = some k → base ≤ k := by
  intro k hk
  rcases h with ⟨rfl, _⟩ | ⟨g, o, c, cur, rfl, hg0, _⟩
  · simp [Value.ownBlock] at hk
  · simp [Value.ownBlock] at hk; omega

/-- the tail of a row: what 's[1:]' makes -/
theorem OwnO.tail {e : TypeId} {base : Nat} {w : World} {g o n c : Nat} {xs : List Int} (h : OwnO e base w (.slice (some ⟨g, o, none⟩) n c) xs) (h0 : 0 < n) :
    OwnO e base w (.slice (if c = 1 then some ⟨g, o, none⟩ else some ⟨g, o + 1, none⟩) (n - 1) (c - 1)) xs.tail := by
  rcases h with ⟨h, _⟩ | ⟨g', o', c', cur, hv, hb, hg, hn, hm, hs, hi⟩
  · simp at h
  · simp only [Value.slice.injEq, Option.some.injEq, Addr.mk.injEq] at hv
    obtain ⟨⟨rfl, rfl, -⟩, rfl, rfl⟩ := hv
    have hl : xs.tail.length = xs.length - 1 := by simp
    by_cases hc : c = 1
    · rw [if_pos hc]
      refine .inr ⟨g, o, c - 1, cur, by rw [hl], hb, hg, by omega, by omega, .inl (by omega), fun i h => by omega⟩
    · rw [if_neg hc]
      refine .inr ⟨g, o + 1, c - 1, cur, by rw [hl], hb, hg, by omega, by omega, .inr (by omega), fun i h => ?_⟩
      rw [show o + 1 + i = o + (i + 1) from by omega, hi (i + 1) (by omega)]
      simp [ix]

theorem grownBy_any {w w' : World} (h : w.grownBy w' none) (row : Option Nat) : w.grownBy w' row := ⟨h.os, h.tape, h.output, h.size, fun k hk _ => h.block k hk (by simp)⟩

theorem app1o {ops : Array Oper} {rest : List Oper} {o : Oper} {a : Act} {Q : Exit → Act → World → Prop} {w : World} (hgd : o.guard = none) (s x : Operand)
    (ho : o.op = .call { callee := .builtin .append, args := #[s, x], argTypes := #[24, 24] })
    (base : Nat) (v : Value) (xs : List Int) (y : Int) (ad : Addr) (hs : a.eval s = v) (hx : a.eval x = .slice (some ad) 1 1)
    (hown : OwnO 3 base w v xs) (hc : w.cell? ad = some (.int .i64 y)) (hl : xs.length < 17592186044416) (hbase : base ≤ w.heap.size)
    (h : ∀ v' w', OwnO 3 base w' v' (xs ++ [y]) → w.grownBy w' v.ownBlock → wpList Try.prog ops Q rest (a.put o.dst v') w') :
    wpList Try.prog ops Q (o :: rest) a w := by
  have hnews : ∀ j u, [Value.int .i64 y][j]? = some u → w.cell? (ad.add j) = some u := by
    intro j u hj
    match j with
    | 0 => simp at hj; subst hj; simpa [Addr.add] using hc
    | j + 1 => simp at hj
  rcases hown with ⟨rfl, rfl⟩ | ⟨g, of, c, cur, rfl, hb, hg, hn, hm, hsz, hi⟩
  · exact app1 hgd s x ho base (.slice none 0 0) [] y ad hs hx (Own.nil _ _ _) hc hl hbase fun v' w' h1 h2 => h v' w' (OwnO.of h1) h2
  · obtain ⟨i0, hi0, hz0, hz1, hz2⟩ := info_parts info_int
    by_cases hroom : xs.length + 1 ≤ c
    · have hcs : of + c ≤ cur.size := by rcases hsz with h | h <;> omega
      have hcell : w.cell? ⟨g, of + xs.length, none⟩ = cur[of + xs.length]? := by simp [World.cell?, hg]
      have hfr : w.frozen? ⟨g, of + xs.length, none⟩ = false := by simp [World.frozen?, hg]
      have hr := run_append_room_cells (P := Try.prog) w 24 o.type 3 i0 Try.underlying24 hi0 g of xs.length c ad 1 1 [.int .i64 y] (by rw [hz1]; rfl) hnews (by intro u hu; simp at hu; subst hu; rfl) hroom
        (by intro j hj; simp at hj; subst hj; rw [hz1, Nat.mul_one, Nat.add_zero, hcell, Array.getElem?_eq_getElem (by omega)]; rfl)
        (by intro j hj; simp at hj; subst hj; rw [hz1, Nat.mul_one, Nat.add_zero]; exact hfr)
      rw [hz1, Nat.mul_one] at hr
      refine wpList_plain hgd fun K hK => ?_
      unfold Oper.wp
      simp [execOp, ho, resolve, invoke, builtin, hs, hx, hr, Result.andThen]
      refine hK _ _ (h _ _ ?_ ?_)
      · have hset : (w.setCells g (of + xs.length) [.int .i64 y]).heap[g]? = some (.cells (cur.setIfInBounds (of + xs.length) (.int .i64 y)) 3 (0, 0)) := by
          simp [World.setCells, World.setCell, Array.getElem?_modify, hg]
        refine .inr ⟨g, of, c, _, by simp, hb, hset, by simpa using hroom, hm, .inr (by simpa using hcs), fun i hlt => ?_⟩
        simp only [List.length_append, List.length_singleton] at hlt
        rw [Array.getElem?_setIfInBounds]
        by_cases hii : i < xs.length
        · rw [if_neg (by omega), hi i hii, ix_append_left hii]
        · have : i = xs.length := by omega
          subst this
          rw [if_pos rfl, if_pos (by omega)]
          have := ix_append_right (xs := xs) (ys := [y]) (i := 0)
          rw [Nat.add_zero] at this
          rw [this]; rfl
      · refine ⟨rfl, rfl, rfl, by simp [World.setCells, World.setCell], fun k hk hne => ?_⟩
        simp only [World.setCells]
        exact Below.heap_setCell _ _ _ _ (by intro e; exact hne (by simp [Value.ownBlock, e]))
    · have holds : ∀ j u, (xs.map (Value.int .i64))[j]? = some u → w.cell? ((⟨g, of, none⟩ : Addr).add j) = some u := by
        intro j u hj
        have hlt : j < xs.length := by
          rcases Nat.lt_or_ge j xs.length with h | h
          · exact h
          · simp [h] at hj
        have hadd : (⟨g, of, none⟩ : Addr).add j = ⟨g, of + j, none⟩ := by unfold Addr.add; split <;> simp_all
        rw [hadd]
        rw [show w.cell? ⟨g, of + j, none⟩ = cur[of + j]? from by simp [World.cell?, hg], hi j hlt]
        rw [List.getElem?_map, List.getElem?_eq_getElem hlt] at hj
        rw [ix_eq hlt]; exact hj
      obtain ⟨v', w', hrun, r1, r2⟩ := run_append_arg_grows (P := Try.prog) w 24 o.type 3 i0 (.int .i64 0) 1 8 Try.underlying24 hi0 hz0 hz1 hz2 rfl (by decide) ⟨g, of, none⟩ xs.length c (xs.map (Value.int .i64)) (by simp) holds ad 1 1 [.int .i64 y] rfl hnews (by omega) (by unfold maxLen; omega) (by omega)
      refine wpList_plain hgd fun K hK => ?_
      unfold Oper.wp
      simp [execOp, ho, resolve, invoke, builtin, hs, hx, hrun, Result.andThen]
      refine hK _ _ (h v' w' ?_ (grownBy_any r2 _))
      have : Own 3 w.heap.size w' v' (xs ++ [y]) := by unfold Own; simpa using r1
      exact OwnO.of (this.mono hbase)

end Go.Proofs.Ythnjaichbejifaa
