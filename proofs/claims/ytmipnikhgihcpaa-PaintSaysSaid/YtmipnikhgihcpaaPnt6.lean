/- Rows of plans: pairs of numbers in blocks, slices of them in rows; plain laws of the places. -/
import Derived.Test.YtmipnikhgihcpaaPnt5
import Derived.Test.YtmipnikhgihcpaaPnt3
namespace Go.Proofs.Ytmipnikhgihcpaa
open Go.RowKit
set_option linter.unusedVariables false
set_option linter.unusedSimpArgs false

def stepCells (l : List (Nat × Option Nat)) : List Value := l.flatMap fun p => [.int .i64 (p.1 : Int), .int .i64 (secV p.2)]
theorem stepCells_get (l : List (Nat × Option Nat)) : ∀ i, i < l.length → (stepCells l)[i * 2]? = some (.int .i64 ((stx l i).1 : Int)) ∧ (stepCells l)[i * 2 + 1]? = some (.int .i64 (secV (stx l i).2)) := by
  induction l with
  | nil => intro i hi; simp at hi
  | cons p l ih =>
    intro i hi
    have hc : stepCells (p :: l) = .int .i64 (p.1 : Int) :: .int .i64 (secV p.2) :: stepCells l := by simp [stepCells]
    rw [hc]
    rcases i with _ | i
    · exact ⟨rfl, rfl⟩
    · have := ih i (by simpa using hi)
      rw [show (i + 1) * 2 = i * 2 + 1 + 1 from by omega, List.getElem?_cons_succ, List.getElem?_cons_succ, List.getElem?_cons_succ, List.getElem?_cons_succ]
      exact this
/-- a slice over a whole block of pairs that reads as the steps l -/
def StB (w : World) (v : Value) (l : List (Nat × Option Nat)) : Prop := ∃ b, v = .slice (some ⟨b, 0, none⟩) l.length l.length ∧ Blk w b (stepCells l).toArray 175
theorem StB.stp {w : World} {v : Value} {l : List (Nat × Option Nat)} (h : StB w v l) : Stp (fun x => x < w.heap.size) w v l := by
  obtain ⟨b, rfl, hb⟩ := h
  refine ⟨_, _, _, rfl, rfl, Nat.le_refl _, .inr ⟨b, 0, rfl, hb.lt, fun i hi => ?_⟩⟩
  obtain ⟨h1, h2⟩ := stepCells_get l i hi
  rw [Nat.zero_add, hb.cell, hb.cell, List.getElem?_toArray, List.getElem?_toArray]
  exact ⟨h1, h2⟩
theorem StB.below {w w' : World} {v : Value} {l : List (Nat × Option Nat)} (h : StB w v l) (hb : Below w.heap.size w w') : StB w' v l := by
  obtain ⟨b, rfl, hB⟩ := h
  exact ⟨b, rfl, hB.below hb hB.lt⟩
theorem StB.grown {w w' : World} {base : Nat} {v pv : Value} {us : List Value} {l : List (Nat × Option Nat)} (h : StB w v l) (ho : VOwn 176 base w pv us) (hg : w.grownBy w' pv.ownBlock) : StB w' v l := by
  obtain ⟨b, rfl, hB⟩ := h
  exact ⟨b, rfl, hB.grown hg (ho.neBlk hB (by decide))⟩
/-- plan number i, hidden from the walk -/
def plx (L : List (List (Nat × Option Nat))) (i : Nat) : List (Nat × Option Nat) := L.getD i []
theorem plx_eq {L : List (List (Nat × Option Nat))} {i : Nat} (h : i < L.length) : plx L i = L[i] := by simp [plx, h]
/-- values that read as plans -/
def StL (w : World) (us : List Value) (L : List (List (Nat × Option Nat))) : Prop := us.length = L.length ∧ ∀ i, i < L.length → StB w (vx us i) (plx L i)
theorem StL.below {w w' : World} {us : List Value} {L : List (List (Nat × Option Nat))} (h : StL w us L) (hb : Below w.heap.size w w') : StL w' us L := ⟨h.1, fun i hi => (h.2 i hi).below hb⟩
theorem StL.grown {w w' : World} {base : Nat} {pv : Value} {us vs : List Value} {L : List (List (Nat × Option Nat))} (h : StL w vs L) (ho : VOwn 176 base w pv us) (hg : w.grownBy w' pv.ownBlock) : StL w' vs L := ⟨h.1, fun i hi => (h.2 i hi).grown ho hg⟩
theorem StL.one {w : World} {v : Value} {l : List (Nat × Option Nat)} (h : StB w v l) : StL w [v] [l] := ⟨rfl, fun i hi => by
  obtain rfl : i = 0 := by simp at hi; omega
  exact h⟩
theorem StL.append {w : World} {us vs : List Value} {L M : List (List (Nat × Option Nat))} (h : StL w us L) (g : StL w vs M) : StL w (us ++ vs) (L ++ M) := by
  refine ⟨by simp [h.1, g.1], fun i hi => ?_⟩
  rcases Nat.lt_or_ge i L.length with hlt | hge
  · rw [vx_left (by rw [h.1]; exact hlt), show plx (L ++ M) i = plx L i from by unfold plx; simp [List.getElem?_append_left hlt]]
    exact h.2 i hlt
  · obtain ⟨j, rfl⟩ : ∃ j, i = L.length + j := ⟨i - L.length, by omega⟩
    rw [show plx (L ++ M) (L.length + j) = plx M j from by unfold plx; simp [List.getElem?_append_right], ← h.1, vx_right]
    exact g.2 j (by simp at hi; omega)
theorem StL.sls {w : World} {us : List Value} {L : List (List (Nat × Option Nat))} (h : StL w us L) : Sls us := fun i hi => by
  obtain ⟨b, h1, _⟩ := h.2 i (by rw [← h.1]; exact hi)
  exact ⟨_, _, _, h1⟩
theorem stB_new (w : World) (l : List (Nat × Option Nat)) : StB (w.alloc (.cells (stepCells l).toArray 175)) (.slice (some ⟨w.heap.size, 0, none⟩) l.length l.length) l := ⟨_, rfl, Blk.new _ _ _⟩
theorem vown_of_blk {w : World} {g base : Nat} {us : List Value} {e : TypeId} (h : Blk w g us.toArray e) (hb : base ≤ g) (hl : us.length ≤ 17592186044416) : VOwn e base w (.slice (some ⟨g, 0, none⟩) us.length us.length) us := by
  refine ⟨by simp, .inr ⟨g, us.length, us.toArray, rfl, hb, h, by simp, by unfold maxLen; omega, by simp, by simp⟩⟩

theorem info_pl : (Try.prog.info? 176).map (fun i => (i.zero, i.size, i.bytes)) = some (some (.slice none 0 0), 1, 24) := by kernel_rfl
theorem papp {ops : Array Oper} {rest : List Oper} {o : Oper} {a : Act} {Q : Exit → Act → World → Prop} {w : World} (hgd : o.guard = none) (s x : Operand)
    (ho : o.op = .call { callee := .builtin .append, args := #[s, x], argTypes := #[177, 177] })
    (base : Nat) (v : Value) (vs us : List Value) (ad : Addr) (m c : Nat) (hs : a.eval s = v) (hx : a.eval x = .slice (some ad) m c)
    (hown : VOwn 176 base w v vs) (hy : Vals w (some ad) us) (hus : Sls us) (hm : us.length = m) (hl : vs.length + m ≤ 4398046511104) (hbase : base ≤ w.heap.size)
    (h : ∀ v' w', VOwn 176 base w' v' (vs ++ us) → w.grownBy w' v.ownBlock → wpList Try.prog ops Q rest (a.put o.dst v') w') :
    wpList Try.prog ops Q (o :: rest) a w := by
  refine wpList_plain hgd fun _ hK => ?_
  obtain ⟨i0, hi, hz0, hz1, hz2⟩ := info_parts info_pl
  refine wp_append_own w s x 177 ho base 176 i0 (.slice none 0 0) 1 24 Try.underlying177 hi hz0 hz1 hz2 rfl (by decide) v vs.length _ hs hown ad m c us hx (by simp [hm]) ?_ ?_ ?_ ?_ hbase ?_
  · intro j u hj
    have hlt : j < us.length := by
      rcases Nat.lt_or_ge j us.length with h | h
      · exact h
      · simp [h] at hj
    obtain ⟨b, o', ha, hc⟩ := hy.at hlt
    simp only [Option.some.injEq] at ha
    subst ha
    have hadd : (⟨b, o', none⟩ : Addr).add j = ⟨b, o' + j, none⟩ := by unfold Addr.add; split <;> simp_all
    rw [hadd, hc j hlt, vx_at hlt]
    rw [List.getElem?_eq_getElem hlt] at hj
    exact hj
  · exact hus.mem
  · unfold maxLen; omega
  · omega
  · intro v' w' h1 h2 h3
    refine hK _ _ (h v' w' ?_ h2)
    unfold VOwn
    simpa [hm] using h1

/-- those of the places that are below full -/
theorem placesP_below (P : Nat → Bool) (full n : Nat) : (placesP P n).filter (fun z => decide (z < (full : Int))) = placesP (fun i => P i && decide (i < full)) n := by
  induction n with
  | zero => rfl
  | succ n ih =>
    unfold placesP
    by_cases hp : P n = true
    · rw [if_pos hp, List.filter_append, ih]
      by_cases hf : n < full
      · rw [if_pos (by simp [hp, hf])]
        simp; omega
      · rw [if_neg (by simp [hf])]
        simp; omega
    · rw [if_neg hp, ih, if_neg (by simp [hp])]
theorem placesP_from (P : Nat → Bool) (full n : Nat) : (placesP P n).filter (fun z => !decide (z < (full : Int))) = placesP (fun i => P i && decide (full ≤ i)) n := by
  induction n with
  | zero => rfl
  | succ n ih =>
    unfold placesP
    by_cases hp : P n = true
    · rw [if_pos hp, List.filter_append, ih]
      by_cases hf : n < full
      · rw [if_neg (by simp; omega)]
        simp; omega
      · rw [if_pos (by simp [hp]; omega)]
        simp; omega
    · rw [if_neg hp, ih, if_neg (by simp [hp])]
theorem placesP_congr {P Q : Nat → Bool} (n : Nat) (h : ∀ i, i < n → P i = Q i) : placesP P n = placesP Q n := by
  induction n with
  | zero => rfl
  | succ n ih => unfold placesP; rw [h n (by omega), ih (fun i hi => h i (by omega))]
theorem unlike_head (A B : List Int) (full n : Nat) (h : full ≤ n) : (placesP (unlikeP A B 0 n) n).filter (fun z => decide (z < (full : Int))) = placesP (unlikeP A B 0 full) n := by
  rw [placesP_below]
  refine placesP_congr n fun i hi => ?_
  unfold unlikeP
  by_cases h1 : i < full <;> simp [h1, hi]
theorem unlike_tail (A B : List Int) (full n : Nat) : (placesP (unlikeP A B 0 n) n).filter (fun z => !decide (z < (full : Int))) = placesP (unlikeP A B full n) n := by
  rw [placesP_from]
  refine placesP_congr n fun i hi => ?_
  unfold unlikeP
  by_cases h1 : full ≤ i <;> simp [h1, hi]
theorem filter_take_succ (p : Int → Bool) {l : List Int} {k : Nat} (h : k < l.length) : (l.take (k + 1)).filter p = if p (ix l k) = true then (l.take k).filter p ++ [ix l k] else (l.take k).filter p := by
  rw [take_succ_ix h, List.filter_append]
  by_cases hp : p (ix l k) = true <;> simp [hp]
theorem FullP.succ {B : List Int} {k f : Nat} (h : FullP B k f) (hb : ix B k = 32) : FullP B (k + 1) f :=
  ⟨Nat.le_succ_of_le h.le, fun i h1 h2 => by
    rcases Nat.lt_or_ge i k with hi | hi
    · exact h.blank i h1 hi
    · obtain rfl : i = k := by omega
      exact hb, h.last⟩
theorem FullP.here {B : List Int} {k : Nat} (hb : ix B k ≠ 32) : FullP B (k + 1) (k + 1) := ⟨Nat.le_refl _, fun i h1 h2 => by omega, fun _ => hb⟩

end Go.Proofs.Ytmipnikhgihcpaa
