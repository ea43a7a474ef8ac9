/- Rows of splices that the call has made. -/
import Derived.Test.YtbgbcmfgncneiaaSpl1
import Derived.Test.YtbgbcmfgncneiaaCut
import Derived.Deep.RegionHeld3
import Derived.Deep.RegionLaw
import Derived.Deep.AppendLies
namespace Go.Proofs.Ytbgbcmfgncneiaa
open Go.RowKit
set_option linter.unusedVariables false
set_option linter.unusedSimpArgs false

theorem info_spl : (Try.prog.info? 127).map (fun i => (i.zero, i.size, i.bytes)) = some (some (.agg #[.int .i64 0, .int .i64 0, .slice none 0 0]), 3, 40) := by kernel_rfl

/-- two lists go together -/
inductive All2 {α β : Type} (R : α → β → Prop) : List α → List β → Prop
  | nil : All2 R [] []
  | cons {a : α} {b : β} {l : List α} {m : List β} (h : R a b) (t : All2 R l m) : All2 R (a :: l) (b :: m)

/-- the three cells of a splice, its text by its slice -/
structure SV where
  f : Int
  t : Int
  a : Option Addr
  n : Nat
  c : Nat
def SV.cells (s : SV) : List Value := [.int .i64 s.f, .int .i64 s.t, .slice s.a s.n s.c]
/-- it is that splice, its text a row of the call's own -/
def SV.is (w : World) (base : Nat) (s : SV) (p : Sp) : Prop := s.f = p.f ∧ s.t = p.t ∧ Own 3 base w (.slice s.a s.n s.c) p.x
/-- the splices es in a row of the call's own -/
def SOwn (base : Nat) (w : World) (v : Value) (us : List SV) (es : List Sp) : Prop :=
  w.ownsRow base 127 3 v es.length (us.flatMap SV.cells) ∧ All2 (SV.is w base) us es

theorem SV.is.imp {w w' : World} {base base' : Nat} {s : SV} {p : Sp} (h : SV.is w base s p) (hk : Own 3 base w (.slice s.a s.n s.c) p.x → Own 3 base' w' (.slice s.a s.n s.c) p.x) : SV.is w' base' s p := ⟨h.1, h.2.1, hk h.2.2⟩
theorem forall2_imp {α β : Type} {R S : α → β → Prop} {l : List α} {m : List β} (h : All2 R l m) (hi : ∀ a b, R a b → S a b) : All2 S l m := by
  induction h with
  | nil => exact .nil
  | cons h _ ih => exact .cons (hi _ _ h) ih
theorem forall2_len {α β : Type} {R : α → β → Prop} {l : List α} {m : List β} (h : All2 R l m) : l.length = m.length := by
  induction h with
  | nil => rfl
  | cons h _ ih => simp [ih]
theorem forall2_snoc {α β : Type} {R : α → β → Prop} {l : List α} {m : List β} {a : α} {b : β} (h : All2 R l m) (hab : R a b) : All2 R (l ++ [a]) (m ++ [b]) := by
  induction h with
  | nil => exact .cons hab .nil
  | cons h _ ih => exact .cons h ih
theorem forall2_at {α β : Type} {R : α → β → Prop} {l : List α} {m : List β} (h : All2 R l m) : ∀ (i : Nat) (h1 : i < l.length) (h2 : i < m.length), R l[i] m[i] := by
  induction h with
  | nil => intro i h1; simp at h1
  | cons h _ ih =>
    intro i h1 h2
    match i with
    | 0 => exact h
    | i + 1 => exact ih i (by simpa using h1) (by simpa using h2)

theorem Own.grownOther {e e' : TypeId} {base base2 : Nat} {w w' : World} {v v2 : Value} {xs : List Int} {n2 size2 : Nat} {cs2 : List Value} (h : Own e base w v xs) (h2 : w.ownsRow base2 e' size2 v2 n2 cs2) (he : e ≠ e') (hg : w.grownBy w' v2.ownBlock) : Own e base w' v xs := by
  refine ⟨h.1, ?_⟩
  rcases h.2 with hn | ⟨g, cap, cur, rfl, hb', hgg, rest⟩
  · exact .inl hn
  · refine .inr ⟨g, cap, cur, rfl, hb', ?_, rest⟩
    rw [hg.block g (Array.getElem?_eq_some_iff.1 hgg).1 ?_]
    · exact hgg
    · intro hv
      rcases h2.2 with ⟨rfl, _⟩ | ⟨g2, cap2, cur2, rfl, hb2, hgg2, rest2⟩
      · simp [Value.ownBlock] at hv
      · simp only [Value.ownBlock, Option.some.injEq] at hv
        subst hv
        rw [hgg] at hgg2
        simp at hgg2
        exact he hgg2.2

theorem SOwn.nil (base : Nat) (w : World) : SOwn base w (.slice none 0 0) [] [] := ⟨World.ownsRow_nil _ _ _ _, .nil⟩
theorem SOwn.alloc {base : Nat} {w : World} {v : Value} {us : List SV} {es : List Sp} (h : SOwn base w v us es) (o : Obj) : SOwn base (w.alloc o) v us es := ⟨World.ownsRow.alloc h.1 o, forall2_imp h.2 fun _ _ hh => hh.imp fun k => k.alloc o⟩
theorem SOwn.drewN {base : Nat} {w : World} {v : Value} {us : List SV} {es : List Sp} (h : SOwn base w v us es) (n : Nat) : SOwn base (w.drewN n) v us es := h
theorem SOwn.drew {base : Nat} {w : World} {v : Value} {us : List SV} {es : List Sp} (h : SOwn base w v us es) : SOwn base w.drew v us es := h
theorem SOwn.mono {base base' : Nat} {w : World} {v : Value} {us : List SV} {es : List Sp} (h : SOwn base w v us es) (hb : base' ≤ base) : SOwn base' w v us es := by
  refine ⟨⟨h.1.1, ?_⟩, forall2_imp h.2 fun _ _ hh => hh.imp fun k => k.mono hb⟩
  rcases h.1.2 with hn | ⟨g, cap, cur, rfl, hb', rest⟩
  · exact .inl hn
  · exact .inr ⟨g, cap, cur, rfl, by omega, rest⟩
theorem SOwn.kept {base : Nat} {w w' : World} {v : Value} {us : List SV} {es : List Sp} (h : SOwn base w v us es) (hb : Below w.heap.size w w') : SOwn base w' v us es := by
  refine ⟨⟨h.1.1, ?_⟩, forall2_imp h.2 fun _ _ hh => hh.imp fun k => k.kept hb⟩
  rcases h.1.2 with hn | ⟨g, cap, cur, rfl, hb', hgg, rest⟩
  · exact .inl hn
  · exact .inr ⟨g, cap, cur, rfl, hb', by rw [hb.block g (Array.getElem?_eq_some_iff.1 hgg).1]; exact hgg, rest⟩
theorem SOwn.row {base : Nat} {w : World} {v : Value} {us : List SV} {es : List Sp} (h : SOwn base w v us es) : ∀ k, v.ownBlock = some k → base ≤ k := fun k hk => (World.ownsRow.lt h.1 k hk).1
theorem SOwn.form {base : Nat} {w : World} {v : Value} {us : List SV} {es : List Sp} (h : SOwn base w v us es) : ∃ a c, v = .slice a es.length c ∧ es.length ≤ c ∧ c ≤ 9223372036854775807 ∧ (a = none → es.length = 0) := by
  rcases h.1.2 with ⟨rfl, h0⟩ | ⟨g, cap, cur, rfl, hb', hgg, hn, hm, rest⟩
  · exact ⟨none, 0, by rw [h0], by omega, by omega, fun _ => h0⟩
  · exact ⟨_, cap, rfl, hn, by unfold maxLen at hm; omega, by simp⟩
theorem SOwn.neBlk {base : Nat} {w : World} {v : Value} {us : List SV} {es : List Sp} {e' : TypeId} {B : Nat} {cs : Array Value} (h : SOwn base w v us es) (hB : Blk w B cs e') (he : 127 ≠ e') : some B ≠ v.ownBlock := by
  rcases h.1.2 with ⟨rfl, _⟩ | ⟨g, cap, cur, rfl, hb', hgg, rest⟩
  · simp [Value.ownBlock]
  · intro hv
    simp only [Value.ownBlock, Option.some.injEq] at hv
    subst hv
    rw [show w.heap[B]? = _ from hB] at hgg
    simp at hgg
    exact he hgg.2.symm

theorem SOwn.neOf {base : Nat} {w : World} {v : Value} {us : List SV} {es : List Sp} (h : SOwn base w v us es) {B : Nat} (hB : w.heap.size ≤ B) : some B ≠ v.ownBlock := by
  intro he
  have := (World.ownsRow.lt h.1 B he.symm).2
  omega

theorem flat_len (us : List SV) : (us.flatMap SV.cells).length = us.length * 3 := by
  induction us with
  | nil => rfl
  | cons u r ih => simp [List.flatMap_cons, SV.cells] at ih ⊢; omega
theorem flat_at (us : List SV) : ∀ (i : Nat) (h : i < us.length) (j : Nat), j < 3 → (us.flatMap SV.cells)[i * 3 + j]? = (us[i].cells)[j]? := by
  induction us with
  | nil => intro i h; simp at h
  | cons u r ih =>
    intro i h j hj
    match i with
    | 0 =>
      simp only [List.flatMap_cons, Nat.zero_mul, Nat.zero_add, List.getElem_cons_zero]
      rw [List.getElem?_append_left (by simp [SV.cells]; omega)]
    | i + 1 =>
      simp only [List.flatMap_cons, List.getElem_cons_succ]
      rw [List.getElem?_append_right (by simp [SV.cells]; omega)]
      rw [show (i + 1) * 3 + j - u.cells.length = i * 3 + j from by simp [SV.cells]; omega]
      exact ih i (by simpa using h) j hj

/-- it reads as the splices -/
theorem SOwn.spls {base : Nat} {w : World} {a : Option Addr} {n c : Nat} {us : List SV} {es : List Sp} (h : SOwn base w (.slice a n c) us es) : Spls w a es := by
  rcases h.1.2 with ⟨hv, h0⟩ | ⟨g, cap, cur, hv, hb', hgg, rest⟩
  · exact .inl (List.eq_nil_of_length_eq_zero h0)
  · simp only [Value.slice.injEq] at hv
    obtain ⟨rfl, rfl, rfl⟩ := hv
    refine .inr ⟨g, 0, rfl, fun i hi => ?_⟩
    have hl := forall2_len h.2
    have hc := fun j (hj : j < 3) (u : Value) (hu : ((us[i]'(by omega)).cells)[j]? = some u) => h.1.cells (g := g) rfl (i * 3 + j) u (by rw [flat_at us i (by omega) j hj]; exact hu)
    have hadd : ∀ k, (⟨g, 0, none⟩ : Addr).add k = ⟨g, 0 + k, none⟩ := fun k => by unfold Addr.add; split <;> simp_all
    simp only [hadd] at hc
    have his := forall2_at h.2 i (by omega) hi
    rw [sp_eq hi]
    have hown := his.2.2
    have hget := hown.get
    refine ⟨(us[i]'(by omega)).a, (us[i]'(by omega)).c, ?_, ?_, ?_, hget.2.1, ?_, ?_, ?_⟩
    · rw [← his.1]; exact hc 0 (by omega) _ rfl
    · rw [← his.2.1]; exact hc 1 (by omega) _ rfl
    · rw [hget.1]; exact hc 2 (by omega) _ rfl
    · rw [hget.1]; exact hget.2.2
    · rcases hown.2 with ⟨h1, h2⟩ | ⟨g2, cap2, cur2, h1, _, _, _, hm, _⟩
      · simp only [Value.slice.injEq] at h1; omega
      · simp only [Value.slice.injEq] at h1; unfold maxLen at hm; omega
    · intro hn
      rcases hown.2 with ⟨h1, h2⟩ | ⟨g2, cap2, cur2, h1, _⟩
      · exact h2
      · simp only [Value.slice.injEq] at h1; rw [hn] at h1; simp at h1

theorem sapp_core {w w' : World} {base : Nat} {v v' : Value} {us : List SV} {es : List Sp} {u : SV} {p : Sp} (hown : SOwn base w v us es) (hu : SV.is w base u p)
    (h1 : w'.ownsRow base 127 3 v' (es.length + 1) (us.flatMap SV.cells ++ u.cells)) (h2 : w.grownBy w' v.ownBlock) : SOwn base w' v' (us ++ [u]) (es ++ [p]) := by
  refine ⟨?_, forall2_snoc (forall2_imp hown.2 fun _ _ hh => hh.imp fun k => k.grownOther hown.1 (by decide) h2) (hu.imp fun k => k.grownOther hown.1 (by decide) h2)⟩
  rw [List.length_append, List.flatMap_append]
  simpa using h1
theorem cells3 {w : World} {B : Nat} {f t x : Value} (hB : Blk w B #[f, t, x] 127) : ∀ j u, ([f, t, x] : List Value)[j]? = some u → w.cell? ((⟨B, 0, none⟩ : Addr).add j) = some u := by
  obtain ⟨e0, e1, e2, -⟩ := hB.three
  intro j u hj
  have hadd : (⟨B, 0, none⟩ : Addr).add j = ⟨B, 0 + j, none⟩ := by unfold Addr.add; split <;> simp_all
  rw [hadd]
  match j with
  | 0 => simp at hj; subst hj; exact e0
  | 1 => simp at hj; subst hj; exact e1
  | 2 => simp at hj; subst hj; exact e2
  | j + 3 => simp at hj
theorem one3 (u : SV) : ∀ v ∈ u.cells, v.oneCell' = true := by
  intro v hv
  simp [SV.cells] at hv
  rcases hv with rfl | rfl | rfl <;> rfl

/-- out = append(out, y): a splice, in a row of the call's own -/
theorem sapp1 {ops : Array Oper} {rest : List Oper} {o : Oper} {a : Act} {Q : Exit → Act → World → Prop} {w : World} (hgd : o.guard = none) (s x : Operand)
    (ho : o.op = .call { callee := .builtin .append, args := #[s, x], argTypes := #[22, 22] })
    (base : Nat) (v : Value) (us : List SV) (es : List Sp) (u : SV) (p : Sp) (B : Nat) (hs : a.eval s = v) (hx : a.eval x = .slice (some ⟨B, 0, none⟩) 1 1)
    (hown : SOwn base w v us es) (hu : SV.is w base u p) (hB : Blk w B #[.int .i64 u.f, .int .i64 u.t, .slice u.a u.n u.c] 127) (hl : es.length < 1048576) (hbase : base ≤ w.heap.size)
    (h : ∀ v' w', SOwn base w' v' (us ++ [u]) (es ++ [p]) → w.grownBy w' v.ownBlock → wpList Try.prog ops Q rest (a.put o.dst v') w') :
    wpList Try.prog ops Q (o :: rest) a w := by
  obtain ⟨i0, hi, hz0, hz1, hz2⟩ := info_parts info_spl
  refine wpList_append_own w hgd s x 22 ho base 127 i0 _ 3 40 Try.underlying22 hi hz0 hz1 hz2 rfl (by decide) v es.length _ hs hown.1 ⟨B, 0, none⟩ 1 1 u.cells hx rfl (cells3 hB) (one3 u) ?_ ?_ hbase ?_
  · unfold maxLen; omega
  · omega
  · intro v' w' h1 h2 _
    exact h v' w' (sapp_core hown hu h1 h2) h2
/-- .. as an operation of a region that draws its order -/
theorem step_sapp1 {ops : Array Oper} {o : Oper} {a : Act} {K : Act → World → Prop} {Q : Exit → Act → World → Prop} {w : World} {E : Prop} (hw : Region.wanted o (yielded ops a.tmps) = true) (s x : Operand)
    (ho : o.op = .call { callee := .builtin .append, args := #[s, x], argTypes := #[22, 22] })
    (base : Nat) (v : Value) (us : List SV) (es : List Sp) (u : SV) (p : Sp) (B : Nat) (hs : a.eval s = v) (hx : a.eval x = .slice (some ⟨B, 0, none⟩) 1 1)
    (hown : SOwn base w v us es) (hu : SV.is w base u p) (hB : Blk w B #[.int .i64 u.f, .int .i64 u.t, .slice u.a u.n u.c] 127) (hl : es.length < 1048576) (hbase : base ≤ w.heap.size)
    (h : ∀ v' w', SOwn base w' v' (us ++ [u]) (es ++ [p]) → w.grownBy w' v.ownBlock → K (a.put o.dst v') w') :
    if Region.wanted o (yielded ops a.tmps) = true then Oper.wp Try.prog o a w K Q else E := by
  rw [if_pos hw]
  obtain ⟨i0, hi, hz0, hz1, hz2⟩ := info_parts info_spl
  refine wp_append_own w s x 22 ho base 127 i0 _ 3 40 Try.underlying22 hi hz0 hz1 hz2 rfl (by decide) v es.length _ hs hown.1 ⟨B, 0, none⟩ 1 1 u.cells hx rfl (cells3 hB) (one3 u) ?_ ?_ hbase ?_
  · unfold maxLen; omega
  · omega
  · intro v' w' h1 h2 _
    exact h v' w' (sapp_core hown hu h1 h2) h2

end Go.Proofs.Ytbgbcmfgncneiaa
