/- Rows of splices whose last one changes; fairref.folded. -/
import Derived.Test.YtbgbcmfgncneiaaOver4
namespace Go.Proofs.Ytbgbcmfgncneiaa
open Go.RowKit
set_option linter.unusedVariables false
set_option linter.unusedSimpArgs false

/-- a row of splices of the call's own in block g, its last one aside -/
structure LastAt (base : Nat) (w : World) (g c : Nat) (ui : List SV) (u : SV) (es : List Sp) : Prop where
  row : w.ownsRow base 127 3 (.slice (some ⟨g, 0, none⟩) (es.length + 1) c) (es.length + 1) ((ui ++ [u]).flatMap SV.cells)
  ini : All2 (SV.is w base) ui es
theorem All2.splitLast {α β : Type} {R : α → β → Prop} : ∀ {us : List α} {es : List β} {p : β}, All2 R us (es ++ [p]) → ∃ ui u, us = ui ++ [u] ∧ All2 R ui es ∧ R u p := by
  intro us es
  induction es generalizing us with
  | nil =>
    intro p h
    rw [List.nil_append] at h
    cases h with
    | cons h1 h2 => cases h2; exact ⟨[], _, rfl, .nil, h1⟩
  | cons e r ih =>
    intro p h
    rw [List.cons_append] at h
    cases h with
    | cons h1 h2 =>
      obtain ⟨ui, u, rfl, h3, h4⟩ := ih h2
      exact ⟨_ :: ui, u, rfl, .cons h1 h3, h4⟩
theorem LastAt.len {base : Nat} {w : World} {g c : Nat} {ui : List SV} {u : SV} {es : List Sp} (h : LastAt base w g c ui u es) : ui.length = es.length := forall2_len h.ini
theorem LastAt.own {base : Nat} {w : World} {g c : Nat} {ui : List SV} {u : SV} {es : List Sp} {p : Sp} (h : LastAt base w g c ui u es) (hu : SV.is w base u p) : SOwn base w (.slice (some ⟨g, 0, none⟩) (es.length + 1) c) (ui ++ [u]) (es ++ [p]) := by
  refine ⟨?_, forall2_snoc h.ini hu⟩
  rw [List.length_append]
  exact h.row
theorem SOwn.last {base : Nat} {w : World} {v : Value} {us : List SV} {es : List Sp} {p : Sp} (h : SOwn base w v us (es ++ [p])) : ∃ g c ui u, v = .slice (some ⟨g, 0, none⟩) (es.length + 1) c ∧ us = ui ++ [u] ∧ LastAt base w g c ui u es ∧ SV.is w base u p ∧ es.length + 1 ≤ c ∧ c ≤ 9223372036854775807 := by
  obtain ⟨ui, u, rfl, h1, h2⟩ := h.2.splitLast
  have hr := h.1
  rw [List.length_append] at hr
  simp only [List.length_singleton] at hr
  rcases hr.2 with ⟨rfl, h0⟩ | ⟨g, cap, cur, rfl, hb', hgg, hn, hm, rest⟩
  · omega
  · exact ⟨g, cap, ui, u, rfl, rfl, ⟨hr, h1⟩, h2, hn, by unfold maxLen at hm; omega⟩
theorem flat_last (ui : List SV) (u : SV) (j : Nat) (hj : j < 3) : ((ui ++ [u]).flatMap SV.cells)[ui.length * 3 + j]? = u.cells[j]? := by
  rw [flat_at (ui ++ [u]) ui.length (by simp) j hj]
  simp
theorem LastAt.cell {base : Nat} {w : World} {g c : Nat} {ui : List SV} {u : SV} {es : List Sp} (h : LastAt base w g c ui u es) (j : Nat) (hj : j < 3) : w.cell? ⟨g, es.length * 3 + j, none⟩ = u.cells[j]? := by
  rw [World.ownsRow.cellAt h.row _ (by omega), ← h.len, flat_last _ _ _ hj]
theorem LastAt.free {base : Nat} {w : World} {g c : Nat} {ui : List SV} {u : SV} {es : List Sp} (h : LastAt base w g c ui u es) (j : Nat) : w.frozen? ⟨g, j, none⟩ = false := World.ownsRow.frozenAt h.row _
theorem flat_set (ui : List SV) (u u' : SV) (j : Nat) (v : Value) (hs : u.cells.set j v = u'.cells) : ((ui ++ [u]).flatMap SV.cells).set (ui.length * 3 + j) v = (ui ++ [u']).flatMap SV.cells := by
  rw [List.flatMap_append, List.flatMap_append]
  have hl := flat_len ui
  rw [List.set_append, if_neg (by omega)]
  rw [hl, show ui.length * 3 + j - ui.length * 3 = j from by omega]
  simp [hs]
theorem LastAt.set {base : Nat} {w : World} {g c : Nat} {ui : List SV} {u : SV} {es : List Sp} (h : LastAt base w g c ui u es) (u' : SV) (j : Nat) (v : Value) (hs : u.cells.set j v = u'.cells) :
    LastAt base (w.setCell ⟨g, es.length * 3 + j, none⟩ v) g c ui u' es ∧ w.grownBy (w.setCell ⟨g, es.length * 3 + j, none⟩ v) (some g) := by
  have hst := World.ownsRow.stored h.row (es.length * 3 + j) v
  have h1 := hst.1
  rw [← h.len, flat_set ui u u' j v hs, h.len] at h1
  exact ⟨⟨h1, forall2_imp h.ini fun _ _ hh => hh.imp fun k => k.grownOther h.row (by decide) hst.2⟩, hst.2⟩
/-- a text that is not one of those before has grown -/
theorem LastAt.grown {base : Nat} {w w' : World} {g c : Nat} {ui : List SV} {u : SV} {es : List Sp} {tv : Value} {x : List Int} (h : LastAt base w g c ui u es) (ho : Own 3 base w tv x) (ha : Apart ui tv) (hg : w.grownBy w' tv.ownBlock) : LastAt base w' g c ui u es := by
  refine ⟨⟨h.row.1, ?_⟩, ?_⟩
  · rcases h.row.2 with hn | ⟨g', cap, cur, hv, hb', hgg, rest⟩
    · exact .inl hn
    · refine .inr ⟨g', cap, cur, hv, hb', ?_, rest⟩
      rw [hg.block g' (Array.getElem?_eq_some_iff.1 hgg).1 ?_]
      · exact hgg
      · intro hv
        rcases ho.2 with ⟨rfl, _⟩ | ⟨g2, cap2, cur2, rfl, hb2, hgg2, rest2⟩
        · simp [Value.ownBlock] at hv
        · simp only [Value.ownBlock, Option.some.injEq] at hv
          subst hv
          rw [hgg] at hgg2
          simp at hgg2
  · have hmem : ∀ (us' : List SV) (es' : List Sp), (∀ u ∈ us', u ∈ ui) → All2 (SV.is w base) us' es' → All2 (SV.is w' base) us' es' := by
      intro us' es' hsub hall
      induction hall with
      | nil => exact .nil
      | cons hh _ ih =>
        rename_i u p l m _
        refine .cons ?_ (ih fun u' hu' => hsub u' (List.mem_cons_of_mem _ hu'))
        refine hh.imp fun k => ⟨k.1, ?_⟩
        rcases k.2 with hn | ⟨g, cap, cur, hv, hb', hgg, rest⟩
        · exact .inl hn
        · refine .inr ⟨g, cap, cur, hv, hb', ?_, rest⟩
          rw [hg.block g (Array.getElem?_eq_some_iff.1 hgg).1 ?_]
          · exact hgg
          · intro hc
            refine ha g hc.symm u (hsub u (by simp)) ?_
            rw [hv]; rfl
    exact hmem ui es (fun u hu => hu) h.ini
theorem LastAt.alloc {base : Nat} {w : World} {g c : Nat} {ui : List SV} {u : SV} {es : List Sp} (h : LastAt base w g c ui u es) (o : Obj) : LastAt base (w.alloc o) g c ui u es := ⟨World.ownsRow.alloc h.row o, forall2_imp h.ini fun _ _ hh => hh.imp fun k => k.alloc o⟩
theorem LastAt.drew {base : Nat} {w : World} {g c : Nat} {ui : List SV} {u : SV} {es : List Sp} (h : LastAt base w g c ui u es) : LastAt base w.drew g c ui u es := ⟨h.row, h.ini⟩

theorem modLast_all {P Q : Sp → Prop} {g : Sp → Sp} (h1 : ∀ s, P s → Q (g s)) (h2 : ∀ s, P s → Q s) : ∀ l : List Sp, (∀ s ∈ l, P s) → ∀ s ∈ modLast g l, Q s
  | [], _ => by simp [modLast]
  | [a], h => by intro s hs; simp [modLast] at hs; subst hs; exact h1 a (h a (by simp))
  | a :: b :: r, h => by
    intro s hs
    simp only [modLast, List.mem_cons] at hs
    rcases hs with rfl | hs
    · exact h2 _ (h _ (by simp))
    · exact modLast_all h1 h2 (b :: r) (fun s hs => h s (List.mem_cons_of_mem _ hs)) s (by simpa using hs)
theorem opn_x {f : FS} {B : Nat} (h : ∀ s ∈ f.out, s.x.length ≤ B) : ∀ s ∈ (opn f).out, s.x.length ≤ B := by
  unfold opn
  split
  · exact h
  · intro s hs
    simp at hs
    rcases hs with hs | rfl
    · exact h s hs
    · simp
theorem stepF_x {f : FS} {B : Nat} (x : Sg) (h : ∀ s ∈ f.out, s.x.length ≤ B) : ∀ s ∈ (stepF f x).out, s.x.length ≤ B + 1 := by
  unfold stepF
  split
  · intro s hs; have := h s hs; omega
  · split
    · exact modLast_all (P := fun s => s.x.length ≤ B) (Q := fun s => s.x.length ≤ B + 1) (fun s hs => by simp [withT]; omega) (fun s hs => by omega) _ (opn_x h)
    · unfold putF
      rw [if_neg (by simp)]
      exact modLast_all (P := fun s => s.x.length ≤ B) (Q := fun s => s.x.length ≤ B + 1) (fun s hs => by simp [withX]; omega) (fun s hs => by omega) _ (opn_x h)
theorem fold_x (l : List Sg) : ∀ (f : FS) (B : Nat), (∀ s ∈ f.out, s.x.length ≤ B) → ∀ s ∈ (l.foldl stepF f).out, s.x.length ≤ B + l.length := by
  induction l with
  | nil => intro f B h; simpa using h
  | cons x r ih =>
    intro f B h
    have := ih (stepF f x) (B + 1) (stepF_x x h)
    simp only [List.foldl_cons, List.length_cons]
    intro s hs
    have := this s hs
    omega
/-- signs that can be read -/
def Sgs (w : World) (a : Option Addr) (l : List Sg) : Prop := l = [] ∨ ∃ b, a = some ⟨b, 0, none⟩ ∧ ∀ i (h : i < l.length), w.cell? ⟨b, i * 2, none⟩ = some (.int .i64 l[i].h) ∧ w.cell? ⟨b, i * 2 + 1, none⟩ = some (.int .i64 l[i].c)
/-- an edit in the making in memory -/
def FRow (base : Nat) (w : World) (v : Value) (f : FS) : Prop := ∃ us, SOwn base w v us f.out ∧ (f.op = true → ∃ ui u, us = ui ++ [u] ∧ Apart ui (.slice u.a u.n u.c))
def FoldPost (l : List Sg) (w : World) (e : Ending) (w' : World) : Prop := ∃ v us, e = .returned v ∧ SOwn w.heap.size w' v us ((l.foldl stepF ⟨[], 0, false⟩).out) ∧ Below w.heap.size w w'
theorem stepF_len (s : FS) (x : Sg) (h : (s.out.length : Int) ≤ s.pl + 1 ∧ 0 ≤ s.pl) : True := trivial

/-- append of one number, in a region that draws its order: the row stays where it is, or is new -/
theorem step_app1At {ops : Array Oper} {o : Oper} {a : Act} {K : Act → World → Prop} {Q : Exit → Act → World → Prop} {w : World} {E : Prop} (hw : Region.wanted o (yielded ops a.tmps) = true) (s x : Operand)
    (ho : o.op = .call { callee := .builtin .append, args := #[s, x], argTypes := #[35, 35] })
    (base : Nat) (v : Value) (xs : List Int) (y : Int) (ad : Addr) (hs : a.eval s = v) (hx : a.eval x = .slice (some ad) 1 1)
    (hown : Own 3 base w v xs) (hc : w.cell? ad = some (.int .i64 y)) (hl : xs.length < 17592186044416) (hbase : base ≤ w.heap.size)
    (h : ∀ v' w', Own 3 base w' v' (xs ++ [y]) → w.grownBy w' v.ownBlock → (v'.ownBlock = v.ownBlock ∨ v'.ownBlock = some w.heap.size) → K (a.put o.dst v') w') :
    if Region.wanted o (yielded ops a.tmps) = true then Oper.wp Try.prog o a w K Q else E := by
  rw [if_pos hw]
  obtain ⟨i0, hi, hz0, hz1, hz2⟩ := info_parts info_int
  obtain ⟨v', w', hr, h2, h3, h4, h5⟩ := run_append_own_at (P := Try.prog) w base 35 o.type 3 i0 (.int .i64 0) 1 8 Try.underlying35 hi hz0 hz1 hz2 rfl (by decide) v xs.length _ hown ad 1 1 [.int .i64 y] rfl
    (by
      intro j u hj
      match j with
      | 0 => simp at hj; subst hj; simpa [Addr.add] using hc
      | j + 1 => simp at hj)
    (by intro u hu; simp at hu; subst hu; rfl) (by unfold maxLen; omega) (by omega) hbase
  unfold Oper.wp execOp
  simp only [ho, resolve, invoke, builtin, Sem.run_bind, Sem.run_pure, Result.andThen_ok, List.map_toArray, List.map_cons, List.map_nil, hs, hx, hr]
  refine h v' w' ?_ h3 h5
  unfold Own
  simpa using h2

theorem Apart.fresh2 {base : Nat} {w : World} {tv : Value} {us : List SV} {es : List Sp} (h : All2 (SV.is w base) us es) (ht : tv.ownBlock = some w.heap.size) : Apart us tv := by
  intro k hk u hu hc
  rw [ht] at hk
  simp only [Option.some.injEq] at hk
  subst hk
  have : ∀ (us' : List SV) (es' : List Sp), All2 (SV.is w base) us' es' → u ∈ us' → False := by
    intro us' es' hall
    induction hall with
    | nil => intro h; simp at h
    | cons hh _ ih =>
      intro hm
      rcases List.mem_cons.1 hm with rfl | hm
      · have := (World.ownsRow.lt hh.2.2 _ hc).2
        omega
      · exact ih hm
  exact this us es h hu
/-- out = append(out, y): a splice, in a row of the call's own -/
theorem sapp1B {ops : Array Oper} {rest : List Oper} {o : Oper} {a : Act} {Q : Exit → Act → World → Prop} {w : World} (hgd : o.guard = none) (s x : Operand)
    (ho : o.op = .call { callee := .builtin .append, args := #[s, x], argTypes := #[22, 22] })
    (base : Nat) (v : Value) (us : List SV) (es : List Sp) (u : SV) (p : Sp) (B : Nat) (hs : a.eval s = v) (hx : a.eval x = .slice (some ⟨B, 0, none⟩) 1 1)
    (hown : SOwn base w v us es) (hu : SV.is w base u p) (hB : Blk w B #[.int .i64 u.f, .int .i64 u.t, .slice u.a u.n u.c] 127) (hl : es.length < 1000000000) (hbase : base ≤ w.heap.size)
    (h : ∀ v' w', SOwn base w' v' (us ++ [u]) (es ++ [p]) → w.grownBy w' v.ownBlock → wpList Try.prog ops Q rest (a.put o.dst v') w') :
    wpList Try.prog ops Q (o :: rest) a w := by
  obtain ⟨i0, hi, hz0, hz1, hz2⟩ := info_parts info_spl
  refine wpList_append_own w hgd s x 22 ho base 127 i0 _ 3 40 Try.underlying22 hi hz0 hz1 hz2 rfl (by decide) v es.length _ hs hown.1 ⟨B, 0, none⟩ 1 1 u.cells hx rfl (cells3 hB) (one3 u) ?_ ?_ hbase ?_
  · unfold maxLen; omega
  · omega
  · intro v' w' h1 h2 _
    exact h v' w' (sapp_core hown hu h1 h2) h2
/-- a row of splices, its last one's text apart from those before -/
def LRow (base : Nat) (w : World) (v : Value) (es : List Sp) (p : Sp) : Prop := ∃ g N c ui u, v = .slice (some ⟨g, 0, none⟩) N c ∧ Hid (N = es.length + 1) ∧ LastAt base w g c ui u es ∧ SV.is w base u p ∧ Apart ui (.slice u.a u.n u.c) ∧ N ≤ c ∧ c ≤ 9223372036854775807
theorem LRow.row {base : Nat} {w : World} {v : Value} {es : List Sp} {p : Sp} (h : LRow base w v es p) : ∃ us, SOwn base w v us (es ++ [p]) ∧ (∃ ui u, us = ui ++ [u] ∧ Apart ui (.slice u.a u.n u.c)) := by
  obtain ⟨g, N, c, ui, u, rfl, hN, hL, hu, hap, -, -⟩ := h
  obtain rfl := hN.out
  exact ⟨_, hL.own hu, ui, u, rfl, hap⟩
theorem FRow.lastOf {base : Nat} {w : World} {v : Value} {us : List SV} {es : List Sp} {p : Sp} (hs : SOwn base w v us (es ++ [p])) (ha : ∃ ui u, us = ui ++ [u] ∧ Apart ui (.slice u.a u.n u.c)) : LRow base w v es p := by
  obtain ⟨g, c, ui, u, rfl, rfl, hL, hu, h1, h2⟩ := hs.last
  obtain ⟨ui', u', he, ha⟩ := ha
  obtain ⟨rfl, h3⟩ := List.append_inj' he rfl
  simp only [List.cons.injEq, and_true] at h3
  subst h3
  exact ⟨g, _, c, ui, u, rfl, Lib.hid rfl, hL, hu, ha, h1, h2⟩
theorem FRow.fresh {base : Nat} {w : World} {v : Value} {us : List SV} {es : List Sp} {p : Sp} {f t : Int} (hs : SOwn base w v (us ++ [⟨f, t, none, 0, 0⟩]) (es ++ [p])) : LRow base w v es p :=
  FRow.lastOf hs ⟨us, _, rfl, fun k hk => by simp [Value.ownBlock] at hk⟩
/-- the last one's end is set -/
theorem LRow.setT {base : Nat} {w : World} {g N c : Nat} {ui : List SV} {u : SV} {es : List Sp} {p : Sp} (hN : N = es.length + 1) (hL : LastAt base w g c ui u es) (hu : SV.is w base u p) (ha : Apart ui (.slice u.a u.n u.c)) (h1 : N ≤ c) (h2 : c ≤ 9223372036854775807) (t : Int) :
    LRow base (w.setCell ⟨g, es.length * 3 + 1, none⟩ (.int .i64 t)) (.slice (some ⟨g, 0, none⟩) N c) es (withT t p) := by
  have hs := hL.set ⟨u.f, t, u.a, u.n, u.c⟩ 1 (.int .i64 t) rfl
  refine ⟨g, N, c, ui, _, rfl, Lib.hid hN, hs.1, ⟨hu.1, rfl, ?_⟩, ha, h1, h2⟩
  exact hu.2.2.grownOther hL.row (by decide) hs.2
/-- the last one's text is set -/
theorem LRow.setX {base : Nat} {w w2 : World} {g N c : Nat} {ui : List SV} {u : SV} {es : List Sp} {p : Sp} {a2 : Option Addr} {n2 c2 : Nat} {y : Int} (hN : N = es.length + 1) (hL : LastAt base w g c ui u es) (hu : SV.is w base u p) (ha : Apart ui (.slice u.a u.n u.c)) (h1 : N ≤ c) (h2 : c ≤ 9223372036854775807)
    (ho : Own 3 base w2 (.slice a2 n2 c2) (p.x ++ [y])) (hg : w.grownBy w2 (Value.slice u.a u.n u.c).ownBlock) (hb : (Value.slice a2 n2 c2).ownBlock = (Value.slice u.a u.n u.c).ownBlock ∨ (Value.slice a2 n2 c2).ownBlock = some w.heap.size) :
    LRow base (w2.setCell ⟨g, es.length * 3 + 2, none⟩ (.slice a2 n2 c2)) (.slice (some ⟨g, 0, none⟩) N c) es (withX [y] p) := by
  have hL2 := hL.grown hu.2.2 ha hg
  have hs := hL2.set ⟨u.f, u.t, a2, n2, c2⟩ 2 (.slice a2 n2 c2) rfl
  refine ⟨g, N, c, ui, _, rfl, Lib.hid hN, hs.1, ⟨hu.1, hu.2.1, ?_⟩, ?_, h1, h2⟩
  · exact ho.grownOther hL2.row (by decide) hs.2
  · rcases hb with hb | hb
    · intro k hk; rw [hb] at hk; exact ha k hk
    · exact Apart.fresh2 hL.ini hb

set_option maxRecDepth 100000 in
set_option maxHeartbeats 4000000 in
theorem ref_folded (a : Option Addr) (m c : Nat) (l : List Sg) (w : World) (hl : Sgs w a l) (hm : l.length = m) (hm2 : m ≤ 100000000) (hk : ∀ s ∈ l, s.h = 0 ∨ s.h = 1 ∨ s.h = 2) :
    Calls Try.prog 101 #[.slice a m c] w (FoldPost l w) := by
  have HM := Lib.hid hm
  have HKK := Lib.hid hk
  clear hm hk
  go_enter Try.func101, Try.ntmps101
  go_wp2
  go_loopw [3, 4, 5, 10] (fun v pl was i wr => ∃ (k : Nat) (f : FS) (h : Int), pl = .int .i64 f.pl ∧ was = .int .i64 h ∧ i = .int .i64 (k : Int) ∧ k ≤ m ∧ Hid (f = (l.take k).foldl stepF ⟨[], 0, false⟩) ∧ Hid (h = 0 ↔ f.op = false) ∧ 0 ≤ f.pl ∧ f.pl ≤ k ∧ f.out.length ≤ k ∧ FRow w.heap.size wr v f ∧ Below w.heap.size w wr) (fun _ _ _ i _ => m - (intOf i).toNat)
  case atStart => exact ⟨0, ⟨[], 0, false⟩, 0, rfl, rfl, rfl, by omega, Lib.hid rfl, Lib.hid (by simp), by simp, by simp, by simp, ⟨[], SOwn.nil _ _, fun h => by simp at h⟩, Below.refl _ _⟩
  case round =>
    obtain ⟨k, f, h, rfl, rfl, rfl, hk, HF, HH, hp0, hp1, ho, ⟨us, hs, hap⟩, hbr⟩ := hrel
    by_cases hlt : k < m
    · have hkl : k < l.length := by rw [HM.out]; exact hlt
      rcases hl with hl | ⟨b, rfl, hcc⟩
      · subst hl; simp at hkl
      obtain ⟨c0, c1⟩ := hcc k hkl
      replace c0 := below_keeps hbr _ _ c0
      replace c1 := below_keeps hbr _ _ c1
      have i1 : (k : Int) < (m : Int) := by omega
      have hh3 := HKK.out l[k] (List.getElem_mem hkl)
      have hnext : (l.take (k + 1)).foldl stepF ⟨[], 0, false⟩ = stepF f l[k] := by rw [List.take_succ_eq_append_getElem hkl, List.foldl_append, ← HF.out]; rfl
      generalize l[k] = s at *
      obtain ⟨sh, sc⟩ := s
      simp only at c0 c1 hh3
      have HN := Lib.hid hnext
      clear hnext hcc
      go_upto_region 7 with fail
      have hX := Blk.new wr #[.int .i64 sh, .int .i64 sc] 155
      have hb1 := hbr.alloc hbr.size (.cells #[.int .i64 sh, .int .i64 sc] 155)
      have hs1 := hs.alloc (.cells #[.int .i64 sh, .int .i64 sc] 155)
      have hwX := hbr.size
      have hok : Ok f := by rw [HF.out]; exact Ok.fold (by intro h; simp at h) _
      have HOK := Lib.hid hok
      generalize wr.alloc (.cells #[.int .i64 sh, .int .i64 sc] 155) = w2 at *
      generalize wr.heap.size = X at *
      clear hs hbr hok c0 c1
      have hz2 := hb1.size
      obtain ⟨e0, e1, -, -⟩ := hX.two
      have iw : IntKind.i64.wrap (f.pl + 1) = f.pl + 1 := IntWalk.i64_in _ (by omega)
      by_cases hs0 : sh = 0
      · subst hs0
        go_wp2
        go_roundw
        case rel => exact ⟨k + 1, keepF f, 0, rfl, rfl, by go_num, by omega, Lib.hid (by rw [HN.out]; rfl), Lib.hid (by simp [keepF]), by simp [keepF]; omega, by simp [keepF]; omega, by simp [keepF]; omega, ⟨us, hs1, fun h => by simp [keepF] at h⟩, hb1⟩
        case measure => simp [intOf]; omega
      · have g0 : (sh != 0) = true := by simpa using hs0
        have g1 : (sh == 0) = false := by simpa using hs0
        go_upto_if 20 with fail
        go_cut [3] (fun v wx => ∃ es p, Hid ((opn f).out = es ++ [p]) ∧ LRow w.heap.size wx v es p ∧ Blk wx X #[.int .i64 sh, .int .i64 sc] 155 ∧ Below w.heap.size w wx)
        case first =>
          by_cases hop : f.op = true
          · have g2 : (h == 0) = false := by
              have := HH.out
              rw [hop] at this
              simpa using this
            obtain ⟨es, p, he⟩ := HOK.out hop
            have hl := hap hop
            have hoo : (opn f).out = es ++ [p] := by rw [opn, if_pos hop, he]
            rw [he] at hs1
            have HL := Lib.hid (FRow.lastOf hs1 hl)
            have HOO := Lib.hid hoo
            clear hs1 hl he hoo hap hop
            go_wp2
            go_meet
            exact ⟨es, p, HOO, HL.out, hX, hb1⟩
          · have hop' : f.op = false := by simpa using hop
            have h0 : h = 0 := HH.out.2 hop'
            have hoo : (opn f).out = f.out ++ [⟨f.pl, f.pl, []⟩] := by rw [opn, if_neg hop]
            have HOO := Lib.hid hoo
            subst h0
            clear hoo hap hop hop'
            have hne := hs1.neBlk hX (by decide)
            go_wp2_with (at_builtin; refine sapp1B rfl _ _ rfl w.heap.size _ us f.out ⟨f.pl, f.pl, none, 0, 0⟩ ⟨f.pl, f.pl, []⟩ _ rfl rfl (hs1.alloc _) ⟨rfl, rfl, Own.nil _ _ _⟩ (Blk.new _ _ _) (by omega) (size_alloc_le hz2 _) ?_; intro v5 w5 hown5 hgrow5)
            go_meet
            exact ⟨f.out, _, HOO, FRow.fresh hown5, (hX.alloc _).grown hgrow5 hne, (hb1.alloc hz2 _).grown hgrow5 (size_alloc_le hz2 _) hs1.row⟩
        clear hs1 hX hb1 hap hz2 e0 e1 us w2
        obtain ⟨es, p, HOO, ⟨g, N, c5, ui, u, rfl, HNN, hL, hu, hA, hc1, hc2⟩, hX, hb1⟩ := hcut
        obtain ⟨e0, e1, -, -⟩ := hX.two
        have hlen : es.length ≤ k := by
          have := congrArg List.length HOO.out
          unfold opn at this
          split at this
          · simp at this; omega
          · simp at this; omega
        have hpx : p.x.length ≤ k := by
          have h1 : ∀ s ∈ f.out, s.x.length ≤ k := by
            rw [HF.out]
            intro s hs
            have := fold_x (l.take k) ⟨[], 0, false⟩ 0 (by simp) s hs
            rw [List.length_take] at this
            omega
          exact opn_x h1 p (by rw [HOO.out]; simp)
        have d2 := hL.cell 2 (by omega)
        have d1 := hL.cell 1 (by omega)
        have f1 := hL.free (es.length * 3 + 1)
        have f2 := hL.free (es.length * 3 + 2)
        simp only [SV.cells, List.getElem?_cons_succ, List.getElem?_cons_zero] at d1 d2
        have hbg : w.heap.size ≤ g := (World.ownsRow.lt hL.row g rfl).1
        have hneG : some X ≠ some g := (hL.own hu).neBlk hX (by decide)
        have hneT := hu.2.2.neBlk hX (by decide)
        have hwc := hb1.size
        have hl2 : ∀ q, opn f = q → q.out = es ++ [p] → True := fun _ _ _ => trivial
        obtain ⟨q, hq⟩ : ∃ q, es.length = q := ⟨_, rfl⟩
        have iN : (q : Int) < (N : Int) := by have := HNN.out; omega
        have iN0 : (0 : Int) < (N : Int) := by omega
        have iwN : IntKind.i64.wrap ((N : Int) - 1) = (q : Int) := by
          rw [show ((N : Int) - 1) = (q : Int) from by have := HNN.out; omega]
          exact IntWalk.i64_in _ (by omega)
        rcases hh3 with h3 | rfl | rfl
        · exact absurd h3 hs0
        · have HS := Lib.hid (LRow.setT HNN.out hL hu hA hc1 hc2 (f.pl + 1))
          have hXs := hX.grown (hL.set ⟨u.f, f.pl + 1, u.a, u.n, u.c⟩ 1 (.int .i64 (f.pl + 1)) rfl).2 hneG
          have hbs := hb1.setCell (p := ⟨g, es.length * 3 + 1, none⟩) hbg (.int .i64 (f.pl + 1))
          have hd : dropF f = ⟨es ++ [withT (f.pl + 1) p], f.pl + 1, true⟩ := by rw [dropF, HOO.out, modLast_snoc]
          have HD := Lib.hid hd
          obtain ⟨x0, -, -, -⟩ := hXs.two
          rw [hq] at d1 d2 f1 f2 HS hbs x0
          clear hL hu hA hXs hX hd
          go_wp2
          go_roundw
          case rel =>
            obtain ⟨us', hS1, hS2⟩ := HS.out.row
            exact ⟨k + 1, ⟨es ++ [withT (f.pl + 1) p], f.pl + 1, true⟩, 1, rfl, rfl, by go_num, by omega, Lib.hid (by rw [HN.out, ← HD.out]; simp [stepF]), Lib.hid (by simp), by simp; omega, by simp; omega, by simp; omega, ⟨us', hS1, fun _ => hS2⟩, hbs⟩
          case measure => simp [intOf]; omega
        · have hd : stepF f ⟨2, sc⟩ = ⟨es ++ [withX [sc] p], f.pl, true⟩ := by simp [stepF, putF, HOO.out, modLast_snoc]
          have HD := Lib.hid hd
          clear hd
          subst hq
          have hca : ∀ o : Obj, (wc.alloc o).cell? ⟨g, es.length * 3 + 2, none⟩ = some (.slice u.a u.n u.c) := fun o => by
            have := (hL.alloc o).cell 2 (by omega)
            simpa [SV.cells] using this
          go_upto_region 16 with fail
          go_region_law ((refine step_app1At (by rfl) _ _ rfl w.heap.size (.slice u.a u.n u.c) p.x sc _ rfl rfl (hu.2.2.drew.alloc _) (Blk.new _ _ _).one.1 (by omega) (size_alloc_le hwc _) ?_; intro v9 w9 hown9 hgrow9 hblk9; obtain ⟨a9, n9, c9, rfl⟩ := hown9.form; have hL9 := (hL.drew.alloc _).grown (hu.2.2.drew.alloc _) hA hgrow9; have k2 : w9.cell? ⟨g, es.length * 3 + 2, none⟩ = some (.slice u.a u.n u.c) := (by have := hL9.cell 2 (by omega); simpa [SV.cells] using this); have l2 := hL9.free (es.length * 3 + 2)))
          all_goals
            have HS := Lib.hid (LRow.setX (y := sc) HNN.out (hL.drew.alloc _) ⟨hu.1, hu.2.1, hu.2.2.drew.alloc _⟩ hA hc1 hc2 hown9 hgrow9 hblk9)
            have hX9 := (hX.drew.alloc _).grown hgrow9 hneT
            have hb9 := (hb1.drew.alloc hwc _).grown hgrow9 (size_alloc_le hwc _) hu.2.2.row
            have hXs := hX9.grown (hL9.set ⟨u.f, u.t, a9, n9, c9⟩ 2 (.slice a9 n9 c9) rfl).2 hneG
            have hbs := hb9.setCell (p := ⟨g, es.length * 3 + 2, none⟩) hbg (.slice a9 n9 c9)
            obtain ⟨x0, -, -, -⟩ := hXs.two
            clear hL hu hA hX hX9 hb9 hXs hL9 hown9 hgrow9 hblk9 hb1 k2 l2 hca
            go_wp2
            go_roundw
            case rel =>
              obtain ⟨us', hS1, hS2⟩ := HS.out.row
              exact ⟨k + 1, ⟨es ++ [withX [sc] p], f.pl, true⟩, 2, rfl, rfl, by go_num, by omega, Lib.hid (by rw [HN.out, ← HD.out]), Lib.hid (by simp), by simp; omega, by simp; omega, by simp; omega, ⟨us', hS1, fun _ => hS2⟩, hbs⟩
            case measure => simp [intOf]; omega
    · obtain rfl : m = k := by omega
      have ht : l.take m = l := by rw [List.take_of_length_le]; rw [HM.out]; omega
      have hf := HF.out
      rw [ht] at hf
      have HF2 := Lib.hid hf
      clear ht hf HF HM
      go_wp2
      go_ret
      exact ⟨_, us, rfl, by rw [← HF2.out]; exact hs, hbr⟩

end Go.Proofs.Ytbgbcmfgncneiaa
