/- The machine's state in memory; contract of broken. -/
import Derived.Test.YtmipnikhgihcpaaFeed1
import Derived.Deep.RegionHeld3
namespace Go.Proofs.Ytmipnikhgihcpaa
open Go.RowKit
set_option linter.unusedVariables false
set_option linter.unusedSimpArgs false

theorem info_u8 : (Try.prog.info? 5).map (fun i => (i.zero, i.size, i.bytes)) = some (some (.int .u8 0), 1, 1) := by kernel_rfl
/-- the machine in block M: both slices in rows made behind it -/
structure Mch (w : World) (M : Nat) (av ov : Value) (m : MS) : Prop where
  blk : Blk w M #[av, ov] 157
  ah : VOwn 5 (M + 1) w av (bv m.ah)
  out : Own 3 (M + 1) w ov m.out
  byt : Byt m.ah
def MPost (M : Nat) (m : MS) (w : World) (e : Ending) (w' : World) : Prop := e = .returned (.tuple #[]) ∧ (∃ av ov, Mch w' M av ov m) ∧ Below M w w'
theorem Mch.below {w w' : World} {M : Nat} {av ov : Value} {m : MS} (h : Mch w M av ov m) (hb : Below w.heap.size w w') : Mch w' M av ov m :=
  ⟨h.blk.below hb h.blk.lt, h.ah.kept hb, h.out.kept hb, h.byt⟩
theorem Mch.lt {w : World} {M : Nat} {av ov : Value} {m : MS} (h : Mch w M av ov m) : M + 1 ≤ w.heap.size := h.blk.lt
theorem VOwn.noneZ {e : TypeId} {base : Nat} {w : World} {a : Option Addr} {n c : Nat} {xs : List Value} (h : VOwn e base w (.slice a n c) xs) : xs.length = n ∧ Vals w a xs ∧ (a = none → n = 0) := by
  have := h.vs.get
  exact ⟨this.1, this.2.2.2.1, this.2.2.2.2⟩
theorem len_bv (A : List Int) : (bv A).length = A.length := by simp [bv]
theorem bapp1 {ops : Array Oper} {rest : List Oper} {o : Oper} {a : Act} {Q : Exit → Act → World → Prop} {w : World} (hgd : o.guard = none) (s x : Operand)
    (ho : o.op = .call { callee := .builtin .append, args := #[s, x], argTypes := #[146, 146] })
    (base : Nat) (v : Value) (xs : List Int) (y : Int) (ad : Addr) (hs : a.eval s = v) (hx : a.eval x = .slice (some ad) 1 1)
    (hown : VOwn 5 base w v (bv xs)) (hc : w.cell? ad = some (.int .u8 y)) (hl : xs.length < 17592186044416) (hbase : base ≤ w.heap.size)
    (h : ∀ v' w', VOwn 5 base w' v' (bv (xs ++ [y])) → w.grownBy w' v.ownBlock → wpList Try.prog ops Q rest (a.put o.dst v') w') :
    wpList Try.prog ops Q (o :: rest) a w := by
  obtain ⟨i0, hi, hz0, hz1, hz2⟩ := info_parts info_u8
  refine wpList_append_own w hgd s x 146 ho base 5 i0 (.int .u8 0) 1 1 Try.underlying146 hi hz0 hz1 hz2 rfl (by decide) v (bv xs).length _ hs hown ad 1 1 [.int .u8 y] hx rfl ?_ ?_ ?_ ?_ hbase ?_
  · intro j u hj
    match j with
    | 0 => simp at hj; subst hj; simpa [Addr.add] using hc
    | j + 1 => simp at hj
  · intro u hu; simp at hu; subst hu; rfl
  · rw [len_bv]; unfold maxLen; omega
  · rw [len_bv]; omega
  · intro v' w' h1 h2 _
    refine h v' w' ?_ h2
    unfold VOwn
    simpa [bv] using h1
theorem VOwn.conv {base : Nat} {w : World} {v : Value} {A : List Int} (h : VOwn 5 base w v (bv A)) (hA : Byt A) : (convert 146 9 v).run Try.prog w = .ok (.string (mkB A)) w := by
  rcases h.2 with ⟨rfl, h0⟩ | ⟨g, cap, cur, rfl, hb', hgg, rest⟩
  · rw [len_bv] at h0
    obtain rfl : A = [] := List.eq_nil_of_length_eq_zero h0
    rw [run_convert_bytes_string w _ _ _ _ _ _ Try.underlying146 Try.underlying5 Try.underlying9]
    rfl
  · have := run_convert_bytes_back (P := Try.prog) w 146 9 5 ⟨g, 0, none⟩ cap (A.map fun x => UInt8.ofNat x.toNat) Try.underlying146 Try.underlying5 Try.underlying9 (fun j hj => by
      have hj2 : j < A.length := by simpa using hj
      have hb := hA _ (List.getElem_mem hj2)
      refine (World.ownsRow.cells h (g := g) rfl j _ ?_)
      simp [bv, hj2]
      omega)
    simpa [mkB, len_bv] using this
theorem brk_nil {m : MS} (h : m.ah = []) : m.brk = m := by unfold MS.brk; rw [if_pos h]
theorem brk_cons {m : MS} (h : m.ah ≠ []) : m.brk = ⟨[], m.out ++ [65533]⟩ := by unfold MS.brk; rw [if_neg h]

set_option maxRecDepth 100000 in
set_option maxHeartbeats 2000000 in
theorem feed_broken (M : Nat) (av ov : Value) (m : MS) (w : World) (h : Mch w M av ov m) (ho : m.out.length ≤ 4194304) :
    Calls Try.prog 95 #[.pointer (some ⟨M, 0, none⟩)] w (MPost M m.brk w) := by
  obtain ⟨a, n, c, rfl⟩ := h.ah.form
  obtain ⟨a2, n2, c2, rfl⟩ := h.out.form
  obtain ⟨g1, g2, g3⟩ := h.ah.noneZ
  rw [len_bv] at g1
  obtain ⟨c0, c1, f0, f1⟩ := h.blk.two
  have HM := Lib.hid h
  by_cases hn : n = 0
  · have HB := Lib.hid (brk_nil (m := m) (List.eq_nil_of_length_eq_zero (by omega)))
    subst hn
    clear h g1 g2 g3
    go_enter Try.func95, Try.ntmps95
    go_wp2
    go_end0
    rw [HB.out]
    exact ⟨rfl, ⟨_, _, HM.out⟩, Below.refl _ _⟩
  · have HB := Lib.hid (brk_cons (m := m) (by intro e; rw [e] at g1; simp at g1; omega))
    have i1 : (0 : Int) < (n : Int) := by omega
    have hown := h.out
    have hz := h.lt
    have hBA := h.blk.alloc (.cells #[.int .i64 65533] 3)
    have hne := hown.neBlk h.blk (by decide)
    have hah := h.ah.alloc (.cells #[.int .i64 65533] 3)
    clear h g1 g2 g3 hn
    go_enter Try.func95, Try.ntmps95
    go_wp2_with (at_builtin; refine appN rfl _ _ rfl (M + 1) _ m.out [65533] _ 1 1 rfl rfl (hown.alloc _) (intsOneU _ _) rfl (by omega) (size_alloc_le hz _) ?_; intro v3 w3 hown3 hgrow3 _; obtain ⟨a3, n3, c3, rfl⟩ := hown3.form; have hB3 := hBA.grown hgrow3 hne; obtain ⟨c0, c1, f0, f1⟩ := hB3.two)
    have hb3 : Below M w w3 := ((below1 w (.cells #[.int .i64 65533] 3)).mono (by omega)).grown hgrow3 (by rw [World.size_alloc]; omega) (fun k hk => by have := hown.row k hk; omega)
    go_end0
    rw [HB.out]
    refine ⟨rfl, ⟨.slice none 0 0, .slice a3 n3 c3, (hB3.set 1 (.slice a3 n3 c3)).set 0 (.slice none 0 0), VOwn.nil _ _ _, (hown3.setCell (a := ⟨M, 1, none⟩) (Nat.lt_succ_self _) _).setCell (a := ⟨M, 0, none⟩) (Nat.lt_succ_self _) _, fun x hx => by simp at hx⟩, ?_⟩
    exact (hb3.setCell (p := ⟨M, 1, none⟩) (Nat.le_refl _) _).setCell (p := ⟨M, 0, none⟩) (Nat.le_refl _) _

end Go.Proofs.Ytmipnikhgihcpaa
