/- Contracts of rope.build, Len, List. -/
import Derived.Test.YtmipnikhgihcpaaRope4
import Derived.Test.YtmipnikhgihcpaaCut
import Derived.Test.YtmipnikhgihcpaaPnt2
namespace Go.Proofs.Ytmipnikhgihcpaa
open Go.RowKit
set_option linter.unusedVariables false
set_option linter.unusedSimpArgs false

theorem keepT1 {W w1 w2 : World} {a0 : Addr} {u0 : Value} (h : w1.cell? a0 = some u0 ∧ Below W.heap.size W w1) (hb : Below w1.heap.size w1 w2) : w2.cell? a0 = some u0 ∧ Below W.heap.size W w2 := by
  obtain ⟨h0, hW⟩ := h
  exact ⟨below_keeps hb _ _ h0, below_then hW hW.size hb⟩
theorem kb1 {W w1 : World} {P0 : Prop} (h : P0 ∧ Below W.heap.size W w1) : Below W.heap.size W w1 := h.2

theorem Ints.cellB {w : World} {b o : Nat} {xs : List Int} {k : Nat} (h : Ints w (some ⟨b, o, none⟩) xs) (hk : k < xs.length) : w.cell? ⟨b, o + k, none⟩ = some (.int .i64 (ix xs k)) := by
  obtain ⟨b', o', e, hc⟩ := h.at hk
  cases e
  exact hc k hk
theorem mid_list {xs : List Int} {k : Nat} (h : k < xs.length) : xs.take k ++ ix xs k :: xs.drop (k + 1) = xs := by
  rw [ix_eq h, ← List.drop_eq_getElem_cons h, List.take_append_drop]
def BuildIH (n : Nat) : Prop := ∀ (a : Option Addr) (m c : Nat) (xs : List Int) (w : World), m ≤ n → m ≤ 10000 → Sl w (.slice a m c) xs → Calls Try.prog 112 #[.slice a m c] w (LPost xs w)
set_option maxRecDepth 100000 in
set_option maxHeartbeats 4000000 in
theorem rope_buildN : ∀ n, BuildIH n := by
  intro n
  induction n with
  | zero =>
    intro a m c xs w hm hm2 hs
    obtain rfl : m = 0 := by omega
    obtain rfl : xs = [] := List.eq_nil_of_length_eq_zero hs.get.1
    go_enter Try.func112, Try.ntmps112
    go_wp2
    go_ret
    exact ⟨none, .nil, rfl, rfl, rfl, Below.refl _ _⟩
  | succ n ih =>
    intro a m c xs w hm hm2 hs
    obtain ⟨h1, h2, h3, h4, h5⟩ := hs.get
    rcases Nat.eq_zero_or_pos m with rfl | hpos
    · obtain rfl : xs = [] := List.eq_nil_of_length_eq_zero h1
      go_enter Try.func112, Try.ntmps112
      go_wp2
      go_ret
      exact ⟨none, .nil, rfl, rfl, rfl, Below.refl _ _⟩
    · obtain ⟨k, hk⟩ : ∃ k, m / 2 = k := ⟨_, rfl⟩
      have hkm : k < m := by omega
      obtain ⟨b, o, rfl, -⟩ := h4.at (k := 0) (by omega)
      have e1 := h4.cellB (k := k) (by omega)
      have hcr1 := cut_run_to (some ⟨b, o, none⟩) m c k (by omega)
      have hcr2 := cut_run_end (some ⟨b, o, none⟩) m c (k + 1) (by omega)
      have hIe := h4.cutEnd (c := c) (k + 1) (by omega) (by omega)
      have HI1 := Lib.hid (show Sl w (.slice (some ⟨b, o, none⟩) k c) (xs.take k) from ⟨_, _, _, rfl, by rw [List.length_take]; omega, by omega, h3, h4.take k, fun e => by cases e⟩)
      have HI2 := Lib.hid (show Sl w (.slice (cutA (some ⟨b, o, none⟩) c (k + 1)) (m - (k + 1)) (c - (k + 1))) (xs.drop (k + 1)) from ⟨_, _, _, rfl, by rw [List.length_drop]; omega, by omega, by omega, hIe, fun e => by have := cutA_none e; cases this⟩)
      have i0 : (m : Int).tdiv 2 = (k : Int) := by rw [← hk]; rfl
      have i1 : ((m : Int) == 0) = false := by simp; omega
      have i2 : (k : Int) < (m : Int) := by omega
      push_cast at hcr2
      have iw : IntKind.i64.wrap ((k : Int) + 1) = (k : Int) + 1 := by rw [IntKind.wrap_i64]; omega
      unfold BuildIH at ih
      have IHH := Lib.hid ih
      have HXL := Lib.hid h1
      have HML := Lib.hid (mid_list (xs := xs) (k := k) (by omega))
      clear h1 h4 h5 hs hIe ih hk
      go_enter Try.func112, Try.ntmps112
      go_upto_region 4 with fail
      go_region_held3 (fun w' => w'.cell? ⟨b, o + k, none⟩ = some (.int .i64 (ix xs k)) ∧ Below w.heap.size w w') (first | exact ⟨e1, (Below.refl _ _).drew⟩ | assumption | exact keepT1 ‹_› ‹_›)
        (first | (go_at_call 112; ((with_reducible refine (IHH.out (some ⟨b, o, none⟩) k c (xs.take k) _ (by omega) (by omega) (HI1.out.below (kb1 ‹_›))).mono ?_); rintro e w4 ⟨p4, T4, rfl, hT4, hL4, hb4⟩; have hS4 := keepT1 ‹_› hb4)) | (go_at_call 112; ((with_reducible refine (IHH.out _ (m - (k + 1)) _ (xs.drop (k + 1)) _ (by omega) (by omega) (HI2.out.below (kb1 ‹_›))).mono ?_); rintro e w5 ⟨p5, T5, rfl, hT5, hL5, hb5⟩; have hS5 := keepT1 ‹_› hb5)) | (go_at_call 158; ((with_reducible refine (rope_made p4 p5 T4 T5 (ix xs k) _ (hT4.below hb5) hT5 (by rw [hL4, hL5, List.length_take, List.length_drop, HXL.out]; omega)).mono ?_); rintro e w6 ⟨p6, T6, rfl, hT6, hL6, hb6⟩; have hS6 := keepT1 ‹_› hb6)))
      all_goals
        go_wp2
        go_ret
        exact ⟨p6, T6, rfl, hT6, by rw [hL6, hL4, hL5]; exact HML.out, kb1 hS6⟩
theorem rope_build (a : Option Addr) (m c : Nat) (xs : List Int) (w : World) (hm : m ≤ 10000) (hs : Sl w (.slice a m c) xs) : Calls Try.prog 112 #[.slice a m c] w (LPost xs w) :=
  rope_buildN m a m c xs w (Nat.le_refl _) hm hs

set_option maxRecDepth 100000 in
theorem rope_len (p : Option Addr) (t : Tr) (w : World) (h : TreeR w (.pointer p) t) :
    Calls Try.prog 41 #[.agg #[.pointer p]] w fun e w' => e = .returned (.int .i64 (t.toL.length : Int)) ∧ Below w.heap.size w w' := by
  have hb := below1 w (.cells #[.pointer p] 66)
  have HS := Lib.hid (rope_size _ _ _ (h.below hb))
  clear h
  go_enter Try.func41, Try.ntmps41
  go_wp2_with fail
  refine HS.out.mono ?_
  rintro e w1 ⟨rfl, rfl⟩
  go_wp2
  go_ret
  exact ⟨rfl, hb⟩

theorem blk_ne34 {w : World} {B3 B4 : Nat} {cs ds : Array Value} (h : Blk w B3 cs 22) (h' : Blk w B4 ds 180) : B3 ≠ B4 := by
  rintro rfl
  unfold Blk at h h'
  rw [h] at h'
  simp at h'
theorem blk_neR {w : World} {B3 B4 : Nat} {cs ds : Array Value} (h : Blk w B3 cs 66) (h' : Blk w B4 ds 180) : B3 ≠ B4 := by
  rintro rfl
  unfold Blk at h h'
  rw [h] at h'
  simp at h'
/-- what List and its closure share -/
structure WJ (base0 base : Nat) (w : World) (B3 B4 : Nat) (sv : Value) (s : List Int) : Prop where
  b3 : Blk w B3 #[sv] 22
  b4 : Blk w B4 #[(.func (.func 114) #[] #[.pointer (some ⟨B4, 0, none⟩), .pointer (some ⟨B3, 0, none⟩)])] 180
  own : Own 3 base w sv s
  l3 : base0 ≤ B3
  l4 : base0 ≤ B4
  lb : base0 ≤ base
  sz : base ≤ w.heap.size
theorem WJ.drew {base0 base : Nat} {w : World} {B3 B4 : Nat} {sv : Value} {s : List Int} (h : WJ base0 base w B3 B4 sv s) : WJ base0 base w.drew B3 B4 sv s :=
  ⟨h.b3.drew, h.b4.drew, h.own.drew, h.l3, h.l4, h.lb, show base ≤ w.drew.heap.size from h.sz⟩
set_option maxRecDepth 100000 in
set_option maxHeartbeats 4000000 in
theorem list_walk (w0 : World) (base B3 B4 : Nat) : ∀ (t : Tr) (p : Option Addr) (s : List Int) (sv : Value) (w : World), TreeR w0 (.pointer p) t → Below w0.heap.size w0 w → WJ w0.heap.size base w B3 B4 sv s → s.length + t.toL.length ≤ 20000 →
    Calls Try.prog 114 #[.pointer p, .pointer (some ⟨B4, 0, none⟩), .pointer (some ⟨B3, 0, none⟩)] w fun e w' => e = .returned (.tuple #[]) ∧ (∃ sv', WJ w0.heap.size base w' B3 B4 sv' (s ++ t.toL)) ∧ Below w0.heap.size w0 w' := by
  intro t
  induction t with
  | nil =>
    intro p s sv w h hb hW hsz
    simp only [TreeR, Value.pointer.injEq] at h
    subst h
    have HW := Lib.hid hW
    clear hW
    go_enter Try.func114, Try.ntmps114
    go_wp2
    go_end0
    exact ⟨rfl, ⟨sv, by simpa [Tr.toL] using HW.out⟩, hb⟩
  | node l c r ihl ihr =>
    intro p s sv w h hb hW hsz
    obtain ⟨b, lv, rv, hv, l1, l2, l3, -, -, hl, hr⟩ := h
    obtain ⟨lp, rfl⟩ := hl.form
    obtain ⟨rp, rfl⟩ := hr.form
    simp only [Value.pointer.injEq] at hv
    subst hv
    have hlen : (Tr.node l c r).toL.length = l.toL.length + 1 + r.toL.length := by simp only [Tr.toL, List.length_append, List.length_cons]; omega
    rw [hlen] at hsz
    have HIL := Lib.hid ihl; have HIR := Lib.hid ihr; have HL := Lib.hid hl; have HR := Lib.hid hr; have HW := Lib.hid hW
    have HLST := Lib.hid (show (Tr.node l c r).toL = l.toL ++ c :: r.toL from rfl)
    have g1 := below_keeps hb _ _ l1
    have q4 := hW.b4.cell 0
    simp only [List.getElem?_toArray, List.getElem?_cons_zero] at q4
    clear ihl ihr hl hr hW hlen
    go_enter Try.func114, Try.ntmps114
    go_upto_region 1 with fail
    go_cut [6] (fun v wx => (∃ sv', WJ w0.heap.size base wx B3 B4 sv' (s ++ l.toL)) ∧ Below w0.heap.size w0 wx)
    case first =>
      go_region_law (first | (go_simp; go_at_call 114; ((with_reducible refine (HIL.out lp s sv _ HL.out hb.drew HW.out.drew (by omega)).mono ?_); rintro e w4 ⟨rfl, hW4, hb4⟩)))
      all_goals
        go_wp2
        go_meet
        exact ⟨hW4, hb4⟩
    case rest =>
      obtain ⟨⟨sv4, hW4⟩, hb4⟩ := hcut
      obtain ⟨W4, hWe⟩ : ∃ W4, W4 = wc := ⟨_, rfl⟩
      subst hWe
      obtain ⟨sa, sn, sc, rfl⟩ := hW4.own.form
      have HW4 := Lib.hid hW4
      have g3 := below_keeps hb4 _ _ l3
      obtain ⟨d3, f3⟩ := hW4.b3.one
      have d3a := (hW4.b3.alloc (.cells #[.int .i64 c] 3)).one.1
      have g3a := below_keeps (below1 W4 (.cells #[.int .i64 c] 3)) _ _ g3
      have hslen : (s ++ l.toL).length + 1 + r.toL.length ≤ 20000 := by rw [List.length_append]; omega
      obtain ⟨s4, hs4⟩ : ∃ s4, s ++ l.toL = s4 := ⟨_, rfl⟩
      rw [hs4] at hslen hW4 HW4
      have HS4 := Lib.hid hs4
      clear q4 g1 hs4
      go_upto_region 2 with fail
      go_cut [12] (fun v wx => (∃ sv', WJ w0.heap.size base wx B3 B4 sv' (s4 ++ [c])) ∧ Below w0.heap.size w0 wx)
      case first =>
        go_region_law (refine step_app1 (by rfl) _ _ rfl base (.slice sa sn sc) s4 c _ rfl rfl ((HW4.out.own.drew).alloc _) (cell_newAt W4.drew (.int .i64 c) 3 rfl) (by omega) (size_alloc_le (show base ≤ W4.drew.heap.size from HW4.out.sz) _) ?_; intro v9 w9 o9 hgrow9; obtain ⟨a9, n9, c9, rfl⟩ := o9.form; have hB39 := ((HW4.out.b3.drew).alloc _).grown hgrow9 (HW4.out.own.neBlk HW4.out.b3 (by decide)); have hB49 := ((HW4.out.b4.drew).alloc _).grown hgrow9 (HW4.out.own.neBlk HW4.out.b4 (by decide)); obtain ⟨p3, q3⟩ := hB39.one)
        all_goals
          have hb9 := (hb4.drew.alloc (show w0.heap.size ≤ W4.drew.heap.size from hb4.size) (.cells #[.int .i64 c] 3)).grown hgrow9 (size_alloc_le (show w0.heap.size ≤ W4.drew.heap.size from hb4.size) _) (fun q hq => Nat.le_trans HW4.out.lb (HW4.out.own.row q hq))
          have hne34 : B3 ≠ B4 := blk_ne34 HW4.out.b3 HW4.out.b4
          have hfin : WJ w0.heap.size base (w9.setCell ⟨B3, 0, none⟩ (.slice a9 n9 c9)) B3 B4 (.slice a9 n9 c9) (s4 ++ [c]) :=
            ⟨by simpa using hB39.set 0 (.slice a9 n9 c9), hB49.other (a := ⟨B3, 0, none⟩) (Ne.symm hne34) _, o9.other (a := ⟨B3, 0, none⟩) (o9.neBlk hB39 (by decide)) _, HW4.out.l3, HW4.out.l4, HW4.out.lb, by rw [size_setCell]; exact Nat.le_trans (size_alloc_le (show base ≤ W4.drew.heap.size from HW4.out.sz) _) hgrow9.size⟩
          have HF := Lib.hid hfin
          have HB := Lib.hid (hb9.setCell (p := ⟨B3, 0, none⟩) HW4.out.l3 (.slice a9 n9 c9))
          clear hb9 hfin hB39 hB49 o9 hgrow9
          go_wp2
          go_meet
          exact ⟨⟨_, HF.out⟩, HB.out⟩
      case rest =>
        obtain ⟨⟨sv5, hW5⟩, hb5⟩ := hcut
        obtain ⟨W5, hWe⟩ : ∃ W5, W5 = wc := ⟨_, rfl⟩
        subst hWe
        have HW5 := Lib.hid hW5
        have g2 := below_keeps hb5 _ _ l2
        have q5 := hW5.b4.one.1
        clear hW5 d3 f3 d3a g3a g3
        go_upto_region 3 with fail
        go_region_law (first | (go_simp; go_at_call 114; ((with_reducible refine (HIR.out rp (s4 ++ [c]) sv5 _ HR.out hb5.drew HW5.out.drew (by rw [List.length_append, List.length_singleton]; omega)).mono ?_); rintro e w6 ⟨rfl, hW6, hb6⟩)))
        all_goals
          have HW6 := Lib.hid hW6
          clear hW6
          go_wp2
          go_end0
          obtain ⟨sv6, h6⟩ := HW6.out
          refine ⟨rfl, ⟨sv6, ?_⟩, hb6⟩
          rw [HLST.out, show s ++ (l.toL ++ c :: r.toL) = s4 ++ [c] ++ r.toL from by rw [← HS4.out]; simp]
          exact h6

set_option maxRecDepth 100000 in
set_option maxHeartbeats 4000000 in
theorem rope_list (p : Option Addr) (t : Tr) (w : World) (h : TreeR w (.pointer p) t) (hsz : t.toL.length ≤ 10000) :
    Calls Try.prog 42 #[.agg #[.pointer p]] w (ClonePost t.toL w) := by
  have hb1 := below1 w (.cells #[.pointer p] 66)
  have hB1 := Blk.new w #[.pointer p] 66
  have HT := Lib.hid h
  have hlen := rope_len p t _ (h.below hb1)
  clear h
  go_enter Try.func42, Try.ntmps42
  go_upto_region 1 with fail
  have hzz : w.heap.size < (w.alloc (.cells #[.pointer p] 66)).heap.size := by simp
  generalize (w.alloc (.cells #[.pointer p] 66)) = w1 at *
  obtain ⟨c0, -⟩ := hB1.one
  go_wp2_with fail
  refine hlen.mono ?_
  rintro e w2 ⟨rfl, hb2⟩
  have hB2 := hB1.below hb2 hB1.lt
  have hacc2 := below_then hb1 (Nat.le_of_lt hzz) hb2
  have hz2 : w.heap.size ≤ w2.heap.size := hacc2.size
  obtain ⟨n, hn⟩ : ∃ n, t.toL.length = n := ⟨_, rfl⟩
  rw [hn] at hsz ⊢
  have hmk : ∀ w : World, (Instr.makeSlice 22 (.int .i64 0) (.int .i64 (n : Int))).run Try.prog w = .ok (.slice (some ⟨w.heap.size, 0, none⟩) 0 n) (w.alloc (.cells (madeCells #[.int .i64 0] n) 3)) := fun w => make_int 0 n (Nat.zero_le _) (by omega) w
  clear c0 hlen
  go_upto_region 3 with fail
  have k3 := (Blk.new (w2.alloc (.cells (madeCells #[.int .i64 0] n) 3)) #[.slice (some ⟨w2.heap.size, 0, none⟩) 0 n] 22).alloc (.cells #[.nilFunc] 180)
  have k4 := Blk.new ((w2.alloc (.cells (madeCells #[.int .i64 0] n) 3)).alloc (.cells #[.slice (some ⟨w2.heap.size, 0, none⟩) 0 n] 22)) #[.nilFunc] 180
  rw [World.size_alloc] at k3
  rw [World.size_alloc, World.size_alloc] at k4
  have ko := (((own_made w2 w.heap.size n hz2 (by omega)).alloc (.cells #[.slice (some ⟨w2.heap.size, 0, none⟩) 0 n] 22)).alloc (.cells #[.nilFunc] 180))
  have kb := (below3 w2 (.cells (madeCells #[.int .i64 0] n) 3) (.cells #[.slice (some ⟨w2.heap.size, 0, none⟩) 0 n] 22) (.cells #[.nilFunc] 180))
  generalize (((w2.alloc (.cells (madeCells #[.int .i64 0] n) 3)).alloc (.cells #[.slice (some ⟨w2.heap.size, 0, none⟩) 0 n] 22)).alloc (.cells #[.nilFunc] 180)) = w3 at *
  have j4 : w.heap.size ≤ w2.heap.size + 1 + 1 := by omega
  have j3 : w.heap.size ≤ w2.heap.size + 1 := by omega
  generalize w2.heap.size + 1 + 1 = B4 at *
  generalize w2.heap.size + 1 = B3 at *
  have hne34 : B3 ≠ B4 := blk_ne34 k3 k4
  have hWJ : WJ w.heap.size w.heap.size (w3.setCell ⟨B4, 0, none⟩ (.func (.func 114) #[] #[.pointer (some ⟨B4, 0, none⟩), .pointer (some ⟨B3, 0, none⟩)])) B3 B4 (.slice (some ⟨w2.heap.size, 0, none⟩) 0 n) [] :=
    ⟨k3.other (a := ⟨B4, 0, none⟩) hne34 _, by simpa using k4.set 0 (.func (.func 114) #[] #[.pointer (some ⟨B4, 0, none⟩), .pointer (some ⟨B3, 0, none⟩)]), ko.other (a := ⟨B4, 0, none⟩) (ko.neBlk k4 (by decide)) _, j3, j4, Nat.le_refl _, by rw [size_setCell]; exact Nat.le_trans hz2 kb.size⟩
  have hacc3 := (below_then hacc2 hz2 kb).setCell (p := ⟨B4, 0, none⟩) j4 (.func (.func 114) #[] #[.pointer (some ⟨B4, 0, none⟩), .pointer (some ⟨B3, 0, none⟩)])
  have HWJ := Lib.hid hWJ
  have hB3' := (hB2.below kb hB2.lt).other (a := ⟨B4, 0, none⟩) (blk_neR (hB2.below kb hB2.lt) k4) (.func (.func 114) #[] #[.pointer (some ⟨B4, 0, none⟩), .pointer (some ⟨B3, 0, none⟩)])
  obtain ⟨n0, n1⟩ := k4.one
  have hst : ∀ w' : World, (store ⟨B4, 0, none⟩ (.func (.func 114) #[] #[.pointer (some ⟨B4, 0, none⟩), .pointer (some ⟨B3, 0, none⟩)])).run Try.prog w' = _ := fun w' => run_store _ w' _ _ _ rfl
  have n2 := hWJ.b4.one.1
  obtain ⟨n3, -⟩ := hB3'.one
  clear hWJ hB2 k3 k4 ko kb hb2
  go_wp2_with fail
  refine (list_walk w w.heap.size B3 B4 t p [] _ _ HT.out hacc3 HWJ.out (by simp; omega)).mono ?_
  rintro e w5 ⟨rfl, ⟨sv5, hW5⟩, hb5⟩
  obtain ⟨m0, -⟩ := hW5.b3.one
  have HO := Lib.hid hW5.own
  clear hW5
  go_wp2
  go_ret
  exact ⟨_, rfl, by simpa using HO.out, hb5⟩

end Go.Proofs.Ytmipnikhgihcpaa
