/- Contracts of fairref.leftward, of the closure of fairref.plan. -/
import Derived.Test.YtmipnikhgihcpaaPnt2
namespace Go.Proofs.Ytmipnikhgihcpaa
open Go.RowKit
set_option linter.unusedVariables false
set_option linter.unusedSimpArgs false

set_option maxRecDepth 100000 in
set_option maxHeartbeats 1000000 in
theorem ref_leftward (a : Option Addr) (n c f t : Nat) (B : List Int) (w : World) (hs : Sl w (.slice a n c) B) (hf : f ≤ n) (ht : t < f) (hn : n ≤ 120) :
    Calls Try.prog 157 #[.slice a n c, .int .i64 (f : Int), .int .i64 (t : Int)] w (ClonePost (wayS B f t) w) := by
  obtain ⟨h1, h2, h3, h4, h5⟩ := hs.get
  have HN := Lib.hid h1
  clear h1 hs
  by_cases hq : f - t ≤ 1 + t
  · have hw : wayS B f t = List.replicate (f - t) 8 := by unfold wayS; rw [if_neg (by omega), if_pos hq]
    rw [hw]
    have i2 : (f : Int) - (t : Int) ≤ (t : Int) + 1 := by omega
    obtain ⟨k, hk⟩ : ∃ k, f - t = k := ⟨_, rfl⟩
    have i3 : (f : Int) - (t : Int) = (k : Int) := by omega
    have hk1 : k ≤ 120 := by omega
    rw [hk]
    rw [i3] at i2
    clear h5 h3 h4 hw hk
    go_enter Try.func157, Try.ntmps157
    go_wp2
    go_loopw [7, 17] (fun v i wr => ∃ j : Nat, i = .int .i64 (j : Int) ∧ j ≤ k ∧ Own 3 w.heap.size wr v (List.replicate j 8) ∧ Below w.heap.size w wr) (fun _ i _ => k - (intOf i).toNat)
    case atStart => exact ⟨0, rfl, Nat.zero_le _, Own.nil _ _ _, Below.refl _ _⟩
    case round =>
      obtain ⟨j, rfl, hj, hown, hbel⟩ := hrel
      obtain ⟨va, vn, vc, rfl⟩ := hown.form
      by_cases hlt : j < k
      · have i1 : (j : Int) < (k : Int) := by omega
        have hz := hbel.size
        go_wp2_with (at_builtin; refine appN rfl _ _ rfl w.heap.size _ (List.replicate j 8) [8] _ 1 1 rfl rfl (hown.alloc _) (intsOne _ _) rfl (by simp; omega) (by simp; omega) ?_; intro v1 w1 hown1 hgrow1 _)
        go_roundw
        case rel => exact ⟨j + 1, by go_num, by omega, by rw [List.replicate_succ']; exact hown1, (hbel.alloc hz _).grown hgrow1 (by simp; omega) hown.row⟩
        case measure => simp [intOf]; omega
      · obtain rfl : j = k := by omega
        go_wp2
        go_ret
        exact ⟨_, rfl, hown, hbel⟩
  · have hw : wayS B f t = 13 :: B.take t := by unfold wayS; rw [if_neg (by omega), if_neg hq]
    rw [hw]
    have i2 : ¬ (f : Int) - (t : Int) ≤ (t : Int) + 1 := by omega
    have hcr := cut_run_to a n c t (by omega)
    have hI := (h4.below (below1 w (.cells #[.int .i64 13] 3))).take t
    have hl : (B.take t).length = t := by rw [List.length_take, HN.out]; omega
    have HL := Lib.hid hl
    have ho := own_lit1 w w.heap.size 13 (Nat.le_refl _)
    clear hl h3
    go_enter Try.func157, Try.ntmps157
    go_wp2_with (at_builtin; refine appV rfl _ _ rfl w.heap.size _ [13] (B.take t) _ t c rfl rfl ho hI HL.out (fun e => by have := h5 e; omega) (by simp; omega) (by simp) ?_; intro v1 w1 hown1 hgrow1)
    go_ret
    exact ⟨v1, rfl, hown1, (below1 w _).grown hgrow1 (by simp) ho.row⟩

/-- what plan and its closure share: the cells, the place, the signs -/
structure PJ (base0 base : Nat) (w : World) (B4 B5 R9 : Nat) (cv sv : Value) (p : Nat) (s : List Int) (m : Nat) : Prop where
  b4 : Blk w B4 #[cv] 22
  b5 : Blk w B5 #[.int .i64 (p : Int)] 3
  r9 : Blk w R9 #[sv] 22
  own : Own 3 base w sv s
  len : s.length ≤ 400 * m
  n49 : B4 ≠ R9
  n45 : B4 ≠ B5
  n59 : B5 ≠ R9
  l4 : base0 ≤ B4
  l5 : base0 ≤ B5
  l9 : base0 ≤ R9
  u4 : B4 < base
  u5 : B5 < base
  u9 : R9 < base
  sz : base ≤ w.heap.size
theorem blk_ne {w : World} {B R : Nat} {cs ds : Array Value} {e e' : TypeId} (h : Blk w B cs e) (h' : Blk w R ds e') (he : e' ≠ e) : R ≠ B := by
  rintro rfl
  unfold Blk at h h'
  rw [h] at h'
  simp at h'
  exact he h'.2.symm
/-- blocks of other types are as they were -/
def KeepsP (w w' : World) : Prop := ∀ R cs e, e ≠ 3 → e ≠ 22 → Blk w R cs e → Blk w' R cs e
theorem KeepsP.below {w w' : World} (h : Below w.heap.size w w') : KeepsP w w' := fun R cs e _ _ hb => hb.below h hb.lt
theorem KeepsP.trans {a b c : World} (h : KeepsP a b) (h' : KeepsP b c) : KeepsP a c := fun R cs e h1 h2 hb => h' R cs e h1 h2 (h R cs e h1 h2 hb)
theorem KeepsP.grown {a b c : World} {base : Nat} {v : Value} {xs : List Int} (h : KeepsP a b) (ho : Own 3 base b v xs) (hg : b.grownBy c v.ownBlock) : KeepsP a c :=
  fun R cs e h1 h2 hb => (h R cs e h1 h2 hb).grown hg (ho.neBlk (h R cs e h1 h2 hb) (Ne.symm h1))
def PJPost (base0 base B4 B5 R9 : Nat) (cv : Value) (p : Nat) (s : List Int) (m : Nat) (w : World) (e : Ending) (w' : World) : Prop :=
  e = .returned (.tuple #[]) ∧ (∃ sv, PJ base0 base w' B4 B5 R9 cv sv p s m) ∧ Below base0 w w' ∧ KeepsP w w'
/-- the signs and the place stored -/
theorem PJ.fin {base0 base : Nat} {w w9 : World} {B4 B5 R9 : Nat} {cv sv v9 : Value} {p k : Nat} {s t : List Int} {m m' : Nat} (h : PJ base0 base w B4 B5 R9 cv sv p s m) (hb4 : Blk w9 B4 #[cv] 22) (hb5 : Blk w9 B5 #[.int .i64 (p : Int)] 3) (hr9 : Blk w9 R9 #[sv] 22)
    (o9 : Own 3 base w9 v9 t) (hb : Below base0 w w9) (hl : t.length ≤ 400 * m') (hz : base ≤ w9.heap.size) (hkk : KeepsP w w9) :
    PJPost base0 base B4 B5 R9 cv k t m' w (.returned (.tuple #[])) ((w9.setCell ⟨R9, 0, none⟩ v9).setCell ⟨B5, 0, none⟩ (.int .i64 (k : Int))) := by
  refine ⟨rfl, ⟨v9, ?_, ?_, ?_, ?_, hl, h.n49, h.n45, h.n59, h.l4, h.l5, h.l9, h.u4, h.u5, h.u9, ?_⟩, ?_, ?_⟩
  · exact (hb4.other (a := ⟨R9, 0, none⟩) h.n49 _).other (a := ⟨B5, 0, none⟩) h.n45 _
  · simpa using (hb5.other (a := ⟨R9, 0, none⟩) h.n59 _).set 0 (.int .i64 (k : Int))
  · simpa using (hr9.set 0 v9).other (a := ⟨B5, 0, none⟩) (Ne.symm h.n59) _
  · exact (o9.setCell (a := ⟨R9, 0, none⟩) h.u9 _).setCell (a := ⟨B5, 0, none⟩) h.u5 _
  · rw [size_setCell, size_setCell]; exact hz
  · exact (hb.setCell (p := ⟨R9, 0, none⟩) h.l9 _).setCell (p := ⟨B5, 0, none⟩) h.l5 _
  · intro R cs e h1 h2 hR
    have hR' := hkk R cs e h1 h2 hR
    exact (hR'.other (a := ⟨R9, 0, none⟩) (blk_ne hr9 hR' h2) _).other (a := ⟨B5, 0, none⟩) (blk_ne hb5 hR' h1) _

set_option maxRecDepth 100000 in
set_option maxHeartbeats 2000000 in
theorem plan_go (base0 base B4 B5 R9 : Nat) (a : Option Addr) (n c p k m : Nat) (B s : List Int) (sv : Value) (w : World) (hs : SlP (fun x => x < base0) w (.slice a n c) B) (h : PJ base0 base w B4 B5 R9 (.slice a n c) sv p s m) (hp : p ≤ n) (hk : k ≤ n) (hn : n ≤ 120) (hm : m ≤ 100) :
    Calls Try.prog 156 #[.int .i64 (k : Int), .pointer (some ⟨B5, 0, none⟩), .pointer (some ⟨R9, 0, none⟩), .pointer (some ⟨B4, 0, none⟩)] w (PJPost base0 base B4 B5 R9 (.slice a n c) k (s ++ wayS B p k) (m + 1) w) := by
  have HP := Lib.hid h
  obtain ⟨hB4, hB5, hR9, hown, hl, -, -, -, l4, l5, l9, u4, u5, u9, hz⟩ := h
  obtain ⟨sa, sn, sc, rfl⟩ := hown.form
  have hwl := wayS_len B p k (by rw [hs.get.1]; exact hk)
  have hsl := hs.sl
  obtain ⟨s1, s2, s3, s4, s5⟩ := hs.get
  have hbz0 : base0 ≤ w.heap.size := by omega
  obtain ⟨c4, f4⟩ := hB4.one
  obtain ⟨c5, f5⟩ := hB5.one
  obtain ⟨c9, f9⟩ := hR9.one
  rcases Nat.lt_or_ge k p with hlt | hge
  · have i1 : ¬ (p : Int) ≤ (k : Int) := by omega
    have HS1 := Lib.hid s1
    clear s1 s4 s5 s3
    go_enter Try.func156, Try.ntmps156
    go_wp2
    go_region_law (first | (go_simp; go_at_call 157; ((with_reducible refine (ref_leftward a n c p k B _ hsl.drew hp hlt hn).mono ?_); rintro e w8 ⟨v8, rfl, o8, hb8⟩; obtain ⟨a8, n8, c8, rfl⟩ := o8.form; have hB48 := hB4.drew.below hb8 hB4.drew.lt; have hB58 := hB5.drew.below hb8 hB5.drew.lt; have hR98 := hR9.drew.below hb8 hR9.drew.lt; obtain ⟨d4, e4⟩ := hB48.one; obtain ⟨d5, e5⟩ := hB58.one; obtain ⟨d9, e9⟩ := hR98.one; have ho8 := hown.drew.kept hb8)) | (refine step_appV (by rfl) _ _ rfl base (.slice sa sn sc) s _ _ _ _ rfl rfl ho8 o8.get.2.1 o8.get.1 o8.sl0 (by rw [← o8.get.1]; omega) (Nat.le_trans hz hb8.size) ?_; intro v9 w9 o9 hgrow9; obtain ⟨a9, n9, c9, rfl⟩ := o9.form; have hB49 := hB48.grown hgrow9 (ho8.ne u4); have hB59 := hB58.grown hgrow9 (ho8.ne u5); have hR99 := hR98.grown hgrow9 (ho8.ne u9); obtain ⟨p4, q4⟩ := hB49.one; obtain ⟨p5, q5⟩ := hB59.one; obtain ⟨p9, q9⟩ := hR99.one))
    all_goals
      have hb9 : Below base0 w w9 := ((Below.refl base0 w).drew.trans (hb8.mono hbz0)).grown hgrow9 (Nat.le_trans hbz0 hb8.size) (fun k hk => Nat.le_trans (by omega) (ho8.row k hk))
      have hz9 : base ≤ w9.heap.size := Nat.le_trans (Nat.le_trans hz hb8.size) hgrow9.size
      have hfin := Lib.hid (HP.out.fin (k := k) (m' := m + 1) hB49 hB59 hR99 o9 hb9 (by rw [List.length_append]; omega) hz9 ((KeepsP.below (below_then (Below.refl _ w).drew (Nat.le_refl _) hb8)).grown ho8 hgrow9))
      have g5 := cell_other p5 (a := ⟨R9, 0, none⟩) HP.out.n59 (u := .slice a9 n9 c9)
      clear hb9 hz9 hB48 hB58 hR98 ho8 o8 hb8 o9 hgrow9 hB49 hR99 hs hsl
      go_wp2
      go_end0
      exact hfin.out
  · have i1 : (p : Int) ≤ (k : Int) := by omega
    have hI := s4.cutTo (c := c) p k (by rw [s1]; omega) hge (by rw [s1]; omega)
    have hcr := cut_run a n c p k hge (by omega)
    have hlen : ((B.take k).drop p).length = k - p := by rw [List.length_drop, List.length_take, s1]; omega
    have hw : wayS B p k = (B.take k).drop p := by unfold wayS; rw [if_pos hge]
    have HL := Lib.hid hlen
    have HS1 := Lib.hid s1
    clear s1 hlen
    go_enter Try.func156, Try.ntmps156
    go_wp2
    go_region_law (refine step_appV (by rfl) _ _ rfl base (.slice sa sn sc) s ((B.take k).drop p) _ _ _ rfl rfl hown.drew hI.drew HL.out (fun e => by have := s5 (cutA_none e); omega) (by omega) (by simp; omega) ?_; intro v9 w9 o9 hgrow9; obtain ⟨a9, n9, c9, rfl⟩ := o9.form; have hB49 := hB4.drew.grown hgrow9 (hown.ne u4); have hB59 := hB5.drew.grown hgrow9 (hown.ne u5); have hR99 := hR9.drew.grown hgrow9 (hown.ne u9); obtain ⟨p4, q4⟩ := hB49.one; obtain ⟨p5, q5⟩ := hB59.one; obtain ⟨p9, q9⟩ := hR99.one)
    all_goals
      have hb9 : Below base0 w w9 := (Below.refl base0 w).drew.grown hgrow9 (by simp; omega) (fun k hk => Nat.le_trans (by omega) (hown.row k hk))
      have hz9 : base ≤ w9.heap.size := Nat.le_trans hz hgrow9.size
      have hfin := Lib.hid (HP.out.fin (k := k) (m' := m + 1) hB49 hB59 hR99 o9 hb9 (by rw [List.length_append, HL.out]; omega) hz9 ((KeepsP.below (Below.refl _ w).drew).grown hown.drew hgrow9))
      rw [← hw] at hfin
      have g5 := cell_other p5 (a := ⟨R9, 0, none⟩) HP.out.n59 (u := .slice a9 n9 c9)
      clear hb9 hz9 o9 hgrow9 hB49 hR99 hs hsl
      go_wp2
      go_end0
      exact hfin.out

end Go.Proofs.Ytmipnikhgihcpaa
