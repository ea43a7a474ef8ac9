/- Contract of fairref.plan. -/
import Derived.Test.YtmipnikhgihcpaaPnt4
namespace Go.Proofs.Ytmipnikhgihcpaa
open Go.RowKit
set_option linter.unusedVariables false
set_option linter.unusedSimpArgs false

/-- the second number of a step: -1 where it erases -/
def secV : Option Nat → Int
  | none => -1
  | some y => (y : Int)
/-- step number i, hidden from the walk -/
def stx (l : List (Nat × Option Nat)) (i : Nat) : Nat × Option Nat := l.getD i (0, none)
theorem stx_eq {l : List (Nat × Option Nat)} {i : Nat} (h : i < l.length) : stx l i = l[i] := by simp [stx, h]
/-- a slice of pairs that reads as the steps, in blocks of P -/
def Stp (P : Nat → Prop) (w : World) (v : Value) (l : List (Nat × Option Nat)) : Prop :=
  ∃ a n c, v = .slice a n c ∧ l.length = n ∧ n ≤ c ∧ (l = [] ∨ ∃ b o, a = some ⟨b, o, none⟩ ∧ P b ∧ ∀ i, i < l.length → w.cell? ⟨b, o + i * 2, none⟩ = some (.int .i64 ((stx l i).1 : Int)) ∧ w.cell? ⟨b, o + i * 2 + 1, none⟩ = some (.int .i64 (secV (stx l i).2)))
theorem Stp.keep {P : Nat → Prop} {w w' : World} {v : Value} {l : List (Nat × Option Nat)} (h : Stp P w v l) (hc : ∀ p v, P p.block → w.cell? p = some v → w'.cell? p = some v) : Stp P w' v l := by
  obtain ⟨a, n, c, h1, h2, h3, h4⟩ := h
  refine ⟨a, n, c, h1, h2, h3, ?_⟩
  rcases h4 with rfl | ⟨b, o, h5, h6, h7⟩
  · exact .inl rfl
  · exact .inr ⟨b, o, h5, h6, fun i hi => ⟨hc _ _ h6 (h7 i hi).1, hc _ _ h6 (h7 i hi).2⟩⟩
theorem Stp.belowB {base : Nat} {w w' : World} {v : Value} {l : List (Nat × Option Nat)} (h : Stp (fun x => x < base) w v l) (hb : Below base w w') : Stp (fun x => x < base) w' v l :=
  h.keep fun q v hq hc => by
    unfold World.cell? at hc ⊢
    rw [hb.block _ hq]; exact hc
theorem Stp.imp {P Q : Nat → Prop} {w : World} {v : Value} {l : List (Nat × Option Nat)} (h : Stp P w v l) (hi : ∀ k, P k → Q k) : Stp Q w v l := by
  obtain ⟨a, n, c, h1, h2, h3, h4⟩ := h
  refine ⟨a, n, c, h1, h2, h3, ?_⟩
  rcases h4 with rfl | ⟨b, o, h5, h6, h7⟩
  · exact .inl rfl
  · exact .inr ⟨b, o, h5, hi _ h6, h7⟩
/-- after k steps -/
def stepsS (B : List Int) (pa : Nat) (l : List (Nat × Option Nat)) (k : Nat) : Nat × List Int := (l.take k).foldl (stepS B) (pa, [])
theorem stepsS_succ (B : List Int) (pa : Nat) {l : List (Nat × Option Nat)} {k : Nat} (h : k < l.length) : stepsS B pa l (k + 1) = stepS B (stepsS B pa l k) (stx l k) := by
  unfold stepsS
  rw [List.take_add_one, List.getElem?_eq_getElem h, ← stx_eq h]
  simp

theorem PJ.app {base0 base : Nat} {w3 w9 : World} {B4 B5 R9 : Nat} {cv sv v9 : Value} {p : Nat} {s t : List Int} {m m' : Nat} (h : PJ base0 base w3 B4 B5 R9 cv sv p s m) (o : Obj) (o9 : Own 3 base w9 v9 t) (hg : (w3.alloc o).grownBy w9 sv.ownBlock) (hl : t.length ≤ 400 * m') :
    PJ base0 base (w9.setCell ⟨R9, 0, none⟩ v9) B4 B5 R9 cv v9 p t m' ∧ (∀ w, Below base0 w w3 → Below base0 w (w9.setCell ⟨R9, 0, none⟩ v9)) := by
  have ho := h.own.alloc o
  have hsz := h.sz
  have hbz : base0 ≤ w3.heap.size := by have := h.l9; have := h.u9; omega
  refine ⟨⟨?_, ?_, ?_, ?_, hl, h.n49, h.n45, h.n59, h.l4, h.l5, h.l9, h.u4, h.u5, h.u9, ?_⟩, fun w hw => ?_⟩
  · exact ((h.b4.alloc o).grown hg (ho.ne h.u4)).other (a := ⟨R9, 0, none⟩) h.n49 _
  · exact ((h.b5.alloc o).grown hg (ho.ne h.u5)).other (a := ⟨R9, 0, none⟩) h.n59 _
  · simpa using ((h.r9.alloc o).grown hg (ho.ne h.u9)).set 0 v9
  · exact o9.setCell (a := ⟨R9, 0, none⟩) h.u9 _
  · rw [size_setCell]; exact Nat.le_trans (size_alloc_le hsz o) hg.size
  · exact ((hw.alloc hbz o).grown hg (size_alloc_le hbz o) (fun k hk => Nat.le_trans (by have := h.l9; have := h.u9; omega) (ho.row k hk))).setCell (p := ⟨R9, 0, none⟩) h.l9 _
theorem stepsS_bd (B : List Int) (pa : Nat) (l : List (Nat × Option Nat)) (n k : Nat) (hpa : pa ≤ n) (h1 : ∀ i, i < l.length → (stx l i).1 ≤ n) (h2 : ∀ i y, i < l.length → (stx l i).2 = some y → y ≤ n) : (stepsS B pa l k).1 ≤ n := by
  induction k with
  | zero => exact hpa
  | succ k ih =>
    rcases Nat.lt_or_ge k l.length with hlt | hge
    · rw [stepsS_succ B pa hlt]
      have g1 := h1 k hlt; have g2 := fun y => h2 k y hlt
      obtain ⟨f, sd, hfs⟩ : ∃ f sd, stx l k = (f, sd) := ⟨_, _, rfl⟩
      rw [hfs] at g1 g2 ⊢
      rcases sd with _ | y
      · exact g1
      · exact g2 y rfl
    · unfold stepsS at ih ⊢
      rw [List.take_of_length_le (by omega)] at ih ⊢
      exact ih
theorem PJ.kept {base0 base : Nat} {w w' : World} {B4 B5 R9 : Nat} {cv sv : Value} {p : Nat} {s : List Int} {m : Nat} (h : PJ base0 base w B4 B5 R9 cv sv p s m) (hb : Below w.heap.size w w') : PJ base0 base w' B4 B5 R9 cv sv p s m :=
  ⟨h.b4.below hb h.b4.lt, h.b5.below hb h.b5.lt, h.r9.below hb h.r9.lt, h.own.kept hb, h.len, h.n49, h.n45, h.n59, h.l4, h.l5, h.l9, h.u4, h.u5, h.u9, Nat.le_trans h.sz hb.size⟩

set_option maxRecDepth 100000 in
set_option maxHeartbeats 4000000 in
theorem ref_plan (a : Option Addr) (n c pa pb : Nat) (B : List Int) (va : Option Addr) (vn vc : Nat) (l : List (Nat × Option Nat)) (w : World) (hs : Sl w (.slice a n c) B) (hst : Stp (fun x => x < w.heap.size) w (.slice va vn vc) l) (hl : l.length ≤ 4)
    (hst1 : ∀ i, i < l.length → (stx l i).1 ≤ n) (hst2 : ∀ i y, i < l.length → (stx l i).2 = some y → y ≤ n) (hpa : pa ≤ n) (hpb : pb ≤ n) (hn : n ≤ 120) :
    Calls Try.prog 111 #[.slice a n c, .int .i64 (pa : Int), .slice va vn vc, .int .i64 (pb : Int)] w (ClonePost (planS B pa l pb) w) := by
  have HS := Lib.hid hs.lt
  obtain ⟨va', vn', vc', hv, hvn, hvc, hcells⟩ := id hst
  simp only [Value.slice.injEq] at hv
  obtain ⟨rfl, rfl, rfl⟩ := hv
  have HST := Lib.hid hst
  have HVN := Lib.hid hvn
  have hvn4 : vn ≤ 4 := by omega
  have HT1 := Lib.hid hst1; have HT2 := Lib.hid hst2
  clear hvn hst hst1 hst2 hcells hs
  obtain ⟨b0, hb0⟩ : ∃ b0, b0 = w.heap.size := ⟨_, rfl⟩
  have h4 := Blk.new w #[.slice a n c] 22
  have h5 := Blk.new (w.alloc (.cells #[.slice a n c] 22)) #[.int .i64 (pa : Int)] 3
  have h9 := Blk.new ((w.alloc (.cells #[.slice a n c] 22)).alloc (.cells #[.int .i64 (pa : Int)] 3)) #[.slice none 0 0] 22
  rw [World.size_alloc] at h5
  rw [World.size_alloc, World.size_alloc] at h9
  have hP : PJ w.heap.size (w.heap.size + 3) (((w.alloc (.cells #[.slice a n c] 22)).alloc (.cells #[.int .i64 (pa : Int)] 3)).alloc (.cells #[.slice none 0 0] 22)) w.heap.size (w.heap.size + 1) (w.heap.size + 1 + 1) (.slice a n c) (.slice none 0 0) pa [] 0 :=
    ⟨(h4.alloc _).alloc _, h5.alloc _, h9, Own.nil _ _ _, by simp, by omega, by omega, by omega, by omega, by omega, by omega, by omega, by omega, by omega, by simp⟩
  have HP := Lib.hid hP
  have hb3 := below3 w (.cells #[.slice a n c] 22) (.cells #[.int .i64 (pa : Int)] 3) (.cells #[.slice none 0 0] 22)
  clear h4 h5 h9 hP
  go_enter Try.func111, Try.ntmps111
  go_upto_region 2 with fail
  generalize (((w.alloc (.cells #[.slice a n c] 22)).alloc (.cells #[.int .i64 (pa : Int)] 3)).alloc (.cells #[.slice none 0 0] 22)) = w1 at *
  generalize w.heap.size + 1 + 1 = R9 at *
  generalize w.heap.size + 1 = B5 at *
  generalize w.heap.size + 3 = base at *
  go_wp2
  go_loopw [16] (fun i wr => ∃ k : Nat, i = .int .i64 (k : Int) ∧ k ≤ vn ∧ (∃ sv, PJ w.heap.size base wr w.heap.size B5 R9 (.slice a n c) sv (stepsS B pa l k).1 (stepsS B pa l k).2 (2 * k)) ∧ Below w.heap.size w wr) (fun i _ => vn - (intOf i).toNat)
  case atStart => exact ⟨0, rfl, Nat.zero_le _, ⟨_, HP.out⟩, hb3⟩
  case round =>
    obtain ⟨k, rfl, hk, ⟨sv, hPk⟩, hbr⟩ := hrel
    have HPK := Lib.hid hPk
    obtain ⟨sa, sn, sc, rfl⟩ := hPk.own.form
    by_cases hlt : k < vn
    · obtain ⟨va', vn', vc', hv, hvn, hvc', hcells⟩ := HST.out.belowB hbr
      simp only [Value.slice.injEq] at hv
      obtain ⟨rfl, rfl, rfl⟩ := hv
      rcases hcells with h0 | ⟨bb, oo, rfl, hPb, hcell⟩
      · rw [h0] at hvn; simp at hvn; omega
      obtain ⟨e1, e2⟩ := hcell k (by omega)
      have hlk : k < l.length := by omega
      have T1 := HT1.out k hlk; have T2 := fun y => HT2.out k y hlk
      have HSU := Lib.hid (stepsS_succ B pa hlk)
      clear hcell hvn hPk
      obtain ⟨f, sd, hfs⟩ : ∃ f sd, stx l k = (f, sd) := ⟨_, _, rfl⟩
      rw [hfs] at e1 e2 T1 T2
      simp only at e1 e2 T1 T2
      go_upto_region 6 with fail
      have hX := Blk.new wr #[.int .i64 (f : Int), .int .i64 (secV sd)] 175
      have hb2 := below1 wr (.cells #[.int .i64 (f : Int), .int .i64 (secV sd)] 175)
      have HP2 := Lib.hid (HPK.out.kept hb2)
      have hbr2 := below_then hbr hbr.size hb2
      generalize (wr.alloc (.cells #[.int .i64 (f : Int), .int .i64 (secV sd)] 175)) = w2 at *
      obtain ⟨x0, x1, -⟩ := hX.two
      have HS2 := Lib.hid (HS.out.belowB hbr2)
      go_wp2_with fail
      refine (plan_go w.heap.size base w.heap.size B5 R9 a n c _ f (2 * k) B _ _ _ HS2.out HP2.out ?_ T1 hn (by omega)).mono ?_
      · exact (stepsS_bd B pa l n k hpa HT1.out HT2.out)
      rintro e w3 ⟨rfl, ⟨sv3, hP3⟩, hb3', hk3⟩
      have HP3 := Lib.hid hP3
      have hX3 := hk3 _ _ _ (by decide) (by decide) hX
      have hbr3 := hbr2.trans hb3'
      have hsz3 := hbr3.size
      obtain ⟨sa3, sn3, sc3, rfl⟩ := hP3.own.form
      clear hX x0 x1 hP3 hk3 e1 e2
      obtain ⟨x0, x1, y0, y1⟩ := hX3.two
      obtain ⟨r0, r1⟩ := HP3.out.r9.one
      rcases sd with _ | y
      · have hsv : secV none = -1 := rfl
        rw [hsv] at *
        have hR3 := HP3.out.r9.alloc (.cells #[.int .i64 11] 3)
        have ho3 := HP3.out.own.alloc (.cells #[.int .i64 11] 3)
        have hl3 := HP3.out.len
        have hz3 := HP3.out.sz
        have hu9 := HP3.out.u9
        go_wp2_with (at_builtin; refine appN rfl _ _ rfl base _ _ [11] _ 1 1 rfl rfl ho3 (intsOne _ _) rfl (by omega) (by simp; omega) ?_; intro v9 w9 o9 hgrow9 _; obtain ⟨a9, n9, c9, rfl⟩ := o9.form; have hR9 := hR3.grown hgrow9 (ho3.ne hu9); obtain ⟨q0, q1⟩ := hR9.one)
        obtain ⟨hPA, hBA⟩ := HP3.out.app (m' := 2 * (k + 1)) (.cells #[.int .i64 11] 3) o9 hgrow9 (by rw [List.length_append, List.length_singleton]; omega)
        refine ⟨⟨k + 1, by go_num, by omega, ⟨.slice a9 n9 c9, ?_⟩, hBA _ hbr3⟩, by simp [intOf]; omega⟩
        rw [HSU.out, hfs]
        exact hPA
      · have hsv : secV (some y) = (y : Int) := rfl
        rw [hsv] at *
        have i1 : ¬ (y : Int) < 0 := by omega
        have HS3 := Lib.hid (HS.out.belowB hbr3)
        go_wp2_with fail
        refine (plan_go w.heap.size base w.heap.size B5 R9 a n c f y (2 * k + 1) B _ _ _ HS3.out HP3.out T1 (T2 y rfl) hn (by omega)).mono ?_
        rintro e w4 ⟨rfl, ⟨sv4, hP4⟩, hb4, hk4⟩
        go_wp2
        go_roundw
        case rel =>
          refine ⟨k + 1, by go_num, by omega, ⟨sv4, ?_⟩, hbr3.trans hb4⟩
          rw [HSU.out, hfs]
          exact hP4
        case measure => simp [intOf]; omega
    · obtain rfl : k = vn := by omega
      have hle : (stepsS B pa l k).1 ≤ n := stepsS_bd B pa l n k hpa HT1.out HT2.out
      have HS3 := Lib.hid (HS.out.belowB hbr)
      clear hPk
      go_wp2_with fail
      refine (plan_go w.heap.size base w.heap.size B5 R9 a n c _ pb (2 * k) B _ _ _ HS3.out HPK.out hle hpb hn (by omega)).mono ?_
      rintro e w4 ⟨rfl, ⟨sv4, hP4⟩, hb4, hk4⟩
      have hall := hbr.trans hb4
      obtain ⟨r0, r1⟩ := hP4.r9.one
      have hown := hP4.own.mono (base' := w.heap.size) (Nat.le_trans (Nat.le_of_lt (Nat.lt_of_le_of_lt hP4.l9 hP4.u9)) (Nat.le_refl _))
      have HOW := Lib.hid hown
      clear hP4 hown
      go_wp2
      go_ret
      refine ⟨_, rfl, ?_, hall⟩
      have h1 := HOW.out
      unfold stepsS at h1
      rw [List.take_of_length_le (by rw [HVN.out]; exact Nat.le_refl _)] at h1
      exact h1

end Go.Proofs.Ytmipnikhgihcpaa
