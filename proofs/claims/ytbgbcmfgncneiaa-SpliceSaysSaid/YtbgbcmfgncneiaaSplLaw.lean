/- The walk of SpliceSays. -/
import Derived.Test.YtbgbcmfgncneiaaSpl6
import Derived.Test.YtbgbcmfgncneiaaSpl7
import Derived.Test.YtbgbcmfgncneiaaSpl8
namespace Go.Proofs.Ytbgbcmfgncneiaa
open Go.RowKit
set_option linter.unusedVariables false
set_option linter.unusedSimpArgs false

def ApAny (E : Int) (xs : List Int) (w : World) (e : Ending) (w' : World) : Prop := ∃ v, e = .returned (.tuple #[v, .int .i64 E]) ∧ Own 3 w.heap.size w' v xs ∧ Below w.heap.size w w'
def UnAny (E : Int) (xs : List Sp) (w : World) (e : Ending) (w' : World) : Prop := ∃ v us, e = .returned (.tuple #[v, .int .i64 E]) ∧ SOwn w.heap.size w' v us xs ∧ Below w.heap.size w w'
def apX (E : Int) (l : List Int) (es : List Sp) : List Int := if E = 0 then apP l 0 es else []
def unX (E : Int) (l : List Int) (es : List Sp) : List Sp := if E = 0 then unP l 0 es else []

set_option maxRecDepth 100000 in
theorem splice_apply_bad (la a : Option Addr) (n c m mc : Nat) (es : List Sp) (E : Int) (w : World) (he : Spls w a es) (hm : es.length = m) (hm2 : m ≤ 9223372036854775807) (hE : ckE n es = E) (hok : E ≠ 0) (hn : n ≤ 9223372036854775807) :
    Calls Try.prog 40 #[.slice la n c, .slice a m mc] w (ApAny E [] w) := by
  have HE := Lib.hid hE
  have g : (E != 0) = true := by simpa using hok
  clear hE hok
  go_enter Try.func40, Try.ntmps40
  go_wp2_with fail
  refine (splice_check a m mc es n w he hm hm2).mono ?_
  rintro e w1 ⟨rfl, hb⟩
  rw [HE.out]
  go_wp2
  go_ret2
  exact ⟨_, rfl, Own.nil _ _ _, hb⟩
set_option maxRecDepth 100000 in
theorem splice_undo_bad (la a : Option Addr) (n c m mc : Nat) (es : List Sp) (E : Int) (w : World) (he : Spls w a es) (hm : es.length = m) (hm2 : m ≤ 9223372036854775807) (hE : ckE n es = E) (hok : E ≠ 0) (hn : n ≤ 9223372036854775807) :
    Calls Try.prog 41 #[.slice la n c, .slice a m mc] w (UnAny E [] w) := by
  have HE := Lib.hid hE
  have g : (E != 0) = true := by simpa using hok
  clear hE hok
  go_enter Try.func41, Try.ntmps41
  go_wp2_with fail
  refine (splice_check a m mc es n w he hm hm2).mono ?_
  rintro e w1 ⟨rfl, hb⟩
  rw [HE.out]
  go_wp2
  go_ret2
  exact ⟨_, [], rfl, SOwn.nil _ _, hb⟩
theorem splice_apply_any (la a : Option Addr) (n c m mc : Nat) (l : List Int) (es : List Sp) (E : Int) (w : World) (hl : Ints w la l) (hn : l.length = n) (hc : n ≤ c) (hc2 : c ≤ 9223372036854775807) (ha : la = none → n = 0)
    (he : Spls w a es) (hm : es.length = m) (hm2 : m ≤ 9223372036854775807) (hE : ckE n es = E) : Calls Try.prog 40 #[.slice la n c, .slice a m mc] w (ApAny E (apX E l es) w) := by
  by_cases h : E = 0
  · subst h
    refine (splice_apply la a n c m mc l es w hl hn hc hc2 ha he hm hm2 hE).mono ?_
    rintro e w' ⟨v, rfl, h1, h2⟩
    exact ⟨v, rfl, by rw [apX, if_pos rfl]; exact h1, h2⟩
  · rw [apX, if_neg h]
    exact splice_apply_bad la a n c m mc es E w he hm hm2 hE h (by omega)
theorem splice_undo_any (la a : Option Addr) (n c m mc : Nat) (l : List Int) (es : List Sp) (E : Int) (w : World) (hl : Ints w la l) (hn : l.length = n) (hc : n ≤ c) (hc2 : c ≤ 9223372036854775807) (ha : la = none → n = 0)
    (he : Spls w a es) (hm : es.length = m) (hm2 : m ≤ 9223372036854775807) (hE : ckE n es = E) : Calls Try.prog 41 #[.slice la n c, .slice a m mc] w (UnAny E (unX E l es) w) := by
  by_cases h : E = 0
  · subst h
    refine (splice_undo la a n c m mc l es w hl hn hc hc2 ha he hm hm2 hE).mono ?_
    rintro e w' ⟨v, us, rfl, h1, h2⟩
    exact ⟨v, us, rfl, by rw [unX, if_pos rfl]; exact h1, h2⟩
  · rw [unX, if_neg h]
    exact splice_undo_bad la a n c m mc es E w he hm hm2 hE h (by omega)

def BtAny (l m : List Int) (w : World) (e : Ending) (w' : World) : Prop := ∃ v us es B, e = .returned (.tuple #[v, .int .i64 B]) ∧ SOwn w.heap.size w' v us es ∧ Below w.heap.size w w' ∧ ((4096 < l.length ∨ 4096 < m.length) → es = [] ∧ B = 2) ∧ (¬ (4096 < l.length ∨ 4096 < m.length) → BtP l m es ∧ B = 0)
set_option maxRecDepth 100000 in
theorem splice_between_any (la ma : Option Addr) (n c p mc : Nat) (l m : List Int) (w : World) (hl : Ints w la l) (hm : Ints w ma m) (hn : l.length = n) (hp : m.length = p) (hn2 : n ≤ 9223372036854775807) (hp2 : p ≤ 9223372036854775807) (hmc : p ≤ mc) (h0 : ma = none → p = 0) :
    Calls Try.prog 42 #[.slice la n c, .slice ma p mc] w (BtAny l m w) := by
  by_cases hb : 4096 < l.length ∨ 4096 < m.length
  · have HB := Lib.hid hb
    rw [hn, hp] at hb
    clear hn hp
    rcases hb with hb | hb
    all_goals
      go_enter Try.func42, Try.ntmps42
      go_wp2
      all_goals
        go_ret2
        exact ⟨_, [], [], 2, rfl, SOwn.nil _ _, Below.refl _ _, fun _ => ⟨rfl, rfl⟩, fun h => absurd HB.out h⟩
  · refine (splice_between la ma n c p mc l m w hl hm hn hp (by omega) (by omega) hmc h0).mono ?_
    rintro e w' ⟨v, us, es, rfl, h1, h2, h3⟩
    exact ⟨v, us, es, 0, rfl, h1, h3, fun h => absurd h hb, fun _ => ⟨h2, rfl⟩⟩

set_option maxRecDepth 100000 in
set_option maxHeartbeats 4000000 in
theorem spliceSays_walk (k : Int) (la : Option Addr) (n c : Nat) (l : List Int) (ma : Option Addr) (p mc : Nat) (m : List Int) (a : Option Addr) (q qc : Nat) (es : List Sp) (w : World)
    (hl : Ints w la l) (hn : l.length = n) (hc : n ≤ c) (hc2 : c ≤ 9223372036854775807) (hla : la = none → n = 0)
    (hm : Ints w ma m) (hp : m.length = p) (hmc : p ≤ mc) (hmc2 : mc ≤ 9223372036854775807) (hma : ma = none → p = 0)
    (he : Spls w a es) (hq : es.length = q) (hqc : q ≤ qc) (hqc2 : qc ≤ 9223372036854775807) :
    Calls Try.prog 7 #[.int .i64 k, .slice la n c, .slice ma p mc, .slice a q qc] w fun e w' => e = .returned (.bool true) ∧ Below w.heap.size w w' := by
  obtain ⟨E, hE⟩ : ∃ E, ckE n es = E := ⟨_, rfl⟩
  obtain ⟨F, hF⟩ : ∃ F, ckE k es = F := ⟨_, rfl⟩
  obtain ⟨xs, hxs⟩ : ∃ xs, apX E l es = xs := ⟨_, rfl⟩
  obtain ⟨ys, hys⟩ : ∃ ys, unX E l es = ys := ⟨_, rfl⟩
  have HXS := Lib.hid hxs
  have HYS := Lib.hid hys
  clear hxs hys
  have HE := Lib.hid hE
  have HF := Lib.hid hF
  have HN := Lib.hid hn
  have HP := Lib.hid hp
  have HQ := Lib.hid hq
  have HLA := Lib.hid hla
  have HMA := Lib.hid hma
  clear hE hF hn hp hq hla hma
  go_enter Try.func7, Try.ntmps7
  go_wp2_with fail
  refine (ref_editErr a q qc es n w he HQ.out (by omega)).mono ?_
  rintro e w1 ⟨rfl, hb1⟩
  rw [HE.out]
  go_wp2_with fail
  refine (splice_apply_any la a n c q qc l es E w1 (hl.below hb1) HN.out hc hc2 HLA.out (he.below hb1) HQ.out (by omega) HE.out).mono ?_
  rintro e w2 ⟨v10, rfl, o10, hb⟩
  rw [HXS.out] at o10
  have hb2 := below_then hb1 hb1.size hb
  clear hb
  go_wp2_with fail
  refine (splice_undo_any la a n c q qc l es E w2 (hl.below hb2) HN.out hc hc2 HLA.out (he.below hb2) HQ.out (by omega) HE.out).mono ?_
  rintro e w3 ⟨v12, us12, rfl, o12, hb⟩
  rw [HYS.out] at o12
  replace o10 := o10.kept hb
  have hb3 := below_then hb2 hb2.size hb
  clear hb
  go_wp2_with fail
  refine (splice_between_any la ma n c p mc l m w3 (hl.below hb3) (hm.below hb3) HN.out HP.out (by omega) (by omega) hmc HMA.out).mono ?_
  rintro e w4 ⟨v14, us14, es14, B, rfl, o14, hb, hbig, hsmall⟩
  replace o10 := o10.kept hb
  replace o12 := o12.kept hb
  have hb4 := below_then hb3 hb3.size hb
  clear hb hb1 hb2 hb3
  go_wp2_with fail
  refine (splice_check a q qc es k w4 (he.below hb4) HQ.out (by omega)).mono ?_
  rintro e w5 ⟨rfl, hb⟩
  rw [HF.out]
  replace o10 := o10.kept hb
  replace o12 := o12.kept hb
  replace o14 := o14.kept hb
  have hb5 := below_then hb4 hb4.size hb
  clear hb hb4
  go_wp2_with fail
  refine (ref_editErr a q qc es k w5 (he.below hb5) HQ.out (by omega)).mono ?_
  rintro e w6 ⟨rfl, hb⟩
  rw [HF.out]
  replace o10 := o10.kept hb
  replace o12 := o12.kept hb
  replace o14 := o14.kept hb
  have hb6 := below_then hb5 hb5.size hb
  clear hb hb5
  rw [HN.out, HP.out] at hbig hsmall
  obtain ⟨a10, n10, c10, rfl⟩ := o10.form
  obtain ⟨a12, c12, rfl, y1, y2, y3⟩ := o12.form
  obtain ⟨a14, c14, rfl, z1, z2, z3⟩ := o14.form
  have HBG := Lib.hid hbig
  have HSM := Lib.hid hsmall
  clear hbig hsmall
  obtain ⟨bg, hbg⟩ : ∃ bg : Bool, decide (4096 < n ∨ 4096 < p) = bg := ⟨_, rfl⟩
  have HBB := Lib.hid hbg
  clear hbg
  go_upto_region 7 with fail
  go_cut [52] (fun v wx => v = .bool bg ∧ w6 = wx)
  case first =>
    by_cases hb1 : 4096 < n
    · have hv : bg = true := by rw [← HBB.out]; simp; omega
      subst hv
      go_wp2
      go_meet
      exact ⟨rfl, rfl⟩
    · by_cases hb2 : 4096 < p
      · have hv : bg = true := by rw [← HBB.out]; simp; omega
        subst hv
        go_wp2
        go_meet
        exact ⟨congrArg Value.bool (by simp; omega), rfl⟩
      · have hv : bg = false := by rw [← HBB.out]; simp; omega
        subst hv
        go_wp2
        go_meet
        exact ⟨congrArg Value.bool (by simp; omega), rfl⟩
  obtain ⟨rfl, rfl⟩ := hcut
  go_upto_if 52 with fail
  go_cut [8] (fun v wx => v = .bool false ∧ Below w6.heap.size w6 wx)
  case first =>
    cases bg with
    | true =>
      obtain ⟨rfl, rfl⟩ := HBG.out (by simpa using HBB.out)
      go_wp2
      all_goals
        go_meet
        exact ⟨rfl, Below.refl _ _⟩
    | false =>
      have hb : ¬ (4096 < n ∨ 4096 < p) := by simpa using HBB.out
      obtain ⟨hbt, rfl⟩ := HSM.out hb
      have HBT := Lib.hid hbt
      have hlen := hbt.len
      clear hbt
      have s1 : n ≤ 4096 := by omega
      have s2 : p ≤ 4096 := by omega
      clear hb
      go_wp2_with fail
      refine (ref_between la ma n c p mc l m w6 (hl.below hb6) (hm.below hb6) HN.out HP.out s1 s2 hmc HMA.out).mono ?_
      rintro e w7 ⟨v15, us15, es15, rfl, o15, hbt, hb⟩
      obtain rfl := hbt.one HBT.out
      clear hbt
      obtain ⟨a15, c15, rfl, -⟩ := o15.form
      go_wp2_with fail
      refine (edit_same a14 a15 _ c14 c15 _ w7 (o14.kept hb).spls o15.spls rfl (by omega)).mono ?_
      rintro e w8 ⟨rfl, hb'⟩
      have hb8 := below_then hb hb.size hb'
      clear hb hb'
      go_wp2
      go_meet
      exact ⟨rfl, hb8⟩
  obtain ⟨rfl, hb⟩ := hcut
  replace o10 := o10.kept hb
  replace o12 := o12.kept hb
  have hb7 := below_then hb6 hb6.size hb
  clear hb hb6 o14 HBG HSM z1 z2 z3
  by_cases hE0 : E = 0
  · subst hE0
    obtain ⟨g1, g2, hg, g3⟩ := ckE_good HE.out
    have HG := Lib.hid hg
    clear hg
    have s1 : n ≤ 4096 := by omega
    have hx1 := HXS.out
    rw [apX, if_pos rfl] at hx1
    subst hx1
    have hy1 := HYS.out
    rw [unX, if_pos rfl] at hy1
    subst hy1
    go_wp2_with fail
    refine (ref_applied la a n c q qc l es _ (hl.below hb7) HN.out HLA.out (he.below hb7) HQ.out (by omega) s1 HG.out g3).mono ?_
    rintro e w8 ⟨v9, rfl, o9, hb⟩
    replace o10 := o10.kept hb
    replace o12 := o12.kept hb
    have hb8 := below_then hb7 hb7.size hb
    clear hb hb7
    obtain ⟨a9, n9, c9, rfl⟩ := o9.form
    have hn9 := o9.get.1
    have hn10 := o10.get.1
    obtain rfl : n9 = n10 := by omega
    have HX := Lib.hid hn9
    clear hn9 hn10
    have hle : n9 ≤ 9223372036854775807 := by
      obtain ⟨_, _, h1, h2, h3⟩ := o9.ints
      have := apP_len (l := l) (es := es) (last := -1) (at' := 0) (by rw [HN.out]; exact HG.out) (by omega) (by
        intro s hs
        cases es with
        | nil => simp at hs
        | cons s' r => simp at hs; subst hs; have := HG.out.1; omega) (.inr rfl)
      have h4 := HX.out
      have h5 := HN.out
      omega
    go_wp2_with fail
    refine (slices_same a10 a9 n9 n9 c10 c9 _ w8 o10.get.2.1 o9.get.2.1 HX.out HX.out hle).mono ?_
    rintro e w9 ⟨rfl, nd, rfl⟩
    replace o12 := o12.drewN nd
    have hb9 := below_drewN hb8 nd
    clear hb8
    go_wp2_with fail
    refine (ref_undone la a n c q qc l es _ (hl.below hb9) HN.out hc hc2 HLA.out (he.below hb9) HQ.out hqc hqc2 s1 HG.out g3).mono ?_
    rintro e w10 ⟨v11, us11, rfl, o11, hb⟩
    replace o12 := o12.kept hb
    have hb10 := below_then hb9 hb9.size hb
    clear hb hb9
    obtain ⟨a11, c11, rfl, -⟩ := o11.form
    go_wp2_with fail
    refine (edit_same a12 a11 _ c12 c11 _ w10 o12.spls o11.spls rfl (by omega)).mono ?_
    rintro e w11 ⟨rfl, hb⟩
    have hb11 := below_then hb10 hb10.size hb
    go_wp2
    go_ret
    exact ⟨rfl, hb11⟩
  · have g : (E != 0) = true := by simpa using hE0
    have hx1 := HXS.out
    rw [apX, if_neg hE0] at hx1
    subst hx1
    have hy1 := HYS.out
    rw [unX, if_neg hE0] at hy1
    subst hy1
    obtain rfl : 0 = n10 := o10.get.1
    clear hE0
    go_wp2
    go_ret
    exact ⟨rfl, hb7⟩

end Go.Proofs.Ytbgbcmfgncneiaa
