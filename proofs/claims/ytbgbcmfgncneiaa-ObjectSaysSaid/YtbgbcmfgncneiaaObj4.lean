/- Contract of object.words, with the blanks around. -/
import Derived.Test.YtbgbcmfgncneiaaObj3
namespace Go.Proofs.Ytbgbcmfgncneiaa
open Go.RowKit
set_option linter.unusedVariables false
set_option linter.unusedSimpArgs false

theorem spanField1 (x y : Int) (w : World) : (Instr.field 167 (.agg #[.int .i64 x, .int .i64 y]) 1).run Try.prog w = .ok (.int .i64 y) w := by kernel_rfl
theorem spanField0 (x y : Int) (w : World) : (Instr.field 167 (.agg #[.int .i64 x, .int .i64 y]) 0).run Try.prog w = .ok (.int .i64 x) w := by kernel_rfl

set_option maxRecDepth 100000 in
set_option maxHeartbeats 2000000 in
theorem object_words_around (a : Option Addr) (n c : Nat) (l : List Int) (big : Bool) (k : Nat) (w : World) (ha : Ints w a l) (hn : l.length = n) (h2 : n ≤ 4096) (hk : k < n) :
    Calls Try.prog 114 #[.slice a n c, .int .i64 (k : Int), .bool true, .bool big] w (WordsPost l big true k w) := by
  have HN := Lib.hid hn; clear hn
  have hA := Blk.new w #[.int .i64 0, .int .i64 0] 167
  have hb := below1 w (.cells #[.int .i64 0, .int .i64 0] 167)
  have hn0 : ¬ n = 0 := by omega
  have hn1 : ((n : Int) == 0) = false := by simp; omega
  have hsf1 := spanField1
  have hsf0 := spanField0
  go_enter Try.func114, Try.ntmps114
  go_wp2_with fail
  refine (object_run a n c l big k _ (ha.below hb) HN.out h2 hk).mono ?_
  rintro e w2 ⟨f, t, rfl, hR, hb2⟩
  have hA2 := hA.below hb2 hA.lt
  have hbb := below_then hb hb.size hb2
  have htl := hR.len
  have hfk := hR.lo
  have HR := Lib.hid hR
  clear hR hA hb hb2
  go_upto_region 6 with fail
  have hS := Blk.new w2 #[.int .i64 (f : Int), .int .i64 (t : Int)] 167
  have hA3 := hA2.alloc (.cells #[.int .i64 (f : Int), .int .i64 (t : Int)] 167)
  have hb3 := hbb.alloc hbb.size (.cells #[.int .i64 (f : Int), .int .i64 (t : Int)] 167)
  have hne : w.heap.size ≠ w2.heap.size := by have := hA2.lt; omega
  have hle := hbb.size
  generalize w2.alloc (.cells #[.int .i64 (f : Int), .int .i64 (t : Int)] 167) = w3 at *
  generalize w2.heap.size = B3 at *
  clear hA2 hbb
  have ha3 := ha.below hb3
  obtain ⟨b1, o1, rfl, hc0⟩ := ha3.at (k := k) (by rw [HN.out]; exact hk)
  have HC := Lib.hid (show ∀ i, i < n → w3.cell? ⟨b1, o1 + i, none⟩ = some (.int .i64 (ix l i)) from fun i hi => hc0 i (by rw [HN.out]; exact hi))
  clear hc0
  have ck := HC.out k hk
  have ik : (k : Int) < (n : Int) := by omega
  go_wp2_with fail
  refine (word_kindOf (ix l k) big _).mono ?_
  rintro e w' ⟨rfl, rfl⟩
  obtain ⟨bl, hbl⟩ : ∃ bl : Bool, (kindS (ix l k) big == 0) = bl := ⟨_, rfl⟩
  have HBL := Lib.hid hbl
  obtain ⟨c0, c1, e0, e1⟩ := hS.two
  obtain ⟨d0, d1, f0, f1⟩ := hA3.two
  go_upto_region 7 with fail
  obtain ⟨C1, hC1⟩ : ∃ C1 : Bool, C1 = decide (t < n ∧ (kindS (ix l k) big = 0 ∨ kindS (ix l t) big = 0)) := ⟨_, rfl⟩
  have HC1 := Lib.hid hC1
  clear hC1
  obtain ⟨W3, hW3⟩ : ∃ W3, W3 = w3 := ⟨_, rfl⟩
  go_cut [30] (fun v wx => v = .bool C1 ∧ wx = W3)
  case first =>
    by_cases hlt : t < n
    · have i1 : (t : Int) < (n : Int) := by omega
      rcases bl with _ | _
      · have hbk : kindS (ix l k) big ≠ 0 := by simpa using hbl
        have cj := HC.out t hlt
        clear hbl
        go_wp2_with fail
        refine (word_kindOf (ix l t) big _).mono ?_
        rintro e w' ⟨rfl, rfl⟩
        by_cases hkt : kindS (ix l t) big = 0
        · have hb1 : C1 = true := by rw [HC1.out]; simp [hlt, hkt]
          rw [hkt]
          go_wp2
          go_meet
          exact ⟨by rw [hb1], hW3.symm⟩
        · have hb1 : C1 = false := by rw [HC1.out]; simp [hlt, hkt, hbk]
          have g1' : (kindS (ix l t) big == 0) = false := by simpa using hkt
          clear hkt
          go_wp2
          go_meet
          exact ⟨by rw [hb1], hW3.symm⟩
      · have hbk : kindS (ix l k) big = 0 := by simpa using hbl
        have hb1 : C1 = true := by rw [HC1.out]; simp [hlt, hbk]
        clear hbl hbk
        go_wp2
        go_meet
        exact ⟨by rw [hb1], hW3.symm⟩
    · have hb1 : C1 = false := by rw [HC1.out]; simp [hlt]
      clear hbl
      go_wp2
      go_meet
      exact ⟨by rw [hb1], hW3.symm⟩
  obtain ⟨rfl, hw⟩ := hcut
  obtain rfl : w3 = wc := (hw.trans hW3).symm
  clear hw hW3 hbl
  have hl1 : l.length = n := HN.out
  rcases hC1 : C1 with _ | _
  · have HNC := Lib.hid (show ¬ (t < n ∧ (kindS (ix l k) big = 0 ∨ kindS (ix l t) big = 0)) by have := HC1.out; rw [hC1] at this; simpa using this.symm)
    subst hC1
    clear hl1
    go_upto_region 9 with fail
    obtain ⟨C2, hC2⟩ : ∃ C2 : Bool, C2 = decide (kindS (ix l k) big ≠ 0 ∧ 0 < f ∧ kindS (ix l (f - 1)) big = 0) := ⟨_, rfl⟩
    have HC2 := Lib.hid hC2
    clear hC2
    obtain ⟨W3, hW3⟩ : ∃ W3, W3 = w3 := ⟨_, rfl⟩
    go_cut [56] (fun v wx => v = .bool C2 ∧ wx = W3)
    case first =>
      have hbl := HBL.out
      rcases bl with _ | _
      · have hbk : kindS (ix l k) big ≠ 0 := by simpa using hbl
        clear hbl
        by_cases hf0 : f = 0
        · subst hf0
          have hb1 : C2 = false := by rw [HC2.out]; simp
          go_wp2
          go_meet
          exact ⟨by rw [hb1], hW3.symm⟩
        · have cj := HC.out (f - 1) (by omega)
          have i1 : (0 : Int) < (f : Int) := by omega
          have i2 : ((f : Int) - 1).toNat = f - 1 := by omega
          have i3 : (0 : Int) ≤ (f : Int) - 1 := by omega
          have i4 : (f : Int) - 1 < (n : Int) := by omega
          go_wp2_with fail
          refine (word_kindOf (ix l (f - 1)) big _).mono ?_
          rintro e w' ⟨rfl, rfl⟩
          by_cases hkt : kindS (ix l (f - 1)) big = 0
          · have hb1 : C2 = true := by rw [HC2.out]; simp [hkt, hbk]; omega
            rw [hkt]
            go_wp2
            go_meet
            exact ⟨by rw [hb1], hW3.symm⟩
          · have hb1 : C2 = false := by rw [HC2.out]; simp [hkt]
            have g1' : (kindS (ix l (f - 1)) big == 0) = false := by simpa using hkt
            clear hkt
            go_wp2
            go_meet
            exact ⟨by rw [hb1], hW3.symm⟩
      · have hbk : kindS (ix l k) big = 0 := by simpa using hbl
        have hb1 : C2 = false := by rw [HC2.out]; simp [hbk]
        clear hbl hbk
        go_wp2
        go_meet
        exact ⟨by rw [hb1], hW3.symm⟩
    obtain ⟨rfl, hw⟩ := hcut
    obtain rfl : w3 = wc := (hw.trans hW3).symm
    clear hw hW3
    rcases hC2 : C2 with _ | _
    · have HND := Lib.hid (show ¬ (kindS (ix l k) big ≠ 0 ∧ 0 < f ∧ kindS (ix l (f - 1)) big = 0) by have := HC2.out; rw [hC2] at this; simpa using this.symm)
      subst hC2
      go_wp2
      obtain ⟨z0, z1, -, -⟩ := Blk.two ((hA3.set 0 (.int .i64 (f : Int))).set 1 (.int .i64 (t : Int)))
      refine bodyPost_ret (v := .tuple #[.agg #[.int .i64 (f : Int), .int .i64 (t : Int)], .int .i64 0]) (by simp [results, Try.results114, go_sem, z0, z1]) rfl ?_
      exact ⟨f, t, rfl, ⟨f, t, HR.out, by rw [if_neg (by rw [HN.out]; intro h; exact HNC.out h.2), if_neg (by intro h; exact HND.out h.2)]; exact ⟨rfl, rfl⟩⟩, htl, (hb3.setCell (p := ⟨w.heap.size, 0, none⟩) (Nat.le_refl _) _).setCell (p := ⟨w.heap.size, 1, none⟩) (Nat.le_refl _) _⟩
    · have HND := Lib.hid (show (kindS (ix l k) big ≠ 0 ∧ 0 < f ∧ kindS (ix l (f - 1)) big = 0) by have := HC2.out; rw [hC2] at this; simpa using this.symm)
      subst hC2
      have hf0 := HND.out.2.1
      have i5 : (f : Int) - 1 = ((f - 1 : Nat) : Int) := by omega
      go_wp2_with fail
      try rw [i5]
      refine (object_run (some ⟨b1, o1, none⟩) n c l big (f - 1) _ ha3 HN.out h2 (by omega)).mono ?_
      rintro e w5 ⟨f1, t1, rfl, hR5, hb5⟩
      have HR5 := Lib.hid hR5
      clear hR5
      have hS5 := hS.below hb5 hS.lt
      have hA5 := hA3.below hb5 hA3.lt
      have hb6 := below_then hb3 hb3.size hb5
      obtain ⟨c0, c1, e0, e1⟩ := hS5.two
      obtain ⟨d0, d1, f0, f1'⟩ := hA5.two
      have hA6 := hA5.other (a := ⟨B3, 0, none⟩) hne (.int .i64 (f1 : Int))
      have hb7 := hb6.setCell (p := ⟨B3, 0, none⟩) hle (.int .i64 (f1 : Int))
      go_wp2
      obtain ⟨z0, z1, -, -⟩ := Blk.two ((hA6.set 0 (.int .i64 (f1 : Int))).set 1 (.int .i64 (t : Int)))
      refine bodyPost_ret (v := .tuple #[.agg #[.int .i64 (f1 : Int), .int .i64 (t : Int)], .int .i64 0]) (by simp [results, Try.results114, go_sem, z0, z1]) rfl ?_
      exact ⟨f1, t, rfl, ⟨f, t, HR.out, by rw [if_neg (by rw [HN.out]; intro h; exact HNC.out h.2), if_pos ⟨rfl, HND.out⟩]; exact ⟨rfl, _, HR5.out⟩⟩, htl, (hb7.setCell (p := ⟨w.heap.size, 0, none⟩) (Nat.le_refl _) _).setCell (p := ⟨w.heap.size, 1, none⟩) (Nat.le_refl _) _⟩
  · have HYC := Lib.hid (show (t < n ∧ (kindS (ix l k) big = 0 ∨ kindS (ix l t) big = 0)) by have := HC1.out; rw [hC1] at this; simpa using this.symm)
    subst hC1
    clear hl1
    have htn := HYC.out.1
    go_wp2_with fail
    refine (object_run (some ⟨b1, o1, none⟩) n c l big t _ ha3 HN.out h2 htn).mono ?_
    rintro e w5 ⟨f1, t1, rfl, hR5, hb5⟩
    have htl5 := hR5.len
    have HR5 := Lib.hid hR5
    clear hR5
    have hS5 := hS.below hb5 hS.lt
    have hA5 := hA3.below hb5 hA3.lt
    have hb6 := below_then hb3 hb3.size hb5
    obtain ⟨c0, c1, e0, e1⟩ := hS5.two
    obtain ⟨d0, d1, f0, f1'⟩ := hA5.two
    have hA6 := hA5.other (a := ⟨B3, 1, none⟩) hne (.int .i64 (t1 : Int))
    have hb7 := hb6.setCell (p := ⟨B3, 1, none⟩) hle (.int .i64 (t1 : Int))
    go_wp2
    obtain ⟨z0, z1, -, -⟩ := Blk.two ((hA6.set 0 (.int .i64 (f : Int))).set 1 (.int .i64 (t1 : Int)))
    refine bodyPost_ret (v := .tuple #[.agg #[.int .i64 (f : Int), .int .i64 (t1 : Int)], .int .i64 0]) (by simp [results, Try.results114, go_sem, z0, z1]) rfl ?_
    exact ⟨f, t1, rfl, ⟨f, t, HR.out, by rw [if_pos (by rw [HN.out]; exact ⟨rfl, HYC.out⟩)]; exact ⟨rfl, _, HR5.out⟩⟩, htl5, (hb7.setCell (p := ⟨w.heap.size, 0, none⟩) (Nat.le_refl _) _).setCell (p := ⟨w.heap.size, 1, none⟩) (Nat.le_refl _) _⟩

end Go.Proofs.Ytbgbcmfgncneiaa
