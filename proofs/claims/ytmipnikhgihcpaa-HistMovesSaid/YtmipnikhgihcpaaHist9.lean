/- Contract of fairref.HistErr. -/
import Derived.Test.YtmipnikhgihcpaaHist3
namespace Go.Proofs.Ytmipnikhgihcpaa
open Go.RowKit
set_option linter.unusedVariables false
set_option linter.unusedSimpArgs false

set_option maxRecDepth 100000 in
set_option maxHeartbeats 2000000 in
theorem ref_histErr (lv : Value) (most wher : Int) (sv pv : Value) (older : Bool) (h : Hi) (w : World) (r : HiR w lv most wher sv pv older h) :
    Calls Try.prog 31 #[.agg (hiC lv most wher sv pv older)] w fun e w' => e = .returned (.int .i64 (hiE h)) ∧ Below w.heap.size w w' := by
  obtain ⟨⟨vs, hvs, hls⟩, rfl, rfl, hscr, hpat, rfl⟩ := r
  obtain ⟨la, ln, lc, rfl, hl1, hl2, hl3, hl4, hl5⟩ := hvs
  obtain ⟨sa, sn, sc, rfl, hs1, hs2, hs3, hs4, hs5⟩ := hscr
  obtain ⟨pa, pn, pc, rfl, hp1, hp2, hp3, hp4, hp5⟩ := hpat
  have hll : h.ls.length = ln := by rw [← hls.len]; exact hl1
  unfold hiC
  have hB := Blk.new w #[.slice la ln lc, .int .i64 h.most, .int .i64 h.wher, .slice sa sn sc, .slice pa pn pc, .bool h.older] 48
  obtain ⟨c0, c1, c2, c3, c4, c5⟩ := hB.six
  have hacc := below1 w (.cells #[.slice la ln lc, .int .i64 h.most, .int .i64 h.wher, .slice sa sn sc, .slice pa pn pc, .bool h.older] 48)
  have hE1 : hiE h = if h.most < 1 ∨ 50 < h.most ∨ h.most < ln ∨ h.wher < 0 ∨ (ln : Int) < h.wher then 1 else if h.ls.any longL || longL h.scr || longL h.pat then 2 else 0 := by rw [hiE, hll]
  by_cases hbad : h.most < 1 ∨ 50 < h.most ∨ h.most < ln ∨ h.wher < 0 ∨ (ln : Int) < h.wher
  · rw [hE1, if_pos hbad]
    have hd : h.most < 1 ∨ (1 ≤ h.most ∧ 50 < h.most) ∨ (1 ≤ h.most ∧ h.most ≤ 50 ∧ h.most < ln) ∨ (1 ≤ h.most ∧ h.most ≤ 50 ∧ (ln : Int) ≤ h.most ∧ h.wher < 0) ∨ (1 ≤ h.most ∧ h.most ≤ 50 ∧ (ln : Int) ≤ h.most ∧ 0 ≤ h.wher ∧ (ln : Int) < h.wher) := by omega
    clear hE1 hbad hl1 hs1 hp1 hl5 hs5 hp5 hll
    generalize h.most = M at *
    generalize h.wher = W at *
    rcases hd with h1 | ⟨h1, h2⟩ | ⟨h1, h2, h3⟩ | ⟨h1, h2, h3, h4⟩ | ⟨h1, h2, h3, h4, h5⟩
    all_goals
      go_enter Try.func31, Try.ntmps31
      go_wp2
      go_ret
      exact ⟨rfl, hacc⟩
  · rw [if_neg hbad] at hE1
    have hd : 1 ≤ h.most ∧ h.most ≤ 50 ∧ (ln : Int) ≤ h.most ∧ 0 ≤ h.wher ∧ h.wher ≤ (ln : Int) := by omega
    obtain ⟨g1, g2, g3, g4, g5⟩ := hd
    have HLS := Lib.hid (hls.below hacc)
    have hl4' := hl4.below hacc
    obtain ⟨lg, hlg⟩ : ∃ lg, (longL h.scr || longL h.pat) = lg := ⟨_, rfl⟩
    have HE := Lib.hid (show hiE h = if lg || h.ls.any longL then 2 else 0 by
      rw [hE1, Bool.or_assoc, hlg, Bool.or_comm])
    have hcs : (lg = true ∧ 200 < sn) ∨ (lg = true ∧ sn ≤ 200 ∧ 200 < pn) ∨ (lg = false ∧ sn ≤ 200 ∧ pn ≤ 200) := by
      simp only [longL, hs1, hp1] at hlg
      rw [← hlg]
      simp only [Bool.or_eq_true, decide_eq_true_eq, Bool.or_eq_false_iff, decide_eq_false_iff_not]
      omega
    have HL := Lib.hid hl1; have HLL := Lib.hid hll
    clear hE1 hbad hl1 hs1 hp1 hl5 hs5 hp5 hll hlg
    generalize h.most = M at *
    generalize h.wher = W at *
    have hln : ln ≤ 50 := by omega
    rcases hcs with ⟨hg, k1⟩ | ⟨hg, k1, k2⟩ | ⟨hg, k1, k2⟩
    all_goals
      have HG := Lib.hid hg
      clear hg
      go_enter Try.func31, Try.ntmps31
      go_wp2
      go_loop [3, 48] (fun v iv => ∃ (k : Nat) (b : Bool), iv = .int .i64 (k : Int) ∧ k ≤ ln ∧ (lg || (h.ls.take k).any longL) = b ∧ v = .bool b) (fun _ iv => ln - (intOf iv).toNat)
      case atStart => exact ⟨0, lg, rfl, by omega, by simp, by rw [HG.out] <;> first | rfl | (simp; omega)⟩
      case round =>
        obtain ⟨k, b, rfl, hk, hb, rfl⟩ := hrel
        have HB := Lib.hid hb; clear hb
        by_cases hlt : k < ln
        · obtain ⟨b1, o1, rfl, hc⟩ := hl4'.at (k := k) (by rw [HL.out]; exact hlt)
          have e1 := hc k (by rw [HL.out]; exact hlt)
          obtain ⟨xa, xn, xc, x1, x2, x3, x4, x5, x6⟩ := HLS.out.sl k (by rw [HLL.out]; exact hlt)
          rw [x1] at e1
          have HX := Lib.hid x2
          clear hc x1 x2 x6
          have HS : ∀ d : Bool, decide (200 < xn) = d → (lg || (h.ls.take (k + 1)).any longL) = (b || d) := fun d hd => by
            rw [take_succ_rx (by rw [HLL.out]; exact hlt), any_snoc, ← Bool.or_assoc, HB.out]
            congr 1
            rw [← hd]; unfold longL; rw [HX.out]
          have HSS := Lib.hid HS
          clear HS
          rcases b with _ | _
          · go_wp2
            go_round
            case rel => exact ⟨k + 1, decide ((200 : Int) < (xn : Int)), by go_num, by omega, by rw [HSS.out (decide ((200 : Int) < (xn : Int))) (by simp; omega)]; rfl, rfl⟩
            case measure => simp [intOf]; omega
          · go_wp2
            go_round
            case rel => exact ⟨k + 1, true, by go_num, by omega, by rw [HSS.out _ rfl]; rfl, rfl⟩
            case measure => simp [intOf]; omega
        · obtain rfl : k = ln := by omega
          have HT := Lib.hid (show h.ls.take k = h.ls by rw [List.take_of_length_le]; rw [HLL.out]; exact Nat.le_refl _)
          rcases b with _ | _
          · go_wp2
            go_ret
            exact ⟨ret1_int (by rw [HE.out]; have := HB.out; rw [HT.out] at this; rw [this]; rfl), hacc⟩
          · go_wp2
            go_ret
            exact ⟨ret1_int (by rw [HE.out]; have := HB.out; rw [HT.out] at this; rw [this]; rfl), hacc⟩

end Go.Proofs.Ytmipnikhgihcpaa
