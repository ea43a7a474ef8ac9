/- Contracts of hist.fits and fairref.Fits. -/
import Derived.Test.YtbgbcmfgncneiaaHistP
namespace Go.Proofs.Ytbgbcmfgncneiaa
open Go.RowKit
set_option linter.unusedVariables false
set_option linter.unusedSimpArgs false

set_option maxRecDepth 100000 in
set_option maxHeartbeats 1000000 in
theorem hist_fits (a1 a2 : Option Addr) (m c1 n c2 : Nat) (p s : List Int) (w : World) (h1 : Ints w a1 p) (h2 : Ints w a2 s) (hm : p.length = m) (hn : s.length = n) (hm2 : m ≤ 4096) (hn2 : n ≤ 4096) (hc1 : m ≤ c1) (hc2 : n ≤ c2) (hd1 : c1 ≤ 9223372036854775807) (hd2 : c2 ≤ 9223372036854775807) :
    Calls Try.prog 140 #[.slice a1 m c1, .slice a2 n c2] w fun e w' => e = .returned (.bool (fitsB p s)) ∧ Below w.heap.size w w' := by
  by_cases hA : p ≠ [] ∧ ix p 0 = 94
  · have hF : fitsB p s = standsB (p.drop 1) s 0 := by rw [fitsB, if_pos hA]
    obtain ⟨hp0, hp1⟩ := hA
    have hm0 : 0 < m := by rw [← hm]; exact List.length_pos_iff.2 hp0
    obtain ⟨b1, o1, rfl, hc⟩ := h1.at (k := 0) (by omega)
    have e0 := hc 0 (by omega)
    rw [hp1, Nat.add_zero] at e0
    have hI := h1.drop 1
    have hl : (p.drop 1).length = m - 1 := by simp [hm]
    by_cases hlt : m - 1 ≤ n
    · have HT := Lib.hid (show fitsB p s = true ↔ p.drop 1 = s.take (m - 1) by rw [hF, standsB, decide_eq_true_eq, hl]; simp)
      have hJ := h2.take (m - 1)
      have HJ := Lib.hid (show (s.take (m - 1)).length = m - 1 by simp [hn]; omega)
      have HL := Lib.hid hl
      clear hF hp0 hp1 hc h1 h2 hl hm hn
      go_enter Try.func140, Try.ntmps140
      go_wp2_with fail
      all_goals
        refine (slices_eqb _ a2 (m - 1) (m - 1) _ c2 (p.drop 1) (s.take (m - 1)) (fitsB p s) HT.out w (by first | exact hI | exact .inl (List.eq_nil_of_length_eq_zero (by rw [HL.out]; omega))) hJ HL.out HJ.out (by omega)).mono ?_
        rintro e w2 ⟨rfl, hb2⟩
        go_wp2
        go_ret
        exact ⟨rfl, belowOf hb2⟩
    · have HT := Lib.hid (show fitsB p s = false by rw [hF]; exact standsB_long (by omega))
      clear hF hp0 hp1 hc h1 h2 hl hm hn
      go_enter Try.func140, Try.ntmps140
      go_wp2
      go_ret
      exact ⟨ret1_bool HT.out.symm, Below.refl _ _⟩
  · have hF : fitsB p s = decide (placesN p s (n + 1 - m) ≠ []) := by rw [fitsB, if_neg hA, hm, hn]
    have HN := Lib.hid (seek_next a1 a2 m c1 n c2 p s 0 w h1 h2 hm hn hm2 hn2)
    have HF := Lib.hid hF
    by_cases hm0 : 0 < m
    · obtain ⟨b1, o1, rfl, hc⟩ := h1.at (k := 0) (by omega)
      have e0 := hc 0 (by omega)
      rw [Nat.add_zero] at e0
      have hne : (ix p 0 == 94) = false := by
        have : p ≠ [] := by rintro rfl; simp at hm; omega
        simpa using fun h => hA ⟨this, h⟩
      clear hc hm hn hA hF
      go_enter Try.func140, Try.ntmps140
      go_wp2_with ((go_at_call 168); refine HN.out.mono ?_; rintro e w2 ⟨x, g, rfl, hx, hb2⟩; rcases next_fits hx with ⟨rfl, hg⟩ | ⟨rfl, hg⟩)
      · go_ret
        exact ⟨ret1_bool (by rw [HF.out]; simpa using hg), hb2⟩
      · go_ret
        exact ⟨ret1_bool (by rw [HF.out]; simpa using hg), hb2⟩
    · obtain rfl : m = 0 := by omega
      clear hm hn hA hF
      go_enter Try.func140, Try.ntmps140
      go_wp2_with ((go_at_call 168); refine HN.out.mono ?_; rintro e w2 ⟨x, g, rfl, hx, hb2⟩; rcases next_fits hx with ⟨rfl, hg⟩ | ⟨rfl, hg⟩)
      · go_ret
        exact ⟨ret1_bool (by rw [HF.out]; simpa using hg), hb2⟩
      · go_ret
        exact ⟨ret1_bool (by rw [HF.out]; simpa using hg), hb2⟩

set_option maxRecDepth 100000 in
set_option maxHeartbeats 1000000 in
theorem ref_fits (a1 a2 : Option Addr) (m c1 n c2 : Nat) (p s : List Int) (w : World) (h1 : Ints w a1 p) (h2 : Ints w a2 s) (hm : p.length = m) (hn : s.length = n) (hm2 : m ≤ 4096) (hn2 : n ≤ 4096) (hc1 : m ≤ c1) (hc2 : n ≤ c2) (hd1 : c1 ≤ 9223372036854775807) (hd2 : c2 ≤ 9223372036854775807) :
    Calls Try.prog 141 #[.slice a1 m c1, .slice a2 n c2] w fun e w' => e = .returned (.bool (fitsB p s)) ∧ Below w.heap.size w w' := by
  by_cases hA : p ≠ [] ∧ ix p 0 = 94
  · have hF : fitsB p s = standsB (p.drop 1) s 0 := by rw [fitsB, if_pos hA]
    obtain ⟨hp0, hp1⟩ := hA
    have hm0 : 0 < m := by rw [← hm]; exact List.length_pos_iff.2 hp0
    obtain ⟨b1, o1, rfl, hc⟩ := h1.at (k := 0) (by omega)
    have e0 := hc 0 (by omega)
    rw [hp1, Nat.add_zero] at e0
    have hI := h1.drop 1
    have hl : (p.drop 1).length = m - 1 := by simp [hm]
    have HPL := Lib.hid (fun ad cp h1 => ref_places ad a2 (m - 1) cp n c2 (p.drop 1) s w h1 h2 hl hn (by omega) hn2 hc2 hd2)
    have HT := Lib.hid (show (0 < (placesS (p.drop 1) s (n + 1 - (m - 1))).length ∧ ix (placesS (p.drop 1) s (n + 1 - (m - 1))) 0 = 0) ↔ fitsB p s = true by
      rw [hF]
      rcases Nat.eq_zero_or_pos (n + 1 - (m - 1)) with h0 | h0
      · rw [h0, standsB_long (by omega)]; simp [placesS, placesN]
      · exact placesS_first h0)
    have HL := Lib.hid hl
    clear hF hp0 hp1 hc h1 h2 hl hm hn
    go_enter Try.func141, Try.ntmps141
    go_wp2_with fail
    all_goals
      refine (HPL.out _ _ (by first | exact hI | exact .inl (List.eq_nil_of_length_eq_zero (by rw [HL.out]; omega)))).mono ?_
      rintro e w2 ⟨v, rfl, hown, hb2⟩
      have hT := HT.out
      generalize placesS (p.drop 1) s (n + 1 - (m - 1)) = l at *
      obtain ⟨b, t, c, rfl⟩ := hown.form
      obtain ⟨g1, g2, g3⟩ := hown.get
      by_cases ht : 0 < t
      · obtain ⟨b3, o3, rfl, hc3⟩ := g2.at (k := 0) (by omega)
        have e3 := hc3 0 (by omega)
        rw [Nat.add_zero] at e3
        have HR := Lib.hid (show (ix l 0 == 0) = fitsB p s by
          rw [Bool.eq_iff_iff, ← hT]; simp; omega)
        clear hT g1 g2 hc3 hown
        go_wp2
        go_ret
        exact ⟨ret1_bool HR.out, hb2⟩
      · obtain rfl : t = 0 := by omega
        have HR := Lib.hid (show fitsB p s = false by
          rw [Bool.eq_false_iff, ne_eq, ← hT]; omega)
        clear hT g1 g2 hown
        go_wp2
        go_ret
        exact ⟨ret1_bool HR.out.symm, hb2⟩
  · have hF : fitsB p s = decide (placesN p s (n + 1 - m) ≠ []) := by rw [fitsB, if_neg hA, hm, hn]
    have HN := Lib.hid (ref_places a1 a2 m c1 n c2 p s w h1 h2 hm hn hm2 hn2 hc2 hd2)
    have HF := Lib.hid (show decide (0 < (placesS p s (n + 1 - m)).length) = fitsB p s by
      rw [hF, Bool.eq_iff_iff, decide_eq_true_eq, decide_eq_true_eq, ne_eq, ← placesS_ne]; omega)
    have H0 : 0 < m → (ix p 0 == 94) = false := fun hm0 => by
      have : p ≠ [] := by rintro rfl; simp at hm; omega
      simpa using fun h => hA ⟨this, h⟩
    rcases Nat.eq_zero_or_pos m with hm0 | hm0
    · obtain rfl : m = 0 := by omega
      clear hm hn hA hF H0
      go_enter Try.func141, Try.ntmps141
      go_wp2_with fail
      refine HN.out.mono ?_
      rintro e w2 ⟨v, rfl, hown, hb2⟩
      have hT := HF.out
      generalize placesS p s (n + 1 - 0) = l at *
      obtain ⟨b, t, c, rfl⟩ := hown.form
      obtain ⟨g1, g2, g3⟩ := hown.get
      rw [g1] at hT
      have HR := Lib.hid hT
      clear hT g1 g2 hown
      go_wp2
      go_ret
      exact ⟨ret1_bool (by rw [← HR.out]), hb2⟩
    · obtain ⟨b1, o1, rfl, hc⟩ := h1.at (k := 0) (by omega)
      have e0 := hc 0 (by omega)
      rw [Nat.add_zero] at e0
      have hne := H0 hm0
      clear hc hm hn hA hF H0
      go_enter Try.func141, Try.ntmps141
      go_wp2_with fail
      refine HN.out.mono ?_
      rintro e w2 ⟨v, rfl, hown, hb2⟩
      have hT := HF.out
      generalize placesS p s (n + 1 - m) = l at *
      obtain ⟨b, t, c, rfl⟩ := hown.form
      obtain ⟨g1, g2, g3⟩ := hown.get
      rw [g1] at hT
      have HR := Lib.hid hT
      clear hT g1 g2 hown
      go_wp2
      go_ret
      exact ⟨ret1_bool (by rw [← HR.out]), hb2⟩

end Go.Proofs.Ytbgbcmfgncneiaa
