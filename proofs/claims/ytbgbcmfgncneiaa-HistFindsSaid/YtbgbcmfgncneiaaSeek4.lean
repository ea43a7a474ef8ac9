/- Contract of seek.All at a word that is not empty. -/
import Derived.Test.YtbgbcmfgncneiaaSeek3
namespace Go.Proofs.Ytbgbcmfgncneiaa
open Go.RowKit
set_option linter.unusedVariables false
set_option linter.unusedSimpArgs false

set_option maxRecDepth 100000 in
set_option maxHeartbeats 1000000 in
theorem seek_all1 (a1 a2 : Option Addr) (m c1 n c2 : Nat) (p s : List Int) (w : World) (h1 : Ints w a1 p) (h2 : Ints w a2 s) (hm : p.length = m) (hn : s.length = n) (hm2 : m ≤ 4096) (hn2 : n ≤ 4096) (hpos : 0 < m) :
    Calls Try.prog 184 #[.slice a1 m c1, .slice a2 n c2] w (AllPost p s (n + 1 - m) w) := by
  have HM := Lib.hid hm; have HN := Lib.hid hn; clear hm hn
  obtain ⟨b1, o1, rfl, hc1⟩ := h1.at (k := 0) (by rw [HM.out]; exact hpos)
  go_enter Try.func184, Try.ntmps184
  go_wp2_with fail
  refine (seek_borders _ m c1 p w h1 HM.out (by omega)).mono ?_
  rintro e w1 ⟨g, cb, out, rfl, hI, hlen, hbo, hbel1⟩
  have hp1 : ∀ i, i < m → w1.cell? ⟨b1, o1 + i, none⟩ = some (.int .i64 (ix p i)) := fun i hi => by
    have := hc1 i (by rw [HM.out]; exact hi)
    rw [hbel1.cell (cell_lt this)]; exact this
  have hs1 := h2.below hbel1
  have ho1 : ∀ i, i < m → w1.cell? ⟨g, i, none⟩ = some (.int .i64 (ix out i)) := fun i hi => by
    obtain ⟨b, o, hb, hc⟩ := hI.at (k := i) (by rw [hlen]; exact hi)
    simp only [Option.some.injEq, Addr.mk.injEq] at hb
    obtain ⟨rfl, rfl, -⟩ := hb
    have := hc i (by rw [hlen]; exact hi)
    rwa [Nat.zero_add] at this
  have HP := Lib.hid hp1; have HO := Lib.hid ho1; have HL := Lib.hid hlen; have HBO := Lib.hid hbo
  clear hp1 ho1 hlen hbo hI hc1 h1 h2
  go_wp2
  go_loopw [41, 8, 10] (fun i v k wr => ∃ (j kk : Nat), i = .int .i64 (j : Int) ∧ k = .int .i64 (kk : Int) ∧ j ≤ n ∧ Own 3 w1.heap.size wr v (placesS p s (j + 1 - m)) ∧ MaxS p s m j kk ∧ Below w1.heap.size w1 wr) (fun i _ _ _ => n - (intOf i).toNat)
  case atStart =>
    refine ⟨0, 0, rfl, rfl, by omega, ?_, maxS_zero hpos, Below.refl _ _⟩
    rw [show 0 + 1 - m = 0 from by omega]; exact Own.nil _ _ _
  case round =>
    obtain ⟨j, kk, rfl, rfl, hj, hown, hmax, hbel⟩ := hrel
    have hpl := placesS_length p s (j + 1 - m)
    by_cases hlt : j < n
    · obtain ⟨b2, o2, rfl, hc2⟩ := hs1.at (k := j) (by rw [HN.out]; exact hlt)
      have cs : wr.cell? ⟨b2, o2 + j, none⟩ = some (.int .i64 (ix s j)) := by
        have := hc2 j (by rw [HN.out]; exact hlt)
        rw [hbel.cell (cell_lt this)]; exact this
      have HIN := Lib.hid (InS.start hmax)
      have hkm := hmax.1
      have hjn : (j : Int) < (n : Int) := by omega
      clear hmax hc2
      go_wp2
      go_loopw [10] (fun k wr => ∃ kk : Nat, k = .int .i64 (kk : Int) ∧ InS p s m j kk ∧ Own 3 w1.heap.size wr u8 (placesS p s (j + 1 - m)) ∧ Below w1.heap.size w1 wr) (fun k _ => (intOf k).toNat)
      case atStart => exact ⟨kk, rfl, HIN.out, hown, hbel⟩
      case round =>
        clear hkm HIN hown hbel cs
        obtain ⟨k, rfl, hin, hown, hbel⟩ := hrel
        have hkm := hin.1
        have ck : wr.cell? ⟨b1, o1 + k, none⟩ = some (.int .i64 (ix p k)) := by
          have := HP.out k hkm
          rw [hbel.cell (cell_lt this)]; exact this
        have HI := Lib.hid hin; clear hin
        have hk0 : (0 : Int) ≤ (k : Int) := by omega
        have hkn : (k : Int) < (m : Int) := by omega
        have hsz := hbel.size
        by_cases he : ix p k = ix s j
        · have hd3 : (ix p k != ix s j) = false := by simpa using he
          have hd4 : (ix p k == ix s j) = true := by simpa using he
          have HT := Lib.hid (HI.out.hit he)
          clear he
          by_cases hp : 0 < k
          · have hp0 : (0 : Int) < (k : Int) := by omega
            by_cases hkm2 : k + 1 = m
            · obtain rfl : m = k + 1 := by omega
              obtain ⟨b, hb1, hb2⟩ := HBO.out k (by omega)
              have hTf := HT.out.full hb2
              have hTs := HT.out.2.1
              have hkj := hTs.1
              have HY := Lib.hid (places_yes HM.out (by rw [HN.out]; omega) hTs)
              have HX := Lib.hid (show ((j : Int) + 1 - ((k : Int) + 1)) = ((j + 1 - (k + 1) : Nat) : Int) by omega)
              have HF := Lib.hid hTf
              have HB1 := Lib.hid hb1
              clear hTs hTf hb1
              have hbm := hb2.1.1
              clear hb2
              go_wp2_with (at_builtin; refine app1 rfl _ _ rfl w1.heap.size u8 _ _ _ rfl rfl (hown.alloc _) (cell_new1 _ _ _) (by omega) (size_alloc_le hbel.size _) ?_; intro v3 w3 hown3 hgrow3; have hb3 := (hbel.alloc hbel.size _).grown hgrow3 (by simp; omega) hown.row; have co3 : w3.cell? ⟨g, k, none⟩ = some (.int .i64 (b : Int)) := (by have h := HO.out k (by omega); rw [hb3.cell (cell_lt h), ← HB1.out]; exact h); clear hgrow3)
              have hz : Own 3 w1.heap.size w3 v3 (placesS p s (j + 1 + 1 - (k + 1))) := by rw [HY.out, ← HX.out]; exact hown3
              have hz2 := HF.out
              refine ⟨⟨v3, _, _, _, _, ⟨j + 1, by go_num, b, rfl, by omega, by simpa using hz, by simpa using hz2⟩, rfl, rfl, rfl, rfl, rfl⟩, by simp [intOf]; omega⟩
            · obtain ⟨hTp, hTn⟩ := HT.out.part (by omega)
              have HY := Lib.hid (places_no HM.out hpos (by rw [HN.out]; omega) hTn)
              have HF := Lib.hid hTp
              have hk4 : ¬ (k : Int) + 1 = (m : Int) := by omega
              clear hTp hTn
              go_wp2
              go_roundw
              case rel => exact ⟨j + 1, k + 1, by go_num, by go_num, by omega, by rw [HY.out]; exact hown, HF.out, hbel⟩
              case measure => simp [intOf]; omega
          · obtain rfl : k = 0 := by omega
            rw [Nat.add_zero] at ck
            by_cases hkm2 : 0 + 1 = m
            · obtain rfl : m = 0 + 1 := by omega
              obtain ⟨b, hb1, hb2⟩ := HBO.out 0 (by omega)
              have hTf := HT.out.full hb2
              have hTs := HT.out.2.1
              have hkj := hTs.1
              have HY := Lib.hid (places_yes HM.out (by rw [HN.out]; omega) hTs)
              have HX := Lib.hid (show (j : Int) = ((j + 1 - (0 + 1) : Nat) : Int) by omega)
              have HF := Lib.hid hTf
              have HB1 := Lib.hid hb1
              clear hTs hTf hb1
              have hbm := hb2.1.1
              clear hb2
              go_wp2_with (at_builtin; refine app1 rfl _ _ rfl w1.heap.size u8 _ _ _ rfl rfl (hown.alloc _) (cell_new1 _ _ _) (by omega) (size_alloc_le hbel.size _) ?_; intro v3 w3 hown3 hgrow3; have hb3 := (hbel.alloc hbel.size _).grown hgrow3 (by simp; omega) hown.row; have co3 : w3.cell? ⟨g, 0, none⟩ = some (.int .i64 (b : Int)) := (by have h := HO.out 0 (by omega); rw [hb3.cell (cell_lt h), ← HB1.out]; exact h); clear hgrow3)
              have hz : Own 3 w1.heap.size w3 v3 (placesS p s (j + 1 + 1 - (0 + 1))) := by rw [HY.out, ← HX.out]; exact hown3
              have hz2 := HF.out
              refine ⟨⟨v3, _, _, _, _, ⟨j + 1, by go_num, b, rfl, by omega, by simpa using hz, by simpa using hz2⟩, rfl, rfl, rfl, rfl, rfl⟩, by simp [intOf]; omega⟩
            · obtain ⟨hTp, hTn⟩ := HT.out.part (by omega)
              have HY := Lib.hid (places_no HM.out hpos (by rw [HN.out]; omega) hTn)
              have HF := Lib.hid hTp
              have hk4 : ¬ 1 = (m : Int) := by omega
              clear hTp hTn
              go_wp2
              go_roundw
              case rel => exact ⟨j + 1, 0 + 1, by go_num, by go_num, by omega, by rw [HY.out]; exact hown, HF.out, hbel⟩
              case measure => simp [intOf]; omega
        · have hd3 : (ix p k != ix s j) = true := by simpa using he
          have hd4 : (ix p k == ix s j) = false := by simpa using he
          by_cases hp : 0 < k
          · have hp0 : (0 : Int) < (k : Int) := by omega
            obtain ⟨b, hb1, hb2⟩ := HBO.out (k - 1) (by omega)
            rw [show k - 1 + 1 = k from by omega] at hb2
            have co : wr.cell? ⟨g, k - 1, none⟩ = some (.int .i64 (b : Int)) := by
              have h := HO.out (k - 1) (by omega)
              rw [hbel.cell (cell_lt h), ← hb1]; exact h
            have HS := Lib.hid (HI.out.step hp he hb2)
            have hbk := hb2.1.1
            have i1 : ((k : Int) - 1).toNat = k - 1 := by omega
            have i2 : (0 : Int) ≤ (k : Int) - 1 := by omega
            have i3 : (k : Int) - 1 < (m : Int) := by omega
            clear he hb1 hb2
            go_wp2
            go_roundw
            case rel => exact ⟨b, rfl, HS.out, hown, hbel⟩
            case measure => simp [intOf]; omega
          · obtain rfl : k = 0 := by omega
            rw [Nat.add_zero] at ck
            obtain ⟨hTp, hTn⟩ := (HI.out.miss he).part hpos
            have HY := Lib.hid (places_no HM.out hpos (by rw [HN.out]; omega) hTn)
            have HF := Lib.hid hTp
            have hk4 : ¬ 0 = (m : Int) := by omega
            clear hTp hTn he
            go_wp2
            go_roundw
            case rel => exact ⟨j + 1, 0, by go_num, rfl, by omega, by rw [HY.out]; exact hown, HF.out, hbel⟩
            case measure => simp [intOf]; omega
    · have hje : j = n := by omega
      have HK := Lib.hid hje; clear hje hmax
      go_wp2
      go_ret2
      exact ⟨_, rfl, by rw [← HK.out]; exact hown.mono hbel1.size, below_then hbel1 hbel1.size hbel⟩

end Go.Proofs.Ytbgbcmfgncneiaa
