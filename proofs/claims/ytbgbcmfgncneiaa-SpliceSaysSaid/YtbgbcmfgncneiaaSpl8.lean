/- Contract of fairref.Between. -/
import Derived.Test.YtbgbcmfgncneiaaSpl4
namespace Go.Proofs.Ytbgbcmfgncneiaa
open Go.RowKit
set_option linter.unusedVariables false
set_option linter.unusedSimpArgs false

set_option maxRecDepth 100000 in
set_option maxHeartbeats 2000000 in
theorem ref_between (la ma : Option Addr) (n c p mc : Nat) (l m : List Int) (w : World) (hl : Ints w la l) (hm : Ints w ma m) (hn : l.length = n) (hp : m.length = p) (hn2 : n ≤ 4096) (hp2 : p ≤ 4096) (hmc : p ≤ mc) (h0 : ma = none → p = 0) :
    Calls Try.prog 44 #[.slice la n c, .slice ma p mc] w (BtRPost l m w) := by
  have HN := Lib.hid hn
  have HP := Lib.hid hp
  have H0 := Lib.hid h0
  clear hn hp h0
  by_cases hne : l = m
  · have HE := Lib.hid hne
    have hd : decide (l = m) = true := by simpa using hne
    have HD := Lib.hid hd
    clear hne hd
    go_enter Try.func44, Try.ntmps44
    go_wp2_with fail
    refine (slices_equal la ma n p c mc l m w hl hm HN.out HP.out (by omega)).mono ?_
    rintro e w1 ⟨rfl, q, rfl⟩
    rw [HD.out]
    go_wp2
    go_ret
    exact ⟨_, [], [], rfl, SOwn.nil _ _, .inl ⟨HE.out, rfl⟩, below_drewN (Below.refl _ _) _⟩
  · have HNE := Lib.hid hne
    have HD := Lib.hid (show decide (l = m) = false by simpa using hne)
    clear hne
    go_enter Try.func44, Try.ntmps44
    go_wp2_with fail
    refine (slices_equal la ma n p c mc l m w hl hm HN.out HP.out (by omega)).mono ?_
    rintro e w1 ⟨rfl, q, rfl⟩
    rw [HD.out]
    go_upto_block 0 with fail
    go_cut [5] (fun v wx => ∃ k : Nat, v = .int .i64 (k : Int) ∧ k ≤ n ∧ k ≤ p ∧ Hid (PreP l m k) ∧ ∃ q, wx = w.drewN q)
    case first =>
      go_wp2
      go_loopw [5] (fun v wr => ∃ k : Nat, v = .int .i64 (k : Int) ∧ k ≤ n ∧ k ≤ p ∧ (∀ i, i < k → ix l i = ix m i) ∧ ∃ q, wr = w.drewN q) (fun v _ => n - (intOf v).toNat)
      case atStart => exact ⟨0, rfl, by omega, by omega, fun i hi => by omega, q, rfl⟩
      case round =>
        obtain ⟨k, rfl, hk, hk2, hsame, q, rfl⟩ := hrel
        have HS := Lib.hid hsame
        clear hsame
        by_cases hlt : k < n
        · have i0 : decide (k < n) = true := by simp; omega
          by_cases hlt2 : k < p
          · obtain ⟨b1, o1, rfl, hc1⟩ := hl.at (k := k) (by rw [HN.out]; omega)
            obtain ⟨b2, o2, rfl, hc2⟩ := hm.at (k := k) (by rw [HP.out]; omega)
            have c1 := hc1 k (by rw [HN.out]; omega)
            have c2 := hc2 k (by rw [HP.out]; omega)
            have i01 : decide (k < p) = true := by simp; omega
            have i1 : (k : Int) < (n : Int) := by omega
            have i2 : (k : Int) < (p : Int) := by omega
            clear hc1 hc2 hl hm
            by_cases he : ix l k = ix m k
            · have g1 : (ix l k == ix m k) = true := by simpa using he
              have HE := Lib.hid he
              clear he
              go_wp2
              go_quiet (fail)
              go_wp2
              go_roundw
              case rel =>
                refine ⟨k + 1, by go_num, by omega, by omega, fun i hi => ?_, _, by first | rfl | exact drewN_drewN _ _ _⟩
                by_cases h : i = k
                · rw [h]; exact HE.out
                · exact HS.out i (by omega)
              case measure => simp [intOf]; omega
            · have g1 : (ix l k == ix m k) = false := by simpa using he
              have HE := Lib.hid he
              clear he
              go_wp2
              go_quiet (fail)
              go_wp2
              go_meet
              exact ⟨k, rfl, by omega, by omega, Lib.hid ⟨by rw [HN.out]; omega, by rw [HP.out]; omega, HS.out, .inr (.inr HE.out)⟩, _, by first | rfl | exact drewN_drewN _ _ _⟩
          · have i01 : decide (k < p) = false := by simp; omega
            go_wp2
            go_quiet (fail)
            go_wp2
            go_meet
            exact ⟨k, rfl, by omega, by omega, Lib.hid ⟨by rw [HN.out]; omega, by rw [HP.out]; omega, HS.out, by rw [HN.out, HP.out]; omega⟩, _, by first | rfl | exact drewN_drewN _ _ _⟩
        · have i0 : decide (k < n) = false := by simp; omega
          go_wp2
          go_quiet (fail)
          go_wp2
          go_meet
          exact ⟨k, rfl, by omega, by omega, Lib.hid ⟨by rw [HN.out]; omega, by rw [HP.out]; omega, HS.out, by rw [HN.out, HP.out]; omega⟩, _, by first | rfl | exact drewN_drewN _ _ _⟩
    obtain ⟨k, rfl, hk, hk2, HPR, q, rfl⟩ := hcut
    go_upto_block 2 with fail
    go_cut [6, 7] (fun u v wx => ∃ j : Nat, u = .int .i64 ((n - j : Nat) : Int) ∧ v = .int .i64 ((p - j : Nat) : Int) ∧ j + k ≤ n ∧ j + k ≤ p ∧ Hid (SufP l m k j) ∧ ∃ q, wx = w.drewN q)
    case first =>
      go_wp2
      go_loopw [6, 7] (fun u v wr => ∃ j : Nat, u = .int .i64 ((n - j : Nat) : Int) ∧ v = .int .i64 ((p - j : Nat) : Int) ∧ j + k ≤ n ∧ j + k ≤ p ∧ (∀ i, i < j → ix l (l.length - 1 - i) = ix m (m.length - 1 - i)) ∧ ∃ q, wr = w.drewN q) (fun u _ _ => (intOf u).toNat)
      case atStart => exact ⟨0, rfl, rfl, by omega, by omega, fun i hi => by omega, q, rfl⟩
      case round =>
        obtain ⟨j, rfl, rfl, hj, hj2, hsame, q, rfl⟩ := hrel
        have HS := Lib.hid hsame
        clear hsame
        obtain ⟨A, hA⟩ : ∃ A, n - j = A := ⟨_, rfl⟩
        obtain ⟨B, hB⟩ : ∃ B, p - j = B := ⟨_, rfl⟩
        rw [hA, hB]
        have HA := Lib.hid hA
        have HB := Lib.hid hB
        have a1 : A + j ≤ n ∧ n ≤ A + j := by omega
        have b1' : B + j ≤ p ∧ p ≤ B + j := by omega
        clear hA hB
        by_cases hlt : k < A
        · have i0 : decide (k < A) = true := by simp; omega
          by_cases hlt2 : k < B
          · have i01 : decide (k < B) = true := by simp; omega
            obtain ⟨b1, o1, rfl, hc1⟩ := hl.at (k := A - 1) (by rw [HN.out]; omega)
            obtain ⟨b2, o2, rfl, hc2⟩ := hm.at (k := B - 1) (by rw [HP.out]; omega)
            have c1 := hc1 (A - 1) (by rw [HN.out]; omega)
            have c2 := hc2 (B - 1) (by rw [HP.out]; omega)
            have i1 : (A : Int) - 1 < (n : Int) := by omega
            have i2 : (B : Int) - 1 < (p : Int) := by omega
            have i3 : (0 : Int) ≤ (A : Int) - 1 := by omega
            have i4 : (0 : Int) ≤ (B : Int) - 1 := by omega
            have i5 : ((A : Int) - 1).toNat = A - 1 := by omega
            have i6 : ((B : Int) - 1).toNat = B - 1 := by omega
            have iw2 : IntKind.i64.wrap ((A : Int) - 1) = (A : Int) - 1 := IntWalk.i64_in _ (by omega)
            have iw3 : IntKind.i64.wrap ((B : Int) - 1) = (B : Int) - 1 := IntWalk.i64_in _ (by omega)
            have e1 : A - 1 = l.length - 1 - j := by rw [HN.out]; omega
            have e2 : B - 1 = m.length - 1 - j := by rw [HP.out]; omega
            have E1 := Lib.hid e1
            have E2 := Lib.hid e2
            clear hc1 hc2 hl hm e1 e2
            by_cases he : ix l (A - 1) = ix m (B - 1)
            · have g1 : (ix l (A - 1) == ix m (B - 1)) = true := by simpa using he
              have HE := Lib.hid he
              clear he
              go_wp2
              go_quiet (fail)
              clear iw2 iw3 i5 i6
              go_wp2
              go_roundw
              case rel =>
                refine ⟨j + 1, by rw [show n - (j + 1) = A - 1 from by omega]; go_num, by rw [show p - (j + 1) = B - 1 from by omega]; go_num, by omega, by omega, fun i hi => ?_, _, by first | rfl | exact drewN_drewN _ _ _⟩
                by_cases h : i = j
                · rw [h, ← E1.out, ← E2.out]; exact HE.out
                · exact HS.out i (by omega)
              case measure => simp [intOf]; omega
            · have g1 : (ix l (A - 1) == ix m (B - 1)) = false := by simpa using he
              have HE := Lib.hid he
              clear he
              go_wp2
              go_quiet (fail)
              clear iw2 iw3 i5 i6
              go_wp2
              go_meet
              exact ⟨j, by rw [HA.out], by rw [HB.out], by omega, by omega, Lib.hid ⟨by rw [HN.out]; omega, by rw [HP.out]; omega, HS.out, .inr (.inr (by rw [← E1.out, ← E2.out]; exact HE.out))⟩, _, by first | rfl | exact drewN_drewN _ _ _⟩
          · have i01 : decide (k < B) = false := by simp; omega
            go_wp2
            go_quiet (fail)
            go_wp2
            go_meet
            exact ⟨j, by rw [HA.out], by rw [HB.out], by omega, by omega, Lib.hid ⟨by rw [HN.out]; omega, by rw [HP.out]; omega, HS.out, by rw [HN.out, HP.out]; omega⟩, _, by first | rfl | exact drewN_drewN _ _ _⟩
        · have i0 : decide (k < A) = false := by simp; omega
          go_wp2
          go_quiet (fail)
          go_wp2
          go_meet
          exact ⟨j, by rw [HA.out], by rw [HB.out], by omega, by omega, Lib.hid ⟨by rw [HN.out]; omega, by rw [HP.out]; omega, HS.out, by rw [HN.out, HP.out]; omega⟩, _, by first | rfl | exact drewN_drewN _ _ _⟩
    obtain ⟨j, rfl, rfl, hj, hj2, HSU, q, rfl⟩ := hcut
    have hcr := cut_run ma p mc k (p - j) (by omega) (by omega)
    have hcut2 := (hm.drewN q).cutTo (c := mc) k (p - j) (by rw [HP.out]; omega) (by omega) (by rw [HP.out]; omega)
    have HCL := Lib.hid (show ((m.take (p - j)).drop k).length = p - j - k by rw [List.length_drop, List.length_take, HP.out]; omega)
    have HC0 := Lib.hid (show cutA ma mc k = none → p - j - k = 0 from fun h => by have := H0.out (cutA_none h); omega)
    clear H0
    have hfin : ∀ a8 n8 c8 w8, Own 3 (w.drewN q).heap.size w8 (.slice a8 n8 c8) ((m.take (p - j)).drop k) → Below (w.drewN q).heap.size (w.drewN q) w8 →
        BtRPost l m w (.returned (.slice (some ⟨w8.heap.size, 0, none⟩) 1 1)) (w8.alloc (.cells #[.int .i64 (k : Int), .int .i64 ((n - j : Nat) : Int), .slice a8 n8 c8] 127)) := by
      intro a8 n8 c8 w8 o8 hb8
      have hb9 : Below w.heap.size w w8 := below_then (below_drewN (Below.refl _ _) q) (Nat.le_refl _) hb8
      have hs := sown_one (w := w8) (base := w.heap.size) (u := ⟨(k : Int), ((n - j : Nat) : Int), a8, n8, c8⟩) (p := ⟨(k : Int), ((n - j : Nat) : Int), (m.take (p - j)).drop k⟩) hb9.size ⟨rfl, rfl, o8⟩
      exact ⟨_, _, _, rfl, hs, .inr ⟨HNE.out, k, j, HPR.out, HSU.out, by rw [HN.out, HP.out]⟩, hb9.alloc hb9.size _⟩
    have HF := Lib.hid hfin
    clear hfin
    go_wp2_with (go_at_call 88; refine (slices_clone (cutA ma mc k) (p - j - k) (mc - k) ((m.take (p - j)).drop k) _ hcut2 HCL.out (by omega) HC0.out).mono ?_; rintro e w8 ⟨v8, rfl, o8, hb8⟩; obtain ⟨a8, n8, c8, rfl⟩ := o8.form)
    go_ret
    exact HF.out a8 n8 c8 w8 o8 hb8

end Go.Proofs.Ytbgbcmfgncneiaa
