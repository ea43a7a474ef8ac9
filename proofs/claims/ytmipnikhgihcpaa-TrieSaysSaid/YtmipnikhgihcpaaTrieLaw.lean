/- The walk of TrieSays. -/
import Derived.Test.YtmipnikhgihcpaaTrieL
import Derived.Test.YtmipnikhgihcpaaTrieF
import Derived.Test.YtmipnikhgihcpaaTrieI
import Derived.Test.YtmipnikhgihcpaaTrieC
import Derived.Test.YtmipnikhgihcpaaWErr
import Derived.Test.YtmipnikhgihcpaaTrieM
namespace Go.Proofs.Ytmipnikhgihcpaa
open Go.RowKit
set_option linter.unusedVariables false
set_option linter.unusedSimpArgs false

theorem bad_err (X : List (List Int)) : wordsE X = if badT X = true then 2 else 0 := by
  unfold wordsE badT longW
  by_cases h : 100 < X.length <;> by_cases g : (X.any fun l => decide (24 < l.length)) = true <;> simp [h, g]

set_option maxRecDepth 100000 in
theorem trie_bad (lv : Value) (a : Option Addr) (m c : Nat) (most : Int) (w : World)
    (hN : ∀ w1, Below w.heap.size w w1 → Calls Try.prog 73 #[lv] w1 (fun e w' => e = .returned (.tuple #[.pointer none, .int .i64 2]) ∧ w1 = w'))
    (hW : ∀ w1, Below w.heap.size w w1 → Calls Try.prog 66 #[lv] w1 (fun e w' => e = .returned (.int .i64 2) ∧ ∃ n, w' = w1.drewN n)) :
    Calls Try.prog 11 #[lv, .slice a m c, .int .i64 most] w fun e w' => e = .returned (.bool true) ∧ Below w.heap.size w w' := by
  have hb := below1 w (.cells #[.slice a m c] 22)
  have HN := Lib.hid (hN _ hb); have HW := Lib.hid (hW _ hb)
  clear hN hW
  go_enter Try.func11, Try.ntmps11
  go_wp2_with (first | (go_at_call 73; go_loud (refine (HN.out).mono ?_; rintro e w1 ⟨rfl, rfl⟩)) | (go_at_call 66; go_loud (refine (HW.out).mono ?_; rintro e w2 ⟨rfl, q, rfl⟩)))
  go_ret
  exact ⟨rfl, below_drewN hb _⟩

set_option maxRecDepth 100000 in
set_option maxHeartbeats 8000000 in
theorem trie_good (la : Option Addr) (ln lc : Nat) (vs : List Value) (X : List (List Int)) (a : Option Addr) (m c : Nat) (p : List Int) (most : Int) (w : World) (hV : Vs w (.slice la ln lc) vs) (hL : Lists w vs X) (hT : Sl w (.slice a m c) p) (hb : badT X = false) (hmo : InR most) :
    Calls Try.prog 11 #[.slice la ln lc, .slice a m c, .int .i64 most] w fun e w' => e = .returned (.bool true) ∧ Below w.heap.size w w' := by
  obtain ⟨hm, hmc, hc, ha, ha0⟩ := hT.get
  obtain ⟨hmo1, hmo2⟩ := hmo
  have h100 : X.length ≤ 100 := by
    unfold badT at hb
    simp only [Bool.or_eq_false_iff, decide_eq_false_iff_not] at hb
    omega
  have hB0 := Blk.new w #[.slice a m c] 22
  have hbw := below1 w (.cells #[.slice a m c] 22)
  have HN := Lib.hid (trie_new (.slice la ln lc) vs X _ (hV.below hbw) (hL.below hbw) hb)
  have HW := Lib.hid (fun w1 (h1 : Below w.heap.size w w1) => show Calls Try.prog 66 #[.slice la ln lc] w1 (fun e w' => e = .returned (.int .i64 0) ∧ ∃ n, w' = w1.drewN n) from by
    have := ref_wordsErr (.slice la ln lc) vs X w1 (hV.below h1) (hL.below h1)
    rwa [bad_err, if_neg (by rw [hb]; simp)] at this)
  have HV := Lib.hid hV; have HL := Lib.hid hL; have HT := Lib.hid hT; have HM := Lib.hid hm; have HA := Lib.hid ha; have HA0 := Lib.hid ha0; have HBW := Lib.hid hbw; have HB0 := Lib.hid hB0; have HX := Lib.hid h100
  clear hV hL hT hb hm ha ha0 hbw hB0
  go_enter Try.func11, Try.ntmps11
  go_upto_region 7 with (first | (go_at_call 73; go_loud (refine (HN.out).mono ?_; rintro e w1 ⟨A, B, M, rfl, hI, hH, hb1, hA, hP⟩; have HB1 := Lib.hid hb1; have HI := Lib.hid hI; have HH := Lib.hid hH; have HAL := Lib.hid hA; have HP := Lib.hid hP; clear hI hH hA hP hb1)) | (go_at_call 66; go_loud (refine (HW.out w1 (HBW.out.trans (HB1.out.mono HBW.out.size))).mono ?_; rintro e w2 ⟨rfl, q, rfl⟩)))
  have hb2 : Below w1.heap.size w1 (w1.drewN q) := below_drewN (Below.refl _ _) q
  have hc1 : w1.cell? ⟨w.heap.size, 0, none⟩ = some (.slice a m c) := by
    have h := Blk.cell (HB0.out.below HB1.out HB0.out.lt) 0
    simpa using h
  generalize w1.drewN q = w2 at *
  have HBX := Lib.hid hb2; have HC1 := Lib.hid hc1
  have HBA := Lib.hid (fun wx (hx : Below w1.heap.size w1 wx) => show Below w.heap.size w wx from HBW.out.trans ((HB1.out.trans (hx.mono HB1.out.size)).mono HBW.out.size))
  have HPA := Lib.hid (fun wx (hx : Below w1.heap.size w1 wx) => show Ints wx a p from HA.out.below (HBA.out wx hx))
  have HCX := Lib.hid (fun wx (hx : Below w1.heap.size w1 wx) => show wx.cell? ⟨w.heap.size, 0, none⟩ = some (.slice a m c) from below_keeps hx _ _ HC1.out)
  have hSn := setS_nodup (X := X) (S := []) List.nodup_nil
  have hSl : (setS [] X).length ≤ 1000 := by
    have := setS_len X []
    have := HX.out
    simp at *; omega
  have HST := Lib.hid (ref_set (.slice la ln lc) vs X w2 (HV.out.below (HBA.out w2 HBX.out)) (HL.out.below (HBA.out w2 HBX.out)) (by have := HX.out; omega))
  unfold setL at HST
  generalize setS [] X = S at *
  have HSN := Lib.hid hSn
  have hsl1 : (sortL S).length ≤ 1000 := by rw [sortL_len]; exact hSl
  clear hb2 hc1 hSn HN HW HV HL HT HX HB0
  go_upto_region 8 with (go_at_call 74; go_loud (refine (HST.out).mono ?_; rintro e w3 ⟨v3, us3, rfl, ho3, hl3, hb3⟩))
  have HB3 := Lib.hid (HBX.out.trans (hb3.mono HBX.out.size))
  have c3 := HCX.out w3 HB3.out
  have HBG := Lib.hid (ref_begun v3 us3 (sortL S) a m c p w3 ho3.vs hl3 (by omega) (HPA.out w3 HB3.out) HM.out (by omega))
  have HO3 := Lib.hid ho3; have HL3 := Lib.hid hl3
  clear ho3 hl3 hb3 HST HBX
  go_upto_region 9 with (go_at_call 75; go_loud (refine (HBG.out).mono ?_; rintro e w4 ⟨v4, us4, rfl, ho4, hl4, hb4⟩))
  have hl4b : Lists w4 us4 (begS S p) := hl4
  have HB4 := Lib.hid (HB3.out.trans (hb4.mono HB3.out.size))
  have HCF := Lib.hid (trie_contains v3 us3 (sortL S) a m c w.heap.size p w4 (HO3.out.vs.below hb4) (HL3.out.below hb4) (HPA.out w4 HB4.out) HM.out (HCX.out w4 HB4.out))
  rw [show decide (p ∈ sortL S) = inS S p from by unfold inS; rw [decide_eq_decide]; exact sortL_mem] at HCF
  have HO4 := Lib.hid ho4; have HL4 := Lib.hid hl4b
  clear c3 ho4 hl4 hl4b hb4 HO3 HL3 HBG HB3
  go_upto_region 10 with (go_at_call 55; go_loud (refine (HCF.out).mono ?_; rintro e w5 ⟨rfl, hb5⟩))
  have HB5 := Lib.hid (HB4.out.trans (hb5.mono HB4.out.size))
  have c5 := HCX.out w5 HB5.out
  obtain ⟨ba, bn, bc, rfl⟩ := HO4.out.form
  have HV5 := Lib.hid (HO4.out.vs.below hb5); have HL5 := Lib.hid (HL4.out.below hb5)
  have hcb := HV5.out.get.2.2.1
  have hbn : bn = cnt S p := by rw [← begS_len, ← HL5.out.len]; exact HV5.out.get.1.symm
  have HBN := Lib.hid hbn
  have hcl := cnt_le S p
  clear hb5 HCF HO4 HL4 HB4 hbn
  by_cases h0 : cnt S p = 0
  · have HMO := Lib.hid (trie_more_none _ A S B M HI.out a m c p w5 (HH.out.kept HB5.out) (HPA.out w5 HB5.out) HM.out hmc hc h0)
    obtain rfl : bn = 0 := by have := HBN.out; omega
    clear h0 hcl
    go_upto_region 16 with (go_at_call 77; go_loud (refine (HMO.out).mono ?_; rintro e w6 ⟨rfl, rfl⟩))
    refine trie_r16 _ _ 0 bc m c (min most.toNat 0) ba a most (inS S p) A S B M p us4 w5 HI.out (HH.out.kept HB5.out) HSN.out hSl HAL.out (HPA.out _ HB5.out) HM.out hmc hc HA0.out hmo1 hmo2 c5 HV5.out HL5.out rfl rfl (Nat.min_le_right _ _) ?_
    intro _ _ _ _ _ _ _ _ _ _ _ _ _ _ _ _ _ _ _ _ _ _ _ _ _ _ _ w9 hb9
    dsimp only [Exit.then]
    go_wp2
    go_ret
    exact ⟨rfl, HBA.out w9 (HB5.out.trans (hb9.mono HB5.out.size))⟩
  · have HMO := Lib.hid (trie_more _ A S B M HI.out a m c p w5 (HH.out.kept HB5.out) (HPA.out w5 HB5.out) HM.out hmc hc (by omega))
    have hbz : ((bn : Int) == 0) = false := by have := HBN.out; simpa using (by omega : ¬ bn = 0)
    have hbl : (begS S p).length = bn := by rw [begS_len]; exact HBN.out.symm
    have hb0 : 0 < (begS S p).length := by rw [begS_len]; omega
    have HB0L := Lib.hid hb0
    have hlong : ∀ i, i < (begS S p).length → (rx (begS S p) i).length ≤ 24 := fun i hi => HI.out.short _ (HI.out.sub _ (begS_pre hi).1)
    have hpl : m ≤ (rx (begS S p) 0).length := by
      rw [← HM.out]
      exact (begS_pre hb0).2.length_le
    have HPL := Lib.hid hpl; have HLO := Lib.hid hlong
    clear h0 hcl hbl hb0 hlong hpl
    go_upto_region 11 with (go_at_call 77; go_loud (refine (HMO.out).mono ?_; rintro e w6 ⟨v6, out, rfl, hmt, ho6, hb6⟩))
    have HB6 := Lib.hid (HB5.out.trans (hb6.mono HB5.out.size))
    have c6 := HCX.out w6 HB6.out
    have HV6 := Lib.hid (HV5.out.below hb6); have HL6 := Lib.hid (HL5.out.below hb6)
    have HRM := Lib.hid (ref_more (.slice ba bn bc) us4 (begS S p) m w6 HV6.out HL6.out HB0L.out HPL.out (fun i hi => by have := HLO.out i hi; omega))
    have HMT := Lib.hid hmt
    obtain ⟨a6, n6, c6', rfl⟩ := ho6.form
    have hn6 := ho6.get.1
    have hn6c := ho6.get.2.2
    have HO6 := Lib.hid ho6; have HN6 := Lib.hid hn6
    clear hmt ho6 hn6 hb6 HMO HV5 HL5 c5
    go_upto_region 16 with (first | (go_at_call 78; go_loud (refine (HRM.out).mono ?_; rintro e w7 ⟨k, v7, rfl, hk7, hs7, hb7⟩; have hone := (more_one HI.out HP.out HMT.out HB0L.out (by rw [HM.out]; exact hk7)); rw [HM.out] at hone; rw [hone] at hs7; obtain ⟨a7, n7, c7, rfl, g1, g2, g3, g4, g5⟩ := hs7; have HO7 := Lib.hid (HO6.out.kept hb7); have HG1 := Lib.hid g1; have HG4 := Lib.hid g4; have HB7 := Lib.hid hb7; clear hk7 hone g1 g4 g5 hb7)) | (go_at_call 22; go_loud (refine (slices_same a6 a7 n6 n7 c6' c7 out _ HO7.out.get.2.1 HG4.out HN6.out HG1.out (by have := HN6.out; have := HG1.out; omega)).mono ?_; rintro e w8 ⟨rfl, q8, rfl⟩)))
    have HB8 := Lib.hid (below_drewN (HB6.out.trans (HB7.out.mono HB6.out.size)) q8)
    have hb68 : Below w6.heap.size w6 (w7.drewN q8) := below_drewN HB7.out q8
    have c8 := HCX.out _ HB8.out
    refine trie_r16 _ _ bn bc m c (min most.toNat bn) ba a most (inS S p) A S B M p us4 (w7.drewN q8) HI.out (HH.out.kept HB8.out) HSN.out hSl HAL.out (HPA.out _ HB8.out) HM.out hmc hc HA0.out hmo1 hmo2 c8 (HV6.out.below hb68) (HL6.out.below hb68) rfl rfl (Nat.min_le_right _ _) ?_
    intro _ _ _ _ _ _ _ _ _ _ _ _ _ _ _ _ _ _ _ _ _ _ _ _ _ _ _ w9 hb9
    dsimp only [Exit.then]
    go_wp2
    go_ret
    exact ⟨rfl, HBA.out w9 (HB8.out.trans (hb9.mono HB8.out.size))⟩

theorem trieSays_walk (lv : Value) (vs : List Value) (X : List (List Int)) (a : Option Addr) (m c : Nat) (p : List Int) (most : Int) (w : World) (hV : Vs w lv vs) (hL : Lists w vs X) (hT : Sl w (.slice a m c) p) (hmo : InR most) :
    Calls Try.prog 11 #[lv, .slice a m c, .int .i64 most] w fun e w' => e = .returned (.bool true) ∧ Below w.heap.size w w' := by
  by_cases hb : badT X = true
  · refine trie_bad lv a m c most w (fun w1 h1 => trie_new_bad lv vs X w1 (hV.below h1) (hL.below h1) hb) (fun w1 h1 => ?_)
    have := ref_wordsErr lv vs X w1 (hV.below h1) (hL.below h1)
    rwa [bad_err, if_pos hb] at this
  · have hV' := hV
    obtain ⟨la, ln, lc, rfl, -⟩ := hV'
    exact trie_good la ln lc vs X a m c p most w hV hL hT (by simpa using hb) hmo

end Go.Proofs.Ytmipnikhgihcpaa
