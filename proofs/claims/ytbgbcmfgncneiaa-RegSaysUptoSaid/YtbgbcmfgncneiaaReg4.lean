/- Contracts of fairref.RegPut, RegGet, SameRegs. -/
import Derived.Test.YtbgbcmfgncneiaaReg3
namespace Go.Proofs.Ytbgbcmfgncneiaa
open Go.RowKit
set_option linter.unusedVariables false
set_option linter.unusedSimpArgs false

set_option maxRecDepth 100000 in
set_option maxHeartbeats 1000000 in
theorem ref_put_key (vs : List Value) (name : Int) (tv : Value) (w : World) (hO : numO name = false) :
    Calls Try.prog 23 #[.agg (rgA vs), .int .i64 name, tv] w (PutPost nilX 9 w) := by
  have HO := Lib.hid (show regI name = -1 by rw [regI, hO]; rfl)
  clear hO
  have hal := alloc_regs
  have hbl := build_regs
  have hB1 := BlkR.new (w.alloc (.cells (rgA vs) 37)) nil27 37
  rw [World.size_alloc] at hB1
  have hacc := below2 w (.cells (rgA vs) 37) (.cells (rgA nil27) 37)
  go_enter Try.func23, Try.ntmps23
  go_wp2_with (first | (go_at_call 89; refine (ref_register _ _).mono ?_; rintro e w1 ⟨rfl, rfl⟩; rw [HO.out]) | (refine regs_store rfl _ _ rfl (w.heap.size + 1) rfl nil27 rfl nil27 _ hB1 nil27_len nil27_len slv_nil27 ?_; intro w2 hB2 hL2))
  exact bodyPost_ret (results_ct Try.results23 rfl (regs_loadVar hB2 nil27_len)) rfl ⟨nil27, rfl, rgs_nil _, hL2.bel (by omega) hacc⟩

set_option maxRecDepth 100000 in
set_option maxHeartbeats 2000000 in
theorem ref_put_new (vs : List Value) (X : List (List Int)) (name : Int) (j : Nat) (a : Option Addr) (n c : Nat) (t : List Int) (E : Int) (w : World) (h : Rgs w vs X) (hI : regI name = (j : Int)) (hj : j < 27) (hM : numM name = false)
    (ht : Ints w a t) (hn : t.length = n) (hc : n ≤ c) (hc2 : c ≤ 9223372036854775807) (h0 : a = none → n = 0) (hE : E = if 200 < n then 2 else 0) :
    Calls Try.prog 23 #[.agg (rgA vs), .int .i64 name, .slice a n c] w (PutPost (if 200 < n then nilX else putX X j t) E w) := by
  have H := Lib.hid h; have HI := Lib.hid hI; have HM := Lib.hid hM; have HN := Lib.hid hn; have HA := Lib.hid h0
  clear h hI hM hn h0
  have hal := alloc_regs
  have hbl := build_regs
  have hB0 := (BlkR.new w vs 37).alloc (.cells (rgA nil27) 37)
  have hB1 := BlkR.new (w.alloc (.cells (rgA vs) 37)) nil27 37
  rw [World.size_alloc] at hB1
  have hacc := below2 w (.cells (rgA vs) 37) (.cells (rgA nil27) 37)
  have i0 : (j : Int) < 27 := by omega
  by_cases hl : 200 < n
  · rw [if_pos hl] at hE ⊢
    subst hE
    go_enter Try.func23, Try.ntmps23
    go_upto_region 1 with fail
    change Code.wp _ _ _ _ ((w.alloc (.cells (rgA vs) 37)).alloc (.cells (rgA nil27) 37))
    generalize (w.alloc (.cells (rgA vs) 37)).alloc (.cells (rgA nil27) 37) = w1 at *
    go_wp2_with (first | (go_at_call 89; refine (ref_register _ _).mono ?_; rintro e w1 ⟨rfl, rfl⟩; rw [HI.out, HM.out]) | (refine regs_store rfl _ _ rfl (w.heap.size + 1) rfl nil27 rfl nil27 _ hB1 nil27_len nil27_len slv_nil27 ?_; intro w2 hB2 hL2))
    exact bodyPost_ret (results_ct Try.results23 rfl (regs_loadVar hB2 nil27_len)) rfl ⟨nil27, rfl, rgs_nil _, hL2.bel (by omega) hacc⟩
  · rw [if_neg hl] at hE ⊢
    subst hE
    have hT := ht.below hacc
    have hsl : ∀ i, i < 27 → Sl ((w.alloc (.cells (rgA vs) 37)).alloc (.cells (rgA nil27) 37)) (vx vs i) (rx X i) := fun i hi => (H.out.sl i hi).below hacc
    have HSL := Lib.hid hsl; clear hsl
    have hkb : Below (w.heap.size + 2) ((w.alloc (.cells (rgA vs) 37)).alloc (.cells (rgA nil27) 37)) ((w.alloc (.cells (rgA vs) 37)).alloc (.cells (rgA nil27) 37)) := Below.refl _ _
    go_enter Try.func23, Try.ntmps23
    go_upto_region 1 with fail
    change Code.wp _ _ _ _ ((w.alloc (.cells (rgA vs) 37)).alloc (.cells (rgA nil27) 37))
    generalize (w.alloc (.cells (rgA vs) 37)).alloc (.cells (rgA nil27) 37) = w1 at *
    have f0 := hB0.free j
    have c0 := hB0.cell (i := j) (by rw [H.out.lv]; exact hj)
    have hB2 := hB0.set j (.slice a n c)
    have f2 := hB2.free 0
    have c2 := hB2.cell (i := 0) (by rw [List.length_set, H.out.lv]; omega)
    have hB3 := hB2.set 0 (.slice a n c)
    have HU := Lib.hid (show ((vs.set j (.slice a n c)).set 0 (.slice a n c)).length = 27 by rw [List.length_set, List.length_set, H.out.lv])
    have HS := Lib.hid (slv_put H.out.lv H.out.slv j a n c a n c)
    have hB1' := (hB1.other (a := ⟨w.heap.size, j, none⟩) (by simp) (.slice a n c)).other (a := ⟨w.heap.size, 0, none⟩) (by simp) (.slice a n c)
    have hbel := (hacc.setCell (p := ⟨w.heap.size, j, none⟩) (Nat.le_refl _) (.slice a n c)).setCell (p := ⟨w.heap.size, 0, none⟩) (Nat.le_refl _) (.slice a n c)
    go_wp2_with (first | (go_at_call 89; refine (ref_register _ _).mono ?_; rintro e w1 ⟨rfl, rfl⟩; rw [HI.out, HM.out]) | (refine regs_load rfl _ rfl w.heap.size rfl _ _ hB3 HU.out ?_) | (refine regs_store rfl _ _ rfl (w.heap.size + 1) rfl ((vs.set j (.slice a n c)).set 0 (.slice a n c)) rfl nil27 _ hB1' nil27_len HU.out HS.out ?_; intro w2 hB4 hL4))
    have hb := hL4.bel (by omega) hbel
    have hsl : Sl w2 (.slice a n c) t := ⟨a, n, c, rfl, HN.out, hc, hc2, ht.below hb, HA.out⟩
    refine bodyPost_ret (results_ct Try.results23 rfl (regs_loadVar hB4 HU.out)) rfl ⟨_, rfl, rgs_put H.out.lv H.out.lx hj (fun i hi hij => ?_) hsl hsl, hb⟩
    exact (H.out.sl i hi).below hb

set_option maxRecDepth 100000 in
set_option maxHeartbeats 2000000 in
theorem ref_put_more (vs : List Value) (X : List (List Int)) (name : Int) (j : Nat) (a : Option Addr) (n c : Nat) (t : List Int) (w : World) (h : Rgs w vs X) (hX : (rx X j).length ≤ 1048576) (hI : regI name = (j : Int)) (hj : j < 27) (hM : numM name = true)
    (ht : Ints w a t) (hn : t.length = n) (h0 : a = none → n = 0) (hn2 : n ≤ 1048576) :
    Calls Try.prog 23 #[.agg (rgA vs), .int .i64 name, .slice a n c] w (PutPost (if 200 < (rx X j).length + n then nilX else putX X j (rx X j ++ t)) (if 200 < (rx X j).length + n then 2 else 0) w) := by
  obtain ⟨a1, n1, c1, hv, hn1, hc1, hc2, hI1, h01⟩ := h.sl j hj
  rw [hn1] at hX ⊢
  have H := Lib.hid h; have HI := Lib.hid hI; have HM := Lib.hid hM; have HN := Lib.hid hn; have HA := Lib.hid h0; have HV := Lib.hid hv; have HN1 := Lib.hid hn1; have H01 := Lib.hid h01
  clear h hI hM hn h0 hv hn1 h01
  have hal := alloc_regs
  have hbl := build_regs
  have hB0 := (BlkR.new w vs 37).alloc (.cells (rgA nil27) 37)
  have hB1 := BlkR.new (w.alloc (.cells (rgA vs) 37)) nil27 37
  rw [World.size_alloc] at hB1
  have hacc := below2 w (.cells (rgA vs) 37) (.cells (rgA nil27) 37)
  have hsz : w.heap.size + 2 ≤ ((w.alloc (.cells (rgA vs) 37)).alloc (.cells (rgA nil27) 37)).heap.size := by simp
  have i0 : (j : Int) < 27 := by omega
  have c0 := hB0.cell (i := j) (by rw [H.out.lv]; exact hj)
  rw [HV.out] at c0
  have hT := ht.below hacc
  have hI2 := hI1.below hacc
  by_cases hl : 200 < n1 + n
  · rw [if_pos hl, if_pos hl]
    go_enter Try.func23, Try.ntmps23
    go_upto_region 1 with fail
    change Code.wp _ _ _ _ ((w.alloc (.cells (rgA vs) 37)).alloc (.cells (rgA nil27) 37))
    generalize (w.alloc (.cells (rgA vs) 37)).alloc (.cells (rgA nil27) 37) = w1 at *
    have hcat := catIn2 w1 35 c1 c hI2 hT HN1.out HN.out hX hn2 H01.out HA.out
    have hck := below1 w1 (.cells #[.slice a1 n1 c1, .slice a n c] 35)
    have hB1' := hB1.alloc (.cells #[.slice a1 n1 c1, .slice a n c] 35)
    have HCAT := Lib.hid hcat; clear hcat
    go_wp2_with (first | (go_at_call 89; refine (ref_register _ _).mono ?_; rintro e w1 ⟨rfl, rfl⟩; rw [HI.out, HM.out]) | ((go_at_call 90); refine (slices_concat _ 2 _ _ _ _ _ HCAT.out (by omega)).mono ?_; rintro e w8 ⟨v8, rfl, o8, hb8⟩; obtain ⟨a8, n8, c8, rfl⟩ := o8.form; have L8 := o8.get.1; rw [joinX2, List.length_append, HN1.out, HN.out] at L8; have l8 : 200 < n8 := (by omega); clear L8; have hB1'' := hB1'.below hb8 (by simp; omega)) | (refine regs_store rfl _ _ rfl (w.heap.size + 1) rfl nil27 rfl nil27 _ hB1'' nil27_len nil27_len slv_nil27 ?_; intro w2 hB2 hL2))
    all_goals
      exact bodyPost_ret (results_ct Try.results23 rfl (regs_loadVar hB2 nil27_len)) rfl ⟨nil27, rfl, rgs_nil _, hL2.bel (by omega) (below_then (below_then hacc (by omega) hck) (by simp; omega) hb8)⟩
  · rw [if_neg hl, if_neg hl]
    go_enter Try.func23, Try.ntmps23
    go_upto_region 1 with fail
    change Code.wp _ _ _ _ ((w.alloc (.cells (rgA vs) 37)).alloc (.cells (rgA nil27) 37))
    generalize (w.alloc (.cells (rgA vs) 37)).alloc (.cells (rgA nil27) 37) = w1 at *
    have hcat := catIn2 w1 35 c1 c hI2 hT HN1.out HN.out hX hn2 H01.out HA.out
    have hck := below1 w1 (.cells #[.slice a1 n1 c1, .slice a n c] 35)
    have hB0' := hB0.alloc (.cells #[.slice a1 n1 c1, .slice a n c] 35)
    have hB1' := hB1.alloc (.cells #[.slice a1 n1 c1, .slice a n c] 35)
    have HCAT := Lib.hid hcat; clear hcat
    have hl200 : ¬ 200 < n := by omega
    go_wp2_with (first | (go_at_call 89; refine (ref_register _ _).mono ?_; rintro e w1 ⟨rfl, rfl⟩; rw [HI.out, HM.out]) | ((go_at_call 90); refine (slices_concat _ 2 _ _ _ _ _ HCAT.out (by omega)).mono ?_; rintro e w8 ⟨v8, rfl, o8, hb8⟩; obtain ⟨a8, n8, c8, rfl⟩ := o8.form; have L8 := o8.get.1; rw [joinX2] at o8 L8; rw [List.length_append, HN1.out, HN.out] at L8; have l8 : n8 ≤ 200 := (by omega); clear L8; have hB1'' := (hB1'.below hb8 (by simp; omega)).other (a := ⟨w.heap.size, j, none⟩) (by simp) (.slice a8 n8 c8); have hB1x := hB1''.other (a := ⟨w.heap.size, 0, none⟩) (by simp) (.slice a8 n8 c8); have hB2 := hB0'.below hb8 (by simp; omega); have f2 := hB2.free j; have d2 := hB2.cell (i := j) (by rw [H.out.lv]; exact hj); have hB3 := hB2.set j (.slice a8 n8 c8); have f3 := hB3.free 0; have d3 := hB3.cell (i := 0) (by rw [List.length_set, H.out.lv]; omega); have hB4 := hB3.set 0 (.slice a8 n8 c8); have HU := Lib.hid (show ((vs.set j (.slice a8 n8 c8)).set 0 (.slice a8 n8 c8)).length = 27 by rw [List.length_set, List.length_set, H.out.lv]); have HS := Lib.hid (slv_put H.out.lv H.out.slv j a8 n8 c8 a8 n8 c8)) | (refine regs_load rfl _ rfl w.heap.size rfl _ _ hB4 HU.out ?_) | (refine regs_store rfl _ _ rfl (w.heap.size + 1) rfl ((vs.set j (.slice a8 n8 c8)).set 0 (.slice a8 n8 c8)) rfl nil27 _ hB1x nil27_len HU.out HS.out ?_; intro w5 hB5 hL5))
    have hb := hL5.bel (by omega) (((below_then (below_then hacc (by omega) hck) (by simp; omega) hb8).setCell (p := ⟨w.heap.size, j, none⟩) (Nat.le_refl _) (.slice a8 n8 c8)).setCell (p := ⟨w.heap.size, 0, none⟩) (Nat.le_refl _) (.slice a8 n8 c8))
    have hs0 : w1.heap.size < (w1.alloc (.cells #[.slice a1 n1 c1, .slice a n c] 35)).heap.size := by simp
    have hs1 := (hB2.put o8 (by decide) j (.slice a8 n8 c8))
    have hs2 := ((hB3.put hs1 (by decide) 0 (.slice a8 n8 c8)).left hL5 (by omega)).sl
    refine bodyPost_ret (results_ct Try.results23 rfl (regs_loadVar hB5 HU.out)) rfl ⟨_, rfl, rgs_put H.out.lv H.out.lx hj (fun i hi hij => ?_) hs2 hs2, hb⟩
    exact (H.out.sl i hi).below hb

theorem ref_get_key (vs : List Value) (name : Int) (w : World) (hO : numO name = false) :
    Calls Try.prog 25 #[.agg (rgA vs), .int .i64 name] w (GetVPost [] 9 w) := by
  have HO := Lib.hid (show regI name = -1 by rw [regI, hO]; rfl)
  clear hO
  go_enter Try.func25, Try.ntmps25
  go_wp2_with (first | (go_at_call 89; refine (ref_register _ _).mono ?_; rintro e w1 ⟨rfl, rfl⟩; rw [HO.out]))
  go_ret2
  exact ⟨_, rfl, Sl.nil _, below1 _ _⟩

theorem ref_get_in (vs : List Value) (X : List (List Int)) (name : Int) (j : Nat) (w : World) (h : Rgs w vs X) (hI : regI name = (j : Int)) (hj : j < 27) :
    Calls Try.prog 25 #[.agg (rgA vs), .int .i64 name] w (GetVPost (rx X j) (regE (rx X j)) w) := by
  have hsl := h.sl j hj
  obtain ⟨a1, n1, c1, hv, hn1, hc1, hc2, hI1, h01⟩ := h.sl j hj
  have HI := Lib.hid hI; have HV := Lib.hid hv; have HN1 := Lib.hid hn1; have HLV := Lib.hid h.lv
  have hB0 := BlkR.new w vs 37
  have c0 := hB0.cell (i := j) (by rw [HLV.out]; exact hj)
  rw [HV.out] at c0 hsl
  have hacc := below1 w (.cells (rgA vs) 37)
  have i0 : (j : Int) < 27 := by omega
  have hs2 := hsl.below hacc
  clear h hI hv h01 hn1 hI1 hsl
  by_cases hz : n1 = 0
  · have hnil : rx X j = [] := List.eq_nil_of_length_eq_zero (by rw [HN1.out]; exact hz)
    subst hz
    have hE : regE (rx X j) = 6 := by rw [hnil]; rfl
    have HNIL := Lib.hid hnil; have HE := Lib.hid hE; clear hnil hE
    go_enter Try.func25, Try.ntmps25
    go_wp2_with (first | (go_at_call 89; refine (ref_register _ _).mono ?_; rintro e w1 ⟨rfl, rfl⟩; rw [HI.out]))
    go_ret2
    rw [HE.out, HNIL.out]
    exact ⟨_, rfl, Sl.nil _, hacc⟩
  · have hz' : ((n1 : Int) == 0) = false := by simp; omega
    have hnil : rx X j ≠ [] := fun h => hz (by rw [← HN1.out, h]; rfl)
    have hE : regE (rx X j) = 0 := if_neg hnil
    have HE := Lib.hid hE; clear hnil hz hE
    go_enter Try.func25, Try.ntmps25
    go_wp2_with (first | (go_at_call 89; refine (ref_register _ _).mono ?_; rintro e w1 ⟨rfl, rfl⟩; rw [HI.out]))
    go_ret2
    rw [HE.out]
    exact ⟨_, rfl, hs2, hacc⟩

set_option maxRecDepth 100000 in
set_option maxHeartbeats 1000000 in
/-- two sets of registers that read alike -/
theorem ref_same_regs (us vs : List Value) (X : List (List Int)) (w : World) (hu : Rgs w us X) (hv : Rgs w vs X) :
    Calls Try.prog 26 #[.agg (rgA us), .agg (rgA vs)] w fun e w' => e = .returned (.bool true) ∧ Below w.heap.size w w' := by
  have hB0 := (BlkR.new w us 37).alloc (.cells (rgA vs) 37)
  have hB1 := BlkR.new (w.alloc (.cells (rgA us) 37)) vs 37
  rw [World.size_alloc] at hB1
  have hacc := below2 w (.cells (rgA us) 37) (.cells (rgA vs) 37)
  have HU := Lib.hid (hu.below hacc); have HV := Lib.hid (hv.below hacc)
  clear hu hv
  go_enter Try.func26, Try.ntmps26
  go_upto_region 1 with fail
  change Code.wp _ _ _ _ ((w.alloc (.cells (rgA us) 37)).alloc (.cells (rgA vs) 37))
  generalize (w.alloc (.cells (rgA us) 37)).alloc (.cells (rgA vs) 37) = w1 at *
  go_wp2
  go_loopw [6] (fun i wr => ∃ k : Nat, i = .int .i64 (k : Int) ∧ k ≤ 27 ∧ BlkR wr w.heap.size us 37 ∧ BlkR wr (w.heap.size + 1) vs 37 ∧ Rgs wr us X ∧ Rgs wr vs X ∧ Below w.heap.size w wr) (fun i _ => 27 - (intOf i).toNat)
  case atStart => exact ⟨0, rfl, by omega, hB0, hB1, HU.out, HV.out, hacc⟩
  case round =>
    obtain ⟨k, rfl, hk, hB0, hB1, hu, hv, hbel⟩ := hrel
    have HU := Lib.hid hu; have HV := Lib.hid hv
    clear hu hv
    by_cases hlt : k < 27
    · obtain ⟨a1, n1, c1, hv1, hn1, hc1, hc12, hI1, h01⟩ := HU.out.sl k hlt
      obtain ⟨a2, n2, c2, hv2, hn2, hc2, hc22, hI2, h02⟩ := HV.out.sl k hlt
      have c0 := hB0.cell (i := k) (by rw [HU.out.lv]; exact hlt)
      have c1' := hB1.cell (i := k) (by rw [HV.out.lv]; exact hlt)
      rw [hv1] at c0
      rw [hv2] at c1'
      have HN1 := Lib.hid hn1; have HN2 := Lib.hid hn2
      have i0 : (k : Int) < 27 := by omega
      clear hv1 hv2 hn1 hn2 h01 h02
      go_wp2
      go_quiet ((go_at_call 27; exact Calls.quiet_of (slices_same a1 a2 n1 n2 c1 c2 (rx X k) _ (hI1.drewN _) (hI2.drewN _) HN1.out HN2.out (by omega))))
      go_wp2
      go_roundw
      case rel => exact ⟨k + 1, by go_num, by omega, hB0.drewN _, hB1.drewN _, HU.out.drewN _, HV.out.drewN _, below_drewN hbel _⟩
      case measure => simp [intOf]; omega
    · obtain rfl : k = 27 := by omega
      go_wp2
      go_ret
      exact ⟨rfl, hbel⟩

end Go.Proofs.Ytbgbcmfgncneiaa
