/- Contracts of reg.Put, reg.Get. -/
import Derived.Test.YtbgbcmfgncneiaaReg1
namespace Go.Proofs.Ytbgbcmfgncneiaa
open Go.RowKit
set_option linter.unusedVariables false
set_option linter.unusedSimpArgs false

/-- what a Put leaves: registers that read as Y, an error -/
def PutPost (Y : List (List Int)) (E : Int) (w : World) (e : Ending) (w' : World) : Prop := ∃ vs, e = .returned (.tuple #[.agg (rgA vs), .int .i64 E]) ∧ Rgs w' vs Y ∧ Below w.heap.size w w'

set_option maxRecDepth 100000 in
set_option maxHeartbeats 1000000 in
theorem reg_put_key (vs : List Value) (X : List (List Int)) (name : Int) (tv : Value) (w : World) (hO : numO name = false) :
    Calls Try.prog 22 #[.agg (rgA vs), .int .i64 name, tv] w (PutPost nilX 9 w) := by
  have HO := Lib.hid hO
  clear hO
  have hal := alloc_regs
  have hbl := build_regs
  have hB1 := BlkR.new (w.alloc (.cells (rgA vs) 37)) nil27 37
  rw [World.size_alloc] at hB1
  have hacc := below2 w (.cells (rgA vs) 37) (.cells (rgA nil27) 37)
  go_enter Try.func22, Try.ntmps22
  go_wp2_with (first | (go_at_call 86; refine (reg_number _ _).mono ?_; rintro e w1 ⟨rfl, rfl⟩; rw [HO.out]) | (refine regs_store rfl _ _ rfl (w.heap.size + 1) rfl nil27 rfl nil27 _ hB1 nil27_len nil27_len slv_nil27 ?_; intro w2 hB2 hL2))
  exact bodyPost_ret (results_ct Try.results22 rfl (regs_loadVar hB2 nil27_len)) rfl ⟨nil27, rfl, rgs_nil _, hL2.bel (by omega) hacc⟩

set_option maxRecDepth 100000 in
set_option maxHeartbeats 1000000 in
theorem reg_put_large (vs : List Value) (X : List (List Int)) (name : Int) (j : Nat) (mo : Bool) (a : Option Addr) (n c : Nat) (w : World) (h : Rgs w vs X) (hI : numI name = (j : Int)) (hj : j < 27) (hM : numM name = mo) (hO : numO name = true)
    (hl : 200 < n ∨ (mo = true ∧ n ≤ 200 ∧ 200 < (rx X j).length + n)) (hn : n ≤ 9223372036854775807) :
    Calls Try.prog 22 #[.agg (rgA vs), .int .i64 name, .slice a n c] w (PutPost nilX 2 w) := by
  obtain ⟨a1, n1, c1, hv, hn1, hc1, hc2, hI1, h0⟩ := h.sl j hj
  rw [hn1] at hl
  have HI := Lib.hid hI; have HM := Lib.hid hM; have HO := Lib.hid hO; have HLV := Lib.hid h.lv; have HV := Lib.hid hv
  clear hI hM hO h hv h0 hI1 hn1
  have hal := alloc_regs
  have hbl := build_regs
  have hB0 := (BlkR.new w vs 37).alloc (.cells (rgA nil27) 37)
  have c0 := hB0.cell (i := j) (by rw [HLV.out]; exact hj)
  rw [HV.out] at c0
  have hB1 := BlkR.new (w.alloc (.cells (rgA vs) 37)) nil27 37
  rw [World.size_alloc] at hB1
  have hacc := below2 w (.cells (rgA vs) 37) (.cells (rgA nil27) 37)
  have i0 : (j : Int) < 27 := by omega
  rcases hl with hl | ⟨rfl, hl1, hl2⟩
  all_goals
    go_enter Try.func22, Try.ntmps22
    go_upto_region 1 with fail
    change Code.wp _ _ _ _ ((w.alloc (.cells (rgA vs) 37)).alloc (.cells (rgA nil27) 37))
    generalize (w.alloc (.cells (rgA vs) 37)).alloc (.cells (rgA nil27) 37) = w1 at *
    go_wp2_with (first | (go_at_call 86; refine (reg_number _ _).mono ?_; rintro e w1 ⟨rfl, rfl⟩; rw [HO.out, HM.out, HI.out]) | (refine regs_store rfl _ _ rfl (w.heap.size + 1) rfl nil27 rfl nil27 _ hB1 nil27_len nil27_len slv_nil27 ?_; intro w2 hB2 hL2))
    exact bodyPost_ret (results_ct Try.results22 rfl (regs_loadVar hB2 nil27_len)) rfl ⟨nil27, rfl, rgs_nil _, hL2.bel (by omega) hacc⟩

/-- the new registers: a text in register j, and in the one without a name -/
def putX (X : List (List Int)) (j : Nat) (y : List Int) : List (List Int) := (X.set j y).set 0 y

theorem rgs_put {w : World} {us : List Value} {X : List (List Int)} {j : Nat} {y : List Int} {v v2 : Value} (hl : us.length = 27) (hx : X.length = 27) (hj : j < 27) (h : ∀ i, i < 27 → i ≠ j → Sl w (vx us i) (rx X i)) (h1 : Sl w v y) (h2 : Sl w v2 y) :
    Rgs w ((us.set j v).set 0 v2) (putX X j y) := by
  refine ⟨by simpa using hl, by simpa [putX] using hx, fun i hi => ?_⟩
  unfold putX
  by_cases h0 : i = 0
  · subst h0
    rw [vx_set_eq (by simp; omega), rx_set_eq (by simp; omega)]
    exact h2
  · rw [vx_set_ne (fun e => h0 e.symm), rx_set_ne (fun e => h0 e.symm)]
    by_cases hij : i = j
    · subst hij
      rw [vx_set_eq (by omega), rx_set_eq (by omega)]
      exact h1
    · rw [vx_set_ne (fun e => hij e.symm), rx_set_ne (fun e => hij e.symm)]
      exact h i hi hij

theorem slv_put {us : List Value} (hl : us.length = 27) (hs : Slv us) (j : Nat) (a5 : Option Addr) (n5 c5 : Nat) (a8 : Option Addr) (n8 c8 : Nat) : Slv ((us.set j (.slice a5 n5 c5)).set 0 (.slice a8 n8 c8)) := by
  intro i hi
  rw [List.length_set, List.length_set] at hi
  by_cases h0 : i = 0
  · subst h0
    exact ⟨a8, n8, c8, vx_set_eq (by rw [List.length_set]; exact hi) _⟩
  · rw [vx_set_ne (fun e => h0 e.symm)]
    by_cases hij : i = j
    · subst hij
      exact ⟨a5, n5, c5, vx_set_eq hi _⟩
    · rw [vx_set_ne (fun e => hij e.symm)]
      exact hs i hi

set_option maxRecDepth 100000 in
set_option maxHeartbeats 1000000 in
theorem reg_put_new (vs : List Value) (X : List (List Int)) (name : Int) (j : Nat) (a : Option Addr) (n c : Nat) (t : List Int) (w : World) (h : Rgs w vs X) (hX : ∀ i, i < 27 → (rx X i).length ≤ 17592186044416) (hI : numI name = (j : Int)) (hj : j < 27) (hM : numM name = false) (hO : numO name = true)
    (ht : Ints w a t) (hn : t.length = n) (h0 : a = none → n = 0) (hl : n ≤ 200) :
    Calls Try.prog 22 #[.agg (rgA vs), .int .i64 name, .slice a n c] w (PutPost (putX X j t) 0 w) := by
  have H := Lib.hid h; have HX := Lib.hid hX; have HI := Lib.hid hI; have HM := Lib.hid hM; have HO := Lib.hid hO; have HN := Lib.hid hn; have HA := Lib.hid h0
  clear h hX hI hM hO hn h0
  have hal := alloc_regs
  have hB0 := (BlkR.new w vs 37).alloc (.cells (rgA nil27) 37)
  have hB1 := BlkR.new (w.alloc (.cells (rgA vs) 37)) nil27 37
  rw [World.size_alloc] at hB1
  have hacc := below2 w (.cells (rgA vs) 37) (.cells (rgA nil27) 37)
  have hsz : w.heap.size + 2 ≤ ((w.alloc (.cells (rgA vs) 37)).alloc (.cells (rgA nil27) 37)).heap.size := by simp
  have i0 : (j : Int) < 27 := by omega
  go_enter Try.func22, Try.ntmps22
  go_upto_region 1 with fail
  change Code.wp _ _ _ _ ((w.alloc (.cells (rgA vs) 37)).alloc (.cells (rgA nil27) 37))
  generalize (w.alloc (.cells (rgA vs) 37)).alloc (.cells (rgA nil27) 37) = w1 at *
  go_wp2_with (first | (go_at_call 86; refine (reg_number _ _).mono ?_; rintro e w1 ⟨rfl, rfl⟩; rw [HO.out, HM.out, HI.out]) | (refine regs_load rfl _ rfl w.heap.size rfl vs _ hB0 H.out.lv ?_))
  refine (reg_copied vs X _ (H.out.below hacc) HX.out).mono ?_
  rintro e w2 ⟨us, rfl, hul, hown, hsep, hb2⟩
  have HUL := Lib.hid hul; have HOW := Lib.hid hown; have HSE := Lib.hid hsep; clear hul hown hsep
  have hB1' := hB1.below hb2 hB1.lt
  have hB2 := BlkR.new w2 nil27 37
  have hbel2 := below_then hacc (by omega) hb2
  have hbel3 := hbel2.alloc (by have := hb2.size; omega) (.cells (rgA nil27) 37)
  have hz2 : w.heap.size + 2 ≤ w2.heap.size := by have := hb2.size; omega
  have hslv : Slv us := fun i hi => by
    obtain ⟨a, n, c, h⟩ := (HOW.out i (by rw [HUL.out] at hi; exact hi)).form
    exact ⟨a, n, c, h⟩
  have hB1'' := hB1'.alloc (.cells (rgA nil27) 37)
  have HSLV := Lib.hid hslv; clear hslv
  go_wp2_with (refine regs_store rfl _ _ rfl w2.heap.size rfl us rfl nil27 _ hB2 nil27_len HUL.out HSLV.out ?_; intro w4 hB4 hL4; have hz4 := hL4.size; rw [World.size_alloc] at hz4; have hB5 := hL4.blkR (by omega) hB1''; have hb24 := hL4.bel (Nat.le_refl _) (below1 w2 (.cells (rgA nil27) 37)); have hbel4 := hL4.bel (by omega) hbel3; clear hL4 hbel3 hB1'' hB2)
  have hT : Ints w4 a t := ht.below hbel4
  have hz4' : w2.heap.size < w4.heap.size := by omega
  have HZ4 := Lib.hid hz4; clear hz4
  go_wp2_with ((go_at_call 88); refine (slices_clone a n c t _ hT HN.out (by omega) HA.out).mono ?_; rintro e w5 ⟨v5, rfl, hown5, hb5⟩; obtain ⟨a5, n5, c5, rfl⟩ := hown5.form; have hB6 := hB4.below hb5 hB4.lt; have f6 := hB6.free j; have c6 := hB6.cell (i := j) (by rw [HUL.out]; exact hj))
  have hown7 := hown5.setCell (a := ⟨w2.heap.size, j, none⟩) hz4' (.slice a5 n5 c5)
  obtain ⟨g1, g2, g3, g4, g5⟩ := hown7.sl.get
  have G1 := Lib.hid g1; have G5 := Lib.hid g5
  have hn5 : n5 ≤ 200 := by rw [← g1, HN.out]; exact hl
  have hB7 := hB6.set j (.slice a5 n5 c5)
  have hbel7 := (below_then hbel4 (by omega) hb5).setCell (p := ⟨w2.heap.size, j, none⟩) (by show w.heap.size ≤ w2.heap.size; omega) (.slice a5 n5 c5)
  have hd7 := (below_then hb24 (by omega) hb5).setCell (p := ⟨w2.heap.size, j, none⟩) (Nat.le_refl _) (.slice a5 n5 c5)
  have hz7 : w4.heap.size ≤ (w5.setCell ⟨w2.heap.size, j, none⟩ (.slice a5 n5 c5)).heap.size := by rw [size_setCell]; exact hb5.size
  have hU7 : (us.set j (.slice a5 n5 c5)).length = 27 := by rw [List.length_set, HUL.out]
  have HU7 := Lib.hid hU7
  have hB57 := (hB5.below hb5 (by omega)).other (a := ⟨w2.heap.size, j, none⟩) (by simp; omega) (.slice a5 n5 c5)
  clear g1 g5 hB6 hU7
  go_wp2_with (first | ((go_at_call 88); refine (slices_clone a5 n5 c5 t _ g4 G1.out (by omega) G5.out).mono ?_; rintro e w8 ⟨v8, rfl, hown8, hb8⟩; obtain ⟨a8, n8, c8, rfl⟩ := hown8.form; have hB8 := hB7.below hb8 hB7.lt; have f8 := hB8.free 0; have e8 := hB8.cell (i := 0) (by rw [HU7.out]; omega); have hB9 := hB8.set 0 (.slice a8 n8 c8); have HU9 := Lib.hid (show ((us.set j (.slice a5 n5 c5)).set 0 (.slice a8 n8 c8)).length = 27 by rw [List.length_set, HU7.out]); have hB59 := (hB57.below hb8 (by omega)).other (a := ⟨w2.heap.size, 0, none⟩) (by simp; omega) (.slice a8 n8 c8); have HS9 := Lib.hid (slv_put HUL.out HSLV.out j a5 n5 c5 a8 n8 c8)) | (refine regs_load rfl _ rfl w2.heap.size rfl _ _ hB9 HU9.out ?_) | (refine regs_store rfl _ _ rfl (w.heap.size + 1) rfl ((us.set j (.slice a5 n5 c5)).set 0 (.slice a8 n8 c8)) rfl nil27 _ hB59 nil27_len HU9.out HS9.out ?_; intro w10 hB10 hL10))
  have hz8 := hb8.size
  refine bodyPost_ret (results_ct Try.results22 rfl (regs_loadVar hB10 HU9.out)) rfl ⟨_, rfl, rgs_put HUL.out H.out.lx hj (fun i hi hij => ?_) ?_ ?_, hL10.bel (by omega) ((below_then hbel7 (by omega) hb8).setCell (by show w.heap.size ≤ w2.heap.size; omega) _)⟩
  · exact (((HOW.out i hi).kept ((below_then hd7 (by omega) hb8).setCell (p := ⟨w2.heap.size, 0, none⟩) (Nat.le_refl _) _)).left hL10 (by omega)).sl
  · exact (((hown7.kept hb8).setCell (by exact hz4') _).left hL10 (by omega)).sl
  · exact ((hown8.setCell (by show w2.heap.size < _; omega) _).left hL10 (by omega)).sl

set_option maxRecDepth 100000 in
set_option maxHeartbeats 2000000 in
theorem reg_put_more (vs : List Value) (X : List (List Int)) (name : Int) (j : Nat) (a : Option Addr) (n c : Nat) (t : List Int) (w : World) (h : Rgs w vs X) (hX : ∀ i, i < 27 → (rx X i).length ≤ 17592186044416) (hI : numI name = (j : Int)) (hj : j < 27) (hM : numM name = true) (hO : numO name = true)
    (ht : Ints w a t) (hn : t.length = n) (h0 : a = none → n = 0) (hl : n ≤ 200) (hl2 : (rx X j).length + n ≤ 200) :
    Calls Try.prog 22 #[.agg (rgA vs), .int .i64 name, .slice a n c] w (PutPost (putX X j (rx X j ++ t)) 0 w) := by
  obtain ⟨a1, n1, c1, hv, hn1, hc1, hc2, hI1, h01⟩ := h.sl j hj
  rw [hn1] at hl2
  have H := Lib.hid h; have HX := Lib.hid hX; have HI := Lib.hid hI; have HM := Lib.hid hM; have HO := Lib.hid hO; have HN := Lib.hid hn; have HA := Lib.hid h0; have HV := Lib.hid hv; have HN1 := Lib.hid hn1
  clear h hX hI hM hO hn h0 hv h01 hI1 hn1
  have hal := alloc_regs
  have hB0 := (BlkR.new w vs 37).alloc (.cells (rgA nil27) 37)
  have c0 := hB0.cell (i := j) (by rw [H.out.lv]; exact hj)
  rw [HV.out] at c0
  have hB1 := BlkR.new (w.alloc (.cells (rgA vs) 37)) nil27 37
  rw [World.size_alloc] at hB1
  have hacc := below2 w (.cells (rgA vs) 37) (.cells (rgA nil27) 37)
  have hsz : w.heap.size + 2 ≤ ((w.alloc (.cells (rgA vs) 37)).alloc (.cells (rgA nil27) 37)).heap.size := by simp
  have i0 : (j : Int) < 27 := by omega
  go_enter Try.func22, Try.ntmps22
  go_upto_region 1 with fail
  change Code.wp _ _ _ _ ((w.alloc (.cells (rgA vs) 37)).alloc (.cells (rgA nil27) 37))
  generalize (w.alloc (.cells (rgA vs) 37)).alloc (.cells (rgA nil27) 37) = w1 at *
  go_wp2_with (first | (go_at_call 86; refine (reg_number _ _).mono ?_; rintro e w1 ⟨rfl, rfl⟩; rw [HO.out, HM.out, HI.out]) | (refine regs_load rfl _ rfl w.heap.size rfl vs _ hB0 H.out.lv ?_))
  refine (reg_copied vs X _ (H.out.below hacc) HX.out).mono ?_
  rintro e w2 ⟨us, rfl, hul, hown, hsep, hb2⟩
  have HUL := Lib.hid hul; have HOW := Lib.hid hown; have HSE := Lib.hid hsep; clear hul hown hsep c0
  have hB1' := hB1.below hb2 hB1.lt
  have hB2 := BlkR.new w2 nil27 37
  have hbel2 := below_then hacc (by omega) hb2
  have hbel3 := hbel2.alloc (by have := hb2.size; omega) (.cells (rgA nil27) 37)
  have hz2 : w1.heap.size ≤ w2.heap.size := hb2.size
  have hslv : Slv us := fun i hi => by
    obtain ⟨a, n, c, h⟩ := (HOW.out i (by rw [HUL.out] at hi; exact hi)).form
    exact ⟨a, n, c, h⟩
  have hB1'' := hB1'.alloc (.cells (rgA nil27) 37)
  have HSLV := Lib.hid hslv; clear hslv
  obtain ⟨aj, nj, cj, hvj⟩ := (HOW.out j hj).form
  have HVJ := Lib.hid hvj; clear hvj
  have hT : Ints w2 a t := ht.below hbel2
  have hA2 := HA.out
  have HL2 := Lib.hid (show (rx X j).length + n ≤ 17592186044416 by rw [HN1.out]; omega)
  clear hA2
  go_wp2_with (first | (at_builtin; refine appV rfl _ _ rfl w1.heap.size (.slice aj nj cj) (rx X j) t a n c rfl rfl hown4 hT4 HN.out HA.out HL2.out (by omega) ?_; intro v5 w5 hown5 hgrow5; obtain ⟨a5, n5, c5, rfl⟩ := hown5.form; have hB6 := hB4.grown hgrow5 (hown4.neBlk hB4 (by decide)); have hB56 := hB5.grown hgrow5 (hown4.neBlk hB5 (by decide)); have f6 := hB6.free j; have c6 := hB6.cell (i := j) (by rw [HUL.out]; exact hj)) | (refine regs_store rfl _ _ rfl w2.heap.size rfl us rfl nil27 _ hB2 nil27_len HUL.out HSLV.out ?_; intro w4 hB4 hL4; have hz4 := hL4.size; rw [World.size_alloc] at hz4; have hB5 := hL4.blkR (by omega) hB1''; have hb24 := hL4.bel (Nat.le_refl _) (below1 w2 (.cells (rgA nil27) 37)); have hbel4 := hL4.bel (by omega) hbel3; have hown4 := (HOW.out j hj).kept hb24; have c4 := hB4.cell (i := j) (by rw [HUL.out]; exact hj); have f4 := hB4.free j; rw [HVJ.out] at hown4 c4; have hT4 := ht.below hbel4; clear hL4 hbel3 hB1'' hB2))
  have hown7 := hown5.other (a := ⟨w2.heap.size, j, none⟩) (hown5.neBlk hB6 (by decide)) (.slice a5 n5 c5)
  obtain ⟨g1, g2, g3, g4, g5⟩ := hown7.sl.get
  have G1 := Lib.hid g1; have G5 := Lib.hid g5
  have hn5 : n5 ≤ 200 := by rw [← g1, List.length_append, HN.out, HN1.out]; exact hl2
  have hB7 := hB6.set j (.slice a5 n5 c5)
  have hbel5 := hbel4.grown hgrow5 (by omega) (fun k hk => by have := hown4.row k hk; omega)
  have hbel7 := hbel5.setCell (p := ⟨w2.heap.size, j, none⟩) (by show w.heap.size ≤ w2.heap.size; omega) (.slice a5 n5 c5)
  have hz7 : w4.heap.size ≤ (w5.setCell ⟨w2.heap.size, j, none⟩ (.slice a5 n5 c5)).heap.size := by rw [size_setCell]; exact hgrow5.size
  have hU7 : (us.set j (.slice a5 n5 c5)).length = 27 := by rw [List.length_set, HUL.out]
  have HU7 := Lib.hid hU7
  have hB57 := hB56.other (a := ⟨w2.heap.size, j, none⟩) (by simp; omega) (.slice a5 n5 c5)
  have HO7 := Lib.hid (show ∀ i, i < 27 → i ≠ j → Own 3 w1.heap.size (w5.setCell ⟨w2.heap.size, j, none⟩ (.slice a5 n5 c5)) (vx us i) (rx X i) from fun i hi hij => by
    have h1 := (HOW.out i hi).kept hb24
    have hs : Sep (vx us i) (.slice aj nj cj) := by
      rw [← HVJ.out]
      rcases Nat.lt_or_gt_of_ne hij with h | h
      · exact HSE.out i j h hj
      · exact (HSE.out j i h hi).symm
    have h2 := h1.grown hgrow5 hs
    exact hB6.put h2 (by decide) _ _)
  clear g1 g5 hU7 c4 f4
  go_wp2_with (first | ((go_at_call 88); refine (slices_clone a5 n5 c5 (rx X j ++ t) _ g4 G1.out (by omega) G5.out).mono ?_; rintro e w8 ⟨v8, rfl, hown8, hb8⟩; obtain ⟨a8, n8, c8, rfl⟩ := hown8.form; have hB8 := hB7.below hb8 hB7.lt; have f8 := hB8.free 0; have e8 := hB8.cell (i := 0) (by rw [HU7.out]; omega); have hB9 := hB8.set 0 (.slice a8 n8 c8); have HU9 := Lib.hid (show ((us.set j (.slice a5 n5 c5)).set 0 (.slice a8 n8 c8)).length = 27 by rw [List.length_set, HU7.out]); have hB59 := (hB57.below hb8 (by omega)).other (a := ⟨w2.heap.size, 0, none⟩) (by simp; omega) (.slice a8 n8 c8); have HS9 := Lib.hid (slv_put HUL.out HSLV.out j a5 n5 c5 a8 n8 c8)) | (refine regs_load rfl _ rfl w2.heap.size rfl _ _ hB9 HU9.out ?_) | (refine regs_store rfl _ _ rfl (w.heap.size + 1) rfl ((us.set j (.slice a5 n5 c5)).set 0 (.slice a8 n8 c8)) rfl nil27 _ hB59 nil27_len HU9.out HS9.out ?_; intro w10 hB10 hL10))
  have hz8 := hb8.size
  refine bodyPost_ret (results_ct Try.results22 rfl (regs_loadVar hB10 HU9.out)) rfl ⟨_, rfl, rgs_put HUL.out H.out.lx hj (fun i hi hij => ?_) ?_ ?_, hL10.bel (by omega) ((below_then hbel7 (by omega) hb8).setCell (by show w.heap.size ≤ w2.heap.size; omega) _)⟩
  · have h1 := (HO7.out i hi hij).kept hb8
    exact ((hB8.put h1 (by decide) _ _).left hL10 (by omega)).sl
  · have h1 := hown7.kept hb8
    exact ((hB8.put h1 (by decide) _ _).left hL10 (by omega)).sl
  · exact ((hB8.put hown8 (by decide) _ _).left hL10 (by omega)).sl

end Go.Proofs.Ytbgbcmfgncneiaa
