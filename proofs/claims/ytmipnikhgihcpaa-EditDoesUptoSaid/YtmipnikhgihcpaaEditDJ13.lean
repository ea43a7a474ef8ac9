/- LiftEditDoes, part 13: joined from the texts Ds7 Ds8 DsD Spl8 DsC. No condition of its own. -/
import Derived.Test.YtmipnikhgihcpaaEditDJ1
import Derived.Test.YtmipnikhgihcpaaEditDJ4
import Derived.Test.YtmipnikhgihcpaaEditDJ11
import Derived.Test.YtmipnikhgihcpaaEditDJ12
set_option linter.unusedVariables false
set_option linter.unusedSimpArgs false
namespace Go.Proofs.Ytmipnikhgihcpaa
open Go.RowKit
def Pv (w w' : World) (vs : List Value) (X : List (List Int)) (tv : Value) (t : List Int) (us : List Value) (Y : List (List Int)) : Prop :=
 us.length = 27 ∧ Y.length = 27 ∧ ∀ P : Value → List Int → Prop, (∀ i, i < 27 → P (vx vs i) (rx X i)) → P tv t → (∀ v x, Own 3 w.heap.size w' v x → P v x) → ∀ i, i < 27 → P (vx us i) (rx Y i)
theorem pv_nil (w w' : World) (vs : List Value) (X : List (List Int)) (tv : Value) (t : List Int) : Pv w w' vs X tv t nil27 nilX :=
 ⟨rfl, rfl, fun P _ _ h3 i hi => by rw [vx_nil27 hi, show rx nilX i = [] from getD_rep 27 _ _ hi]; exact h3 _ _ (Own.nil _ _ _)⟩
theorem pv_put {w w' : World} {vs : List Value} {X : List (List Int)} {tv : Value} {t : List Int} {j : Nat} {v : Value} {y : List Int} (hl : vs.length = 27) (hx : X.length = 27) (hj : j < 27)
  (h : ∀ P : Value → List Int → Prop, (∀ i, i < 27 → P (vx vs i) (rx X i)) → P tv t → (∀ v x, Own 3 w.heap.size w' v x → P v x) → P v y) : Pv w w' vs X tv t ((vs.set j v).set 0 v) (putX X j y) := by
 refine ⟨by rw [List.length_set, List.length_set, hl], by unfold putX; rw [List.length_set, List.length_set, hx], fun P h1 h2 h3 i hi => ?_⟩
 have hP := h P h1 h2 h3
 unfold putX
 by_cases h0 : i = 0
 ·subst h0
  rw [vx_set_eq (by rw [List.length_set, hl]; omega), rx_set_eq (by rw [List.length_set, hx]; omega)]
  exact hP
 ·rw [vx_set_ne (fun h => h0 h.symm), rx_set_ne (fun h => h0 h.symm)]
  by_cases hij : i = j
  ·subst hij
   rw [vx_set_eq (by rw [hl]; omega), rx_set_eq (by rw [hx]; omega)]
   exact hP
  ·rw [vx_set_ne (fun h => hij h.symm), rx_set_ne (fun h => hij h.symm)]
   exact h1 i hi
def PutPostV (vs : List Value) (X : List (List Int)) (tv : Value) (t : List Int) (Y : List (List Int)) (E : Int) (w : World) (e : Ending) (w' : World) : Prop := ∃ us, e = .returned (.tuple #[.agg (rgA us), .int .i64 E]) ∧ Pv w w' vs X tv t us Y ∧ Below w.heap.size w w'
set_option maxRecDepth 100000 in
set_option maxHeartbeats 2000000 in
theorem ref_putV_key (vs : List Value) (X : List (List Int)) (name : Int) (tv : Value) (t : List Int) (w : World) (hO : numO name = false) :
  Calls Try.prog 185 #[.agg (rgA vs), .int .i64 name, tv] w (PutPostV vs X tv t nilX 9 w) := by
 have HO := Lib.hid (show regI name = -1 by rw [regI, hO]; rfl)
 clear hO
 have hal := alloc_regs
 have hbl := build_regs
 have hB1 := BlkR.new (w.alloc (.cells (rgA vs) 133)) nil27 133
 rw [World.size_alloc] at hB1
 have hacc := below2 w (.cells (rgA vs) 133) (.cells (rgA nil27) 133)
 go_enter Try.func185, Try.ntmps185
 go_wp2_with (first | (go_at_call 236; refine (ref_register _ _).mono ?_; rintro e w1 ⟨rfl, rfl⟩; rw [HO.out]) | (refine regs_store rfl _ _ rfl (w.heap.size + 1) rfl nil27 rfl nil27 _ hB1 nil27_len nil27_len slv_nil27 ?_; intro w2 hB2 hL2))
 exact bodyPost_ret (results_ct Try.results185 rfl (regs_loadVar hB2 nil27_len)) rfl ⟨nil27, rfl, pv_nil _ _ _ _ _ _, hL2.bel (by omega) hacc⟩
set_option maxRecDepth 100000 in
set_option maxHeartbeats 2000000 in
theorem ref_putV_new (vs : List Value) (X : List (List Int)) (name : Int) (j : Nat) (a : Option Addr) (n c : Nat) (t : List Int) (E : Int) (w : World) (h : Rgs w vs X) (hI : regI name = (j : Int)) (hj : j < 27) (hM : numM name = false)
  (ht : Ints w a t) (hn : t.length = n) (hc : n ≤ c) (hc2 : c ≤ 9223372036854775807) (h0 : a = none → n = 0) (hE : E = if 200 < n then 2 else 0) :
  Calls Try.prog 185 #[.agg (rgA vs), .int .i64 name, .slice a n c] w (PutPostV vs X (.slice a n c) t (if 200 < n then nilX else putX X j t) E w) := by
 have H := Lib.hid h; have HI := Lib.hid hI; have HM := Lib.hid hM; have HN := Lib.hid hn; have HA := Lib.hid h0
 clear h hI hM hn h0
 have hal := alloc_regs
 have hbl := build_regs
 have hB0 := (BlkR.new w vs 133).alloc (.cells (rgA nil27) 133)
 have hB1 := BlkR.new (w.alloc (.cells (rgA vs) 133)) nil27 133
 rw [World.size_alloc] at hB1
 have hacc := below2 w (.cells (rgA vs) 133) (.cells (rgA nil27) 133)
 have i0 : (j : Int) < 27 := by omega
 by_cases hl : 200 < n
 ·rw [if_pos hl] at hE ⊢
  subst hE
  go_enter Try.func185, Try.ntmps185
  go_upto_region 1 with fail
  change Code.wp _ _ _ _ ((w.alloc (.cells (rgA vs) 133)).alloc (.cells (rgA nil27) 133))
  generalize (w.alloc (.cells (rgA vs) 133)).alloc (.cells (rgA nil27) 133) = w1 at *
  go_wp2_with (first | (go_at_call 236; refine (ref_register _ _).mono ?_; rintro e w1 ⟨rfl, rfl⟩; rw [HI.out, HM.out]) | (refine regs_store rfl _ _ rfl (w.heap.size + 1) rfl nil27 rfl nil27 _ hB1 nil27_len nil27_len slv_nil27 ?_; intro w2 hB2 hL2))
  exact bodyPost_ret (results_ct Try.results185 rfl (regs_loadVar hB2 nil27_len)) rfl ⟨nil27, rfl, pv_nil _ _ _ _ _ _, hL2.bel (by omega) hacc⟩
 ·rw [if_neg hl] at hE ⊢
  subst hE
  have hT := ht.below hacc
  have hsl : ∀ i, i < 27 → Sl ((w.alloc (.cells (rgA vs) 133)).alloc (.cells (rgA nil27) 133)) (vx vs i) (rx X i) := fun i hi => (H.out.sl i hi).below hacc
  have HSL := Lib.hid hsl; clear hsl
  have hkb : Below (w.heap.size + 2) ((w.alloc (.cells (rgA vs) 133)).alloc (.cells (rgA nil27) 133)) ((w.alloc (.cells (rgA vs) 133)).alloc (.cells (rgA nil27) 133)) := Below.refl _ _
  go_enter Try.func185, Try.ntmps185
  go_upto_region 1 with fail
  change Code.wp _ _ _ _ ((w.alloc (.cells (rgA vs) 133)).alloc (.cells (rgA nil27) 133))
  generalize (w.alloc (.cells (rgA vs) 133)).alloc (.cells (rgA nil27) 133) = w1 at *
  have f0 := hB0.free j
  have c0 := hB0.cell (i := j) (by rw [H.out.lv]; exact hj)
  have hB2 := hB0.set j (.slice a n c)
  have f2 := hB2.free 0
  have c2 := hB2.cell (i := 0) (by rw [List.length_set, H.out.lv]; omega)
  have hB3 := hB2.set 0 (.slice a n c)
  have HU := Lib.hid (show ((vs.set j (.slice a n c)).set 0 (.slice a n c)).length = 27 by rw [List.length_set, List.length_set, H.out.lv])
  have HS := Lib.hid (slv_put H.out.lv H.out.slv j a n c a n c)
  have hB1' := (hB1.other (a := ⟨w.heap.size, j, none⟩) (by simp) (.slice a n c)).other (a := ⟨w.heap.size, 0, none⟩) (by simp) (.slice a n c)
  have hbel := (hacc.setCell (p := ⟨w.heap.size, j, none⟩) (Nat.le_refl _) (.slice a n c)).setCell (p := ⟨w.heap.size, 0, none⟩) (Nat.le_refl _) (.slice a n c)
  go_wp2_with (first | (go_at_call 236; refine (ref_register _ _).mono ?_; rintro e w1 ⟨rfl, rfl⟩; rw [HI.out, HM.out]) | (refine regs_load rfl _ rfl w.heap.size rfl _ _ hB3 HU.out ?_) | (refine regs_store rfl _ _ rfl (w.heap.size + 1) rfl ((vs.set j (.slice a n c)).set 0 (.slice a n c)) rfl nil27 _ hB1' nil27_len HU.out HS.out ?_; intro w2 hB4 hL4))
  have hb := hL4.bel (by omega) hbel
  have hsl : Sl w2 (.slice a n c) t := ⟨a, n, c, rfl, HN.out, hc, hc2, ht.below hb, HA.out⟩
  refine bodyPost_ret (results_ct Try.results185 rfl (regs_loadVar hB4 HU.out)) rfl ⟨_, rfl, pv_put H.out.lv H.out.lx hj (fun P h1 h2 h3 => h2), hb⟩
set_option maxRecDepth 100000 in
set_option maxHeartbeats 2000000 in
theorem ref_putV_more (vs : List Value) (X : List (List Int)) (name : Int) (j : Nat) (a : Option Addr) (n c : Nat) (t : List Int) (w : World) (h : Rgs w vs X) (hX : (rx X j).length ≤ 1048576) (hI : regI name = (j : Int)) (hj : j < 27) (hM : numM name = true)
  (ht : Ints w a t) (hn : t.length = n) (h0 : a = none → n = 0) (hn2 : n ≤ 1048576) :
  Calls Try.prog 185 #[.agg (rgA vs), .int .i64 name, .slice a n c] w (PutPostV vs X (.slice a n c) t (if 200 < (rx X j).length + n then nilX else putX X j (rx X j ++ t)) (if 200 < (rx X j).length + n then 2 else 0) w) := by
 obtain ⟨a1, n1, c1, hv, hn1, hc1, hc2, hI1, h01⟩ := h.sl j hj
 rw [hn1] at hX ⊢
 have H := Lib.hid h; have HI := Lib.hid hI; have HM := Lib.hid hM; have HN := Lib.hid hn; have HA := Lib.hid h0; have HV := Lib.hid hv; have HN1 := Lib.hid hn1; have H01 := Lib.hid h01
 clear h hI hM hn h0 hv hn1 h01
 have hal := alloc_regs
 have hbl := build_regs
 have hB0 := (BlkR.new w vs 133).alloc (.cells (rgA nil27) 133)
 have hB1 := BlkR.new (w.alloc (.cells (rgA vs) 133)) nil27 133
 rw [World.size_alloc] at hB1
 have hacc := below2 w (.cells (rgA vs) 133) (.cells (rgA nil27) 133)
 have hsz : w.heap.size + 2 ≤ ((w.alloc (.cells (rgA vs) 133)).alloc (.cells (rgA nil27) 133)).heap.size := by simp
 have i0 : (j : Int) < 27 := by omega
 have c0 := hB0.cell (i := j) (by rw [H.out.lv]; exact hj)
 rw [HV.out] at c0
 have hT := ht.below hacc
 have hI2 := hI1.below hacc
 by_cases hl : 200 < n1 + n
 ·rw [if_pos hl, if_pos hl]
  go_enter Try.func185, Try.ntmps185
  go_upto_region 1 with fail
  change Code.wp _ _ _ _ ((w.alloc (.cells (rgA vs) 133)).alloc (.cells (rgA nil27) 133))
  generalize (w.alloc (.cells (rgA vs) 133)).alloc (.cells (rgA nil27) 133) = w1 at *
  have hcat := catIn2 w1 22 c1 c hI2 hT HN1.out HN.out hX hn2 H01.out HA.out
  have hck := below1 w1 (.cells #[.slice a1 n1 c1, .slice a n c] 22)
  have hB1' := hB1.alloc (.cells #[.slice a1 n1 c1, .slice a n c] 22)
  have HCAT := Lib.hid hcat; clear hcat
  go_wp2_with (first | (go_at_call 236; refine (ref_register _ _).mono ?_; rintro e w1 ⟨rfl, rfl⟩; rw [HI.out, HM.out]) | ((go_at_call 46); refine (slices_concat _ 2 _ _ _ _ _ HCAT.out (by omega)).mono ?_; rintro e w8 ⟨v8, rfl, o8, hb8⟩; obtain ⟨a8, n8, c8, rfl⟩ := o8.form; have L8 := o8.get.1; rw [joinX2, List.length_append, HN1.out, HN.out] at L8; have l8 : 200 < n8 := (by omega); clear L8; have hB1'' := hB1'.below hb8 (by simp; omega)) | (refine regs_store rfl _ _ rfl (w.heap.size + 1) rfl nil27 rfl nil27 _ hB1'' nil27_len nil27_len slv_nil27 ?_; intro w2 hB2 hL2))
  all_goals
   exact bodyPost_ret (results_ct Try.results185 rfl (regs_loadVar hB2 nil27_len)) rfl ⟨nil27, rfl, pv_nil _ _ _ _ _ _, hL2.bel (by omega) (below_then (below_then hacc (by omega) hck) (by simp; omega) hb8)⟩
 ·rw [if_neg hl, if_neg hl]
  go_enter Try.func185, Try.ntmps185
  go_upto_region 1 with fail
  change Code.wp _ _ _ _ ((w.alloc (.cells (rgA vs) 133)).alloc (.cells (rgA nil27) 133))
  generalize (w.alloc (.cells (rgA vs) 133)).alloc (.cells (rgA nil27) 133) = w1 at *
  have hcat := catIn2 w1 22 c1 c hI2 hT HN1.out HN.out hX hn2 H01.out HA.out
  have hck := below1 w1 (.cells #[.slice a1 n1 c1, .slice a n c] 22)
  have hB0' := hB0.alloc (.cells #[.slice a1 n1 c1, .slice a n c] 22)
  have hB1' := hB1.alloc (.cells #[.slice a1 n1 c1, .slice a n c] 22)
  have HCAT := Lib.hid hcat; clear hcat
  have hl200 : ¬ 200 < n := by omega
  go_wp2_with (first | (go_at_call 236; refine (ref_register _ _).mono ?_; rintro e w1 ⟨rfl, rfl⟩; rw [HI.out, HM.out]) | ((go_at_call 46); refine (slices_concat _ 2 _ _ _ _ _ HCAT.out (by omega)).mono ?_; rintro e w8 ⟨v8, rfl, o8, hb8⟩; obtain ⟨a8, n8, c8, rfl⟩ := o8.form; have L8 := o8.get.1; rw [joinX2] at o8 L8; rw [List.length_append, HN1.out, HN.out] at L8; have l8 : n8 ≤ 200 := (by omega); clear L8; have hB1'' := (hB1'.below hb8 (by simp; omega)).other (a := ⟨w.heap.size, j, none⟩) (by simp) (.slice a8 n8 c8); have hB1x := hB1''.other (a := ⟨w.heap.size, 0, none⟩) (by simp) (.slice a8 n8 c8); have hB2 := hB0'.below hb8 (by simp; omega); have f2 := hB2.free j; have d2 := hB2.cell (i := j) (by rw [H.out.lv]; exact hj); have hB3 := hB2.set j (.slice a8 n8 c8); have f3 := hB3.free 0; have d3 := hB3.cell (i := 0) (by rw [List.length_set, H.out.lv]; omega); have hB4 := hB3.set 0 (.slice a8 n8 c8); have HU := Lib.hid (show ((vs.set j (.slice a8 n8 c8)).set 0 (.slice a8 n8 c8)).length = 27 by rw [List.length_set, List.length_set, H.out.lv]); have HS := Lib.hid (slv_put H.out.lv H.out.slv j a8 n8 c8 a8 n8 c8)) | (refine regs_load rfl _ rfl w.heap.size rfl _ _ hB4 HU.out ?_) | (refine regs_store rfl _ _ rfl (w.heap.size + 1) rfl ((vs.set j (.slice a8 n8 c8)).set 0 (.slice a8 n8 c8)) rfl nil27 _ hB1x nil27_len HU.out HS.out ?_; intro w5 hB5 hL5))
  have hb := hL5.bel (by omega) (((below_then (below_then hacc (by omega) hck) (by simp; omega) hb8).setCell (p := ⟨w.heap.size, j, none⟩) (Nat.le_refl _) (.slice a8 n8 c8)).setCell (p := ⟨w.heap.size, 0, none⟩) (Nat.le_refl _) (.slice a8 n8 c8))
  have hs0 : w1.heap.size < (w1.alloc (.cells #[.slice a1 n1 c1, .slice a n c] 22)).heap.size := by simp
  have hs1 := (hB2.put o8 (by decide) j (.slice a8 n8 c8))
  have hs2 := ((hB3.put hs1 (by decide) 0 (.slice a8 n8 c8)).left hL5 (by omega)).mono (show w.heap.size ≤ _ by simp; omega)
  refine bodyPost_ret (results_ct Try.results185 rfl (regs_loadVar hB5 HU.out)) rfl ⟨_, rfl, pv_put H.out.lv H.out.lx hj (fun P h1 h2 h3 => h3 _ _ hs2), hb⟩
theorem ref_putV (vs : List Value) (X : List (List Int)) (name : Int) (a : Option Addr) (n c : Nat) (t : List Int) (w : World) (h : Rgs w vs X) (hX : ∀ i, i < 27 → (rx X i).length ≤ 1048576)
  (ht : Ints w a t) (hn : t.length = n) (hc : n ≤ c) (hc2 : c ≤ 9223372036854775807) (h0 : a = none → n = 0) (hl : n ≤ 1048576) :
  Calls Try.prog 185 #[.agg (rgA vs), .int .i64 name, .slice a n c] w (PutPostV vs X (.slice a n c) t (putYs X name t) (putEs X name t) w) := by
 cases hO : numO name
 ·rw [(put_key hO).1, (put_key hO).2]
  exact ref_putV_key vs X name _ t w hO
 ·obtain ⟨j1, j2, j3⟩ := regJ_lt hO
  cases hM : numM name
  ·rw [(put_new hO hM).1, (put_new hO hM).2, hn]
   exact ref_putV_new vs X name _ a n c t _ w h j3 j1 hM ht hn hc hc2 h0 rfl
  ·rw [(put_more hO hM).1, (put_more hO hM).2, hn]
   exact ref_putV_more vs X name _ a n c t w h (hX _ j1) j3 j1 hM ht hn h0 hl
noncomputable def opQ (I : In) (cm : C5) (fk fa : Int) (f g : Nat) : St :=
 if cm.c = 121 then ⟨cm, I.t, if cm.d = cm.c then (I.k : Int) else min (I.k : Int) f, if f < g then putYs I.X cm.b ((I.t.take g).drop f) else I.X, lkV fk cm.d, laV fa cm.d cm.e, 0, []⟩
 else if cm.c = 99 then ⟨cm, I.t.take f ++ I.t.drop g, (f : Int), if f < g then putYs I.X cm.b ((I.t.take g).drop f) else I.X, lkV fk cm.d, laV fa cm.d cm.e, 1, []⟩
 else ⟨cm, I.t.take f ++ I.t.drop g, clV f ((I.t.take f ++ I.t.drop g).length : Int), if f < g then putYs I.X cm.b ((I.t.take g).drop f) else I.X, lkV fk cm.d, laV fa cm.d cm.e, 0, []⟩
theorem keepO {P B : Nat} {i0 i1 b0 b1 : Nat} {v0 v1 : Value} {vs : List Value} {w9 w1 w2 : World} (hb0 : b0 ≠ P) (hb1 : b1 ≠ P) (hB : B ≠ P) (h : (w1.cell? ⟨b0, i0, none⟩ = some v0 ∧ w1.cell? ⟨b1, i1, none⟩ = some v1 ∧ w1.rangeAt B 0 vs ∧ Asd P w9 w1)) (ha : Asd P w1 w2) : (w2.cell? ⟨b0, i0, none⟩ = some v0 ∧ w2.cell? ⟨b1, i1, none⟩ = some v1 ∧ w2.rangeAt B 0 vs ∧ Asd P w9 w2) :=
 ⟨ha.cell hb0 h.1, ha.cell hb1 h.2.1, fun j v hv => ha.cell hB (h.2.2.1 j v hv), h.2.2.2.trans ha⟩
theorem resL_one {w : World} {vs : List Value} {X : List (List Int)} {a : Option Addr} {n c : Nat} {k fk fa : Int} (h : Rgs w vs X) : ∀ v ∈ resL (.slice a n c) k vs fk fa, v.oneCell' = true := by
 intro v hv
 unfold resL at hv
 simp only [List.mem_append, List.mem_cons, List.not_mem_nil, or_false] at hv
 rcases hv with ((rfl | rfl) | hv) | rfl | rfl | rfl | rfl
 ·rfl
 ·rfl
 ·obtain ⟨i, hi, rfl⟩ := vx_mem hv
  rw [h.lv] at hi
  obtain ⟨a, n, c, e, -⟩ := h.sl i hi
  rw [e]; rfl
 all_goals rfl
theorem pv_slb {I : In} {wx w' : World} {P : Nat} {us' : List Value} {Y : List (List Int)} {tv : Value} {y : List Int} (ht : InV I tv y) (hp : Pv wx w' I.vs I.X tv y us' Y) (hPx : P < wx.heap.size) : ∀ i, i < 27 → SlB I P w' (vx us' i) (rx Y i) :=
 hp.2.2 (SlB I P w') (fun i hi => .inl (.inr (.inl ⟨i, hi, rfl, rfl⟩))) (.inl ht) (fun v x hv => .inr (hv.mono hPx))
theorem slb_one {I : In} (hI : InOk I) {w' : World} {P : Nat} {us : List Value} {Y : List (List Int)} (hl : us.length = 27) (h : ∀ i, i < 27 → SlB I P w' (vx us i) (rx Y i)) : ∀ v ∈ us, v.oneCell' = true := by
 intro v hv
 obtain ⟨i, hi, rfl⟩ := vx_mem hv
 exact SlQ.one hI (h i (by omega))
set_option maxRecDepth 100000 in
set_option maxHeartbeats 4000000 in
theorem opd_bad (I : In) (hI : InOk I) (fk fa : Int) (cm : C5) (hk : cm.d = cm.c ∨ (cm.d ≠ cm.c ∧ iaB cm.d = true) ∨ (cm.d ≠ cm.c ∧ iaB cm.d = false ∧ motB cm.d = true)) (f g : Nat) (hS : ∀ w1, Below I.w0.heap.size I.w0 w1 → Calls Try.prog 184 #[.agg #[.slice I.a I.n I.c, .int .i64 (I.k : Int)], .agg #[.int .i64 fk, .int .i64 fa], .agg #[.int .i64 cm.a, .int .i64 cm.b, .int .i64 cm.c, .int .i64 cm.d, .int .i64 cm.e]] w1 (SpPost f g 0 w1)) (hfg : f ≤ g) (hgn : g ≤ I.n) (hlt : f < g) (E : Int) (hE : putEs I.X cm.b ((I.t.take g).drop f) = E) (h0 : E ≠ 0) :
  Calls Try.prog 143 #[.agg #[.slice I.a I.n I.c, .int .i64 (I.k : Int)], .agg (rgA I.vs), .agg #[.int .i64 fk, .int .i64 fa], .agg #[.int .i64 cm.a, .int .i64 cm.b, .int .i64 cm.c, .int .i64 cm.d, .int .i64 cm.e]] I.w0 (ResPost I E (zSt cm) I.w0) := by
 have CS := Lib.hid hS
 have HK := Lib.hid hk
 have HI := Lib.hid hI
 have hlv := hI.rgs.lv
 have HR := Lib.hid hI.rgs
 have HSm := Lib.hid hI.small
 have HT := Lib.hid (show I.t.length = I.n from hI.len)
 have htop := hI.top
 have HTi := Lib.hid hI.ints
 have HN0 := Lib.hid hI.none
 have hcap := hI.cap; have hcap2 := hI.cap2
 clear hS hk hI
 obtain ⟨w, a, n, c, t, k, vs, X⟩ := I
 dsimp only at *
 have hone : ∀ v ∈ resL (.slice a n c) (k : Int) vs fk fa, v.oneCell' = true := resL_one HR.out
 have nf : (f : Int) < (g : Int) := by omega
 have nfg : ((f : Int) == (g : Int)) = false := by simp; omega
 have hbx := boxes5 w #[.slice a n c, .int .i64 (k : Int)] #[.int .i64 fk, .int .i64 fa] #[.int .i64 cm.a, .int .i64 cm.b, .int .i64 cm.c, .int .i64 cm.d, .int .i64 cm.e] vs zero33 131 133 135 80 138
 dsimp only at hbx
 rw [show rgA zero33 = #[.slice none 0 0, .int .i64 0, .slice none 0 0, .slice none 0 0, .slice none 0 0, .slice none 0 0, .slice none 0 0, .slice none 0 0, .slice none 0 0, .slice none 0 0, .slice none 0 0, .slice none 0 0, .slice none 0 0, .slice none 0 0, .slice none 0 0, .slice none 0 0, .slice none 0 0, .slice none 0 0, .slice none 0 0, .slice none 0 0, .slice none 0 0, .slice none 0 0, .slice none 0 0, .slice none 0 0, .slice none 0 0, .slice none 0 0, .slice none 0 0, .slice none 0 0, .slice none 0 0, .int .i64 0, .int .i64 0, .int .i64 0, .slice none 0 0] from rfl] at hbx
 go_enter Try.func143, Try.ntmps143
 go_upto_region 1 with fail
 generalize (((((w.alloc (.cells #[.slice a n c, .int .i64 (k : Int)] 131)).alloc (.cells (rgA vs) 133)).alloc (.cells #[.int .i64 fk, .int .i64 fa] 135)).alloc (.cells #[.int .i64 cm.a, .int .i64 cm.b, .int .i64 cm.c, .int .i64 cm.d, .int .i64 cm.e] 80)).alloc (.cells #[.slice none 0 0, .int .i64 0, .slice none 0 0, .slice none 0 0, .slice none 0 0, .slice none 0 0, .slice none 0 0, .slice none 0 0, .slice none 0 0, .slice none 0 0, .slice none 0 0, .slice none 0 0, .slice none 0 0, .slice none 0 0, .slice none 0 0, .slice none 0 0, .slice none 0 0, .slice none 0 0, .slice none 0 0, .slice none 0 0, .slice none 0 0, .slice none 0 0, .slice none 0 0, .slice none 0 0, .slice none 0 0, .slice none 0 0, .slice none 0 0, .slice none 0 0, .slice none 0 0, .int .i64 0, .int .i64 0, .int .i64 0, .slice none 0 0] 138)) = w5 at *
 obtain ⟨hLn, hRg, hFd, hCm, hZ, hbw, hsz⟩ := hbx
 obtain ⟨l0, l1, -, -⟩ := hLn.two
 obtain ⟨d0, d1, d2, d3, d4⟩ := Blk.five hCm
 go_upto_region 1 with fail
 go_cut [10] (fun v wx => v = .bool true ∧ Below w5.heap.size w5 wx)
 case first =>
  rcases HK.out with h1 | ⟨h1, h2⟩ | ⟨h1, h2, h3⟩
  ·have x1 : (cm.d == cm.c) = true := by simpa using h1
   clear h1
   go_wp2
   go_meet
   exact ⟨rfl, Below.refl _ _⟩
  ·have x1 : (cm.d == cm.c) = false := by simpa using h1
   have hin := h2
   clear h1 h2
   go_wp2_with (go_at_call 121; go_loud (refine (ref_in cm.d ⟨#[105, 97]⟩ (by decide) _).mono ?_; rintro e w2 ⟨rfl, hb2⟩; rw [in_ia, hin]))
   go_meet
   exact ⟨rfl, hb2⟩
  ·have x1 : (cm.d == cm.c) = false := by simpa using h1
   have hin := h2; have hmo := h3
   clear h1 h2 h3
   go_wp2_with (first | (go_at_call 121; go_loud (refine (ref_in cm.d ⟨#[105, 97]⟩ (by decide) _).mono ?_; rintro e w2 ⟨rfl, hb2⟩; rw [in_ia, hin]; have hC2 := hCm.below hb2 hCm.lt; clear d0 d1 d2 d3 d4; obtain ⟨d0, d1, d2, d3, d4⟩ := Blk.five hC2)) | (go_at_call 144; go_loud (refine (ref_isMotion cm.d _).mono ?_; rintro e w3 ⟨rfl, hb3⟩; rw [hmo])))
   go_meet
   exact ⟨rfl, hb2.trans (hb3.mono hb2.size)⟩
 obtain ⟨rfl, hb1⟩ := hcut
 have hL2 := hLn.below hb1 hLn.lt; have hR2 := hRg.below hb1 hRg.lt; have hF2 := hFd.below hb1 hFd.lt; have hC2 := hCm.below hb1 hCm.lt; have hZ2 := hZ.below hb1 hZ.lt
 have hB2 := hbw.trans (hb1.mono (by omega))
 clear d0 d1 d2 d3 d4 l0 l1
 obtain ⟨l0, l1, -, -⟩ := Blk.two hL2
 obtain ⟨p0, p1, -, -⟩ := Blk.two hF2
 obtain ⟨d0, d1, d2, d3, d4⟩ := Blk.five hC2
 go_upto_region 10 with (first | (go_at_call 184; go_loud (refine (CS.out _ hB2).mono ?_; rintro e w3 ⟨rfl, hb3⟩; have hZ3 := hZ2.below hb3 hZ2.lt; have HB3 := Lib.hid (hB2.trans (hb3.mono hB2.size)); have hR3 := hR2.below hb3 hR2.lt; have hL3 := hL2.below hb3 hL2.lt; have hF3 := hF2.below hb3 hF2.lt; clear l0 l1 p0 p1; obtain ⟨l0, l1, -, -⟩ := Blk.two hL3; obtain ⟨p0, p1, -, -⟩ := Blk.two hF3; have hC3 := hC2.below hb3 hC2.lt; clear d0 d1 d2 d3 d4; obtain ⟨d0, d1, d2, d3, d4⟩ := Blk.five hC3)) | (refine regs_load rfl _ rfl (w.heap.size + 1) rfl vs _ hR3 hlv ?_) | ((with_reducible show wpList _ _ _ (⟨_, Op.build _ _, _, _, _, _⟩ :: _) _ _); refine resL_build rfl _ _ _ rfl a n c (k : Int) fk fa vs rfl rfl rfl hlv ?_) | ((with_reducible show wpList _ _ _ (⟨none, Op.store _ _ _, _, _, _, _⟩ :: _) _ _); go_loud (refine res_store rfl _ _ rfl w3.heap.size 0 rfl (resL (.slice a n c) (k : Int) vs fk fa) rfl zero33 _ (BlkR.new w3 zero33 138) (Nat.le_refl 33) (resL_len hlv) hone ?_; change wpList _ _ _ _ _ ((w3.alloc (.cells (rgA zero33) 138)).setCells w3.heap.size 0 (resL (.slice a n c) (k : Int) vs fk fa)); have hz9 := zero_store (w := w3) (BlkR.new w3 zero33 138) zero33_len (below1 w3 _) (Nat.le_refl _) (resL (.slice a n c) (k : Int) vs fk fa) (resL_len hlv); generalize ((w3.alloc (.cells (rgA zero33) 138)).setCells w3.heap.size 0 (resL (.slice a n c) (k : Int) vs fk fa)) = w9 at hz9 ⊢)))
 have hL9 : Blk w9 w.heap.size #[.slice a n c, .int .i64 (k : Int)] 131 := hL3.below hz9.2 hL3.lt
 have hR9 := hR3.below hz9.2 hR3.lt
 have hC9 := hC3.below hz9.2 hC3.lt
 have hZ9 := hZ3.below hz9.2 hZ3.lt
 have hb9 := HB3.out.trans (hz9.2.mono HB3.out.size)
 have h9 := rb_new HI.out cm hz9.1 hb9 HB3.out.size
 dsimp only at h9
 have hP5 : w.heap.size + 4 < w3.heap.size := hZ3.lt
 have hP9 : w3.heap.size < w9.heap.size := hz9.1.lt
 clear hL2 hR2 hF2 hC2 hZ2 hB2 hLn hRg hFd hCm hZ hbw hsz hL3 hR3 hF3 hC3 hZ3 d0 d1 d2 d3 d4 l0 l1 p0 p1 HB3 hb3 hb1 hz9 hone
 generalize w3.heap.size = P at *
 have HZ9 := Lib.hid hZ9; have HC9 := Lib.hid hC9; have HR9 := Lib.hid hR9; have HL9 := Lib.hid hL9; have H9 := Lib.hid h9
 obtain ⟨l0, l1, -, -⟩ := Blk.two hL9
 obtain ⟨d0, d1, d2, d3, d4⟩ := Blk.five hC9
 have rr : w9.rangeAt (w.heap.size + 1) 0 vs := rangeAt_blk hR9
 clear hL9 hR9 hC9 hZ9 h9
 obtain ⟨y, hy⟩ : ∃ y, (t.take g).drop f = y := ⟨_, rfl⟩
 rw [hy] at hE
 have hcr := cut_run a n c f g hfg (by omega)
 have HL := Lib.hid (show y.length = g - f by rw [← hy, List.length_drop, List.length_take, HT.out]; omega)
 have hcut := HTi.out.cutTo (c := c) f g (by rw [HT.out]; exact hcap) hfg (by rw [HT.out]; exact hgn)
 rw [hy] at hcut
 have HC0 := Lib.hid (show cutA a c f = none → g - f = 0 from fun hz => by have := HN0.out (cutA_none hz); omega)
 obtain ⟨aa, haa⟩ : ∃ aa, cutA a c f = aa := ⟨_, rfl⟩
 rw [haa] at hcr hcut HC0
 have HCU := Lib.hid hcut
 have HCUS := Lib.hid (show InV ⟨w, a, n, c, t, k, vs, X⟩ (.slice aa (g - f) (c - f)) y from .inr (.inr ⟨f, g, hfg, hgn, by rw [← haa], hy.symm⟩))
 have PUT : ∀ w1, Below w.heap.size w w1 → Calls Try.prog 185 #[.agg vs.toArray, .int .i64 cm.b, .slice aa (g - f) (c - f)] w1 (PutPostV vs X (.slice aa (g - f) (c - f)) y (putYs X cm.b y) (putEs X cm.b y) w1) := fun w1 hb =>
  ref_putV vs X cm.b aa (g - f) (c - f) y w1 (HR.out.keep (below_keeps hb)) HSm.out (HCU.out.below hb) HL.out (by omega) (by omega) HC0.out (by omega)
 have HPUT := Lib.hid PUT
 have HYT := Lib.hid hy
 clear PUT hcut haa hy
 rw [hE] at HPUT
 have nE : (E != 0) = true := by simpa using h0
 clear hE h0
 go_upto_region 11 with fail
 have hu := under_regs
 have hz : (Try.prog.info? 133).map (·.size) = some vs.length := by rw [hlv]; exact size_regs
 have n0 : w.heap.size ≠ P := by omega
 have n3 : w.heap.size + 3 ≠ P := by omega
 have n1 : w.heap.size + 1 ≠ P := by omega
 go_region_held3 (fun w' => w'.cell? ⟨w.heap.size, 0, none⟩ = some (.slice a n c) ∧ w'.cell? ⟨w.heap.size + 3, 1, none⟩ = some (.int .i64 cm.b) ∧ w'.rangeAt (w.heap.size + 1) 0 vs ∧ Asd P w9 w') (first | exact ⟨l0, d1, rr, (Asd.refl _ _).drew⟩ | (with_reducible assumption) | exact keepO n0 n3 n1 ‹_› (Asd.of ‹_›) | exact keepO n0 n3 n1 ‹_› (Asd.setCells _))
  (first | (go_at_call 185; go_loud (refine (HPUT.out w9.drew (H9.out.bel.drew)).mono ?_; rintro e w8 ⟨vs8, rfl, hp8, hb8⟩; have hz8 : (Try.prog.info? 133).map (·.size) = some vs8.length := (by rw [hp8.1]; exact size_regs); have hl8 := hp8.1; have h8 := H9.out.to ((Below.refl _ _).drew.trans hb8); have hv8 := pv_slb HCUS.out hp8 (show P < w9.drew.heap.size from hP9); have ho8 := slb_one HI.out hp8.1 hv8; have HA10 := Lib.hid ((Asd.of (P := P) (show Below w9.heap.size w9 w8 from (Below.refl w9.heap.size w9).drew.trans hb8)).trans (Asd.setCells (o := 2) vs8)); have HB10 := Lib.hid ((left_setCells w8 P 2 vs8).bel h8.ge h8.bel); have ht8 : w8.there P 2 27 := h8.there (by omega); clear h8 hv8 hp8)))
 all_goals
  have hZ10 := HA10.out.blk (B := w.heap.size + 4) (by omega) HZ9.out
  clear HA10 l0 d0 d1 d2 d3 d4 l1
  generalize w8.setCells P 2 vs8 = w10 at *
  go_wp2_with (((with_reducible show wpList _ _ _ (⟨none, Op.store _ _ _, _, _, _, _⟩ :: _) _ _); go_loud (refine res_store rfl _ _ rfl (w.heap.size + 4) 0 rfl zero33 rfl zero33 _ hZ10 (Nat.le_refl 33) rfl one_zero33 ?_; have hz9 := zero_store hZ10 zero33_len HB10.out (by omega) zero33 rfl; generalize w10.setCells (w.heap.size + 4) 0 zero33 = w9 at hz9 ⊢)))
  exact bodyPost_ret (results_ct Try.results143 rfl (res_loadVar hz9.1 zero33_len)) rfl ⟨zero33, rfl, (rsI_zero w.heap.size _ cm).rsQ _, hz9.2⟩
set_option maxRecDepth 100000 in
set_option maxHeartbeats 4000000 in
theorem opd_main (I : In) (hI : InOk I) (fk fa : Int) (cm : C5) (hk : cm.d = cm.c ∨ (cm.d ≠ cm.c ∧ iaB cm.d = true) ∨ (cm.d ≠ cm.c ∧ iaB cm.d = false ∧ motB cm.d = true)) (f g : Nat) (hS : ∀ w1, Below I.w0.heap.size I.w0 w1 → Calls Try.prog 184 #[.agg #[.slice I.a I.n I.c, .int .i64 (I.k : Int)], .agg #[.int .i64 fk, .int .i64 fa], .agg #[.int .i64 cm.a, .int .i64 cm.b, .int .i64 cm.c, .int .i64 cm.d, .int .i64 cm.e]] w1 (SpPost f g 0 w1)) (hfg : f ≤ g) (hgn : g ≤ I.n) (hne : f < g ∨ (f = g ∧ cm.c = 99)) (hE : f < g → putEs I.X cm.b ((I.t.take g).drop f) = 0) :
  Calls Try.prog 143 #[.agg #[.slice I.a I.n I.c, .int .i64 (I.k : Int)], .agg (rgA I.vs), .agg #[.int .i64 fk, .int .i64 fa], .agg #[.int .i64 cm.a, .int .i64 cm.b, .int .i64 cm.c, .int .i64 cm.d, .int .i64 cm.e]] I.w0 (ResPost I 0 (opQ I cm fk fa f g) I.w0) := by
 have CS := Lib.hid hS
 have HK := Lib.hid hk
 have HI := Lib.hid hI
 have hlv := hI.rgs.lv
 have HR := Lib.hid hI.rgs
 have HSm := Lib.hid hI.small
 have HT := Lib.hid (show I.t.length = I.n from hI.len)
 have htop := hI.top
 have HTi := Lib.hid hI.ints
 have HN0 := Lib.hid hI.none
 have hcap := hI.cap; have hcap2 := hI.cap2
 clear hS hk hI
 obtain ⟨w, a, n, c, t, k, vs, X⟩ := I
 dsimp only at *
 have hone : ∀ v ∈ resL (.slice a n c) (k : Int) vs fk fa, v.oneCell' = true := resL_one HR.out
 obtain ⟨sQ, hsQ⟩ : ∃ sQ, opQ ⟨w, a, n, c, t, k, vs, X⟩ cm fk fa f g = sQ := ⟨_, rfl⟩
 rw [hsQ]
 have HSQ := Lib.hid hsQ
 clear hsQ
 have hbx := boxes5 w #[.slice a n c, .int .i64 (k : Int)] #[.int .i64 fk, .int .i64 fa] #[.int .i64 cm.a, .int .i64 cm.b, .int .i64 cm.c, .int .i64 cm.d, .int .i64 cm.e] vs zero33 131 133 135 80 138
 dsimp only at hbx
 rw [show rgA zero33 = #[.slice none 0 0, .int .i64 0, .slice none 0 0, .slice none 0 0, .slice none 0 0, .slice none 0 0, .slice none 0 0, .slice none 0 0, .slice none 0 0, .slice none 0 0, .slice none 0 0, .slice none 0 0, .slice none 0 0, .slice none 0 0, .slice none 0 0, .slice none 0 0, .slice none 0 0, .slice none 0 0, .slice none 0 0, .slice none 0 0, .slice none 0 0, .slice none 0 0, .slice none 0 0, .slice none 0 0, .slice none 0 0, .slice none 0 0, .slice none 0 0, .slice none 0 0, .slice none 0 0, .int .i64 0, .int .i64 0, .int .i64 0, .slice none 0 0] from rfl] at hbx
 go_enter Try.func143, Try.ntmps143
 go_upto_region 1 with fail
 generalize (((((w.alloc (.cells #[.slice a n c, .int .i64 (k : Int)] 131)).alloc (.cells (rgA vs) 133)).alloc (.cells #[.int .i64 fk, .int .i64 fa] 135)).alloc (.cells #[.int .i64 cm.a, .int .i64 cm.b, .int .i64 cm.c, .int .i64 cm.d, .int .i64 cm.e] 80)).alloc (.cells #[.slice none 0 0, .int .i64 0, .slice none 0 0, .slice none 0 0, .slice none 0 0, .slice none 0 0, .slice none 0 0, .slice none 0 0, .slice none 0 0, .slice none 0 0, .slice none 0 0, .slice none 0 0, .slice none 0 0, .slice none 0 0, .slice none 0 0, .slice none 0 0, .slice none 0 0, .slice none 0 0, .slice none 0 0, .slice none 0 0, .slice none 0 0, .slice none 0 0, .slice none 0 0, .slice none 0 0, .slice none 0 0, .slice none 0 0, .slice none 0 0, .slice none 0 0, .slice none 0 0, .int .i64 0, .int .i64 0, .int .i64 0, .slice none 0 0] 138)) = w5 at *
 obtain ⟨hLn, hRg, hFd, hCm, hZ, hbw, hsz⟩ := hbx
 obtain ⟨l0, l1, -, -⟩ := hLn.two
 obtain ⟨d0, d1, d2, d3, d4⟩ := Blk.five hCm
 go_upto_region 1 with fail
 go_cut [10] (fun v wx => v = .bool true ∧ Below w5.heap.size w5 wx)
 case first =>
  rcases HK.out with h1 | ⟨h1, h2⟩ | ⟨h1, h2, h3⟩
  ·have x1 : (cm.d == cm.c) = true := by simpa using h1
   clear h1
   go_wp2
   go_meet
   exact ⟨rfl, Below.refl _ _⟩
  ·have x1 : (cm.d == cm.c) = false := by simpa using h1
   have hin := h2
   clear h1 h2
   go_wp2_with (go_at_call 121; go_loud (refine (ref_in cm.d ⟨#[105, 97]⟩ (by decide) _).mono ?_; rintro e w2 ⟨rfl, hb2⟩; rw [in_ia, hin]))
   go_meet
   exact ⟨rfl, hb2⟩
  ·have x1 : (cm.d == cm.c) = false := by simpa using h1
   have hin := h2; have hmo := h3
   clear h1 h2 h3
   go_wp2_with (first | (go_at_call 121; go_loud (refine (ref_in cm.d ⟨#[105, 97]⟩ (by decide) _).mono ?_; rintro e w2 ⟨rfl, hb2⟩; rw [in_ia, hin]; have hC2 := hCm.below hb2 hCm.lt; clear d0 d1 d2 d3 d4; obtain ⟨d0, d1, d2, d3, d4⟩ := Blk.five hC2)) | (go_at_call 144; go_loud (refine (ref_isMotion cm.d _).mono ?_; rintro e w3 ⟨rfl, hb3⟩; rw [hmo])))
   go_meet
   exact ⟨rfl, hb2.trans (hb3.mono hb2.size)⟩
 obtain ⟨rfl, hb1⟩ := hcut
 have hL2 := hLn.below hb1 hLn.lt; have hR2 := hRg.below hb1 hRg.lt; have hF2 := hFd.below hb1 hFd.lt; have hC2 := hCm.below hb1 hCm.lt; have hZ2 := hZ.below hb1 hZ.lt
 have hB2 := hbw.trans (hb1.mono (by omega))
 clear d0 d1 d2 d3 d4 l0 l1
 obtain ⟨l0, l1, -, -⟩ := Blk.two hL2
 obtain ⟨p0, p1, -, -⟩ := Blk.two hF2
 obtain ⟨d0, d1, d2, d3, d4⟩ := Blk.five hC2
 go_upto_region 7 with (go_at_call 184; go_loud (refine (CS.out _ hB2).mono ?_; rintro e w3 ⟨rfl, hb3⟩; have hZ3 := hZ2.below hb3 hZ2.lt; have HB3 := Lib.hid (hB2.trans (hb3.mono hB2.size)); have hR3 := hR2.below hb3 hR2.lt; have hL3 := hL2.below hb3 hL2.lt; have hF3 := hF2.below hb3 hF2.lt; clear l0 l1 p0 p1; obtain ⟨l0, l1, -, -⟩ := Blk.two hL3; obtain ⟨p0, p1, -, -⟩ := Blk.two hF3; have hC3 := hC2.below hb3 hC2.lt; clear d0 d1 d2 d3 d4; obtain ⟨d0, d1, d2, d3, d4⟩ := Blk.five hC3))
 go_cut [52] (fun v wx => v = .bool false ∧ w3 = wx)
 case first =>
  rcases hne with h | ⟨h, h'⟩
  ·have nfg : ((f : Int) == (g : Int)) = false := by simp; omega
   go_wp2
   go_meet
   exact ⟨rfl, rfl⟩
  ·have nfg : ((f : Int) == (g : Int)) = true := by simp; omega
   have n99 : (cm.c != 99) = false := by simpa using h'
   clear h h'
   go_wp2
   go_meet
   exact ⟨rfl, rfl⟩
 obtain ⟨rfl, rfl⟩ := hcut
 go_upto_region 10 with (first | (refine regs_load rfl _ rfl (w.heap.size + 1) rfl vs _ hR3 hlv ?_) | ((with_reducible show wpList _ _ _ (⟨_, Op.build _ _, _, _, _, _⟩ :: _) _ _); refine resL_build rfl _ _ _ rfl a n c (k : Int) fk fa vs rfl rfl rfl hlv ?_) | ((with_reducible show wpList _ _ _ (⟨none, Op.store _ _ _, _, _, _, _⟩ :: _) _ _); go_loud (refine res_store rfl _ _ rfl w3.heap.size 0 rfl (resL (.slice a n c) (k : Int) vs fk fa) rfl zero33 _ (BlkR.new w3 zero33 138) (Nat.le_refl 33) (resL_len hlv) hone ?_; change wpList _ _ _ _ _ ((w3.alloc (.cells (rgA zero33) 138)).setCells w3.heap.size 0 (resL (.slice a n c) (k : Int) vs fk fa)); have hz9 := zero_store (w := w3) (BlkR.new w3 zero33 138) zero33_len (below1 w3 _) (Nat.le_refl _) (resL (.slice a n c) (k : Int) vs fk fa) (resL_len hlv); generalize ((w3.alloc (.cells (rgA zero33) 138)).setCells w3.heap.size 0 (resL (.slice a n c) (k : Int) vs fk fa)) = w9 at hz9 ⊢)))
 have hL9 : Blk w9 w.heap.size #[.slice a n c, .int .i64 (k : Int)] 131 := hL3.below hz9.2 hL3.lt
 have hR9 := hR3.below hz9.2 hR3.lt
 have hC9 := hC3.below hz9.2 hC3.lt
 have hZ9 := hZ3.below hz9.2 hZ3.lt
 have hb9 := HB3.out.trans (hz9.2.mono HB3.out.size)
 have h9 := rb_new HI.out cm hz9.1 hb9 HB3.out.size
 dsimp only at h9
 have hP5 : w.heap.size + 4 < w3.heap.size := hZ3.lt
 have hP9 : w3.heap.size < w9.heap.size := hz9.1.lt
 clear hL2 hR2 hF2 hC2 hZ2 hB2 hLn hRg hFd hCm hZ hbw hsz hL3 hR3 hF3 hC3 hZ3 d0 d1 d2 d3 d4 l0 l1 p0 p1 HB3 hb3 hb1 hz9 hone
 generalize w3.heap.size = P at *
 have HZ9 := Lib.hid hZ9; have HC9 := Lib.hid hC9; have HR9 := Lib.hid hR9; have HL9 := Lib.hid hL9; have H9 := Lib.hid h9
 obtain ⟨l0, l1, -, -⟩ := Blk.two hL9
 obtain ⟨d0, d1, d2, d3, d4⟩ := Blk.five hC9
 have rr : w9.rangeAt (w.heap.size + 1) 0 vs := rangeAt_blk hR9
 clear hL9 hR9 hC9 hZ9 h9
 obtain ⟨y, hy⟩ : ∃ y, (t.take g).drop f = y := ⟨_, rfl⟩
 rw [hy] at hE
 have hcr := cut_run a n c f g hfg (by omega)
 have HL := Lib.hid (show y.length = g - f by rw [← hy, List.length_drop, List.length_take, HT.out]; omega)
 have hcut := HTi.out.cutTo (c := c) f g (by rw [HT.out]; exact hcap) hfg (by rw [HT.out]; exact hgn)
 rw [hy] at hcut
 have HC0 := Lib.hid (show cutA a c f = none → g - f = 0 from fun hz => by have := HN0.out (cutA_none hz); omega)
 obtain ⟨aa, haa⟩ : ∃ aa, cutA a c f = aa := ⟨_, rfl⟩
 rw [haa] at hcr hcut HC0
 have HCU := Lib.hid hcut
 have HCUS := Lib.hid (show InV ⟨w, a, n, c, t, k, vs, X⟩ (.slice aa (g - f) (c - f)) y from .inr (.inr ⟨f, g, hfg, hgn, by rw [← haa], hy.symm⟩))
 have PUT : ∀ w1, Below w.heap.size w w1 → Calls Try.prog 185 #[.agg vs.toArray, .int .i64 cm.b, .slice aa (g - f) (c - f)] w1 (PutPostV vs X (.slice aa (g - f) (c - f)) y (putYs X cm.b y) (putEs X cm.b y) w1) := fun w1 hb =>
  ref_putV vs X cm.b aa (g - f) (c - f) y w1 (HR.out.keep (below_keeps hb)) HSm.out (HCU.out.below hb) HL.out (by omega) (by omega) HC0.out (by omega)
 have HPUT := Lib.hid PUT
 have HYT := Lib.hid hy
 clear PUT hcut haa hy
 obtain ⟨Y1, hY1⟩ : ∃ Y1, (if f < g then putYs X cm.b y else X) = Y1 := ⟨_, rfl⟩
 have HYY := Lib.hid hY1
 have HEE := Lib.hid hE
 clear hE
 have hopq : opQ ⟨w, a, n, c, t, k, vs, X⟩ cm fk fa f g = if cm.c = 121 then ⟨cm, t, if cm.d = cm.c then (k : Int) else min (k : Int) f, Y1, lkV fk cm.d, laV fa cm.d cm.e, 0, []⟩ else if cm.c = 99 then ⟨cm, t.take f ++ t.drop g, (f : Int), Y1, lkV fk cm.d, laV fa cm.d cm.e, 1, []⟩ else ⟨cm, t.take f ++ t.drop g, clV f ((t.take f ++ t.drop g).length : Int), Y1, lkV fk cm.d, laV fa cm.d cm.e, 0, []⟩ := by
  unfold opQ
  dsimp only
  rw [show (t.take g).drop f = y from HYT.out, hY1]
 have HOPQ := Lib.hid (HSQ.out.symm.trans hopq)
 clear hopq hY1
 simp only [Act.put, List.setIfInBounds_toArray, List.set_cons_zero, List.set_cons_succ]
 go_cut [60] (fun v wx => ∃ b : Bool, v = .bool b ∧ b = decide (f < g) ∧ w9 = wx)
 case first =>
  go_wp2
  go_meet
  exact ⟨_, rfl, by simp, rfl⟩
 obtain ⟨b, rfl, hbq, rfl⟩ := hcut
 go_upto_if 60 with fail
 go_cut [13] (fun v wx => v = .int .i64 0 ∧ (∃ us, RB ⟨w, a, n, c, t, k, vs, X⟩ P wx us ⟨cm, t, (k : Int), Y1, fk, fa, 0, []⟩) ∧ Asd P w9 wx)
 case first =>
  cases b
  ·have hnl : ¬ f < g := by simpa using hbq
   have HN1 := Lib.hid hnl
   clear hbq hnl hcr
   go_wp2
   go_meet
   exact ⟨rfl, ⟨_, by rw [← HYY.out, if_neg HN1.out]; exact H9.out⟩, Asd.refl _ _⟩
  ·have hnl : f < g := by simpa using hbq
   have HN1 := Lib.hid hnl
   rw [HEE.out hnl] at HPUT
   clear hbq hnl
   go_upto_region 11 with fail
   have hu := under_regs
   have hz : (Try.prog.info? 133).map (·.size) = some vs.length := by rw [hlv]; exact size_regs
   have n0 : w.heap.size ≠ P := by omega
   have n3 : w.heap.size + 3 ≠ P := by omega
   have n1 : w.heap.size + 1 ≠ P := by omega
   go_region_held3 (fun w' => w'.cell? ⟨w.heap.size, 0, none⟩ = some (.slice a n c) ∧ w'.cell? ⟨w.heap.size + 3, 1, none⟩ = some (.int .i64 cm.b) ∧ w'.rangeAt (w.heap.size + 1) 0 vs ∧ Asd P w9 w') (first | exact ⟨l0, d1, rr, (Asd.refl _ _).drew⟩ | (with_reducible assumption) | exact keepO n0 n3 n1 ‹_› (Asd.of ‹_›) | exact keepO n0 n3 n1 ‹_› (Asd.setCells _))
    (first | (go_at_call 185; go_loud (refine (HPUT.out w9.drew (H9.out.bel.drew)).mono ?_; rintro e w8 ⟨vs8, rfl, hp8, hb8⟩; have hz8 : (Try.prog.info? 133).map (·.size) = some vs8.length := (by rw [hp8.1]; exact size_regs); have hl8 := hp8.1; have h8 := H9.out.to ((Below.refl _ _).drew.trans hb8); have hv8 := pv_slb HCUS.out hp8 (show P < w9.drew.heap.size from hP9); have ho8 := slb_one HI.out hp8.1 hv8; have HA10 := Lib.hid ((Asd.of (P := P) (show Below w9.heap.size w9 w8 from (Below.refl w9.heap.size w9).drew.trans hb8)).trans (Asd.setCells (o := 2) vs8)); have ht8 : w8.there P 2 27 := h8.there (by omega); have H10 := Lib.hid (h8.setRegs vs8 _ hp8.1 hp8.2.1 hv8); clear h8 hv8 hp8)))
   all_goals
    go_wp2
    go_meet
    exact ⟨rfl, ⟨_, by rw [← HYY.out, if_pos HN1.out]; exact H10.out⟩, HA10.out⟩
 obtain ⟨rfl, ⟨us1, h1⟩, hA1⟩ := hcut
 clear l0 l1 d0 d1 d2 d3 d4 rr HPUT hcr HCUS HCU HC0 HL hbq
 have hC1 := hA1.blk (B := w.heap.size + 3) (by omega) HC9.out
 obtain ⟨d0, d1, d2, d3, d4⟩ := Blk.five hC1
 go_upto_if 80 with (go_at_call 141; go_loud (refine (ref_isFind cm.d _).mono ?_; rintro e w4 ⟨rfl, hb4⟩; have h4 := h1.to hb4; have hA4 := hA1.trans (Asd.of hb4); clear d0 d1 d2 d3 d4; obtain ⟨d0, d1, d2, d3, d4⟩ := Blk.five (hA4.blk (B := w.heap.size + 3) (by omega) HC9.out); have k0 := h4.b.cell (i := 29) (by rw [h4.lu]; omega); have k1 := h4.b.cell (i := 30) (by rw [h4.lu]; omega); have kf0 := h4.b.free 29; have kf1 := h4.b.free 30))
 have H4 := Lib.hid h4; have HA4 := Lib.hid hA4
 clear h1 h4 hA1 hA4
 go_cut [13] (fun v wx => v = .int .i64 0 ∧ (∃ us, RB ⟨w, a, n, c, t, k, vs, X⟩ P wx us ⟨cm, t, (k : Int), Y1, lkV fk cm.d, laV fa cm.d cm.e, 0, []⟩) ∧ Asd P w9 wx)
 case first =>
  cases hbf : fiB cm.d
  ·have HBF := Lib.hid hbf
   clear hbf
   go_wp2
   go_meet
   refine ⟨rfl, ⟨us1, ?_⟩, HA4.out⟩
   rw [show lkV fk cm.d = fk by rw [lkV, HBF.out]; rfl, show laV fa cm.d cm.e = fa by rw [laV, HBF.out]; rfl]
   exact H4.out
  ·have HBF := Lib.hid hbf
   clear hbf
   go_wp2
   go_meet
   refine ⟨rfl, ⟨(us1.set 29 (.int .i64 cm.d)).set 30 (.int .i64 cm.e), ?_⟩, ?_⟩
   ·rw [show lkV fk cm.d = cm.d by rw [lkV, HBF.out]; rfl, show laV fa cm.d cm.e = cm.e by rw [laV, HBF.out]; rfl]
    exact (H4.out.setK cm.d).setA cm.e
   ·exact (HA4.out.trans (Asd.set _)).trans (Asd.set _)
 obtain ⟨rfl, ⟨us2, h2⟩, hA2⟩ := hcut
 clear d0 d1 d2 d3 d4 k0 k1 kf0 kf1 H4 HA4 hb4
 obtain ⟨d0, d1, d2, d3, d4⟩ := Blk.five (hA2.blk (B := w.heap.size + 3) (by omega) HC9.out)
 obtain ⟨l0, l1, -, -⟩ := Blk.two (hA2.blk (B := w.heap.size) (by omega) HL9.out)
 have p1 := h2.b.cell (i := 1) (by rw [h2.lu]; omega)
 have pf1 := h2.b.free 1
 have H2 := Lib.hid h2; have HA2 := Lib.hid hA2
 clear h2 hA2
 by_cases h121 : cm.c = 121
 ·have HQ := Lib.hid (HOPQ.out.trans (if_pos h121))
  have x121 : (cm.c == 121) = true := by simpa using h121
  clear h121
  go_upto_if 94 with fail
  go_cut [13] (fun v wx => v = .int .i64 0 ∧ (∃ us, RB ⟨w, a, n, c, t, k, vs, X⟩ P wx us ⟨cm, t, if cm.d = cm.c then (k : Int) else min (k : Int) f, Y1, lkV fk cm.d, laV fa cm.d cm.e, 0, []⟩) ∧ Asd P w9 wx)
  case first =>
   by_cases hdc : cm.d = cm.c
   ·have HDC := Lib.hid hdc
    have xdc : (cm.d != cm.c) = false := by simpa using hdc
    clear hdc
    go_wp2
    go_meet
    rw [if_pos HDC.out]
    exact ⟨rfl, ⟨_, H2.out⟩, HA2.out⟩
   ·have HDC := Lib.hid hdc
    have xdc : (cm.d != cm.c) = true := by simpa using hdc
    clear hdc
    rcases Nat.lt_trichotomy k f with h3 | rfl | h3
    ·have hmn : min (k : Int) (f : Int) = (k : Int) := by omega
     have HMN := Lib.hid hmn
     clear hmn
     have i3 : (k : Int) < (f : Int) := by omega
     go_wp2
     all_goals
      go_meet
      rw [if_neg HDC.out, HMN.out]
      exact ⟨rfl, ⟨_, H2.out.setP _⟩, HA2.out.trans (Asd.set _)⟩
    ·have hmn : min (k : Int) (k : Int) = (k : Int) := by omega
     have HMN := Lib.hid hmn
     clear hmn
     go_wp2
     all_goals
      go_meet
      rw [if_neg HDC.out, HMN.out]
      exact ⟨rfl, ⟨_, H2.out.setP _⟩, HA2.out.trans (Asd.set _)⟩
    ·have hmn : min (k : Int) (f : Int) = (f : Int) := by omega
     have HMN := Lib.hid hmn
     clear hmn
     have i3 : (f : Int) < (k : Int) := by omega
     go_wp2
     all_goals
      go_meet
      rw [if_neg HDC.out, HMN.out]
      exact ⟨rfl, ⟨_, H2.out.setP _⟩, HA2.out.trans (Asd.set _)⟩
  obtain ⟨rfl, ⟨us3, h3⟩, hA3⟩ := hcut
  clear d0 d1 d2 d3 d4 l0 l1 p1 pf1 H2 HA2
  have hZx := hA3.blk (B := w.heap.size + 4) (by omega) HZ9.out
  have HBx := Lib.hid h3.bel
  have hlx := h3.lu
  have hrx := h3.rsQ.left (left_setCells wc (w.heap.size + 4) 0 us3) (by omega)
  have hgx : wc.rangeAt P 0 us3 := rangeAt_blk h3.b
  have hox := RsQ.one HI.out h3.rsQ
  clear h3 hA3
  go_wp2_with (first | ((with_reducible show wpList _ _ _ (⟨_, Op.load _ _, _, _, _, _⟩ :: _) _ _); refine res_load rfl _ rfl P 0 rfl us3 hgx hlx ?_) | ((with_reducible show wpList _ _ _ (⟨none, Op.store _ _ _, _, _, _, _⟩ :: _) _ _); revert hlx))
  intro hlx
  refine res_store rfl _ _ rfl (w.heap.size + 4) 0 rfl us3 rfl zero33 _ hZx (Nat.le_refl 33) hlx hox ?_
  have hz9 := zero_store (w := w) hZx zero33_len HBx.out (Nat.le_add_right _ 4) us3 hlx
  generalize wc.setCells (w.heap.size + 4) 0 us3 = w9' at hz9 hrx ⊢
  have HZ9' := Lib.hid hz9; have HRX := Lib.hid hrx; have HLX := Lib.hid hlx
  clear hz9 hrx hlx hgx hox hZx
  dsimp only [Act.put]
  repeat go_step
  exact bodyPost_ret (results_ct Try.results143 rfl (res_loadVar HZ9'.out.1 HLX.out)) rfl ⟨us3, rfl, by rw [HQ.out]; exact HRX.out.mono (by omega), HZ9'.out.2⟩
 ·have HQ := Lib.hid (HOPQ.out.trans (if_neg h121))
  have x121 : (cm.c == 121) = false := by simpa using h121
  clear h121
  have hcr1 := cut_run_to a n c f (by omega)
  have hcr2 := cut_run_end a n c g hgn
  have hTx := HTi.out.below H2.out.bel
  have L1 := Lib.hid (show (t.take f).length = f by rw [List.length_take, HT.out]; omega)
  have L2 := Lib.hid (show (t.drop g).length = n - g by rw [List.length_drop, HT.out])
  have hcat := (catIn2 wc 22 c (c - g) (hTx.take f) (hTx.cutEnd (c := c) g (by rw [HT.out]; exact hcap) (by rw [HT.out]; exact hgn)) L1.out L2.out (by omega) (by omega) (fun hz => by have := HN0.out hz; omega) (fun hz => by have := HN0.out (cutA_none hz); omega)).drew
  obtain ⟨ag, hag⟩ : ∃ ag, cutA a c g = ag := ⟨_, rfl⟩
  rw [hag] at hcr2 hcat
  have HCAT := Lib.hid hcat
  have HLL := Lib.hid (show (t.take f ++ t.drop g).length = f + (n - g) by rw [List.length_append, L1.out, L2.out])
  have hPw : P < wc.heap.size := H2.out.b.lt
  have hne0 : w.heap.size ≠ P := by omega
  clear hcat hag hTx p1 pf1
  have hzl : P < (wc.alloc (.cells #[.slice a f c, .slice ag (n - g) (c - g)] 22)).drew.heap.size := by show _ < (wc.alloc _).heap.size; rw [World.size_alloc]; omega
  have H2A := Lib.hid (H2.out.to (below1 wc (.cells #[.slice a f c, .slice ag (n - g) (c - g)] 22)).drew)
  have HAA := Lib.hid (HA2.out.trans (Asd.of (below1 wc (.cells #[.slice a f c, .slice ag (n - g) (c - g)] 22)).drew))
  go_upto_region 20 with fail
  go_cut [13] (fun v wx => v = .int .i64 0 ∧ (∃ us, RB ⟨w, a, n, c, t, k, vs, X⟩ P wx us ⟨cm, t.take f ++ t.drop g, (k : Int), Y1, lkV fk cm.d, laV fa cm.d cm.e, 0, []⟩) ∧ Asd P w9 wx)
  case first =>
   go_region_held3 (fun w' => w'.cell? ⟨w.heap.size, 0, none⟩ = some (.slice a n c) ∧ Asd P wc w') (first | exact ⟨l0, (Asd.refl _ _).drew⟩ | (with_reducible assumption) | exact keepA1 hne0 ‹_› (Asd.of ‹_›) | exact keepA1 hne0 ‹_› (Asd.of (below1 _ _)) | exact keepA1 hne0 ‹_› (Asd.set _))
    (first | (go_at_call 46; go_loud (refine (slices_concat _ 2 _ _ _ _ _ HCAT.out (by omega)).mono ?_; rintro e w8 ⟨v8, rfl, o8, hb8⟩; obtain ⟨a8, n8, c8, rfl⟩ := o8.form; have h8 := H2A.out.to hb8; have hA8 := Lib.hid (HAA.out.trans (Asd.of hb8)); have o9 := o8.mono (base' := P + 1) hzl; have z0 := h8.b.cell (i := 0) (by rw [h8.lu]; omega); have zf0 := h8.b.free 0; have H8 := Lib.hid h8; clear h8)))
   all_goals
    rw [joinX2] at o9
    go_wp2
    go_meet
    exact ⟨rfl, ⟨_, H8.out.setO _ _ (.inr o9)⟩, hA8.out.trans (Asd.set _)⟩
  obtain ⟨rfl, ⟨us4, h4⟩, hA4⟩ := hcut
  clear d0 d1 d2 d3 d4 l0 l1 H2A HAA HCAT hzl hcr1 hcr2
  obtain ⟨d0, d1, d2, d3, d4⟩ := Blk.five (hA4.blk (B := w.heap.size + 3) (by omega) HC9.out)
  have p1 := h4.b.cell (i := 1) (by rw [h4.lu]; omega)
  have pf1 := h4.b.free 1
  have h5 := h4.setP (f : Int)
  have H5 := Lib.hid h5; have HA5 := Lib.hid (hA4.trans (Asd.set (i := 1) (.int .i64 (f : Int))))
  have d2' := (HA5.out.blk (B := w.heap.size + 3) (by omega) HC9.out).five.2.2.1
  clear H2 HA2 h4 h5 hA4
  go_upto_if 119 with fail
  go_cut [13] (fun v wx => v = .int .i64 0 ∧ (∃ us, RB ⟨w, a, n, c, t, k, vs, X⟩ P wx us (if cm.c = 99 then ⟨cm, t.take f ++ t.drop g, (f : Int), Y1, lkV fk cm.d, laV fa cm.d cm.e, 1, []⟩ else ⟨cm, t.take f ++ t.drop g, clV f ((t.take f ++ t.drop g).length : Int), Y1, lkV fk cm.d, laV fa cm.d cm.e, 0, []⟩)) ∧ Asd P w9 wx)
  case first =>
   by_cases h99 : cm.c = 99
   ·have HC9' := Lib.hid h99
    have x99 : (cm.c == 99) = true := by simpa using h99
    have m1 := H5.out.b.cell (i := 31) (by rw [H5.out.lu]; omega)
    have mf1 := H5.out.b.free 31
    clear h99
    go_wp2
    go_meet
    rw [if_pos HC9'.out]
    exact ⟨rfl, ⟨_, H5.out.setM 1⟩, HA5.out.trans (Asd.set _)⟩
   ·have HC9' := Lib.hid h99
    have x99 : (cm.c == 99) = false := by simpa using h99
    obtain ⟨a5, n5, c5, e5⟩ : ∃ a5 n5 c5, vx (us4.set 1 (.int .i64 (f : Int))) 0 = .slice a5 n5 c5 := by
     obtain ⟨q1, q2, q3, q4, -⟩ := (H5.out.o.sl HI.out H5.out.bel); exact ⟨q1, q2, q3, q4⟩
    have hn5 : n5 = f + (n - g) := by
     have h := H5.out.o.sl HI.out H5.out.bel
     rw [e5] at h
     have := h.get.1
     rw [← this]; exact HLL.out
    have e0 := H5.out.b.cell (i := 0) (by rw [H5.out.lu]; omega)
    rw [e5] at e0
    have p2 := H5.out.b.cell (i := 1) (by rw [H5.out.lu]; omega)
    have pf2 := H5.out.b.free 1
    have HC5 := Lib.hid (show clV f ((t.take f ++ t.drop g).length : Int) = clV f (n5 : Int) by rw [HLL.out, hn5])
    clear h99 e5 hn5
    rcases Nat.eq_zero_or_pos f with rfl | hf0
    ·have HV := Lib.hid (show clV ((0 : Nat) : Int) (n5 : Int) = ((0 : Nat) : Int) by unfold clV; omega)
     go_wp2
     go_meet
     rw [if_neg HC9'.out, HC5.out, HV.out]
     exact ⟨rfl, ⟨_, H5.out⟩, HA5.out⟩
    ·have xf : (0 : Int) < (f : Int) := by omega
     rcases Nat.lt_or_ge f n5 with hfn | hfn
     ·have xn : (f : Int) < (n5 : Int) := by omega
      have HV := Lib.hid (show clV (f : Int) (n5 : Int) = (f : Int) by unfold clV; omega)
      go_wp2
      go_meet
      rw [if_neg HC9'.out, HC5.out, HV.out]
      exact ⟨rfl, ⟨_, H5.out⟩, HA5.out⟩
     ·have xn : (n5 : Int) ≤ (f : Int) := by omega
      have HV := Lib.hid (show clV (f : Int) (n5 : Int) = max 0 ((n5 : Int) - 1) by unfold clV; omega)
      rcases Nat.eq_zero_or_pos n5 with rfl | hn0
      ·go_wp2
       all_goals
        go_meet
        rw [if_neg HC9'.out, HC5.out, HV.out]
        exact ⟨rfl, ⟨_, H5.out.setP 0⟩, HA5.out.trans (Asd.set _)⟩
      ·rcases Nat.eq_or_lt_of_le (show 1 ≤ n5 from hn0) with h1 | h1
       ·subst h1
        go_wp2
        all_goals
         go_meet
         rw [if_neg HC9'.out, HC5.out, HV.out]
         exact ⟨rfl, ⟨_, H5.out.setP 0⟩, HA5.out.trans (Asd.set _)⟩
       ·have x1 : (0 : Int) < (n5 : Int) - 1 := by omega
        have HV2 := Lib.hid (show max 0 ((n5 : Int) - 1) = (n5 : Int) - 1 by omega)
        go_wp2
        all_goals
         go_meet
         rw [if_neg HC9'.out, HC5.out, HV.out, HV2.out]
         exact ⟨rfl, ⟨_, H5.out.setP _⟩, HA5.out.trans (Asd.set _)⟩
  obtain ⟨rfl, ⟨us3, h3⟩, hA3⟩ := hcut
  clear d0 d1 d2 d3 d4 d2' p1 pf1 H5 HA5
  have hZx := hA3.blk (B := w.heap.size + 4) (by omega) HZ9.out
  have HBx := Lib.hid h3.bel
  have hlx := h3.lu
  have hrx := h3.rsQ.left (left_setCells wc (w.heap.size + 4) 0 us3) (by omega)
  have hgx : wc.rangeAt P 0 us3 := rangeAt_blk h3.b
  have hox := RsQ.one HI.out h3.rsQ
  clear h3 hA3
  go_wp2_with (first | ((with_reducible show wpList _ _ _ (⟨_, Op.load _ _, _, _, _, _⟩ :: _) _ _); refine res_load rfl _ rfl P 0 rfl us3 hgx hlx ?_) | ((with_reducible show wpList _ _ _ (⟨none, Op.store _ _ _, _, _, _, _⟩ :: _) _ _); revert hlx))
  intro hlx
  refine res_store rfl _ _ rfl (w.heap.size + 4) 0 rfl us3 rfl zero33 _ hZx (Nat.le_refl 33) hlx hox ?_
  have hz9 := zero_store (w := w) hZx zero33_len HBx.out (Nat.le_add_right _ 4) us3 hlx
  generalize wc.setCells (w.heap.size + 4) 0 us3 = w9' at hz9 hrx ⊢
  have HZ9' := Lib.hid hz9; have HRX := Lib.hid hrx; have HLX := Lib.hid hlx
  clear hz9 hrx hlx hgx hox hZx
  dsimp only [Act.put]
  repeat go_step
  exact bodyPost_ret (results_ct Try.results143 rfl (res_loadVar HZ9'.out.1 HLX.out)) rfl ⟨us3, rfl, by rw [HQ.out]; exact HRX.out.mono (by omega), HZ9'.out.2⟩
theorem calls_ex {P : Program} {f : FuncId} {args : Array Value} {w : World} {R : Ending → World → Prop} (h : Calls P f args w R) : ∃ e w', R e w' := by
 obtain ⟨e, w', _, r, _⟩ := h []
 exact ⟨e, w', r⟩
theorem ofR_is (I : In) (hI : InOk I) (around : Bool) (key : Int) : OfP I.t (pRun I.t I.n I.n).out around I.k key (ofR I.t I.n around I.k key).1 (ofR I.t I.n around I.k key).2.1 (ofR I.t I.n around I.k key).2.2 := by
 have := hI.top; have := hI.k1
 obtain ⟨e, w', a, b, er, rfl, ho, -⟩ := calls_ex (object_of_in I.a I.n I.c I.t I.k around key I.w0 hI.ints hI.len (by omega) (by omega))
 rw [ofR_eq ho]; exact ho
theorem bt_self (l : List Int) : btF l l = [] := btF_eq (.inl ⟨rfl, rfl⟩)
theorem bt_nil (t : List Int) (f g : Nat) : t.take f ++ ([] : List Int) ++ t.drop g = t.take f ++ t.drop g := by rw [List.append_nil]
theorem opS_val (I : In) (cm : C5) (fk fa : Int) (f g : Nat) (hne : f < g ∨ (f = g ∧ cm.c = 99)) (hE : f < g → putEs I.X cm.b ((I.t.take g).drop f) = 0) :
  (opS I ⟨cm, I.t, I.k, I.X, fk, fa, 0, []⟩ f g (decide (cm.d = cm.c))).1 = 0 ∧ { (opS I ⟨cm, I.t, I.k, I.X, fk, fa, 0, []⟩ f g (decide (cm.d = cm.c))).2 with fk := lkV fk cm.d, fa := laV fa cm.d cm.e } = { opQ I cm fk fa f g with es := btF I.t (opQ I cm fk fa f g).O } ∧ (opS I ⟨cm, I.t, I.k, I.X, fk, fa, 0, []⟩ f g (decide (cm.d = cm.c))).2.fk = fk ∧ (opS I ⟨cm, I.t, I.k, I.X, fk, fa, 0, []⟩ f g (decide (cm.d = cm.c))).2.fa = fa := by
 have n1 : ¬ (f = g ∧ cm.c ≠ 99) := by omega
 have n2 : ¬ (f < g ∧ putEs I.X cm.b ((I.t.take g).drop f) ≠ 0) := fun h => h.2 (hE h.1)
 obtain ⟨Y, hY⟩ : ∃ Y, (if f < g then putYs I.X cm.b ((I.t.take g).drop f) else I.X) = Y := ⟨_, rfl⟩
 have h1 : (if f < g then ({ (⟨cm, I.t, I.k, I.X, fk, fa, 0, []⟩ : St) with Y := putYs I.X cm.b ((I.t.take g).drop f) } : St) else ⟨cm, I.t, I.k, I.X, fk, fa, 0, []⟩) = ⟨cm, I.t, I.k, Y, fk, fa, 0, []⟩ := by
  rw [← hY]; split <;> rfl
 unfold opS opQ
 dsimp only at h1 ⊢
 rw [if_neg n1, if_neg n2, h1, hY]
 by_cases c1 : cm.c = 121
 ·rw [if_pos c1, if_pos c1]
  by_cases d : cm.d = cm.c
  ·rw [if_pos (show decide (cm.d = cm.c) = true by simpa using d), if_pos d]
   exact ⟨rfl, by rw [bt_self], rfl, rfl⟩
  ·rw [if_neg (show ¬ decide (cm.d = cm.c) = true by simpa using d), if_neg d]
   exact ⟨rfl, by rw [bt_self, Int.min_comm], rfl, rfl⟩
 ·rw [if_neg c1, if_neg c1]
  by_cases c2 : cm.c = 99
  ·rw [if_pos c2, if_pos c2]
   exact ⟨rfl, by simp only [putS, bt_nil], rfl, rfl⟩
  ·rw [if_neg c2, if_neg c2]
   exact ⟨rfl, by simp only [putS, bt_nil], rfl, rfl⟩
theorem opS_none (I : In) (s : St) (f g : Nat) (wh : Bool) (h : f = g) (h9 : s.cm.c ≠ 99) : opS I s f g wh = (5, s) := by
 unfold opS
 rw [if_pos ⟨h, h9⟩]
theorem opS_bad (I : In) (s : St) (f g : Nat) (wh : Bool) (h : f < g) (h9 : putEs I.X s.cm.b ((I.t.take g).drop f) ≠ 0) : opS I s f g wh = (putEs I.X s.cm.b ((I.t.take g).drop f), s) := by
 unfold opS
 rw [if_neg (by omega), if_pos ⟨h, h9⟩]
theorem opQ_len (I : In) (hI : InOk I) (cm : C5) (fk fa : Int) (f g : Nat) : (opQ I cm fk fa f g).O.length ≤ 4096 := by
 have h1 := hI.len; have h2 := hI.top
 have h3 : (I.t.take f ++ I.t.drop g).length ≤ 400 := by simp; omega
 unfold opQ
 split
 ·dsimp only; omega
 ·split <;> (dsimp only; omega)
theorem opS_find (I : In) (s : St) (f g : Nat) (wh : Bool) : (opS I s f g wh).2.fk = s.fk ∧ (opS I s f g wh).2.fa = s.fa := by
 have h1 : ∀ y : List (List Int), (if f < g then ({ s with Y := y } : St) else s).fk = s.fk ∧ (if f < g then ({ s with Y := y } : St) else s).fa = s.fa := fun y => by split <;> exact ⟨rfl, rfl⟩
 unfold opS putS
 dsimp only
 split
 ·exact ⟨rfl, rfl⟩
 split
 ·exact ⟨rfl, rfl⟩
 split
 ·split
  ·exact h1 _
  ·exact h1 _
 split
 ·exact h1 _
 ·exact h1 _
theorem keyV_same {fk fa d e : Int} (h : fiB d = false) : lkV fk d = fk ∧ laV fa d e = fa := by simp [lkV, laV, h]
theorem ref_operated (I : In) (hI : InOk I) (cm : C5) (hc : cm.c = 100 ∨ cm.c = 99 ∨ cm.c = 121) (h0 : 0 ≤ cm.a) (h1 : cm.a ≤ 999) (fk fa : Int) (hf : fk = 0 ∨ fiB fk = true) :
  ∃ (er : Int) (s' : St), (doS I ⟨cm, I.t, I.k, I.X, fk, fa, 0, []⟩).1 = er ∧ (er = 0 → (doS I ⟨cm, I.t, I.k, I.X, fk, fa, 0, []⟩).2 = { s' with es := btF I.t s'.O }) ∧ (er = 0 → s'.O.length ≤ 4096) ∧
   ∀ w1, Below I.w0.heap.size I.w0 w1 → Calls Try.prog 143 #[.agg #[.slice I.a I.n I.c, .int .i64 (I.k : Int)], .agg (rgA I.vs), .agg #[.int .i64 fk, .int .i64 fa], .agg #[.int .i64 cm.a, .int .i64 cm.b, .int .i64 cm.c, .int .i64 cm.d, .int .i64 cm.e]] w1 (ResPost { I with w0 := w1 } er s' w1) := by
 have htop := hI.top; have hk1 := hI.k1; have hlen := hI.len; have hcap := hI.cap; have hcap2 := hI.cap2
 have main : ∀ (f g : Nat) (hk : cm.d = cm.c ∨ (cm.d ≠ cm.c ∧ iaB cm.d = true) ∨ (cm.d ≠ cm.c ∧ iaB cm.d = false ∧ motB cm.d = true)) (hfg : f ≤ g) (hgn : g ≤ I.n)
   (hS : ∀ w1, Below I.w0.heap.size I.w0 w1 → Calls Try.prog 184 #[.agg #[.slice I.a I.n I.c, .int .i64 (I.k : Int)], .agg #[.int .i64 fk, .int .i64 fa], .agg #[.int .i64 cm.a, .int .i64 cm.b, .int .i64 cm.c, .int .i64 cm.d, .int .i64 cm.e]] w1 (SpPost f g 0 w1))
   (R : Int × St) (hR : R.1 = (opS I ⟨cm, I.t, I.k, I.X, fk, fa, 0, []⟩ f g (decide (cm.d = cm.c))).1) (hR0 : R.1 = 0 → R.2 = { (opS I ⟨cm, I.t, I.k, I.X, fk, fa, 0, []⟩ f g (decide (cm.d = cm.c))).2 with fk := lkV fk cm.d, fa := laV fa cm.d cm.e }),
   ∃ (er : Int) (s' : St), R.1 = er ∧ (er = 0 → R.2 = { s' with es := btF I.t s'.O }) ∧ (er = 0 → s'.O.length ≤ 4096) ∧
    ∀ w1, Below I.w0.heap.size I.w0 w1 → Calls Try.prog 143 #[.agg #[.slice I.a I.n I.c, .int .i64 (I.k : Int)], .agg (rgA I.vs), .agg #[.int .i64 fk, .int .i64 fa], .agg #[.int .i64 cm.a, .int .i64 cm.b, .int .i64 cm.c, .int .i64 cm.d, .int .i64 cm.e]] w1 (ResPost { I with w0 := w1 } er s' w1) := by
  intro f g hk hfg hgn hS R hR hR0
  have hS' : ∀ w1, Below I.w0.heap.size I.w0 w1 → ∀ w2, Below w1.heap.size w1 w2 → Calls Try.prog 184 #[.agg #[.slice I.a I.n I.c, .int .i64 (I.k : Int)], .agg #[.int .i64 fk, .int .i64 fa], .agg #[.int .i64 cm.a, .int .i64 cm.b, .int .i64 cm.c, .int .i64 cm.d, .int .i64 cm.e]] w2 (SpPost f g 0 w2) := fun w1 hb w2 hb2 => hS w2 (hb.trans (hb2.mono hb.size))
  by_cases hn : f = g ∧ cm.c ≠ 99
  ·rw [opS_none I ⟨cm, I.t, I.k, I.X, fk, fa, 0, []⟩ f g _ hn.1 hn.2] at hR
   exact ⟨5, zSt cm, hR, fun h => absurd h (by decide), fun h => absurd h (by decide), fun w1 hb => opd_none { I with w0 := w1 } I.a I.n I.c I.k fk fa I.vs cm w1 hk f g 0 (hS' w1 hb) rfl (by rw [hn.1]) hn.2⟩
  by_cases hb : f < g ∧ putEs I.X cm.b ((I.t.take g).drop f) ≠ 0
  ·rw [opS_bad I ⟨cm, I.t, I.k, I.X, fk, fa, 0, []⟩ f g _ hb.1 hb.2] at hR
   exact ⟨_, zSt cm, hR, fun h => absurd h hb.2, fun h => absurd h hb.2, fun w1 hb1 => opd_bad { I with w0 := w1 } (hI.at hb1) fk fa cm hk f g (hS' w1 hb1) hfg hgn hb.1 _ rfl hb.2⟩
  have hne : f < g ∨ (f = g ∧ cm.c = 99) := by omega
  have hE : f < g → putEs I.X cm.b ((I.t.take g).drop f) = 0 := fun h => Classical.byContradiction fun h2 => hb ⟨h, h2⟩
  obtain ⟨v1, v2, v3, v4⟩ := opS_val I cm fk fa f g hne hE
  rw [v1] at hR
  exact ⟨0, opQ I cm fk fa f g, hR, fun _ => (hR0 hR).trans v2, fun _ => opQ_len I hI cm fk fa f g, fun w1 hb1 => opd_main { I with w0 := w1 } (hI.at hb1) fk fa cm hk f g (hS' w1 hb1) hfg hgn hne hE⟩
 have hSp : (cm.d = cm.c ∨ (cm.d = 105 ∨ cm.d = 97) ∨ motB cm.d = true) → ∀ w1, Below I.w0.heap.size I.w0 w1 → Calls Try.prog 184 #[.agg #[.slice I.a I.n I.c, .int .i64 (I.k : Int)], .agg #[.int .i64 fk, .int .i64 fa], .agg #[.int .i64 cm.a, .int .i64 cm.b, .int .i64 cm.c, .int .i64 cm.d, .int .i64 cm.e]] w1 (SpPost (spR I.t I.n I.k fk fa cm).1 (spR I.t I.n I.k fk fa cm).2.1 (spR I.t I.n I.k fk fa cm).2.2 w1) := by
  intro hm w1 hb
  refine ref_span I.a I.n I.c I.t I.k fk fa cm w1 (hI.ints.below hb) hlen htop hcap hcap2 hk1 fun e1 e2 e3 => ?_
  exact meant_moveE (by rcases hm with h | h | h <;> first | exact absurd h e1 | exact absurd h e2 | exact h) hf e3 (by omega) (by omega) h0 h1
 have hc0 : cm.c ≠ 0 := by omega
 have same : ∀ r : St, r.fk = fk → r.fa = fa → fiB cm.d = false → r = { r with fk := lkV fk cm.d, fa := laV fa cm.d cm.e } := by
  intro r g1 g2 hd
  have h := keyV_same (fk := fk) (fa := fa) (d := cm.d) (e := cm.e) hd
  rw [h.1, h.2]
  obtain ⟨⟩ := r
  dsimp only at g1 g2
  rw [g1, g2]
 by_cases d1 : cm.d = cm.c
 ·have nm : motB cm.d = false := by rw [d1]; rcases hc with h | h | h <;> rw [h] <;> rfl
  have nf : fiB cm.d = false := by rw [d1]; rcases hc with h | h | h <;> rw [h] <;> rfl
  have e : doS I ⟨cm, I.t, I.k, I.X, fk, fa, 0, []⟩ = opS I ⟨cm, I.t, I.k, I.X, fk, fa, 0, []⟩ 0 I.n (decide (cm.d = cm.c)) := by
   unfold doS
   dsimp only
   rw [nm, if_neg (by simp), if_neg hc0, if_pos d1, show decide (cm.d = cm.c) = true by simpa using d1]
  have hS := hSp (.inl d1)
  rw [show spR I.t I.n I.k fk fa cm = (0, (I.n : Int), 0) by rw [spR, if_pos d1]] at hS
  exact main 0 I.n (.inl d1) (Nat.zero_le _) (Nat.le_refl _) hS _ (by rw [e]) fun _ => by
   rw [e]
   exact same _ (opS_find I _ _ _ _).1 (opS_find I _ _ _ _).2 nf
 by_cases d2 : cm.d = 105 ∨ cm.d = 97
 ·have nm : motB cm.d = false := by rcases d2 with h | h <;> rw [h] <;> rfl
  have nf : fiB cm.d = false := by rcases d2 with h | h <;> rw [h] <;> rfl
  have ni : iaB cm.d = true := by simpa [iaB] using d2
  have hS := hSp (.inr (.inl d2))
  rw [show spR I.t I.n I.k fk fa cm = ofR I.t I.n (decide (cm.d = 97)) I.k cm.e by rw [spR, if_neg d1, if_pos d2]] at hS
  have hof := ofR_is I hI (decide (cm.d = 97)) cm.e
  have e : doS I ⟨cm, I.t, I.k, I.X, fk, fa, 0, []⟩ = if (ofR I.t I.n (decide (cm.d = 97)) I.k cm.e).2.2 ≠ 0 then ((ofR I.t I.n (decide (cm.d = 97)) I.k cm.e).2.2, ⟨cm, I.t, I.k, I.X, fk, fa, 0, []⟩) else opS I ⟨cm, I.t, I.k, I.X, fk, fa, 0, []⟩ (ofR I.t I.n (decide (cm.d = 97)) I.k cm.e).1.toNat (ofR I.t I.n (decide (cm.d = 97)) I.k cm.e).2.1.toNat (decide (cm.d = cm.c)) := by
   unfold doS
   dsimp only
   rw [nm, if_neg (by simp), if_neg hc0, if_neg d1, if_neg (by omega), show decide (cm.d = cm.c) = false by simpa using d1]
  generalize ofR I.t I.n (decide (cm.d = 97)) I.k cm.e = r at *
  obtain ⟨x, y, er⟩ := r
  dsimp only at *
  by_cases hz : er = 0
  ·subst hz
   rw [if_neg (by simp)] at e
   obtain ⟨b1, b2, b3⟩ := hof.bound hlen hk1 rfl
   obtain ⟨f, rfl⟩ := Int.eq_ofNat_of_zero_le b1
   obtain ⟨g, rfl⟩ := Int.eq_ofNat_of_zero_le (show 0 ≤ y by omega)
   simp only [Int.toNat_natCast] at e
   exact main f g (.inr (.inl ⟨d1, ni⟩)) (by omega) (by omega) hS _ (by rw [e]) fun _ => by
    rw [e]
    exact same _ (opS_find I _ _ _ _).1 (opS_find I _ _ _ _).2 nf
  ·rw [if_pos hz] at e
   exact ⟨er, zSt cm, by rw [e], fun h => absurd h hz, fun h => absurd h hz, fun w1 hb => opd_span { I with w0 := w1 } I.a I.n I.c I.k fk fa I.vs cm w1 (.inr (.inl ⟨d1, ni⟩)) x y er (fun w2 hb2 => hS w2 (hb.trans (hb2.mono hb.size))) hz⟩
 have ni : iaB cm.d = false := by simp [iaB]; omega
 by_cases d3 : motB cm.d = true
 ·have hkk := (show cm.d = cm.c ∨ (cm.d ≠ cm.c ∧ iaB cm.d = true) ∨ (cm.d ≠ cm.c ∧ iaB cm.d = false ∧ motB cm.d = true) from .inr (.inr ⟨d1, ni, d3⟩))
  have hS := hSp (.inr (.inr d3))
  have e0 : doS I ⟨cm, I.t, I.k, I.X, fk, fa, 0, []⟩ = mvS I ⟨cm, I.t, I.k, I.X, fk, fa, 0, []⟩ := by
   unfold doS
   dsimp only
   rw [if_pos d3]
  by_cases hE : mtE fk cm.d = 0
  ·by_cases hG : goE I.t I.k (mtK fk cm.d) cm.a (mtA fk fa cm.d cm.e) true = 0
   ·rw [show spR I.t I.n I.k fk fa cm = (raF I.t I.k (mtK fk cm.d) cm.a (mtA fk fa cm.d cm.e), raT I.t I.k (mtK fk cm.d) cm.a (mtA fk fa cm.d cm.e), 0) by rw [spR, if_neg d1, if_neg d2, if_neg (by simpa using hE), if_neg (by simpa using hG)]] at hS
    obtain ⟨b1, b2, b3⟩ := ra_bd hG
    have e : doS I ⟨cm, I.t, I.k, I.X, fk, fa, 0, []⟩ = if (opS I ⟨cm, I.t, I.k, I.X, fk, fa, 0, []⟩ (raF I.t I.k (mtK fk cm.d) cm.a (mtA fk fa cm.d cm.e)).toNat (raT I.t I.k (mtK fk cm.d) cm.a (mtA fk fa cm.d cm.e)).toNat (decide (cm.d = cm.c))).1 ≠ 0 then opS I ⟨cm, I.t, I.k, I.X, fk, fa, 0, []⟩ (raF I.t I.k (mtK fk cm.d) cm.a (mtA fk fa cm.d cm.e)).toNat (raT I.t I.k (mtK fk cm.d) cm.a (mtA fk fa cm.d cm.e)).toNat (decide (cm.d = cm.c)) else (0, { (opS I ⟨cm, I.t, I.k, I.X, fk, fa, 0, []⟩ (raF I.t I.k (mtK fk cm.d) cm.a (mtA fk fa cm.d cm.e)).toNat (raT I.t I.k (mtK fk cm.d) cm.a (mtA fk fa cm.d cm.e)).toNat (decide (cm.d = cm.c))).2 with fk := lkV fk cm.d, fa := laV fa cm.d cm.e }) := by
     rw [e0]
     unfold mvS
     dsimp only
     rw [if_neg (by simpa using hE), if_neg hc0, if_neg (by simpa using hG), show decide (cm.d = cm.c) = false by simpa using d1]
    generalize raF I.t I.k (mtK fk cm.d) cm.a (mtA fk fa cm.d cm.e) = x at *
    generalize raT I.t I.k (mtK fk cm.d) cm.a (mtA fk fa cm.d cm.e) = y at *
    obtain ⟨f, rfl⟩ := Int.eq_ofNat_of_zero_le b1
    obtain ⟨g, rfl⟩ := Int.eq_ofNat_of_zero_le (show 0 ≤ y by omega)
    simp only [Int.toNat_natCast] at e
    generalize hop : opS I ⟨cm, I.t, I.k, I.X, fk, fa, 0, []⟩ f g (decide (cm.d = cm.c)) = r at *
    refine main f g hkk (by omega) (by omega) hS _ ?_ fun hz => ?_
    ·rw [hop, e]
     split
     ·rfl
     ·rename_i h; simpa using (show r.1 = 0 from Classical.byContradiction h).symm
    ·rw [e] at hz
     rw [hop, e]
     split
     ·rename_i h; rw [if_pos h] at hz; exact absurd hz h
     ·rfl
   ·rw [show spR I.t I.n I.k fk fa cm = (0, 0, 5) by rw [spR, if_neg d1, if_neg d2, if_neg (by simpa using hE), if_pos hG]] at hS
    have e : (doS I ⟨cm, I.t, I.k, I.X, fk, fa, 0, []⟩).1 = 5 := by
     rw [e0]
     unfold mvS
     dsimp only
     rw [if_neg (by simpa using hE), if_neg hc0, if_pos hG]
     exact goE_five (meant_moveE d3 hf hE (by omega) (by omega) h0 h1) hG
    exact ⟨5, zSt cm, e, fun h => absurd h (by decide), fun h => absurd h (by decide), fun w1 hb => opd_span { I with w0 := w1 } I.a I.n I.c I.k fk fa I.vs cm w1 hkk 0 0 5 (fun w2 hb2 => hS w2 (hb.trans (hb2.mono hb.size))) (by decide)⟩
  ·rw [show spR I.t I.n I.k fk fa cm = (0, 0, mtE fk cm.d) by rw [spR, if_neg d1, if_neg d2, if_pos hE]] at hS
   have e : (doS I ⟨cm, I.t, I.k, I.X, fk, fa, 0, []⟩).1 = mtE fk cm.d := by
    rw [e0]
    unfold mvS
    dsimp only
    rw [if_pos hE]
   exact ⟨_, zSt cm, e, fun h => absurd h hE, fun h => absurd h hE, fun w1 hb => opd_span { I with w0 := w1 } I.a I.n I.c I.k fk fa I.vs cm w1 hkk 0 0 _ (fun w2 hb2 => hS w2 (hb.trans (hb2.mono hb.size))) hE⟩
 ·have d3' : motB cm.d = false := by simpa using d3
  have e : doS I ⟨cm, I.t, I.k, I.X, fk, fa, 0, []⟩ = (9, ⟨cm, I.t, I.k, I.X, fk, fa, 0, []⟩) := by
   unfold doS
   dsimp only
   rw [if_neg d3, if_neg hc0, if_neg d1, if_pos (by omega)]
  exact ⟨9, zSt cm, by rw [e], fun h => absurd h (by decide), fun h => absurd h (by decide), fun w1 hb => opd_key { I with w0 := w1 } I.a I.n I.c I.k fk fa I.vs cm w1 d1 ni d3'⟩
set_option maxRecDepth 100000 in
set_option maxHeartbeats 2000000 in
theorem ref_between (la ma : Option Addr) (n c p mc : Nat) (l m : List Int) (w : World) (hl : Ints w la l) (hm : Ints w ma m) (hn : l.length = n) (hp : m.length = p) (hn2 : n ≤ 4096) (hp2 : p ≤ 4096) (hmc : p ≤ mc) (h0 : ma = none → p = 0) :
  Calls Try.prog 148 #[.slice la n c, .slice ma p mc] w (BtRPost l m w) := by
 have HN := Lib.hid hn
 have HP := Lib.hid hp
 have H0 := Lib.hid h0
 clear hn hp h0
 by_cases hne : l = m
 ·have HE := Lib.hid hne
  have hd : decide (l = m) = true := by simpa using hne
  have HD := Lib.hid hd
  clear hne hd
  go_enter Try.func148, Try.ntmps148
  go_wp2_with fail
  refine (slices_equal la ma n p c mc l m w hl hm HN.out HP.out (by omega)).mono ?_
  rintro e w1 ⟨rfl, q, rfl⟩
  rw [HD.out]
  go_wp2
  go_ret
  exact ⟨_, [], [], rfl, SOwn.nil _ _, .inl ⟨HE.out, rfl⟩, below_drewN (Below.refl _ _) _⟩
 ·have HNE := Lib.hid hne
  have HD := Lib.hid (show decide (l = m) = false by simpa using hne)
  clear hne
  go_enter Try.func148, Try.ntmps148
  go_wp2_with fail
  refine (slices_equal la ma n p c mc l m w hl hm HN.out HP.out (by omega)).mono ?_
  rintro e w1 ⟨rfl, q, rfl⟩
  rw [HD.out]
  go_upto_block 0 with fail
  go_cut [5] (fun v wx => ∃ k : Nat, v = .int .i64 (k : Int) ∧ k ≤ n ∧ k ≤ p ∧ Hid (PreP l m k) ∧ ∃ q, wx = w.drewN q)
  case first =>
   go_wp2
   go_loopw [5] (fun v wr => ∃ k : Nat, v = .int .i64 (k : Int) ∧ k ≤ n ∧ k ≤ p ∧ (∀ i, i < k → ix l i = ix m i) ∧ ∃ q, wr = w.drewN q) (fun v _ => n - (intOf v).toNat)
   case atStart => exact ⟨0, rfl, by omega, by omega, fun i hi => by omega, q, rfl⟩
   case round =>
    obtain ⟨k, rfl, hk, hk2, hsame, q, rfl⟩ := hrel
    have HS := Lib.hid hsame
    clear hsame
    by_cases hlt : k < n
    ·have i0 : decide (k < n) = true := by simp; omega
     by_cases hlt2 : k < p
     ·obtain ⟨b1, o1, rfl, hc1⟩ := hl.at (k := k) (by rw [HN.out]; omega)
      obtain ⟨b2, o2, rfl, hc2⟩ := hm.at (k := k) (by rw [HP.out]; omega)
      have c1 := hc1 k (by rw [HN.out]; omega)
      have c2 := hc2 k (by rw [HP.out]; omega)
      have i01 : decide (k < p) = true := by simp; omega
      have i1 : (k : Int) < (n : Int) := by omega
      have i2 : (k : Int) < (p : Int) := by omega
      clear hc1 hc2 hl hm
      by_cases he : ix l k = ix m k
      ·have g1 : (ix l k == ix m k) = true := by simpa using he
       have HE := Lib.hid he
       clear he
       go_wp2
       go_quiet (fail)
       go_wp2
       go_roundw
       case rel =>
        refine ⟨k + 1, by go_num, by omega, by omega, fun i hi => ?_, _, by first | rfl | exact drewN_drewN _ _ _⟩
        by_cases h : i = k
        ·rw [h]; exact HE.out
        ·exact HS.out i (by omega)
       case measure => simp [intOf]; omega
      ·have g1 : (ix l k == ix m k) = false := by simpa using he
       have HE := Lib.hid he
       clear he
       go_wp2
       go_quiet (fail)
       go_wp2
       go_meet
       exact ⟨k, rfl, by omega, by omega, Lib.hid ⟨by rw [HN.out]; omega, by rw [HP.out]; omega, HS.out, .inr (.inr HE.out)⟩, _, by first | rfl | exact drewN_drewN _ _ _⟩
     ·have i01 : decide (k < p) = false := by simp; omega
      go_wp2
      go_quiet (fail)
      go_wp2
      go_meet
      exact ⟨k, rfl, by omega, by omega, Lib.hid ⟨by rw [HN.out]; omega, by rw [HP.out]; omega, HS.out, by rw [HN.out, HP.out]; omega⟩, _, by first | rfl | exact drewN_drewN _ _ _⟩
    ·have i0 : decide (k < n) = false := by simp; omega
     go_wp2
     go_quiet (fail)
     go_wp2
     go_meet
     exact ⟨k, rfl, by omega, by omega, Lib.hid ⟨by rw [HN.out]; omega, by rw [HP.out]; omega, HS.out, by rw [HN.out, HP.out]; omega⟩, _, by first | rfl | exact drewN_drewN _ _ _⟩
  obtain ⟨k, rfl, hk, hk2, HPR, q, rfl⟩ := hcut
  go_upto_block 2 with fail
  go_cut [6, 7] (fun u v wx => ∃ j : Nat, u = .int .i64 ((n - j : Nat) : Int) ∧ v = .int .i64 ((p - j : Nat) : Int) ∧ j + k ≤ n ∧ j + k ≤ p ∧ Hid (SufP l m k j) ∧ ∃ q, wx = w.drewN q)
  case first =>
   go_wp2
   go_loopw [6, 7] (fun u v wr => ∃ j : Nat, u = .int .i64 ((n - j : Nat) : Int) ∧ v = .int .i64 ((p - j : Nat) : Int) ∧ j + k ≤ n ∧ j + k ≤ p ∧ (∀ i, i < j → ix l (l.length - 1 - i) = ix m (m.length - 1 - i)) ∧ ∃ q, wr = w.drewN q) (fun u _ _ => (intOf u).toNat)
   case atStart => exact ⟨0, rfl, rfl, by omega, by omega, fun i hi => by omega, q, rfl⟩
   case round =>
    obtain ⟨j, rfl, rfl, hj, hj2, hsame, q, rfl⟩ := hrel
    have HS := Lib.hid hsame
    clear hsame
    obtain ⟨A, hA⟩ : ∃ A, n - j = A := ⟨_, rfl⟩
    obtain ⟨B, hB⟩ : ∃ B, p - j = B := ⟨_, rfl⟩
    rw [hA, hB]
    have HA := Lib.hid hA
    have HB := Lib.hid hB
    have a1 : A + j ≤ n ∧ n ≤ A + j := by omega
    have b1' : B + j ≤ p ∧ p ≤ B + j := by omega
    clear hA hB
    by_cases hlt : k < A
    ·have i0 : decide (k < A) = true := by simp; omega
     by_cases hlt2 : k < B
     ·have i01 : decide (k < B) = true := by simp; omega
      obtain ⟨b1, o1, rfl, hc1⟩ := hl.at (k := A - 1) (by rw [HN.out]; omega)
      obtain ⟨b2, o2, rfl, hc2⟩ := hm.at (k := B - 1) (by rw [HP.out]; omega)
      have c1 := hc1 (A - 1) (by rw [HN.out]; omega)
      have c2 := hc2 (B - 1) (by rw [HP.out]; omega)
      have i1 : (A : Int) - 1 < (n : Int) := by omega
      have i2 : (B : Int) - 1 < (p : Int) := by omega
      have i3 : (0 : Int) ≤ (A : Int) - 1 := by omega
      have i4 : (0 : Int) ≤ (B : Int) - 1 := by omega
      have i5 : ((A : Int) - 1).toNat = A - 1 := by omega
      have i6 : ((B : Int) - 1).toNat = B - 1 := by omega
      have iw2 : IntKind.i64.wrap ((A : Int) - 1) = (A : Int) - 1 := IntWalk.i64_in _ (by omega)
      have iw3 : IntKind.i64.wrap ((B : Int) - 1) = (B : Int) - 1 := IntWalk.i64_in _ (by omega)
      have e1 : A - 1 = l.length - 1 - j := by rw [HN.out]; omega
      have e2 : B - 1 = m.length - 1 - j := by rw [HP.out]; omega
      have E1 := Lib.hid e1
      have E2 := Lib.hid e2
      clear hc1 hc2 hl hm e1 e2
      by_cases he : ix l (A - 1) = ix m (B - 1)
      ·have g1 : (ix l (A - 1) == ix m (B - 1)) = true := by simpa using he
       have HE := Lib.hid he
       clear he
       go_wp2
       go_quiet (fail)
       clear iw2 iw3 i5 i6
       go_wp2
       go_roundw
       case rel =>
        refine ⟨j + 1, by rw [show n - (j + 1) = A - 1 from by omega]; go_num, by rw [show p - (j + 1) = B - 1 from by omega]; go_num, by omega, by omega, fun i hi => ?_, _, by first | rfl | exact drewN_drewN _ _ _⟩
        by_cases h : i = j
        ·rw [h, ← E1.out, ← E2.out]; exact HE.out
        ·exact HS.out i (by omega)
       case measure => simp [intOf]; omega
      ·have g1 : (ix l (A - 1) == ix m (B - 1)) = false := by simpa using he
       have HE := Lib.hid he
       clear he
       go_wp2
       go_quiet (fail)
       clear iw2 iw3 i5 i6
       go_wp2
       go_meet
       exact ⟨j, by rw [HA.out], by rw [HB.out], by omega, by omega, Lib.hid ⟨by rw [HN.out]; omega, by rw [HP.out]; omega, HS.out, .inr (.inr (by rw [← E1.out, ← E2.out]; exact HE.out))⟩, _, by first | rfl | exact drewN_drewN _ _ _⟩
     ·have i01 : decide (k < B) = false := by simp; omega
      go_wp2
      go_quiet (fail)
      go_wp2
      go_meet
      exact ⟨j, by rw [HA.out], by rw [HB.out], by omega, by omega, Lib.hid ⟨by rw [HN.out]; omega, by rw [HP.out]; omega, HS.out, by rw [HN.out, HP.out]; omega⟩, _, by first | rfl | exact drewN_drewN _ _ _⟩
    ·have i0 : decide (k < A) = false := by simp; omega
     go_wp2
     go_quiet (fail)
     go_wp2
     go_meet
     exact ⟨j, by rw [HA.out], by rw [HB.out], by omega, by omega, Lib.hid ⟨by rw [HN.out]; omega, by rw [HP.out]; omega, HS.out, by rw [HN.out, HP.out]; omega⟩, _, by first | rfl | exact drewN_drewN _ _ _⟩
  obtain ⟨j, rfl, rfl, hj, hj2, HSU, q, rfl⟩ := hcut
  have hcr := cut_run ma p mc k (p - j) (by omega) (by omega)
  have hcut2 := (hm.drewN q).cutTo (c := mc) k (p - j) (by rw [HP.out]; omega) (by omega) (by rw [HP.out]; omega)
  have HCL := Lib.hid (show ((m.take (p - j)).drop k).length = p - j - k by rw [List.length_drop, List.length_take, HP.out]; omega)
  have HC0 := Lib.hid (show cutA ma mc k = none → p - j - k = 0 from fun h => by have := H0.out (cutA_none h); omega)
  clear H0
  have hfin : ∀ a8 n8 c8 w8, Own 3 (w.drewN q).heap.size w8 (.slice a8 n8 c8) ((m.take (p - j)).drop k) → Below (w.drewN q).heap.size (w.drewN q) w8 →
    BtRPost l m w (.returned (.slice (some ⟨w8.heap.size, 0, none⟩) 1 1)) (w8.alloc (.cells #[.int .i64 (k : Int), .int .i64 ((n - j : Nat) : Int), .slice a8 n8 c8] 237)) := by
   intro a8 n8 c8 w8 o8 hb8
   have hb9 : Below w.heap.size w w8 := below_then (below_drewN (Below.refl _ _) q) (Nat.le_refl _) hb8
   have hs := sown_one (w := w8) (base := w.heap.size) (u := ⟨(k : Int), ((n - j : Nat) : Int), a8, n8, c8⟩) (p := ⟨(k : Int), ((n - j : Nat) : Int), (m.take (p - j)).drop k⟩) hb9.size ⟨rfl, rfl, o8⟩
   exact ⟨_, _, _, rfl, hs, .inr ⟨HNE.out, k, j, HPR.out, HSU.out, by rw [HN.out, HP.out]⟩, hb9.alloc hb9.size _⟩
  have HF := Lib.hid hfin
  clear hfin
  go_wp2_with (go_at_call 98; refine (slices_clone (cutA ma mc k) (p - j - k) (mc - k) ((m.take (p - j)).drop k) _ hcut2 HCL.out (by omega) HC0.out).mono ?_; rintro e w8 ⟨v8, rfl, o8, hb8⟩; obtain ⟨a8, n8, c8, rfl⟩ := o8.form)
  go_ret
  exact HF.out a8 n8 c8 w8 o8 hb8
theorem RsQ.at {I : In} {w1 : World} {base : Nat} {w : World} {rs : List Value} {s : St} (h : RsQ { I with w0 := w1 } base w rs s) : RsQ I base w rs s :=
 ⟨h.lr, h.o, h.p, h.ly, h.y, h.f1, h.f2, h.m, h.e⟩
theorem SlQ.at {I : In} {w1 : World} {base : Nat} {w : World} {v : Value} {xs : List Int} (h : SlQ { I with w0 := w1 } base w v xs) : SlQ I base w v xs := h
theorem RB.setRes {I : In} {B : Nat} {w : World} {us : List Value} {s s' : St} (h : RB I B w us s) (rs : List Value) (hr : RsQ I (B + 1) w rs s') : RB I B (w.setCells B 0 rs) rs s' := by
 have hL := left_setCells w B 0 rs
 have hB := h.b.setCells 0 rs
 rw [ovl_all (by rw [h.lu, hr.lr])] at hB
 have hr' := hr.left hL (Nat.lt_succ_self B)
 exact ⟨hr.lr, hB, hL.bel h.ge h.bel, h.ge, hr.ly, hr'.o, hr.p, hr'.y, hr.f1, hr.f2, hr.m, hr'.e⟩
theorem RB.mvS {I : In} {B : Nat} {w : World} {us : List Value} {s : St} (h : RB I B w us s) {o : Nat} (ho : o < 33) : w.cell? ⟨B, o, none⟩ = some (vx us o) ∧ w.frozen? ⟨B, o, none⟩ = false := ⟨h.b.cell (by rw [h.lu]; exact ho), h.b.free o⟩
theorem c5_v (c : C5) : c.v = .agg #[.int .i64 c.a, .int .i64 c.b, .int .i64 c.c, .int .i64 c.d, .int .i64 c.e] := rfl
set_option maxRecDepth 100000 in
set_option maxHeartbeats 4000000 in
theorem ref_do_op (I : In) (hI : InOk I) (fk fa : Int) (cm0 cm : C5) (hcm : lgC cm0 = cm) (hc0 : 0 ≤ cm0.a) (hc1 : cm0.a ≤ 999) (hf : fk = 0 ∨ fiB fk = true) (hop : opOk cm0.c = true) (hne : cm.c ≠ 0) (er : Int) (s : St) (hOl : er = 0 → s.O.length ≤ 4096) (hOP : ∀ w1, Below I.w0.heap.size I.w0 w1 → Calls Try.prog 143 #[.agg #[.slice I.a I.n I.c, .int .i64 (I.k : Int)], .agg (rgA I.vs), .agg #[.int .i64 fk, .int .i64 fa], .agg #[.int .i64 cm.a, .int .i64 cm.b, .int .i64 cm.c, .int .i64 cm.d, .int .i64 cm.e]] w1 (ResPost { I with w0 := w1 } er s w1)) :
  Calls Try.prog 84 #[.agg #[.slice I.a I.n I.c, .int .i64 (I.k : Int)], .agg (rgA I.vs), .agg #[.int .i64 fk, .int .i64 fa], .agg #[.int .i64 cm0.a, .int .i64 cm0.b, .int .i64 cm0.c, .int .i64 cm0.d, .int .i64 cm0.e]] I.w0 (ResPost I (er) (if er = 0 then { s with es := btF I.t s.O } else zSt cm) I.w0) := by
 have hE : lnE I.n I.k = 0 := by
  have := hI.top; have := hI.k1
  unfold lnE
  rw [if_neg (by omega), if_neg (by omega)]
 have HE := Lib.hid hE
 have HI := Lib.hid hI
 have hlv := hI.rgs.lv
 have HR := Lib.hid hI.rgs
 have HT := Lib.hid (show I.t.length = I.n from hI.len)
 have htop := hI.top
 have HTi := Lib.hid hI.ints
 have HN0 := Lib.hid hI.none
 have hcap := hI.cap; have hcap2 := hI.cap2
 have HCM := Lib.hid hcm
 have HF := Lib.hid hf
 have hos : cm0.c = 0 ∨ cm0.c = 100 ∨ cm0.c = 99 ∨ cm0.c = 121 := by simpa [opOk] using hop
 have HOS := Lib.hid hos
 clear hE hI hcm hf hop hos
 have HOL := Lib.hid hOl
 have HOP := Lib.hid hOP
 clear hOl hOP
 have x0 : (cm.c != 0) = true := by simpa using hne
 clear hne
 obtain ⟨sF, hsF⟩ : ∃ sF, (if er = 0 then { s with es := btF I.t s.O } else zSt cm) = sF := ⟨_, rfl⟩
 rw [hsF]
 have HSF := Lib.hid hsF
 clear hsF
 obtain ⟨w, a, n, c, t, k, vs, X⟩ := I
 dsimp only at *
 have hone : ∀ v ∈ resL (.slice a n c) (k : Int) vs fk fa, v.oneCell' = true := resL_one HR.out
 have hbx := boxes5 w #[.slice a n c, .int .i64 (k : Int)] #[.int .i64 fk, .int .i64 fa] #[.int .i64 cm0.a, .int .i64 cm0.b, .int .i64 cm0.c, .int .i64 cm0.d, .int .i64 cm0.e] vs zero33 131 133 135 80 138
 dsimp only at hbx
 rw [show rgA zero33 = #[.slice none 0 0, .int .i64 0, .slice none 0 0, .slice none 0 0, .slice none 0 0, .slice none 0 0, .slice none 0 0, .slice none 0 0, .slice none 0 0, .slice none 0 0, .slice none 0 0, .slice none 0 0, .slice none 0 0, .slice none 0 0, .slice none 0 0, .slice none 0 0, .slice none 0 0, .slice none 0 0, .slice none 0 0, .slice none 0 0, .slice none 0 0, .slice none 0 0, .slice none 0 0, .slice none 0 0, .slice none 0 0, .slice none 0 0, .slice none 0 0, .slice none 0 0, .slice none 0 0, .int .i64 0, .int .i64 0, .int .i64 0, .slice none 0 0] from rfl] at hbx
 go_enter Try.func84, Try.ntmps84
 go_upto_region 1 with fail
 generalize (((((w.alloc (.cells #[.slice a n c, .int .i64 (k : Int)] 131)).alloc (.cells (rgA vs) 133)).alloc (.cells #[.int .i64 fk, .int .i64 fa] 135)).alloc (.cells #[.int .i64 cm0.a, .int .i64 cm0.b, .int .i64 cm0.c, .int .i64 cm0.d, .int .i64 cm0.e] 80)).alloc (.cells #[.slice none 0 0, .int .i64 0, .slice none 0 0, .slice none 0 0, .slice none 0 0, .slice none 0 0, .slice none 0 0, .slice none 0 0, .slice none 0 0, .slice none 0 0, .slice none 0 0, .slice none 0 0, .slice none 0 0, .slice none 0 0, .slice none 0 0, .slice none 0 0, .slice none 0 0, .slice none 0 0, .slice none 0 0, .slice none 0 0, .slice none 0 0, .slice none 0 0, .slice none 0 0, .slice none 0 0, .slice none 0 0, .slice none 0 0, .slice none 0 0, .slice none 0 0, .slice none 0 0, .int .i64 0, .int .i64 0, .int .i64 0, .slice none 0 0] 138)) = w5 at *
 obtain ⟨hLn, hRg, hFd, hCm, hZ, hbw, hsz⟩ := hbx
 obtain ⟨l0, l1, -, -⟩ := hLn.two
 go_upto_region 4 with (first | (go_at_call 89; go_loud (refine (ref_lineErr a n c (k : Int) _).mono ?_; rintro e w8 ⟨rfl, hb8⟩; rw [HE.out]; have hZ8 := hZ.below hb8 hZ.lt; have HB8 := Lib.hid (hbw.trans (hb8.mono (by omega))); have hC8 := hCm.below hb8 hCm.lt; obtain ⟨d0, d1, d2, d3, d4⟩ := Blk.five hC8; have hLn8 := hLn.below hb8 hLn.lt; have hRg8 := hRg.below hb8 hRg.lt; have hFd8 := hFd.below hb8 hFd.lt; obtain ⟨q0, q1, -, -⟩ := Blk.two hFd8)))
 have HZ8 := Lib.hid hZ8; have HC8 := Lib.hid hC8; have HL8 := Lib.hid hLn8; have HR8 := Lib.hid hRg8; have HF8 := Lib.hid hFd8
 clear hZ hCm hLn hRg hFd hZ8 hC8 hLn8 hRg8 hFd8 l0 l1
 have hw8 : w.heap.size + 5 ≤ w8.heap.size := by have := hb8.size; omega
 clear hb8 hbw
 go_cut [41] (fun v wx => v = .bool false ∧ Below w8.heap.size w8 wx)
 case first =>
  rcases HF.out with rfl | h
  ·go_wp2
   go_meet
   exact ⟨by rw [decide_eq_false (by omega), decide_eq_false (by omega)]; rfl, Below.refl _ _⟩
  ·have HFI := Lib.hid h
   have xf : (fk != 0) = true := by
    have : fk = 102 ∨ fk = 70 ∨ fk = 116 ∨ fk = 84 := by simpa [fiB] using h
    simp; omega
   clear h
   go_wp2_with (go_at_call 141; go_loud (refine (ref_isFind fk _).mono ?_; rintro e w9 ⟨rfl, hb9⟩; rw [HFI.out]))
   go_meet
   exact ⟨by rw [decide_eq_false (by omega), decide_eq_false (by omega)]; rfl, hb9⟩
 obtain ⟨rfl, hb1⟩ := hcut
 clear d0 d1 d2 d3 d4 q0 q1
 obtain ⟨d0, d1, d2, d3, d4⟩ := Blk.five (HC8.out.below hb1 HC8.out.lt)
 go_upto_region 6 with fail
 go_cut [51] (fun v wx => v = .bool false ∧ Below w8.heap.size w8 wx)
 case first =>
  rcases HOS.out with e | e | e | e
  ·have x0 : (cm0.c != 0) = false := by rw [e]; rfl
   clear e
   go_wp2
   go_meet
   exact ⟨rfl, hb1⟩
  all_goals
   have x0 : (cm0.c != 0) = true := by rw [e]; rfl
   have HIN := Lib.hid (show inB cm0.c ⟨#[100, 99, 121]⟩ = true by rw [e]; rfl)
   clear e
   go_wp2_with (go_at_call 121; go_loud (refine (ref_in cm0.c ⟨#[100, 99, 121]⟩ (by decide) _).mono ?_; rintro e w9 ⟨rfl, hb9⟩; rw [HIN.out]))
   go_meet
   exact ⟨rfl, hb1.trans (hb9.mono hb1.size)⟩
 obtain ⟨rfl, hb2⟩ := hcut
 clear d0 d1 d2 d3 d4 hb1
 have hC2 := HC8.out.below hb2 HC8.out.lt
 obtain ⟨d0, d1, d2, d3, d4⟩ := Blk.five hC2
 go_upto_region 8 with fail
 go_cut [9] (fun v wx => v = .int .i64 0 ∧ Blk wx (w.heap.size + 3) #[.int .i64 cm.a, .int .i64 cm.b, .int .i64 cm.c, .int .i64 cm.d, .int .i64 cm.e] 80 ∧ Asd (w.heap.size + 3) w8 wx ∧ Below w.heap.size w wx)
 case first =>
  go_wp2_with (go_at_call 142; go_loud (refine (ref_long cm0 _).mono ?_; rintro e w9 ⟨rfl, hb9⟩; rw [HCM.out, c5_v]; have hC9 := hC2.below hb9 hC2.lt; clear d0 d1 d2 d3 d4; obtain ⟨d0, d1, d2, d3, d4⟩ := Blk.five hC9; have f0 := hC9.free 0; have f1 := hC9.free 1; have f2 := hC9.free 2; have f3 := hC9.free 3; have f4 := hC9.free 4))
  go_meet
  exact ⟨rfl, ((((hC9.set 0 _).set 1 _).set 2 _).set 3 _).set 4 _, (((((Asd.of hb2).trans (Asd.of hb9)).trans (Asd.set _)).trans (Asd.set _)).trans (Asd.set _)).trans (Asd.set _) |>.trans (Asd.set _), ((((((HB8.out.trans (hb2.mono HB8.out.size)).trans (hb9.mono (Nat.le_trans HB8.out.size hb2.size))).setCell (p := ⟨w.heap.size + 3, 0, none⟩) (Nat.le_add_right _ 3) _).setCell (p := ⟨w.heap.size + 3, 1, none⟩) (Nat.le_add_right _ 3) _).setCell (p := ⟨w.heap.size + 3, 2, none⟩) (Nat.le_add_right _ 3) _).setCell (p := ⟨w.heap.size + 3, 3, none⟩) (Nat.le_add_right _ 3) _).setCell (p := ⟨w.heap.size + 3, 4, none⟩) (Nat.le_add_right _ 3) _⟩
 obtain ⟨rfl, hC3, hA3, hB3⟩ := hcut
 clear d0 d1 d2 d3 d4 hC2 hb2
 have hL3 := hA3.blk (B := w.heap.size) (by omega) HL8.out
 have hR3 : BlkR wc (w.heap.size + 1) vs 133 := hA3.blk (B := w.heap.size + 1) (by omega) HR8.out
 have hF3 := hA3.blk (B := w.heap.size + 2) (by omega) HF8.out
 have hZ3 : BlkR wc (w.heap.size + 4) zero33 138 := hA3.blk (B := w.heap.size + 4) (by omega) HZ8.out
 obtain ⟨l0, l1, -, -⟩ := Blk.two hL3
 obtain ⟨q0, q1, -, -⟩ := Blk.two hF3
 obtain ⟨d0, d1, d2, d3, d4⟩ := Blk.five hC3
 have hw3 : w.heap.size + 5 ≤ wc.heap.size := Nat.le_trans hw8 hA3.size
 clear hA3 HL8 HR8 HF8 HZ8 HC8 HB8 hw8 hsz
 generalize wc = w3 at *
 go_upto_region 10 with (first | (refine regs_load rfl _ rfl (w.heap.size + 1) rfl vs _ hR3 hlv ?_) | ((with_reducible show wpList _ _ _ (⟨_, Op.build _ _, _, _, _, _⟩ :: _) _ _); refine resL_build rfl _ _ _ rfl a n c (k : Int) fk fa vs rfl rfl rfl hlv ?_) | ((with_reducible show wpList _ _ _ (⟨none, Op.store _ _ _, _, _, _, _⟩ :: _) _ _); go_loud (refine res_store rfl _ _ rfl w3.heap.size 0 rfl (resL (.slice a n c) (k : Int) vs fk fa) rfl zero33 _ (BlkR.new w3 zero33 138) (Nat.le_refl 33) (resL_len hlv) hone ?_; change wpList _ _ _ _ _ ((w3.alloc (.cells (rgA zero33) 138)).setCells w3.heap.size 0 (resL (.slice a n c) (k : Int) vs fk fa)); have hz9 := zero_store (w := w3) (BlkR.new w3 zero33 138) zero33_len (below1 w3 _) (Nat.le_refl _) (resL (.slice a n c) (k : Int) vs fk fa) (resL_len hlv); generalize ((w3.alloc (.cells (rgA zero33) 138)).setCells w3.heap.size 0 (resL (.slice a n c) (k : Int) vs fk fa)) = w9 at hz9 ⊢)))
 have hL9 : Blk w9 w.heap.size #[.slice a n c, .int .i64 (k : Int)] 131 := hL3.below hz9.2 hL3.lt
 have hR9 := hR3.below hz9.2 hR3.lt
 have hF9 := hF3.below hz9.2 hF3.lt
 have hC9 := hC3.below hz9.2 hC3.lt
 have hZ9 := hZ3.below hz9.2 hZ3.lt
 have hb9 := hB3.trans (hz9.2.mono hB3.size)
 have h9 := rb_new HI.out cm hz9.1 hb9 hB3.size
 dsimp only at h9
 have hP5 : w.heap.size + 4 < w3.heap.size := by omega
 have hP9 : w3.heap.size < w9.heap.size := hz9.1.lt
 clear hL3 hR3 hF3 hC3 hZ3 d0 d1 d2 d3 d4 l0 l1 q0 q1 hB3 hz9 hone hw3
 generalize w3.heap.size = P at *
 have HZ9 := Lib.hid hZ9; have HC9 := Lib.hid hC9; have HR9 := Lib.hid hR9; have HL9 := Lib.hid hL9; have HF9 := Lib.hid hF9; have H9 := Lib.hid h9
 obtain ⟨l0, l1, -, -⟩ := Blk.two hL9
 obtain ⟨q0, q1, -, -⟩ := Blk.two hF9
 obtain ⟨d0, d1, d2, d3, d4⟩ := Blk.five hC9
 clear hL9 hC9 hZ9 h9 hF9
 simp only [Act.put, List.setIfInBounds_toArray, List.set_cons_zero, List.set_cons_succ]
 go_upto_block 0 with fail
 go_cut [12] (fun v wx => v = .int .i64 er ∧ (∃ us, RB ⟨w, a, n, c, t, k, vs, X⟩ P wx us s) ∧ Asd P w9 wx)
 case first =>
  go_wp2_with (first | (refine regs_load rfl _ rfl (w.heap.size + 1) rfl vs _ hR9 hlv ?_) | (go_at_call 143; go_loud (refine (HOP.out w9 hb9).mono ?_; rintro e w10 ⟨rs, rfl, hq10, hb10⟩; have h10 := H9.out.to hb10; have hB10 := h10.b; have hl10 := hq10.lr; have ho10 := RsQ.one HI.out (RsQ.at hq10); have hA10 := Lib.hid ((Asd.of (P := P) hb10).trans (Asd.setCells (o := 0) rs)); have h11 := Lib.hid (h10.setRes rs (RsQ.mono (RsQ.at hq10) (Nat.succ_le_of_lt hP9))); have hl9 := h10.lu; clear h10)) | ((with_reducible show wpList _ _ _ (⟨none, Op.store _ _ _, _, _, _, _⟩ :: _) _ _); go_loud (refine res_store rfl _ _ rfl P 0 rfl rs rfl _ _ hB10 (by rw [hl9]; exact Nat.le_refl 33) hl10 ho10 ?_)))
  go_meet
  exact ⟨rfl, ⟨_, h11.out⟩, hA10.out⟩
 obtain ⟨rfl, ⟨us3, h3⟩, hA3⟩ := hcut
 clear d0 d1 d2 d3 d4 l0 l1 q0 q1
 have hZ3 := hA3.blk (B := w.heap.size + 4) (by omega) HZ9.out
 obtain ⟨l0, l1, -, -⟩ := Blk.two (hA3.blk (B := w.heap.size) (by omega) HL9.out)
 have HB3 := Lib.hid h3.bel
 by_cases hz : er = 0
 ·obtain ⟨a5, n5, c5, e5⟩ : ∃ a5 n5 c5, vx us3 0 = .slice a5 n5 c5 := by
   obtain ⟨q1, q2, q3, q4, -⟩ := (h3.o.sl HI.out h3.bel); exact ⟨q1, q2, q3, q4⟩
  have hsl := h3.o.sl HI.out h3.bel
  rw [e5] at hsl
  have hg := hsl.get
  have HSL := Lib.hid hg.1
  have hi5 := hg.2.2.2.1
  have hnc := hg.2.1
  have HZN := Lib.hid hg.2.2.2.2
  have e0 := h3.b.cell (i := 0) (by rw [h3.lu]; omega)
  rw [e5] at e0
  have hti := HTi.out.below h3.bel
  have hn5 : n5 ≤ 4096 := by have := HOL.out hz; rw [hg.1] at this; exact this
  have H3 := Lib.hid h3; have HA3 := Lib.hid hA3
  subst hz
  clear hsl hg h3 hA3 e5
  go_wp2_with (first | (go_at_call 148; go_loud (refine (ref_between a a5 n c n5 c5 t _ _ hti hi5 HT.out HSL.out (by omega) hn5 hnc HZN.out).mono ?_; rintro e w10 ⟨v9, ws, es, rfl, so9, hbt, hb9'⟩; obtain ⟨a9, c9, rfl, -, -, -⟩ := so9.form; have h10 := H3.out.to hb9'; have c32 := h10.b.cell (i := 32) (by rw [h10.lu]; omega); have f32 := h10.b.free 32; have h11 := h10.setE _ ws es (so9.mono (Nat.succ_le_of_lt H3.out.b.lt)); have HBT := Lib.hid (btF_eq hbt); have hZ11 := ((HA3.out.trans (Asd.of hb9')).trans (Asd.set (P := P) (i := 32) (.slice a9 es.length c9))).blk (B := w.heap.size + 4) (by omega) HZ9.out; have HB11 := Lib.hid h11.bel; have hl11 := h11.lu; have hg11 := rangeAt_blk h11.b; have ho11 := RsQ.one HI.out h11.rsQ; have hr11 := h11.rsQ.left (left_setCells (w10.setCell ⟨P, 32, none⟩ (.slice a9 es.length c9)) (w.heap.size + 4) 0 (us3.set 32 (.slice a9 es.length c9))) (by omega); clear h10 h11 hbt)) | ((with_reducible show wpList _ _ _ (⟨_, Op.load 138 _, _, _, _, _⟩ :: _) _ _); refine res_load rfl _ rfl P 0 rfl _ hg11 hl11 ?_) | ((with_reducible show wpList _ _ _ (⟨none, Op.store 138 _ _, _, _, _, _⟩ :: _) _ _); revert hl11))
  intro hl11
  have hl12 : (us3.set 32 (.slice a9 es.length c9)).length = 33 := by first | exact hl11 | (rw [List.length_set]; exact hl11)
  refine res_store rfl _ _ rfl (w.heap.size + 4) 0 rfl (us3.set 32 (.slice a9 es.length c9)) rfl zero33 _ hZ11 (Nat.le_refl 33) hl12 ho11 ?_
  have hz9 := zero_store (w := w) hZ11 zero33_len HB11.out (Nat.le_add_right _ 4) (us3.set 32 (.slice a9 es.length c9)) hl12
  generalize (w10.setCell ⟨P, 32, none⟩ (.slice a9 es.length c9)).setCells (w.heap.size + 4) 0 (us3.set 32 (.slice a9 es.length c9)) = w9' at hz9 hr11 ⊢
  have HZ9' := Lib.hid hz9; have HRX := Lib.hid hr11; have HLX := Lib.hid hl12
  clear hz9 hr11 hl11 hl12 hg11 ho11 hZ11 c32 f32 hti hi5
  dsimp only [Act.put]
  repeat go_step
  refine bodyPost_ret (results_ct Try.results84 rfl (res_loadVar HZ9'.out.1 HLX.out)) rfl ⟨_, rfl, ?_, HZ9'.out.2⟩
  rw [← HSF.out]
  first | rw [if_pos rfl, HBT.out] | rw [if_pos True.intro, HBT.out] | rw [HBT.out]
  exact HRX.out.mono (by omega)
 ·have x12 : (er != 0) = true := by simpa using hz
  clear hz h3 hA3
  go_wp2_with (first | ((with_reducible show wpList _ _ _ (⟨none, Op.store _ _ _, _, _, _, _⟩ :: _) _ _); revert HB3))
  intro HB3
  refine res_store rfl _ _ rfl (w.heap.size + 4) 0 rfl zero33 rfl zero33 _ hZ3 (Nat.le_refl 33) rfl one_zero33 ?_
  have hz9 := zero_store (w := w) hZ3 zero33_len HB3.out (Nat.le_add_right _ 4) zero33 rfl
  generalize wc.setCells (w.heap.size + 4) 0 zero33 = w9' at hz9 ⊢
  have HZ9' := Lib.hid hz9
  clear hz9 hZ3
  dsimp only [Act.put]
  repeat go_step
  have hz' : er ≠ 0 := fun h => by rw [h] at x12; exact absurd x12 (by decide)
  have hzF : zSt cm = sF := by rw [← HSF.out]; first | rw [if_neg hz'] | rfl
  rw [← hzF]
  exact bodyPost_ret (results_ct Try.results84 rfl (res_loadVar HZ9'.out.1 zero33_len)) rfl ⟨zero33, rfl, (rsI_zero w.heap.size _ cm).rsQ _, HZ9'.out.2⟩
set_option maxRecDepth 100000 in
set_option maxHeartbeats 4000000 in
theorem ref_do_simple (I : In) (hI : InOk I) (fk fa : Int) (cm0 cm : C5) (hcm : lgC cm0 = cm) (hc0 : 0 ≤ cm0.a) (hc1 : cm0.a ≤ 999) (hf : fk = 0 ∨ fiB fk = true) (hop : opOk cm0.c = true) (hc : cm.c = 0) (hd : motB cm.d = false) (er md p : Int) (O : List Int) (hOl : er = 0 → O.length ≤ 4096) (hOP : ∀ w1, Below I.w0.heap.size I.w0 w1 → Calls Try.prog 147 #[.agg #[.slice I.a I.n I.c, .int .i64 (I.k : Int)], .agg (rgA I.vs), .agg #[.int .i64 cm.a, .int .i64 cm.b, .int .i64 cm.c, .int .i64 cm.d, .int .i64 cm.e]] w1 (SimPost I er md p O w1)) :
  Calls Try.prog 84 #[.agg #[.slice I.a I.n I.c, .int .i64 (I.k : Int)], .agg (rgA I.vs), .agg #[.int .i64 fk, .int .i64 fa], .agg #[.int .i64 cm0.a, .int .i64 cm0.b, .int .i64 cm0.c, .int .i64 cm0.d, .int .i64 cm0.e]] I.w0 (ResPost I (er) (if er = 0 then { (⟨cm, O, p, I.X, fk, fa, md, []⟩ : St) with es := btF I.t O } else zSt cm) I.w0) := by
 have hE : lnE I.n I.k = 0 := by
  have := hI.top; have := hI.k1
  unfold lnE
  rw [if_neg (by omega), if_neg (by omega)]
 have HE := Lib.hid hE
 have HI := Lib.hid hI
 have hlv := hI.rgs.lv
 have HR := Lib.hid hI.rgs
 have HT := Lib.hid (show I.t.length = I.n from hI.len)
 have htop := hI.top
 have HTi := Lib.hid hI.ints
 have HN0 := Lib.hid hI.none
 have hcap := hI.cap; have hcap2 := hI.cap2
 have HCM := Lib.hid hcm
 have HF := Lib.hid hf
 have hos : cm0.c = 0 ∨ cm0.c = 100 ∨ cm0.c = 99 ∨ cm0.c = 121 := by simpa [opOk] using hop
 have HOS := Lib.hid hos
 clear hE hI hcm hf hop hos
 have HOL := Lib.hid hOl
 have HOP := Lib.hid hOP
 clear hOl hOP
 have x0 : (cm.c != 0) = false := by simpa using hc
 have HD := Lib.hid hd
 clear hc hd
 obtain ⟨sF, hsF⟩ : ∃ sF, (if er = 0 then { (⟨cm, O, p, I.X, fk, fa, md, []⟩ : St) with es := btF I.t O } else zSt cm) = sF := ⟨_, rfl⟩
 rw [hsF]
 have HSF := Lib.hid hsF
 clear hsF
 obtain ⟨w, a, n, c, t, k, vs, X⟩ := I
 dsimp only at *
 have hone : ∀ v ∈ resL (.slice a n c) (k : Int) vs fk fa, v.oneCell' = true := resL_one HR.out
 have hbx := boxes5 w #[.slice a n c, .int .i64 (k : Int)] #[.int .i64 fk, .int .i64 fa] #[.int .i64 cm0.a, .int .i64 cm0.b, .int .i64 cm0.c, .int .i64 cm0.d, .int .i64 cm0.e] vs zero33 131 133 135 80 138
 dsimp only at hbx
 rw [show rgA zero33 = #[.slice none 0 0, .int .i64 0, .slice none 0 0, .slice none 0 0, .slice none 0 0, .slice none 0 0, .slice none 0 0, .slice none 0 0, .slice none 0 0, .slice none 0 0, .slice none 0 0, .slice none 0 0, .slice none 0 0, .slice none 0 0, .slice none 0 0, .slice none 0 0, .slice none 0 0, .slice none 0 0, .slice none 0 0, .slice none 0 0, .slice none 0 0, .slice none 0 0, .slice none 0 0, .slice none 0 0, .slice none 0 0, .slice none 0 0, .slice none 0 0, .slice none 0 0, .slice none 0 0, .int .i64 0, .int .i64 0, .int .i64 0, .slice none 0 0] from rfl] at hbx
 go_enter Try.func84, Try.ntmps84
 go_upto_region 1 with fail
 generalize (((((w.alloc (.cells #[.slice a n c, .int .i64 (k : Int)] 131)).alloc (.cells (rgA vs) 133)).alloc (.cells #[.int .i64 fk, .int .i64 fa] 135)).alloc (.cells #[.int .i64 cm0.a, .int .i64 cm0.b, .int .i64 cm0.c, .int .i64 cm0.d, .int .i64 cm0.e] 80)).alloc (.cells #[.slice none 0 0, .int .i64 0, .slice none 0 0, .slice none 0 0, .slice none 0 0, .slice none 0 0, .slice none 0 0, .slice none 0 0, .slice none 0 0, .slice none 0 0, .slice none 0 0, .slice none 0 0, .slice none 0 0, .slice none 0 0, .slice none 0 0, .slice none 0 0, .slice none 0 0, .slice none 0 0, .slice none 0 0, .slice none 0 0, .slice none 0 0, .slice none 0 0, .slice none 0 0, .slice none 0 0, .slice none 0 0, .slice none 0 0, .slice none 0 0, .slice none 0 0, .slice none 0 0, .int .i64 0, .int .i64 0, .int .i64 0, .slice none 0 0] 138)) = w5 at *
 obtain ⟨hLn, hRg, hFd, hCm, hZ, hbw, hsz⟩ := hbx
 obtain ⟨l0, l1, -, -⟩ := hLn.two
 go_upto_region 4 with (first | (go_at_call 89; go_loud (refine (ref_lineErr a n c (k : Int) _).mono ?_; rintro e w8 ⟨rfl, hb8⟩; rw [HE.out]; have hZ8 := hZ.below hb8 hZ.lt; have HB8 := Lib.hid (hbw.trans (hb8.mono (by omega))); have hC8 := hCm.below hb8 hCm.lt; obtain ⟨d0, d1, d2, d3, d4⟩ := Blk.five hC8; have hLn8 := hLn.below hb8 hLn.lt; have hRg8 := hRg.below hb8 hRg.lt; have hFd8 := hFd.below hb8 hFd.lt; obtain ⟨q0, q1, -, -⟩ := Blk.two hFd8)))
 have HZ8 := Lib.hid hZ8; have HC8 := Lib.hid hC8; have HL8 := Lib.hid hLn8; have HR8 := Lib.hid hRg8; have HF8 := Lib.hid hFd8
 clear hZ hCm hLn hRg hFd hZ8 hC8 hLn8 hRg8 hFd8 l0 l1
 have hw8 : w.heap.size + 5 ≤ w8.heap.size := by have := hb8.size; omega
 clear hb8 hbw
 go_cut [41] (fun v wx => v = .bool false ∧ Below w8.heap.size w8 wx)
 case first =>
  rcases HF.out with rfl | h
  ·go_wp2
   go_meet
   exact ⟨by rw [decide_eq_false (by omega), decide_eq_false (by omega)]; rfl, Below.refl _ _⟩
  ·have HFI := Lib.hid h
   have xf : (fk != 0) = true := by
    have : fk = 102 ∨ fk = 70 ∨ fk = 116 ∨ fk = 84 := by simpa [fiB] using h
    simp; omega
   clear h
   go_wp2_with (go_at_call 141; go_loud (refine (ref_isFind fk _).mono ?_; rintro e w9 ⟨rfl, hb9⟩; rw [HFI.out]))
   go_meet
   exact ⟨by rw [decide_eq_false (by omega), decide_eq_false (by omega)]; rfl, hb9⟩
 obtain ⟨rfl, hb1⟩ := hcut
 clear d0 d1 d2 d3 d4 q0 q1
 obtain ⟨d0, d1, d2, d3, d4⟩ := Blk.five (HC8.out.below hb1 HC8.out.lt)
 go_upto_region 6 with fail
 go_cut [51] (fun v wx => v = .bool false ∧ Below w8.heap.size w8 wx)
 case first =>
  rcases HOS.out with e | e | e | e
  ·have x0 : (cm0.c != 0) = false := by rw [e]; rfl
   clear e
   go_wp2
   go_meet
   exact ⟨rfl, hb1⟩
  all_goals
   have x0 : (cm0.c != 0) = true := by rw [e]; rfl
   have HIN := Lib.hid (show inB cm0.c ⟨#[100, 99, 121]⟩ = true by rw [e]; rfl)
   clear e
   go_wp2_with (go_at_call 121; go_loud (refine (ref_in cm0.c ⟨#[100, 99, 121]⟩ (by decide) _).mono ?_; rintro e w9 ⟨rfl, hb9⟩; rw [HIN.out]))
   go_meet
   exact ⟨rfl, hb1.trans (hb9.mono hb1.size)⟩
 obtain ⟨rfl, hb2⟩ := hcut
 clear d0 d1 d2 d3 d4 hb1
 have hC2 := HC8.out.below hb2 HC8.out.lt
 obtain ⟨d0, d1, d2, d3, d4⟩ := Blk.five hC2
 go_upto_region 8 with fail
 go_cut [9] (fun v wx => v = .int .i64 0 ∧ Blk wx (w.heap.size + 3) #[.int .i64 cm.a, .int .i64 cm.b, .int .i64 cm.c, .int .i64 cm.d, .int .i64 cm.e] 80 ∧ Asd (w.heap.size + 3) w8 wx ∧ Below w.heap.size w wx)
 case first =>
  go_wp2_with (go_at_call 142; go_loud (refine (ref_long cm0 _).mono ?_; rintro e w9 ⟨rfl, hb9⟩; rw [HCM.out, c5_v]; have hC9 := hC2.below hb9 hC2.lt; clear d0 d1 d2 d3 d4; obtain ⟨d0, d1, d2, d3, d4⟩ := Blk.five hC9; have f0 := hC9.free 0; have f1 := hC9.free 1; have f2 := hC9.free 2; have f3 := hC9.free 3; have f4 := hC9.free 4))
  go_meet
  exact ⟨rfl, ((((hC9.set 0 _).set 1 _).set 2 _).set 3 _).set 4 _, (((((Asd.of hb2).trans (Asd.of hb9)).trans (Asd.set _)).trans (Asd.set _)).trans (Asd.set _)).trans (Asd.set _) |>.trans (Asd.set _), ((((((HB8.out.trans (hb2.mono HB8.out.size)).trans (hb9.mono (Nat.le_trans HB8.out.size hb2.size))).setCell (p := ⟨w.heap.size + 3, 0, none⟩) (Nat.le_add_right _ 3) _).setCell (p := ⟨w.heap.size + 3, 1, none⟩) (Nat.le_add_right _ 3) _).setCell (p := ⟨w.heap.size + 3, 2, none⟩) (Nat.le_add_right _ 3) _).setCell (p := ⟨w.heap.size + 3, 3, none⟩) (Nat.le_add_right _ 3) _).setCell (p := ⟨w.heap.size + 3, 4, none⟩) (Nat.le_add_right _ 3) _⟩
 obtain ⟨rfl, hC3, hA3, hB3⟩ := hcut
 clear d0 d1 d2 d3 d4 hC2 hb2
 have hL3 := hA3.blk (B := w.heap.size) (by omega) HL8.out
 have hR3 : BlkR wc (w.heap.size + 1) vs 133 := hA3.blk (B := w.heap.size + 1) (by omega) HR8.out
 have hF3 := hA3.blk (B := w.heap.size + 2) (by omega) HF8.out
 have hZ3 : BlkR wc (w.heap.size + 4) zero33 138 := hA3.blk (B := w.heap.size + 4) (by omega) HZ8.out
 obtain ⟨l0, l1, -, -⟩ := Blk.two hL3
 obtain ⟨q0, q1, -, -⟩ := Blk.two hF3
 obtain ⟨d0, d1, d2, d3, d4⟩ := Blk.five hC3
 have hw3 : w.heap.size + 5 ≤ wc.heap.size := Nat.le_trans hw8 hA3.size
 clear hA3 HL8 HR8 HF8 HZ8 HC8 HB8 hw8 hsz
 generalize wc = w3 at *
 go_upto_region 10 with (first | (refine regs_load rfl _ rfl (w.heap.size + 1) rfl vs _ hR3 hlv ?_) | ((with_reducible show wpList _ _ _ (⟨_, Op.build _ _, _, _, _, _⟩ :: _) _ _); refine resL_build rfl _ _ _ rfl a n c (k : Int) fk fa vs rfl rfl rfl hlv ?_) | ((with_reducible show wpList _ _ _ (⟨none, Op.store _ _ _, _, _, _, _⟩ :: _) _ _); go_loud (refine res_store rfl _ _ rfl w3.heap.size 0 rfl (resL (.slice a n c) (k : Int) vs fk fa) rfl zero33 _ (BlkR.new w3 zero33 138) (Nat.le_refl 33) (resL_len hlv) hone ?_; change wpList _ _ _ _ _ ((w3.alloc (.cells (rgA zero33) 138)).setCells w3.heap.size 0 (resL (.slice a n c) (k : Int) vs fk fa)); have hz9 := zero_store (w := w3) (BlkR.new w3 zero33 138) zero33_len (below1 w3 _) (Nat.le_refl _) (resL (.slice a n c) (k : Int) vs fk fa) (resL_len hlv); generalize ((w3.alloc (.cells (rgA zero33) 138)).setCells w3.heap.size 0 (resL (.slice a n c) (k : Int) vs fk fa)) = w9 at hz9 ⊢)))
 have hL9 : Blk w9 w.heap.size #[.slice a n c, .int .i64 (k : Int)] 131 := hL3.below hz9.2 hL3.lt
 have hR9 := hR3.below hz9.2 hR3.lt
 have hF9 := hF3.below hz9.2 hF3.lt
 have hC9 := hC3.below hz9.2 hC3.lt
 have hZ9 := hZ3.below hz9.2 hZ3.lt
 have hb9 := hB3.trans (hz9.2.mono hB3.size)
 have h9 := rb_new HI.out cm hz9.1 hb9 hB3.size
 dsimp only at h9
 have hP5 : w.heap.size + 4 < w3.heap.size := by omega
 have hP9 : w3.heap.size < w9.heap.size := hz9.1.lt
 clear hL3 hR3 hF3 hC3 hZ3 d0 d1 d2 d3 d4 l0 l1 q0 q1 hB3 hz9 hone hw3
 generalize w3.heap.size = P at *
 have HZ9 := Lib.hid hZ9; have HC9 := Lib.hid hC9; have HR9 := Lib.hid hR9; have HL9 := Lib.hid hL9; have HF9 := Lib.hid hF9; have H9 := Lib.hid h9
 obtain ⟨l0, l1, -, -⟩ := Blk.two hL9
 obtain ⟨q0, q1, -, -⟩ := Blk.two hF9
 obtain ⟨d0, d1, d2, d3, d4⟩ := Blk.five hC9
 clear hL9 hC9 hZ9 h9 hF9
 simp only [Act.put, List.setIfInBounds_toArray, List.set_cons_zero, List.set_cons_succ]
 go_upto_block 0 with fail
 go_cut [12] (fun v wx => v = .int .i64 er ∧ (∃ us, RB ⟨w, a, n, c, t, k, vs, X⟩ P wx us ⟨cm, O, p, X, fk, fa, md, []⟩) ∧ Asd P w9 wx)
 case first =>
  go_wp2_with (first | (go_at_call 144; go_loud (refine (ref_isMotion cm.d _).mono ?_; rintro e w4 ⟨rfl, hb4⟩; rw [HD.out]; have hb5 := hb9.trans (hb4.mono hb9.size); have hR4 := hR9.below hb4 hR9.lt; clear l0 l1 d0 d1 d2 d3 d4; obtain ⟨l0, l1, -, -⟩ := Blk.two (HL9.out.below hb4 HL9.out.lt); obtain ⟨d0, d1, d2, d3, d4⟩ := Blk.five (HC9.out.below hb4 HC9.out.lt))) | (refine regs_load rfl _ rfl (w.heap.size + 1) rfl vs _ hR4 hlv ?_) | (go_at_call 147; go_loud (refine (HOP.out w4 hb5).mono ?_; rintro e w10 ⟨a8, n8, c8, rfl, hs8, hb10⟩; have h10 := (H9.out.to hb4).to hb10; obtain ⟨y0, yf0⟩ := h10.mvS (o := 0) (by omega); obtain ⟨y1, yf1⟩ := h10.mvS (o := 1) (by omega); obtain ⟨y31, yf31⟩ := h10.mvS (o := 31) (by omega); have hA10 := Lib.hid ((Asd.of (P := P) hb4).trans (Asd.of hb10)); have HS8 := Lib.hid (SlQ.mono hs8 (show P + 1 ≤ w4.heap.size from Nat.le_trans (Nat.succ_le_of_lt hP9) hb4.size)); have H10 := Lib.hid h10; clear h10 hs8)))
  go_meet
  exact ⟨rfl, ⟨_, ((H10.out.setO _ _ HS8.out).setP p).setM md⟩, ((hA10.out.trans (Asd.set _)).trans (Asd.set _)).trans (Asd.set _)⟩
 obtain ⟨rfl, ⟨us3, h3⟩, hA3⟩ := hcut
 clear d0 d1 d2 d3 d4 l0 l1 q0 q1
 have hZ3 := hA3.blk (B := w.heap.size + 4) (by omega) HZ9.out
 obtain ⟨l0, l1, -, -⟩ := Blk.two (hA3.blk (B := w.heap.size) (by omega) HL9.out)
 have HB3 := Lib.hid h3.bel
 by_cases hz : er = 0
 ·obtain ⟨a5, n5, c5, e5⟩ : ∃ a5 n5 c5, vx us3 0 = .slice a5 n5 c5 := by
   obtain ⟨q1, q2, q3, q4, -⟩ := (h3.o.sl HI.out h3.bel); exact ⟨q1, q2, q3, q4⟩
  have hsl := h3.o.sl HI.out h3.bel
  rw [e5] at hsl
  have hg := hsl.get
  have HSL := Lib.hid hg.1
  have hi5 := hg.2.2.2.1
  have hnc := hg.2.1
  have HZN := Lib.hid hg.2.2.2.2
  have e0 := h3.b.cell (i := 0) (by rw [h3.lu]; omega)
  rw [e5] at e0
  have hti := HTi.out.below h3.bel
  have hn5 : n5 ≤ 4096 := by have := HOL.out hz; rw [hg.1] at this; exact this
  have H3 := Lib.hid h3; have HA3 := Lib.hid hA3
  subst hz
  clear hsl hg h3 hA3 e5
  go_wp2_with (first | (go_at_call 148; go_loud (refine (ref_between a a5 n c n5 c5 t _ _ hti hi5 HT.out HSL.out (by omega) hn5 hnc HZN.out).mono ?_; rintro e w10 ⟨v9, ws, es, rfl, so9, hbt, hb9'⟩; obtain ⟨a9, c9, rfl, -, -, -⟩ := so9.form; have h10 := H3.out.to hb9'; have c32 := h10.b.cell (i := 32) (by rw [h10.lu]; omega); have f32 := h10.b.free 32; have h11 := h10.setE _ ws es (so9.mono (Nat.succ_le_of_lt H3.out.b.lt)); have HBT := Lib.hid (btF_eq hbt); have hZ11 := ((HA3.out.trans (Asd.of hb9')).trans (Asd.set (P := P) (i := 32) (.slice a9 es.length c9))).blk (B := w.heap.size + 4) (by omega) HZ9.out; have HB11 := Lib.hid h11.bel; have hl11 := h11.lu; have hg11 := rangeAt_blk h11.b; have ho11 := RsQ.one HI.out h11.rsQ; have hr11 := h11.rsQ.left (left_setCells (w10.setCell ⟨P, 32, none⟩ (.slice a9 es.length c9)) (w.heap.size + 4) 0 (us3.set 32 (.slice a9 es.length c9))) (by omega); clear h10 h11 hbt)) | ((with_reducible show wpList _ _ _ (⟨_, Op.load 138 _, _, _, _, _⟩ :: _) _ _); refine res_load rfl _ rfl P 0 rfl _ hg11 hl11 ?_) | ((with_reducible show wpList _ _ _ (⟨none, Op.store 138 _ _, _, _, _, _⟩ :: _) _ _); revert hl11))
  intro hl11
  have hl12 : (us3.set 32 (.slice a9 es.length c9)).length = 33 := by first | exact hl11 | (rw [List.length_set]; exact hl11)
  refine res_store rfl _ _ rfl (w.heap.size + 4) 0 rfl (us3.set 32 (.slice a9 es.length c9)) rfl zero33 _ hZ11 (Nat.le_refl 33) hl12 ho11 ?_
  have hz9 := zero_store (w := w) hZ11 zero33_len HB11.out (Nat.le_add_right _ 4) (us3.set 32 (.slice a9 es.length c9)) hl12
  generalize (w10.setCell ⟨P, 32, none⟩ (.slice a9 es.length c9)).setCells (w.heap.size + 4) 0 (us3.set 32 (.slice a9 es.length c9)) = w9' at hz9 hr11 ⊢
  have HZ9' := Lib.hid hz9; have HRX := Lib.hid hr11; have HLX := Lib.hid hl12
  clear hz9 hr11 hl11 hl12 hg11 ho11 hZ11 c32 f32 hti hi5
  dsimp only [Act.put]
  repeat go_step
  refine bodyPost_ret (results_ct Try.results84 rfl (res_loadVar HZ9'.out.1 HLX.out)) rfl ⟨_, rfl, ?_, HZ9'.out.2⟩
  rw [← HSF.out]
  first | rw [if_pos rfl, HBT.out] | rw [if_pos True.intro, HBT.out] | rw [HBT.out]
  exact HRX.out.mono (by omega)
 ·have x12 : (er != 0) = true := by simpa using hz
  clear hz h3 hA3
  go_wp2_with (first | ((with_reducible show wpList _ _ _ (⟨none, Op.store _ _ _, _, _, _, _⟩ :: _) _ _); revert HB3))
  intro HB3
  refine res_store rfl _ _ rfl (w.heap.size + 4) 0 rfl zero33 rfl zero33 _ hZ3 (Nat.le_refl 33) rfl one_zero33 ?_
  have hz9 := zero_store (w := w) hZ3 zero33_len HB3.out (Nat.le_add_right _ 4) zero33 rfl
  generalize wc.setCells (w.heap.size + 4) 0 zero33 = w9' at hz9 ⊢
  have HZ9' := Lib.hid hz9
  clear hz9 hZ3
  dsimp only [Act.put]
  repeat go_step
  have hz' : er ≠ 0 := fun h => by rw [h] at x12; exact absurd x12 (by decide)
  have hzF : zSt cm = sF := by rw [← HSF.out]; first | rw [if_neg hz'] | rfl
  rw [← hzF]
  exact bodyPost_ret (results_ct Try.results84 rfl (res_loadVar HZ9'.out.1 zero33_len)) rfl ⟨zero33, rfl, (rsI_zero w.heap.size _ cm).rsQ _, HZ9'.out.2⟩
end Go.Proofs.Ytmipnikhgihcpaa
