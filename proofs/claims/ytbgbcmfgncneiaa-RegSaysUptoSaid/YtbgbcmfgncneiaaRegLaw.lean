/- The walk of fairlaw.RegSays. -/
import Derived.Test.YtbgbcmfgncneiaaReg5
namespace Go.Proofs.Ytbgbcmfgncneiaa
open Go.RowKit
set_option linter.unusedVariables false
set_option linter.unusedSimpArgs false

set_option maxRecDepth 100000 in
set_option maxHeartbeats 2000000 in
theorem regSays_walk (vs : List Value) (X : List (List Int)) (name : Int) (a : Option Addr) (n c : Nat) (t : List Int) (w : World) (h : Rgs w vs X) (hX : ∀ i, i < 27 → (rx X i).length ≤ 1048576)
    (ht : Ints w a t) (hn : t.length = n) (hc : n ≤ c) (hc2 : c ≤ 9223372036854775807) (h0 : a = none → n = 0) (hl : n ≤ 1048576) :
    Calls Try.prog 4 #[.agg (rgA vs), .int .i64 name, .slice a n c] w fun e w' => e = .returned (.bool true) ∧ Below w.heap.size w w' := by
  have hal := alloc_regs
  have H := Lib.hid h; have HX := Lib.hid hX; have HN := Lib.hid hn; have HA := Lib.hid h0
  clear h hX hn h0
  have hB0 := BlkR.new w vs 37
  have hacc := below1 w (.cells (rgA vs) 37)
  have hz1 : w.heap.size < (w.alloc (.cells (rgA vs) 37)).heap.size := by simp
  go_enter Try.func4, Try.ntmps4
  go_upto_region 1 with fail
  change Code.wp _ _ _ _ (w.alloc (.cells (rgA vs) 37))
  generalize (w.alloc (.cells (rgA vs) 37)) = w1 at *
  go_wp2_with (refine regs_load rfl _ rfl w.heap.size rfl vs _ hB0 H.out.lv ?_)
  refine (reg_put vs X name a n c t _ (H.out.below hacc) HX.out (ht.below hacc) HN.out HA.out hl).mono ?_
  rintro e w2 ⟨us, rfl, hR2, hb2⟩
  have hacc2 := below_then hacc (by omega) hb2
  have hB02 := hB0.below hb2 hB0.lt
  have hz2 := hb2.size
  have hBa := BlkR.new w2 nil27 37
  have HR2 := Lib.hid hR2; clear hR2
  have hB03 := hB02.alloc (.cells (rgA nil27) 37)
  go_wp2_with (first | (refine regs_store rfl _ _ rfl w2.heap.size rfl us rfl nil27 _ hBa nil27_len HR2.out.lv HR2.out.slv ?_; intro w4 hB4 hL4; have hB04 := hL4.blkR (by omega) hB03; have hacc4 := hL4.bel (by omega) (hacc2.alloc (by omega) (.cells (rgA nil27) 37)); have hb24 := hL4.bel (Nat.le_refl _) (below1 w2 (.cells (rgA nil27) 37)); have hz4 := hL4.size; rw [World.size_alloc] at hz4; have hz4' : w2.heap.size < w4.heap.size := (by omega); clear hz4) | (refine regs_load rfl _ rfl w.heap.size rfl vs _ hB04 H.out.lv ?_))
  refine (ref_put vs X name a n c t _ (H.out.below hacc4) HX.out (ht.below hacc4) HN.out hc hc2 HA.out hl).mono ?_
  rintro e w5 ⟨ur, rfl, hR5, hb5⟩
  have hacc5 := below_then hacc4 (by omega) hb5
  have hb25 := below_then hb24 (by omega) hb5
  have hB05 := hB04.below hb5 hB04.lt
  have hB45 := hB4.below hb5 hB4.lt
  have hz5 := hb5.size
  have hBb := BlkR.new w5 nil27 37
  have HR5 := Lib.hid hR5; clear hR5
  have hB06 := hB05.alloc (.cells (rgA nil27) 37)
  have hB46 := hB45.alloc (.cells (rgA nil27) 37)
  go_wp2_with (first | (refine regs_store rfl _ _ rfl w5.heap.size rfl ur rfl nil27 _ hBb nil27_len HR5.out.lv HR5.out.slv ?_; intro w7 hB7 hL7; have hB07 := hL7.blkR (by omega) hB06; have hB47 := hL7.blkR (by omega) hB46; have hacc7 := hL7.bel (by omega) (hacc5.alloc (by omega) (.cells (rgA nil27) 37)); have hb27 := hL7.bel (by omega) (hb25.alloc (by omega) (.cells (rgA nil27) 37)); have hb57 := hL7.bel (Nat.le_refl _) (below1 w5 (.cells (rgA nil27) 37)); have hz7 := hL7.size; rw [World.size_alloc] at hz7; have hz7' : w5.heap.size < w7.heap.size := (by omega); clear hz7) | (refine regs_load rfl _ rfl w.heap.size rfl vs _ hB07 H.out.lv ?_))
  refine (reg_get vs X name _ (H.out.below hacc7) HX.out).mono ?_
  rintro e w8 ⟨cv, rfl, hs8, hb8⟩
  have hz8 := hb8.size
  have hacc8 := below_then hacc7 (by omega) hb8
  have hB08 := hB07.below hb8 hB07.lt
  have HS8 := Lib.hid hs8; clear hs8
  go_wp2_with (refine regs_load rfl _ rfl w.heap.size rfl vs _ hB08 H.out.lv ?_)
  refine (ref_get vs X name _ (H.out.below hacc8)).mono ?_
  rintro e w9 ⟨dv, rfl, hs9, hb9⟩
  have hz9 := hb9.size
  have hacc9 := below_then hacc8 (by omega) hb9
  have hb79 := below_then hb8 (by omega) hb9
  have hB49 := hB47.below hb79 (by omega)
  have hB79 := hB7.below hb79 (by omega)
  have hRa := HR2.out.below (below_then hb27 (by omega) hb79)
  have hRb := HR5.out.below (below_then hb57 (by omega) hb79)
  have hsa := HS8.out.below hb9
  have HRA := Lib.hid hRa; have HRB := Lib.hid hRb
  clear hRa hRb
  go_wp2_with (first | (refine regs_load rfl _ rfl w2.heap.size rfl us _ hB49 HRA.out.lv ?_) | (refine regs_load rfl _ rfl w5.heap.size rfl ur _ hB79 HRB.out.lv ?_))
  refine (ref_same_regs us ur _ _ HRA.out HRB.out).mono ?_
  rintro e w10 ⟨rfl, hb10⟩
  obtain ⟨a1, n1, c1, rfl, g1, g2, g3, g4, g5⟩ := hsa.below hb10
  obtain ⟨a2, n2, c2, rfl, k1, k2, k3, k4, k5⟩ := hs9.below hb10
  have G1 := Lib.hid g1; have K1 := Lib.hid k1
  clear g1 k1 hsa hs9 HS8
  go_wp2_with ((go_at_call 27); refine (slices_same a1 a2 n1 n2 c1 c2 _ _ g4 k4 G1.out K1.out (by omega)).mono ?_; rintro e w11 ⟨rfl, d, rfl⟩)
  go_ret
  exact ⟨rfl, below_drewN (below_then hacc9 (by omega) hb10) _⟩

end Go.Proofs.Ytbgbcmfgncneiaa
