/- The walk of the law PaintSays. -/
import Derived.Test.YtmipnikhgihcpaaPnt8
import Derived.Test.YtmipnikhgihcpaaPnt7
namespace Go.Proofs.Ytmipnikhgihcpaa
open Go.RowKit
set_option linter.unusedVariables false
set_option linter.unusedSimpArgs false

set_option maxRecDepth 100000 in
set_option maxHeartbeats 4000000 in
theorem paintSays_walk (aa ba : Option Addr) (na nb ca cb : Nat) (p q : Int) (A B : List Int) (w : World) (ha : Sl w (.slice aa na ca) A) (hb : Sl w (.slice ba nb cb) B) :
    Calls Try.prog 6 #[.agg #[.slice aa na ca, .int .i64 p], .agg #[.slice ba nb cb, .int .i64 q]] w fun e w' => e = .returned (.bool true) ∧ Below w.heap.size w w' := by
  obtain ⟨a1, a2, a3, -, -⟩ := ha.get
  obtain ⟨b1, b2, b3, -, -⟩ := hb.get
  have HAL := Lib.hid a1; have HBL := Lib.hid b1
  have hB2 := (Blk.new w #[.slice aa na ca, .int .i64 p] 59).alloc (.cells #[.slice ba nb cb, .int .i64 q] 59)
  have hB3 := Blk.new (w.alloc (.cells #[.slice aa na ca, .int .i64 p] 59)) #[.slice ba nb cb, .int .i64 q] 59
  rw [World.size_alloc] at hB3
  have hacc := below2 w (.cells #[.slice aa na ca, .int .i64 p] 59) (.cells #[.slice ba nb cb, .int .i64 q] 59)
  have HA := Lib.hid (ha.below hacc); have HB := Lib.hid (hb.below hacc)
  have hsz : w.heap.size ≤ ((w.alloc (.cells #[.slice aa na ca, .int .i64 p] 59)).alloc (.cells #[.slice ba nb cb, .int .i64 q] 59)).heap.size := by simp; omega
  clear a1 b1 ha hb
  go_enter Try.func6, Try.ntmps6
  go_upto_region 1 with fail
  generalize ((w.alloc (.cells #[.slice aa na ca, .int .i64 p] 59)).alloc (.cells #[.slice ba nb cb, .int .i64 q] 59)) = w1 at *
  obtain ⟨c0, c1, -⟩ := hB2.two
  obtain ⟨d0, d1, -⟩ := hB3.two
  by_cases hbad : badE A B p q = 0
  · obtain ⟨hA0, hB0, hll⟩ := badE_zero hbad
    obtain ⟨g1, g2, g3, g4⟩ := rowErr_zero hA0
    obtain ⟨g5, g6, g7, g8⟩ := rowErr_zero hB0
    obtain ⟨pa, rfl⟩ := Int.eq_ofNat_of_zero_le g3
    obtain ⟨pb, rfl⟩ := Int.eq_ofNat_of_zero_le g7
    rw [HAL.out] at g1 g2 g4 hll
    rw [HBL.out] at hll g8
    obtain rfl : na = nb := hll
    obtain ⟨full, hfull⟩ := FullP.exists B na
    obtain ⟨x, y, hxy⟩ := RngD.exists A B 0 na (Nat.zero_le _)
    obtain ⟨lo, hi, hlh⟩ := RngD.exists A B 0 full (Nat.zero_le _)
    obtain ⟨fi, la, hfl⟩ := RngD.exists A B full na hfull.le
    have HH := Lib.hid (show PaintPar A B na full x y lo hi fi la from ⟨g1, g2, hfull, hxy, hlh, hfl⟩)
    have HA0 := Lib.hid hA0; have HB0 := Lib.hid hB0
    have hpa : pa ≤ na := by omega
    have hpb : pb ≤ na := by omega
    have hn120 : na ≤ 9223372036854775807 := by omega
    clear hfull hxy hlh hfl hA0 hB0 hbad g4 g5 g6 g8
    go_wp2_with fail
    refine (paint_signs aa ba na ca cb pa pb full x y lo hi fi la A B _ HA.out HB.out HA0.out HB0.out hpa hpb HH.out).mono ?_
    rintro e w2 ⟨v2, rfl, hv2, hb2⟩
    obtain ⟨va, vn, vc, rfl, -⟩ := id hv2
    have HV := Lib.hid hv2
    have hB2' := hB2.below hb2 hB2.lt; have hB3' := hB3.below hb2 hB3.lt
    have HA2 := Lib.hid (HA.out.below hb2); have HB2 := Lib.hid (HB.out.below hb2)
    have hacc2 := below_then hacc hsz hb2
    have hz2 : w.heap.size ≤ w2.heap.size := Nat.le_trans hsz hb2.size
    clear c0 c1 d0 d1 hb2 hB2 hB3 HA HB hv2
    obtain ⟨c0, c1, -⟩ := hB2'.two
    obtain ⟨d0, d1, -⟩ := hB3'.two
    go_wp2_with fail
    refine (ref_rowErr aa na ca A pa _ HA2.out.get.2.2.2.1 HAL.out hn120).mono ?_
    rintro e w3 ⟨rfl, hb3⟩
    rw [HA0.out]
    have hB2 := hB2'.below hb3 hB2'.lt; have hB3 := hB3'.below hb3 hB3'.lt
    have HA3 := Lib.hid (HA2.out.below hb3); have HB3 := Lib.hid (HB2.out.below hb3); have HV3 := Lib.hid (HV.out.below hb3)
    have hacc3 := below_then hacc2 hz2 hb3
    have hz3 : w.heap.size ≤ w3.heap.size := Nat.le_trans hz2 hb3.size
    clear c0 c1 d0 d1 hb3 hB2' hB3' HA2 HB2 HV
    obtain ⟨c0, c1, -⟩ := hB2.two
    obtain ⟨d0, d1, -⟩ := hB3.two
    go_wp2_with fail
    refine (ref_rowErr ba na cb B pb _ HB3.out.get.2.2.2.1 HBL.out hn120).mono ?_
    rintro e w4 ⟨rfl, hb4⟩
    rw [HB0.out]
    have hB2' := hB2.below hb4 hB2.lt; have hB3' := hB3.below hb4 hB3.lt
    have HA4 := Lib.hid (HA3.out.below hb4); have HB4 := Lib.hid (HB3.out.below hb4); have HV4 := Lib.hid (HV3.out.below hb4)
    have hacc4 := below_then hacc3 hz3 hb4
    have hz4 : w.heap.size ≤ w4.heap.size := Nat.le_trans hz3 hb4.size
    clear c0 c1 d0 d1 hb4 hB2 hB3 HA3 HB3 HV3
    obtain ⟨c0, c1, -⟩ := hB2'.two
    obtain ⟨d0, d1, -⟩ := hB3'.two
    go_wp2_with fail
    refine (ref_paint aa ba na ca cb pa pb full x y lo hi fi la A B _ HA4.out HB4.out HAL.out HBL.out hpa hpb HH.out).mono ?_
    rintro e w5 ⟨v5, rfl, hv5, hb5⟩
    obtain ⟨ua, un, uc, rfl, -⟩ := id hv5
    obtain ⟨k1, k2, k3, k4, -⟩ := (HV4.out.below hb5).get
    obtain ⟨m1, m2, m3, m4, -⟩ := hv5.get
    have hacc5 := below_then hacc4 hz4 hb5
    have K1 := Lib.hid k1; have M1 := Lib.hid m1
    have hvn : vn ≤ 9223372036854775807 := by omega
    clear k1 m1 hv5
    go_wp2_with fail
    refine (slices_same va ua vn un vc uc (paintV B pa pb x y full lo hi fi la) _ k4 m4 K1.out M1.out hvn).mono ?_
    rintro e w6 ⟨rfl, nq, rfl⟩
    go_wp2
    go_ret
    exact ⟨rfl, below_drewN hacc5 nq⟩
  · have HBAD := Lib.hid hbad
    have hna : na ≤ 9223372036854775807 := by omega
    have hnb : nb ≤ 9223372036854775807 := by omega
    obtain ⟨E, hE⟩ : ∃ E, badE A B p q = E := ⟨_, rfl⟩
    have HE := Lib.hid hE
    have HEU := Lib.hid (show badE A B p q = if rowErr A p ≠ 0 then rowErr A p else if rowErr B q ≠ 0 then rowErr B q else if A.length ≠ B.length then 1 else 0 from rfl)
    have hE0 : (E == 0) = false := by rw [← hE]; simpa using hbad
    go_wp2_with fail
    refine (paint_signs_bad aa ba na nb ca cb p q A B _ HA.out HB.out HBAD.out).mono ?_
    rintro e w2 ⟨rfl, hb2⟩
    rw [HE.out]
    have hB2' := hB2.below hb2 hB2.lt; have hB3' := hB3.below hb2 hB3.lt
    have HA2 := Lib.hid (HA.out.below hb2); have HB2 := Lib.hid (HB.out.below hb2)
    have hacc2 := below_then hacc hsz hb2
    have hz2 : w.heap.size ≤ w2.heap.size := Nat.le_trans hsz hb2.size
    clear c0 c1 d0 d1 hb2 hB2 hB3 HA HB hbad hE
    obtain ⟨c0, c1, -⟩ := hB2'.two
    obtain ⟨d0, d1, -⟩ := hB3'.two
    go_wp2_with fail
    refine (ref_rowErr aa na ca A p _ HA2.out.get.2.2.2.1 HAL.out hna).mono ?_
    rintro e w3 ⟨rfl, hb3⟩
    have hacc3 := below_then hacc2 hz2 hb3
    have hz3 : w.heap.size ≤ w3.heap.size := Nat.le_trans hz2 hb3.size
    obtain ⟨E1, hE1⟩ : ∃ E, rowErr A p = E := ⟨_, rfl⟩
    rw [hE1]
    have heu := HEU.out
    rw [hE1, HE.out] at heu
    have hB2 := hB2'.below hb3 hB2'.lt; have hB3 := hB3'.below hb3 hB3'.lt
    have HB3 := Lib.hid (HB2.out.below hb3)
    clear c0 c1 d0 d1 hb3 hB2' hB3' hE1 HA2 HB2
    obtain ⟨c0, c1, -⟩ := hB2.two
    obtain ⟨d0, d1, -⟩ := hB3.two
    by_cases h1 : E1 = 0
    · subst h1
      rw [if_neg (by simp)] at heu
      have HEU2 := Lib.hid heu
      clear heu
      go_wp2_with fail
      refine (ref_rowErr ba nb cb B q _ HB3.out.get.2.2.2.1 HBL.out hnb).mono ?_
      rintro e w4 ⟨rfl, hb4⟩
      have hacc4 := below_then hacc3 hz3 hb4
      obtain ⟨E2, hE2⟩ : ∃ E, rowErr B q = E := ⟨_, rfl⟩
      rw [hE2]
      have heu := HEU2.out
      rw [hE2] at heu
      have hB2' := hB2.below hb4 hB2.lt; have hB3' := hB3.below hb4 hB3.lt
      clear c0 c1 d0 d1 hb4 hB2 hB3 hE2
      obtain ⟨c0, c1, -⟩ := hB2'.two
      obtain ⟨d0, d1, -⟩ := hB3'.two
      by_cases h2 : E2 = 0
      · subst h2
        rw [if_neg (by simp)] at heu
        have hne : na ≠ nb := by
          intro h
          rw [HAL.out, HBL.out, if_neg (by simp [h])] at heu
          subst heu; simp at hE0
        rw [HAL.out, HBL.out, if_pos hne] at heu
        subst heu
        have hd : ((na : Int) == (nb : Int)) = false := by simp; omega
        clear hne
        go_wp2
        go_ret
        exact ⟨rfl, hacc4⟩
      · rw [if_pos h2] at heu
        obtain rfl : E2 = E := heu.symm
        clear h2 heu
        go_wp2
        go_ret
        exact ⟨ret1_bool (by simp), hacc4⟩
    · rw [if_pos h1] at heu
      obtain rfl : E1 = E := heu.symm
      clear h1 heu
      go_wp2
      go_ret
      exact ⟨ret1_bool (by simp), hacc3⟩

end Go.Proofs.Ytmipnikhgihcpaa
