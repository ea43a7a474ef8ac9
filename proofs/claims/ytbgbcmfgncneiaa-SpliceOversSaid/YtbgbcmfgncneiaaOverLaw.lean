/- The walk of SpliceOvers. -/
import Derived.Test.YtbgbcmfgncneiaaOver9
import Derived.Test.YtbgbcmfgncneiaaSpl6
namespace Go.Proofs.Ytbgbcmfgncneiaa
open Go.RowKit
set_option linter.unusedVariables false
set_option linter.unusedSimpArgs false

theorem ref_over_any (n : Nat) (aa ab : Option Addr) (m1 c1 m2 c2 : Nat) (ea eb : List Sp) (ahead : Bool) (w : World)
    (ha : Spls w aa ea) (hm1 : ea.length = m1) (hmc1 : m1 ≤ 9223372036854775807) (hb : Spls w ab eb) (hm2 : eb.length = m2) (hmc2 : m2 ≤ 9223372036854775807)
    (hok1 : ckE n ea = 0) (hok2 : ckE n eb = 0) :
    Calls Try.prog 39 #[.int .i64 n, .slice aa m1 c1, .slice ab m2 c2, .bool ahead] w (ROvPost n ea eb ahead w) := by
  cases ahead with
  | true => exact ref_over_t n aa ab m1 c1 m2 c2 ea eb w ha hm1 hmc1 hb hm2 hmc2 hok1 hok2
  | false => exact ref_over_f n aa ab m1 c1 m2 c2 ea eb w ha hm1 hmc1 hb hm2 hmc2 hok1 hok2

set_option maxRecDepth 100000 in
set_option maxHeartbeats 2000000 in
theorem spliceOvers_walk (n : Int) (aa : Option Addr) (m1 c1 : Nat) (ea : List Sp) (ab : Option Addr) (m2 c2 : Nat) (eb : List Sp) (ahead : Bool) (w : World)
    (ha : Spls w aa ea) (hm1 : ea.length = m1) (hmc1 : m1 ≤ c1) (hc1 : c1 ≤ 9223372036854775807) (hb : Spls w ab eb) (hm2 : eb.length = m2) (hmc2 : m2 ≤ c2) (hc2 : c2 ≤ 9223372036854775807) :
    Calls Try.prog 6 #[.int .i64 n, .slice aa m1 c1, .slice ab m2 c2, .bool ahead] w fun e w' => e = .returned (.bool true) ∧ Below w.heap.size w w' := by
  have HM1 := Lib.hid hm1
  have HM2 := Lib.hid hm2
  clear hm1 hm2
  by_cases h1 : ckE n ea = 0
  · by_cases h2 : ckE n eb = 0
    · obtain ⟨g1, -, -, -⟩ := ckE_good h1
      obtain ⟨N, rfl⟩ := Int.eq_ofNat_of_zero_le g1
      have H1 := Lib.hid h1
      have H2 := Lib.hid h2
      have HE := Lib.hid (show ovE N ea eb = 0 by rw [ovE, if_pos h1, h2])
      have HX := Lib.hid (show ovX N ea eb ahead = ovP N ea eb ahead by rw [ovX, if_pos ⟨h1, h2⟩]; rfl)
      clear h1 h2
      go_enter Try.func6, Try.ntmps6
      go_wp2_with fail
      refine (splice_over_any N aa ab m1 c1 m2 c2 ea eb ahead w ha HM1.out hmc1 hc1 hb HM2.out hmc2 hc2).mono ?_
      rintro e w1 ⟨v1, us1, rfl, o1, hb1⟩
      rw [HE.out]
      rw [HX.out] at o1
      go_wp2_with fail
      refine (ref_editErr aa m1 c1 ea N w1 (ha.below hb1) HM1.out (by omega)).mono ?_
      rintro e w2 ⟨rfl, hb2⟩
      rw [H1.out]
      replace o1 := o1.kept hb2
      replace hb2 := below_then hb1 hb1.size hb2
      clear hb1
      go_wp2_with fail
      refine (ref_editErr ab m2 c2 eb N w2 (hb.below hb2) HM2.out (by omega)).mono ?_
      rintro e w3 ⟨rfl, hb3⟩
      rw [H2.out]
      replace o1 := o1.kept hb3
      replace hb3 := below_then hb2 hb2.size hb3
      clear hb2
      go_wp2_with fail
      refine (ref_over_any N aa ab m1 c1 m2 c2 ea eb ahead w3 (ha.below hb3) HM1.out (by omega) (hb.below hb3) HM2.out (by omega) H1.out H2.out).mono ?_
      rintro e w4 ⟨v4, us4, rfl, o4, hb4⟩
      replace o1 := o1.kept hb4
      replace hb4 := below_then hb3 hb3.size hb4
      obtain ⟨a1, k1, rfl, y1, y2, y3⟩ := o1.form
      obtain ⟨a4, k4, rfl, z1, z2, z3⟩ := o4.form
      go_wp2_with fail
      refine (edit_same a1 a4 _ k1 k4 (ovP N ea eb ahead) w4 o1.spls o4.spls rfl (by omega)).mono ?_
      rintro e w5 ⟨rfl, hb5⟩
      go_wp2
      go_ret
      exact ⟨rfl, below_then hb4 hb4.size hb5⟩
    · obtain ⟨E, hE⟩ : ∃ E, ckE n eb = E := ⟨_, rfl⟩
      have g : (E != 0) = true := by rw [← hE]; simpa using h2
      have g2 : (E == 0) = false := by rw [← hE]; simpa using h2
      have H1 := Lib.hid h1
      have H2 := Lib.hid hE
      have HE := Lib.hid (show ovE n ea eb = E by rw [ovE, if_pos h1, hE])
      have HX := Lib.hid (show ovX n ea eb ahead = [] by rw [ovX, if_neg (fun h => h2 h.2)])
      clear h1 h2 hE
      go_enter Try.func6, Try.ntmps6
      go_wp2_with fail
      refine (splice_over_any n aa ab m1 c1 m2 c2 ea eb ahead w ha HM1.out hmc1 hc1 hb HM2.out hmc2 hc2).mono ?_
      rintro e w1 ⟨v1, us1, rfl, o1, hb1⟩
      rw [HE.out]
      rw [HX.out] at o1
      obtain ⟨a1, k1, rfl, y1, y2, y3⟩ := o1.form
      go_wp2_with fail
      refine (ref_editErr aa m1 c1 ea n w1 (ha.below hb1) HM1.out (by omega)).mono ?_
      rintro e w2 ⟨rfl, hb2⟩
      rw [H1.out]
      replace hb2 := below_then hb1 hb1.size hb2
      clear hb1
      go_wp2_with fail
      refine (ref_editErr ab m2 c2 eb n w2 (hb.below hb2) HM2.out (by omega)).mono ?_
      rintro e w3 ⟨rfl, hb3⟩
      rw [H2.out]
      replace hb3 := below_then hb2 hb2.size hb3
      go_wp2
      go_ret
      exact ⟨rfl, hb3⟩
  · obtain ⟨E, hE⟩ : ∃ E, ckE n ea = E := ⟨_, rfl⟩
    have g : (E != 0) = true := by rw [← hE]; simpa using h1
    have g2 : (E == 0) = false := by rw [← hE]; simpa using h1
    have H1 := Lib.hid hE
    have HE := Lib.hid (show ovE n ea eb = E by rw [ovE, if_neg h1, hE])
    have HX := Lib.hid (show ovX n ea eb ahead = [] by rw [ovX, if_neg (fun h => h1 h.1)])
    clear h1 hE
    go_enter Try.func6, Try.ntmps6
    go_wp2_with fail
    refine (splice_over_any n aa ab m1 c1 m2 c2 ea eb ahead w ha HM1.out hmc1 hc1 hb HM2.out hmc2 hc2).mono ?_
    rintro e w1 ⟨v1, us1, rfl, o1, hb1⟩
    rw [HE.out]
    rw [HX.out] at o1
    obtain ⟨a1, k1, rfl, y1, y2, y3⟩ := o1.form
    go_wp2_with fail
    refine (ref_editErr aa m1 c1 ea n w1 (ha.below hb1) HM1.out (by omega)).mono ?_
    rintro e w2 ⟨rfl, hb2⟩
    rw [H1.out]
    replace hb2 := below_then hb1 hb1.size hb2
    go_wp2
    go_ret
    exact ⟨rfl, hb2⟩

end Go.Proofs.Ytbgbcmfgncneiaa
