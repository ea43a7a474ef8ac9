/- Contract of mark.Move. -/
import Derived.Test.YtbgbcmfgncneiaaMark1
import Derived.Test.YtbgbcmfgncneiaaMark2
namespace Go.Proofs.Ytbgbcmfgncneiaa
open Go.RowKit
set_option linter.unusedVariables false
set_option linter.unusedSimpArgs false

def movV (n : Int) (es : List Sp) (k : Int) (stick : Bool) : Int := if ckE n es ≠ 0 then 0 else if k < 0 ∨ n < k then 0 else moved es k stick
def movE (n : Int) (es : List Sp) (k : Int) : Int := if ckE n es ≠ 0 then ckE n es else if k < 0 ∨ n < k then 1 else 0

set_option maxRecDepth 100000 in
theorem mark_move_bad (a : Option Addr) (m mc : Nat) (es : List Sp) (n k E : Int) (stick : Bool) (w : World) (he : Spls w a es) (hm : es.length = m) (hm2 : m ≤ 9223372036854775807) (hE : ckE n es = E) (hok : E ≠ 0) :
    Calls Try.prog 17 #[.int .i64 n, .slice a m mc, .int .i64 k, .bool stick] w (GetPost 0 E w) := by
  have HE := Lib.hid hE
  have g : (E != 0) = true := by simpa using hok
  clear hE hok
  go_enter Try.func17, Try.ntmps17
  go_wp2_with fail
  refine (splice_check a m mc es n w he hm hm2).mono ?_
  rintro e w1 ⟨rfl, hb⟩
  rw [HE.out]
  go_wp2
  go_ret2
  exact ⟨rfl, hb⟩
set_option maxRecDepth 100000 in
theorem mark_move_arg (a : Option Addr) (m mc : Nat) (es : List Sp) (n k : Int) (stick : Bool) (w : World) (he : Spls w a es) (hm : es.length = m) (hm2 : m ≤ 9223372036854775807) (hE : ckE n es = 0) (hk : k < 0 ∨ n < k) :
    Calls Try.prog 17 #[.int .i64 n, .slice a m mc, .int .i64 k, .bool stick] w (GetPost 0 1 w) := by
  have HE := Lib.hid hE
  clear hE
  rcases hk with hk | hk
  all_goals
    go_enter Try.func17, Try.ntmps17
    go_wp2_with fail
    refine (splice_check a m mc es n w he hm hm2).mono ?_
    rintro e w1 ⟨rfl, hb⟩
    rw [HE.out]
    go_wp2
    all_goals
      go_ret2
      exact ⟨rfl, hb⟩

set_option maxRecDepth 100000 in
set_option maxHeartbeats 2000000 in
theorem mark_move_ok (a : Option Addr) (m mc : Nat) (es : List Sp) (n k : Int) (stick : Bool) (w : World) (he : Spls w a es) (hm : es.length = m) (hm2 : m ≤ 9223372036854775807) (hE : ckE n es = 0) (hk0 : 0 ≤ k) (hk1 : k ≤ n) :
    Calls Try.prog 17 #[.int .i64 n, .slice a m mc, .int .i64 k, .bool stick] w (GetPost (moved es k stick) 0 w) := by
  obtain ⟨g1, g2, hg, g3⟩ := ckE_good hE
  have hcnt := hg.count0 (by omega)
  rw [hm] at hcnt
  have HG := Lib.hid hg
  have HE := Lib.hid hE
  have HM := Lib.hid hm
  have HMV := Lib.hid (mvL_moved (k := k) (stick := stick) hg)
  clear hE hg hm
  go_enter Try.func17, Try.ntmps17
  go_wp2_with fail
  refine (splice_check a m mc es n w he HM.out hm2).mono ?_
  rintro e w1 ⟨rfl, hb⟩
  rw [HE.out]
  go_wp2
  go_loopw [11, 30] (fun v j wr => ∃ (i : Nat) (o : Int), v = .int .i64 o ∧ j = .int .i64 (i : Int) ∧ i ≤ m ∧ Hid (mvL k stick o (es.drop i) = moved es k stick) ∧ -(8192 * ((i : Int) + 1)) ≤ o ∧ o ≤ 8192 * ((i : Int) + 1) ∧ Below w.heap.size w wr) (fun _ j _ => m - (intOf j).toNat)
  case atStart => exact ⟨0, k, rfl, rfl, by omega, Lib.hid (by rw [List.drop_zero]; exact HMV.out), by omega, by omega, hb⟩
  case round =>
    clear hb
    obtain ⟨i, o, rfl, rfl, hi, HO, ho1, ho2, hbr⟩ := hrel
    by_cases hlt : i < m
    · have hkm : i < es.length := by rw [HM.out]; exact hlt
      obtain ⟨b1, o1, rfl, hcc⟩ := he.at (k := i) hkm
      obtain ⟨ax, cx, c0, c1, c2, cI, y1, y2, y3⟩ := hcc i hkm
      replace c0 := below_keeps hbr _ _ c0
      replace c1 := below_keeps hbr _ _ c1
      replace c2 := below_keeps hbr _ _ c2
      obtain ⟨z1, z2, z3, z4⟩ := HG.out.at i hkm
      rw [← sp_eq hkm] at z1 z2 z3 z4
      have hd := HO.out
      rw [drop_sp hkm] at hd
      generalize sp es i = s at *
      obtain ⟨f, t, x⟩ := s
      simp only at c0 c1 c2 cI y1 y2 y3 z1 z2 z3 z4
      have HD := Lib.hid hd
      clear hd HO
      have i1 : (i : Int) < (m : Int) := by omega
      have hbe := hbr.alloc hbr.size (.cells #[.int .i64 f, .int .i64 t, .slice ax x.length cx] 127)
      by_cases h1 : k < f
      · have hv := HD.out
        rw [mvL_stop (.inl h1)] at hv
        have HV := Lib.hid hv
        clear hv HD
        go_wp2
        go_ret2
        exact ⟨ret2_int HV.out rfl, hbe⟩
      · have h1' : decide (k < f) = false := by simp; omega
        by_cases h2 : f = k ∧ stick = true
        · have hv := HD.out
          rw [mvL_stop (.inr h2)] at hv
          have HV := Lib.hid hv
          obtain ⟨h2, rfl⟩ := h2
          have g : (f == k) = true := by simpa using h2
          clear hv HD h2
          go_wp2
          go_ret2
          exact ⟨ret2_int HV.out rfl, hbe⟩
        · have hns : ¬ (k < f ∨ (f = k ∧ stick = true)) := by
            rintro (h | h)
            · exact h1 h
            · exact h2 h
          obtain ⟨z, hz⟩ : ∃ z, (f == k) = z := ⟨_, rfl⟩
          have hzs : z = true → stick = false := by
            intro hzt
            rw [hzt] at hz
            have : f = k := by simpa using hz
            cases stick with
            | false => rfl
            | true => exact absurd ⟨this, rfl⟩ h2
          by_cases h3 : t ≤ k
          · have hv := HD.out
            rw [mvL_on hns h3] at hv
            simp only at hv
            have HV := Lib.hid hv
            clear hv HD hns h2
            cases z with
            | true =>
              obtain rfl := hzs rfl
              clear hzs
              go_wp2
              go_roundw
              case rel => exact ⟨i + 1, _, rfl, by go_num, by omega, HV, by omega, by omega, hbe⟩
              case measure => simp [intOf]; omega
            | false =>
              clear hzs
              go_wp2
              go_roundw
              case rel => exact ⟨i + 1, _, rfl, by go_num, by omega, HV, by omega, by omega, hbe⟩
              case measure => simp [intOf]; omega
          · have h3' : decide (t ≤ k) = false := by simp; omega
            have hv := HD.out
            rw [mvL_in hns h3] at hv
            simp only at hv
            clear HD hns h2
            cases stick with
            | true =>
              obtain rfl : z = false := by
                cases z with
                | false => rfl
                | true => exact absurd (hzs rfl) (by simp)
              rw [if_pos rfl] at hv
              have HV := Lib.hid hv
              clear hv hzs
              go_wp2
              go_ret2
              exact ⟨ret2_int HV.out rfl, hbe⟩
            | false =>
              rw [if_neg (by simp)] at hv
              have HV := Lib.hid hv
              clear hv hzs
              cases z with
              | true =>
                go_wp2
                go_ret2
                exact ⟨ret2_int HV.out rfl, hbe⟩
              | false =>
                go_wp2
                go_ret2
                exact ⟨ret2_int HV.out rfl, hbe⟩
    · obtain rfl : m = i := by omega
      have hd : es.drop m = [] := by rw [List.drop_eq_nil_iff, HM.out]; omega
      have hv := HO.out
      rw [hd, mvL] at hv
      have HV := Lib.hid hv
      clear hv hd HO
      go_wp2
      go_ret2
      exact ⟨ret2_int HV.out rfl, hbr⟩

theorem mark_move (a : Option Addr) (m mc : Nat) (es : List Sp) (n k : Int) (stick : Bool) (w : World) (he : Spls w a es) (hm : es.length = m) (hm2 : m ≤ 9223372036854775807) :
    Calls Try.prog 17 #[.int .i64 n, .slice a m mc, .int .i64 k, .bool stick] w (GetPost (movV n es k stick) (movE n es k) w) := by
  unfold movV movE
  by_cases h : ckE n es ≠ 0
  · rw [if_pos h, if_pos h]
    exact mark_move_bad a m mc es n k _ stick w he hm hm2 rfl h
  · rw [if_neg h, if_neg h]
    have h0 : ckE n es = 0 := by simpa using h
    by_cases hk : k < 0 ∨ n < k
    · rw [if_pos hk, if_pos hk]
      exact mark_move_arg a m mc es n k stick w he hm hm2 h0 hk
    · rw [if_neg hk, if_neg hk]
      exact mark_move_ok a m mc es n k stick w he hm hm2 h0 (by omega) (by omega)

end Go.Proofs.Ytbgbcmfgncneiaa
