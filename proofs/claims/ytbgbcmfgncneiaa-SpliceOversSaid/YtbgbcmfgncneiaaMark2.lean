/- Contracts of fairref.at, fairref.Moved, mark.Move. -/
import Derived.Test.YtbgbcmfgncneiaaMarkP
import Derived.Test.YtbgbcmfgncneiaaSpl3
import Derived.Deep.DeepCutAuto
import Derived.Deep.CutBlock
namespace Go.Proofs.Ytbgbcmfgncneiaa
open Go.RowKit
set_option linter.unusedVariables false
set_option linter.unusedSimpArgs false

/-- a readable slice of numbers, its value written out -/
def Rd (w : World) (a : Option Addr) (n c : Nat) (x : List Int) : Prop := Ints w a x ∧ x.length = n ∧ n ≤ c ∧ c ≤ 9223372036854775807 ∧ (a = none → n = 0)
theorem Rd.below {w w' : World} {a : Option Addr} {n c : Nat} {x : List Int} (h : Rd w a n c x) (hb : Below w.heap.size w w') : Rd w' a n c x := ⟨h.1.below hb, h.2⟩
def AtPost (es : List Sp) (i : Int) (w : World) (e : Ending) (w' : World) : Prop := ∃ a n c, e = .returned (.tuple #[.slice a n c, .bool (goesB es i)]) ∧ Rd w' a n c (txtP i [] es) ∧ Below w.heap.size w w'

set_option maxRecDepth 100000 in
set_option maxHeartbeats 1000000 in
theorem ref_at (a : Option Addr) (m mc : Nat) (es : List Sp) (i : Int) (w : World) (he : Spls w a es) (hm : es.length = m) (hm2 : m ≤ 9223372036854775807) :
    Calls Try.prog 85 #[.slice a m mc, .int .i64 i] w (AtPost es i w) := by
  have HM := Lib.hid hm
  clear hm
  go_enter Try.func85, Try.ntmps85
  go_wp2
  go_loopw [6, 7, 12] (fun v u j wr => ∃ (k : Nat) (ta : Option Addr) (tn tc : Nat) (x : List Int) (b : Bool), v = .slice ta tn tc ∧ u = .bool b ∧ j = .int .i64 (k : Int) ∧ k ≤ m ∧ Rd wr ta tn tc x ∧ Hid (txtP i x (es.drop k) = txtP i [] es) ∧ Hid ((b || goesB (es.drop k) i) = goesB es i) ∧ Below w.heap.size w wr) (fun _ _ j _ => m - (intOf j).toNat)
  case atStart => exact ⟨0, none, 0, 0, [], false, rfl, rfl, rfl, by omega, ⟨.inl rfl, rfl, by omega, by omega, fun _ => rfl⟩, Lib.hid rfl, Lib.hid rfl, Below.refl _ _⟩
  case round =>
    obtain ⟨k, ta, tn, tc, x0, b, rfl, rfl, rfl, hk, hrd, HT, HG, hbr⟩ := hrel
    by_cases hlt : k < m
    · have hkm : k < es.length := by rw [HM.out]; exact hlt
      obtain ⟨b1, o1, rfl, hcc⟩ := he.at (k := k) hkm
      obtain ⟨ax, cx, c0, c1, c2, cI, y1, y2, y3⟩ := hcc k hkm
      replace c0 := below_keeps hbr _ _ c0
      replace c1 := below_keeps hbr _ _ c1
      replace c2 := below_keeps hbr _ _ c2
      replace cI := cI.below hbr
      have hd := drop_sp (es := es) (i := k) hkm
      generalize sp es k = s at *
      obtain ⟨f, t, x⟩ := s
      simp only at c0 c1 c2 cI y1 y2 y3
      have ht := HT.out
      have hg := HG.out
      rw [hd] at ht hg
      rw [goesB_cons] at hg
      simp only [txtP] at ht
      clear hd HT HG
      have i1 : (k : Int) < (m : Int) := by omega
      have b1x := below1 wr (.cells #[.int .i64 f, .int .i64 t, .slice ax x.length cx] 127)
      have hbe := below_then hbr hbr.size b1x
      have hr1 := hrd.below b1x
      have hr2 : Rd (wr.alloc (.cells #[.int .i64 f, .int .i64 t, .slice ax x.length cx] 127)) ax x.length cx x := ⟨cI.below b1x, rfl, y1, y2, y3⟩
      clear b1x
      by_cases he : f = i
      · rw [if_pos he] at ht
        have HT := Lib.hid ht
        have g1 : (f == i) = true := by simpa using he
        have g2 : f ≤ i := by omega
        clear ht he
        cases b with
        | true =>
          have HG := Lib.hid hg
          clear hg
          go_wp2
          go_roundw
          case rel => exact ⟨k + 1, ax, x.length, cx, x, true, rfl, rfl, by go_num, by omega, hr2, HT, Lib.hid (by rw [← HG.out]; simp), hbe⟩
          case measure => simp [intOf]; omega
        | false =>
          by_cases hi : i < t
          · have HG := Lib.hid hg
            clear hg
            go_wp2
            go_roundw
            case rel => exact ⟨k + 1, ax, x.length, cx, x, true, rfl, rfl, by go_num, by omega, hr2, HT, Lib.hid (by rw [← HG.out]; simp; omega), hbe⟩
            case measure => simp [intOf]; omega
          · have HG := Lib.hid hg
            clear hg
            have hi2 : decide (i < t) = false := by simp; omega
            go_wp2
            go_roundw
            case rel => exact ⟨k + 1, ax, x.length, cx, x, false, rfl, rfl, by go_num, by omega, hr2, HT, Lib.hid (by rw [← HG.out]; simp; omega), hbe⟩
            case measure => simp [intOf]; omega
      · rw [if_neg he] at ht
        have HT := Lib.hid ht
        have g1 : (f == i) = false := by simpa using he
        clear ht he
        cases b with
        | true =>
          have HG := Lib.hid hg
          clear hg
          go_wp2
          go_roundw
          case rel => exact ⟨k + 1, ta, tn, tc, x0, true, rfl, rfl, by go_num, by omega, hr1, HT, Lib.hid (by rw [← HG.out]; simp), hbe⟩
          case measure => simp [intOf]; omega
        | false =>
          by_cases hf : f ≤ i
          · by_cases hi : i < t
            · have HG := Lib.hid hg
              clear hg
              go_wp2
              go_roundw
              case rel => exact ⟨k + 1, ta, tn, tc, x0, true, rfl, rfl, by go_num, by omega, hr1, HT, Lib.hid (by rw [← HG.out]; simp; omega), hbe⟩
              case measure => simp [intOf]; omega
            · have HG := Lib.hid hg
              clear hg
              have hi2 : decide (i < t) = false := by simp; omega
              go_wp2
              go_roundw
              case rel => exact ⟨k + 1, ta, tn, tc, x0, false, rfl, rfl, by go_num, by omega, hr1, HT, Lib.hid (by rw [← HG.out]; simp; omega), hbe⟩
              case measure => simp [intOf]; omega
          · have HG := Lib.hid hg
            clear hg
            have hf2 : decide (f ≤ i) = false := by simp; omega
            go_wp2
            go_roundw
            case rel => exact ⟨k + 1, ta, tn, tc, x0, false, rfl, rfl, by go_num, by omega, hr1, HT, Lib.hid (by rw [← HG.out]; simp; omega), hbe⟩
            case measure => simp [intOf]; omega
    · obtain rfl : m = k := by omega
      have hd : es.drop m = [] := by rw [List.drop_eq_nil_iff, HM.out]; omega
      have ht := HT.out
      have hg := HG.out
      rw [hd] at ht hg
      simp only [txtP] at ht
      have hg2 : b = goesB es i := by rw [← hg]; simp [goesB]
      have HT2 := Lib.hid ht
      have HG2 := Lib.hid hg2
      clear ht hg hg2 hd HT HG
      go_wp2
      go_ret2
      obtain rfl := HG2.out
      exact ⟨ta, tn, tc, rfl, by rw [← HT2.out]; exact hrd, hbr⟩

theorem Good.count0 {n : Int} {es : List Sp} (h : Good n (-1) es) (h0 : -1 ≤ n) : (es.length : Int) ≤ n + 1 := by
  have := h.count h0
  omega
theorem addP_le {n : Int} {es : List Sp} {last : Int} (h : Good n last es) (k : Int) (stick : Bool) : addP k stick es ≤ 4096 * es.length := by
  induction es generalizing last with
  | nil => simp [addP]
  | cons s r ih =>
    obtain ⟨a, b, c, d, e, g⟩ := h
    have h1 := ih g
    have h2 := addS_bd k stick s
    simp only [addP, List.length_cons]
    omega

set_option maxRecDepth 100000 in
set_option maxHeartbeats 2000000 in
theorem ref_moved (a : Option Addr) (m mc : Nat) (es : List Sp) (n k : Nat) (stick : Bool) (w : World) (he : Spls w a es) (hm : es.length = m) (hg : Good (n : Int) (-1) es) (hk : k ≤ n) (hn : n ≤ 4096) :
    Calls Try.prog 21 #[.slice a m mc, .int .i64 (k : Int), .bool stick] w fun e w' => e = .returned (.int .i64 (moved es k stick)) ∧ Below w.heap.size w w' := by
  have hcnt := hg.count0 (by omega)
  have HM := Lib.hid hm
  rw [hm] at hcnt
  clear hm
  have HGO := Lib.hid hg
  have HZ := Lib.hid (remP_zero hg (by omega))
  clear hg
  go_enter Try.func21, Try.ntmps21
  go_upto_block 0 with fail
  go_cut [7] (fun v wx => v = .int .i64 ((k : Int) - remP k es) ∧ 0 ≤ (k : Int) - remP k es ∧ Below w.heap.size w wx)
  case first =>
    go_wp2
    go_loopw [7, 15] (fun v j wr => ∃ (i : Nat) (o : Int), v = .int .i64 o ∧ j = .int .i64 (i : Int) ∧ i ≤ k ∧ Hid (o = (i : Int) - remP i es) ∧ 0 ≤ o ∧ o ≤ i ∧ Below w.heap.size w wr) (fun _ j _ => k - (intOf j).toNat)
    case atStart => exact ⟨0, 0, rfl, rfl, by omega, Lib.hid (by rw [show ((0 : Nat) : Int) = 0 from rfl, HZ.out]; rfl), by omega, by omega, Below.refl _ _⟩
    case round =>
      obtain ⟨i, o, rfl, rfl, hi, HO, ho1, ho2, hbr⟩ := hrel
      by_cases hlt : i < k
      · have i1 : (i : Int) < (k : Int) := by omega
        have hst := remP_step HGO.out (i : Int)
        cases hgo : goesB es i with
        | true =>
          rw [hgo, if_pos rfl] at hst
          have HO2 := Lib.hid (show o = ((i + 1 : Nat) : Int) - remP ((i + 1 : Nat) : Int) es by rw [HO.out, show ((i + 1 : Nat) : Int) = (i : Int) + 1 from by omega, hst]; omega)
          have HGB := Lib.hid hgo
          clear hst hgo HO
          go_wp2_with (go_at_call 85; refine (ref_at a m mc es i _ (he.below hbr) HM.out (by omega)).mono ?_; rintro e w2 ⟨ta, tn, tc, rfl, -, hb2⟩; rw [HGB.out])
          go_roundw
          case rel => exact ⟨i + 1, _, rfl, by go_num, by omega, HO2, by omega, by omega, below_then hbr hbr.size hb2⟩
          case measure => simp [intOf]; omega
        | false =>
          rw [hgo, if_neg (by simp)] at hst
          have HO2 := Lib.hid (show o + 1 = ((i + 1 : Nat) : Int) - remP ((i + 1 : Nat) : Int) es by rw [HO.out, show ((i + 1 : Nat) : Int) = (i : Int) + 1 from by omega, hst]; omega)
          have HGB := Lib.hid hgo
          clear hst hgo HO
          go_wp2_with (go_at_call 85; refine (ref_at a m mc es i _ (he.below hbr) HM.out (by omega)).mono ?_; rintro e w2 ⟨ta, tn, tc, rfl, -, hb2⟩; rw [HGB.out])
          go_roundw
          case rel => exact ⟨i + 1, _, rfl, by go_num, by omega, HO2, by omega, by omega, below_then hbr hbr.size hb2⟩
          case measure => simp [intOf]; omega
      · obtain rfl : k = i := by omega
        go_wp2
        go_meet
        exact ⟨by rw [HO.out], by rw [← HO.out]; exact ho1, hbr⟩
  obtain ⟨rfl, hr2, hb⟩ := hcut
  have hrb := remP_bd HGO.out (k : Int)
  have hab : moved es k stick = (k : Int) - remP k es + addP k stick es := rfl
  have HAB := Lib.hid hab
  clear hab
  go_wp2
  go_loopw [7, 31] (fun v j wr => ∃ (i : Nat) (o : Int), v = .int .i64 o ∧ j = .int .i64 (i : Int) ∧ i ≤ m ∧ Hid (o = (k : Int) - remP k es + addP k stick (es.take i)) ∧ (k : Int) - remP k es ≤ o ∧ o ≤ (k : Int) + 4096 * (i : Int) ∧ Below w.heap.size w wr) (fun _ j _ => m - (intOf j).toNat)
  case atStart => exact ⟨0, _, rfl, rfl, by omega, Lib.hid (by simp [addP]), by omega, by omega, hb⟩
  case round =>
    clear hb
    obtain ⟨i, o, rfl, rfl, hi, HO, ho1, ho2, hbr⟩ := hrel
    by_cases hlt : i < m
    · have hkm : i < es.length := by rw [HM.out]; exact hlt
      obtain ⟨b1, o1, rfl, hcc⟩ := he.at (k := i) hkm
      obtain ⟨ax, cx, c0, c1, c2, cI, y1, y2, y3⟩ := hcc i hkm
      replace c0 := below_keeps hbr _ _ c0
      replace c1 := below_keeps hbr _ _ c1
      replace c2 := below_keeps hbr _ _ c2
      have hx := (HGO.out.at i hkm).2.2.2
      rw [← sp_eq hkm] at hx
      have hts : addP k stick (es.take (i + 1)) = addP k stick (es.take i) + addS k stick (sp es i) := by rw [List.take_succ_eq_append_getElem hkm, addP_snoc, sp_eq hkm]
      generalize sp es i = s at *
      obtain ⟨f, t, x⟩ := s
      simp only at c0 c1 c2 cI y1 y2 y3 hx
      have i1 : (i : Int) < (m : Int) := by omega
      have hbe := hbr.alloc hbr.size (.cells #[.int .i64 f, .int .i64 t, .slice ax x.length cx] 127)
      have hov : o + addS k stick ⟨f, t, x⟩ = (k : Int) - remP k es + addP k stick (es.take (i + 1)) := by rw [hts, HO.out]; omega
      have HT := Lib.hid (show addB k stick ⟨f, t, x⟩ = true → o + (x.length : Int) = (k : Int) - remP k es + addP k stick (es.take (i + 1)) from fun hb => by rw [← hov, addS, if_pos hb])
      have HF := Lib.hid (show addB k stick ⟨f, t, x⟩ = false → o = (k : Int) - remP k es + addP k stick (es.take (i + 1)) from fun hb => by rw [← hov, addS, hb]; simp)
      clear hov hts HO
      cases stick with
      | true =>
        by_cases h1 : f < k
        · by_cases h2 : t ≤ k
          · go_wp2
            go_roundw
            case rel => exact ⟨i + 1, _, rfl, by go_num, by omega, Lib.hid (HT.out (by simp [addB]; omega)), by omega, by omega, hbe⟩
            case measure => simp [intOf]; omega
          · have h2' : decide (t ≤ (k : Int)) = false := by simp; omega
            go_wp2
            go_roundw
            case rel => exact ⟨i + 1, _, rfl, by go_num, by omega, Lib.hid (HF.out (by simp [addB]; omega)), by omega, by omega, hbe⟩
            case measure => simp [intOf]; omega
        · have h1' : decide (f < (k : Int)) = false := by simp; omega
          go_wp2
          go_roundw
          case rel => exact ⟨i + 1, _, rfl, by go_num, by omega, Lib.hid (HF.out (by simp [addB]; omega)), by omega, by omega, hbe⟩
          case measure => simp [intOf]; omega
      | false =>
        by_cases h1 : f < k
        · by_cases h2 : t ≤ k
          · go_wp2
            go_roundw
            case rel => exact ⟨i + 1, _, rfl, by go_num, by omega, Lib.hid (HT.out (by simp [addB]; omega)), by omega, by omega, hbe⟩
            case measure => simp [intOf]; omega
          · have h2' : decide (t ≤ (k : Int)) = false := by simp; omega
            have h3 : f ≤ (k : Int) := by omega
            go_wp2
            go_roundw
            case rel => exact ⟨i + 1, _, rfl, by go_num, by omega, Lib.hid (HT.out (by simp [addB]; omega)), by omega, by omega, hbe⟩
            case measure => simp [intOf]; omega
        · have h1' : decide (f < (k : Int)) = false := by simp; omega
          by_cases h3 : f ≤ (k : Int)
          · go_wp2
            go_roundw
            case rel => exact ⟨i + 1, _, rfl, by go_num, by omega, Lib.hid (HT.out (by simp [addB]; omega)), by omega, by omega, hbe⟩
            case measure => simp [intOf]; omega
          · have h3' : decide (f ≤ (k : Int)) = false := by simp; omega
            go_wp2
            go_roundw
            case rel => exact ⟨i + 1, _, rfl, by go_num, by omega, Lib.hid (HF.out (by simp [addB]; omega)), by omega, by omega, hbe⟩
            case measure => simp [intOf]; omega
    · obtain rfl : m = i := by omega
      have HO2 := Lib.hid (show o = moved es k stick by rw [HO.out, HAB.out, List.take_of_length_le (by rw [HM.out]; omega)])
      clear HO
      go_wp2
      go_ret
      exact ⟨ret1_int HO2.out, hbr⟩

theorem ref_movedI (a : Option Addr) (m mc : Nat) (es : List Sp) (n k : Int) (stick : Bool) (w : World) (he : Spls w a es) (hm : es.length = m) (hg : Good n (-1) es) (h0 : 0 ≤ k) (hk : k ≤ n) (hn : n ≤ 4096) :
    Calls Try.prog 21 #[.slice a m mc, .int .i64 k, .bool stick] w fun e w' => e = .returned (.int .i64 (moved es k stick)) ∧ Below w.heap.size w w' := by
  obtain ⟨K, rfl⟩ := Int.eq_ofNat_of_zero_le h0
  obtain ⟨N, rfl⟩ := Int.eq_ofNat_of_zero_le (show 0 ≤ n by omega)
  exact ref_moved a m mc es N K stick w he hm hg (by omega) (by omega)

end Go.Proofs.Ytbgbcmfgncneiaa
