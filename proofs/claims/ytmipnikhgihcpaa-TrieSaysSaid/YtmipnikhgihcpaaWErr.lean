/- Contract of fairref.WordsErr. -/
import Derived.Test.YtmipnikhgihcpaaVRow
namespace Go.Proofs.Ytmipnikhgihcpaa
open Go.RowKit
set_option linter.unusedVariables false
set_option linter.unusedSimpArgs false

def longW (l : List Int) : Bool := decide (24 < l.length)
def wordsE (X : List (List Int)) : Int := if 100 < X.length ∨ X.any longW = true then 2 else 0
theorem any_take {X : List (List Int)} {k : Nat} (hk : k < X.length) : (X.take (k + 1)).any longW = ((X.take k).any longW || longW (rx X k)) := by
  rw [List.take_succ_eq_append_getElem hk, List.any_append, rx_at hk]
  simp
set_option maxRecDepth 100000 in
set_option maxHeartbeats 1000000 in
theorem ref_wordsErr (lv : Value) (vs : List Value) (X : List (List Int)) (w : World) (hV : Vs w lv vs) (hL : Lists w vs X) :
    Calls Try.prog 66 #[lv] w (fun e w' => e = .returned (.int .i64 (wordsE X)) ∧ ∃ n, w' = w.drewN n) := by
  obtain ⟨la, ln, lc, rfl, hl1, hl2, hl3, hl4, hl5⟩ := hV
  have hll : X.length = ln := by rw [← hL.len]; exact hl1
  have HX := Lib.hid hll; have HL := Lib.hid hL; have HV := Lib.hid hl4; have HN := Lib.hid hl1
  have hln : ln ≤ 9223372036854775807 := by omega
  clear hll hl1 hl2 hl4 hl5 hL
  have HE := Lib.hid (show wordsE X = if 100 < ln ∨ X.any longW = true then 2 else 0 by rw [wordsE, HX.out])
  obtain ⟨R, hR⟩ : ∃ R, wordsE X = R := ⟨_, rfl⟩
  rw [hR] at HE ⊢
  clear hR
  go_enter Try.func66, Try.ntmps66
  go_wp2
  go_loopw [11, 3] (fun x y wr => ∃ (j : Nat) (b : Bool), x = .int .i64 (j : Int) ∧ y = .bool b ∧ j ≤ ln ∧ b = (decide (100 < ln) || (X.take j).any longW) ∧ ∃ n, wr = w.drewN n) (fun x _ _ => ln - (intOf x).toNat)
  case atStart => exact ⟨0, decide (100 < ln), rfl, by simp only [Value.bool.injEq, decide_eq_decide]; omega, by omega, by simp, 0, rfl⟩
  case round =>
    obtain ⟨j, b, rfl, rfl, hj, hb, q, rfl⟩ := hrel
    have HB := Lib.hid hb
    clear hb
    by_cases hlt : j < ln
    · have hjv : j < vs.length := by rw [HN.out]; exact hlt
      have hjx : j < X.length := by rw [HX.out]; exact hlt
      obtain ⟨b1, o1, rfl, hc⟩ := HV.out.at hjv
      have cv := hc j hjv
      obtain ⟨a1, n1, c1, e1, s1, s2, s3, s4, s5⟩ := HL.out.sl j hjx
      rw [e1] at cv
      have hi0 : (0 : Int) ≤ (j : Int) := by omega
      have hin : (j : Int) < (ln : Int) := by omega
      have HS1 := Lib.hid (show longW (rx X j) = decide ((24 : Int) < (n1 : Int)) by unfold longW; rw [s1]; simp; omega)
      have HJX := Lib.hid hjx
      clear hc e1 s1 s2 s3 s4 s5 hjx hjv HV
      cases b with
      | true =>
        go_wp2
        go_roundw
        case rel => exact ⟨j + 1, true, by go_num, rfl, by omega, by rw [any_take HJX.out, ← Bool.or_assoc, ← HB.out]; rfl, q, rfl⟩
        case measure => simp [intOf]; omega
      | false =>
        go_wp2
        go_roundw
        case rel => exact ⟨j + 1, _, by go_num, rfl, by omega, by rw [any_take HJX.out, ← Bool.or_assoc, ← HB.out, HS1.out]; simp, q, rfl⟩
        case measure => simp [intOf]; omega
    · obtain rfl : j = ln := by omega
      have hb2 : b = (decide (100 < j) || X.any longW) := by rw [HB.out, List.take_of_length_le (by rw [HX.out]; exact Nat.le_refl _)]
      cases b with
      | true =>
        have HR2 := Lib.hid (show R = 2 by
          rw [HE.out, if_pos]
          have := hb2.symm
          simpa using this)
        clear hb2
        go_wp2
        go_ret
        exact ⟨by rw [HR2.out]; rfl, q, rfl⟩
      | false =>
        have HR2 := Lib.hid (show R = 0 by
          rw [HE.out, if_neg]
          have := hb2.symm
          simp at this
          rintro (h | h)
          · omega
          · rw [List.any_eq_true] at h
            obtain ⟨x, hx, h⟩ := h
            have := this.2 x hx
            rw [h] at this; cases this)
        clear hb2
        go_wp2
        go_ret
        exact ⟨by rw [HR2.out]; rfl, q, rfl⟩

end Go.Proofs.Ytmipnikhgihcpaa
