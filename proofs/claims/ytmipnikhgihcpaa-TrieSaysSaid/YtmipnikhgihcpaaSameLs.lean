/- Two lists of lists that read alike are the same: contract of fairref.SameLists. -/
import Derived.Test.YtmipnikhgihcpaaVRow
namespace Go.Proofs.Ytmipnikhgihcpaa
open Go.RowKit
set_option linter.unusedVariables false
set_option linter.unusedSimpArgs false

set_option maxRecDepth 100000 in
set_option maxHeartbeats 1000000 in
theorem equalFunc_same (a b : Option Addr) (na nb ca cb : Nat) (us vs : List Value) (X : List (List Int)) (w : World) (ha : Vals w a us) (hb : Vals w b vs) (hna : us.length = na) (hnb : vs.length = nb) (hX : Lists w us X) (hY : Lists w vs X) (hx : na ≤ 9223372036854775807) :
    Calls Try.prog 138 #[.slice a na ca, .slice b nb cb, .func (.func 22) #[] #[]] w fun e w' => e = .returned (.bool true) ∧ ∃ n, w' = w.drewN n := by
  obtain rfl : na = nb := by rw [← hna, ← hnb, hX.len, hY.len]
  have hXL : X.length = na := by rw [← hX.len]; exact hna
  have HX := Lib.hid hX; have HY := Lib.hid hY; have HA := Lib.hid hna; have HB := Lib.hid hnb; have HXL := Lib.hid hXL
  clear hX hY hna hnb hXL
  go_enter Try.func138, Try.ntmps138
  go_wp2
  go_loopw [17] (fun i wr => ∃ k : Nat, i = .int .i64 (k : Int) ∧ k ≤ na ∧ ∃ n, wr = w.drewN n) (fun i _ => na - (intOf i).toNat)
  case atStart => exact ⟨0, rfl, Nat.zero_le _, 0, rfl⟩
  case round =>
    obtain ⟨k, rfl, hk, n, rfl⟩ := hrel
    by_cases hlt : k < na
    · obtain ⟨b1, o1, rfl, hc1⟩ := ha.at (k := k) (by rw [HA.out]; exact hlt)
      obtain ⟨b2, o2, rfl, hc2⟩ := hb.at (k := k) (by rw [HB.out]; exact hlt)
      have e1 := hc1 k (by rw [HA.out]; exact hlt)
      have e2 := hc2 k (by rw [HB.out]; exact hlt)
      obtain ⟨xa, xn, xc, x1, x2, x3, x4, x5, x6⟩ := HX.out.sl k (by rw [HXL.out]; exact hlt)
      obtain ⟨ya, yn, yc, y1, y2, y3, y4, y5, y6⟩ := HY.out.sl k (by rw [HXL.out]; exact hlt)
      rw [x1] at e1; rw [y1] at e2
      have X2 := Lib.hid x2; have Y2 := Lib.hid y2
      have hxx : xn ≤ 9223372036854775807 := by omega
      clear hc1 hc2 x1 x2 x6 y1 y2 y6 ha hb
      go_wp2_with ((go_at_call 22); refine (slices_same xa ya xn yn xc yc (rx X k) _ (x5.drewN n) (y5.drewN n) X2.out Y2.out hxx).mono ?_; rintro e w2 ⟨rfl, nq, rfl⟩)
      go_roundw
      case rel => exact ⟨k + 1, by go_num, by omega, _, rfl⟩
      case measure => simp [intOf]; omega
    · go_wp2
      go_ret
      exact ⟨rfl, n, rfl⟩

theorem same_lists (a b : Option Addr) (na nb ca cb : Nat) (us vs : List Value) (X : List (List Int)) (w : World) (ha : Vals w a us) (hb : Vals w b vs) (hna : us.length = na) (hnb : vs.length = nb) (hX : Lists w us X) (hY : Lists w vs X) (hx : na ≤ 9223372036854775807) :
    Calls Try.prog 81 #[.slice a na ca, .slice b nb cb] w fun e w' => e = .returned (.bool true) ∧ ∃ n, w' = w.drewN n := by
  have H := Lib.hid (equalFunc_same a b na nb ca cb us vs X w ha hb hna hnb hX hY hx)
  clear hX hY ha hb hna hnb
  go_enter Try.func81, Try.ntmps81
  go_wp2_with ((go_at_call 138); refine H.out.mono ?_; rintro e w2 ⟨rfl, nq, rfl⟩)
  go_ret
  exact ⟨rfl, nq, rfl⟩

end Go.Proofs.Ytmipnikhgihcpaa
