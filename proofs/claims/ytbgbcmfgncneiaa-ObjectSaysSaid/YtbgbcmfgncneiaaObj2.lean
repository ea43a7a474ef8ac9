/- Contracts of fairref.runOf and object.words. -/
import Derived.Test.YtbgbcmfgncneiaaObj
namespace Go.Proofs.Ytbgbcmfgncneiaa
open Go.RowKit
set_option linter.unusedVariables false
set_option linter.unusedSimpArgs false

def RunOfPost (l : List Int) (big : Bool) (k : Nat) (w : World) (e : Ending) (w' : World) : Prop :=
  ∃ f t : Nat, e = .returned (.tuple #[.int .i64 (f : Int), .int .i64 (t : Int)]) ∧ RunP l big k f t ∧ Below w.heap.size w w'

set_option maxRecDepth 100000 in
set_option maxHeartbeats 1000000 in
theorem ref_runOf (a : Option Addr) (n c : Nat) (l : List Int) (big : Bool) (k : Nat) (w : World) (ha : Ints w a l) (hn : l.length = n) (h2 : n ≤ 4096) (hk : k < n) :
    Calls Try.prog 117 #[.slice a n c, .int .i64 (k : Int), .bool big] w (RunOfPost l big k w) := by
  have HN := Lib.hid hn; clear hn
  obtain ⟨b1, o1, rfl, hc0⟩ := ha.at (k := k) (by rw [HN.out]; exact hk)
  have HC := Lib.hid (show ∀ i, i < n → w.cell? ⟨b1, o1 + i, none⟩ = some (.int .i64 (ix l i)) from fun i hi => hc0 i (by rw [HN.out]; exact hi))
  clear hc0
  have ck := HC.out k hk
  have ik : (k : Int) < (n : Int) := by omega
  obtain ⟨kd, hkd⟩ : ∃ kd, kindS (ix l k) big = kd := ⟨_, rfl⟩
  have HKD := Lib.hid hkd
  clear hkd
  go_enter Try.func117, Try.ntmps117
  go_upto_block 0 with fail
  go_cut [8, 9] (fun v u wx => ∃ f : Nat, v = .int .i64 (f : Int) ∧ u = .int .i64 ((k : Int) + 1) ∧ f ≤ k ∧ (∀ j, f ≤ j → j ≤ k → kindS (ix l j) big = kd) ∧ (f = 0 ∨ kindS (ix l (f - 1)) big ≠ kd) ∧ Below w.heap.size w wx)
  case first =>
    go_wp2
    go_loopw [8] (fun v wr => ∃ f : Nat, v = .int .i64 (f : Int) ∧ f ≤ k ∧ (∀ j, f ≤ j → j ≤ k → kindS (ix l j) big = kd) ∧ Below w.heap.size w wr) (fun v _ => (intOf v).toNat)
    case atStart =>
      refine ⟨k, rfl, by omega, fun j h1 h2 => ?_, Below.refl _ _⟩
      obtain rfl : j = k := by omega
      exact HKD.out
    case round =>
      obtain ⟨f, rfl, hfk, hsame, hbr⟩ := hrel
      have HSA := Lib.hid hsame
      clear hsame
      by_cases hf0 : f = 0
      · subst hf0
        go_wp2
        go_quiet (fail)
        go_wp2
        go_meet
        exact ⟨0, rfl, rfl, by omega, HSA.out, .inl rfl, below_drewN hbr _⟩
      · have cj := HC.out (f - 1) (by omega)
        rw [← hbr.cell (cell_lt cj)] at cj
        have ck' := ck
        rw [← hbr.cell (cell_lt ck)] at ck'
        have i0 : decide (0 < f) = true := by simp; omega
        have i2 : ((f : Int) - 1).toNat = f - 1 := by omega
        have i3 : (0 : Int) ≤ (f : Int) - 1 := by omega
        have i4 : (f : Int) - 1 < (n : Int) := by omega
        go_wp2
        go_quiet ((go_at_call 118; exact Calls.quiet_of_same ((ref_kindOf _ _ _).mono fun _ _ ⟨h, h'⟩ => ⟨h, h'.symm⟩)))
        all_goals
          by_cases hsm : kindS (ix l (f - 1)) big = kindS (ix l k) big
          · have HSM := Lib.hid (show kindS (ix l (f - 1)) big = kd by rw [hsm]; exact HKD.out)
            have b1' : (kindS (ix l (f - 1)) big == kindS (ix l k) big) = true := by simpa using hsm
            clear hsm
            go_wp2
            go_roundw
            case rel =>
              refine ⟨f - 1, by go_num, by omega, fun j h1 h2 => ?_, below_drewN hbr _⟩
              by_cases e : j = f - 1
              · rw [e]; exact HSM.out
              · exact HSA.out j (by omega) h2
            case measure => simp [intOf]; omega
          · have b1' : (kindS (ix l (f - 1)) big == kindS (ix l k) big) = false := by simpa using hsm
            have HSM := Lib.hid (show kindS (ix l (f - 1)) big ≠ kd by rw [← HKD.out]; exact hsm)
            clear hsm
            go_wp2
            go_meet
            exact ⟨f, rfl, rfl, hfk, HSA.out, .inr HSM.out, below_drewN hbr _⟩
  obtain ⟨f, rfl, rfl, hfk, hsame, hleft, hb⟩ := hcut
  have HSA := Lib.hid hsame; have HLE := Lib.hid hleft
  clear hsame hleft
  go_wp2
  go_loopw [9] (fun v wr => ∃ t : Nat, v = .int .i64 (t : Int) ∧ k < t ∧ t ≤ n ∧ (∀ j, f ≤ j → j < t → kindS (ix l j) big = kd) ∧ Below w.heap.size w wr) (fun v _ => n - (intOf v).toNat)
  case atStart => exact ⟨k + 1, by go_num, by omega, by omega, fun j h1 h2 => HSA.out j h1 (by omega), hb⟩
  case round =>
    clear hb
    obtain ⟨t, rfl, hkt, htn, hsame, hbr⟩ := hrel
    have HST := Lib.hid hsame
    clear hsame
    by_cases hlt : t < n
    · have cj := HC.out t hlt
      rw [← hbr.cell (cell_lt cj)] at cj
      have ck' := ck
      rw [← hbr.cell (cell_lt ck)] at ck'
      have i0 : decide (t < n) = true := by simp; omega
      have i1 : (t : Int) < (n : Int) := by omega
      go_wp2
      go_quiet ((go_at_call 118; exact Calls.quiet_of_same ((ref_kindOf _ _ _).mono fun _ _ ⟨h, h'⟩ => ⟨h, h'.symm⟩)))
      all_goals
        by_cases hsm : kindS (ix l t) big = kindS (ix l k) big
        · have HSM := Lib.hid (show kindS (ix l t) big = kd by rw [hsm]; exact HKD.out)
          have b1' : (kindS (ix l t) big == kindS (ix l k) big) = true := by simpa using hsm
          clear hsm
          go_wp2
          go_roundw
          case rel =>
            refine ⟨t + 1, by go_num, by omega, by omega, fun j h1 h2 => ?_, below_drewN hbr _⟩
            by_cases e : j = t
            · rw [e]; exact HSM.out
            · exact HST.out j h1 (by omega)
          case measure => simp [intOf]; omega
        · have b1' : (kindS (ix l t) big == kindS (ix l k) big) = false := by simpa using hsm
          have HSM := Lib.hid hsm
          clear hsm
          go_wp2
          go_ret2
          exact ⟨f, t, rfl, ⟨hfk, hkt, by rw [HN.out]; omega, fun j h1 h2 => by rw [HKD.out]; exact HST.out j h1 h2, by rw [HKD.out]; exact HLE.out, .inr HSM.out⟩, below_drewN hbr _⟩
    · obtain rfl : n = t := by omega
      have i0 : decide (n < n) = false := by simp
      go_wp2
      go_quiet (fail)
      go_wp2
      go_ret2
      exact ⟨f, n, rfl, ⟨hfk, hkt, by rw [HN.out]; omega, fun j h1 h2 => by rw [HKD.out]; exact HST.out j h1 h2, by rw [HKD.out]; exact HLE.out, .inl HN.out.symm⟩, below_drewN hbr _⟩

end Go.Proofs.Ytbgbcmfgncneiaa
