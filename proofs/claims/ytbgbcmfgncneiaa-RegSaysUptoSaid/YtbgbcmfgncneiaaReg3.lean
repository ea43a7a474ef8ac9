/- Contracts of reg.Get, fairref.register, RegPut, RegGet, SameRegs. -/
import Derived.Test.YtbgbcmfgncneiaaReg2
namespace Go.Proofs.Ytbgbcmfgncneiaa
open Go.RowKit
set_option linter.unusedVariables false
set_option linter.unusedSimpArgs false

/-- what a Get leaves -/
def GetVPost (y : List Int) (E : Int) (w : World) (e : Ending) (w' : World) : Prop := ∃ v, e = .returned (.tuple #[v, .int .i64 E]) ∧ Sl w' v y ∧ Below w.heap.size w w'

/-- is there something? -/
def regE (y : List Int) : Int := if y = [] then 6 else 0

set_option maxRecDepth 100000 in
set_option maxHeartbeats 1000000 in
theorem reg_get_key (vs : List Value) (name : Int) (w : World) (hO : numO name = false) :
    Calls Try.prog 24 #[.agg (rgA vs), .int .i64 name] w (GetVPost [] 9 w) := by
  have HO := Lib.hid hO
  clear hO
  go_enter Try.func24, Try.ntmps24
  go_wp2_with (first | (go_at_call 86; refine (reg_number _ _).mono ?_; rintro e w1 ⟨rfl, rfl⟩; rw [HO.out]))
  go_ret2
  exact ⟨_, rfl, Sl.nil _, below1 _ _⟩

set_option maxRecDepth 100000 in
set_option maxHeartbeats 1000000 in
theorem reg_get_in (vs : List Value) (X : List (List Int)) (name : Int) (j : Nat) (w : World) (h : Rgs w vs X) (hX : (rx X j).length ≤ 17592186044416) (hI : numI name = (j : Int)) (hj : j < 27) (hO : numO name = true) :
    Calls Try.prog 24 #[.agg (rgA vs), .int .i64 name] w (GetVPost (rx X j) (regE (rx X j)) w) := by
  obtain ⟨a1, n1, c1, hv, hn1, hc1, hc2, hI1, h01⟩ := h.sl j hj
  rw [hn1] at hX
  have HI := Lib.hid hI; have HO := Lib.hid hO; have HV := Lib.hid hv; have HN1 := Lib.hid hn1; have H01 := Lib.hid h01; have HLV := Lib.hid h.lv
  clear h hI hO hv h01 hn1
  have hB0 := BlkR.new w vs 37
  have c0 := hB0.cell (i := j) (by rw [HLV.out]; exact hj)
  rw [HV.out] at c0
  have hacc := below1 w (.cells (rgA vs) 37)
  have i0 : (j : Int) < 27 := by omega
  have hI2 := hI1.below hacc
  have hsz : (w.alloc (.cells (rgA vs) 37)).heap.size = w.heap.size + 1 := by simp
  have HSZ := Lib.hid hsz; clear hsz
  by_cases hz : n1 = 0
  · have hnil : rx X j = [] := List.eq_nil_of_length_eq_zero (by rw [HN1.out]; exact hz)
    subst hz
    have hE : regE (rx X j) = 6 := by rw [hnil]; rfl
    have HNIL := Lib.hid hnil; have HE := Lib.hid hE; clear hnil hE
    go_enter Try.func24, Try.ntmps24
    go_wp2_with (first | (go_at_call 86; refine (reg_number _ _).mono ?_; rintro e w1 ⟨rfl, rfl⟩; rw [HO.out, HI.out]))
    go_ret2
    rw [HE.out, HNIL.out]
    exact ⟨_, rfl, Sl.nil _, hacc⟩
  · have hz' : ((n1 : Int) == 0) = false := by simp; omega
    have hnil : rx X j ≠ [] := fun h => hz (by rw [← HN1.out, h]; rfl)
    have hE : regE (rx X j) = 0 := if_neg hnil
    have HE := Lib.hid hE; clear hnil hz hE
    go_enter Try.func24, Try.ntmps24
    go_wp2_with (first | (go_at_call 86; refine (reg_number _ _).mono ?_; rintro e w1 ⟨rfl, rfl⟩; rw [HO.out, HI.out]) | ((go_at_call 88); refine (slices_clone a1 n1 c1 (rx X j) _ hI2 HN1.out hX H01.out).mono ?_; rintro e w5 ⟨v5, rfl, hown5, hb5⟩))
    go_ret2
    rw [HE.out]
    exact ⟨_, rfl, hown5.sl, below_then hacc (by rw [HSZ.out]; omega) hb5⟩

def regI (name : Int) : Int := if numO name = true then numI name else -1
theorem num_cases (name : Int) : (numO name = false ∧ numM name = false ∧ numI name = 0) ∨ (numO name = true ∧ 0 ≤ numI name ∧ numI name < 27) := by
  unfold numO numM numI
  by_cases h0 : name = 0
  · simp [h0]
  · by_cases h1 : 97 ≤ name ∧ name ≤ 122
    · rw [if_neg h0, if_neg h0, if_neg h0, if_pos h1, if_pos h1, if_pos h1]; right; exact ⟨by trivial, by omega, by omega⟩
    · by_cases h2 : 65 ≤ name ∧ name ≤ 90
      · simp only [if_neg h0, if_neg h1, if_pos h2]; right; exact ⟨by trivial, by omega, by omega⟩
      · simp only [if_neg h0, if_neg h1, if_neg h2]; left; exact ⟨by trivial, by trivial, by trivial⟩

theorem regI_low {name : Int} {k : Nat} (hk : k < 26) (h : name = 97 + (k : Int)) : regI name = (k : Int) + 1 ∧ numM name = false := by
  have h0 : ¬ name = 0 := by omega
  have h1 : 97 ≤ name ∧ name ≤ 122 := by omega
  unfold regI numO numM numI
  rw [if_neg h0, if_neg h0, if_neg h0, if_pos h1, if_pos h1, if_pos h1]
  exact ⟨by rw [if_pos rfl]; omega, rfl⟩
theorem regI_high {name : Int} {k : Nat} (hk : k < 26) (h : name = 65 + (k : Int)) : regI name = (k : Int) + 1 ∧ numM name = true := by
  have h0 : ¬ name = 0 := by omega
  have h1 : ¬ (97 ≤ name ∧ name ≤ 122) := by omega
  have h2 : 65 ≤ name ∧ name ≤ 90 := by omega
  unfold regI numO numM numI
  simp only [if_neg h0, if_neg h1, if_pos h2]
  exact ⟨by simp; omega, by trivial⟩
theorem regI_none {name : Int} (h0 : ¬ name = 0) (h : ∀ k : Nat, k < 26 → name ≠ 97 + (k : Int) ∧ name ≠ 65 + (k : Int)) : regI name = -1 ∧ numM name = false := by
  have h1 : ¬ (97 ≤ name ∧ name ≤ 122) := fun hh => (h (name - 97).toNat (by omega)).1 (by omega)
  have h2 : ¬ (65 ≤ name ∧ name ≤ 90) := fun hh => (h (name - 65).toNat (by omega)).2 (by omega)
  unfold regI numO numM numI
  simp [if_neg h0, if_neg h1, if_neg h2]

set_option maxHeartbeats 400000 in
theorem ref_register (name : Int) (w : World) :
    Calls Try.prog 89 #[.int .i64 name] w fun e w' => e = .returned (.tuple #[.int .i64 (regI name), .bool (numM name)]) ∧ w = w' := by
  by_cases h0 : name = 0
  · subst h0
    go_enter Try.func89, Try.ntmps89
    go_wp2
    go_ret2
    exact ⟨rfl, rfl⟩
  have h0' : (name == 0) = false := by simpa using h0
  have H0 := Lib.hid h0
  clear h0
  go_enter Try.func89, Try.ntmps89
  go_wp2
  go_loop [7] (fun i => ∃ k : Nat, i = .int .i64 (k : Int) ∧ k ≤ 26 ∧ ∀ k' : Nat, k' < k → name ≠ 97 + (k' : Int) ∧ name ≠ 65 + (k' : Int)) (fun i => 26 - (intOf i).toNat)
  case atStart => exact ⟨0, rfl, by omega, fun k' h => by omega⟩
  case round =>
    obtain ⟨k, rfl, hk, hno⟩ := hrel
    have HNO := Lib.hid hno; clear hno
    by_cases hlt : k < 26
    · by_cases h1 : name = 97 + (k : Int)
      · have HR := Lib.hid (regI_low hlt h1)
        have b1 : (name == 97 + (k : Int)) = true := by simpa using h1
        have b2 : (name == 65 + (k : Int)) = false := by simp; omega
        have H1 := Lib.hid h1; clear h1
        go_wp2
        go_ret2
        exact ⟨ret2_ib HR.out.1.symm HR.out.2.symm, rfl⟩
      · by_cases h2 : name = 65 + (k : Int)
        · have HR := Lib.hid (regI_high hlt h2)
          have b1 : (name == 97 + (k : Int)) = false := by simpa using h1
          have b2 : (name == 65 + (k : Int)) = true := by simpa using h2
          clear h1 h2
          go_wp2
          go_ret2
          exact ⟨ret2_ib HR.out.1.symm HR.out.2.symm, rfl⟩
        · have b1 : (name == 97 + (k : Int)) = false := by simpa using h1
          have b2 : (name == 65 + (k : Int)) = false := by simpa using h2
          have H1 := Lib.hid h1; have H2 := Lib.hid h2; clear h1 h2
          go_wp2
          go_round
          case rel => exact ⟨k + 1, by go_num, by omega, fun k' h => by
            rcases Nat.lt_succ_iff_lt_or_eq.1 h with h | rfl
            · exact HNO.out k' h
            · exact ⟨H1.out, H2.out⟩⟩
          case measure => simp [intOf]; omega
    · obtain rfl : k = 26 := by omega
      have HR := Lib.hid (regI_none H0.out HNO.out)
      go_wp2
      go_ret2
      exact ⟨ret2_ib HR.out.1.symm HR.out.2.symm, rfl⟩

end Go.Proofs.Ytbgbcmfgncneiaa
