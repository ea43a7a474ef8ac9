/- Contracts of term.Check, fairref.RowErr, fairref.SameRow. -/
import Derived.Test.YtmipnikhgihcpaaSlib
import Derived.Deep.RegionHeld3
namespace Go.Proofs.Ytmipnikhgihcpaa
open Go.RowKit
set_option linter.unusedVariables false
set_option linter.unusedSimpArgs false

def badC (c : Int) : Bool := decide (c < 32) || c == 127
def rowErr (xs : List Int) (p : Int) : Int :=
  if xs.length < 2 ∨ 120 < xs.length ∨ p < 0 ∨ (xs.length : Int) < p then 1 else if xs.any badC then 4 else 0

theorem badC_eq (c : Int) (w : World) :
    Calls Try.prog 154 #[.int .i64 c] w fun e w' => e = .returned (.bool (badC c)) ∧ w = w' := by
  go_enter Try.func154, Try.ntmps154
  go_wp2
  all_goals
    go_ret
    exact ⟨ret1_bool (by unfold badC; simp_all), rfl⟩

def IdxPost (xs : List Int) (r : Int) : Prop := (∃ k, k < xs.length ∧ badC (ix xs k) = true ∧ r = (k : Int)) ∨ ((∀ k, k < xs.length → badC (ix xs k) = false) ∧ r = -1)
theorem IdxPost.any {xs : List Int} {r : Int} (h : IdxPost xs r) : decide (0 ≤ r) = xs.any badC := by
  rcases h with ⟨k, h1, h2, rfl⟩ | ⟨h1, rfl⟩
  · have : xs.any badC = true := List.any_eq_true.2 ⟨_, ix_mem h1, h2⟩
    rw [this]; simp
  · have : xs.any badC = false := by
      rw [List.any_eq_false]
      intro x hx
      obtain ⟨k, hk, rfl⟩ := List.getElem_of_mem hx
      have := h1 k hk
      rw [ix_eq hk] at this; simp [this]
    rw [this]; rfl

set_option maxRecDepth 100000 in
theorem term_index (a : Option Addr) (n c : Nat) (xs : List Int) (w : World) (ha : Ints w a xs) (hn : xs.length = n) (h2 : n ≤ 9223372036854775807) :
    Calls Try.prog 200 #[.slice a n c, .func (.func 154) #[] #[]] w fun e w' => ∃ r, e = .returned (.int .i64 r) ∧ IdxPost xs r ∧ w = w' := by
  have HN := Lib.hid hn; clear hn
  go_enter Try.func200, Try.ntmps200
  go_wp2
  go_loopw [8] (fun i wr => ∃ k : Nat, i = .int .i64 (k : Int) ∧ k ≤ n ∧ (∀ j, j < k → badC (ix xs j) = false) ∧ w = wr) (fun i _ => n - (intOf i).toNat)
  case atStart => exact ⟨0, rfl, by omega, fun j hj => by omega, rfl⟩
  case round =>
    obtain ⟨k, rfl, hk, hno, rfl⟩ := hrel
    have HNO := Lib.hid hno; clear hno
    by_cases hlt : k < n
    · obtain ⟨b1, o1, rfl, hc0⟩ := ha.at (k := k) (by rw [HN.out]; exact hlt)
      have ck := hc0 k (by rw [HN.out]; exact hlt)
      have i1 : (k : Int) < (n : Int) := by omega
      clear hc0
      go_wp2_with fail
      refine (badC_eq _ _).mono ?_
      rintro e w' ⟨rfl, rfl⟩
      rcases hb : badC (ix xs k) with _ | _
      · have HB := Lib.hid hb
        clear hb
        go_wp2
        go_roundw
        case rel =>
          refine ⟨k + 1, by go_num, by omega, ?_, by first | rfl | trivial⟩
          intro j hj
          rcases Nat.lt_succ_iff_lt_or_eq.1 hj with h | rfl
          · exact HNO.out j h
          · exact HB.out
        case measure => simp [intOf]; omega
      · go_wp2
        go_ret
        exact ⟨_, rfl, .inl ⟨k, by rw [HN.out]; exact hlt, hb, rfl⟩, rfl⟩
    · have HR := Lib.hid (show IdxPost xs (-1) from Or.inr (And.intro (fun j hj => HNO.out j (by rw [HN.out] at hj; omega)) rfl))
      go_wp2
      go_ret
      exact ⟨_, rfl, HR.out, rfl⟩
theorem term_contains (a : Option Addr) (n c : Nat) (xs : List Int) (w : World) (ha : Ints w a xs) (hn : xs.length = n) (h2 : n ≤ 9223372036854775807) :
    Calls Try.prog 153 #[.slice a n c, .func (.func 154) #[] #[]] w fun e w' => e = .returned (.bool (xs.any badC)) ∧ w = w' := by
  have HN := Lib.hid hn; clear hn
  go_enter Try.func153, Try.ntmps153
  go_wp2_with fail
  refine (term_index a n c xs w ha HN.out h2).mono ?_
  rintro e w' ⟨r, rfl, hr, rfl⟩
  go_wp2
  go_ret
  exact ⟨ret1_bool hr.any, rfl⟩

/-- a Row value -/
def rowV (a : Option Addr) (n c : Nat) (p : Int) : Value := .agg #[.slice a n c, .int .i64 p]
theorem rowErr_bad {xs : List Int} {p : Int} (h : xs.length < 2 ∨ 120 < xs.length ∨ p < 0 ∨ (xs.length : Int) < p) : rowErr xs p = 1 := if_pos h
theorem rowErr_ok {xs : List Int} {p : Int} (h : ¬ (xs.length < 2 ∨ 120 < xs.length ∨ p < 0 ∨ (xs.length : Int) < p)) : rowErr xs p = if xs.any badC then 4 else 0 := if_neg h

set_option maxRecDepth 100000 in
theorem term_check (a : Option Addr) (n c : Nat) (xs : List Int) (p : Int) (w : World) (ha : Ints w a xs) (hn : xs.length = n) (h2 : n ≤ 9223372036854775807) :
    Calls Try.prog 105 #[.agg #[.slice a n c, .int .i64 p]] w fun e w' => e = .returned (.int .i64 (rowErr xs p)) ∧ Below w.heap.size w w' := by
  have HN := Lib.hid hn
  have hb1 := below1 w (.cells #[.slice a n c, .int .i64 p] 59)
  by_cases hok : n < 2 ∨ 120 < n ∨ p < 0 ∨ (n : Int) < p
  · have HE := Lib.hid (rowErr_bad (xs := xs) (p := p) (by rw [hn]; exact hok))
    clear hn
    go_enter Try.func105, Try.ntmps105
    by_cases e1 : n < 2
    · go_wp2
      go_ret
      exact ⟨ret1_int HE.out.symm, hb1⟩
    · by_cases e2 : 120 < n
      · go_wp2
        go_ret
        exact ⟨ret1_int HE.out.symm, hb1⟩
      · by_cases e3 : p < 0
        · go_wp2
          go_ret
          exact ⟨ret1_int HE.out.symm, hb1⟩
        · have e4 : (n : Int) < p := by omega
          go_wp2
          go_ret
          exact ⟨ret1_int HE.out.symm, hb1⟩
  · have HE := Lib.hid (rowErr_ok (xs := xs) (p := p) (by rw [hn]; exact hok))
    have e1 : 2 ≤ n := by omega
    have e2 : n ≤ 120 := by omega
    have e3 : 0 ≤ p := by omega
    have e4 : p ≤ (n : Int) := by omega
    clear hn hok
    go_enter Try.func105, Try.ntmps105
    go_wp2_with fail
    refine (term_contains a n c xs _ (ha.below hb1) HN.out h2).mono ?_
    rintro e w' ⟨rfl, rfl⟩
    rcases hb : xs.any badC with _ | _
    · have HF := Lib.hid (show rowErr xs p = 0 by rw [HE.out, hb]; rfl)
      clear hb
      go_wp2
      go_ret
      exact ⟨ret1_int HF.out.symm, hb1⟩
    · have HF := Lib.hid (show rowErr xs p = 4 by rw [HE.out, hb]; rfl)
      clear hb
      go_wp2
      go_ret
      exact ⟨ret1_int HF.out.symm, hb1⟩

theorem badC_false {c : Int} (h : badC c = false) : decide (c < 32) = false ∧ (c == 127) = false := by unfold badC at h; simpa using h
set_option maxRecDepth 100000 in
theorem ref_rowErr (a : Option Addr) (n c : Nat) (xs : List Int) (p : Int) (w : World) (ha : Ints w a xs) (hn : xs.length = n) (h2 : n ≤ 9223372036854775807) :
    Calls Try.prog 38 #[.agg #[.slice a n c, .int .i64 p]] w fun e w' => e = .returned (.int .i64 (rowErr xs p)) ∧ Below w.heap.size w w' := by
  have HN := Lib.hid hn
  have hb1 := below1 w (.cells #[.slice a n c, .int .i64 p] 59)
  by_cases hok : n < 2 ∨ 120 < n ∨ p < 0 ∨ (n : Int) < p
  · have HE := Lib.hid (rowErr_bad (xs := xs) (p := p) (by rw [hn]; exact hok))
    clear hn
    go_enter Try.func38, Try.ntmps38
    by_cases e1 : n < 2
    · go_wp2
      go_ret
      exact ⟨ret1_int HE.out.symm, hb1⟩
    · by_cases e2 : 120 < n
      · go_wp2
        go_ret
        exact ⟨ret1_int HE.out.symm, hb1⟩
      · by_cases e3 : p < 0
        · go_wp2
          go_ret
          exact ⟨ret1_int HE.out.symm, hb1⟩
        · have e4 : (n : Int) < p := by omega
          go_wp2
          go_ret
          exact ⟨ret1_int HE.out.symm, hb1⟩
  · have HE := Lib.hid (rowErr_ok (xs := xs) (p := p) (by rw [hn]; exact hok))
    have e1 : 2 ≤ n := by omega
    have e2 : n ≤ 120 := by omega
    have e3 : 0 ≤ p := by omega
    have e4 : p ≤ (n : Int) := by omega
    clear hn hok
    go_enter Try.func38, Try.ntmps38
    go_wp2
    go_loopw [31] (fun i wr => ∃ k : Nat, i = .int .i64 (k : Int) ∧ k ≤ n ∧ (∀ j, j < k → badC (ix xs j) = false) ∧ wr = w.alloc (.cells #[.slice a n c, .int .i64 p] 59)) (fun i _ => n - (intOf i).toNat)
    case atStart => exact ⟨0, rfl, by omega, fun j hj => by omega, rfl⟩
    case round =>
      obtain ⟨k, rfl, hk, hno, rfl⟩ := hrel
      have HNO := Lib.hid hno; clear hno
      by_cases hlt : k < n
      · obtain ⟨b1, o1, rfl, hc0⟩ := (ha.below hb1).at (k := k) (by rw [HN.out]; exact hlt)
        have ck := hc0 k (by rw [HN.out]; exact hlt)
        have i1 : (k : Int) < (n : Int) := by omega
        clear hc0
        generalize w.alloc (.cells #[.slice (some ⟨b1, o1, none⟩) n c, .int .i64 p] 59) = w1 at *
        rcases hb : badC (ix xs k) with _ | _
        · have HB := Lib.hid hb
          obtain ⟨d1, d2⟩ := badC_false hb
          clear hb
          go_wp2
          go_roundw
          case rel =>
            refine ⟨k + 1, by go_num, by omega, ?_, by first | rfl | trivial⟩
            intro j hj
            rcases Nat.lt_succ_iff_lt_or_eq.1 hj with h | rfl
            · exact HNO.out j h
            · exact HB.out
          case measure => simp [intOf]; omega
        · have HF := Lib.hid (show rowErr xs p = 4 by
            rw [HE.out, show xs.any badC = true from List.any_eq_true.2 ⟨_, ix_mem (show k < xs.length by rw [HN.out]; exact hlt), hb⟩]; rfl)
          have HB := Lib.hid (show ¬ ((decide (ix xs k < 32)) = false ∧ (ix xs k == 127) = false) by unfold badC at hb; intro h; rw [h.1, h.2] at hb; cases hb)
          by_cases d1 : ix xs k < 32
          · clear hb
            go_wp2
            go_ret
            exact ⟨ret1_int HF.out.symm, hb1⟩
          · have d2 : (ix xs k == 127) = true := by
              rcases hh : (ix xs k == 127) with _ | _
              · exact absurd ⟨by simpa using d1, hh⟩ HB.out
              · rfl
            clear hb
            go_wp2
            go_ret
            exact ⟨ret1_int HF.out.symm, hb1⟩
      · have HF := Lib.hid (show rowErr xs p = 0 by
          rw [HE.out, show xs.any badC = false from (List.any_eq_false.2 fun x hx => by
            obtain ⟨j, hj, rfl⟩ := List.getElem_of_mem hx
            have := HNO.out j (by rw [HN.out] at hj; omega)
            rw [ix_eq hj] at this; simp [this])]; rfl)
        go_wp2
        go_ret
        exact ⟨ret1_int HF.out.symm, hb1⟩

end Go.Proofs.Ytmipnikhgihcpaa
