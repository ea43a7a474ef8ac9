/- Contract of slices.Compare at lists of int. -/
import Derived.Test.YtmipnikhgihcpaaTrieW
import Derived.Test.YtmipnikhgihcpaaNear8
namespace Go.Proofs.Ytmipnikhgihcpaa
open Go.RowKit
set_option linter.unusedVariables false
set_option linter.unusedSimpArgs false

def cmpL : List Int → List Int → Int
  | [], [] => 0
  | [], _ :: _ => -1
  | _ :: _, [] => 1
  | a :: x, b :: y => if a < b then -1 else if b < a then 1 else cmpL x y
theorem cmpL_neg : ∀ x y, cmpL x y < 0 ↔ leL y x = false
  | [], [] => by simp [cmpL, leL]
  | [], b :: y => by simp [cmpL, leL]
  | a :: x, [] => by simp [cmpL, leL]
  | a :: x, b :: y => by
    have ih := cmpL_neg x y
    simp only [cmpL, leL]
    by_cases h : a < b
    · rw [if_pos h]
      have h1 : ¬ b < a := by omega
      have h2 : ¬ b = a := by omega
      simp [h1, h2]
    · rw [if_neg h]
      by_cases g : b < a
      · rw [if_pos g]; simp [g]
      · rw [if_neg g]
        have e : b = a := by omega
        simp [g, e, ih]
theorem cmpL_step {x y : List Int} {i : Nat} (h1 : i < x.length) (h2 : i < y.length) : cmpL (x.drop i) (y.drop i) = if ix x i < ix y i then -1 else if ix y i < ix x i then 1 else cmpL (x.drop (i + 1)) (y.drop (i + 1)) := by
  rw [List.drop_eq_getElem_cons h1, List.drop_eq_getElem_cons h2, ix_eq h1, ix_eq h2]
  rfl
theorem cmpL_end1 {x y : List Int} {i : Nat} (h1 : i < x.length) (h2 : y.length ≤ i) : cmpL (x.drop i) (y.drop i) = 1 := by
  rw [List.drop_eq_getElem_cons h1, List.drop_eq_nil_of_le h2]; rfl
theorem cmpL_end2 {x y : List Int} {i : Nat} (h1 : x.length ≤ i) (h2 : i < y.length) : cmpL (x.drop i) (y.drop i) = -1 := by
  rw [List.drop_eq_nil_of_le h1, List.drop_eq_getElem_cons h2]; rfl
theorem cmpL_end3 {x y : List Int} {i : Nat} (h1 : x.length ≤ i) (h2 : y.length ≤ i) : cmpL (x.drop i) (y.drop i) = 0 := by
  rw [List.drop_eq_nil_of_le h1, List.drop_eq_nil_of_le h2]; rfl

set_option maxRecDepth 100000 in
set_option maxHeartbeats 2000000 in
theorem slices_cmp (a b : Option Addr) (n m c d : Nat) (x y : List Int) (w : World) (ha : Ints w a x) (hb : Ints w b y) (hn : x.length = n) (hm : y.length = m) (hn2 : n ≤ 9223372036854775807) (hm2 : m ≤ 9223372036854775807) :
    Calls Try.prog 135 #[.slice a n c, .slice b m d] w (fun e w' => e = .returned (.int .i64 (cmpL x y)) ∧ w = w') := by
  have HA := Lib.hid ha; have HB := Lib.hid hb; have HN := Lib.hid hn; have HM := Lib.hid hm
  obtain ⟨r, hr⟩ : ∃ r, cmpL x y = r := ⟨_, rfl⟩
  rw [hr]
  have HR := Lib.hid hr
  clear ha hb hn hm hr
  go_enter Try.func135, Try.ntmps135
  go_wp2
  go_loopw [11] (fun i wr => ∃ j : Nat, i = .int .i64 (j : Int) ∧ j ≤ n ∧ j ≤ m ∧ cmpL (x.drop j) (y.drop j) = r ∧ w = wr) (fun i _ => n - (intOf i).toNat)
  case atStart => exact ⟨0, rfl, by omega, by omega, by simpa using HR.out, rfl⟩
  case round =>
    obtain ⟨j, rfl, hj, hj2, hc, rfl⟩ := hrel
    have hi0 : (0 : Int) ≤ (j : Int) := by omega
    by_cases hlt : j < n
    · have hjl : j < x.length := by rw [HN.out]; exact hlt
      obtain ⟨b1, o1, rfl, hcc⟩ := HA.out.at (k := j) hjl
      have cv := hcc j hjl
      have hin : (j : Int) < (n : Int) := by omega
      by_cases hlm : j < m
      · have hjm : j < y.length := by rw [HM.out]; exact hlm
        obtain ⟨b2, o2, rfl, hdd⟩ := HB.out.at (k := j) hjm
        have dv := hdd j hjm
        have hin2 : (j : Int) < (m : Int) := by omega
        have hno : ¬ (m : Int) ≤ (j : Int) := by omega
        rw [cmpL_step hjl hjm] at hc
        obtain ⟨p, hp⟩ : ∃ p, ix x j = p := ⟨_, rfl⟩
        obtain ⟨q, hq⟩ : ∃ q, ix y j = q := ⟨_, rfl⟩
        rw [hp] at cv hc; rw [hq] at dv hc
        have HC := Lib.hid (cmp_compare p q w)
        have HA2 := Lib.hid (show Ints w (some ⟨b1, o1, none⟩) x from HA.out)
        have HB2 := Lib.hid (show Ints w (some ⟨b2, o2, none⟩) y from HB.out)
        clear hcc hdd HA HB
        have h3 : (p < q ∧ cmpI p q = -1 ∧ r = -1) ∨ (q < p ∧ cmpI p q = 1 ∧ r = 1) ∨ (p = q ∧ cmpI p q = 0 ∧ cmpL (x.drop (j + 1)) (y.drop (j + 1)) = r) := by
          unfold cmpI
          by_cases g1 : p < q
          · rw [if_pos g1] at hc ⊢; exact .inl ⟨g1, rfl, hc.symm⟩
          · rw [if_neg g1] at hc
            by_cases g2 : q < p
            · rw [if_pos g2] at hc; exact .inr (.inl ⟨g2, by simp [g1, g2], hc.symm⟩)
            · rw [if_neg g2] at hc; exact .inr (.inr ⟨by omega, by simp [g1, g2], hc⟩)
        clear hc
        rcases h3 with ⟨-, e, rfl⟩ | ⟨-, e, rfl⟩ | ⟨-, e, h⟩
        · rw [e] at HC
          clear e
          go_wp2_with (go_at_call 128; go_loud (refine (HC.out).mono ?_; rintro e w3 ⟨rfl, rfl⟩))
          go_ret
          exact ⟨rfl, rfl⟩
        · rw [e] at HC
          clear e
          go_wp2_with (go_at_call 128; go_loud (refine (HC.out).mono ?_; rintro e w3 ⟨rfl, rfl⟩))
          go_ret
          exact ⟨rfl, rfl⟩
        · rw [e] at HC
          have HH := Lib.hid h
          clear e h
          go_wp2_with (go_at_call 128; go_loud (refine (HC.out).mono ?_; rintro e w3 ⟨rfl, rfl⟩))
          refine ⟨⟨j + 1, by go_num, by omega, by omega, HH.out, by first | trivial | rfl⟩, by simp [intOf]; omega⟩
      · have hyes : (m : Int) ≤ (j : Int) := by omega
        rw [cmpL_end1 hjl (by rw [HM.out]; omega)] at hc
        subst hc
        clear hcc
        go_wp2
        go_ret
        exact ⟨rfl, rfl⟩
    · obtain rfl : j = n := by omega
      by_cases hlm : j < m
      · rw [cmpL_end2 (by rw [HN.out]; exact Nat.le_refl _) (by rw [HM.out]; exact hlm)] at hc
        subst hc
        have hl : (j : Int) < (m : Int) := by omega
        go_wp2
        go_ret
        exact ⟨rfl, rfl⟩
      · rw [cmpL_end3 (by rw [HN.out]; exact Nat.le_refl _) (by rw [HM.out]; omega)] at hc
        subst hc
        have hl : ¬ (j : Int) < (m : Int) := by omega
        go_wp2
        go_ret
        exact ⟨rfl, rfl⟩

end Go.Proofs.Ytmipnikhgihcpaa
