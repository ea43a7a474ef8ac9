/- Contract of fairref.Object: quotes, brackets, other keys. -/
import Derived.Test.YtbgbcmfgncneiaaObj9
namespace Go.Proofs.Ytbgbcmfgncneiaa
open Go.RowKit
set_option linter.unusedVariables false
set_option linter.unusedSimpArgs false

theorem quotes_found {l P : List Int} {q : Int} {k m : Nat} (h : QPl l q l.length P) (h1 : 2 * m + 1 < P.length) (h2 : (k : Int) ≤ ix P (2 * m + 1)) (h3 : ∀ m', m' < m → ix P (2 * m' + 1) < k) :
    ∃ i, i < l.length ∧ QFound l k q i ∧ (∀ j, j < i → ¬ QFound l k q j) ∧ ix P (2 * m + 1) = i ∧ ix P (2 * m) = quoteS l q i := by
  obtain ⟨t, e1, e2, e3, e4⟩ := h.hit m h1
  have h0 := (h.low (2 * m) (by omega)).1
  refine ⟨t, e2, ⟨e3, by rw [e4]; exact h0, by omega⟩, fun j hj hf => ?_, e1, e4.symm⟩
  obtain ⟨m2, g1, g2⟩ := h.all j (by omega) hf.1 hf.2.1
  have hk := hf.2.2
  rcases Nat.lt_trichotomy m2 m with hh | hh | hh
  · have := h3 m2 hh; omega
  · subst hh; omega
  · have := h.up (2 * m + 1) (2 * m2 + 1) (by omega) g1; omega

set_option maxRecDepth 100000 in
set_option maxHeartbeats 2000000 in
theorem ref_object_q (a : Option Addr) (n c : Nat) (l : List Int) (k : Nat) (around : Bool) (key : Int) (hkey : key = 34 ∨ key = 39 ∨ key = 96) (w : World) (ha : Ints w a l) (hn : l.length = n) (h2 : n ≤ 4096) (hc : n ≤ c) (hc2 : c ≤ 9223372036854775807) (hk : k < n ∨ k = 0 ∧ n = 0) :
    Calls Try.prog 52 #[.slice a n c, .int .i64 (k : Int), .bool around, .int .i64 key] w (Out3 (QuotesP l k around key) w) := by
  have HN := Lib.hid hn; clear hn
  have hm : ¬ (k : Int) < 0 := by omega
  have hk4 : (k : Int) ≤ 4096 := by omega
  have HK := Lib.hid hk; clear hk
  have g119 : (key == 119) = false := by rcases hkey with rfl | rfl | rfl <;> decide
  have g87 : (key == 87) = false := by rcases hkey with rfl | rfl | rfl <;> decide
  have HKEY := Lib.hid hkey
  clear hkey
  go_enter Try.func52, Try.ntmps52
  go_upto_region 3 with fail
  go_cut [37] (fun v wx => v = .bool false ∧ w = wx)
  case first =>
    have := HK.out
    by_cases hk0 : (0 : Int) < (k : Int)
    · have hkn : ¬ (n : Int) ≤ (k : Int) := by omega
      clear this
      go_wp2
      go_meet
      exact ⟨rfl, rfl⟩
    · clear this
      go_wp2
      go_meet
      exact ⟨rfl, rfl⟩
  obtain ⟨rfl, rfl⟩ := hcut
  obtain ⟨wd, hwd⟩ : ∃ wd : Nat, (if around = true then 1 else 0) = wd := ⟨_, rfl⟩
  have hwd1 : wd ≤ 1 := by rcases around with _ | _ <;> simp at hwd <;> omega
  have HWD := Lib.hid hwd
  clear hwd
  go_upto_if 118 with fail
  go_cut [15] (fun v wx => v = .int .i64 (wd : Int) ∧ w = wx)
  case first =>
    have := HWD.out
    rcases around with _ | _
    · have : wd = 0 := by simpa using this.symm
      subst this
      go_wp2
      go_meet
      exact ⟨rfl, rfl⟩
    · have : wd = 1 := by simpa using this.symm
      subst this
      go_wp2
      go_meet
      exact ⟨rfl, rfl⟩
  obtain ⟨rfl, rfl⟩ := hcut
  go_upto_region 19 with fail
  go_cut [128] (fun v wx => v = .bool true ∧ w = wx)
  case first =>
    have := HKEY.out
    rcases this with rfl | rfl | rfl
    all_goals
      go_wp2
      go_meet
      exact ⟨rfl, rfl⟩
  obtain ⟨rfl, rfl⟩ := hcut
  have hI : Ints (w.alloc (.cells #[.int .i64 key] 3)) (some ⟨w.heap.size, 0, none⟩) [key] := .inr ⟨_, 0, rfl, fun i hi => by
    obtain rfl : i = 0 := by simp at hi; exact hi
    exact cell_new1 w _ _⟩
  have hb := below1 w (.cells #[.int .i64 key] 3)
  go_wp2_with fail
  refine (ref_places1 (some ⟨w.heap.size, 0, none⟩) a 1 1 n c [key] l _ hI (ha.below hb) rfl HN.out (by omega) h2 hc hc2 (by omega)).mono ?_
  rintro e w2 ⟨v, rfl, hown, hb2⟩
  have hbb := below_then hb hb.size hb2
  clear hI hb hb2
  rw [Nat.add_sub_cancel] at hown
  obtain ⟨va, vc, rfl, hvc, hvI⟩ := hown.ints
  clear hown
  obtain ⟨P, hP⟩ : ∃ P, placesS [key] l n = P := ⟨_, rfl⟩
  rw [hP] at hvI hvc ⊢
  have HQ := Lib.hid (show QPl l key l.length P by rw [← hP, HN.out]; exact QPl.run l key n (by rw [HN.out]; exact Nat.le_refl _))
  have hPl : P.length ≤ n := by rw [← hP]; exact placesS_length [key] l n
  have HLOW := Lib.hid (show ∀ m, m < P.length → 0 ≤ ix P m ∧ ix P m < n by have := HQ.out.low; rw [HN.out] at this; exact this)
  clear hP
  go_wp2
  go_loopw [17] (fun i wr => ∃ j : Nat, i = .int .i64 (j : Int) ∧ j % 2 = 0 ∧ j ≤ P.length + 1 ∧ (∀ m, 2 * m < j → 2 * m + 1 < P.length → ix P (2 * m + 1) < k) ∧ w2 = wr) (fun i _ => P.length + 2 - (intOf i).toNat)
  case atStart => exact ⟨0, rfl, rfl, by omega, fun m h => by omega, rfl⟩
  case round =>
    obtain ⟨j, rfl, hj2, hj, hno, rfl⟩ := hrel
    have HNO := Lib.hid hno
    clear hno
    by_cases hlt : j + 1 < P.length
    · obtain ⟨b1, o1, rfl, hc0⟩ := hvI.at hlt
      have c1 := hc0 (j + 1) hlt
      have c0 := hc0 j (by omega)
      obtain ⟨l1, l2⟩ := HLOW.out (j + 1) hlt
      obtain ⟨l3, l4⟩ := HLOW.out j (by omega)
      have i1 : (j : Int) + 1 < (P.length : Int) := by omega
      have i2 : ((j : Int) + 1).toNat = j + 1 := by omega
      have i3 : (j : Int) < (P.length : Int) := by omega
      have HJ := Lib.hid (show 2 * (j / 2) = j by omega)
      clear hc0
      by_cases hf : (k : Int) ≤ ix P (j + 1)
      · have HF := Lib.hid (quotes_found (k := k) (m := j / 2) HQ.out (by rw [HJ.out]; exact hlt) (by rw [HJ.out]; exact hf) (fun m' hm' => HNO.out m' (by have := HJ.out; omega) (by have := HJ.out; omega)))
        go_wp2
        go_quiet (fail)
        go_wp2
        go_ret3
        obtain ⟨i, g1, g2, g3, g4, g5⟩ := HF.out
        rw [HJ.out] at g4 g5
        refine ⟨_, _, _, rfl, .inl ⟨i, g1, g2, g3, ?_, ?_, rfl⟩, below_drewN hbb _⟩
        · rw [← g5]; have := HWD.out; rcases around with _ | _ <;> simp at this <;> subst this <;> simp
        · rw [← g4]; have := HWD.out; rcases around with _ | _ <;> simp at this <;> subst this <;> simp
      · have HN2 := Lib.hid (show ∀ m, 2 * m < j + 2 → 2 * m + 1 < P.length → ix P (2 * m + 1) < k by
          intro m h1 h2
          rcases Nat.lt_or_ge (2 * m) j with h | h
          · exact HNO.out m h h2
          · obtain rfl : 2 * m = j := by omega
            omega)
        go_wp2
        go_roundw
        case rel => exact ⟨j + 2, by go_num, by omega, by omega, HN2.out, by first | rfl | trivial⟩
        case measure => simp [intOf]; omega
    · have i1 : ¬ (j : Int) + 1 < (P.length : Int) := by omega
      go_wp2
      go_ret3
      refine ⟨0, 0, 6, rfl, .inr ⟨fun i hi => quotes_no HQ.out (fun m hm => HNO.out m (by omega) hm) i hi, rfl, rfl, rfl⟩, hbb⟩

end Go.Proofs.Ytbgbcmfgncneiaa
