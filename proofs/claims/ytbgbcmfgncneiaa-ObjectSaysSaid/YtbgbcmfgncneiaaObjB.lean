/- Contract of fairref.Object: brackets, other keys; the whole. -/
import Derived.Test.YtbgbcmfgncneiaaObjA
namespace Go.Proofs.Ytbgbcmfgncneiaa
open Go.RowKit
set_option linter.unusedVariables false
set_option linter.unusedSimpArgs false

set_option maxRecDepth 100000 in
set_option maxHeartbeats 1000000 in
theorem ref_object_key (a : Option Addr) (n c : Nat) (k : Nat) (around : Bool) (key : Int) (hw : key ≠ 119) (hW : key ≠ 87) (hq1 : key ≠ 34) (hq2 : key ≠ 39) (hq3 : key ≠ 96) (h0 : openS key = 0) (w : World) (h2 : n ≤ 4096) (hk : k < n ∨ k = 0 ∧ n = 0) :
    Calls Try.prog 52 #[.slice a n c, .int .i64 (k : Int), .bool around, .int .i64 key] w (Out3 (fun x y z => x = 0 ∧ y = 0 ∧ z = 9) w) := by
  have hm : ¬ (k : Int) < 0 := by omega
  have hk4 : (k : Int) ≤ 4096 := by omega
  have HK := Lib.hid hk; clear hk
  have H0 := Lib.hid h0; clear h0
  have b1 : (key == 119) = false := by simpa using hw
  have b2 : (key == 87) = false := by simpa using hW
  have b3 : (key == 34) = false := by simpa using hq1
  have b4 : (key == 39) = false := by simpa using hq2
  have b5 : (key == 96) = false := by simpa using hq3
  clear hw hW hq1 hq2 hq3
  go_enter Try.func52, Try.ntmps52
  go_upto_region 3 with fail
  go_cut [37] (fun v wx => v = .bool false ∧ w = wx)
  case first =>
    have := HK.out
    by_cases hk0 : (0 : Int) < (k : Int)
    · have hkn : ¬ (n : Int) ≤ (k : Int) := by omega
      clear this
      go_wp2
      go_meet
      exact ⟨rfl, rfl⟩
    · clear this
      go_wp2
      go_meet
      exact ⟨rfl, rfl⟩
  obtain ⟨rfl, rfl⟩ := hcut
  obtain ⟨wd, hwd⟩ : ∃ wd : Nat, (if around = true then 1 else 0) = wd := ⟨_, rfl⟩
  have hwd1 : wd ≤ 1 := by rcases around with _ | _ <;> simp at hwd <;> omega
  have HWD := Lib.hid hwd
  clear hwd
  go_upto_if 118 with fail
  go_cut [15] (fun v wx => v = .int .i64 (wd : Int) ∧ w = wx)
  case first =>
    have := HWD.out
    rcases around with _ | _
    · have : wd = 0 := by simpa using this.symm
      subst this
      go_wp2
      go_meet
      exact ⟨rfl, rfl⟩
    · have : wd = 1 := by simpa using this.symm
      subst this
      go_wp2
      go_meet
      exact ⟨rfl, rfl⟩
  obtain ⟨rfl, rfl⟩ := hcut
  go_wp2_with fail
  refine (ref_bracket key _).mono ?_
  rintro e w2 ⟨rfl, hb2⟩
  rw [H0.out]
  obtain ⟨cl, hcl⟩ : ∃ cl, closeS key = cl := ⟨_, rfl⟩
  rw [hcl]
  clear hcl
  go_wp2
  go_ret3
  exact ⟨0, 0, 9, rfl, ⟨rfl, rfl, rfl⟩, hb2⟩

def BestP (l ps : List Int) (k : Nat) (o : Int) (i : Nat) (b : Int) : Prop :=
  (b = -1 ∧ ∀ j, j < i → j ≤ k → ¬ BFound l ps k o j) ∨ (∃ t : Nat, b = t ∧ t < i ∧ t ≤ k ∧ BFound l ps k o t ∧ ∀ j, t < j → j < i → j ≤ k → ¬ BFound l ps k o j)
theorem BestP.skip {l ps : List Int} {k : Nat} {o : Int} {i : Nat} {b : Int} (h : BestP l ps k o i b) (hn : i ≤ k → ¬ BFound l ps k o i) : BestP l ps k o (i + 1) b := by
  rcases h with ⟨h1, h2⟩ | ⟨t, h1, h2, h3, h4, h5⟩
  · refine .inl ⟨h1, fun j hj hk => ?_⟩
    rcases Nat.lt_succ_iff_lt_or_eq.1 hj with h | rfl
    · exact h2 j h hk
    · exact hn hk
  · refine .inr ⟨t, h1, by omega, h3, h4, fun j h6 hj hk => ?_⟩
    rcases Nat.lt_succ_iff_lt_or_eq.1 hj with h | rfl
    · exact h5 j h6 h hk
    · exact hn hk
theorem BestP.hit {l ps : List Int} {k : Nat} {o : Int} {i : Nat} (hk : i ≤ k) (hf : BFound l ps k o i) : BestP l ps k o (i + 1) (i : Int) :=
  .inr ⟨i, rfl, by omega, hk, hf, fun j h1 h2 h3 => by omega⟩
theorem BestP.range {l ps : List Int} {k : Nat} {o : Int} {i : Nat} {b : Int} (h : BestP l ps k o i b) : -1 ≤ b ∧ b < i := by
  rcases h with ⟨h1, h2⟩ | ⟨t, h1, h2, h3, h4, h5⟩
  · omega
  · omega

set_option maxRecDepth 100000 in
set_option maxHeartbeats 2000000 in
theorem ref_object_b (a : Option Addr) (n c : Nat) (l ps : List Int) (hps : (pRun l n n).out = ps) (k : Nat) (around : Bool) (key o : Int) (hw : key ≠ 119) (hW : key ≠ 87) (hq1 : key ≠ 34) (hq2 : key ≠ 39) (hq3 : key ≠ 96) (hkey : openS key = o) (h0 : o ≠ 0) (w : World) (ha : Ints w a l) (hn : l.length = n) (h2 : n ≤ 4096) (hk : k < n ∨ k = 0 ∧ n = 0) :
    Calls Try.prog 52 #[.slice a n c, .int .i64 (k : Int), .bool around, .int .i64 key] w (Out3 (BracketsP l ps k around o) w) := by
  have HN := Lib.hid hn; clear hn
  have HPS := Lib.hid hps; clear hps
  have HPP := Lib.hid (show ∀ i, i < n → PartnerP l n i (ix ps i) from fun i hi => by rw [← HPS.out]; exact pairs_partner l n i hi)
  have HPR := Lib.hid (show ∀ i, i < n → -1 ≤ ix ps i ∧ ix ps i < n from fun i hi => partner_range (HPP.out i hi) hi)
  have hm : ¬ (k : Int) < 0 := by omega
  have hk4 : (k : Int) ≤ 4096 := by omega
  have HK := Lib.hid hk; clear hk
  have HO := Lib.hid hkey; clear hkey
  have b1 : (key == 119) = false := by simpa using hw
  have b2 : (key == 87) = false := by simpa using hW
  have b3 : (key == 34) = false := by simpa using hq1
  have b4 : (key == 39) = false := by simpa using hq2
  have b5 : (key == 96) = false := by simpa using hq3
  have b6 : (o == 0) = false := by simpa using h0
  clear hw hW hq1 hq2 hq3 h0
  go_enter Try.func52, Try.ntmps52
  go_upto_region 3 with fail
  go_cut [37] (fun v wx => v = .bool false ∧ w = wx)
  case first =>
    have := HK.out
    by_cases hk0 : (0 : Int) < (k : Int)
    · have hkn : ¬ (n : Int) ≤ (k : Int) := by omega
      clear this
      go_wp2
      go_meet
      exact ⟨rfl, rfl⟩
    · clear this
      go_wp2
      go_meet
      exact ⟨rfl, rfl⟩
  obtain ⟨rfl, rfl⟩ := hcut
  obtain ⟨wd, hwd⟩ : ∃ wd : Nat, (if around = true then 1 else 0) = wd := ⟨_, rfl⟩
  have hwd1 : wd ≤ 1 := by rcases around with _ | _ <;> simp at hwd <;> omega
  have HWD := Lib.hid hwd
  clear hwd
  go_upto_if 118 with fail
  go_cut [15] (fun v wx => v = .int .i64 (wd : Int) ∧ w = wx)
  case first =>
    have := HWD.out
    rcases around with _ | _
    · have : wd = 0 := by simpa using this.symm
      subst this
      go_wp2
      go_meet
      exact ⟨rfl, rfl⟩
    · have : wd = 1 := by simpa using this.symm
      subst this
      go_wp2
      go_meet
      exact ⟨rfl, rfl⟩
  obtain ⟨rfl, rfl⟩ := hcut
  go_wp2_with fail
  refine (ref_bracket key _).mono ?_
  rintro e w2 ⟨rfl, hb2⟩
  rw [HO.out]
  obtain ⟨cl, hcl⟩ : ∃ cl, closeS key = cl := ⟨_, rfl⟩
  rw [hcl]
  clear hcl
  go_wp2
  go_loopw [170, 20] (fun v u wr => ∃ (i : Nat) (b : Int), v = .int .i64 (i : Int) ∧ u = .int .i64 b ∧ i ≤ n ∧ BestP l ps k o i b ∧ Below w.heap.size w wr) (fun v _ _ => n - (intOf v).toNat)
  case atStart => exact ⟨0, -1, rfl, rfl, by omega, .inl ⟨rfl, fun j hj => by omega⟩, hb2⟩
  case round =>
    obtain ⟨i, b, rfl, rfl, hi, hbest, hbr⟩ := hrel
    obtain ⟨br0, br1⟩ := hbest.range
    have HB := Lib.hid hbest
    clear hbest
    have har := ha.below hbr
    by_cases hlt : i < n
    · obtain ⟨b1, o1, rfl, hc0⟩ := har.at (k := i) (by rw [HN.out]; exact hlt)
      have ck := hc0 i (by rw [HN.out]; exact hlt)
      have ii : (i : Int) < (n : Int) := by omega
      clear hc0
      by_cases hq : ix l i = o
      · have g1 : (ix l i == o) = true := by simpa using hq
        by_cases hik : i ≤ k
        · have hik2 : (i : Int) ≤ (k : Int) := by omega
          obtain ⟨p, hp⟩ : ∃ p, ix ps i = p := ⟨_, rfl⟩
          have HP := Lib.hid hp
          obtain ⟨pr0, pr1⟩ := HPR.out i hlt
          rw [hp] at pr0 pr1
          clear hp
          have HQ := Lib.hid hq
          clear hq
          go_wp2_with fail
          refine (ref_partner _ n c l i _ har HN.out h2 hlt).mono ?_
          rintro e w5 ⟨r, rfl, hr, hb5⟩
          obtain rfl : p = r := by rw [← HP.out]; exact (HPP.out i hlt).one hr
          clear hr
          have hb6 := below_then hbr hbr.size hb5
          by_cases hkp : (k : Int) ≤ p
          · have HF := Lib.hid (show BFound l ps k o i from ⟨HQ.out, by rw [HP.out]; exact hkp⟩)
            go_wp2
            go_roundw
            case rel => exact ⟨i + 1, (i : Int), by go_num, rfl, by omega, BestP.hit hik HF.out, hb6⟩
            case measure => simp [intOf]; omega
          · have HF := Lib.hid (show ¬ BFound l ps k o i from fun h => by have := h.2; rw [HP.out] at this; exact hkp this)
            go_wp2
            go_roundw
            case rel => exact ⟨i + 1, b, by go_num, rfl, by omega, HB.out.skip (fun _ => HF.out), hb6⟩
            case measure => simp [intOf]; omega
        · have hik2 : ¬ (i : Int) ≤ (k : Int) := by omega
          go_wp2
          go_roundw
          case rel => exact ⟨i + 1, b, by go_num, rfl, by omega, HB.out.skip (fun h => absurd h hik), hbr⟩
          case measure => simp [intOf]; omega
      · have g1 : (ix l i == o) = false := by simpa using hq
        have HQ := Lib.hid hq
        clear hq
        go_wp2
        go_roundw
        case rel => exact ⟨i + 1, b, by go_num, rfl, by omega, HB.out.skip (fun _ h => HQ.out h.1), hbr⟩
        case measure => simp [intOf]; omega
    · obtain rfl : n = i := by omega
      by_cases hneg : b < 0
      · have HNO := Lib.hid (show ∀ j, j < l.length → j ≤ k → ¬ BFound l ps k o j by
          rcases HB.out with ⟨_, h⟩ | ⟨t, h, _⟩
          · rw [HN.out]; exact h
          · omega)
        go_wp2
        go_ret3
        exact ⟨0, 0, 6, rfl, .inr ⟨HNO.out, rfl, rfl, rfl⟩, hbr⟩
      · obtain ⟨t, rfl, htn⟩ : ∃ t : Nat, b = t ∧ t < n := ⟨b.toNat, by omega, by omega⟩
        have HF := Lib.hid (show t ≤ k ∧ BFound l ps k o t ∧ ∀ j, t < j → j ≤ k → j < l.length → ¬ BFound l ps k o j by
          rcases HB.out with ⟨h, _⟩ | ⟨t', h1, h2, h3, h4, h5⟩
          · omega
          · obtain rfl : t = t' := by omega
            exact ⟨h3, h4, fun j h6 h7 h8 => h5 j h6 (by rw [HN.out] at h8; exact h8) h7⟩)
        obtain ⟨p, hp⟩ : ∃ p, ix ps t = p := ⟨_, rfl⟩
        have HP := Lib.hid hp
        obtain ⟨pr0, pr1⟩ := HPR.out t htn
        rw [hp] at pr0 pr1
        clear hp
        go_wp2_with fail
        refine (ref_partner _ n c l t _ har HN.out h2 htn).mono ?_
        rintro e w5 ⟨r, rfl, hr, hb5⟩
        obtain rfl : p = r := by rw [← HP.out]; exact (HPP.out t htn).one hr
        clear hr
        have hb6 := below_then hbr hbr.size hb5
        go_wp2
        go_ret3
        refine ⟨_, _, _, rfl, .inl ⟨t, by rw [HN.out]; exact htn, HF.out.1, HF.out.2.1, HF.out.2.2, ?_, ?_, rfl⟩, hb6⟩
        · have := HWD.out; rcases around with _ | _ <;> simp at this <;> subst this <;> simp
        · rw [HP.out]; have := HWD.out; rcases around with _ | _ <;> simp at this <;> subst this <;> simp

/-- fairref.Object at a place of the line -/
theorem ref_object_in (a : Option Addr) (n c : Nat) (l : List Int) (k : Nat) (around : Bool) (key : Int) (w : World) (ha : Ints w a l) (hn : l.length = n) (h2 : n ≤ 4096) (hc : n ≤ c) (hc2 : c ≤ 9223372036854775807) (hk : k < n ∨ k = 0 ∧ n = 0) :
    Calls Try.prog 52 #[.slice a n c, .int .i64 (k : Int), .bool around, .int .i64 key] w (Out3 (OfP l (pRun l n n).out around k key) w) := by
  have fin : ∀ (P Q : Int → Int → Int → Prop), (∀ x y z, P x y z → Q x y z) → ∀ e w', Out3 P w e w' → Out3 Q w e w' := by
    rintro P Q hPQ e w' ⟨x, y, z, he, hP, hb⟩
    exact ⟨x, y, z, he, hPQ x y z hP, hb⟩
  have words : ∀ (big : Bool) (key : Int), (key = if big = true then 87 else 119) → Calls Try.prog 52 #[.slice a n c, .int .i64 (k : Int), .bool around, .int .i64 key] w (Out3 (OfWP l around k big) w) := by
    intro big key hkey
    by_cases hn0 : n = 0
    · subst hn0
      obtain rfl : k = 0 := by omega
      exact ref_object_w0 a c l big around key hkey w hn
    · have hk' : k < n := by omega
      rcases around with _ | _
      · exact ref_object_wF a n c l k big key hkey w ha hn h2 hk'
      · rcases big with _ | _ <;> simp at hkey <;> subst hkey
        · exact ref_object_wTF a n c l k w ha hn h2 hk'
        · exact ref_object_wTT a n c l k w ha hn h2 hk'
  by_cases h1 : key = 119
  · exact (words false key (by simpa using h1)).mono (fin _ _ fun x y z h => by unfold OfP; rw [if_pos h1]; exact h)
  · by_cases h3 : key = 87
    · exact (words true key (by simpa using h3)).mono (fin _ _ fun x y z h => by unfold OfP; rw [if_neg h1, if_pos h3]; exact h)
    · by_cases h4 : key = 34 ∨ key = 39 ∨ key = 96
      · exact (ref_object_q a n c l k around key h4 w ha hn h2 hc hc2 hk).mono (fin _ _ fun x y z h => by unfold OfP; rw [if_neg h1, if_neg h3, if_pos h4]; exact h)
      · by_cases h5 : openS key = 0
        · exact (ref_object_key a n c k around key h1 h3 (fun h => h4 (.inl h)) (fun h => h4 (.inr (.inl h))) (fun h => h4 (.inr (.inr h))) h5 w h2 hk).mono (fin _ _ fun x y z h => by unfold OfP; rw [if_neg h1, if_neg h3, if_neg h4, if_pos h5]; exact h)
        · exact (ref_object_b a n c l _ rfl k around key _ h1 h3 (fun h => h4 (.inl h)) (fun h => h4 (.inr (.inl h))) (fun h => h4 (.inr (.inr h))) rfl h5 w ha hn h2 hk).mono (fin _ _ fun x y z h => by unfold OfP; rw [if_neg h1, if_neg h3, if_neg h4, if_neg h5]; exact h)

end Go.Proofs.Ytbgbcmfgncneiaa
