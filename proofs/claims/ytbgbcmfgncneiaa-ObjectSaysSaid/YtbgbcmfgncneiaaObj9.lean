/- Contract of fairref.Object: what is refused, and the words. -/
import Derived.Test.YtbgbcmfgncneiaaObj8
import Derived.Test.YtbgbcmfgncneiaaPlaces
namespace Go.Proofs.Ytbgbcmfgncneiaa
open Go.RowKit
set_option linter.unusedVariables false
set_option linter.unusedSimpArgs false

set_option maxRecDepth 100000 in
theorem ref_object_large (a : Option Addr) (n c : Nat) (k key : Int) (around : Bool) (w : World) (h2 : 4096 < n) (h3 : n ≤ 9223372036854775807) :
    Calls Try.prog 52 #[.slice a n c, .int .i64 k, .bool around, .int .i64 key] w (Out3 (fun x y z => x = 0 ∧ y = 0 ∧ z = 2) w) := by
  go_enter Try.func52, Try.ntmps52
  go_wp2
  go_ret3
  exact ⟨0, 0, 2, rfl, ⟨rfl, rfl, rfl⟩, Below.refl _ _⟩
set_option maxRecDepth 100000 in
theorem ref_object_arg (a : Option Addr) (n c : Nat) (k key : Int) (around : Bool) (w : World) (h2 : n ≤ 4096) (hk : k < 0 ∨ (0 < k ∧ (n : Int) ≤ k)) :
    Calls Try.prog 52 #[.slice a n c, .int .i64 k, .bool around, .int .i64 key] w (Out3 (fun x y z => x = 0 ∧ y = 0 ∧ z = 1) w) := by
  rcases hk with hk | ⟨hk, hk2⟩
  · go_enter Try.func52, Try.ntmps52
    go_wp2
    go_ret3
    exact ⟨0, 0, 1, rfl, ⟨rfl, rfl, rfl⟩, Below.refl _ _⟩
  · have h0 : ¬ k < 0 := by omega
    go_enter Try.func52, Try.ntmps52
    go_wp2
    go_ret3
    exact ⟨0, 0, 1, rfl, ⟨rfl, rfl, rfl⟩, Below.refl _ _⟩

set_option maxRecDepth 100000 in
theorem ref_object_w0 (a : Option Addr) (c : Nat) (l : List Int) (big around : Bool) (key : Int) (hkey : key = if big = true then 87 else 119) (w : World) (hn : l.length = 0) :
    Calls Try.prog 52 #[.slice a 0 c, .int .i64 ((0 : Nat) : Int), .bool around, .int .i64 key] w (Out3 (OfWP l around 0 big) w) := by
  have HN := Lib.hid hn; clear hn
  rcases big with _ | _
  all_goals
    simp at hkey
    subst hkey
    go_enter Try.func52, Try.ntmps52
    go_wp2
    go_ret3
    exact ⟨0, 0, 6, rfl, .inl ⟨HN.out, rfl, rfl, rfl⟩, Below.refl _ _⟩

set_option maxRecDepth 100000 in
set_option maxHeartbeats 2000000 in
theorem ref_object_wF (a : Option Addr) (n c : Nat) (l : List Int) (k : Nat) (big : Bool) (key : Int) (hkey : key = if big = true then 87 else 119) (w : World) (ha : Ints w a l) (hn : l.length = n) (h2 : n ≤ 4096) (hk : k < n) :
    Calls Try.prog 52 #[.slice a n c, .int .i64 (k : Int), .bool false, .int .i64 key] w (Out3 (OfWP l false k big) w) := by
  have HN := Lib.hid hn; clear hn
  have hm : ¬ (k : Int) < 0 := by omega
  have hk1 : ¬ ((n : Int) ≤ (k : Int)) := by omega
  have hn1 : ((n : Int) == 0) = false := by simp; omega
  have ik : (k : Int) < (n : Int) := by omega
  rcases big with _ | _
  all_goals
    simp at hkey
    subst hkey
    go_enter Try.func52, Try.ntmps52
    go_upto_region 3 with fail
    go_cut [37] (fun v wx => v = .bool false ∧ w = wx)
    case first =>
      by_cases hk0 : (0 : Int) < (k : Int)
      all_goals
        go_wp2
        go_meet
        exact ⟨rfl, rfl⟩
    obtain ⟨rfl, rfl⟩ := hcut
    go_wp2_with fail
    refine (ref_runOf a n c l _ k _ ha HN.out h2 hk).mono ?_
    rintro e w2 ⟨f, t, rfl, hR, hb2⟩
    have htl := hR.len
    have HR := Lib.hid hR
    clear hR
    have ha2 := ha.below hb2
    obtain ⟨b1, o1, rfl, hc0⟩ := ha2.at (k := k) (by rw [HN.out]; exact hk)
    have ck := hc0 k (by rw [HN.out]; exact hk)
    clear hc0
    go_wp2_with fail
    refine (ref_kindOf (ix l k) _ _).mono ?_
    rintro e w' ⟨rfl, rfl⟩
    go_wp2
    go_ret3
    exact ⟨f, t, 0, rfl, .inr ⟨by rw [HN.out]; omega, rfl, f, t, rfl, rfl, f, t, HR.out, by simp⟩, hb2⟩

set_option maxRecDepth 100000 in
set_option maxHeartbeats 4000000 in
theorem ref_object_wTF (a : Option Addr) (n c : Nat) (l : List Int) (k : Nat) (w : World) (ha : Ints w a l) (hn : l.length = n) (h2 : n ≤ 4096) (hk : k < n) :
    Calls Try.prog 52 #[.slice a n c, .int .i64 (k : Int), .bool true, .int .i64 119] w (Out3 (OfWP l true k false) w) := by
  have HN := Lib.hid hn; clear hn
  have hm : ¬ (k : Int) < 0 := by omega
  have hk1 : ¬ ((n : Int) ≤ (k : Int)) := by omega
  have hn1 : ((n : Int) == 0) = false := by simp; omega
  have ik : (k : Int) < (n : Int) := by omega
  have hn0 : 0 < n := by omega
  go_enter Try.func52, Try.ntmps52
  go_upto_region 3 with fail
  go_cut [37] (fun v wx => v = .bool false ∧ w = wx)
  case first =>
    by_cases hk0 : (0 : Int) < (k : Int)
    all_goals
      go_wp2
      go_meet
      exact ⟨rfl, rfl⟩
  obtain ⟨rfl, rfl⟩ := hcut
  go_wp2_with fail
  refine (ref_runOf a n c l _ k _ ha HN.out h2 hk).mono ?_
  rintro e w3 ⟨f, t, rfl, hR, hb3⟩
  have htl := hR.len
  have hfk := hR.lo
  have HR := Lib.hid hR
  clear hR
  have ha3 := ha.below hb3
  obtain ⟨b1, o1, rfl, hc0⟩ := ha3.at (k := k) (by rw [HN.out]; exact hk)
  have HC := Lib.hid (show ∀ i, i < n → w3.cell? ⟨b1, o1 + i, none⟩ = some (.int .i64 (ix l i)) from fun i hi => hc0 i (by rw [HN.out]; exact hi))
  have ck := HC.out k hk
  clear hc0
  go_wp2_with fail
  refine (ref_kindOf (ix l k) _ _).mono ?_
  rintro e w' ⟨rfl, rfl⟩
  obtain ⟨bl, hbl⟩ : ∃ bl : Bool, (kindS (ix l k) false == 0) = bl := ⟨_, rfl⟩
  have HBL := Lib.hid hbl
  have htn : t ≤ n := by rw [HN.out] at htl; exact htl
  clear htl
  go_upto_region 11 with fail
  obtain ⟨C1, hC1⟩ : ∃ C1 : Bool, C1 = decide (t < n ∧ (kindS (ix l k) false = 0 ∨ kindS (ix l t) false = 0)) := ⟨_, rfl⟩
  have HC1 := Lib.hid hC1
  clear hC1
  obtain ⟨W3, hW3⟩ : ∃ W3, W3 = w3 := ⟨_, rfl⟩
  go_cut [81] (fun v wx => v = .bool C1 ∧ wx = W3)
  case first =>
    by_cases hlt : t < n
    · have i1 : (t : Int) < (n : Int) := by omega
      rcases bl with _ | _
      · have hbk : kindS (ix l k) false ≠ 0 := by simpa using hbl
        have cj := HC.out t hlt
        clear hbl
        go_wp2_with fail
        refine (ref_kindOf (ix l t) false _).mono ?_
        rintro e w' ⟨rfl, rfl⟩
        by_cases hkt : kindS (ix l t) false = 0
        · have hb1 : C1 = true := by rw [HC1.out]; simp [hlt, hkt]
          rw [hkt]
          go_wp2
          go_meet
          exact ⟨by rw [hb1], hW3.symm⟩
        · have hb1 : C1 = false := by rw [HC1.out]; simp [hlt, hkt, hbk]
          have g1' : (kindS (ix l t) false == 0) = false := by simpa using hkt
          clear hkt
          go_wp2
          go_meet
          exact ⟨by rw [hb1], hW3.symm⟩
      · have hbk : kindS (ix l k) false = 0 := by simpa using hbl
        have hb1 : C1 = true := by rw [HC1.out]; simp [hlt, hbk]
        clear hbl hbk
        go_wp2
        go_meet
        exact ⟨by rw [hb1], hW3.symm⟩
    · have hb1 : C1 = false := by rw [HC1.out]; simp [hlt]
      clear hbl
      go_wp2
      go_meet
      exact ⟨by rw [hb1], hW3.symm⟩
  obtain ⟨rfl, hw⟩ := hcut
  obtain rfl : w3 = wc := (hw.trans hW3).symm
  clear hw hW3 hbl
  rcases hC1 : C1 with _ | _
  · have HNC := Lib.hid (show ¬ (t < n ∧ (kindS (ix l k) false = 0 ∨ kindS (ix l t) false = 0)) by have := HC1.out; rw [hC1] at this; simpa using this.symm)
    subst hC1
    go_upto_region 13 with fail
    obtain ⟨C2, hC2⟩ : ∃ C2 : Bool, C2 = decide (kindS (ix l k) false ≠ 0 ∧ 0 < f ∧ kindS (ix l (f - 1)) false = 0) := ⟨_, rfl⟩
    have HC2 := Lib.hid hC2
    clear hC2
    obtain ⟨W3, hW3⟩ : ∃ W3, W3 = w3 := ⟨_, rfl⟩
    go_cut [107] (fun v wx => v = .bool C2 ∧ wx = W3)
    case first =>
      have hbl := HBL.out
      rcases bl with _ | _
      · have hbk : kindS (ix l k) false ≠ 0 := by simpa using hbl
        clear hbl
        by_cases hf0 : f = 0
        · subst hf0
          have hb1 : C2 = false := by rw [HC2.out]; simp
          go_wp2
          go_meet
          exact ⟨by rw [hb1], hW3.symm⟩
        · have cj := HC.out (f - 1) (by omega)
          have i1 : (0 : Int) < (f : Int) := by omega
          have i2 : ((f : Int) - 1).toNat = f - 1 := by omega
          have i3 : (0 : Int) ≤ (f : Int) - 1 := by omega
          have i4 : (f : Int) - 1 < (n : Int) := by omega
          go_wp2_with fail
          refine (ref_kindOf (ix l (f - 1)) false _).mono ?_
          rintro e w' ⟨rfl, rfl⟩
          by_cases hkt : kindS (ix l (f - 1)) false = 0
          · have hb1 : C2 = true := by rw [HC2.out]; simp [hkt, hbk]; omega
            rw [hkt]
            go_wp2
            go_meet
            exact ⟨by rw [hb1], hW3.symm⟩
          · have hb1 : C2 = false := by rw [HC2.out]; simp [hkt]
            have g1' : (kindS (ix l (f - 1)) false == 0) = false := by simpa using hkt
            clear hkt
            go_wp2
            go_meet
            exact ⟨by rw [hb1], hW3.symm⟩
      · have hbk : kindS (ix l k) false = 0 := by simpa using hbl
        have hb1 : C2 = false := by rw [HC2.out]; simp [hbk]
        clear hbl hbk
        go_wp2
        go_meet
        exact ⟨by rw [hb1], hW3.symm⟩
    obtain ⟨rfl, hw⟩ := hcut
    obtain rfl : w3 = wc := (hw.trans hW3).symm
    clear hw hW3
    rcases hC2 : C2 with _ | _
    · have HND := Lib.hid (show ¬ (kindS (ix l k) false ≠ 0 ∧ 0 < f ∧ kindS (ix l (f - 1)) false = 0) by have := HC2.out; rw [hC2] at this; simpa using this.symm)
      subst hC2
      go_wp2
      go_ret3
      exact ⟨f, t, 0, rfl, .inr ⟨by rw [HN.out]; exact hn0, rfl, f, t, rfl, rfl, f, t, HR.out, by rw [if_neg (by rw [HN.out]; intro h; exact HNC.out h.2), if_neg (by intro h; exact HND.out h.2)]; exact ⟨rfl, rfl⟩⟩, hb3⟩
    · have HND := Lib.hid (show (kindS (ix l k) false ≠ 0 ∧ 0 < f ∧ kindS (ix l (f - 1)) false = 0) by have := HC2.out; rw [hC2] at this; simpa using this.symm)
      subst hC2
      have hf0 := HND.out.2.1
      have i5 : (f : Int) - 1 = ((f - 1 : Nat) : Int) := by omega
      go_wp2_with fail
      try rw [i5]
      refine (ref_runOf (some ⟨b1, o1, none⟩) n c l false (f - 1) _ ha3 HN.out h2 (by omega)).mono ?_
      rintro e w5 ⟨f1, t1, rfl, hR5, hb5⟩
      have HR5 := Lib.hid hR5
      clear hR5
      have hb6 := below_then hb3 hb3.size hb5
      go_wp2
      go_ret3
      exact ⟨f1, t, 0, rfl, .inr ⟨by rw [HN.out]; exact hn0, rfl, f1, t, rfl, rfl, f, t, HR.out, by rw [if_neg (by rw [HN.out]; intro h; exact HNC.out h.2), if_pos ⟨rfl, HND.out⟩]; exact ⟨rfl, _, HR5.out⟩⟩, hb6⟩
  · have HYC := Lib.hid (show (t < n ∧ (kindS (ix l k) false = 0 ∨ kindS (ix l t) false = 0)) by have := HC1.out; rw [hC1] at this; simpa using this.symm)
    subst hC1
    have htn' := HYC.out.1
    go_wp2_with fail
    refine (ref_runOf (some ⟨b1, o1, none⟩) n c l false t _ ha3 HN.out h2 htn').mono ?_
    rintro e w5 ⟨f1, t1, rfl, hR5, hb5⟩
    have HR5 := Lib.hid hR5
    clear hR5
    have hb6 := below_then hb3 hb3.size hb5
    go_wp2
    go_ret3
    exact ⟨f, t1, 0, rfl, .inr ⟨by rw [HN.out]; exact hn0, rfl, f, t1, rfl, rfl, f, t, HR.out, by rw [if_pos (by rw [HN.out]; exact ⟨rfl, HYC.out⟩)]; exact ⟨rfl, _, HR5.out⟩⟩, hb6⟩

set_option maxRecDepth 100000 in
set_option maxHeartbeats 4000000 in
theorem ref_object_wTT (a : Option Addr) (n c : Nat) (l : List Int) (k : Nat) (w : World) (ha : Ints w a l) (hn : l.length = n) (h2 : n ≤ 4096) (hk : k < n) :
    Calls Try.prog 52 #[.slice a n c, .int .i64 (k : Int), .bool true, .int .i64 87] w (Out3 (OfWP l true k true) w) := by
  have HN := Lib.hid hn; clear hn
  have hm : ¬ (k : Int) < 0 := by omega
  have hk1 : ¬ ((n : Int) ≤ (k : Int)) := by omega
  have hn1 : ((n : Int) == 0) = false := by simp; omega
  have ik : (k : Int) < (n : Int) := by omega
  have hn0 : 0 < n := by omega
  go_enter Try.func52, Try.ntmps52
  go_upto_region 3 with fail
  go_cut [37] (fun v wx => v = .bool false ∧ w = wx)
  case first =>
    by_cases hk0 : (0 : Int) < (k : Int)
    all_goals
      go_wp2
      go_meet
      exact ⟨rfl, rfl⟩
  obtain ⟨rfl, rfl⟩ := hcut
  go_wp2_with fail
  refine (ref_runOf a n c l _ k _ ha HN.out h2 hk).mono ?_
  rintro e w3 ⟨f, t, rfl, hR, hb3⟩
  have htl := hR.len
  have hfk := hR.lo
  have HR := Lib.hid hR
  clear hR
  have ha3 := ha.below hb3
  obtain ⟨b1, o1, rfl, hc0⟩ := ha3.at (k := k) (by rw [HN.out]; exact hk)
  have HC := Lib.hid (show ∀ i, i < n → w3.cell? ⟨b1, o1 + i, none⟩ = some (.int .i64 (ix l i)) from fun i hi => hc0 i (by rw [HN.out]; exact hi))
  have ck := HC.out k hk
  clear hc0
  go_wp2_with fail
  refine (ref_kindOf (ix l k) _ _).mono ?_
  rintro e w' ⟨rfl, rfl⟩
  obtain ⟨bl, hbl⟩ : ∃ bl : Bool, (kindS (ix l k) true == 0) = bl := ⟨_, rfl⟩
  have HBL := Lib.hid hbl
  have htn : t ≤ n := by rw [HN.out] at htl; exact htl
  clear htl
  go_upto_region 11 with fail
  obtain ⟨C1, hC1⟩ : ∃ C1 : Bool, C1 = decide (t < n ∧ (kindS (ix l k) true = 0 ∨ kindS (ix l t) true = 0)) := ⟨_, rfl⟩
  have HC1 := Lib.hid hC1
  clear hC1
  obtain ⟨W3, hW3⟩ : ∃ W3, W3 = w3 := ⟨_, rfl⟩
  go_cut [81] (fun v wx => v = .bool C1 ∧ wx = W3)
  case first =>
    by_cases hlt : t < n
    · have i1 : (t : Int) < (n : Int) := by omega
      rcases bl with _ | _
      · have hbk : kindS (ix l k) true ≠ 0 := by simpa using hbl
        have cj := HC.out t hlt
        clear hbl
        go_wp2_with fail
        refine (ref_kindOf (ix l t) true _).mono ?_
        rintro e w' ⟨rfl, rfl⟩
        by_cases hkt : kindS (ix l t) true = 0
        · have hb1 : C1 = true := by rw [HC1.out]; simp [hlt, hkt]
          rw [hkt]
          go_wp2
          go_meet
          exact ⟨by rw [hb1], hW3.symm⟩
        · have hb1 : C1 = false := by rw [HC1.out]; simp [hlt, hkt, hbk]
          have g1' : (kindS (ix l t) true == 0) = false := by simpa using hkt
          clear hkt
          go_wp2
          go_meet
          exact ⟨by rw [hb1], hW3.symm⟩
      · have hbk : kindS (ix l k) true = 0 := by simpa using hbl
        have hb1 : C1 = true := by rw [HC1.out]; simp [hlt, hbk]
        clear hbl hbk
        go_wp2
        go_meet
        exact ⟨by rw [hb1], hW3.symm⟩
    · have hb1 : C1 = false := by rw [HC1.out]; simp [hlt]
      clear hbl
      go_wp2
      go_meet
      exact ⟨by rw [hb1], hW3.symm⟩
  obtain ⟨rfl, hw⟩ := hcut
  obtain rfl : w3 = wc := (hw.trans hW3).symm
  clear hw hW3 hbl
  rcases hC1 : C1 with _ | _
  · have HNC := Lib.hid (show ¬ (t < n ∧ (kindS (ix l k) true = 0 ∨ kindS (ix l t) true = 0)) by have := HC1.out; rw [hC1] at this; simpa using this.symm)
    subst hC1
    go_upto_region 13 with fail
    obtain ⟨C2, hC2⟩ : ∃ C2 : Bool, C2 = decide (kindS (ix l k) true ≠ 0 ∧ 0 < f ∧ kindS (ix l (f - 1)) true = 0) := ⟨_, rfl⟩
    have HC2 := Lib.hid hC2
    clear hC2
    obtain ⟨W3, hW3⟩ : ∃ W3, W3 = w3 := ⟨_, rfl⟩
    go_cut [107] (fun v wx => v = .bool C2 ∧ wx = W3)
    case first =>
      have hbl := HBL.out
      rcases bl with _ | _
      · have hbk : kindS (ix l k) true ≠ 0 := by simpa using hbl
        clear hbl
        by_cases hf0 : f = 0
        · subst hf0
          have hb1 : C2 = false := by rw [HC2.out]; simp
          go_wp2
          go_meet
          exact ⟨by rw [hb1], hW3.symm⟩
        · have cj := HC.out (f - 1) (by omega)
          have i1 : (0 : Int) < (f : Int) := by omega
          have i2 : ((f : Int) - 1).toNat = f - 1 := by omega
          have i3 : (0 : Int) ≤ (f : Int) - 1 := by omega
          have i4 : (f : Int) - 1 < (n : Int) := by omega
          go_wp2_with fail
          refine (ref_kindOf (ix l (f - 1)) true _).mono ?_
          rintro e w' ⟨rfl, rfl⟩
          by_cases hkt : kindS (ix l (f - 1)) true = 0
          · have hb1 : C2 = true := by rw [HC2.out]; simp [hkt, hbk]; omega
            rw [hkt]
            go_wp2
            go_meet
            exact ⟨by rw [hb1], hW3.symm⟩
          · have hb1 : C2 = false := by rw [HC2.out]; simp [hkt]
            have g1' : (kindS (ix l (f - 1)) true == 0) = false := by simpa using hkt
            clear hkt
            go_wp2
            go_meet
            exact ⟨by rw [hb1], hW3.symm⟩
      · have hbk : kindS (ix l k) true = 0 := by simpa using hbl
        have hb1 : C2 = false := by rw [HC2.out]; simp [hbk]
        clear hbl hbk
        go_wp2
        go_meet
        exact ⟨by rw [hb1], hW3.symm⟩
    obtain ⟨rfl, hw⟩ := hcut
    obtain rfl : w3 = wc := (hw.trans hW3).symm
    clear hw hW3
    rcases hC2 : C2 with _ | _
    · have HND := Lib.hid (show ¬ (kindS (ix l k) true ≠ 0 ∧ 0 < f ∧ kindS (ix l (f - 1)) true = 0) by have := HC2.out; rw [hC2] at this; simpa using this.symm)
      subst hC2
      go_wp2
      go_ret3
      exact ⟨f, t, 0, rfl, .inr ⟨by rw [HN.out]; exact hn0, rfl, f, t, rfl, rfl, f, t, HR.out, by rw [if_neg (by rw [HN.out]; intro h; exact HNC.out h.2), if_neg (by intro h; exact HND.out h.2)]; exact ⟨rfl, rfl⟩⟩, hb3⟩
    · have HND := Lib.hid (show (kindS (ix l k) true ≠ 0 ∧ 0 < f ∧ kindS (ix l (f - 1)) true = 0) by have := HC2.out; rw [hC2] at this; simpa using this.symm)
      subst hC2
      have hf0 := HND.out.2.1
      have i5 : (f : Int) - 1 = ((f - 1 : Nat) : Int) := by omega
      go_wp2_with fail
      try rw [i5]
      refine (ref_runOf (some ⟨b1, o1, none⟩) n c l true (f - 1) _ ha3 HN.out h2 (by omega)).mono ?_
      rintro e w5 ⟨f1, t1, rfl, hR5, hb5⟩
      have HR5 := Lib.hid hR5
      clear hR5
      have hb6 := below_then hb3 hb3.size hb5
      go_wp2
      go_ret3
      exact ⟨f1, t, 0, rfl, .inr ⟨by rw [HN.out]; exact hn0, rfl, f1, t, rfl, rfl, f, t, HR.out, by rw [if_neg (by rw [HN.out]; intro h; exact HNC.out h.2), if_pos ⟨rfl, HND.out⟩]; exact ⟨rfl, _, HR5.out⟩⟩, hb6⟩
  · have HYC := Lib.hid (show (t < n ∧ (kindS (ix l k) true = 0 ∨ kindS (ix l t) true = 0)) by have := HC1.out; rw [hC1] at this; simpa using this.symm)
    subst hC1
    have htn' := HYC.out.1
    go_wp2_with fail
    refine (ref_runOf (some ⟨b1, o1, none⟩) n c l true t _ ha3 HN.out h2 htn').mono ?_
    rintro e w5 ⟨f1, t1, rfl, hR5, hb5⟩
    have HR5 := Lib.hid hR5
    clear hR5
    have hb6 := below_then hb3 hb3.size hb5
    go_wp2
    go_ret3
    exact ⟨f, t1, 0, rfl, .inr ⟨by rw [HN.out]; exact hn0, rfl, f, t1, rfl, rfl, f, t, HR.out, by rw [if_pos (by rw [HN.out]; exact ⟨rfl, HYC.out⟩)]; exact ⟨rfl, _, HR5.out⟩⟩, hb6⟩

end Go.Proofs.Ytbgbcmfgncneiaa
