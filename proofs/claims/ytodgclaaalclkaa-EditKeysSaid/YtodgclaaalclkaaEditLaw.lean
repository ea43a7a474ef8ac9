/- The walk of EditKeys. -/
import Derived.Test.YtodgclaaalclkaaEditR
import Derived.Test.YtodgclaaalclkaaEditRN
namespace Go.Proofs.Ytodgclaaalclkaa
open Go.RowKit
set_option linter.unusedVariables false
set_option linter.unusedSimpArgs false

theorem keyS_large {xs : List Int} {p mode key b : Int} (h : 200 < xs.length) : keyS xs p mode key b = ([], 0, 2) := by unfold keyS; rw [if_pos h]
theorem keyS_arg {xs : List Int} {p mode key b : Int} (h : xs.length ≤ 200) (h2 : p < 0 ∨ (xs.length : Int) < p ∨ (mode ≠ 1 ∧ mode ≠ 2)) : keyS xs p mode key b = ([], 0, 1) := by unfold keyS; rw [if_neg (by omega), if_pos h2]
theorem usesB_large {xs : List Int} {p mode key : Int} (h : 200 < xs.length) : ¬ UsesB xs p mode key := fun h' => by have := h'.1; omega
theorem usesB_arg {xs : List Int} {p mode key : Int} (h2 : p < 0 ∨ (xs.length : Int) < p ∨ (mode ≠ 1 ∧ mode ≠ 2)) : ¬ UsesB xs p mode key := fun h' => by
  obtain ⟨_, h3, h4, h5, _⟩ := h'; omega

set_option maxRecDepth 100000 in
theorem edit_key_large (a : Option Addr) (n c : Nat) (xs : List Int) (p mode key : Int) (w : World) (hn : xs.length = n) (h : 200 < n) (h3 : n ≤ 9223372036854775807) :
    Calls Try.prog 13 #[.agg #[.slice a n c, .int .i64 p], .int .i64 mode, .int .i64 key] w (KeyPost (WordBack xs false p) xs p mode key w) := by
  have HK := Lib.hid (keyS_large (xs := xs) (p := p) (mode := mode) (key := key) (b := 0) (by omega))
  have HU := Lib.hid (usesB_large (xs := xs) (p := p) (mode := mode) (key := key) (by omega))
  have hb := below2 w (.cells #[.slice a n c, .int .i64 p] 24) (.cells #[.slice none 0 0, .int .i64 0] 24)
  have hA := Blk.new (w.alloc (.cells #[.slice a n c, .int .i64 p] 24)) #[.slice none 0 0, .int .i64 0] 24
  rw [World.size_alloc] at hA
  obtain ⟨y0, y1, -, -⟩ := hA.two
  clear hn
  go_enter Try.func13, Try.ntmps13
  go_wp2
  refine bodyPost_ret (v := .tuple #[.agg #[.slice none 0 0, .int .i64 0], .int .i64 2]) (by simp [results, Try.results13, go_sem, y0, y1]) rfl ?_
  exact KeyPost.of HK.out (fun h => absurd h HU.out) (.inl rfl) rfl (by omega) hb
set_option maxRecDepth 100000 in
theorem ref_key_large (a : Option Addr) (n c : Nat) (xs : List Int) (p mode key : Int) (w : World) (hn : xs.length = n) (h : 200 < n) (h3 : n ≤ 9223372036854775807) :
    Calls Try.prog 14 #[.agg #[.slice a n c, .int .i64 p], .int .i64 mode, .int .i64 key] w (KeyPost (RefBack xs false p) xs p mode key w) := by
  have HK := Lib.hid (keyS_large (xs := xs) (p := p) (mode := mode) (key := key) (b := 0) (by omega))
  have HU := Lib.hid (usesB_large (xs := xs) (p := p) (mode := mode) (key := key) (by omega))
  have hb := below2 w (.cells #[.slice a n c, .int .i64 p] 24) (.cells #[.slice none 0 0, .int .i64 0] 24)
  have hA := Blk.new (w.alloc (.cells #[.slice a n c, .int .i64 p] 24)) #[.slice none 0 0, .int .i64 0] 24
  rw [World.size_alloc] at hA
  obtain ⟨y0, y1, -, -⟩ := hA.two
  clear hn
  go_enter Try.func14, Try.ntmps14
  go_wp2
  refine bodyPost_ret (v := .tuple #[.agg #[.slice none 0 0, .int .i64 0], .int .i64 2]) (by simp [results, Try.results14, go_sem, y0, y1]) rfl ?_
  exact KeyPost.of HK.out (fun h => absurd h HU.out) (.inl rfl) rfl (by omega) hb

set_option maxRecDepth 100000 in
theorem edit_key_arg (a : Option Addr) (n c : Nat) (xs : List Int) (p mode key : Int) (w : World) (hn : xs.length = n) (h : n ≤ 200) (hbad : p < 0 ∨ (n : Int) < p ∨ (mode ≠ 1 ∧ mode ≠ 2)) :
    Calls Try.prog 13 #[.agg #[.slice a n c, .int .i64 p], .int .i64 mode, .int .i64 key] w (KeyPost (WordBack xs false p) xs p mode key w) := by
  have HK := Lib.hid (keyS_arg (xs := xs) (p := p) (mode := mode) (key := key) (b := 0) (by omega) (by rw [hn]; exact hbad))
  have HU := Lib.hid (usesB_arg (xs := xs) (p := p) (mode := mode) (key := key) (by rw [hn]; exact hbad))
  have hb := below2 w (.cells #[.slice a n c, .int .i64 p] 24) (.cells #[.slice none 0 0, .int .i64 0] 24)
  have hA := Blk.new (w.alloc (.cells #[.slice a n c, .int .i64 p] 24)) #[.slice none 0 0, .int .i64 0] 24
  rw [World.size_alloc] at hA
  obtain ⟨y0, y1, -, -⟩ := hA.two
  clear hn
  by_cases e1 : p < 0
  · clear hbad
    go_enter Try.func13, Try.ntmps13
    go_wp2
    refine bodyPost_ret (v := .tuple #[.agg #[.slice none 0 0, .int .i64 0], .int .i64 1]) (by simp [results, Try.results13, go_sem, y0, y1]) rfl ?_
    exact KeyPost.of HK.out (fun h => absurd h HU.out) (.inl rfl) rfl (by omega) hb
  · by_cases e2 : (n : Int) < p
    · clear hbad
      go_enter Try.func13, Try.ntmps13
      go_wp2
      refine bodyPost_ret (v := .tuple #[.agg #[.slice none 0 0, .int .i64 0], .int .i64 1]) (by simp [results, Try.results13, go_sem, y0, y1]) rfl ?_
      exact KeyPost.of HK.out (fun h => absurd h HU.out) (.inl rfl) rfl (by omega) hb
    · obtain ⟨m1, m2⟩ : mode ≠ 1 ∧ mode ≠ 2 := by omega
      have g1 : (mode != 1) = true := by simpa using m1
      have g2 : (mode != 2) = true := by simpa using m2
      clear hbad
      go_enter Try.func13, Try.ntmps13
      go_wp2
      refine bodyPost_ret (v := .tuple #[.agg #[.slice none 0 0, .int .i64 0], .int .i64 1]) (by simp [results, Try.results13, go_sem, y0, y1]) rfl ?_
      exact KeyPost.of HK.out (fun h => absurd h HU.out) (.inl rfl) rfl (by omega) hb
set_option maxRecDepth 100000 in
theorem ref_key_arg (a : Option Addr) (n c : Nat) (xs : List Int) (p mode key : Int) (w : World) (hn : xs.length = n) (h : n ≤ 200) (hbad : p < 0 ∨ (n : Int) < p ∨ (mode ≠ 1 ∧ mode ≠ 2)) :
    Calls Try.prog 14 #[.agg #[.slice a n c, .int .i64 p], .int .i64 mode, .int .i64 key] w (KeyPost (RefBack xs false p) xs p mode key w) := by
  have HK := Lib.hid (keyS_arg (xs := xs) (p := p) (mode := mode) (key := key) (b := 0) (by omega) (by rw [hn]; exact hbad))
  have HU := Lib.hid (usesB_arg (xs := xs) (p := p) (mode := mode) (key := key) (by rw [hn]; exact hbad))
  have hb := below2 w (.cells #[.slice a n c, .int .i64 p] 24) (.cells #[.slice none 0 0, .int .i64 0] 24)
  have hA := Blk.new (w.alloc (.cells #[.slice a n c, .int .i64 p] 24)) #[.slice none 0 0, .int .i64 0] 24
  rw [World.size_alloc] at hA
  obtain ⟨y0, y1, -, -⟩ := hA.two
  clear hn
  by_cases e1 : p < 0
  · clear hbad
    go_enter Try.func14, Try.ntmps14
    go_wp2
    refine bodyPost_ret (v := .tuple #[.agg #[.slice none 0 0, .int .i64 0], .int .i64 1]) (by simp [results, Try.results14, go_sem, y0, y1]) rfl ?_
    exact KeyPost.of HK.out (fun h => absurd h HU.out) (.inl rfl) rfl (by omega) hb
  · by_cases e2 : (n : Int) < p
    · clear hbad
      go_enter Try.func14, Try.ntmps14
      go_wp2
      refine bodyPost_ret (v := .tuple #[.agg #[.slice none 0 0, .int .i64 0], .int .i64 1]) (by simp [results, Try.results14, go_sem, y0, y1]) rfl ?_
      exact KeyPost.of HK.out (fun h => absurd h HU.out) (.inl rfl) rfl (by omega) hb
    · obtain ⟨m1, m2⟩ : mode ≠ 1 ∧ mode ≠ 2 := by omega
      have g1 : (mode != 1) = true := by simpa using m1
      have g2 : (mode != 2) = true := by simpa using m2
      clear hbad
      go_enter Try.func14, Try.ntmps14
      go_wp2
      refine bodyPost_ret (v := .tuple #[.agg #[.slice none 0 0, .int .i64 0], .int .i64 1]) (by simp [results, Try.results14, go_sem, y0, y1]) rfl ?_
      exact KeyPost.of HK.out (fun h => absurd h HU.out) (.inl rfl) rfl (by omega) hb

set_option maxRecDepth 100000 in
theorem ref_sameLine (a1 a2 : Option Addr) (n1 n2 c1 c2 : Nat) (xs : List Int) (p : Int) (w : World) (h1 : Ints w a1 xs) (h2 : Ints w a2 xs) (e1 : xs.length = n1) (e2 : xs.length = n2) (hx : n1 ≤ 9223372036854775807) :
    Calls Try.prog 15 #[.agg #[.slice a1 n1 c1, .int .i64 p], .agg #[.slice a2 n2 c2, .int .i64 p]] w fun e w' => e = .returned (.bool true) ∧ Below w.heap.size w w' := by
  have E1 := Lib.hid e1; have E2 := Lib.hid e2; clear e1 e2
  have hb2 := below2 w (.cells #[.slice a1 n1 c1, .int .i64 p] 24) (.cells #[.slice a2 n2 c2, .int .i64 p] 24)
  have h1 := h1.below hb2; have h2 := h2.below hb2
  go_enter Try.func15, Try.ntmps15
  go_wp2_with fail
  refine (slices_same a1 a2 n1 n2 c1 c2 xs _ h1 h2 E1.out E2.out hx).mono ?_
  rintro e w' ⟨rfl, nd, rfl⟩
  go_wp2
  go_ret
  exact ⟨rfl, below_drewN hb2 _⟩

theorem edit_key (a : Option Addr) (n c : Nat) (xs : List Int) (p mode key : Int) (w : World) (ha : Ints w a xs) (hn : xs.length = n) (hc : n ≤ c) (hc2 : c ≤ 9223372036854775807) (h0 : a = none → c = 0) :
    Calls Try.prog 13 #[.agg #[.slice a n c, .int .i64 p], .int .i64 mode, .int .i64 key] w (KeyPost (WordBack xs false p) xs p mode key w) := by
  by_cases h1 : 200 < n
  · exact edit_key_large a n c xs p mode key w hn h1 (by omega)
  · by_cases h2 : p < 0 ∨ (n : Int) < p ∨ (mode ≠ 1 ∧ mode ≠ 2)
    · exact edit_key_arg a n c xs p mode key w hn (by omega) h2
    · obtain ⟨q, rfl⟩ := Int.eq_ofNat_of_zero_le (show 0 ≤ p by omega)
      rcases a with _ | ad
      · obtain rfl : c = 0 := h0 rfl
        obtain rfl : n = 0 := by omega
        obtain rfl : xs = [] := List.eq_nil_of_length_eq_zero hn
        obtain rfl : q = 0 := by omega
        exact edit_key_nil mode key w (by omega)
      · exact edit_key_some ad n c q xs mode key w ha hn hc hc2 (by omega) (by omega) (by omega)
theorem ref_key (a : Option Addr) (n c : Nat) (xs : List Int) (p mode key : Int) (w : World) (ha : Ints w a xs) (hn : xs.length = n) (hc : n ≤ c) (hc2 : c ≤ 9223372036854775807) (h0 : a = none → c = 0) :
    Calls Try.prog 14 #[.agg #[.slice a n c, .int .i64 p], .int .i64 mode, .int .i64 key] w (KeyPost (RefBack xs false p) xs p mode key w) := by
  by_cases h1 : 200 < n
  · exact ref_key_large a n c xs p mode key w hn h1 (by omega)
  · by_cases h2 : p < 0 ∨ (n : Int) < p ∨ (mode ≠ 1 ∧ mode ≠ 2)
    · exact ref_key_arg a n c xs p mode key w hn (by omega) h2
    · obtain ⟨q, rfl⟩ := Int.eq_ofNat_of_zero_le (show 0 ≤ p by omega)
      rcases a with _ | ad
      · obtain rfl : c = 0 := h0 rfl
        obtain rfl : n = 0 := by omega
        obtain rfl : xs = [] := List.eq_nil_of_length_eq_zero hn
        obtain rfl : q = 0 := by omega
        exact ref_key_nil mode key w (by omega)
      · exact ref_key_some ad n c q xs mode key w ha hn hc hc2 (by omega) (by omega) (by omega)

set_option maxRecDepth 100000 in
set_option maxHeartbeats 1000000 in
theorem editKeys_walk (a : Option Addr) (n c : Nat) (xs : List Int) (p mode key : Int) (w : World) (ha : Ints w a xs) (hn : xs.length = n) (hc : n ≤ c) (hc2 : c ≤ 9223372036854775807) (h0 : a = none → c = 0) :
    Calls Try.prog 3 #[.agg #[.slice a n c, .int .i64 p], .int .i64 mode, .int .i64 key] w fun e w' => e = .returned (.bool true) ∧ Below w.heap.size w w' := by
  have HN := Lib.hid hn; have H0 := Lib.hid h0; clear hn h0
  have hP := Blk.new w #[.slice a n c, .int .i64 p] 24
  have hb1 := below1 w (.cells #[.slice a n c, .int .i64 p] 24)
  go_enter Try.func3, Try.ntmps3
  go_wp2_with fail
  refine (edit_key a n c xs p mode key _ (ha.below hb1) HN.out hc hc2 H0.out).mono ?_
  rintro e w1 ⟨a1, n1, c1, b1, rfl, hw1, hi1, hl1, ht1, hbe1⟩
  have hP1 := hP.below hbe1 hP.lt
  have hba := below_then hb1 hb1.size hbe1
  obtain ⟨x0, x1, -, -⟩ := hP1.two
  have HL1 := Lib.hid hl1; have HW1 := Lib.hid hw1
  clear hl1 hw1 hbe1 hP
  generalize hk1 : keyS xs p mode key b1 = k1 at *
  have HK1 := Lib.hid hk1
  clear hk1
  go_upto_region 2 with fail
  have hQ1 := Blk.new w1 #[.slice a1 n1 c1, .int .i64 k1.2.1] 24
  have hb2 := below1 w1 (.cells #[.slice a1 n1 c1, .int .i64 k1.2.1] 24)
  obtain ⟨W2, hW2⟩ : ∃ W2, W2 = w1.alloc (.cells #[.slice a1 n1 c1, .int .i64 k1.2.1] 24) := ⟨_, rfl⟩
  rw [← hW2] at hQ1 hb2 ⊢
  clear hW2
  have hP2 := hP1.below hb2 hP1.lt
  have hi2 := hi1.below hb2
  have hbb := below_then hba hba.size hb2
  generalize w1.heap.size = B1 at hQ1 ⊢
  clear x0 x1 hP1 hi1 hba hb2
  obtain ⟨x0, x1, -, -⟩ := hP2.two
  go_wp2_with fail
  refine (ref_key a n c xs p mode key _ (ha.below hbb) HN.out hc hc2 H0.out).mono ?_
  rintro e w3 ⟨a3, n3, c3, b3, rfl, hw3, hi3, hl3, ht3, hbe3⟩
  have hkk : keyS xs p mode key b3 = k1 := by
    rw [← HK1.out]
    by_cases hu : UsesB xs p mode key
    · have h1 := HW1.out hu
      have h3 := hw3 hu
      rw [back_same (by have := hu.2.1; omega) hu.2.2.1 h1 h3]
    · exact keyS_indep hu _ _
  rw [hkk] at hi3 hl3 ⊢
  have HL3 := Lib.hid hl3
  clear hl3 hw3 hkk
  have hQ3 := hQ1.below hbe3 hQ1.lt
  have hi4 := hi2.below hbe3
  have hbc := below_then hbb hbb.size hbe3
  obtain ⟨z0, z1, -, -⟩ := hQ3.two
  clear x0 x1 hP2 hQ1 hi2 hbb hbe3
  go_upto_region 3 with fail
  have hR := Blk.new w3 #[.slice a3 n3 c3, .int .i64 k1.2.1] 24
  have hb4 := below1 w3 (.cells #[.slice a3 n3 c3, .int .i64 k1.2.1] 24)
  obtain ⟨W4, hW4⟩ : ∃ W4, W4 = w3.alloc (.cells #[.slice a3 n3 c3, .int .i64 k1.2.1] 24) := ⟨_, rfl⟩
  rw [← hW4] at hR hb4 ⊢
  clear hW4
  have hQ4 := hQ3.below hb4 hQ3.lt
  have hi5 := hi4.below hb4
  have hi6 := hi3.below hb4
  have hbd := below_then hbc hbc.size hb4
  generalize w3.heap.size = B3 at hR ⊢
  clear z0 z1 hQ3 hi4 hi3 hbc hb4
  obtain ⟨z0, z1, -, -⟩ := hQ4.two
  obtain ⟨y0, y1, -, -⟩ := hR.two
  go_wp2_with fail
  refine (ref_sameLine a1 a3 n1 n3 c1 c3 k1.1 k1.2.1 _ hi5 hi6 HL1.out HL3.out (by omega)).mono ?_
  rintro e w5 ⟨rfl, hb5⟩
  go_wp2
  go_ret
  exact ⟨ret1_bool (by simp), below_then hbd hbd.size hb5⟩

end Go.Proofs.Ytodgclaaalclkaa
