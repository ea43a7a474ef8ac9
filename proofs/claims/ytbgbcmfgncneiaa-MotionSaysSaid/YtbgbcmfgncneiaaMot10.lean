/- Contract of fairref.Go: brackets, and characters that are looked for; the whole. -/
import Derived.Test.YtbgbcmfgncneiaaMot9
namespace Go.Proofs.Ytbgbcmfgncneiaa
open Go.RowKit
set_option linter.unusedVariables false
set_option linter.unusedSimpArgs false

set_option maxRecDepth 100000 in
set_option maxHeartbeats 2000000 in
theorem rgo_37_Z (a : Option Addr) (n c : Nat) (l : List Int) (k : Nat) (arg : Int) (op : Bool) (w : World) (hl : Ints w a l) (hn : l.length = n) (hn2 : n ≤ 4096) (hk : k ≤ n) (hk2 : k < n ∨ n = 0) (h0 : 1 ≤ n) (hl0 : l.length ≠ 0) :
    Calls Try.prog 82 #[.slice a n c, .int .i64 (k : Int), mvV 37 0 arg, .bool op] w (RGoPost (moS l k 37 1 arg op) w) := by
  have hm0 : 1 ≤ 1 := Nat.le_refl _
  have hm1 : 1 ≤ 999 := by omega
  unfold mvV
  have hB4 := (Blk.new w #[.slice a n c] 35).alloc (.cells #[.int .i64 37, .int .i64 0, .int .i64 arg] 116)
  obtain ⟨c4, -⟩ := hB4.one
  have hB6 := Blk.new (w.alloc (.cells #[.slice a n c] 35)) #[.int .i64 37, .int .i64 0, .int .i64 arg] 116
  rw [World.size_alloc] at hB6
  obtain ⟨c0, c1, c2, -, -, -⟩ := hB6.three
  have hacc := below2 w (.cells #[.slice a n c] 35) (.cells #[.int .i64 37, .int .i64 0, .int .i64 arg] 116)
  have hI := hl.below hacc
  have HN := Lib.hid hn
  clear hn
  have hn0 : ((n : Int) == 0) = false := by simp; omega
  have hln : ((l.length : Nat) : Int) = (n : Int) := by rw [HN.out]
  have hR0 : moS l k 37 1 arg op = partS l k := by
    unfold moS partS
    rw [if_neg (by decide), if_neg (by decide), if_neg (by decide), if_neg (by decide), if_neg (by decide), if_neg (by decide), if_neg (by decide), if_neg hl0, if_neg (by decide), if_neg (by decide), if_neg (by decide), if_neg (by decide)]
  have HR0 := Lib.hid hR0
  clear hR0 hln hl0
  have hsz : w.heap.size + 2 ≤ ((w.alloc (.cells #[.slice a n c] 35)).alloc (.cells #[.int .i64 37, .int .i64 0, .int .i64 arg] 116)).heap.size := by simp
  go_enter Try.func82, Try.ntmps82
  go_upto_region 1 with fail
  change Code.wp _ _ _ _ ((w.alloc (.cells #[.slice a n c] 35)).alloc (.cells #[.int .i64 37, .int .i64 0, .int .i64 arg] 116))
  generalize (w.alloc (.cells #[.slice a n c] 35)).alloc (.cells #[.int .i64 37, .int .i64 0, .int .i64 arg] 116) = w1 at *
  go_quiet (fail)
  go_wp2
  clear c4 c0 c1 c2
  go_loopw [18] (fun iv wr => ∃ i : Nat, iv = .int .i64 (i : Int) ∧ k ≤ i ∧ i ≤ n ∧ (∀ t, k ≤ t → t < i → openS (ix l t) = 0) ∧ Blk wr w.heap.size #[.slice a n c] 35 ∧ Below w.heap.size w wr ∧ w.heap.size + 2 ≤ wr.heap.size) (fun iv _ => n - (intOf iv).toNat)
  case atStart => exact ⟨k, rfl, by omega, by omega, fun t h1 h2 => by omega, hB4.drewN _, below_drewN hacc _, hsz⟩
  case round =>
    obtain ⟨i, rfl, hi1, hi2, hno, hB4, hbel, hsz⟩ := hrel
    have HO := Lib.hid hno; clear hno
    obtain ⟨c4, -⟩ := hB4.one
    have hI3 := hl.below hbel
    by_cases hlt : i < n
    · obtain ⟨b1, o1, rfl, hc⟩ := hI3.at (k := i) (by rw [HN.out]; exact hlt)
      have e1 := hc i (by rw [HN.out]; exact hlt)
      clear hc hI3
      by_cases hz : openS (ix l i) = 0
      · have hz' : (openS (ix l i) != 0) = false := by simpa using hz
        have HZ := Lib.hid hz; clear hz
        go_wp2_with ((go_at_call 120); refine (ref_bracket _ _).mono ?_; rintro e w5 ⟨rfl, hb5⟩; have hB5 := hB4.below hb5 hB4.lt; have hbel5 := below_then hbel (by omega) hb5; have hsz5 := hb5.size; obtain ⟨d4, -⟩ := hB5.one)
        go_roundw
        case rel => exact ⟨i + 1, by go_num, by omega, by omega, fun t h1 h2 => by
          rcases Nat.lt_succ_iff_lt_or_eq.1 h2 with h | rfl
          · exact HO.out t h1 h
          · exact HZ.out, hB5, hbel5, by omega⟩
        case measure => simp [intOf]; omega
      · have hz' : (openS (ix l i) != 0) = true := by simpa using hz
        have HF := Lib.hid (show partF l k = ix (pRun l n n).out i by
          have := partF_hit hi1 (by rw [HN.out]; exact hlt) hz HO.out
          rwa [HN.out] at this)
        obtain ⟨y, hy⟩ : ∃ y, ix (pRun l n n).out i = y := ⟨_, rfl⟩
        have HF2 := Lib.hid (show partF l k = y by rw [HF.out, hy])
        have HPP := Lib.hid (show PartnerP l n i y by rw [← hy]; exact pairs_partner l n i hlt)
        clear hz hy HF
        have HCP := ref_partner (some ⟨b1, o1, none⟩) n c l i
        by_cases hneg : y < 0
        · have HR := Lib.hid (show moS l k 37 1 arg op = none by rw [HR0.out, partS, HF2.out, if_pos hneg])
          go_wp2_with (first | ((go_at_call 120); refine (ref_bracket _ _).mono ?_; rintro e w5 ⟨rfl, hb5⟩; have hB5 := hB4.below hb5 hB4.lt; have hbel5 := below_then hbel (by omega) hb5; have hsz5 := hb5.size; obtain ⟨d4, -⟩ := hB5.one) | ((go_at_call 121); refine (HCP _ (hl.below hbel5) HN.out hn2 hlt).mono ?_; rintro e w6 ⟨r, rfl, hr, hb6⟩; obtain rfl := hr.one HPP.out))
          go_ret3
          exact RGoPost.no HR.out (below_then hbel5 (by omega) hb6)
        · have HR := Lib.hid (show moS l k 37 1 arg op = some (y, true) by rw [HR0.out, partS, HF2.out, if_neg hneg])
          have hnb : decide (y < 0) = false := decide_eq_false hneg
          go_wp2_with (first | ((go_at_call 120); refine (ref_bracket _ _).mono ?_; rintro e w5 ⟨rfl, hb5⟩; have hB5 := hB4.below hb5 hB4.lt; have hbel5 := below_then hbel (by omega) hb5; have hsz5 := hb5.size; obtain ⟨d4, -⟩ := hB5.one) | ((go_at_call 121); refine (HCP _ (hl.below hbel5) HN.out hn2 hlt).mono ?_; rintro e w6 ⟨r, rfl, hr, hb6⟩; obtain rfl := hr.one HPP.out))
          go_ret3
          exact RGoPost.yes HR.out (below_then hbel5 (by omega) hb6)
    · obtain rfl : i = n := by omega
      have HR := Lib.hid (show moS l k 37 1 arg op = none by rw [HR0.out, partS, partF_none (by rw [HN.out]; exact HO.out), if_pos (by omega)])
      go_wp2
      go_ret3
      exact RGoPost.no HR.out hbel

set_option maxRecDepth 100000 in
set_option maxHeartbeats 2000000 in
theorem rgo_37_P (a : Option Addr) (n c : Nat) (l : List Int) (k : Nat) (arg : Int) (op : Bool) (w : World) (hl : Ints w a l) (hn : l.length = n) (hn2 : n ≤ 4096) (hk : k ≤ n) (hk2 : k < n ∨ n = 0) (m : Nat) (hm0 : 1 ≤ m) (hm1 : m ≤ 999) (h0 : 1 ≤ n) (hl0 : l.length ≠ 0) :
    Calls Try.prog 82 #[.slice a n c, .int .i64 (k : Int), mvV 37 (m : Int) arg, .bool op] w (RGoPost (moS l k 37 (m : Int) arg op) w) := by
  have hmz : ((m : Int) == 0) = false := by simp; omega
  unfold mvV
  have hB4 := (Blk.new w #[.slice a n c] 35).alloc (.cells #[.int .i64 37, .int .i64 (m : Int), .int .i64 arg] 116)
  obtain ⟨c4, -⟩ := hB4.one
  have hB6 := Blk.new (w.alloc (.cells #[.slice a n c] 35)) #[.int .i64 37, .int .i64 (m : Int), .int .i64 arg] 116
  rw [World.size_alloc] at hB6
  obtain ⟨c0, c1, c2, -, -, -⟩ := hB6.three
  have hacc := below2 w (.cells #[.slice a n c] 35) (.cells #[.int .i64 37, .int .i64 (m : Int), .int .i64 arg] 116)
  have hI := hl.below hacc
  have HN := Lib.hid hn
  clear hn
  have hn0 : ((n : Int) == 0) = false := by simp; omega
  have hln : ((l.length : Nat) : Int) = (n : Int) := by rw [HN.out]
  have hR0 : moS l k 37 (m : Int) arg op = partS l k := by
    unfold moS partS
    rw [if_neg (by decide), if_neg (by decide), if_neg (by decide), if_neg (by decide), if_neg (by decide), if_neg (by decide), if_neg (by decide), if_neg hl0, if_neg (by decide), if_neg (by decide), if_neg (by decide), if_neg (by decide)]
  have HR0 := Lib.hid hR0
  clear hR0 hln hl0
  have hsz : w.heap.size + 2 ≤ ((w.alloc (.cells #[.slice a n c] 35)).alloc (.cells #[.int .i64 37, .int .i64 (m : Int), .int .i64 arg] 116)).heap.size := by simp
  go_enter Try.func82, Try.ntmps82
  go_upto_region 1 with fail
  change Code.wp _ _ _ _ ((w.alloc (.cells #[.slice a n c] 35)).alloc (.cells #[.int .i64 37, .int .i64 (m : Int), .int .i64 arg] 116))
  generalize (w.alloc (.cells #[.slice a n c] 35)).alloc (.cells #[.int .i64 37, .int .i64 (m : Int), .int .i64 arg] 116) = w1 at *
  go_quiet (fail)
  go_wp2
  clear c4 c0 c1 c2
  go_loopw [18] (fun iv wr => ∃ i : Nat, iv = .int .i64 (i : Int) ∧ k ≤ i ∧ i ≤ n ∧ (∀ t, k ≤ t → t < i → openS (ix l t) = 0) ∧ Blk wr w.heap.size #[.slice a n c] 35 ∧ Below w.heap.size w wr ∧ w.heap.size + 2 ≤ wr.heap.size) (fun iv _ => n - (intOf iv).toNat)
  case atStart => exact ⟨k, rfl, by omega, by omega, fun t h1 h2 => by omega, hB4.drewN _, below_drewN hacc _, hsz⟩
  case round =>
    obtain ⟨i, rfl, hi1, hi2, hno, hB4, hbel, hsz⟩ := hrel
    have HO := Lib.hid hno; clear hno
    obtain ⟨c4, -⟩ := hB4.one
    have hI3 := hl.below hbel
    by_cases hlt : i < n
    · obtain ⟨b1, o1, rfl, hc⟩ := hI3.at (k := i) (by rw [HN.out]; exact hlt)
      have e1 := hc i (by rw [HN.out]; exact hlt)
      clear hc hI3
      by_cases hz : openS (ix l i) = 0
      · have hz' : (openS (ix l i) != 0) = false := by simpa using hz
        have HZ := Lib.hid hz; clear hz
        go_wp2_with ((go_at_call 120); refine (ref_bracket _ _).mono ?_; rintro e w5 ⟨rfl, hb5⟩; have hB5 := hB4.below hb5 hB4.lt; have hbel5 := below_then hbel (by omega) hb5; have hsz5 := hb5.size; obtain ⟨d4, -⟩ := hB5.one)
        go_roundw
        case rel => exact ⟨i + 1, by go_num, by omega, by omega, fun t h1 h2 => by
          rcases Nat.lt_succ_iff_lt_or_eq.1 h2 with h | rfl
          · exact HO.out t h1 h
          · exact HZ.out, hB5, hbel5, by omega⟩
        case measure => simp [intOf]; omega
      · have hz' : (openS (ix l i) != 0) = true := by simpa using hz
        have HF := Lib.hid (show partF l k = ix (pRun l n n).out i by
          have := partF_hit hi1 (by rw [HN.out]; exact hlt) hz HO.out
          rwa [HN.out] at this)
        obtain ⟨y, hy⟩ : ∃ y, ix (pRun l n n).out i = y := ⟨_, rfl⟩
        have HF2 := Lib.hid (show partF l k = y by rw [HF.out, hy])
        have HPP := Lib.hid (show PartnerP l n i y by rw [← hy]; exact pairs_partner l n i hlt)
        clear hz hy HF
        have HCP := ref_partner (some ⟨b1, o1, none⟩) n c l i
        by_cases hneg : y < 0
        · have HR := Lib.hid (show moS l k 37 (m : Int) arg op = none by rw [HR0.out, partS, HF2.out, if_pos hneg])
          go_wp2_with (first | ((go_at_call 120); refine (ref_bracket _ _).mono ?_; rintro e w5 ⟨rfl, hb5⟩; have hB5 := hB4.below hb5 hB4.lt; have hbel5 := below_then hbel (by omega) hb5; have hsz5 := hb5.size; obtain ⟨d4, -⟩ := hB5.one) | ((go_at_call 121); refine (HCP _ (hl.below hbel5) HN.out hn2 hlt).mono ?_; rintro e w6 ⟨r, rfl, hr, hb6⟩; obtain rfl := hr.one HPP.out))
          go_ret3
          exact RGoPost.no HR.out (below_then hbel5 (by omega) hb6)
        · have HR := Lib.hid (show moS l k 37 (m : Int) arg op = some (y, true) by rw [HR0.out, partS, HF2.out, if_neg hneg])
          have hnb : decide (y < 0) = false := decide_eq_false hneg
          go_wp2_with (first | ((go_at_call 120); refine (ref_bracket _ _).mono ?_; rintro e w5 ⟨rfl, hb5⟩; have hB5 := hB4.below hb5 hB4.lt; have hbel5 := below_then hbel (by omega) hb5; have hsz5 := hb5.size; obtain ⟨d4, -⟩ := hB5.one) | ((go_at_call 121); refine (HCP _ (hl.below hbel5) HN.out hn2 hlt).mono ?_; rintro e w6 ⟨r, rfl, hr, hb6⟩; obtain rfl := hr.one HPP.out))
          go_ret3
          exact RGoPost.yes HR.out (below_then hbel5 (by omega) hb6)
    · obtain rfl : i = n := by omega
      have HR := Lib.hid (show moS l k 37 (m : Int) arg op = none by rw [HR0.out, partS, partF_none (by rw [HN.out]; exact HO.out), if_pos (by omega)])
      go_wp2
      go_ret3
      exact RGoPost.no HR.out hbel

set_option maxRecDepth 100000 in
set_option maxHeartbeats 2000000 in
theorem rgo_102_Z (a : Option Addr) (n c : Nat) (l : List Int) (k : Nat) (arg : Int) (op : Bool) (w : World) (hl : Ints w a l) (hn : l.length = n) (hn2 : n ≤ 4096) (hk : k ≤ n) (hk2 : k < n ∨ n = 0) (h0 : 1 ≤ n) (hl0 : l.length ≠ 0) :
    Calls Try.prog 82 #[.slice a n c, .int .i64 (k : Int), mvV 102 0 arg, .bool op] w (RGoPost (moS l k 102 1 arg op) w) := by
  have hm0 : 1 ≤ 1 := Nat.le_refl _
  have hm1 : 1 ≤ 999 := by omega
  unfold mvV
  have hB4 := (Blk.new w #[.slice a n c] 35).alloc (.cells #[.int .i64 102, .int .i64 0, .int .i64 arg] 116)
  obtain ⟨c4, -⟩ := hB4.one
  have hB6 := Blk.new (w.alloc (.cells #[.slice a n c] 35)) #[.int .i64 102, .int .i64 0, .int .i64 arg] 116
  rw [World.size_alloc] at hB6
  obtain ⟨c0, c1, c2, -, -, -⟩ := hB6.three
  have hacc := below2 w (.cells #[.slice a n c] 35) (.cells #[.int .i64 102, .int .i64 0, .int .i64 arg] 116)
  have hI := hl.below hacc
  have HN := Lib.hid hn
  clear hn
  have hn0 : ((n : Int) == 0) = false := by simp; omega
  have hln : ((l.length : Nat) : Int) = (n : Int) := by rw [HN.out]
  obtain ⟨P, hP⟩ : ∃ P, placesR l k arg = P := ⟨_, rfl⟩
  have hPl : P.length ≤ 4096 := by
    have hh := HN.out
    rw [← hP]
    have := plU_len l arg (l.length - (k + 1)) (k + 1); unfold placesR; omega
  have hPx : ∀ x ∈ P, 0 ≤ x ∧ x ≤ 4096 := by
    have hh := HN.out
    rw [← hP]
    intro x hx
    have := plU_in _ _ _ _ x hx; omega
  have HR0 := Lib.hid (show moS l k 102 1 arg op = (match P[1 - 1]? with | some x => some (x, true) | none => none) by rw [← hP]; simp [moS]; cases (placesR l k arg)[1 - 1]? <;> rfl)
  have HP := Lib.hid hP
  clear hP hln hl0
  have hs2 : w.heap.size + 2 ≤ ((w.alloc (.cells #[.slice a n c] 35)).alloc (.cells #[.int .i64 102, .int .i64 0, .int .i64 arg] 116)).heap.size := by simp
  by_cases hfit : P.length < 1
  · have HR := Lib.hid (show moS l k 102 1 arg op = none by rw [HR0.out, List.getElem?_eq_none (by omega)])
    go_enter Try.func82, Try.ntmps82
    go_upto_region 1 with fail
    change Code.wp _ _ _ _ ((w.alloc (.cells #[.slice a n c] 35)).alloc (.cells #[.int .i64 102, .int .i64 0, .int .i64 arg] 116))
    generalize (w.alloc (.cells #[.slice a n c] 35)).alloc (.cells #[.int .i64 102, .int .i64 0, .int .i64 arg] 116) = w1 at *
    go_quiet (fail)
    go_wp2_with ((go_at_call 153); refine (ref_finds_right a n c l k arg _ (hI.drewN _) HN.out hn2 hk).mono ?_; rintro e w5 ⟨v5, rfl, hown5, hb5⟩; rw [HP.out] at hown5; obtain ⟨a5, n5, c5, rfl⟩ := hown5.form; have l5 := hown5.get.1; have L5 := Lib.hid l5; have l6 : n5 < 1 := (by omega); clear l5)
    go_ret3
    exact RGoPost.no HR.out (below_then (below_drewN hacc _) (by show w.heap.size ≤ w1.heap.size; omega) hb5)
  · have hx0 : P[1 - 1]? = some (ix P (1 - 1)) := by rw [ix_eq (by omega), List.getElem?_eq_getElem (by omega)]
    obtain ⟨x, hx⟩ : ∃ x, ix P (1 - 1) = x := ⟨_, rfl⟩
    rw [hx] at hx0
    have hxb := hPx x (List.mem_of_getElem? hx0)
    obtain ⟨x1, x2⟩ := hxb
    have HR := Lib.hid (show moS l k 102 1 arg op = some (x, true) by rw [HR0.out, hx0])
    have HX := Lib.hid hx
    clear hx hx0 hPx
    go_enter Try.func82, Try.ntmps82
    go_upto_region 1 with fail
    change Code.wp _ _ _ _ ((w.alloc (.cells #[.slice a n c] 35)).alloc (.cells #[.int .i64 102, .int .i64 0, .int .i64 arg] 116))
    generalize (w.alloc (.cells #[.slice a n c] 35)).alloc (.cells #[.int .i64 102, .int .i64 0, .int .i64 arg] 116) = w1 at *
    go_quiet (fail)
    go_wp2_with ((go_at_call 153); refine (ref_finds_right a n c l k arg _ (hI.drewN _) HN.out hn2 hk).mono ?_; rintro e w5 ⟨v5, rfl, hown5, hb5⟩; rw [HP.out] at hown5; obtain ⟨a5, n5, c5, rfl⟩ := hown5.form; have l5 := hown5.get.1; have L5 := Lib.hid l5; have l6 : 1 ≤ n5 := (by omega); obtain ⟨b7, o7, rfl, hc7⟩ := (hown5.get.2.1).at (k := 1 - 1) (by omega); have e7 := hc7 (1 - 1) (by omega); rw [HX.out] at e7; (try simp only [Nat.sub_self, Nat.add_zero] at e7); clear hc7 l5; have hi7 : (0 : Int) ≤ 1 - 1 := (by omega); have hi8 : 1 - 1 < (n5 : Int) := (by omega);  have hB8 := (hB6.drewN _).below hb5 (by show w.heap.size + 1 < w1.heap.size; omega); obtain ⟨z0, z1, z2, -, -, -⟩ := hB8.three )
    go_quiet (fail)
    go_wp2
    go_ret3
    exact RGoPost.yes HR.out (below_drewN (below_then (below_drewN hacc _) (by show w.heap.size ≤ w1.heap.size; omega) hb5) _)

set_option maxRecDepth 100000 in
set_option maxHeartbeats 2000000 in
theorem rgo_102_P (a : Option Addr) (n c : Nat) (l : List Int) (k : Nat) (arg : Int) (op : Bool) (w : World) (hl : Ints w a l) (hn : l.length = n) (hn2 : n ≤ 4096) (hk : k ≤ n) (hk2 : k < n ∨ n = 0) (m : Nat) (hm0 : 1 ≤ m) (hm1 : m ≤ 999) (h0 : 1 ≤ n) (hl0 : l.length ≠ 0) :
    Calls Try.prog 82 #[.slice a n c, .int .i64 (k : Int), mvV 102 (m : Int) arg, .bool op] w (RGoPost (moS l k 102 (m : Int) arg op) w) := by
  have hmz : ((m : Int) == 0) = false := by simp; omega
  unfold mvV
  have hB4 := (Blk.new w #[.slice a n c] 35).alloc (.cells #[.int .i64 102, .int .i64 (m : Int), .int .i64 arg] 116)
  obtain ⟨c4, -⟩ := hB4.one
  have hB6 := Blk.new (w.alloc (.cells #[.slice a n c] 35)) #[.int .i64 102, .int .i64 (m : Int), .int .i64 arg] 116
  rw [World.size_alloc] at hB6
  obtain ⟨c0, c1, c2, -, -, -⟩ := hB6.three
  have hacc := below2 w (.cells #[.slice a n c] 35) (.cells #[.int .i64 102, .int .i64 (m : Int), .int .i64 arg] 116)
  have hI := hl.below hacc
  have HN := Lib.hid hn
  clear hn
  have hn0 : ((n : Int) == 0) = false := by simp; omega
  have hln : ((l.length : Nat) : Int) = (n : Int) := by rw [HN.out]
  obtain ⟨P, hP⟩ : ∃ P, placesR l k arg = P := ⟨_, rfl⟩
  have hPl : P.length ≤ 4096 := by
    have hh := HN.out
    rw [← hP]
    have := plU_len l arg (l.length - (k + 1)) (k + 1); unfold placesR; omega
  have hPx : ∀ x ∈ P, 0 ≤ x ∧ x ≤ 4096 := by
    have hh := HN.out
    rw [← hP]
    intro x hx
    have := plU_in _ _ _ _ x hx; omega
  have HR0 := Lib.hid (show moS l k 102 (m : Int) arg op = (match P[m - 1]? with | some x => some (x, true) | none => none) by rw [← hP]; simp [moS]; cases (placesR l k arg)[m - 1]? <;> rfl)
  have HP := Lib.hid hP
  clear hP hln hl0
  have hs2 : w.heap.size + 2 ≤ ((w.alloc (.cells #[.slice a n c] 35)).alloc (.cells #[.int .i64 102, .int .i64 (m : Int), .int .i64 arg] 116)).heap.size := by simp
  by_cases hfit : P.length < m
  · have HR := Lib.hid (show moS l k 102 (m : Int) arg op = none by rw [HR0.out, List.getElem?_eq_none (by omega)])
    go_enter Try.func82, Try.ntmps82
    go_upto_region 1 with fail
    change Code.wp _ _ _ _ ((w.alloc (.cells #[.slice a n c] 35)).alloc (.cells #[.int .i64 102, .int .i64 (m : Int), .int .i64 arg] 116))
    generalize (w.alloc (.cells #[.slice a n c] 35)).alloc (.cells #[.int .i64 102, .int .i64 (m : Int), .int .i64 arg] 116) = w1 at *
    go_quiet (fail)
    go_wp2_with ((go_at_call 153); refine (ref_finds_right a n c l k arg _ (hI.drewN _) HN.out hn2 hk).mono ?_; rintro e w5 ⟨v5, rfl, hown5, hb5⟩; rw [HP.out] at hown5; obtain ⟨a5, n5, c5, rfl⟩ := hown5.form; have l5 := hown5.get.1; have L5 := Lib.hid l5; have l6 : n5 < m := (by omega); clear l5)
    go_ret3
    exact RGoPost.no HR.out (below_then (below_drewN hacc _) (by show w.heap.size ≤ w1.heap.size; omega) hb5)
  · have hx0 : P[m - 1]? = some (ix P (m - 1)) := by rw [ix_eq (by omega), List.getElem?_eq_getElem (by omega)]
    obtain ⟨x, hx⟩ : ∃ x, ix P (m - 1) = x := ⟨_, rfl⟩
    rw [hx] at hx0
    have hxb := hPx x (List.mem_of_getElem? hx0)
    obtain ⟨x1, x2⟩ := hxb
    have HR := Lib.hid (show moS l k 102 (m : Int) arg op = some (x, true) by rw [HR0.out, hx0])
    have HX := Lib.hid hx
    clear hx hx0 hPx
    go_enter Try.func82, Try.ntmps82
    go_upto_region 1 with fail
    change Code.wp _ _ _ _ ((w.alloc (.cells #[.slice a n c] 35)).alloc (.cells #[.int .i64 102, .int .i64 (m : Int), .int .i64 arg] 116))
    generalize (w.alloc (.cells #[.slice a n c] 35)).alloc (.cells #[.int .i64 102, .int .i64 (m : Int), .int .i64 arg] 116) = w1 at *
    go_quiet (fail)
    go_wp2_with ((go_at_call 153); refine (ref_finds_right a n c l k arg _ (hI.drewN _) HN.out hn2 hk).mono ?_; rintro e w5 ⟨v5, rfl, hown5, hb5⟩; rw [HP.out] at hown5; obtain ⟨a5, n5, c5, rfl⟩ := hown5.form; have l5 := hown5.get.1; have L5 := Lib.hid l5; have l6 : m ≤ n5 := (by omega); obtain ⟨b7, o7, rfl, hc7⟩ := (hown5.get.2.1).at (k := m - 1) (by omega); have e7 := hc7 (m - 1) (by omega); rw [HX.out] at e7; (try simp only [Nat.sub_self, Nat.add_zero] at e7); clear hc7 l5; have hi7 : (0 : Int) ≤ (m : Int) - 1 := (by omega); have hi8 : (m : Int) - 1 < (n5 : Int) := (by omega); have hi9 : ((m : Int) - 1).toNat = m - 1 := (by omega); have hB8 := (hB6.drewN _).below hb5 (by show w.heap.size + 1 < w1.heap.size; omega); obtain ⟨z0, z1, z2, -, -, -⟩ := hB8.three )
    go_quiet (fail)
    go_wp2
    go_ret3
    exact RGoPost.yes HR.out (below_drewN (below_then (below_drewN hacc _) (by show w.heap.size ≤ w1.heap.size; omega) hb5) _)

set_option maxRecDepth 100000 in
set_option maxHeartbeats 2000000 in
theorem rgo_116_Z (a : Option Addr) (n c : Nat) (l : List Int) (k : Nat) (arg : Int) (op : Bool) (w : World) (hl : Ints w a l) (hn : l.length = n) (hn2 : n ≤ 4096) (hk : k ≤ n) (hk2 : k < n ∨ n = 0) (h0 : 1 ≤ n) (hl0 : l.length ≠ 0) :
    Calls Try.prog 82 #[.slice a n c, .int .i64 (k : Int), mvV 116 0 arg, .bool op] w (RGoPost (moS l k 116 1 arg op) w) := by
  have hm0 : 1 ≤ 1 := Nat.le_refl _
  have hm1 : 1 ≤ 999 := by omega
  unfold mvV
  have hB4 := (Blk.new w #[.slice a n c] 35).alloc (.cells #[.int .i64 116, .int .i64 0, .int .i64 arg] 116)
  obtain ⟨c4, -⟩ := hB4.one
  have hB6 := Blk.new (w.alloc (.cells #[.slice a n c] 35)) #[.int .i64 116, .int .i64 0, .int .i64 arg] 116
  rw [World.size_alloc] at hB6
  obtain ⟨c0, c1, c2, -, -, -⟩ := hB6.three
  have hacc := below2 w (.cells #[.slice a n c] 35) (.cells #[.int .i64 116, .int .i64 0, .int .i64 arg] 116)
  have hI := hl.below hacc
  have HN := Lib.hid hn
  clear hn
  have hn0 : ((n : Int) == 0) = false := by simp; omega
  have hln : ((l.length : Nat) : Int) = (n : Int) := by rw [HN.out]
  obtain ⟨P, hP⟩ : ∃ P, placesR l k arg = P := ⟨_, rfl⟩
  have hPl : P.length ≤ 4096 := by
    have hh := HN.out
    rw [← hP]
    have := plU_len l arg (l.length - (k + 1)) (k + 1); unfold placesR; omega
  have hPx : ∀ x ∈ P, 0 ≤ x ∧ x ≤ 4096 := by
    have hh := HN.out
    rw [← hP]
    intro x hx
    have := plU_in _ _ _ _ x hx; omega
  have HR0 := Lib.hid (show moS l k 116 1 arg op = (match P[1 - 1]? with | some x => some (x - 1, true) | none => none) by rw [← hP]; simp [moS]; cases (placesR l k arg)[1 - 1]? <;> rfl)
  have HP := Lib.hid hP
  clear hP hln hl0
  have hs2 : w.heap.size + 2 ≤ ((w.alloc (.cells #[.slice a n c] 35)).alloc (.cells #[.int .i64 116, .int .i64 0, .int .i64 arg] 116)).heap.size := by simp
  by_cases hfit : P.length < 1
  · have HR := Lib.hid (show moS l k 116 1 arg op = none by rw [HR0.out, List.getElem?_eq_none (by omega)])
    go_enter Try.func82, Try.ntmps82
    go_upto_region 1 with fail
    change Code.wp _ _ _ _ ((w.alloc (.cells #[.slice a n c] 35)).alloc (.cells #[.int .i64 116, .int .i64 0, .int .i64 arg] 116))
    generalize (w.alloc (.cells #[.slice a n c] 35)).alloc (.cells #[.int .i64 116, .int .i64 0, .int .i64 arg] 116) = w1 at *
    go_quiet (fail)
    go_wp2_with ((go_at_call 153); refine (ref_finds_right a n c l k arg _ (hI.drewN _) HN.out hn2 hk).mono ?_; rintro e w5 ⟨v5, rfl, hown5, hb5⟩; rw [HP.out] at hown5; obtain ⟨a5, n5, c5, rfl⟩ := hown5.form; have l5 := hown5.get.1; have L5 := Lib.hid l5; have l6 : n5 < 1 := (by omega); clear l5)
    go_ret3
    exact RGoPost.no HR.out (below_then (below_drewN hacc _) (by show w.heap.size ≤ w1.heap.size; omega) hb5)
  · have hx0 : P[1 - 1]? = some (ix P (1 - 1)) := by rw [ix_eq (by omega), List.getElem?_eq_getElem (by omega)]
    obtain ⟨x, hx⟩ : ∃ x, ix P (1 - 1) = x := ⟨_, rfl⟩
    rw [hx] at hx0
    have hxb := hPx x (List.mem_of_getElem? hx0)
    obtain ⟨x1, x2⟩ := hxb
    have HR := Lib.hid (show moS l k 116 1 arg op = some (x - 1, true) by rw [HR0.out, hx0])
    have HX := Lib.hid hx
    clear hx hx0 hPx
    go_enter Try.func82, Try.ntmps82
    go_upto_region 1 with fail
    change Code.wp _ _ _ _ ((w.alloc (.cells #[.slice a n c] 35)).alloc (.cells #[.int .i64 116, .int .i64 0, .int .i64 arg] 116))
    generalize (w.alloc (.cells #[.slice a n c] 35)).alloc (.cells #[.int .i64 116, .int .i64 0, .int .i64 arg] 116) = w1 at *
    go_quiet (fail)
    go_wp2_with ((go_at_call 153); refine (ref_finds_right a n c l k arg _ (hI.drewN _) HN.out hn2 hk).mono ?_; rintro e w5 ⟨v5, rfl, hown5, hb5⟩; rw [HP.out] at hown5; obtain ⟨a5, n5, c5, rfl⟩ := hown5.form; have l5 := hown5.get.1; have L5 := Lib.hid l5; have l6 : 1 ≤ n5 := (by omega); obtain ⟨b7, o7, rfl, hc7⟩ := (hown5.get.2.1).at (k := 1 - 1) (by omega); have e7 := hc7 (1 - 1) (by omega); rw [HX.out] at e7; (try simp only [Nat.sub_self, Nat.add_zero] at e7); clear hc7 l5; have hi7 : (0 : Int) ≤ 1 - 1 := (by omega); have hi8 : 1 - 1 < (n5 : Int) := (by omega);  have hB8 := (hB6.drewN _).below hb5 (by show w.heap.size + 1 < w1.heap.size; omega); obtain ⟨z0, z1, z2, -, -, -⟩ := hB8.three )
    go_ret3
    exact RGoPost.yes HR.out (below_then (below_drewN hacc _) (by show w.heap.size ≤ w1.heap.size; omega) hb5)

set_option maxRecDepth 100000 in
set_option maxHeartbeats 2000000 in
theorem rgo_116_P (a : Option Addr) (n c : Nat) (l : List Int) (k : Nat) (arg : Int) (op : Bool) (w : World) (hl : Ints w a l) (hn : l.length = n) (hn2 : n ≤ 4096) (hk : k ≤ n) (hk2 : k < n ∨ n = 0) (m : Nat) (hm0 : 1 ≤ m) (hm1 : m ≤ 999) (h0 : 1 ≤ n) (hl0 : l.length ≠ 0) :
    Calls Try.prog 82 #[.slice a n c, .int .i64 (k : Int), mvV 116 (m : Int) arg, .bool op] w (RGoPost (moS l k 116 (m : Int) arg op) w) := by
  have hmz : ((m : Int) == 0) = false := by simp; omega
  unfold mvV
  have hB4 := (Blk.new w #[.slice a n c] 35).alloc (.cells #[.int .i64 116, .int .i64 (m : Int), .int .i64 arg] 116)
  obtain ⟨c4, -⟩ := hB4.one
  have hB6 := Blk.new (w.alloc (.cells #[.slice a n c] 35)) #[.int .i64 116, .int .i64 (m : Int), .int .i64 arg] 116
  rw [World.size_alloc] at hB6
  obtain ⟨c0, c1, c2, -, -, -⟩ := hB6.three
  have hacc := below2 w (.cells #[.slice a n c] 35) (.cells #[.int .i64 116, .int .i64 (m : Int), .int .i64 arg] 116)
  have hI := hl.below hacc
  have HN := Lib.hid hn
  clear hn
  have hn0 : ((n : Int) == 0) = false := by simp; omega
  have hln : ((l.length : Nat) : Int) = (n : Int) := by rw [HN.out]
  obtain ⟨P, hP⟩ : ∃ P, placesR l k arg = P := ⟨_, rfl⟩
  have hPl : P.length ≤ 4096 := by
    have hh := HN.out
    rw [← hP]
    have := plU_len l arg (l.length - (k + 1)) (k + 1); unfold placesR; omega
  have hPx : ∀ x ∈ P, 0 ≤ x ∧ x ≤ 4096 := by
    have hh := HN.out
    rw [← hP]
    intro x hx
    have := plU_in _ _ _ _ x hx; omega
  have HR0 := Lib.hid (show moS l k 116 (m : Int) arg op = (match P[m - 1]? with | some x => some (x - 1, true) | none => none) by rw [← hP]; simp [moS]; cases (placesR l k arg)[m - 1]? <;> rfl)
  have HP := Lib.hid hP
  clear hP hln hl0
  have hs2 : w.heap.size + 2 ≤ ((w.alloc (.cells #[.slice a n c] 35)).alloc (.cells #[.int .i64 116, .int .i64 (m : Int), .int .i64 arg] 116)).heap.size := by simp
  by_cases hfit : P.length < m
  · have HR := Lib.hid (show moS l k 116 (m : Int) arg op = none by rw [HR0.out, List.getElem?_eq_none (by omega)])
    go_enter Try.func82, Try.ntmps82
    go_upto_region 1 with fail
    change Code.wp _ _ _ _ ((w.alloc (.cells #[.slice a n c] 35)).alloc (.cells #[.int .i64 116, .int .i64 (m : Int), .int .i64 arg] 116))
    generalize (w.alloc (.cells #[.slice a n c] 35)).alloc (.cells #[.int .i64 116, .int .i64 (m : Int), .int .i64 arg] 116) = w1 at *
    go_quiet (fail)
    go_wp2_with ((go_at_call 153); refine (ref_finds_right a n c l k arg _ (hI.drewN _) HN.out hn2 hk).mono ?_; rintro e w5 ⟨v5, rfl, hown5, hb5⟩; rw [HP.out] at hown5; obtain ⟨a5, n5, c5, rfl⟩ := hown5.form; have l5 := hown5.get.1; have L5 := Lib.hid l5; have l6 : n5 < m := (by omega); clear l5)
    go_ret3
    exact RGoPost.no HR.out (below_then (below_drewN hacc _) (by show w.heap.size ≤ w1.heap.size; omega) hb5)
  · have hx0 : P[m - 1]? = some (ix P (m - 1)) := by rw [ix_eq (by omega), List.getElem?_eq_getElem (by omega)]
    obtain ⟨x, hx⟩ : ∃ x, ix P (m - 1) = x := ⟨_, rfl⟩
    rw [hx] at hx0
    have hxb := hPx x (List.mem_of_getElem? hx0)
    obtain ⟨x1, x2⟩ := hxb
    have HR := Lib.hid (show moS l k 116 (m : Int) arg op = some (x - 1, true) by rw [HR0.out, hx0])
    have HX := Lib.hid hx
    clear hx hx0 hPx
    go_enter Try.func82, Try.ntmps82
    go_upto_region 1 with fail
    change Code.wp _ _ _ _ ((w.alloc (.cells #[.slice a n c] 35)).alloc (.cells #[.int .i64 116, .int .i64 (m : Int), .int .i64 arg] 116))
    generalize (w.alloc (.cells #[.slice a n c] 35)).alloc (.cells #[.int .i64 116, .int .i64 (m : Int), .int .i64 arg] 116) = w1 at *
    go_quiet (fail)
    go_wp2_with ((go_at_call 153); refine (ref_finds_right a n c l k arg _ (hI.drewN _) HN.out hn2 hk).mono ?_; rintro e w5 ⟨v5, rfl, hown5, hb5⟩; rw [HP.out] at hown5; obtain ⟨a5, n5, c5, rfl⟩ := hown5.form; have l5 := hown5.get.1; have L5 := Lib.hid l5; have l6 : m ≤ n5 := (by omega); obtain ⟨b7, o7, rfl, hc7⟩ := (hown5.get.2.1).at (k := m - 1) (by omega); have e7 := hc7 (m - 1) (by omega); rw [HX.out] at e7; (try simp only [Nat.sub_self, Nat.add_zero] at e7); clear hc7 l5; have hi7 : (0 : Int) ≤ (m : Int) - 1 := (by omega); have hi8 : (m : Int) - 1 < (n5 : Int) := (by omega); have hi9 : ((m : Int) - 1).toNat = m - 1 := (by omega); have hB8 := (hB6.drewN _).below hb5 (by show w.heap.size + 1 < w1.heap.size; omega); obtain ⟨z0, z1, z2, -, -, -⟩ := hB8.three )
    go_ret3
    exact RGoPost.yes HR.out (below_then (below_drewN hacc _) (by show w.heap.size ≤ w1.heap.size; omega) hb5)

set_option maxRecDepth 100000 in
set_option maxHeartbeats 2000000 in
theorem rgo_70_Z (a : Option Addr) (n c : Nat) (l : List Int) (k : Nat) (arg : Int) (op : Bool) (w : World) (hl : Ints w a l) (hn : l.length = n) (hn2 : n ≤ 4096) (hk : k ≤ n) (hk2 : k < n ∨ n = 0) (h0 : 1 ≤ n) (hl0 : l.length ≠ 0) :
    Calls Try.prog 82 #[.slice a n c, .int .i64 (k : Int), mvV 70 0 arg, .bool op] w (RGoPost (moS l k 70 1 arg op) w) := by
  have hm0 : 1 ≤ 1 := Nat.le_refl _
  have hm1 : 1 ≤ 999 := by omega
  unfold mvV
  have hB4 := (Blk.new w #[.slice a n c] 35).alloc (.cells #[.int .i64 70, .int .i64 0, .int .i64 arg] 116)
  obtain ⟨c4, -⟩ := hB4.one
  have hB6 := Blk.new (w.alloc (.cells #[.slice a n c] 35)) #[.int .i64 70, .int .i64 0, .int .i64 arg] 116
  rw [World.size_alloc] at hB6
  obtain ⟨c0, c1, c2, -, -, -⟩ := hB6.three
  have hacc := below2 w (.cells #[.slice a n c] 35) (.cells #[.int .i64 70, .int .i64 0, .int .i64 arg] 116)
  have hI := hl.below hacc
  have HN := Lib.hid hn
  clear hn
  have hn0 : ((n : Int) == 0) = false := by simp; omega
  have hln : ((l.length : Nat) : Int) = (n : Int) := by rw [HN.out]
  obtain ⟨P, hP⟩ : ∃ P, placesL l k arg = P := ⟨_, rfl⟩
  have hPl : P.length ≤ 4096 := by
    have hh := HN.out
    rw [← hP]
    have := plD_len l arg k; unfold placesL; omega
  have hPx : ∀ x ∈ P, 0 ≤ x ∧ x ≤ 4096 := by
    have hh := HN.out
    rw [← hP]
    intro x hx
    have := plD_in _ _ _ x hx; omega
  have HR0 := Lib.hid (show moS l k 70 1 arg op = (match P[1 - 1]? with | some x => some (x, false) | none => none) by rw [← hP]; simp [moS]; cases (placesL l k arg)[1 - 1]? <;> rfl)
  have HP := Lib.hid hP
  clear hP hln hl0
  have hs2 : w.heap.size + 2 ≤ ((w.alloc (.cells #[.slice a n c] 35)).alloc (.cells #[.int .i64 70, .int .i64 0, .int .i64 arg] 116)).heap.size := by simp
  by_cases hfit : P.length < 1
  · have HR := Lib.hid (show moS l k 70 1 arg op = none by rw [HR0.out, List.getElem?_eq_none (by omega)])
    go_enter Try.func82, Try.ntmps82
    go_upto_region 1 with fail
    change Code.wp _ _ _ _ ((w.alloc (.cells #[.slice a n c] 35)).alloc (.cells #[.int .i64 70, .int .i64 0, .int .i64 arg] 116))
    generalize (w.alloc (.cells #[.slice a n c] 35)).alloc (.cells #[.int .i64 70, .int .i64 0, .int .i64 arg] 116) = w1 at *
    go_quiet (fail)
    go_wp2_with ((go_at_call 153); refine (ref_finds_left a n c l k arg _ (hI.drewN _) HN.out hn2 hk).mono ?_; rintro e w5 ⟨v5, rfl, hown5, hb5⟩; rw [HP.out] at hown5; obtain ⟨a5, n5, c5, rfl⟩ := hown5.form; have l5 := hown5.get.1; have L5 := Lib.hid l5; have l6 : n5 < 1 := (by omega); clear l5)
    go_ret3
    exact RGoPost.no HR.out (below_then (below_drewN hacc _) (by show w.heap.size ≤ w1.heap.size; omega) hb5)
  · have hx0 : P[1 - 1]? = some (ix P (1 - 1)) := by rw [ix_eq (by omega), List.getElem?_eq_getElem (by omega)]
    obtain ⟨x, hx⟩ : ∃ x, ix P (1 - 1) = x := ⟨_, rfl⟩
    rw [hx] at hx0
    have hxb := hPx x (List.mem_of_getElem? hx0)
    obtain ⟨x1, x2⟩ := hxb
    have HR := Lib.hid (show moS l k 70 1 arg op = some (x, false) by rw [HR0.out, hx0])
    have HX := Lib.hid hx
    clear hx hx0 hPx
    go_enter Try.func82, Try.ntmps82
    go_upto_region 1 with fail
    change Code.wp _ _ _ _ ((w.alloc (.cells #[.slice a n c] 35)).alloc (.cells #[.int .i64 70, .int .i64 0, .int .i64 arg] 116))
    generalize (w.alloc (.cells #[.slice a n c] 35)).alloc (.cells #[.int .i64 70, .int .i64 0, .int .i64 arg] 116) = w1 at *
    go_quiet (fail)
    go_wp2_with ((go_at_call 153); refine (ref_finds_left a n c l k arg _ (hI.drewN _) HN.out hn2 hk).mono ?_; rintro e w5 ⟨v5, rfl, hown5, hb5⟩; rw [HP.out] at hown5; obtain ⟨a5, n5, c5, rfl⟩ := hown5.form; have l5 := hown5.get.1; have L5 := Lib.hid l5; have l6 : 1 ≤ n5 := (by omega); obtain ⟨b7, o7, rfl, hc7⟩ := (hown5.get.2.1).at (k := 1 - 1) (by omega); have e7 := hc7 (1 - 1) (by omega); rw [HX.out] at e7; (try simp only [Nat.sub_self, Nat.add_zero] at e7); clear hc7 l5; have hi7 : (0 : Int) ≤ 1 - 1 := (by omega); have hi8 : 1 - 1 < (n5 : Int) := (by omega);  have hB8 := (hB6.drewN _).below hb5 (by show w.heap.size + 1 < w1.heap.size; omega); obtain ⟨z0, z1, z2, -, -, -⟩ := hB8.three )
    go_quiet (fail)
    go_wp2
    go_ret3
    exact RGoPost.yes HR.out (below_drewN (below_then (below_drewN hacc _) (by show w.heap.size ≤ w1.heap.size; omega) hb5) _)

set_option maxRecDepth 100000 in
set_option maxHeartbeats 2000000 in
theorem rgo_70_P (a : Option Addr) (n c : Nat) (l : List Int) (k : Nat) (arg : Int) (op : Bool) (w : World) (hl : Ints w a l) (hn : l.length = n) (hn2 : n ≤ 4096) (hk : k ≤ n) (hk2 : k < n ∨ n = 0) (m : Nat) (hm0 : 1 ≤ m) (hm1 : m ≤ 999) (h0 : 1 ≤ n) (hl0 : l.length ≠ 0) :
    Calls Try.prog 82 #[.slice a n c, .int .i64 (k : Int), mvV 70 (m : Int) arg, .bool op] w (RGoPost (moS l k 70 (m : Int) arg op) w) := by
  have hmz : ((m : Int) == 0) = false := by simp; omega
  unfold mvV
  have hB4 := (Blk.new w #[.slice a n c] 35).alloc (.cells #[.int .i64 70, .int .i64 (m : Int), .int .i64 arg] 116)
  obtain ⟨c4, -⟩ := hB4.one
  have hB6 := Blk.new (w.alloc (.cells #[.slice a n c] 35)) #[.int .i64 70, .int .i64 (m : Int), .int .i64 arg] 116
  rw [World.size_alloc] at hB6
  obtain ⟨c0, c1, c2, -, -, -⟩ := hB6.three
  have hacc := below2 w (.cells #[.slice a n c] 35) (.cells #[.int .i64 70, .int .i64 (m : Int), .int .i64 arg] 116)
  have hI := hl.below hacc
  have HN := Lib.hid hn
  clear hn
  have hn0 : ((n : Int) == 0) = false := by simp; omega
  have hln : ((l.length : Nat) : Int) = (n : Int) := by rw [HN.out]
  obtain ⟨P, hP⟩ : ∃ P, placesL l k arg = P := ⟨_, rfl⟩
  have hPl : P.length ≤ 4096 := by
    have hh := HN.out
    rw [← hP]
    have := plD_len l arg k; unfold placesL; omega
  have hPx : ∀ x ∈ P, 0 ≤ x ∧ x ≤ 4096 := by
    have hh := HN.out
    rw [← hP]
    intro x hx
    have := plD_in _ _ _ x hx; omega
  have HR0 := Lib.hid (show moS l k 70 (m : Int) arg op = (match P[m - 1]? with | some x => some (x, false) | none => none) by rw [← hP]; simp [moS]; cases (placesL l k arg)[m - 1]? <;> rfl)
  have HP := Lib.hid hP
  clear hP hln hl0
  have hs2 : w.heap.size + 2 ≤ ((w.alloc (.cells #[.slice a n c] 35)).alloc (.cells #[.int .i64 70, .int .i64 (m : Int), .int .i64 arg] 116)).heap.size := by simp
  by_cases hfit : P.length < m
  · have HR := Lib.hid (show moS l k 70 (m : Int) arg op = none by rw [HR0.out, List.getElem?_eq_none (by omega)])
    go_enter Try.func82, Try.ntmps82
    go_upto_region 1 with fail
    change Code.wp _ _ _ _ ((w.alloc (.cells #[.slice a n c] 35)).alloc (.cells #[.int .i64 70, .int .i64 (m : Int), .int .i64 arg] 116))
    generalize (w.alloc (.cells #[.slice a n c] 35)).alloc (.cells #[.int .i64 70, .int .i64 (m : Int), .int .i64 arg] 116) = w1 at *
    go_quiet (fail)
    go_wp2_with ((go_at_call 153); refine (ref_finds_left a n c l k arg _ (hI.drewN _) HN.out hn2 hk).mono ?_; rintro e w5 ⟨v5, rfl, hown5, hb5⟩; rw [HP.out] at hown5; obtain ⟨a5, n5, c5, rfl⟩ := hown5.form; have l5 := hown5.get.1; have L5 := Lib.hid l5; have l6 : n5 < m := (by omega); clear l5)
    go_ret3
    exact RGoPost.no HR.out (below_then (below_drewN hacc _) (by show w.heap.size ≤ w1.heap.size; omega) hb5)
  · have hx0 : P[m - 1]? = some (ix P (m - 1)) := by rw [ix_eq (by omega), List.getElem?_eq_getElem (by omega)]
    obtain ⟨x, hx⟩ : ∃ x, ix P (m - 1) = x := ⟨_, rfl⟩
    rw [hx] at hx0
    have hxb := hPx x (List.mem_of_getElem? hx0)
    obtain ⟨x1, x2⟩ := hxb
    have HR := Lib.hid (show moS l k 70 (m : Int) arg op = some (x, false) by rw [HR0.out, hx0])
    have HX := Lib.hid hx
    clear hx hx0 hPx
    go_enter Try.func82, Try.ntmps82
    go_upto_region 1 with fail
    change Code.wp _ _ _ _ ((w.alloc (.cells #[.slice a n c] 35)).alloc (.cells #[.int .i64 70, .int .i64 (m : Int), .int .i64 arg] 116))
    generalize (w.alloc (.cells #[.slice a n c] 35)).alloc (.cells #[.int .i64 70, .int .i64 (m : Int), .int .i64 arg] 116) = w1 at *
    go_quiet (fail)
    go_wp2_with ((go_at_call 153); refine (ref_finds_left a n c l k arg _ (hI.drewN _) HN.out hn2 hk).mono ?_; rintro e w5 ⟨v5, rfl, hown5, hb5⟩; rw [HP.out] at hown5; obtain ⟨a5, n5, c5, rfl⟩ := hown5.form; have l5 := hown5.get.1; have L5 := Lib.hid l5; have l6 : m ≤ n5 := (by omega); obtain ⟨b7, o7, rfl, hc7⟩ := (hown5.get.2.1).at (k := m - 1) (by omega); have e7 := hc7 (m - 1) (by omega); rw [HX.out] at e7; (try simp only [Nat.sub_self, Nat.add_zero] at e7); clear hc7 l5; have hi7 : (0 : Int) ≤ (m : Int) - 1 := (by omega); have hi8 : (m : Int) - 1 < (n5 : Int) := (by omega); have hi9 : ((m : Int) - 1).toNat = m - 1 := (by omega); have hB8 := (hB6.drewN _).below hb5 (by show w.heap.size + 1 < w1.heap.size; omega); obtain ⟨z0, z1, z2, -, -, -⟩ := hB8.three )
    go_quiet (fail)
    go_wp2
    go_ret3
    exact RGoPost.yes HR.out (below_drewN (below_then (below_drewN hacc _) (by show w.heap.size ≤ w1.heap.size; omega) hb5) _)

set_option maxRecDepth 100000 in
set_option maxHeartbeats 2000000 in
theorem rgo_84_Z (a : Option Addr) (n c : Nat) (l : List Int) (k : Nat) (arg : Int) (op : Bool) (w : World) (hl : Ints w a l) (hn : l.length = n) (hn2 : n ≤ 4096) (hk : k ≤ n) (hk2 : k < n ∨ n = 0) (h0 : 1 ≤ n) (hl0 : l.length ≠ 0) :
    Calls Try.prog 82 #[.slice a n c, .int .i64 (k : Int), mvV 84 0 arg, .bool op] w (RGoPost (moS l k 84 1 arg op) w) := by
  have hm0 : 1 ≤ 1 := Nat.le_refl _
  have hm1 : 1 ≤ 999 := by omega
  unfold mvV
  have hB4 := (Blk.new w #[.slice a n c] 35).alloc (.cells #[.int .i64 84, .int .i64 0, .int .i64 arg] 116)
  obtain ⟨c4, -⟩ := hB4.one
  have hB6 := Blk.new (w.alloc (.cells #[.slice a n c] 35)) #[.int .i64 84, .int .i64 0, .int .i64 arg] 116
  rw [World.size_alloc] at hB6
  obtain ⟨c0, c1, c2, -, -, -⟩ := hB6.three
  have hacc := below2 w (.cells #[.slice a n c] 35) (.cells #[.int .i64 84, .int .i64 0, .int .i64 arg] 116)
  have hI := hl.below hacc
  have HN := Lib.hid hn
  clear hn
  have hn0 : ((n : Int) == 0) = false := by simp; omega
  have hln : ((l.length : Nat) : Int) = (n : Int) := by rw [HN.out]
  obtain ⟨P, hP⟩ : ∃ P, placesL l k arg = P := ⟨_, rfl⟩
  have hPl : P.length ≤ 4096 := by
    have hh := HN.out
    rw [← hP]
    have := plD_len l arg k; unfold placesL; omega
  have hPx : ∀ x ∈ P, 0 ≤ x ∧ x ≤ 4096 := by
    have hh := HN.out
    rw [← hP]
    intro x hx
    have := plD_in _ _ _ x hx; omega
  have HR0 := Lib.hid (show moS l k 84 1 arg op = (match P[1 - 1]? with | some x => some (x + 1, false) | none => none) by rw [← hP]; simp [moS]; cases (placesL l k arg)[1 - 1]? <;> rfl)
  have HP := Lib.hid hP
  clear hP hln hl0
  have hs2 : w.heap.size + 2 ≤ ((w.alloc (.cells #[.slice a n c] 35)).alloc (.cells #[.int .i64 84, .int .i64 0, .int .i64 arg] 116)).heap.size := by simp
  by_cases hfit : P.length < 1
  · have HR := Lib.hid (show moS l k 84 1 arg op = none by rw [HR0.out, List.getElem?_eq_none (by omega)])
    go_enter Try.func82, Try.ntmps82
    go_upto_region 1 with fail
    change Code.wp _ _ _ _ ((w.alloc (.cells #[.slice a n c] 35)).alloc (.cells #[.int .i64 84, .int .i64 0, .int .i64 arg] 116))
    generalize (w.alloc (.cells #[.slice a n c] 35)).alloc (.cells #[.int .i64 84, .int .i64 0, .int .i64 arg] 116) = w1 at *
    go_quiet (fail)
    go_wp2_with ((go_at_call 153); refine (ref_finds_left a n c l k arg _ (hI.drewN _) HN.out hn2 hk).mono ?_; rintro e w5 ⟨v5, rfl, hown5, hb5⟩; rw [HP.out] at hown5; obtain ⟨a5, n5, c5, rfl⟩ := hown5.form; have l5 := hown5.get.1; have L5 := Lib.hid l5; have l6 : n5 < 1 := (by omega); clear l5)
    go_ret3
    exact RGoPost.no HR.out (below_then (below_drewN hacc _) (by show w.heap.size ≤ w1.heap.size; omega) hb5)
  · have hx0 : P[1 - 1]? = some (ix P (1 - 1)) := by rw [ix_eq (by omega), List.getElem?_eq_getElem (by omega)]
    obtain ⟨x, hx⟩ : ∃ x, ix P (1 - 1) = x := ⟨_, rfl⟩
    rw [hx] at hx0
    have hxb := hPx x (List.mem_of_getElem? hx0)
    obtain ⟨x1, x2⟩ := hxb
    have HR := Lib.hid (show moS l k 84 1 arg op = some (x + 1, false) by rw [HR0.out, hx0])
    have HX := Lib.hid hx
    clear hx hx0 hPx
    go_enter Try.func82, Try.ntmps82
    go_upto_region 1 with fail
    change Code.wp _ _ _ _ ((w.alloc (.cells #[.slice a n c] 35)).alloc (.cells #[.int .i64 84, .int .i64 0, .int .i64 arg] 116))
    generalize (w.alloc (.cells #[.slice a n c] 35)).alloc (.cells #[.int .i64 84, .int .i64 0, .int .i64 arg] 116) = w1 at *
    go_quiet (fail)
    go_wp2_with ((go_at_call 153); refine (ref_finds_left a n c l k arg _ (hI.drewN _) HN.out hn2 hk).mono ?_; rintro e w5 ⟨v5, rfl, hown5, hb5⟩; rw [HP.out] at hown5; obtain ⟨a5, n5, c5, rfl⟩ := hown5.form; have l5 := hown5.get.1; have L5 := Lib.hid l5; have l6 : 1 ≤ n5 := (by omega); obtain ⟨b7, o7, rfl, hc7⟩ := (hown5.get.2.1).at (k := 1 - 1) (by omega); have e7 := hc7 (1 - 1) (by omega); rw [HX.out] at e7; (try simp only [Nat.sub_self, Nat.add_zero] at e7); clear hc7 l5; have hi7 : (0 : Int) ≤ 1 - 1 := (by omega); have hi8 : 1 - 1 < (n5 : Int) := (by omega);  have hB8 := (hB6.drewN _).below hb5 (by show w.heap.size + 1 < w1.heap.size; omega); obtain ⟨z0, z1, z2, -, -, -⟩ := hB8.three )
    go_ret3
    exact RGoPost.yes HR.out (below_then (below_drewN hacc _) (by show w.heap.size ≤ w1.heap.size; omega) hb5)

set_option maxRecDepth 100000 in
set_option maxHeartbeats 2000000 in
theorem rgo_84_P (a : Option Addr) (n c : Nat) (l : List Int) (k : Nat) (arg : Int) (op : Bool) (w : World) (hl : Ints w a l) (hn : l.length = n) (hn2 : n ≤ 4096) (hk : k ≤ n) (hk2 : k < n ∨ n = 0) (m : Nat) (hm0 : 1 ≤ m) (hm1 : m ≤ 999) (h0 : 1 ≤ n) (hl0 : l.length ≠ 0) :
    Calls Try.prog 82 #[.slice a n c, .int .i64 (k : Int), mvV 84 (m : Int) arg, .bool op] w (RGoPost (moS l k 84 (m : Int) arg op) w) := by
  have hmz : ((m : Int) == 0) = false := by simp; omega
  unfold mvV
  have hB4 := (Blk.new w #[.slice a n c] 35).alloc (.cells #[.int .i64 84, .int .i64 (m : Int), .int .i64 arg] 116)
  obtain ⟨c4, -⟩ := hB4.one
  have hB6 := Blk.new (w.alloc (.cells #[.slice a n c] 35)) #[.int .i64 84, .int .i64 (m : Int), .int .i64 arg] 116
  rw [World.size_alloc] at hB6
  obtain ⟨c0, c1, c2, -, -, -⟩ := hB6.three
  have hacc := below2 w (.cells #[.slice a n c] 35) (.cells #[.int .i64 84, .int .i64 (m : Int), .int .i64 arg] 116)
  have hI := hl.below hacc
  have HN := Lib.hid hn
  clear hn
  have hn0 : ((n : Int) == 0) = false := by simp; omega
  have hln : ((l.length : Nat) : Int) = (n : Int) := by rw [HN.out]
  obtain ⟨P, hP⟩ : ∃ P, placesL l k arg = P := ⟨_, rfl⟩
  have hPl : P.length ≤ 4096 := by
    have hh := HN.out
    rw [← hP]
    have := plD_len l arg k; unfold placesL; omega
  have hPx : ∀ x ∈ P, 0 ≤ x ∧ x ≤ 4096 := by
    have hh := HN.out
    rw [← hP]
    intro x hx
    have := plD_in _ _ _ x hx; omega
  have HR0 := Lib.hid (show moS l k 84 (m : Int) arg op = (match P[m - 1]? with | some x => some (x + 1, false) | none => none) by rw [← hP]; simp [moS]; cases (placesL l k arg)[m - 1]? <;> rfl)
  have HP := Lib.hid hP
  clear hP hln hl0
  have hs2 : w.heap.size + 2 ≤ ((w.alloc (.cells #[.slice a n c] 35)).alloc (.cells #[.int .i64 84, .int .i64 (m : Int), .int .i64 arg] 116)).heap.size := by simp
  by_cases hfit : P.length < m
  · have HR := Lib.hid (show moS l k 84 (m : Int) arg op = none by rw [HR0.out, List.getElem?_eq_none (by omega)])
    go_enter Try.func82, Try.ntmps82
    go_upto_region 1 with fail
    change Code.wp _ _ _ _ ((w.alloc (.cells #[.slice a n c] 35)).alloc (.cells #[.int .i64 84, .int .i64 (m : Int), .int .i64 arg] 116))
    generalize (w.alloc (.cells #[.slice a n c] 35)).alloc (.cells #[.int .i64 84, .int .i64 (m : Int), .int .i64 arg] 116) = w1 at *
    go_quiet (fail)
    go_wp2_with ((go_at_call 153); refine (ref_finds_left a n c l k arg _ (hI.drewN _) HN.out hn2 hk).mono ?_; rintro e w5 ⟨v5, rfl, hown5, hb5⟩; rw [HP.out] at hown5; obtain ⟨a5, n5, c5, rfl⟩ := hown5.form; have l5 := hown5.get.1; have L5 := Lib.hid l5; have l6 : n5 < m := (by omega); clear l5)
    go_ret3
    exact RGoPost.no HR.out (below_then (below_drewN hacc _) (by show w.heap.size ≤ w1.heap.size; omega) hb5)
  · have hx0 : P[m - 1]? = some (ix P (m - 1)) := by rw [ix_eq (by omega), List.getElem?_eq_getElem (by omega)]
    obtain ⟨x, hx⟩ : ∃ x, ix P (m - 1) = x := ⟨_, rfl⟩
    rw [hx] at hx0
    have hxb := hPx x (List.mem_of_getElem? hx0)
    obtain ⟨x1, x2⟩ := hxb
    have HR := Lib.hid (show moS l k 84 (m : Int) arg op = some (x + 1, false) by rw [HR0.out, hx0])
    have HX := Lib.hid hx
    clear hx hx0 hPx
    go_enter Try.func82, Try.ntmps82
    go_upto_region 1 with fail
    change Code.wp _ _ _ _ ((w.alloc (.cells #[.slice a n c] 35)).alloc (.cells #[.int .i64 84, .int .i64 (m : Int), .int .i64 arg] 116))
    generalize (w.alloc (.cells #[.slice a n c] 35)).alloc (.cells #[.int .i64 84, .int .i64 (m : Int), .int .i64 arg] 116) = w1 at *
    go_quiet (fail)
    go_wp2_with ((go_at_call 153); refine (ref_finds_left a n c l k arg _ (hI.drewN _) HN.out hn2 hk).mono ?_; rintro e w5 ⟨v5, rfl, hown5, hb5⟩; rw [HP.out] at hown5; obtain ⟨a5, n5, c5, rfl⟩ := hown5.form; have l5 := hown5.get.1; have L5 := Lib.hid l5; have l6 : m ≤ n5 := (by omega); obtain ⟨b7, o7, rfl, hc7⟩ := (hown5.get.2.1).at (k := m - 1) (by omega); have e7 := hc7 (m - 1) (by omega); rw [HX.out] at e7; (try simp only [Nat.sub_self, Nat.add_zero] at e7); clear hc7 l5; have hi7 : (0 : Int) ≤ (m : Int) - 1 := (by omega); have hi8 : (m : Int) - 1 < (n5 : Int) := (by omega); have hi9 : ((m : Int) - 1).toNat = m - 1 := (by omega); have hB8 := (hB6.drewN _).below hb5 (by show w.heap.size + 1 < w1.heap.size; omega); obtain ⟨z0, z1, z2, -, -, -⟩ := hB8.three )
    go_ret3
    exact RGoPost.yes HR.out (below_then (below_drewN hacc _) (by show w.heap.size ≤ w1.heap.size; omega) hb5)

end Go.Proofs.Ytbgbcmfgncneiaa
