/- LiftEditDoes, part 9: joined from the texts Mot10 Mot11 MotB MotR Dr6 Rep2 Dr4. No condition of its own. -/
import Derived.Test.YtmipnikhgihcpaaEditDJ1
import Derived.Test.YtmipnikhgihcpaaEditDJ5
import Derived.Test.YtmipnikhgihcpaaEditDJ6
import Derived.Test.YtmipnikhgihcpaaEditDJ8
import Derived.Deep.RegionHeld3
set_option linter.unusedVariables false
set_option linter.unusedSimpArgs false
namespace Go.Proofs.Ytmipnikhgihcpaa
open Go.RowKit
set_option maxRecDepth 100000 in
set_option maxHeartbeats 2000000 in
theorem rgo_37_Z (a : Option Addr) (n c : Nat) (l : List Int) (k : Nat) (arg : Int) (op : Bool) (w : World) (hl : Ints w a l) (hn : l.length = n) (hn2 : n ≤ 4096) (hk : k ≤ n) (hk2 : k < n ∨ n = 0) (h0 : 1 ≤ n) (hl0 : l.length ≠ 0) :
  Calls Try.prog 146 #[.slice a n c, .int .i64 (k : Int), mvV 37 0 arg, .bool op] w (RGoPost (moS l k 37 1 arg op) w) := by
 have hm0 : 1 ≤ 1 := Nat.le_refl _
 have hm1 : 1 ≤ 999 := by omega
 unfold mvV
 have hB4 := (Blk.new w #[.slice a n c] 22).alloc (.cells #[.int .i64 37, .int .i64 0, .int .i64 arg] 227)
 obtain ⟨c4, -⟩ := hB4.one
 have hB6 := Blk.new (w.alloc (.cells #[.slice a n c] 22)) #[.int .i64 37, .int .i64 0, .int .i64 arg] 227
 rw [World.size_alloc] at hB6
 obtain ⟨c0, c1, c2, -, -, -⟩ := hB6.three
 have hacc := below2 w (.cells #[.slice a n c] 22) (.cells #[.int .i64 37, .int .i64 0, .int .i64 arg] 227)
 have hI := hl.below hacc
 have HN := Lib.hid hn
 clear hn
 have hn0 : ((n : Int) == 0) = false := by simp; omega
 have hln : ((l.length : Nat) : Int) = (n : Int) := by rw [HN.out]
 have hR0 : moS l k 37 1 arg op = partS l k := by
  unfold moS partS
  rw [if_neg (by decide), if_neg (by decide), if_neg (by decide), if_neg (by decide), if_neg (by decide), if_neg (by decide), if_neg (by decide), if_neg hl0, if_neg (by decide), if_neg (by decide), if_neg (by decide), if_neg (by decide)]
 have HR0 := Lib.hid hR0
 clear hR0 hln hl0
 have hsz : w.heap.size + 2 ≤ ((w.alloc (.cells #[.slice a n c] 22)).alloc (.cells #[.int .i64 37, .int .i64 0, .int .i64 arg] 227)).heap.size := by simp
 go_enter Try.func146, Try.ntmps146
 go_upto_region 1 with fail
 change Code.wp _ _ _ _ ((w.alloc (.cells #[.slice a n c] 22)).alloc (.cells #[.int .i64 37, .int .i64 0, .int .i64 arg] 227))
 generalize (w.alloc (.cells #[.slice a n c] 22)).alloc (.cells #[.int .i64 37, .int .i64 0, .int .i64 arg] 227) = w1 at *
 go_quiet (fail)
 go_wp2
 clear c4 c0 c1 c2
 go_loopw [18] (fun iv wr => ∃ i : Nat, iv = .int .i64 (i : Int) ∧ k ≤ i ∧ i ≤ n ∧ (∀ t, k ≤ t → t < i → openS (ix l t) = 0) ∧ Blk wr w.heap.size #[.slice a n c] 22 ∧ Below w.heap.size w wr ∧ w.heap.size + 2 ≤ wr.heap.size) (fun iv _ => n - (intOf iv).toNat)
 case atStart => exact ⟨k, rfl, by omega, by omega, fun t h1 h2 => by omega, hB4.drewN _, below_drewN hacc _, hsz⟩
 case round =>
  obtain ⟨i, rfl, hi1, hi2, hno, hB4, hbel, hsz⟩ := hrel
  have HO := Lib.hid hno; clear hno
  obtain ⟨c4, -⟩ := hB4.one
  have hI3 := hl.below hbel
  by_cases hlt : i < n
  ·obtain ⟨b1, o1, rfl, hc⟩ := hI3.at (k := i) (by rw [HN.out]; exact hlt)
   have e1 := hc i (by rw [HN.out]; exact hlt)
   clear hc hI3
   by_cases hz : openS (ix l i) = 0
   ·have hz' : (openS (ix l i) != 0) = false := by simpa using hz
    have HZ := Lib.hid hz; clear hz
    go_wp2_with ((go_at_call 193); refine (ref_bracket _ _).mono ?_; rintro e w5 ⟨rfl, hb5⟩; have hB5 := hB4.below hb5 hB4.lt; have hbel5 := below_then hbel (by omega) hb5; have hsz5 := hb5.size; obtain ⟨d4, -⟩ := hB5.one)
    go_roundw
    case rel => exact ⟨i + 1, by go_num, by omega, by omega, fun t h1 h2 => by
     rcases Nat.lt_succ_iff_lt_or_eq.1 h2 with h | rfl
     ·exact HO.out t h1 h
     ·exact HZ.out, hB5, hbel5, by omega⟩
    case measure => simp [intOf]; omega
   ·have hz' : (openS (ix l i) != 0) = true := by simpa using hz
    have HF := Lib.hid (show partF l k = ix (pRun l n n).out i by
     have := partF_hit hi1 (by rw [HN.out]; exact hlt) hz HO.out
     rwa [HN.out] at this)
    obtain ⟨y, hy⟩ : ∃ y, ix (pRun l n n).out i = y := ⟨_, rfl⟩
    have HF2 := Lib.hid (show partF l k = y by rw [HF.out, hy])
    have HPP := Lib.hid (show PartnerP l n i y by rw [← hy]; exact pairs_partner l n i hlt)
    clear hz hy HF
    have HCP := ref_partner (some ⟨b1, o1, none⟩) n c l i
    by_cases hneg : y < 0
    ·have HR := Lib.hid (show moS l k 37 1 arg op = none by rw [HR0.out, partS, HF2.out, if_pos hneg])
     go_wp2_with (first | ((go_at_call 193); refine (ref_bracket _ _).mono ?_; rintro e w5 ⟨rfl, hb5⟩; have hB5 := hB4.below hb5 hB4.lt; have hbel5 := below_then hbel (by omega) hb5; have hsz5 := hb5.size; obtain ⟨d4, -⟩ := hB5.one) | ((go_at_call 194); refine (HCP _ (hl.below hbel5) HN.out hn2 hlt).mono ?_; rintro e w6 ⟨r, rfl, hr, hb6⟩; obtain rfl := hr.one HPP.out))
     go_ret3
     exact RGoPost.no HR.out (below_then hbel5 (by omega) hb6)
    ·have HR := Lib.hid (show moS l k 37 1 arg op = some (y, true) by rw [HR0.out, partS, HF2.out, if_neg hneg])
     have hnb : decide (y < 0) = false := decide_eq_false hneg
     go_wp2_with (first | ((go_at_call 193); refine (ref_bracket _ _).mono ?_; rintro e w5 ⟨rfl, hb5⟩; have hB5 := hB4.below hb5 hB4.lt; have hbel5 := below_then hbel (by omega) hb5; have hsz5 := hb5.size; obtain ⟨d4, -⟩ := hB5.one) | ((go_at_call 194); refine (HCP _ (hl.below hbel5) HN.out hn2 hlt).mono ?_; rintro e w6 ⟨r, rfl, hr, hb6⟩; obtain rfl := hr.one HPP.out))
     go_ret3
     exact RGoPost.yes HR.out (below_then hbel5 (by omega) hb6)
  ·obtain rfl : i = n := by omega
   have HR := Lib.hid (show moS l k 37 1 arg op = none by rw [HR0.out, partS, partF_none (by rw [HN.out]; exact HO.out), if_pos (by omega)])
   go_wp2
   go_ret3
   exact RGoPost.no HR.out hbel
set_option maxRecDepth 100000 in
set_option maxHeartbeats 2000000 in
theorem rgo_37_P (a : Option Addr) (n c : Nat) (l : List Int) (k : Nat) (arg : Int) (op : Bool) (w : World) (hl : Ints w a l) (hn : l.length = n) (hn2 : n ≤ 4096) (hk : k ≤ n) (hk2 : k < n ∨ n = 0) (m : Nat) (hm0 : 1 ≤ m) (hm1 : m ≤ 999) (h0 : 1 ≤ n) (hl0 : l.length ≠ 0) :
  Calls Try.prog 146 #[.slice a n c, .int .i64 (k : Int), mvV 37 (m : Int) arg, .bool op] w (RGoPost (moS l k 37 (m : Int) arg op) w) := by
 have hmz : ((m : Int) == 0) = false := by simp; omega
 unfold mvV
 have hB4 := (Blk.new w #[.slice a n c] 22).alloc (.cells #[.int .i64 37, .int .i64 (m : Int), .int .i64 arg] 227)
 obtain ⟨c4, -⟩ := hB4.one
 have hB6 := Blk.new (w.alloc (.cells #[.slice a n c] 22)) #[.int .i64 37, .int .i64 (m : Int), .int .i64 arg] 227
 rw [World.size_alloc] at hB6
 obtain ⟨c0, c1, c2, -, -, -⟩ := hB6.three
 have hacc := below2 w (.cells #[.slice a n c] 22) (.cells #[.int .i64 37, .int .i64 (m : Int), .int .i64 arg] 227)
 have hI := hl.below hacc
 have HN := Lib.hid hn
 clear hn
 have hn0 : ((n : Int) == 0) = false := by simp; omega
 have hln : ((l.length : Nat) : Int) = (n : Int) := by rw [HN.out]
 have hR0 : moS l k 37 (m : Int) arg op = partS l k := by
  unfold moS partS
  rw [if_neg (by decide), if_neg (by decide), if_neg (by decide), if_neg (by decide), if_neg (by decide), if_neg (by decide), if_neg (by decide), if_neg hl0, if_neg (by decide), if_neg (by decide), if_neg (by decide), if_neg (by decide)]
 have HR0 := Lib.hid hR0
 clear hR0 hln hl0
 have hsz : w.heap.size + 2 ≤ ((w.alloc (.cells #[.slice a n c] 22)).alloc (.cells #[.int .i64 37, .int .i64 (m : Int), .int .i64 arg] 227)).heap.size := by simp
 go_enter Try.func146, Try.ntmps146
 go_upto_region 1 with fail
 change Code.wp _ _ _ _ ((w.alloc (.cells #[.slice a n c] 22)).alloc (.cells #[.int .i64 37, .int .i64 (m : Int), .int .i64 arg] 227))
 generalize (w.alloc (.cells #[.slice a n c] 22)).alloc (.cells #[.int .i64 37, .int .i64 (m : Int), .int .i64 arg] 227) = w1 at *
 go_quiet (fail)
 go_wp2
 clear c4 c0 c1 c2
 go_loopw [18] (fun iv wr => ∃ i : Nat, iv = .int .i64 (i : Int) ∧ k ≤ i ∧ i ≤ n ∧ (∀ t, k ≤ t → t < i → openS (ix l t) = 0) ∧ Blk wr w.heap.size #[.slice a n c] 22 ∧ Below w.heap.size w wr ∧ w.heap.size + 2 ≤ wr.heap.size) (fun iv _ => n - (intOf iv).toNat)
 case atStart => exact ⟨k, rfl, by omega, by omega, fun t h1 h2 => by omega, hB4.drewN _, below_drewN hacc _, hsz⟩
 case round =>
  obtain ⟨i, rfl, hi1, hi2, hno, hB4, hbel, hsz⟩ := hrel
  have HO := Lib.hid hno; clear hno
  obtain ⟨c4, -⟩ := hB4.one
  have hI3 := hl.below hbel
  by_cases hlt : i < n
  ·obtain ⟨b1, o1, rfl, hc⟩ := hI3.at (k := i) (by rw [HN.out]; exact hlt)
   have e1 := hc i (by rw [HN.out]; exact hlt)
   clear hc hI3
   by_cases hz : openS (ix l i) = 0
   ·have hz' : (openS (ix l i) != 0) = false := by simpa using hz
    have HZ := Lib.hid hz; clear hz
    go_wp2_with ((go_at_call 193); refine (ref_bracket _ _).mono ?_; rintro e w5 ⟨rfl, hb5⟩; have hB5 := hB4.below hb5 hB4.lt; have hbel5 := below_then hbel (by omega) hb5; have hsz5 := hb5.size; obtain ⟨d4, -⟩ := hB5.one)
    go_roundw
    case rel => exact ⟨i + 1, by go_num, by omega, by omega, fun t h1 h2 => by
     rcases Nat.lt_succ_iff_lt_or_eq.1 h2 with h | rfl
     ·exact HO.out t h1 h
     ·exact HZ.out, hB5, hbel5, by omega⟩
    case measure => simp [intOf]; omega
   ·have hz' : (openS (ix l i) != 0) = true := by simpa using hz
    have HF := Lib.hid (show partF l k = ix (pRun l n n).out i by
     have := partF_hit hi1 (by rw [HN.out]; exact hlt) hz HO.out
     rwa [HN.out] at this)
    obtain ⟨y, hy⟩ : ∃ y, ix (pRun l n n).out i = y := ⟨_, rfl⟩
    have HF2 := Lib.hid (show partF l k = y by rw [HF.out, hy])
    have HPP := Lib.hid (show PartnerP l n i y by rw [← hy]; exact pairs_partner l n i hlt)
    clear hz hy HF
    have HCP := ref_partner (some ⟨b1, o1, none⟩) n c l i
    by_cases hneg : y < 0
    ·have HR := Lib.hid (show moS l k 37 (m : Int) arg op = none by rw [HR0.out, partS, HF2.out, if_pos hneg])
     go_wp2_with (first | ((go_at_call 193); refine (ref_bracket _ _).mono ?_; rintro e w5 ⟨rfl, hb5⟩; have hB5 := hB4.below hb5 hB4.lt; have hbel5 := below_then hbel (by omega) hb5; have hsz5 := hb5.size; obtain ⟨d4, -⟩ := hB5.one) | ((go_at_call 194); refine (HCP _ (hl.below hbel5) HN.out hn2 hlt).mono ?_; rintro e w6 ⟨r, rfl, hr, hb6⟩; obtain rfl := hr.one HPP.out))
     go_ret3
     exact RGoPost.no HR.out (below_then hbel5 (by omega) hb6)
    ·have HR := Lib.hid (show moS l k 37 (m : Int) arg op = some (y, true) by rw [HR0.out, partS, HF2.out, if_neg hneg])
     have hnb : decide (y < 0) = false := decide_eq_false hneg
     go_wp2_with (first | ((go_at_call 193); refine (ref_bracket _ _).mono ?_; rintro e w5 ⟨rfl, hb5⟩; have hB5 := hB4.below hb5 hB4.lt; have hbel5 := below_then hbel (by omega) hb5; have hsz5 := hb5.size; obtain ⟨d4, -⟩ := hB5.one) | ((go_at_call 194); refine (HCP _ (hl.below hbel5) HN.out hn2 hlt).mono ?_; rintro e w6 ⟨r, rfl, hr, hb6⟩; obtain rfl := hr.one HPP.out))
     go_ret3
     exact RGoPost.yes HR.out (below_then hbel5 (by omega) hb6)
  ·obtain rfl : i = n := by omega
   have HR := Lib.hid (show moS l k 37 (m : Int) arg op = none by rw [HR0.out, partS, partF_none (by rw [HN.out]; exact HO.out), if_pos (by omega)])
   go_wp2
   go_ret3
   exact RGoPost.no HR.out hbel
set_option maxRecDepth 100000 in
set_option maxHeartbeats 2000000 in
theorem rgo_102_Z (a : Option Addr) (n c : Nat) (l : List Int) (k : Nat) (arg : Int) (op : Bool) (w : World) (hl : Ints w a l) (hn : l.length = n) (hn2 : n ≤ 4096) (hk : k ≤ n) (hk2 : k < n ∨ n = 0) (h0 : 1 ≤ n) (hl0 : l.length ≠ 0) :
  Calls Try.prog 146 #[.slice a n c, .int .i64 (k : Int), mvV 102 0 arg, .bool op] w (RGoPost (moS l k 102 1 arg op) w) := by
 have hm0 : 1 ≤ 1 := Nat.le_refl _
 have hm1 : 1 ≤ 999 := by omega
 unfold mvV
 have hB4 := (Blk.new w #[.slice a n c] 22).alloc (.cells #[.int .i64 102, .int .i64 0, .int .i64 arg] 227)
 obtain ⟨c4, -⟩ := hB4.one
 have hB6 := Blk.new (w.alloc (.cells #[.slice a n c] 22)) #[.int .i64 102, .int .i64 0, .int .i64 arg] 227
 rw [World.size_alloc] at hB6
 obtain ⟨c0, c1, c2, -, -, -⟩ := hB6.three
 have hacc := below2 w (.cells #[.slice a n c] 22) (.cells #[.int .i64 102, .int .i64 0, .int .i64 arg] 227)
 have hI := hl.below hacc
 have HN := Lib.hid hn
 clear hn
 have hn0 : ((n : Int) == 0) = false := by simp; omega
 have hln : ((l.length : Nat) : Int) = (n : Int) := by rw [HN.out]
 obtain ⟨P, hP⟩ : ∃ P, placesR l k arg = P := ⟨_, rfl⟩
 have hPl : P.length ≤ 4096 := by
  have hh := HN.out
  rw [← hP]
  have := plU_len l arg (l.length - (k + 1)) (k + 1); unfold placesR; omega
 have hPx : ∀ x ∈ P, 0 ≤ x ∧ x ≤ 4096 := by
  have hh := HN.out
  rw [← hP]
  intro x hx
  have := plU_in _ _ _ _ x hx; omega
 have HR0 := Lib.hid (show moS l k 102 1 arg op = (match P[1 - 1]? with | some x => some (x, true) | none => none) by rw [← hP]; simp [moS]; cases (placesR l k arg)[1 - 1]? <;> rfl)
 have HP := Lib.hid hP
 clear hP hln hl0
 have hs2 : w.heap.size + 2 ≤ ((w.alloc (.cells #[.slice a n c] 22)).alloc (.cells #[.int .i64 102, .int .i64 0, .int .i64 arg] 227)).heap.size := by simp
 by_cases hfit : P.length < 1
 ·have HR := Lib.hid (show moS l k 102 1 arg op = none by rw [HR0.out, List.getElem?_eq_none (by omega)])
  go_enter Try.func146, Try.ntmps146
  go_upto_region 1 with fail
  change Code.wp _ _ _ _ ((w.alloc (.cells #[.slice a n c] 22)).alloc (.cells #[.int .i64 102, .int .i64 0, .int .i64 arg] 227))
  generalize (w.alloc (.cells #[.slice a n c] 22)).alloc (.cells #[.int .i64 102, .int .i64 0, .int .i64 arg] 227) = w1 at *
  go_quiet (fail)
  go_wp2_with ((go_at_call 195); refine (ref_finds_right a n c l k arg _ (hI.drewN _) HN.out hn2 hk).mono ?_; rintro e w5 ⟨v5, rfl, hown5, hb5⟩; rw [HP.out] at hown5; obtain ⟨a5, n5, c5, rfl⟩ := hown5.form; have l5 := hown5.get.1; have L5 := Lib.hid l5; have l6 : n5 < 1 := (by omega); clear l5)
  go_ret3
  exact RGoPost.no HR.out (below_then (below_drewN hacc _) (by show w.heap.size ≤ w1.heap.size; omega) hb5)
 ·have hx0 : P[1 - 1]? = some (ix P (1 - 1)) := by rw [ix_eq (by omega), List.getElem?_eq_getElem (by omega)]
  obtain ⟨x, hx⟩ : ∃ x, ix P (1 - 1) = x := ⟨_, rfl⟩
  rw [hx] at hx0
  have hxb := hPx x (List.mem_of_getElem? hx0)
  obtain ⟨x1, x2⟩ := hxb
  have HR := Lib.hid (show moS l k 102 1 arg op = some (x, true) by rw [HR0.out, hx0])
  have HX := Lib.hid hx
  clear hx hx0 hPx
  go_enter Try.func146, Try.ntmps146
  go_upto_region 1 with fail
  change Code.wp _ _ _ _ ((w.alloc (.cells #[.slice a n c] 22)).alloc (.cells #[.int .i64 102, .int .i64 0, .int .i64 arg] 227))
  generalize (w.alloc (.cells #[.slice a n c] 22)).alloc (.cells #[.int .i64 102, .int .i64 0, .int .i64 arg] 227) = w1 at *
  go_quiet (fail)
  go_wp2_with ((go_at_call 195); refine (ref_finds_right a n c l k arg _ (hI.drewN _) HN.out hn2 hk).mono ?_; rintro e w5 ⟨v5, rfl, hown5, hb5⟩; rw [HP.out] at hown5; obtain ⟨a5, n5, c5, rfl⟩ := hown5.form; have l5 := hown5.get.1; have L5 := Lib.hid l5; have l6 : 1 ≤ n5 := (by omega); obtain ⟨b7, o7, rfl, hc7⟩ := (hown5.get.2.1).at (k := 1 - 1) (by omega); have e7 := hc7 (1 - 1) (by omega); rw [HX.out] at e7; (try simp only [Nat.sub_self, Nat.add_zero] at e7); clear hc7 l5; have hi7 : (0 : Int) ≤ 1 - 1 := (by omega); have hi8 : 1 - 1 < (n5 : Int) := (by omega);  have hB8 := (hB6.drewN _).below hb5 (by show w.heap.size + 1 < w1.heap.size; omega); obtain ⟨z0, z1, z2, -, -, -⟩ := hB8.three )
  go_quiet (fail)
  go_wp2
  go_ret3
  exact RGoPost.yes HR.out (below_drewN (below_then (below_drewN hacc _) (by show w.heap.size ≤ w1.heap.size; omega) hb5) _)
set_option maxRecDepth 100000 in
set_option maxHeartbeats 2000000 in
theorem rgo_102_P (a : Option Addr) (n c : Nat) (l : List Int) (k : Nat) (arg : Int) (op : Bool) (w : World) (hl : Ints w a l) (hn : l.length = n) (hn2 : n ≤ 4096) (hk : k ≤ n) (hk2 : k < n ∨ n = 0) (m : Nat) (hm0 : 1 ≤ m) (hm1 : m ≤ 999) (h0 : 1 ≤ n) (hl0 : l.length ≠ 0) :
  Calls Try.prog 146 #[.slice a n c, .int .i64 (k : Int), mvV 102 (m : Int) arg, .bool op] w (RGoPost (moS l k 102 (m : Int) arg op) w) := by
 have hmz : ((m : Int) == 0) = false := by simp; omega
 unfold mvV
 have hB4 := (Blk.new w #[.slice a n c] 22).alloc (.cells #[.int .i64 102, .int .i64 (m : Int), .int .i64 arg] 227)
 obtain ⟨c4, -⟩ := hB4.one
 have hB6 := Blk.new (w.alloc (.cells #[.slice a n c] 22)) #[.int .i64 102, .int .i64 (m : Int), .int .i64 arg] 227
 rw [World.size_alloc] at hB6
 obtain ⟨c0, c1, c2, -, -, -⟩ := hB6.three
 have hacc := below2 w (.cells #[.slice a n c] 22) (.cells #[.int .i64 102, .int .i64 (m : Int), .int .i64 arg] 227)
 have hI := hl.below hacc
 have HN := Lib.hid hn
 clear hn
 have hn0 : ((n : Int) == 0) = false := by simp; omega
 have hln : ((l.length : Nat) : Int) = (n : Int) := by rw [HN.out]
 obtain ⟨P, hP⟩ : ∃ P, placesR l k arg = P := ⟨_, rfl⟩
 have hPl : P.length ≤ 4096 := by
  have hh := HN.out
  rw [← hP]
  have := plU_len l arg (l.length - (k + 1)) (k + 1); unfold placesR; omega
 have hPx : ∀ x ∈ P, 0 ≤ x ∧ x ≤ 4096 := by
  have hh := HN.out
  rw [← hP]
  intro x hx
  have := plU_in _ _ _ _ x hx; omega
 have HR0 := Lib.hid (show moS l k 102 (m : Int) arg op = (match P[m - 1]? with | some x => some (x, true) | none => none) by rw [← hP]; simp [moS]; cases (placesR l k arg)[m - 1]? <;> rfl)
 have HP := Lib.hid hP
 clear hP hln hl0
 have hs2 : w.heap.size + 2 ≤ ((w.alloc (.cells #[.slice a n c] 22)).alloc (.cells #[.int .i64 102, .int .i64 (m : Int), .int .i64 arg] 227)).heap.size := by simp
 by_cases hfit : P.length < m
 ·have HR := Lib.hid (show moS l k 102 (m : Int) arg op = none by rw [HR0.out, List.getElem?_eq_none (by omega)])
  go_enter Try.func146, Try.ntmps146
  go_upto_region 1 with fail
  change Code.wp _ _ _ _ ((w.alloc (.cells #[.slice a n c] 22)).alloc (.cells #[.int .i64 102, .int .i64 (m : Int), .int .i64 arg] 227))
  generalize (w.alloc (.cells #[.slice a n c] 22)).alloc (.cells #[.int .i64 102, .int .i64 (m : Int), .int .i64 arg] 227) = w1 at *
  go_quiet (fail)
  go_wp2_with ((go_at_call 195); refine (ref_finds_right a n c l k arg _ (hI.drewN _) HN.out hn2 hk).mono ?_; rintro e w5 ⟨v5, rfl, hown5, hb5⟩; rw [HP.out] at hown5; obtain ⟨a5, n5, c5, rfl⟩ := hown5.form; have l5 := hown5.get.1; have L5 := Lib.hid l5; have l6 : n5 < m := (by omega); clear l5)
  go_ret3
  exact RGoPost.no HR.out (below_then (below_drewN hacc _) (by show w.heap.size ≤ w1.heap.size; omega) hb5)
 ·have hx0 : P[m - 1]? = some (ix P (m - 1)) := by rw [ix_eq (by omega), List.getElem?_eq_getElem (by omega)]
  obtain ⟨x, hx⟩ : ∃ x, ix P (m - 1) = x := ⟨_, rfl⟩
  rw [hx] at hx0
  have hxb := hPx x (List.mem_of_getElem? hx0)
  obtain ⟨x1, x2⟩ := hxb
  have HR := Lib.hid (show moS l k 102 (m : Int) arg op = some (x, true) by rw [HR0.out, hx0])
  have HX := Lib.hid hx
  clear hx hx0 hPx
  go_enter Try.func146, Try.ntmps146
  go_upto_region 1 with fail
  change Code.wp _ _ _ _ ((w.alloc (.cells #[.slice a n c] 22)).alloc (.cells #[.int .i64 102, .int .i64 (m : Int), .int .i64 arg] 227))
  generalize (w.alloc (.cells #[.slice a n c] 22)).alloc (.cells #[.int .i64 102, .int .i64 (m : Int), .int .i64 arg] 227) = w1 at *
  go_quiet (fail)
  go_wp2_with ((go_at_call 195); refine (ref_finds_right a n c l k arg _ (hI.drewN _) HN.out hn2 hk).mono ?_; rintro e w5 ⟨v5, rfl, hown5, hb5⟩; rw [HP.out] at hown5; obtain ⟨a5, n5, c5, rfl⟩ := hown5.form; have l5 := hown5.get.1; have L5 := Lib.hid l5; have l6 : m ≤ n5 := (by omega); obtain ⟨b7, o7, rfl, hc7⟩ := (hown5.get.2.1).at (k := m - 1) (by omega); have e7 := hc7 (m - 1) (by omega); rw [HX.out] at e7; (try simp only [Nat.sub_self, Nat.add_zero] at e7); clear hc7 l5; have hi7 : (0 : Int) ≤ (m : Int) - 1 := (by omega); have hi8 : (m : Int) - 1 < (n5 : Int) := (by omega); have hi9 : ((m : Int) - 1).toNat = m - 1 := (by omega); have hB8 := (hB6.drewN _).below hb5 (by show w.heap.size + 1 < w1.heap.size; omega); obtain ⟨z0, z1, z2, -, -, -⟩ := hB8.three )
  go_quiet (fail)
  go_wp2
  go_ret3
  exact RGoPost.yes HR.out (below_drewN (below_then (below_drewN hacc _) (by show w.heap.size ≤ w1.heap.size; omega) hb5) _)
set_option maxRecDepth 100000 in
set_option maxHeartbeats 2000000 in
theorem rgo_116_Z (a : Option Addr) (n c : Nat) (l : List Int) (k : Nat) (arg : Int) (op : Bool) (w : World) (hl : Ints w a l) (hn : l.length = n) (hn2 : n ≤ 4096) (hk : k ≤ n) (hk2 : k < n ∨ n = 0) (h0 : 1 ≤ n) (hl0 : l.length ≠ 0) :
  Calls Try.prog 146 #[.slice a n c, .int .i64 (k : Int), mvV 116 0 arg, .bool op] w (RGoPost (moS l k 116 1 arg op) w) := by
 have hm0 : 1 ≤ 1 := Nat.le_refl _
 have hm1 : 1 ≤ 999 := by omega
 unfold mvV
 have hB4 := (Blk.new w #[.slice a n c] 22).alloc (.cells #[.int .i64 116, .int .i64 0, .int .i64 arg] 227)
 obtain ⟨c4, -⟩ := hB4.one
 have hB6 := Blk.new (w.alloc (.cells #[.slice a n c] 22)) #[.int .i64 116, .int .i64 0, .int .i64 arg] 227
 rw [World.size_alloc] at hB6
 obtain ⟨c0, c1, c2, -, -, -⟩ := hB6.three
 have hacc := below2 w (.cells #[.slice a n c] 22) (.cells #[.int .i64 116, .int .i64 0, .int .i64 arg] 227)
 have hI := hl.below hacc
 have HN := Lib.hid hn
 clear hn
 have hn0 : ((n : Int) == 0) = false := by simp; omega
 have hln : ((l.length : Nat) : Int) = (n : Int) := by rw [HN.out]
 obtain ⟨P, hP⟩ : ∃ P, placesR l k arg = P := ⟨_, rfl⟩
 have hPl : P.length ≤ 4096 := by
  have hh := HN.out
  rw [← hP]
  have := plU_len l arg (l.length - (k + 1)) (k + 1); unfold placesR; omega
 have hPx : ∀ x ∈ P, 0 ≤ x ∧ x ≤ 4096 := by
  have hh := HN.out
  rw [← hP]
  intro x hx
  have := plU_in _ _ _ _ x hx; omega
 have HR0 := Lib.hid (show moS l k 116 1 arg op = (match P[1 - 1]? with | some x => some (x - 1, true) | none => none) by rw [← hP]; simp [moS]; cases (placesR l k arg)[1 - 1]? <;> rfl)
 have HP := Lib.hid hP
 clear hP hln hl0
 have hs2 : w.heap.size + 2 ≤ ((w.alloc (.cells #[.slice a n c] 22)).alloc (.cells #[.int .i64 116, .int .i64 0, .int .i64 arg] 227)).heap.size := by simp
 by_cases hfit : P.length < 1
 ·have HR := Lib.hid (show moS l k 116 1 arg op = none by rw [HR0.out, List.getElem?_eq_none (by omega)])
  go_enter Try.func146, Try.ntmps146
  go_upto_region 1 with fail
  change Code.wp _ _ _ _ ((w.alloc (.cells #[.slice a n c] 22)).alloc (.cells #[.int .i64 116, .int .i64 0, .int .i64 arg] 227))
  generalize (w.alloc (.cells #[.slice a n c] 22)).alloc (.cells #[.int .i64 116, .int .i64 0, .int .i64 arg] 227) = w1 at *
  go_quiet (fail)
  go_wp2_with ((go_at_call 195); refine (ref_finds_right a n c l k arg _ (hI.drewN _) HN.out hn2 hk).mono ?_; rintro e w5 ⟨v5, rfl, hown5, hb5⟩; rw [HP.out] at hown5; obtain ⟨a5, n5, c5, rfl⟩ := hown5.form; have l5 := hown5.get.1; have L5 := Lib.hid l5; have l6 : n5 < 1 := (by omega); clear l5)
  go_ret3
  exact RGoPost.no HR.out (below_then (below_drewN hacc _) (by show w.heap.size ≤ w1.heap.size; omega) hb5)
 ·have hx0 : P[1 - 1]? = some (ix P (1 - 1)) := by rw [ix_eq (by omega), List.getElem?_eq_getElem (by omega)]
  obtain ⟨x, hx⟩ : ∃ x, ix P (1 - 1) = x := ⟨_, rfl⟩
  rw [hx] at hx0
  have hxb := hPx x (List.mem_of_getElem? hx0)
  obtain ⟨x1, x2⟩ := hxb
  have HR := Lib.hid (show moS l k 116 1 arg op = some (x - 1, true) by rw [HR0.out, hx0])
  have HX := Lib.hid hx
  clear hx hx0 hPx
  go_enter Try.func146, Try.ntmps146
  go_upto_region 1 with fail
  change Code.wp _ _ _ _ ((w.alloc (.cells #[.slice a n c] 22)).alloc (.cells #[.int .i64 116, .int .i64 0, .int .i64 arg] 227))
  generalize (w.alloc (.cells #[.slice a n c] 22)).alloc (.cells #[.int .i64 116, .int .i64 0, .int .i64 arg] 227) = w1 at *
  go_quiet (fail)
  go_wp2_with ((go_at_call 195); refine (ref_finds_right a n c l k arg _ (hI.drewN _) HN.out hn2 hk).mono ?_; rintro e w5 ⟨v5, rfl, hown5, hb5⟩; rw [HP.out] at hown5; obtain ⟨a5, n5, c5, rfl⟩ := hown5.form; have l5 := hown5.get.1; have L5 := Lib.hid l5; have l6 : 1 ≤ n5 := (by omega); obtain ⟨b7, o7, rfl, hc7⟩ := (hown5.get.2.1).at (k := 1 - 1) (by omega); have e7 := hc7 (1 - 1) (by omega); rw [HX.out] at e7; (try simp only [Nat.sub_self, Nat.add_zero] at e7); clear hc7 l5; have hi7 : (0 : Int) ≤ 1 - 1 := (by omega); have hi8 : 1 - 1 < (n5 : Int) := (by omega);  have hB8 := (hB6.drewN _).below hb5 (by show w.heap.size + 1 < w1.heap.size; omega); obtain ⟨z0, z1, z2, -, -, -⟩ := hB8.three )
  go_ret3
  exact RGoPost.yes HR.out (below_then (below_drewN hacc _) (by show w.heap.size ≤ w1.heap.size; omega) hb5)
set_option maxRecDepth 100000 in
set_option maxHeartbeats 2000000 in
theorem rgo_116_P (a : Option Addr) (n c : Nat) (l : List Int) (k : Nat) (arg : Int) (op : Bool) (w : World) (hl : Ints w a l) (hn : l.length = n) (hn2 : n ≤ 4096) (hk : k ≤ n) (hk2 : k < n ∨ n = 0) (m : Nat) (hm0 : 1 ≤ m) (hm1 : m ≤ 999) (h0 : 1 ≤ n) (hl0 : l.length ≠ 0) :
  Calls Try.prog 146 #[.slice a n c, .int .i64 (k : Int), mvV 116 (m : Int) arg, .bool op] w (RGoPost (moS l k 116 (m : Int) arg op) w) := by
 have hmz : ((m : Int) == 0) = false := by simp; omega
 unfold mvV
 have hB4 := (Blk.new w #[.slice a n c] 22).alloc (.cells #[.int .i64 116, .int .i64 (m : Int), .int .i64 arg] 227)
 obtain ⟨c4, -⟩ := hB4.one
 have hB6 := Blk.new (w.alloc (.cells #[.slice a n c] 22)) #[.int .i64 116, .int .i64 (m : Int), .int .i64 arg] 227
 rw [World.size_alloc] at hB6
 obtain ⟨c0, c1, c2, -, -, -⟩ := hB6.three
 have hacc := below2 w (.cells #[.slice a n c] 22) (.cells #[.int .i64 116, .int .i64 (m : Int), .int .i64 arg] 227)
 have hI := hl.below hacc
 have HN := Lib.hid hn
 clear hn
 have hn0 : ((n : Int) == 0) = false := by simp; omega
 have hln : ((l.length : Nat) : Int) = (n : Int) := by rw [HN.out]
 obtain ⟨P, hP⟩ : ∃ P, placesR l k arg = P := ⟨_, rfl⟩
 have hPl : P.length ≤ 4096 := by
  have hh := HN.out
  rw [← hP]
  have := plU_len l arg (l.length - (k + 1)) (k + 1); unfold placesR; omega
 have hPx : ∀ x ∈ P, 0 ≤ x ∧ x ≤ 4096 := by
  have hh := HN.out
  rw [← hP]
  intro x hx
  have := plU_in _ _ _ _ x hx; omega
 have HR0 := Lib.hid (show moS l k 116 (m : Int) arg op = (match P[m - 1]? with | some x => some (x - 1, true) | none => none) by rw [← hP]; simp [moS]; cases (placesR l k arg)[m - 1]? <;> rfl)
 have HP := Lib.hid hP
 clear hP hln hl0
 have hs2 : w.heap.size + 2 ≤ ((w.alloc (.cells #[.slice a n c] 22)).alloc (.cells #[.int .i64 116, .int .i64 (m : Int), .int .i64 arg] 227)).heap.size := by simp
 by_cases hfit : P.length < m
 ·have HR := Lib.hid (show moS l k 116 (m : Int) arg op = none by rw [HR0.out, List.getElem?_eq_none (by omega)])
  go_enter Try.func146, Try.ntmps146
  go_upto_region 1 with fail
  change Code.wp _ _ _ _ ((w.alloc (.cells #[.slice a n c] 22)).alloc (.cells #[.int .i64 116, .int .i64 (m : Int), .int .i64 arg] 227))
  generalize (w.alloc (.cells #[.slice a n c] 22)).alloc (.cells #[.int .i64 116, .int .i64 (m : Int), .int .i64 arg] 227) = w1 at *
  go_quiet (fail)
  go_wp2_with ((go_at_call 195); refine (ref_finds_right a n c l k arg _ (hI.drewN _) HN.out hn2 hk).mono ?_; rintro e w5 ⟨v5, rfl, hown5, hb5⟩; rw [HP.out] at hown5; obtain ⟨a5, n5, c5, rfl⟩ := hown5.form; have l5 := hown5.get.1; have L5 := Lib.hid l5; have l6 : n5 < m := (by omega); clear l5)
  go_ret3
  exact RGoPost.no HR.out (below_then (below_drewN hacc _) (by show w.heap.size ≤ w1.heap.size; omega) hb5)
 ·have hx0 : P[m - 1]? = some (ix P (m - 1)) := by rw [ix_eq (by omega), List.getElem?_eq_getElem (by omega)]
  obtain ⟨x, hx⟩ : ∃ x, ix P (m - 1) = x := ⟨_, rfl⟩
  rw [hx] at hx0
  have hxb := hPx x (List.mem_of_getElem? hx0)
  obtain ⟨x1, x2⟩ := hxb
  have HR := Lib.hid (show moS l k 116 (m : Int) arg op = some (x - 1, true) by rw [HR0.out, hx0])
  have HX := Lib.hid hx
  clear hx hx0 hPx
  go_enter Try.func146, Try.ntmps146
  go_upto_region 1 with fail
  change Code.wp _ _ _ _ ((w.alloc (.cells #[.slice a n c] 22)).alloc (.cells #[.int .i64 116, .int .i64 (m : Int), .int .i64 arg] 227))
  generalize (w.alloc (.cells #[.slice a n c] 22)).alloc (.cells #[.int .i64 116, .int .i64 (m : Int), .int .i64 arg] 227) = w1 at *
  go_quiet (fail)
  go_wp2_with ((go_at_call 195); refine (ref_finds_right a n c l k arg _ (hI.drewN _) HN.out hn2 hk).mono ?_; rintro e w5 ⟨v5, rfl, hown5, hb5⟩; rw [HP.out] at hown5; obtain ⟨a5, n5, c5, rfl⟩ := hown5.form; have l5 := hown5.get.1; have L5 := Lib.hid l5; have l6 : m ≤ n5 := (by omega); obtain ⟨b7, o7, rfl, hc7⟩ := (hown5.get.2.1).at (k := m - 1) (by omega); have e7 := hc7 (m - 1) (by omega); rw [HX.out] at e7; (try simp only [Nat.sub_self, Nat.add_zero] at e7); clear hc7 l5; have hi7 : (0 : Int) ≤ (m : Int) - 1 := (by omega); have hi8 : (m : Int) - 1 < (n5 : Int) := (by omega); have hi9 : ((m : Int) - 1).toNat = m - 1 := (by omega); have hB8 := (hB6.drewN _).below hb5 (by show w.heap.size + 1 < w1.heap.size; omega); obtain ⟨z0, z1, z2, -, -, -⟩ := hB8.three )
  go_ret3
  exact RGoPost.yes HR.out (below_then (below_drewN hacc _) (by show w.heap.size ≤ w1.heap.size; omega) hb5)
set_option maxRecDepth 100000 in
set_option maxHeartbeats 2000000 in
theorem rgo_70_Z (a : Option Addr) (n c : Nat) (l : List Int) (k : Nat) (arg : Int) (op : Bool) (w : World) (hl : Ints w a l) (hn : l.length = n) (hn2 : n ≤ 4096) (hk : k ≤ n) (hk2 : k < n ∨ n = 0) (h0 : 1 ≤ n) (hl0 : l.length ≠ 0) :
  Calls Try.prog 146 #[.slice a n c, .int .i64 (k : Int), mvV 70 0 arg, .bool op] w (RGoPost (moS l k 70 1 arg op) w) := by
 have hm0 : 1 ≤ 1 := Nat.le_refl _
 have hm1 : 1 ≤ 999 := by omega
 unfold mvV
 have hB4 := (Blk.new w #[.slice a n c] 22).alloc (.cells #[.int .i64 70, .int .i64 0, .int .i64 arg] 227)
 obtain ⟨c4, -⟩ := hB4.one
 have hB6 := Blk.new (w.alloc (.cells #[.slice a n c] 22)) #[.int .i64 70, .int .i64 0, .int .i64 arg] 227
 rw [World.size_alloc] at hB6
 obtain ⟨c0, c1, c2, -, -, -⟩ := hB6.three
 have hacc := below2 w (.cells #[.slice a n c] 22) (.cells #[.int .i64 70, .int .i64 0, .int .i64 arg] 227)
 have hI := hl.below hacc
 have HN := Lib.hid hn
 clear hn
 have hn0 : ((n : Int) == 0) = false := by simp; omega
 have hln : ((l.length : Nat) : Int) = (n : Int) := by rw [HN.out]
 obtain ⟨P, hP⟩ : ∃ P, placesL l k arg = P := ⟨_, rfl⟩
 have hPl : P.length ≤ 4096 := by
  have hh := HN.out
  rw [← hP]
  have := plD_len l arg k; unfold placesL; omega
 have hPx : ∀ x ∈ P, 0 ≤ x ∧ x ≤ 4096 := by
  have hh := HN.out
  rw [← hP]
  intro x hx
  have := plD_in _ _ _ x hx; omega
 have HR0 := Lib.hid (show moS l k 70 1 arg op = (match P[1 - 1]? with | some x => some (x, false) | none => none) by rw [← hP]; simp [moS]; cases (placesL l k arg)[1 - 1]? <;> rfl)
 have HP := Lib.hid hP
 clear hP hln hl0
 have hs2 : w.heap.size + 2 ≤ ((w.alloc (.cells #[.slice a n c] 22)).alloc (.cells #[.int .i64 70, .int .i64 0, .int .i64 arg] 227)).heap.size := by simp
 by_cases hfit : P.length < 1
 ·have HR := Lib.hid (show moS l k 70 1 arg op = none by rw [HR0.out, List.getElem?_eq_none (by omega)])
  go_enter Try.func146, Try.ntmps146
  go_upto_region 1 with fail
  change Code.wp _ _ _ _ ((w.alloc (.cells #[.slice a n c] 22)).alloc (.cells #[.int .i64 70, .int .i64 0, .int .i64 arg] 227))
  generalize (w.alloc (.cells #[.slice a n c] 22)).alloc (.cells #[.int .i64 70, .int .i64 0, .int .i64 arg] 227) = w1 at *
  go_quiet (fail)
  go_wp2_with ((go_at_call 195); refine (ref_finds_left a n c l k arg _ (hI.drewN _) HN.out hn2 hk).mono ?_; rintro e w5 ⟨v5, rfl, hown5, hb5⟩; rw [HP.out] at hown5; obtain ⟨a5, n5, c5, rfl⟩ := hown5.form; have l5 := hown5.get.1; have L5 := Lib.hid l5; have l6 : n5 < 1 := (by omega); clear l5)
  go_ret3
  exact RGoPost.no HR.out (below_then (below_drewN hacc _) (by show w.heap.size ≤ w1.heap.size; omega) hb5)
 ·have hx0 : P[1 - 1]? = some (ix P (1 - 1)) := by rw [ix_eq (by omega), List.getElem?_eq_getElem (by omega)]
  obtain ⟨x, hx⟩ : ∃ x, ix P (1 - 1) = x := ⟨_, rfl⟩
  rw [hx] at hx0
  have hxb := hPx x (List.mem_of_getElem? hx0)
  obtain ⟨x1, x2⟩ := hxb
  have HR := Lib.hid (show moS l k 70 1 arg op = some (x, false) by rw [HR0.out, hx0])
  have HX := Lib.hid hx
  clear hx hx0 hPx
  go_enter Try.func146, Try.ntmps146
  go_upto_region 1 with fail
  change Code.wp _ _ _ _ ((w.alloc (.cells #[.slice a n c] 22)).alloc (.cells #[.int .i64 70, .int .i64 0, .int .i64 arg] 227))
  generalize (w.alloc (.cells #[.slice a n c] 22)).alloc (.cells #[.int .i64 70, .int .i64 0, .int .i64 arg] 227) = w1 at *
  go_quiet (fail)
  go_wp2_with ((go_at_call 195); refine (ref_finds_left a n c l k arg _ (hI.drewN _) HN.out hn2 hk).mono ?_; rintro e w5 ⟨v5, rfl, hown5, hb5⟩; rw [HP.out] at hown5; obtain ⟨a5, n5, c5, rfl⟩ := hown5.form; have l5 := hown5.get.1; have L5 := Lib.hid l5; have l6 : 1 ≤ n5 := (by omega); obtain ⟨b7, o7, rfl, hc7⟩ := (hown5.get.2.1).at (k := 1 - 1) (by omega); have e7 := hc7 (1 - 1) (by omega); rw [HX.out] at e7; (try simp only [Nat.sub_self, Nat.add_zero] at e7); clear hc7 l5; have hi7 : (0 : Int) ≤ 1 - 1 := (by omega); have hi8 : 1 - 1 < (n5 : Int) := (by omega);  have hB8 := (hB6.drewN _).below hb5 (by show w.heap.size + 1 < w1.heap.size; omega); obtain ⟨z0, z1, z2, -, -, -⟩ := hB8.three )
  go_quiet (fail)
  go_wp2
  go_ret3
  exact RGoPost.yes HR.out (below_drewN (below_then (below_drewN hacc _) (by show w.heap.size ≤ w1.heap.size; omega) hb5) _)
set_option maxRecDepth 100000 in
set_option maxHeartbeats 2000000 in
theorem rgo_70_P (a : Option Addr) (n c : Nat) (l : List Int) (k : Nat) (arg : Int) (op : Bool) (w : World) (hl : Ints w a l) (hn : l.length = n) (hn2 : n ≤ 4096) (hk : k ≤ n) (hk2 : k < n ∨ n = 0) (m : Nat) (hm0 : 1 ≤ m) (hm1 : m ≤ 999) (h0 : 1 ≤ n) (hl0 : l.length ≠ 0) :
  Calls Try.prog 146 #[.slice a n c, .int .i64 (k : Int), mvV 70 (m : Int) arg, .bool op] w (RGoPost (moS l k 70 (m : Int) arg op) w) := by
 have hmz : ((m : Int) == 0) = false := by simp; omega
 unfold mvV
 have hB4 := (Blk.new w #[.slice a n c] 22).alloc (.cells #[.int .i64 70, .int .i64 (m : Int), .int .i64 arg] 227)
 obtain ⟨c4, -⟩ := hB4.one
 have hB6 := Blk.new (w.alloc (.cells #[.slice a n c] 22)) #[.int .i64 70, .int .i64 (m : Int), .int .i64 arg] 227
 rw [World.size_alloc] at hB6
 obtain ⟨c0, c1, c2, -, -, -⟩ := hB6.three
 have hacc := below2 w (.cells #[.slice a n c] 22) (.cells #[.int .i64 70, .int .i64 (m : Int), .int .i64 arg] 227)
 have hI := hl.below hacc
 have HN := Lib.hid hn
 clear hn
 have hn0 : ((n : Int) == 0) = false := by simp; omega
 have hln : ((l.length : Nat) : Int) = (n : Int) := by rw [HN.out]
 obtain ⟨P, hP⟩ : ∃ P, placesL l k arg = P := ⟨_, rfl⟩
 have hPl : P.length ≤ 4096 := by
  have hh := HN.out
  rw [← hP]
  have := plD_len l arg k; unfold placesL; omega
 have hPx : ∀ x ∈ P, 0 ≤ x ∧ x ≤ 4096 := by
  have hh := HN.out
  rw [← hP]
  intro x hx
  have := plD_in _ _ _ x hx; omega
 have HR0 := Lib.hid (show moS l k 70 (m : Int) arg op = (match P[m - 1]? with | some x => some (x, false) | none => none) by rw [← hP]; simp [moS]; cases (placesL l k arg)[m - 1]? <;> rfl)
 have HP := Lib.hid hP
 clear hP hln hl0
 have hs2 : w.heap.size + 2 ≤ ((w.alloc (.cells #[.slice a n c] 22)).alloc (.cells #[.int .i64 70, .int .i64 (m : Int), .int .i64 arg] 227)).heap.size := by simp
 by_cases hfit : P.length < m
 ·have HR := Lib.hid (show moS l k 70 (m : Int) arg op = none by rw [HR0.out, List.getElem?_eq_none (by omega)])
  go_enter Try.func146, Try.ntmps146
  go_upto_region 1 with fail
  change Code.wp _ _ _ _ ((w.alloc (.cells #[.slice a n c] 22)).alloc (.cells #[.int .i64 70, .int .i64 (m : Int), .int .i64 arg] 227))
  generalize (w.alloc (.cells #[.slice a n c] 22)).alloc (.cells #[.int .i64 70, .int .i64 (m : Int), .int .i64 arg] 227) = w1 at *
  go_quiet (fail)
  go_wp2_with ((go_at_call 195); refine (ref_finds_left a n c l k arg _ (hI.drewN _) HN.out hn2 hk).mono ?_; rintro e w5 ⟨v5, rfl, hown5, hb5⟩; rw [HP.out] at hown5; obtain ⟨a5, n5, c5, rfl⟩ := hown5.form; have l5 := hown5.get.1; have L5 := Lib.hid l5; have l6 : n5 < m := (by omega); clear l5)
  go_ret3
  exact RGoPost.no HR.out (below_then (below_drewN hacc _) (by show w.heap.size ≤ w1.heap.size; omega) hb5)
 ·have hx0 : P[m - 1]? = some (ix P (m - 1)) := by rw [ix_eq (by omega), List.getElem?_eq_getElem (by omega)]
  obtain ⟨x, hx⟩ : ∃ x, ix P (m - 1) = x := ⟨_, rfl⟩
  rw [hx] at hx0
  have hxb := hPx x (List.mem_of_getElem? hx0)
  obtain ⟨x1, x2⟩ := hxb
  have HR := Lib.hid (show moS l k 70 (m : Int) arg op = some (x, false) by rw [HR0.out, hx0])
  have HX := Lib.hid hx
  clear hx hx0 hPx
  go_enter Try.func146, Try.ntmps146
  go_upto_region 1 with fail
  change Code.wp _ _ _ _ ((w.alloc (.cells #[.slice a n c] 22)).alloc (.cells #[.int .i64 70, .int .i64 (m : Int), .int .i64 arg] 227))
  generalize (w.alloc (.cells #[.slice a n c] 22)).alloc (.cells #[.int .i64 70, .int .i64 (m : Int), .int .i64 arg] 227) = w1 at *
  go_quiet (fail)
  go_wp2_with ((go_at_call 195); refine (ref_finds_left a n c l k arg _ (hI.drewN _) HN.out hn2 hk).mono ?_; rintro e w5 ⟨v5, rfl, hown5, hb5⟩; rw [HP.out] at hown5; obtain ⟨a5, n5, c5, rfl⟩ := hown5.form; have l5 := hown5.get.1; have L5 := Lib.hid l5; have l6 : m ≤ n5 := (by omega); obtain ⟨b7, o7, rfl, hc7⟩ := (hown5.get.2.1).at (k := m - 1) (by omega); have e7 := hc7 (m - 1) (by omega); rw [HX.out] at e7; (try simp only [Nat.sub_self, Nat.add_zero] at e7); clear hc7 l5; have hi7 : (0 : Int) ≤ (m : Int) - 1 := (by omega); have hi8 : (m : Int) - 1 < (n5 : Int) := (by omega); have hi9 : ((m : Int) - 1).toNat = m - 1 := (by omega); have hB8 := (hB6.drewN _).below hb5 (by show w.heap.size + 1 < w1.heap.size; omega); obtain ⟨z0, z1, z2, -, -, -⟩ := hB8.three )
  go_quiet (fail)
  go_wp2
  go_ret3
  exact RGoPost.yes HR.out (below_drewN (below_then (below_drewN hacc _) (by show w.heap.size ≤ w1.heap.size; omega) hb5) _)
set_option maxRecDepth 100000 in
set_option maxHeartbeats 2000000 in
theorem rgo_84_Z (a : Option Addr) (n c : Nat) (l : List Int) (k : Nat) (arg : Int) (op : Bool) (w : World) (hl : Ints w a l) (hn : l.length = n) (hn2 : n ≤ 4096) (hk : k ≤ n) (hk2 : k < n ∨ n = 0) (h0 : 1 ≤ n) (hl0 : l.length ≠ 0) :
  Calls Try.prog 146 #[.slice a n c, .int .i64 (k : Int), mvV 84 0 arg, .bool op] w (RGoPost (moS l k 84 1 arg op) w) := by
 have hm0 : 1 ≤ 1 := Nat.le_refl _
 have hm1 : 1 ≤ 999 := by omega
 unfold mvV
 have hB4 := (Blk.new w #[.slice a n c] 22).alloc (.cells #[.int .i64 84, .int .i64 0, .int .i64 arg] 227)
 obtain ⟨c4, -⟩ := hB4.one
 have hB6 := Blk.new (w.alloc (.cells #[.slice a n c] 22)) #[.int .i64 84, .int .i64 0, .int .i64 arg] 227
 rw [World.size_alloc] at hB6
 obtain ⟨c0, c1, c2, -, -, -⟩ := hB6.three
 have hacc := below2 w (.cells #[.slice a n c] 22) (.cells #[.int .i64 84, .int .i64 0, .int .i64 arg] 227)
 have hI := hl.below hacc
 have HN := Lib.hid hn
 clear hn
 have hn0 : ((n : Int) == 0) = false := by simp; omega
 have hln : ((l.length : Nat) : Int) = (n : Int) := by rw [HN.out]
 obtain ⟨P, hP⟩ : ∃ P, placesL l k arg = P := ⟨_, rfl⟩
 have hPl : P.length ≤ 4096 := by
  have hh := HN.out
  rw [← hP]
  have := plD_len l arg k; unfold placesL; omega
 have hPx : ∀ x ∈ P, 0 ≤ x ∧ x ≤ 4096 := by
  have hh := HN.out
  rw [← hP]
  intro x hx
  have := plD_in _ _ _ x hx; omega
 have HR0 := Lib.hid (show moS l k 84 1 arg op = (match P[1 - 1]? with | some x => some (x + 1, false) | none => none) by rw [← hP]; simp [moS]; cases (placesL l k arg)[1 - 1]? <;> rfl)
 have HP := Lib.hid hP
 clear hP hln hl0
 have hs2 : w.heap.size + 2 ≤ ((w.alloc (.cells #[.slice a n c] 22)).alloc (.cells #[.int .i64 84, .int .i64 0, .int .i64 arg] 227)).heap.size := by simp
 by_cases hfit : P.length < 1
 ·have HR := Lib.hid (show moS l k 84 1 arg op = none by rw [HR0.out, List.getElem?_eq_none (by omega)])
  go_enter Try.func146, Try.ntmps146
  go_upto_region 1 with fail
  change Code.wp _ _ _ _ ((w.alloc (.cells #[.slice a n c] 22)).alloc (.cells #[.int .i64 84, .int .i64 0, .int .i64 arg] 227))
  generalize (w.alloc (.cells #[.slice a n c] 22)).alloc (.cells #[.int .i64 84, .int .i64 0, .int .i64 arg] 227) = w1 at *
  go_quiet (fail)
  go_wp2_with ((go_at_call 195); refine (ref_finds_left a n c l k arg _ (hI.drewN _) HN.out hn2 hk).mono ?_; rintro e w5 ⟨v5, rfl, hown5, hb5⟩; rw [HP.out] at hown5; obtain ⟨a5, n5, c5, rfl⟩ := hown5.form; have l5 := hown5.get.1; have L5 := Lib.hid l5; have l6 : n5 < 1 := (by omega); clear l5)
  go_ret3
  exact RGoPost.no HR.out (below_then (below_drewN hacc _) (by show w.heap.size ≤ w1.heap.size; omega) hb5)
 ·have hx0 : P[1 - 1]? = some (ix P (1 - 1)) := by rw [ix_eq (by omega), List.getElem?_eq_getElem (by omega)]
  obtain ⟨x, hx⟩ : ∃ x, ix P (1 - 1) = x := ⟨_, rfl⟩
  rw [hx] at hx0
  have hxb := hPx x (List.mem_of_getElem? hx0)
  obtain ⟨x1, x2⟩ := hxb
  have HR := Lib.hid (show moS l k 84 1 arg op = some (x + 1, false) by rw [HR0.out, hx0])
  have HX := Lib.hid hx
  clear hx hx0 hPx
  go_enter Try.func146, Try.ntmps146
  go_upto_region 1 with fail
  change Code.wp _ _ _ _ ((w.alloc (.cells #[.slice a n c] 22)).alloc (.cells #[.int .i64 84, .int .i64 0, .int .i64 arg] 227))
  generalize (w.alloc (.cells #[.slice a n c] 22)).alloc (.cells #[.int .i64 84, .int .i64 0, .int .i64 arg] 227) = w1 at *
  go_quiet (fail)
  go_wp2_with ((go_at_call 195); refine (ref_finds_left a n c l k arg _ (hI.drewN _) HN.out hn2 hk).mono ?_; rintro e w5 ⟨v5, rfl, hown5, hb5⟩; rw [HP.out] at hown5; obtain ⟨a5, n5, c5, rfl⟩ := hown5.form; have l5 := hown5.get.1; have L5 := Lib.hid l5; have l6 : 1 ≤ n5 := (by omega); obtain ⟨b7, o7, rfl, hc7⟩ := (hown5.get.2.1).at (k := 1 - 1) (by omega); have e7 := hc7 (1 - 1) (by omega); rw [HX.out] at e7; (try simp only [Nat.sub_self, Nat.add_zero] at e7); clear hc7 l5; have hi7 : (0 : Int) ≤ 1 - 1 := (by omega); have hi8 : 1 - 1 < (n5 : Int) := (by omega);  have hB8 := (hB6.drewN _).below hb5 (by show w.heap.size + 1 < w1.heap.size; omega); obtain ⟨z0, z1, z2, -, -, -⟩ := hB8.three )
  go_ret3
  exact RGoPost.yes HR.out (below_then (below_drewN hacc _) (by show w.heap.size ≤ w1.heap.size; omega) hb5)
set_option maxRecDepth 100000 in
set_option maxHeartbeats 2000000 in
theorem rgo_84_P (a : Option Addr) (n c : Nat) (l : List Int) (k : Nat) (arg : Int) (op : Bool) (w : World) (hl : Ints w a l) (hn : l.length = n) (hn2 : n ≤ 4096) (hk : k ≤ n) (hk2 : k < n ∨ n = 0) (m : Nat) (hm0 : 1 ≤ m) (hm1 : m ≤ 999) (h0 : 1 ≤ n) (hl0 : l.length ≠ 0) :
  Calls Try.prog 146 #[.slice a n c, .int .i64 (k : Int), mvV 84 (m : Int) arg, .bool op] w (RGoPost (moS l k 84 (m : Int) arg op) w) := by
 have hmz : ((m : Int) == 0) = false := by simp; omega
 unfold mvV
 have hB4 := (Blk.new w #[.slice a n c] 22).alloc (.cells #[.int .i64 84, .int .i64 (m : Int), .int .i64 arg] 227)
 obtain ⟨c4, -⟩ := hB4.one
 have hB6 := Blk.new (w.alloc (.cells #[.slice a n c] 22)) #[.int .i64 84, .int .i64 (m : Int), .int .i64 arg] 227
 rw [World.size_alloc] at hB6
 obtain ⟨c0, c1, c2, -, -, -⟩ := hB6.three
 have hacc := below2 w (.cells #[.slice a n c] 22) (.cells #[.int .i64 84, .int .i64 (m : Int), .int .i64 arg] 227)
 have hI := hl.below hacc
 have HN := Lib.hid hn
 clear hn
 have hn0 : ((n : Int) == 0) = false := by simp; omega
 have hln : ((l.length : Nat) : Int) = (n : Int) := by rw [HN.out]
 obtain ⟨P, hP⟩ : ∃ P, placesL l k arg = P := ⟨_, rfl⟩
 have hPl : P.length ≤ 4096 := by
  have hh := HN.out
  rw [← hP]
  have := plD_len l arg k; unfold placesL; omega
 have hPx : ∀ x ∈ P, 0 ≤ x ∧ x ≤ 4096 := by
  have hh := HN.out
  rw [← hP]
  intro x hx
  have := plD_in _ _ _ x hx; omega
 have HR0 := Lib.hid (show moS l k 84 (m : Int) arg op = (match P[m - 1]? with | some x => some (x + 1, false) | none => none) by rw [← hP]; simp [moS]; cases (placesL l k arg)[m - 1]? <;> rfl)
 have HP := Lib.hid hP
 clear hP hln hl0
 have hs2 : w.heap.size + 2 ≤ ((w.alloc (.cells #[.slice a n c] 22)).alloc (.cells #[.int .i64 84, .int .i64 (m : Int), .int .i64 arg] 227)).heap.size := by simp
 by_cases hfit : P.length < m
 ·have HR := Lib.hid (show moS l k 84 (m : Int) arg op = none by rw [HR0.out, List.getElem?_eq_none (by omega)])
  go_enter Try.func146, Try.ntmps146
  go_upto_region 1 with fail
  change Code.wp _ _ _ _ ((w.alloc (.cells #[.slice a n c] 22)).alloc (.cells #[.int .i64 84, .int .i64 (m : Int), .int .i64 arg] 227))
  generalize (w.alloc (.cells #[.slice a n c] 22)).alloc (.cells #[.int .i64 84, .int .i64 (m : Int), .int .i64 arg] 227) = w1 at *
  go_quiet (fail)
  go_wp2_with ((go_at_call 195); refine (ref_finds_left a n c l k arg _ (hI.drewN _) HN.out hn2 hk).mono ?_; rintro e w5 ⟨v5, rfl, hown5, hb5⟩; rw [HP.out] at hown5; obtain ⟨a5, n5, c5, rfl⟩ := hown5.form; have l5 := hown5.get.1; have L5 := Lib.hid l5; have l6 : n5 < m := (by omega); clear l5)
  go_ret3
  exact RGoPost.no HR.out (below_then (below_drewN hacc _) (by show w.heap.size ≤ w1.heap.size; omega) hb5)
 ·have hx0 : P[m - 1]? = some (ix P (m - 1)) := by rw [ix_eq (by omega), List.getElem?_eq_getElem (by omega)]
  obtain ⟨x, hx⟩ : ∃ x, ix P (m - 1) = x := ⟨_, rfl⟩
  rw [hx] at hx0
  have hxb := hPx x (List.mem_of_getElem? hx0)
  obtain ⟨x1, x2⟩ := hxb
  have HR := Lib.hid (show moS l k 84 (m : Int) arg op = some (x + 1, false) by rw [HR0.out, hx0])
  have HX := Lib.hid hx
  clear hx hx0 hPx
  go_enter Try.func146, Try.ntmps146
  go_upto_region 1 with fail
  change Code.wp _ _ _ _ ((w.alloc (.cells #[.slice a n c] 22)).alloc (.cells #[.int .i64 84, .int .i64 (m : Int), .int .i64 arg] 227))
  generalize (w.alloc (.cells #[.slice a n c] 22)).alloc (.cells #[.int .i64 84, .int .i64 (m : Int), .int .i64 arg] 227) = w1 at *
  go_quiet (fail)
  go_wp2_with ((go_at_call 195); refine (ref_finds_left a n c l k arg _ (hI.drewN _) HN.out hn2 hk).mono ?_; rintro e w5 ⟨v5, rfl, hown5, hb5⟩; rw [HP.out] at hown5; obtain ⟨a5, n5, c5, rfl⟩ := hown5.form; have l5 := hown5.get.1; have L5 := Lib.hid l5; have l6 : m ≤ n5 := (by omega); obtain ⟨b7, o7, rfl, hc7⟩ := (hown5.get.2.1).at (k := m - 1) (by omega); have e7 := hc7 (m - 1) (by omega); rw [HX.out] at e7; (try simp only [Nat.sub_self, Nat.add_zero] at e7); clear hc7 l5; have hi7 : (0 : Int) ≤ (m : Int) - 1 := (by omega); have hi8 : (m : Int) - 1 < (n5 : Int) := (by omega); have hi9 : ((m : Int) - 1).toNat = m - 1 := (by omega); have hB8 := (hB6.drewN _).below hb5 (by show w.heap.size + 1 < w1.heap.size; omega); obtain ⟨z0, z1, z2, -, -, -⟩ := hB8.three )
  go_ret3
  exact RGoPost.yes HR.out (below_then (below_drewN hacc _) (by show w.heap.size ≤ w1.heap.size; omega) hb5)
theorem rgo_Z (a : Option Addr) (n c : Nat) (l : List Int) (k : Nat) (arg : Int) (op : Bool) (w : World) (hl : Ints w a l) (hn : l.length = n) (hn2 : n ≤ 4096) (hk : k ≤ n) (hk2 : k < n ∨ n = 0) (key : Int) (hK : knownS key = true) :
  Calls Try.prog 146 #[.slice a n c, .int .i64 (k : Int), mvV key 0 arg, .bool op] w (RGoPost (moS l k key 1 arg op) w) := by
 have hn' : n = 0 ∨ 1 ≤ n := by omega
 rcases key_ways key with rfl | rfl | rfl | rfl | rfl | rfl | rfl | rfl | rfl | rfl | rfl | rfl | rfl | rfl | rfl | rfl | rfl | h
 case inr.inr.inr.inr.inr.inr.inr.inr.inr.inr.inr.inr.inr.inr.inr.inr.inr => rw [hK] at h; cases h
 ·exact rgo_h_Z a n c l k arg op w hl hn hn2 hk hk2
 ·exact rgo_l_Z a n c l k arg op w hl hn hn2 hk hk2
 ·exact rgo_0_Z a n c l k arg op w hl hn hn2 hk hk2
 ·exact rgo_first_Z a n c l k arg op w hl hn hn2 hk hk2
 ·rcases hn' with h0 | h0
  ·exact rgo_nil36_Z a n c l k arg op w hl hn hn2 hk hk2 h0 (by omega)
  ·exact rgo_36_Z a n c l k arg op w hl hn hn2 hk hk2 h0 (by omega)
 ·rcases hn' with h0 | h0
  ·exact rgo_nil124_Z a n c l k arg op w hl hn hn2 hk hk2 h0 (by omega)
  ·exact rgo_124_Z a n c l k arg op w hl hn hn2 hk hk2 h0 (by omega)
 ·rcases hn' with h0 | h0
  ·exact rgo_nil119_Z a n c l k arg op w hl hn hn2 hk hk2 h0 (by omega)
  ·exact rgo_119_Z a n c l k arg op w hl hn hn2 hk hk2 h0 (by omega)
 ·rcases hn' with h0 | h0
  ·exact rgo_nil87_Z a n c l k arg op w hl hn hn2 hk hk2 h0 (by omega)
  ·exact rgo_87_Z a n c l k arg op w hl hn hn2 hk hk2 h0 (by omega)
 ·exact rgo_b_Z a n c l k arg op w hl hn hn2 hk hk2
 ·exact rgo_B_Z a n c l k arg op w hl hn hn2 hk hk2
 ·rcases hn' with h0 | h0
  ·exact rgo_nil101_Z a n c l k arg op w hl hn hn2 hk hk2 h0 (by omega)
  ·exact rgo_101_Z a n c l k arg op w hl hn hn2 hk hk2 h0 (by omega)
 ·rcases hn' with h0 | h0
  ·exact rgo_nil69_Z a n c l k arg op w hl hn hn2 hk hk2 h0 (by omega)
  ·exact rgo_69_Z a n c l k arg op w hl hn hn2 hk hk2 h0 (by omega)
 ·rcases hn' with h0 | h0
  ·exact rgo_nil37_Z a n c l k arg op w hl hn hn2 hk hk2 h0 (by omega)
  ·exact rgo_37_Z a n c l k arg op w hl hn hn2 hk hk2 h0 (by omega)
 ·rcases hn' with h0 | h0
  ·exact rgo_nil102_Z a n c l k arg op w hl hn hn2 hk hk2 h0 (by omega)
  ·exact rgo_102_Z a n c l k arg op w hl hn hn2 hk hk2 h0 (by omega)
 ·rcases hn' with h0 | h0
  ·exact rgo_nil70_Z a n c l k arg op w hl hn hn2 hk hk2 h0 (by omega)
  ·exact rgo_70_Z a n c l k arg op w hl hn hn2 hk hk2 h0 (by omega)
 ·rcases hn' with h0 | h0
  ·exact rgo_nil116_Z a n c l k arg op w hl hn hn2 hk hk2 h0 (by omega)
  ·exact rgo_116_Z a n c l k arg op w hl hn hn2 hk hk2 h0 (by omega)
 ·rcases hn' with h0 | h0
  ·exact rgo_nil84_Z a n c l k arg op w hl hn hn2 hk hk2 h0 (by omega)
  ·exact rgo_84_Z a n c l k arg op w hl hn hn2 hk hk2 h0 (by omega)
theorem rgo_P (a : Option Addr) (n c : Nat) (l : List Int) (k : Nat) (arg : Int) (op : Bool) (w : World) (hl : Ints w a l) (hn : l.length = n) (hn2 : n ≤ 4096) (hk : k ≤ n) (hk2 : k < n ∨ n = 0) (m : Nat) (hm0 : 1 ≤ m) (hm1 : m ≤ 999) (key : Int) (hK : knownS key = true) :
  Calls Try.prog 146 #[.slice a n c, .int .i64 (k : Int), mvV key (m : Int) arg, .bool op] w (RGoPost (moS l k key (m : Int) arg op) w) := by
 have hn' : n = 0 ∨ 1 ≤ n := by omega
 rcases key_ways key with rfl | rfl | rfl | rfl | rfl | rfl | rfl | rfl | rfl | rfl | rfl | rfl | rfl | rfl | rfl | rfl | rfl | h
 case inr.inr.inr.inr.inr.inr.inr.inr.inr.inr.inr.inr.inr.inr.inr.inr.inr => rw [hK] at h; cases h
 ·exact rgo_h_P a n c l k arg op w hl hn hn2 hk hk2 m hm0 hm1
 ·exact rgo_l_P a n c l k arg op w hl hn hn2 hk hk2 m hm0 hm1
 ·exact rgo_0_P a n c l k arg op w hl hn hn2 hk hk2 m hm0 hm1
 ·exact rgo_first_P a n c l k arg op w hl hn hn2 hk hk2 m hm0 hm1
 ·rcases hn' with h0 | h0
  ·exact rgo_nil36_P a n c l k arg op w hl hn hn2 hk hk2 m hm0 hm1 h0 (by omega)
  ·exact rgo_36_P a n c l k arg op w hl hn hn2 hk hk2 m hm0 hm1 h0 (by omega)
 ·rcases hn' with h0 | h0
  ·exact rgo_nil124_P a n c l k arg op w hl hn hn2 hk hk2 m hm0 hm1 h0 (by omega)
  ·exact rgo_124_P a n c l k arg op w hl hn hn2 hk hk2 m hm0 hm1 h0 (by omega)
 ·rcases hn' with h0 | h0
  ·exact rgo_nil119_P a n c l k arg op w hl hn hn2 hk hk2 m hm0 hm1 h0 (by omega)
  ·exact rgo_119_P a n c l k arg op w hl hn hn2 hk hk2 m hm0 hm1 h0 (by omega)
 ·rcases hn' with h0 | h0
  ·exact rgo_nil87_P a n c l k arg op w hl hn hn2 hk hk2 m hm0 hm1 h0 (by omega)
  ·exact rgo_87_P a n c l k arg op w hl hn hn2 hk hk2 m hm0 hm1 h0 (by omega)
 ·exact rgo_b_P a n c l k arg op w hl hn hn2 hk hk2 m hm0 hm1
 ·exact rgo_B_P a n c l k arg op w hl hn hn2 hk hk2 m hm0 hm1
 ·rcases hn' with h0 | h0
  ·exact rgo_nil101_P a n c l k arg op w hl hn hn2 hk hk2 m hm0 hm1 h0 (by omega)
  ·exact rgo_101_P a n c l k arg op w hl hn hn2 hk hk2 m hm0 hm1 h0 (by omega)
 ·rcases hn' with h0 | h0
  ·exact rgo_nil69_P a n c l k arg op w hl hn hn2 hk hk2 m hm0 hm1 h0 (by omega)
  ·exact rgo_69_P a n c l k arg op w hl hn hn2 hk hk2 m hm0 hm1 h0 (by omega)
 ·rcases hn' with h0 | h0
  ·exact rgo_nil37_P a n c l k arg op w hl hn hn2 hk hk2 m hm0 hm1 h0 (by omega)
  ·exact rgo_37_P a n c l k arg op w hl hn hn2 hk hk2 m hm0 hm1 h0 (by omega)
 ·rcases hn' with h0 | h0
  ·exact rgo_nil102_P a n c l k arg op w hl hn hn2 hk hk2 m hm0 hm1 h0 (by omega)
  ·exact rgo_102_P a n c l k arg op w hl hn hn2 hk hk2 m hm0 hm1 h0 (by omega)
 ·rcases hn' with h0 | h0
  ·exact rgo_nil70_P a n c l k arg op w hl hn hn2 hk hk2 m hm0 hm1 h0 (by omega)
  ·exact rgo_70_P a n c l k arg op w hl hn hn2 hk hk2 m hm0 hm1 h0 (by omega)
 ·rcases hn' with h0 | h0
  ·exact rgo_nil116_P a n c l k arg op w hl hn hn2 hk hk2 m hm0 hm1 h0 (by omega)
  ·exact rgo_116_P a n c l k arg op w hl hn hn2 hk hk2 m hm0 hm1 h0 (by omega)
 ·rcases hn' with h0 | h0
  ·exact rgo_nil84_P a n c l k arg op w hl hn hn2 hk hk2 m hm0 hm1 h0 (by omega)
  ·exact rgo_84_P a n c l k arg op w hl hn hn2 hk hk2 m hm0 hm1 h0 (by omega)
theorem ref_go (a : Option Addr) (n c : Nat) (l : List Int) (k key count arg : Int) (op : Bool) (w : World) (hl : Ints w a l) (hn : l.length = n) (hE : moveE l k key count = 0) :
  Calls Try.prog 146 #[.slice a n c, .int .i64 k, mvV key count arg, .bool op] w (RGoPost (moS l k.toNat key (max 1 count) arg op) w) := by
 obtain ⟨h1, h2, h3, h4, h5, h6⟩ := moveE_ok hE
 obtain ⟨k, rfl⟩ := Int.eq_ofNat_of_zero_le h2
 obtain ⟨m, rfl⟩ := Int.eq_ofNat_of_zero_le h4
 rw [Int.toNat_natCast]
 rcases (show m = 0 ∨ 1 ≤ m by omega) with rfl | hm
 ·exact rgo_Z a n c l k arg op w hl hn (by omega) (by omega) (by omega) key h6
 ·rw [show max 1 (m : Int) = (m : Int) from by omega]
  exact rgo_P a n c l k arg op w hl hn (by omega) (by omega) (by omega) m hm (by omega) key h6
def RRaPost (F T : Int) (ok : Bool) (w : World) (e : Ending) (w' : World) : Prop := e = .returned (.tuple #[.int .i64 F, .int .i64 T, .bool ok]) ∧ Below w.heap.size w w'
theorem PartnerP.le {l : List Int} {n k : Nat} {r : Int} (h : PartnerP l n k r) (hk : k < n) : r < n := by
 unfold PartnerP at h
 split at h
 ·omega
 ·split at h
  ·rcases h with ⟨t, h1, _, _, h2⟩ | ⟨_, h2⟩ <;> (try dsimp only at h2) <;> omega
  ·rcases h with ⟨t, h1, _, _, h2⟩ | ⟨_, h2⟩ <;> (try dsimp only at h2) <;> omega
theorem moS_bd {l : List Int} {k : Nat} {key n arg : Int} {op : Bool} {x : Int} {b : Bool} (hk : k ≤ l.length) (hn : 1 ≤ n) (h : moS l k key n arg op = some (x, b)) : 0 ≤ x ∧ x ≤ l.length := by
 have hI : ∀ (f : Int → Int), (∀ y, 0 ≤ y → y ≤ (l.length : Int) → 0 ≤ f y ∧ f y ≤ (l.length : Int)) → 0 ≤ iterF f n.toNat k ∧ iterF f n.toNat k ≤ (l.length : Int) := fun f hf => iterF_bd (f := f) (lo := 0) (hi := l.length) hf (by omega) (by omega) _
 have hN := hI (nextF l (key == 87)) (fun y h0 h1 => nextF_bd l _ y h0 h1)
 have hB := hI (backF l (key == 66)) (fun y h0 h1 => backF_bd l _ y h0 h1)
 have hE := hI (endF l (key == 69)) (fun y h0 h1 => endF_bd l _ y h0 h1)
 unfold moS at h
 by_cases c1 : key = 104
 ·rw [if_pos c1] at h
  by_cases c2 : k = 0
  ·rw [if_pos c2] at h; cases h
  ·rw [if_neg c2] at h; simp at h; omega
 rw [if_neg c1] at h
 clear c1
 by_cases c1 : key = 108
 ·rw [if_pos c1] at h
  by_cases c2 : (if op = true then (l.length : Int) else l.length - 1) ≤ k
  ·rw [if_pos c2] at h; cases h
  ·rw [if_neg c2] at h
   cases op
   ·simp at h c2; omega
   ·simp at h c2; omega
 rw [if_neg c1] at h
 clear c1
 by_cases c1 : key = 48
 ·rw [if_pos c1] at h
  simp at h; omega
 rw [if_neg c1] at h
 clear c1
 by_cases c1 : key = 94
 ·rw [if_pos c1] at h
  simp at h
  have : 0 ≤ firstF l ∧ firstF l ≤ l.length := by
   unfold firstF
   split
   ·rename_i r hr; have := seekUp_some hr; omega
   ·omega
  omega
 rw [if_neg c1] at h
 clear c1
 by_cases c1 : key = 98 ∨ key = 66
 ·rw [if_pos c1] at h
  by_cases c2 : k = 0
  ·rw [if_pos c2] at h; cases h
  ·rw [if_neg c2] at h; simp at h; omega
 rw [if_neg c1] at h
 clear c1
 by_cases c1 : key = 102 ∨ key = 116
 ·rw [if_pos c1] at h
  rcases hy : (placesR l k arg)[n.toNat - 1]? with _ | y
  ·rw [hy] at h; cases h
  ·rw [hy] at h
   have hy := plU_in _ _ _ _ y (List.mem_of_getElem? hy)
   simp at h
   obtain ⟨h1, _⟩ := h
   split at h1 <;> omega
 rw [if_neg c1] at h
 clear c1
 by_cases c1 : key = 70 ∨ key = 84
 ·rw [if_pos c1] at h
  rcases hy : (placesL l k arg)[n.toNat - 1]? with _ | y
  ·rw [hy] at h; cases h
  ·rw [hy] at h
   have hy := plD_in _ _ _ y (List.mem_of_getElem? hy)
   simp at h
   obtain ⟨h1, _⟩ := h
   split at h1 <;> omega
 rw [if_neg c1] at h
 clear c1
 by_cases c1 : l.length = 0
 ·rw [if_pos c1] at h
  cases h
 rw [if_neg c1] at h
 by_cases c1 : key = 36
 ·rw [if_pos c1] at h
  simp at h; omega
 rw [if_neg c1] at h
 clear c1
 by_cases c1 : key = 124
 ·rw [if_pos c1] at h
  simp at h; omega
 rw [if_neg c1] at h
 clear c1
 by_cases c1 : key = 119 ∨ key = 87
 ·rw [if_pos c1] at h
  cases op
  ·simp only [Bool.false_eq_true, if_false] at h
   by_cases c2 : min (iterF (nextF l (key == 87)) n.toNat k) ((l.length : Int) - 1) = k
   ·rw [if_pos c2] at h; cases h
   ·rw [if_neg c2] at h; simp at h; omega
  ·simp only [if_true] at h; simp at h; omega
 rw [if_neg c1] at h
 clear c1
 by_cases c1 : key = 101 ∨ key = 69
 ·rw [if_pos c1] at h
  by_cases c2 : op = false ∧ iterF (endF l (key == 69)) n.toNat k = k
  ·rw [if_pos c2] at h; cases h
  ·rw [if_neg c2] at h; simp at h; omega
 rw [if_neg c1] at h
 clear c1
 by_cases c1 : partF l k < 0
 ·rw [if_pos c1] at h
  cases h
 rw [if_neg c1] at h
 simp at h
 have : partF l k ≤ l.length := by
  unfold partF
  split
  ·rename_i r hr
   have hr := seekUp_some hr
   have := PartnerP.le (pairs_partner l l.length r (by omega)) (by omega)
   omega
  ·omega
 omega
theorem endF_lt (l : List Int) (big : Bool) (k : Int) (h0 : 0 ≤ k) (hl : l.length ≠ 0) : 0 ≤ endF l big k ∧ endF l big k ≤ (l.length : Int) - 1 := by
 rcases endF_ref l big k h0 with h | h <;> omega
theorem moS_in {l : List Int} {k : Nat} {key n arg : Int} {op : Bool} {x : Int} (hk : k < l.length ∨ k = 0) (h : moS l k key n arg op = some (x, true)) : x + 1 ≤ l.length ∧ k + 1 ≤ l.length := by
 unfold moS at h
 by_cases c1 : key = 104
 ·rw [if_pos c1] at h
  by_cases c2 : k = 0
  ·rw [if_pos c2] at h; cases h
  ·rw [if_neg c2] at h; simp at h
 rw [if_neg c1] at h
 clear c1
 by_cases c1 : key = 108
 ·rw [if_pos c1] at h
  by_cases c2 : (if op = true then (l.length : Int) else l.length - 1) ≤ k
  ·rw [if_pos c2] at h; cases h
  ·rw [if_neg c2] at h; simp at h
 rw [if_neg c1] at h
 clear c1
 by_cases c1 : key = 48
 ·rw [if_pos c1] at h
  simp at h
 rw [if_neg c1] at h
 clear c1
 by_cases c1 : key = 94
 ·rw [if_pos c1] at h
  simp at h
 rw [if_neg c1] at h
 clear c1
 by_cases c1 : key = 98 ∨ key = 66
 ·rw [if_pos c1] at h
  by_cases c2 : k = 0
  ·rw [if_pos c2] at h; cases h
  ·rw [if_neg c2] at h; simp at h
 rw [if_neg c1] at h
 clear c1
 by_cases c1 : key = 102 ∨ key = 116
 ·rw [if_pos c1] at h
  rcases hy : (placesR l k arg)[n.toNat - 1]? with _ | y
  ·rw [hy] at h; cases h
  ·rw [hy] at h
   have hy := plU_in _ _ _ _ y (List.mem_of_getElem? hy)
   simp at h
   split at h <;> omega
 rw [if_neg c1] at h
 clear c1
 by_cases c1 : key = 70 ∨ key = 84
 ·rw [if_pos c1] at h
  rcases hy : (placesL l k arg)[n.toNat - 1]? with _ | y
  ·rw [hy] at h; cases h
  ·rw [hy] at h
   simp at h
 rw [if_neg c1] at h
 clear c1
 by_cases c1 : l.length = 0
 ·rw [if_pos c1] at h
  cases h
 rw [if_neg c1] at h
 have hl := c1
 refine ⟨?_, by omega⟩
 by_cases c1 : key = 36
 ·rw [if_pos c1] at h
  simp at h; omega
 rw [if_neg c1] at h
 clear c1
 by_cases c1 : key = 124
 ·rw [if_pos c1] at h
  simp at h
 rw [if_neg c1] at h
 clear c1
 by_cases c1 : key = 119 ∨ key = 87
 ·rw [if_pos c1] at h
  cases op
  ·simp only [Bool.false_eq_true, if_false] at h
   by_cases c2 : min (iterF (nextF l (key == 87)) n.toNat k) ((l.length : Int) - 1) = k
   ·rw [if_pos c2] at h; cases h
   ·rw [if_neg c2] at h; simp at h
  ·simp only [if_true] at h; simp at h
 rw [if_neg c1] at h
 clear c1
 by_cases c1 : key = 101 ∨ key = 69
 ·rw [if_pos c1] at h
  have hE := iterF_bd (f := endF l (key == 69)) (lo := 0) (hi := (l.length : Int) - 1) (fun y h0 h1 => endF_lt l _ y h0 hl) (k := k) (by omega) (by omega) n.toNat
  by_cases c2 : op = false ∧ iterF (endF l (key == 69)) n.toNat k = k
  ·rw [if_pos c2] at h; cases h
  ·rw [if_neg c2] at h; simp at h; omega
 rw [if_neg c1] at h
 clear c1
 by_cases c1 : partF l k < 0
 ·rw [if_pos c1] at h
  cases h
 rw [if_neg c1] at h
 simp at h
 have : partF l k < l.length := by
  unfold partF
  split
  ·rename_i r hr
   have hr := seekUp_some hr
   have := PartnerP.le (pairs_partner l l.length r (by omega)) (by omega)
   omega
  ·omega
 omega
theorem ra_bd {l : List Int} {k key count arg : Int} (h : goE l k key count arg true = 0) : 0 ≤ raF l k key count arg ∧ raF l k key count arg ≤ raT l k key count arg ∧ raT l k key count arg ≤ l.length := by
 by_cases hE : moveE l k key count = 0
 ·obtain ⟨h1, h2, h3, h4, h5, h6⟩ := moveE_ok hE
  have h' := h
  rw [goE, if_pos hE] at h'
  rcases hm : moS l k.toNat key (max 1 count) arg true with _ | ⟨x, b⟩
  ·rw [hm] at h'; simp [moE] at h'
  ·have hb := moS_bd (by omega) (by omega) hm
   rw [raF, raT, if_pos h, if_pos h, goA, if_pos hE, goB, if_pos hE, hm]
   cases b
   ·simp only [moA, moTh, Bool.false_eq_true, if_false]; omega
   ·have hi := moS_in (by omega) hm
    simp only [moA, moTh, if_true]; omega
 ·rw [goE, if_neg hE] at h; exact absurd h hE
theorem go_none {l : List Int} {k key count arg : Int} {op : Bool} (hE : moveE l k key count = 0) (h : moS l k.toNat key (max 1 count) arg op = none) : goA l k key count arg op = 0 ∧ goB l k key count arg op = false ∧ goE l k key count arg op = 5 := by
 rw [goA, goB, goE, if_pos hE, if_pos hE, if_pos hE, h]; exact ⟨rfl, rfl, rfl⟩
theorem go_some {l : List Int} {k key count arg : Int} {op : Bool} {x : Int} {b : Bool} (hE : moveE l k key count = 0) (h : moS l k.toNat key (max 1 count) arg op = some (x, b)) : goA l k key count arg op = x ∧ goB l k key count arg op = b ∧ goE l k key count arg op = 0 := by
 rw [goA, goB, goE, if_pos hE, if_pos hE, if_pos hE, h]; exact ⟨rfl, rfl, rfl⟩
theorem go_bad {l : List Int} {k key count arg : Int} {op : Bool} (hE : moveE l k key count ≠ 0) : goA l k key count arg op = 0 ∧ goB l k key count arg op = false ∧ goE l k key count arg op = moveE l k key count := by
 rw [goA, goB, goE, if_neg hE, if_neg hE, if_neg hE]; exact ⟨rfl, rfl, rfl⟩
theorem goA_in {l : List Int} {k key count arg : Int} {op : Bool} : InR (goA l k key count arg op + 1) := by
 by_cases hE : moveE l k key count = 0
 ·obtain ⟨h1, h2, h3, h4, h5, h6⟩ := moveE_ok hE
  rcases h : moS l k.toNat key (max 1 count) arg op with _ | ⟨x, b⟩
  ·rw [(go_none hE h).1]; exact ⟨by omega, by omega⟩
  ·rw [(go_some hE h).1]
   have := moS_bd (by omega) (by omega) h
   exact ⟨by omega, by omega⟩
 ·rw [(go_bad hE).1]; exact ⟨by omega, by omega⟩
theorem goE_k {l : List Int} {k key count arg : Int} {op : Bool} (h : goE l k key count arg op = 0) : k ≤ 4096 := by
 by_cases hE : moveE l k key count = 0
 ·obtain ⟨h1, h2, h3, h4, h5, h6⟩ := moveE_ok hE
  omega
 ·rw [(go_bad hE).2.2] at h; exact absurd h hE
theorem motion_range_any (a : Option Addr) (n c : Nat) (l : List Int) (k key count arg : Int) (w : World) (hl : Ints w a l) (hn : l.length = n) (hn2 : n ≤ 9223372036854775807) (hk : InR k) :
  Calls Try.prog 223 #[.slice a n c, .int .i64 k, mvV key count arg] w (RaPost (raF l k key count arg) (raT l k key count arg) (goE l k key count arg true) w) :=
 motion_range a n c l k key count arg w hl hn hn2 hk goA_in goE_k
theorem raF_none {l : List Int} {k key count arg : Int} (h : goE l k key count arg true ≠ 0) : raF l k key count arg = 0 ∧ raT l k key count arg = 0 := by
 rw [raF, raT, if_neg h, if_neg h]; exact ⟨rfl, rfl⟩
theorem raF_some {l : List Int} {k key count arg : Int} {x : Int} {b : Bool} (hA : goA l k key count arg true = x) (hB : goB l k key count arg true = b) (h : goE l k key count arg true = 0) : raF l k key count arg = min k x ∧ raT l k key count arg = max k x + (if b then 1 else 0) := by
 rw [raF, raT, if_pos h, if_pos h, hA, hB]; exact ⟨rfl, rfl⟩
set_option maxRecDepth 100000 in
set_option maxHeartbeats 2000000 in
theorem ref_range (a : Option Addr) (n c : Nat) (l : List Int) (k key count arg : Int) (w : World) (hl : Ints w a l) (hn : l.length = n) (hE : moveE l k key count = 0) :
  Calls Try.prog 235 #[.slice a n c, .int .i64 k, mvV key count arg] w (RRaPost (raF l k key count arg) (raT l k key count arg) (decide (goE l k key count arg true = 0)) w) := by
 have hk := moveE_ok hE
 obtain ⟨g1, g2, g3, -, -, -⟩ := hk
 have hk4 : k ≤ 4096 := by omega
 unfold mvV
 have hB := Blk.new w #[.int .i64 key, .int .i64 count, .int .i64 arg] 227
 obtain ⟨c0, c1, c2, -, -, -⟩ := hB.three
 have hacc := below1 w (.cells #[.int .i64 key, .int .i64 count, .int .i64 arg] 227)
 have hI := hl.below hacc
 rcases h : moS l k.toNat key (max 1 count) arg true with _ | ⟨x, b⟩
 ·obtain ⟨e1, e2, e3⟩ := go_none hE h
  obtain ⟨r1, r2⟩ := raF_none (l := l) (k := k) (key := key) (count := count) (arg := arg) (by rw [e3]; decide)
  rw [r1, r2, e3]
  have CT := fun w hl => ref_go a n c l k key count arg true w hl hn hE
  rw [h] at CT
  have HCT := Lib.hid CT
  clear CT h hE e1 e2 e3 r1 r2 hn
  go_enter Try.func235, Try.ntmps235
  go_wp2_with ((go_at_call 146); refine (HCT.out _ hI).mono ?_; rintro e w2 ⟨x, b, rfl, -, hb2⟩; have hnn : Option.isNone (none : Option (Int × Bool)) = true := rfl)
  go_ret3
  exact ⟨rfl, below_then hacc (by simp) hb2⟩
 ·obtain ⟨e1, e2, e3⟩ := go_some hE h
  obtain ⟨r1, r2⟩ := raF_some e1 e2 e3
  have hx := moS_bd (by omega) (by omega) h
  have hx4 : x ≤ 4096 := by omega
  have hx0 : 0 ≤ x := by omega
  rw [r1, r2, e3]
  have CT := fun w hl => ref_go a n c l k key count arg true w hl hn hE
  rw [h] at CT
  have HCT := Lib.hid CT
  clear CT h hE e1 e2 e3 r1 r2 hn hx
  rcases (show k ≤ x ∨ x < k by omega) with h1 | h1
  ·have HM1 := Lib.hid (show min k x = k by omega)
   have HM2 := Lib.hid (show max k x = x by omega)
   have h2 : ¬ x < k := by omega
   cases b
   all_goals
    go_enter Try.func235, Try.ntmps235
    go_wp2_with ((go_at_call 146); refine (HCT.out _ hI).mono ?_; rintro e w2 ⟨x', b', rfl, hxx, hb2⟩; obtain ⟨y1, y2⟩ := Prod.mk.inj (hxx _ rfl); subst y1; subst y2; have hnn : ∀ y : Int × Bool, Option.isNone (some y) = false := fun _ => rfl; clear hxx)
    go_ret3
    rw [HM1.out, HM2.out]
    exact ⟨by first | rfl | simp, below_then hacc (by simp) hb2⟩
  ·have HM1 := Lib.hid (show min k x = x by omega)
   have HM2 := Lib.hid (show max k x = k by omega)
   cases b
   all_goals
    go_enter Try.func235, Try.ntmps235
    go_wp2_with ((go_at_call 146); refine (HCT.out _ hI).mono ?_; rintro e w2 ⟨x', b', rfl, hxx, hb2⟩; obtain ⟨y1, y2⟩ := Prod.mk.inj (hxx _ rfl); subst y1; subst y2; have hnn : ∀ y : Int × Bool, Option.isNone (some y) = false := fun _ => rfl; clear hxx)
    go_ret3
    rw [HM1.out, HM2.out]
    exact ⟨by first | rfl | simp, below_then hacc (by simp) hb2⟩
theorem mvKB {P : Nat} {fk fa ct rg op vb ar : Int} {w w1 : World} {w2 : World} (hP : P < w.heap.size) (h : w1.cell? ⟨P, 63, none⟩ = some (.int .i64 fk) ∧ w1.cell? ⟨P, 64, none⟩ = some (.int .i64 fa) ∧ w1.cell? ⟨P, 29, none⟩ = some (.int .i64 ct) ∧ w1.cell? ⟨P, 30, none⟩ = some (.int .i64 rg) ∧ w1.cell? ⟨P, 31, none⟩ = some (.int .i64 op) ∧ w1.cell? ⟨P, 32, none⟩ = some (.int .i64 vb) ∧ w1.cell? ⟨P, 33, none⟩ = some (.int .i64 ar) ∧ Below w.heap.size w w1) (hb : Below w.heap.size w1 w2) : w2.cell? ⟨P, 63, none⟩ = some (.int .i64 fk) ∧ w2.cell? ⟨P, 64, none⟩ = some (.int .i64 fa) ∧ w2.cell? ⟨P, 29, none⟩ = some (.int .i64 ct) ∧ w2.cell? ⟨P, 30, none⟩ = some (.int .i64 rg) ∧ w2.cell? ⟨P, 31, none⟩ = some (.int .i64 op) ∧ w2.cell? ⟨P, 32, none⟩ = some (.int .i64 vb) ∧ w2.cell? ⟨P, 33, none⟩ = some (.int .i64 ar) ∧ Below w.heap.size w w2 :=
 ⟨by rw [hb.cell hP]; exact h.1, by rw [hb.cell hP]; exact h.2.1, by rw [hb.cell hP]; exact h.2.2.1, by rw [hb.cell hP]; exact h.2.2.2.1, by rw [hb.cell hP]; exact h.2.2.2.2.1, by rw [hb.cell hP]; exact h.2.2.2.2.2.1, by rw [hb.cell hP]; exact h.2.2.2.2.2.2.1, h.2.2.2.2.2.2.2.trans hb⟩
theorem mvF1 {w w8 : World} (hb8 : Below (w.drew).heap.size (w.drew) w8) : w.heap.size ≤ w8.heap.size ∧ Below w.heap.size w w8 := by
 have h0 : w.heap.size ≤ (w.drew).heap.size := by simp only [World.size_drew, World.size_alloc]; omega
 have h1 : Below w.heap.size w (w.drew) := (Below.refl w.heap.size w).drew
 have hB8 : Below w.heap.size w w8 := h1.trans (hb8.mono h0)
 exact ⟨Nat.le_trans h0 hb8.size, hB8⟩
theorem mvF2 {w w8 : World} (hb8 : Below ((w.alloc (.cells #[.int .i64 0, .int .i64 0, .int .i64 0] 227)).drew).heap.size ((w.alloc (.cells #[.int .i64 0, .int .i64 0, .int .i64 0] 227)).drew) w8) : w.heap.size ≤ w8.heap.size ∧ Below w.heap.size w w8 ∧ w.heap.size < w8.heap.size ∧ w.heap.size + 0 < w8.heap.size ∧ w.heap.size ≠ w8.heap.size ∧ w8.heap.size ≠ w.heap.size ∧ w8.cell? ⟨w.heap.size, 0, none⟩ = some (.int .i64 0) ∧ w8.cell? ⟨w.heap.size, 1, none⟩ = some (.int .i64 0) ∧ w8.cell? ⟨w.heap.size, 2, none⟩ = some (.int .i64 0) ∧ w8.frozen? ⟨w.heap.size, 0, none⟩ = false ∧ w8.frozen? ⟨w.heap.size, 1, none⟩ = false ∧ w8.frozen? ⟨w.heap.size, 2, none⟩ = false := by
 have h0 : w.heap.size ≤ ((w.alloc (.cells #[.int .i64 0, .int .i64 0, .int .i64 0] 227)).drew).heap.size := by simp only [World.size_drew, World.size_alloc]; omega
 have h1 : Below w.heap.size w ((w.alloc (.cells #[.int .i64 0, .int .i64 0, .int .i64 0] 227)).drew) := ((Below.refl w.heap.size w).alloc (Nat.le_refl _) _).drew
 have hB8 : Below w.heap.size w w8 := h1.trans (hb8.mono h0)
 have h9 : w.heap.size + 1 ≤ w8.heap.size := by have := hb8.size; simp only [World.size_drew, World.size_alloc] at this; omega
 have k0 : Blk w8 w.heap.size #[.int .i64 0, .int .i64 0, .int .i64 0] 227 := (Blk.new w #[.int .i64 0, .int .i64 0, .int .i64 0] 227).below (w := ((w.alloc (.cells #[.int .i64 0, .int .i64 0, .int .i64 0] 227)).drew)) hb8 (by show _ < ((w.alloc (.cells #[.int .i64 0, .int .i64 0, .int .i64 0] 227)).drew).heap.size; simp only [World.size_drew, World.size_alloc]; omega)
 obtain ⟨y0_0, y0_1, y0_2, y0_3, y0_4, y0_5⟩ := k0.three
 exact ⟨Nat.le_trans h0 hb8.size, hB8, by omega, by omega, by omega, by omega, y0_0, y0_1, y0_2, y0_3, y0_4, y0_5⟩
theorem mvF3 {w w8 : World} (hb8 : Below ((w.alloc (.cells #[.int .i64 0, .int .i64 0] 135)).drew).heap.size ((w.alloc (.cells #[.int .i64 0, .int .i64 0] 135)).drew) w8) : w.heap.size ≤ w8.heap.size ∧ Below w.heap.size w w8 ∧ w.heap.size < w8.heap.size ∧ w.heap.size + 0 < w8.heap.size ∧ w.heap.size ≠ w8.heap.size ∧ w8.heap.size ≠ w.heap.size ∧ w8.cell? ⟨w.heap.size, 0, none⟩ = some (.int .i64 0) ∧ w8.cell? ⟨w.heap.size, 1, none⟩ = some (.int .i64 0) ∧ w8.frozen? ⟨w.heap.size, 0, none⟩ = false ∧ w8.frozen? ⟨w.heap.size, 1, none⟩ = false := by
 have h0 : w.heap.size ≤ ((w.alloc (.cells #[.int .i64 0, .int .i64 0] 135)).drew).heap.size := by simp only [World.size_drew, World.size_alloc]; omega
 have h1 : Below w.heap.size w ((w.alloc (.cells #[.int .i64 0, .int .i64 0] 135)).drew) := ((Below.refl w.heap.size w).alloc (Nat.le_refl _) _).drew
 have hB8 : Below w.heap.size w w8 := h1.trans (hb8.mono h0)
 have h9 : w.heap.size + 1 ≤ w8.heap.size := by have := hb8.size; simp only [World.size_drew, World.size_alloc] at this; omega
 have k0 : Blk w8 w.heap.size #[.int .i64 0, .int .i64 0] 135 := (Blk.new w #[.int .i64 0, .int .i64 0] 135).below (w := ((w.alloc (.cells #[.int .i64 0, .int .i64 0] 135)).drew)) hb8 (by show _ < ((w.alloc (.cells #[.int .i64 0, .int .i64 0] 135)).drew).heap.size; simp only [World.size_drew, World.size_alloc]; omega)
 obtain ⟨y0_0, y0_1, y0_2, y0_3⟩ := k0.two
 exact ⟨Nat.le_trans h0 hb8.size, hB8, by omega, by omega, by omega, by omega, y0_0, y0_1, y0_2, y0_3⟩
theorem mvF4 {w w8 : World} (hb8 : Below (((w.alloc (.cells #[.int .i64 0, .int .i64 0, .int .i64 0] 227)).alloc (.cells #[.int .i64 0, .int .i64 0] 135)).drew).heap.size (((w.alloc (.cells #[.int .i64 0, .int .i64 0, .int .i64 0] 227)).alloc (.cells #[.int .i64 0, .int .i64 0] 135)).drew) w8) : w.heap.size ≤ w8.heap.size ∧ Below w.heap.size w w8 ∧ w.heap.size < w8.heap.size ∧ w.heap.size + 1 < w8.heap.size ∧ w.heap.size ≠ w8.heap.size ∧ w8.heap.size ≠ w.heap.size ∧ w8.cell? ⟨w.heap.size, 0, none⟩ = some (.int .i64 0) ∧ w8.cell? ⟨w.heap.size, 1, none⟩ = some (.int .i64 0) ∧ w8.cell? ⟨w.heap.size, 2, none⟩ = some (.int .i64 0) ∧ w8.frozen? ⟨w.heap.size, 0, none⟩ = false ∧ w8.frozen? ⟨w.heap.size, 1, none⟩ = false ∧ w8.frozen? ⟨w.heap.size, 2, none⟩ = false ∧ w8.cell? ⟨w.heap.size + 1, 0, none⟩ = some (.int .i64 0) ∧ w8.cell? ⟨w.heap.size + 1, 1, none⟩ = some (.int .i64 0) ∧ w8.frozen? ⟨w.heap.size + 1, 0, none⟩ = false ∧ w8.frozen? ⟨w.heap.size + 1, 1, none⟩ = false := by
 have h0 : w.heap.size ≤ (((w.alloc (.cells #[.int .i64 0, .int .i64 0, .int .i64 0] 227)).alloc (.cells #[.int .i64 0, .int .i64 0] 135)).drew).heap.size := by simp only [World.size_drew, World.size_alloc]; omega
 have h1 : Below w.heap.size w (((w.alloc (.cells #[.int .i64 0, .int .i64 0, .int .i64 0] 227)).alloc (.cells #[.int .i64 0, .int .i64 0] 135)).drew) := (((Below.refl w.heap.size w).alloc (Nat.le_refl _) _).alloc (by rw [World.size_alloc]; omega) _).drew
 have hB8 : Below w.heap.size w w8 := h1.trans (hb8.mono h0)
 have h9 : w.heap.size + 2 ≤ w8.heap.size := by have := hb8.size; simp only [World.size_drew, World.size_alloc] at this; omega
 have k0 : Blk w8 w.heap.size #[.int .i64 0, .int .i64 0, .int .i64 0] 227 := ((Blk.new w #[.int .i64 0, .int .i64 0, .int .i64 0] 227).alloc (.cells #[.int .i64 0, .int .i64 0] 135)).below (w := (((w.alloc (.cells #[.int .i64 0, .int .i64 0, .int .i64 0] 227)).alloc (.cells #[.int .i64 0, .int .i64 0] 135)).drew)) hb8 (by show _ < (((w.alloc (.cells #[.int .i64 0, .int .i64 0, .int .i64 0] 227)).alloc (.cells #[.int .i64 0, .int .i64 0] 135)).drew).heap.size; simp only [World.size_drew, World.size_alloc]; omega)
 obtain ⟨y0_0, y0_1, y0_2, y0_3, y0_4, y0_5⟩ := k0.three
 have k1 : Blk w8 (w.heap.size + 1) #[.int .i64 0, .int .i64 0] 135 := (show Blk _ (w.heap.size + 1) #[.int .i64 0, .int .i64 0] 135 from (World.size_alloc w (.cells #[.int .i64 0, .int .i64 0, .int .i64 0] 227)) ▸ Blk.new (w.alloc (.cells #[.int .i64 0, .int .i64 0, .int .i64 0] 227)) #[.int .i64 0, .int .i64 0] 135).below (w := (((w.alloc (.cells #[.int .i64 0, .int .i64 0, .int .i64 0] 227)).alloc (.cells #[.int .i64 0, .int .i64 0] 135)).drew)) hb8 (by show _ < (((w.alloc (.cells #[.int .i64 0, .int .i64 0, .int .i64 0] 227)).alloc (.cells #[.int .i64 0, .int .i64 0] 135)).drew).heap.size; simp only [World.size_drew, World.size_alloc]; omega)
 obtain ⟨y1_0, y1_1, y1_2, y1_3⟩ := k1.two
 exact ⟨Nat.le_trans h0 hb8.size, hB8, by omega, by omega, by omega, by omega, y0_0, y0_1, y0_2, y0_3, y0_4, y0_5, y1_0, y1_1, y1_2, y1_3⟩
theorem mvF5 {w w8 : World} (hb8 : Below (((w.alloc (.cells #[.int .i64 0, .int .i64 0] 135)).alloc (.cells #[.int .i64 0, .int .i64 0, .int .i64 0] 227)).drew).heap.size (((w.alloc (.cells #[.int .i64 0, .int .i64 0] 135)).alloc (.cells #[.int .i64 0, .int .i64 0, .int .i64 0] 227)).drew) w8) : w.heap.size ≤ w8.heap.size ∧ Below w.heap.size w w8 ∧ w.heap.size < w8.heap.size ∧ w.heap.size + 1 < w8.heap.size ∧ w.heap.size ≠ w8.heap.size ∧ w8.heap.size ≠ w.heap.size ∧ w8.cell? ⟨w.heap.size, 0, none⟩ = some (.int .i64 0) ∧ w8.cell? ⟨w.heap.size, 1, none⟩ = some (.int .i64 0) ∧ w8.frozen? ⟨w.heap.size, 0, none⟩ = false ∧ w8.frozen? ⟨w.heap.size, 1, none⟩ = false ∧ w8.cell? ⟨w.heap.size + 1, 0, none⟩ = some (.int .i64 0) ∧ w8.cell? ⟨w.heap.size + 1, 1, none⟩ = some (.int .i64 0) ∧ w8.cell? ⟨w.heap.size + 1, 2, none⟩ = some (.int .i64 0) ∧ w8.frozen? ⟨w.heap.size + 1, 0, none⟩ = false ∧ w8.frozen? ⟨w.heap.size + 1, 1, none⟩ = false ∧ w8.frozen? ⟨w.heap.size + 1, 2, none⟩ = false := by
 have h0 : w.heap.size ≤ (((w.alloc (.cells #[.int .i64 0, .int .i64 0] 135)).alloc (.cells #[.int .i64 0, .int .i64 0, .int .i64 0] 227)).drew).heap.size := by simp only [World.size_drew, World.size_alloc]; omega
 have h1 : Below w.heap.size w (((w.alloc (.cells #[.int .i64 0, .int .i64 0] 135)).alloc (.cells #[.int .i64 0, .int .i64 0, .int .i64 0] 227)).drew) := (((Below.refl w.heap.size w).alloc (Nat.le_refl _) _).alloc (by rw [World.size_alloc]; omega) _).drew
 have hB8 : Below w.heap.size w w8 := h1.trans (hb8.mono h0)
 have h9 : w.heap.size + 2 ≤ w8.heap.size := by have := hb8.size; simp only [World.size_drew, World.size_alloc] at this; omega
 have k0 : Blk w8 w.heap.size #[.int .i64 0, .int .i64 0] 135 := ((Blk.new w #[.int .i64 0, .int .i64 0] 135).alloc (.cells #[.int .i64 0, .int .i64 0, .int .i64 0] 227)).below (w := (((w.alloc (.cells #[.int .i64 0, .int .i64 0] 135)).alloc (.cells #[.int .i64 0, .int .i64 0, .int .i64 0] 227)).drew)) hb8 (by show _ < (((w.alloc (.cells #[.int .i64 0, .int .i64 0] 135)).alloc (.cells #[.int .i64 0, .int .i64 0, .int .i64 0] 227)).drew).heap.size; simp only [World.size_drew, World.size_alloc]; omega)
 obtain ⟨y0_0, y0_1, y0_2, y0_3⟩ := k0.two
 have k1 : Blk w8 (w.heap.size + 1) #[.int .i64 0, .int .i64 0, .int .i64 0] 227 := (show Blk _ (w.heap.size + 1) #[.int .i64 0, .int .i64 0, .int .i64 0] 227 from (World.size_alloc w (.cells #[.int .i64 0, .int .i64 0] 135)) ▸ Blk.new (w.alloc (.cells #[.int .i64 0, .int .i64 0] 135)) #[.int .i64 0, .int .i64 0, .int .i64 0] 227).below (w := (((w.alloc (.cells #[.int .i64 0, .int .i64 0] 135)).alloc (.cells #[.int .i64 0, .int .i64 0, .int .i64 0] 227)).drew)) hb8 (by show _ < (((w.alloc (.cells #[.int .i64 0, .int .i64 0] 135)).alloc (.cells #[.int .i64 0, .int .i64 0, .int .i64 0] 227)).drew).heap.size; simp only [World.size_drew, World.size_alloc]; omega)
 obtain ⟨y1_0, y1_1, y1_2, y1_3, y1_4, y1_5⟩ := k1.three
 exact ⟨Nat.le_trans h0 hb8.size, hB8, by omega, by omega, by omega, by omega, y0_0, y0_1, y0_2, y0_3, y1_0, y1_1, y1_2, y1_3, y1_4, y1_5⟩
theorem mvQ {P B : Nat} {a : Option Addr} {n c : Nat} {k mk ct mg : Int} {w w1 w2 : World} (hP : P < w.heap.size) (hB : B < w.heap.size) (h : w1.cell? ⟨P, 0, none⟩ = some (.slice a n c) ∧ w1.cell? ⟨P, 1, none⟩ = some (.int .i64 k) ∧ w1.cell? ⟨B, 0, none⟩ = some (.int .i64 mk) ∧ w1.cell? ⟨B, 1, none⟩ = some (.int .i64 ct) ∧ w1.cell? ⟨B, 2, none⟩ = some (.int .i64 mg) ∧ Below w.heap.size w w1) (hb : Below w1.heap.size w1 w2) : w2.cell? ⟨P, 0, none⟩ = some (.slice a n c) ∧ w2.cell? ⟨P, 1, none⟩ = some (.int .i64 k) ∧ w2.cell? ⟨B, 0, none⟩ = some (.int .i64 mk) ∧ w2.cell? ⟨B, 1, none⟩ = some (.int .i64 ct) ∧ w2.cell? ⟨B, 2, none⟩ = some (.int .i64 mg) ∧ Below w.heap.size w w2 := by
 obtain ⟨h1, h2, h3, h4, h5, h6⟩ := h
 have hb' : Below w.heap.size w1 w2 := hb.mono h6.size
 exact ⟨by rw [hb'.cell hP]; exact h1, by rw [hb'.cell hP]; exact h2, by rw [hb'.cell hB]; exact h3, by rw [hb'.cell hB]; exact h4, by rw [hb'.cell hB]; exact h5, h6.trans hb'⟩
set_option maxRecDepth 100000 in
set_option maxHeartbeats 4000000 in
theorem doer_move (P : Nat) (us : List Value) (I : In) (hI : InOk I) (s : St) (w : World) (h : DI P w us I s) (hf : s.fk = 0 ∨ fiB s.fk = true) :
  Calls Try.prog 180 #[.pointer (some ⟨P, 0, none⟩)] w (DPost P I (mvS I s).1 (mvS I s).2 w) := by
 have c63 := h.c63; have c64 := h.c64; have c29 := h.c29; have c30 := h.c30; have c31 := h.c31; have c32 := h.c32; have c33 := h.c33
 have HI := Lib.hid hI
 have HX := Lib.hid h
 have hPw := h.lt
 have HM := Lib.hid (show mvS I s = mvS I s from rfl)
 clear h hI
 obtain ⟨cm, O, p, Y, fk, fa, md, es⟩ := s
 obtain ⟨ct, rg, op, vb, ar⟩ := cm
 dsimp only at c63 c64 c29 c30 c31 c32 c33 hf
 obtain ⟨mk, hmk⟩ : ∃ mk, mtK fk vb = mk := ⟨_, rfl⟩
 obtain ⟨mg, hmg⟩ : ∃ mg, mtA fk fa vb ar = mg := ⟨_, rfl⟩
 obtain ⟨me, hme⟩ : ∃ me, mtE fk vb = me := ⟨_, rfl⟩
 obtain ⟨lk, hlk⟩ : ∃ lk, lkV fk vb = lk := ⟨_, rfl⟩
 obtain ⟨la, hla⟩ : ∃ la, laV fa vb ar = la := ⟨_, rfl⟩
 have FN : ∀ w1, Calls Try.prog 221 #[.agg #[.int .i64 fk, .int .i64 fa], .agg #[.int .i64 ct, .int .i64 rg, .int .i64 op, .int .i64 vb, .int .i64 ar]] w1 (FnPost mk ct mg lk la me w1) := fun w1 => by
  have := edit_found fk fa ⟨ct, rg, op, vb, ar⟩ w1 hf
  dsimp only at this
  rw [hmk, hmg, hme, hlk, hla] at this
  exact this
 have HF := Lib.hid FN
 have HV := Lib.hid (show _ ∧ _ ∧ _ ∧ _ ∧ _ from ⟨hmk, hmg, hme, hlk, hla⟩)
 clear FN hmk hmg hme hlk hla hf HM
 go_enter Try.func180, Try.ntmps180
 go_upto_region 1 with fail
 go_cut [3, 4, 5] (fun u v e wx => ∃ B C, w.heap.size ≤ C ∧ u = .pointer (some ⟨B, 0, none⟩) ∧ v = .pointer (some ⟨C, 0, none⟩) ∧ e = .int .i64 me ∧ wx.cell? ⟨B, 0, none⟩ = some (.int .i64 mk) ∧ wx.cell? ⟨B, 1, none⟩ = some (.int .i64 ct) ∧ wx.cell? ⟨B, 2, none⟩ = some (.int .i64 mg) ∧ wx.cell? ⟨C, 0, none⟩ = some (.int .i64 lk) ∧ wx.cell? ⟨C, 1, none⟩ = some (.int .i64 la) ∧ Below w.heap.size w wx)
 case first =>
  have HS0 := Lib.hid (show _ ∧ _ ∧ _ ∧ _ ∧ _ ∧ _ ∧ _ ∧ _ from ⟨c63, c64, c29, c30, c31, c32, c33, Below.refl w.heap.size w⟩)
  clear HX HI HV
  go_region_held3 (fun w' => w'.cell? ⟨P, 63, none⟩ = some (.int .i64 fk) ∧ w'.cell? ⟨P, 64, none⟩ = some (.int .i64 fa) ∧ w'.cell? ⟨P, 29, none⟩ = some (.int .i64 ct) ∧ w'.cell? ⟨P, 30, none⟩ = some (.int .i64 rg) ∧ w'.cell? ⟨P, 31, none⟩ = some (.int .i64 op) ∧ w'.cell? ⟨P, 32, none⟩ = some (.int .i64 vb) ∧ w'.cell? ⟨P, 33, none⟩ = some (.int .i64 ar) ∧ Below w.heap.size w w') (first | (with_reducible assumption) | (refine mvKB hPw HS0.out ?_; repeat (first | (with_reducible assumption) | (with_reducible exact Below.refl _ _) | (with_reducible refine Below.drew ?_) | (with_reducible refine Below.alloc ?_ (by first | (with_reducible assumption) | (with_reducible exact Nat.le_refl _) | (with_reducible exact Nat.le_succ _) | omega | (simp only [World.size_alloc, World.size_setCell, World.size_drew]; omega)) _) | (with_reducible refine Below.setCell ?_ (by first | (with_reducible assumption) | (with_reducible exact Nat.le_refl _) | (with_reducible exact Nat.le_succ _) | omega | (simp only [World.size_alloc, World.size_setCell, World.size_drew]; omega)) _)))) (first | (go_at_call 221; (with_reducible show Calls _ _ _ (w.drew) _); refine (HF.out (w.drew)).mono ?_; rintro e w8 ⟨rfl, hb8⟩; obtain ⟨hq8, hB8⟩ := mvF1 hb8; clear hb8) | (go_at_call 221; (with_reducible show Calls _ _ _ ((w.alloc (.cells #[.int .i64 0, .int .i64 0, .int .i64 0] 227)).drew) _); refine (HF.out ((w.alloc (.cells #[.int .i64 0, .int .i64 0, .int .i64 0] 227)).drew)).mono ?_; rintro e w8 ⟨rfl, hb8⟩; obtain ⟨hq8, hB8, hs8, hs9, hne8, hne9, y0_0, y0_1, y0_2, y0_3, y0_4, y0_5⟩ := mvF2 hb8; clear hb8) | (go_at_call 221; (with_reducible show Calls _ _ _ ((w.alloc (.cells #[.int .i64 0, .int .i64 0] 135)).drew) _); refine (HF.out ((w.alloc (.cells #[.int .i64 0, .int .i64 0] 135)).drew)).mono ?_; rintro e w8 ⟨rfl, hb8⟩; obtain ⟨hq8, hB8, hs8, hs9, hne8, hne9, y0_0, y0_1, y0_2, y0_3⟩ := mvF3 hb8; clear hb8) | (go_at_call 221; (with_reducible show Calls _ _ _ (((w.alloc (.cells #[.int .i64 0, .int .i64 0, .int .i64 0] 227)).alloc (.cells #[.int .i64 0, .int .i64 0] 135)).drew) _); refine (HF.out (((w.alloc (.cells #[.int .i64 0, .int .i64 0, .int .i64 0] 227)).alloc (.cells #[.int .i64 0, .int .i64 0] 135)).drew)).mono ?_; rintro e w8 ⟨rfl, hb8⟩; obtain ⟨hq8, hB8, hs8, hs9, hne8, hne9, y0_0, y0_1, y0_2, y0_3, y0_4, y0_5, y1_0, y1_1, y1_2, y1_3⟩ := mvF4 hb8; clear hb8) | (go_at_call 221; (with_reducible show Calls _ _ _ (((w.alloc (.cells #[.int .i64 0, .int .i64 0] 135)).alloc (.cells #[.int .i64 0, .int .i64 0, .int .i64 0] 227)).drew) _); refine (HF.out (((w.alloc (.cells #[.int .i64 0, .int .i64 0] 135)).alloc (.cells #[.int .i64 0, .int .i64 0, .int .i64 0] 227)).drew)).mono ?_; rintro e w8 ⟨rfl, hb8⟩; obtain ⟨hq8, hB8, hs8, hs9, hne8, hne9, y0_0, y0_1, y0_2, y0_3, y1_0, y1_1, y1_2, y1_3, y1_4, y1_5⟩ := mvF5 hb8; clear hb8))
  all_goals
   go_wp2
   go_meet
   rename_i hHeld
   refine ⟨_, _, (by first | (with_reducible assumption) | (with_reducible exact Nat.le_refl _) | (with_reducible exact Nat.le_succ _) | omega | (simp only [World.size_alloc, World.size_setCell, World.size_drew]; omega)), rfl, rfl, rfl, ?_, ?_, ?_, ?_, ?_, hHeld.2.2.2.2.2.2.2⟩
   all_goals go_simp
 obtain ⟨B, C, hC, rfl, rfl, rfl, b0, b1, b2, l0, l1, hb1⟩ := hcut
 have h1 := HX.out.to hb1
 clear c63 c64 c29 c30 c31 c32 c33
 have HPC := Lib.hid (show C ≠ P by omega)
 by_cases he : me = 0
 ·subst he
  have hT := h1.sl HI.out
  have c0 := h1.c0; have c1 := h1.c1; have c31 := h1.c31
  have c35 := h1.c35; have c63 := h1.c63; have c64 := h1.c64
  dsimp only at c31
  have H1 := Lib.hid h1
  have hk4 : I.k ≤ 200 := by have := HI.out.k1; have := HI.out.top; omega
  have HK : InR (I.k : Int) := ⟨by omega, by omega⟩
  have HH := Lib.hid HK
  by_cases h0 : op = 0
  ·subst h0
   obtain ⟨A, hA⟩ : ∃ A, goA I.t I.k mk ct mg false = A := ⟨_, rfl⟩
   obtain ⟨bb, hbb⟩ : ∃ bb, goB I.t I.k mk ct mg false = bb := ⟨_, rfl⟩
   obtain ⟨E, hE⟩ : ∃ E, goE I.t I.k mk ct mg false = E := ⟨_, rfl⟩
   have GO : ∀ w2, Below wc.heap.size wc w2 → Calls Try.prog 222 #[.slice I.a I.n I.c, .int .i64 (I.k : Int), .agg #[.int .i64 mk, .int .i64 ct, .int .i64 mg], .bool false] w2 (GoPost A bb E w2) := fun w2 hb => by
    rw [← hA, ← hbb, ← hE]
    exact motion_go I.a I.n I.c I.t I.k mk ct mg false w2 (hT.below hb) HI.out.len (by have := HI.out.top; omega) HH.out
   have HGO := Lib.hid GO
   have HV2 := Lib.hid (show _ ∧ _ ∧ _ from ⟨hA, hbb, hE⟩)
   clear GO hA hbb hE h1 hT
   have hPc : P < wc.heap.size := H1.out.lt
   have hBc : B < wc.heap.size := cell_lt b0
   go_upto_region 5 with fail
   go_cut [6, 8] (fun u e wx => u = .int .i64 A ∧ e = .int .i64 E ∧ Below wc.heap.size wc wx)
   case first =>
    go_region_held3 (fun w' => w'.cell? ⟨P, 0, none⟩ = some (.slice I.a I.n I.c) ∧ w'.cell? ⟨P, 1, none⟩ = some (.int .i64 (I.k : Int)) ∧ w'.cell? ⟨B, 0, none⟩ = some (.int .i64 mk) ∧ w'.cell? ⟨B, 1, none⟩ = some (.int .i64 ct) ∧ w'.cell? ⟨B, 2, none⟩ = some (.int .i64 mg) ∧ Below wc.heap.size wc w') (first | exact ⟨c0, c1, b0, b1, b2, (Below.refl _ _).drew⟩ | assumption | exact mvQ hPc hBc ‹_› ‹_›) (first | (go_at_call 222; refine (HGO.out _ (Below.refl _ _).drew).mono ?_; rintro e w8 ⟨rfl, hb8⟩))
    all_goals
     go_wp2
     go_meet
     exact ⟨rfl, rfl, ((Below.refl _ _).drew).trans hb8⟩
   obtain ⟨rfl, rfl, hb2⟩ := hcut
   have h2 := H1.out.to hb2
   have d35 := h2.c35; have d63 := h2.c63; have d64 := h2.c64
   have f35 := h2.free 35; have f63 := h2.free 63; have f64 := h2.free 64
   have d0 := l0; rw [← hb2.cell (cell_lt l0)] at d0
   have d1 := l1; rw [← hb2.cell (cell_lt l1)] at d1
   have HB2 := Lib.hid ((Asd.of (P := P) hb1).trans (Asd.of hb2))
   have H2 := Lib.hid h2
   clear h2 hb2 c0 c1 c31 c35 c63 c64 b0 b1 b2 l0 l1 HF
   by_cases hE0 : E = 0
   ·subst hE0
    have hmv : mvS I ⟨⟨ct, rg, 0, vb, ar⟩, O, p, Y, fk, fa, md, es⟩ = (0, ⟨⟨ct, rg, 0, vb, ar⟩, O, A, Y, lk, la, md, es⟩) := by
     obtain ⟨v1, v2, v3, v4, v5⟩ := HV.out
     obtain ⟨x1, x2, x3⟩ := HV2.out
     unfold mvS; dsimp only; rw [v1, v2, v3, v4, v5, if_neg (by decide), if_pos rfl, x3, if_neg (by decide), x1]
    have HMV := Lib.hid hmv
    clear hmv
    go_upto_region 7 with fail
    go_region
    all_goals
     go_wp2
     go_ret
     rw [HMV.out]
     first
      | exact ⟨rfl, ⟨_, ((H2.out.drew.set35 A).set63 lk).set64 la⟩, HB2.out.drew.trans (((Asd.set _).trans (Asd.set _)).trans (Asd.set _))⟩
      | exact ⟨rfl, ⟨_, ((H2.out.drew.set63 lk).set64 la).set35 A⟩, HB2.out.drew.trans (((Asd.set _).trans (Asd.set _)).trans (Asd.set _))⟩
   ·have n0 : (E == 0) = false := by simpa using hE0
    have HE0 := Lib.hid hE0
    clear hE0
    go_wp2
    go_ret
    have hmv : mvS I ⟨⟨ct, rg, 0, vb, ar⟩, O, p, Y, fk, fa, md, es⟩ = (E, ⟨⟨ct, rg, 0, vb, ar⟩, O, p, Y, fk, fa, md, es⟩) := by
     obtain ⟨v1, v2, v3, v4, v5⟩ := HV.out
     obtain ⟨x1, x2, x3⟩ := HV2.out
     unfold mvS; dsimp only; rw [v1, v2, v3, if_neg (by decide), if_pos rfl, x3, if_pos HE0.out]
    rw [hmv]
    exact ⟨rfl, ⟨_, H2.out⟩, HB2.out⟩
  ·have nop : (op == 0) = false := by simpa using h0
   have HOP := Lib.hid h0
   clear h0
   obtain ⟨F, hF⟩ : ∃ F, raF I.t I.k mk ct mg = F := ⟨_, rfl⟩
   obtain ⟨T, hT2⟩ : ∃ T, raT I.t I.k mk ct mg = T := ⟨_, rfl⟩
   obtain ⟨E, hE⟩ : ∃ E, goE I.t I.k mk ct mg true = E := ⟨_, rfl⟩
   have RA : ∀ w2, Below wc.heap.size wc w2 → Calls Try.prog 223 #[.slice I.a I.n I.c, .int .i64 (I.k : Int), .agg #[.int .i64 mk, .int .i64 ct, .int .i64 mg]] w2 (RaPost F T E w2) := fun w2 hb => by
    rw [← hF, ← hT2, ← hE]
    exact motion_range_any I.a I.n I.c I.t I.k mk ct mg w2 (hT.below hb) HI.out.len (by have := HI.out.top; omega) HH.out
   have HBD := Lib.hid (show E = 0 → 0 ≤ F ∧ F ≤ T ∧ T ≤ (I.n : Int) from fun e => by rw [← hF, ← hT2, ← HI.out.len]; exact ra_bd (hE.trans e))
   have HRA := Lib.hid RA
   have HV2 := Lib.hid (show _ ∧ _ ∧ _ from ⟨hF, hT2, hE⟩)
   clear RA hF hT2 hE h1 hT
   have hPc : P < wc.heap.size := H1.out.lt
   have hBc : B < wc.heap.size := cell_lt b0
   go_upto_region 9 with fail
   go_cut [9, 10, 5] (fun u v e wx => u = .int .i64 F ∧ v = .int .i64 T ∧ e = .int .i64 E ∧ Below wc.heap.size wc wx)
   case first =>
    go_region_held3 (fun w' => w'.cell? ⟨P, 0, none⟩ = some (.slice I.a I.n I.c) ∧ w'.cell? ⟨P, 1, none⟩ = some (.int .i64 (I.k : Int)) ∧ w'.cell? ⟨B, 0, none⟩ = some (.int .i64 mk) ∧ w'.cell? ⟨B, 1, none⟩ = some (.int .i64 ct) ∧ w'.cell? ⟨B, 2, none⟩ = some (.int .i64 mg) ∧ Below wc.heap.size wc w') (first | exact ⟨c0, c1, b0, b1, b2, (Below.refl _ _).drew⟩ | assumption | exact mvQ hPc hBc ‹_› ‹_›) (first | (go_at_call 223; refine (HRA.out _ (Below.refl _ _).drew).mono ?_; rintro e w8 ⟨rfl, hb8⟩))
    all_goals
     go_wp2
     go_meet
     exact ⟨rfl, rfl, rfl, ((Below.refl _ _).drew).trans hb8⟩
   obtain ⟨rfl, rfl, rfl, hb2⟩ := hcut
   have h2 := H1.out.to hb2
   have d0 := l0; rw [← hb2.cell (cell_lt l0)] at d0
   have d1 := l1; rw [← hb2.cell (cell_lt l1)] at d1
   have HB2 := Lib.hid ((Asd.of (P := P) hb1).trans (Asd.of hb2))
   have H2 := Lib.hid h2
   clear h2 hb2 c0 c1 c31 c35 c63 c64 b0 b1 b2 l0 l1 HF
   by_cases hE0 : E = 0
   ·subst hE0
    obtain ⟨x1, x2, x3⟩ := HBD.out rfl
    obtain ⟨f, rfl⟩ := Int.eq_ofNat_of_zero_le x1
    obtain ⟨g, rfl⟩ := Int.eq_ofNat_of_zero_le (show 0 ≤ T by omega)
    have CT := doer_operate P f g false us I HI.out _ wc H2.out (by omega) (by omega)
    obtain ⟨r1, r2, hr⟩ : ∃ r1 r2, opS I ⟨⟨ct, rg, op, vb, ar⟩, O, p, Y, fk, fa, md, es⟩ f g false = (r1, r2) := ⟨_, _, rfl⟩
    rw [hr] at CT
    have HCT := Lib.hid CT
    have HR := Lib.hid hr
    have D0 := Lib.hid d0; have D1 := Lib.hid d1
    clear CT hr x1 x2 x3 d0 d1
    by_cases hr0 : r1 = 0
    ·subst hr0
     have hmv : mvS I ⟨⟨ct, rg, op, vb, ar⟩, O, p, Y, fk, fa, md, es⟩ = (0, { r2 with fk := lk, fa := la }) := by
      obtain ⟨v1, v2, v3, v4, v5⟩ := HV.out
      obtain ⟨x1, x2, x3⟩ := HV2.out
      unfold mvS; dsimp only; rw [v1, v2, v3, v4, v5, if_neg (by decide), if_neg HOP.out, x3, if_neg (by decide), x1, x2, Int.toNat_natCast, Int.toNat_natCast, HR.out]; rfl
     have HMV := Lib.hid hmv
     clear hmv
     go_wp2_with (go_at_call 182; go_loud (refine (HCT.out).mono ?_; rintro e w9 ⟨rfl, ⟨us9, h9⟩, hA9⟩; have g0 := hA9.cell HPC.out D0.out; have g1 := hA9.cell HPC.out D1.out; have c63 := h9.c63; have c64 := h9.c64; have f63 := h9.free 63; have f64 := h9.free 64; have H9 := Lib.hid h9; clear h9))
     go_ret
     rw [HMV.out]
     exact ⟨rfl, ⟨_, (H9.out.set63 lk).set64 la⟩, (HB2.out.trans hA9).trans ((Asd.set _).trans (Asd.set _))⟩
    ·have n0 : (r1 != 0) = true := by simpa using hr0
     have HR0 := Lib.hid hr0
     clear hr0
     go_wp2_with (go_at_call 182; go_loud (refine (HCT.out).mono ?_; rintro e w9 ⟨rfl, hus9, hA9⟩))
     go_ret
     have hmv : mvS I ⟨⟨ct, rg, op, vb, ar⟩, O, p, Y, fk, fa, md, es⟩ = (r1, r2) := by
      obtain ⟨v1, v2, v3, v4, v5⟩ := HV.out
      obtain ⟨x1, x2, x3⟩ := HV2.out
      unfold mvS; dsimp only; rw [v1, v2, v3, if_neg (by decide), if_neg HOP.out, x3, if_neg (by decide), x1, x2, Int.toNat_natCast, Int.toNat_natCast, HR.out]; dsimp only; rw [if_pos HR0.out]
     rw [hmv]
     exact ⟨rfl, hus9, HB2.out.trans hA9⟩
   ·have n0 : (E != 0) = true := by simpa using hE0
    have HE0 := Lib.hid hE0
    clear hE0
    go_wp2
    go_ret
    have hmv : mvS I ⟨⟨ct, rg, op, vb, ar⟩, O, p, Y, fk, fa, md, es⟩ = (E, ⟨⟨ct, rg, op, vb, ar⟩, O, p, Y, fk, fa, md, es⟩) := by
     obtain ⟨v1, v2, v3, v4, v5⟩ := HV.out
     obtain ⟨x1, x2, x3⟩ := HV2.out
     unfold mvS; dsimp only; rw [v1, v2, v3, if_neg (by decide), if_neg HOP.out, x3, if_pos HE0.out]
    rw [hmv]
    exact ⟨rfl, ⟨_, H2.out⟩, HB2.out⟩
 ·have n0 : (me != 0) = true := by simpa using he
  have H1 := Lib.hid h1
  have HE := Lib.hid he
  clear he h1
  go_wp2
  go_ret
  obtain ⟨v1, v2, v3, v4, v5⟩ := HV.out
  have hmv : mvS I ⟨⟨ct, rg, op, vb, ar⟩, O, p, Y, fk, fa, md, es⟩ = (me, ⟨⟨ct, rg, op, vb, ar⟩, O, p, Y, fk, fa, md, es⟩) := by
   unfold mvS; dsimp only; rw [v3, if_pos HE.out]
  rw [hmv]
  exact ⟨rfl, ⟨_, H1.out⟩, Asd.of hb1⟩
def Filled (xs out : List Int) (m : Nat) : Prop := ∀ i, i < m → ix out i = ix xs (i % xs.length)
theorem splice_map (out ys : List Int) (m : Nat) : splice (out.map (Value.int .i64)) m (ys.map (Value.int .i64)) = (splice out m ys).map (Value.int .i64) := by simp [splice]
theorem splice_low (out ys : List Int) (m i : Nat) (hm : m ≤ out.length) (hi : i < m) : ix (splice out m ys) i = ix out i := by
 unfold splice; rw [ix_append_left (by simp; omega), ix_eq (by simp; omega), ix_eq (show i < out.length by omega)]; simp
theorem splice_mid (out ys : List Int) (m i : Nat) (hm : m ≤ out.length) (hi : i < ys.length) : ix (splice out m ys) (m + i) = ix ys i := by
 unfold splice
 have : (out.take m).length = m := by simp; omega
 rw [show m + i = (out.take m).length + i from by rw [this], ix_append_right, ix_append_left hi]
theorem Filled.first {xs out : List Int} (h : xs.length ≤ out.length) : Filled xs (splice out 0 xs) xs.length := fun i hi => by
 have := splice_mid out xs 0 i (Nat.zero_le _) hi
 rw [Nat.zero_add] at this; rw [this, Nat.mod_eq_of_lt hi]
theorem Filled.more {xs out : List Int} {m d q : Nat} (h : Filled xs out m) (hm : m ≤ out.length) (hd : d ≤ m) (hq : m = xs.length * q) : Filled xs (splice out m (out.take d)) (m + d) := fun i hi => by
 by_cases h1 : i < m
 ·rw [splice_low _ _ _ _ hm h1]; exact h i h1
 ·obtain ⟨j, rfl⟩ : ∃ j, i = m + j := ⟨i - m, by omega⟩
  have hj : j < (out.take d).length := by simp; omega
  rw [splice_mid _ _ _ _ hm hj, ix_eq hj, List.getElem_take, ← ix_eq, h j (by omega), hq, Nat.mul_add_mod]
theorem Filled.all {xs out : List Int} {k : Nat} (h : Filled xs out (xs.length * k)) (hl : out.length = xs.length * k) : out = repS xs k := by
 refine ix_ext (by rw [hl, repS_length]) fun i hi => ?_
 rw [h i (by omega), repS_ix _ _ _ (by omega)]
theorem sizeInt : (Try.prog.info? 3).map (·.size) = some 1 := by
 obtain ⟨i0, hi, hz0, hz1, hz2⟩ := info_parts info_int
 rw [hi]; simp [hz1]
theorem oneCells {ys : List Int} : ∀ v ∈ ys.map (Value.int .i64), v.oneCell' = true := by
 intro u hu
 obtain ⟨y, _, rfl⟩ := List.mem_map.1 hu
 rfl
theorem Ints.src {w : World} {a : Option Addr} {ys : List Int} (h : Ints w a ys) (hp : 0 < ys.length) : ∃ ad, a = some ad ∧ ∀ j v, (ys.map (Value.int .i64))[j]? = some v → w.cell? (ad.add j) = some v := by
 rcases h with h | ⟨b, o', ha, hc⟩
 ·subst h; simp at hp
 ·refine ⟨_, ha, fun j v hj => ?_⟩
  have hlt : j < ys.length := by
   rcases Nat.lt_or_ge j ys.length with h | h
   ·exact h
   ·simp [h] at hj
  have hadd : (⟨b, o', none⟩ : Addr).add j = ⟨b, o' + j, none⟩ := by unfold Addr.add; split <;> simp_all
  rw [hadd, hc j hlt]
  rw [List.getElem?_map, List.getElem?_eq_getElem hlt] at hj
  rw [ix_eq hlt]; exact hj
theorem own_of_blk {w : World} {g base : Nat} {xs : List Int} {e : TypeId} (h : Blk w g (xs.map (Value.int .i64)).toArray e) (hb : base ≤ g) (hl : xs.length ≤ 17592186044416) : Own e base w (.slice (some ⟨g, 0, none⟩) xs.length xs.length) xs :=
 ⟨by simp, .inr ⟨g, xs.length, _, rfl, hb, h, Nat.le_refl _, by unfold maxLen; omega, by simp, by rw [Nat.mul_one, List.take_of_length_le (by simp)]⟩⟩
def RepPost (xs : List Int) (k : Nat) (w : World) (e : Ending) (w' : World) : Prop := ∃ v, e = .returned v ∧ Own 3 w.heap.size w' v (repS xs k) ∧ Below w.heap.size w w'
set_option maxRecDepth 100000 in
set_option maxHeartbeats 1000000 in
theorem slices_repeat (a : Option Addr) (n c k : Nat) (xs : List Int) (w : World) (ha : Ints w a xs) (hn : xs.length = n) (hk : k ≤ 4096) (hl : n ≤ 4096) :
  Calls Try.prog 201 #[.slice a n c, .int .i64 (k : Int)] w (RepPost xs k w) := by
 have HN := Lib.hid hn; clear hn
 have hT : n * k ≤ 16777216 := Nat.mul_le_mul hl hk
 have hlo : n * k % 18446744073709551616 = n * k := Nat.mod_eq_of_lt (by omega)
 have hhi : n * k / 18446744073709551616 = 0 := Nat.div_eq_of_lt (by omega)
 obtain ⟨T, hTe⟩ : ∃ T, T = n * k := ⟨_, rfl⟩
 have hmk := make_int T T (Nat.le_refl _) (by omega)
 have hT2 : T ≤ 16777216 := by omega
 have hnT : T = 0 ∨ 1 ≤ n ∧ 1 ≤ k ∧ n ≤ T := by
  rcases Nat.eq_zero_or_pos k with rfl | hk1
  ·left; simpa using hTe
  ·rcases Nat.eq_zero_or_pos n with rfl | hn1
   ·left; simpa using hTe
   ·right; exact ⟨hn1, hk1, by rw [hTe]; exact Nat.le_mul_of_pos_right _ hk1⟩
 have hB := Blk.new w ((List.replicate T (0 : Int)).map (Value.int .i64)).toArray 3
 rw [← madeRow] at hB
 have hb1 := below1 w (.cells (madeCells #[.int .i64 0] T) 3)
 have hd : (xs.take (min n T)).length = Nat.min n T := by rw [List.length_take, HN.out]; show min (min n T) n = min n T; omega
 obtain ⟨ys, hys⟩ : ∃ ys, ys = xs.take (min n T) := ⟨_, rfl⟩
 have hsrc := (show Ints w a ys by rw [hys]; exact ha.take _).below hb1
 have HD := Lib.hid (show ys.length = Nat.min n T by rw [hys]; exact hd)
 have HYS := Lib.hid hys
 have hdT : Nat.min n T ≤ T := Nat.min_le_right _ _
 have HNT := Lib.hid hnT
 clear hd hys
 go_enter Try.func201, Try.ntmps201
 go_wp2_with fail
 refine (bits_mul n k (by omega) (by omega) w).mono ?_
 rintro e w' ⟨rfl, rfl⟩
 rw [hhi, hlo, ← hTe]
 have HTE := Lib.hid hTe
 clear hlo hhi hTe hnT hT
 go_wp2_with (show wpList _ _ _ (⟨some 33, _, _, _, _, _⟩ :: _) _ _; revert HYS)
 intro HYS
 (refine wpList_copy_splice (o := ⟨some 33, _, _, _, _, _⟩) rfl _ _ _ _ rfl 3 Try.underlying22 sizeInt _ _ _ _ _ _ rfl rfl w'.heap.size 0 ((List.replicate T (0 : Int)).map (Value.int .i64)) 3 (by have h := hB; unfold Blk at h; rw [h, madeRow]) (ys.map (Value.int .i64)) (by rw [List.length_map]; exact HD.out) (fun hp => ⟨rfl, hsrc.src (by simpa using hp)⟩) (by simp; rw [HD.out]; exact hdT) oneCells w'.heap.size w' hb1 (Nat.le_refl _) ?_; intro w2 hw2 hb2)
 clear hb1 hB hmk hsrc
 rw [List.length_map, HD.out]
 obtain ⟨d, hdd⟩ : ∃ d, Nat.min n T = d := ⟨_, rfl⟩
 rw [hdd] at hdT ⊢
 have hrow : Hid (∃ out : List Int, w2.heap[w'.heap.size]? = some (.cells (out.map (Value.int .i64)).toArray 3 (0, 0)) ∧ out.length = T ∧ Filled xs out d ∧ (d < T → 0 < d ∧ ∃ q, d = n * q)) := Lib.hid (by
  have h := hw2.out
  rw [splice_map] at h
  refine ⟨_, h, by rw [length_splice _ _ _ (by rw [HD.out, hdd]; simpa using hdT)]; simp, ?_, ?_⟩
  ·rcases HNT.out with h0 | ⟨h1, h2, h3⟩
   ·have : d = 0 := by omega
    subst this; intro i hi; omega
   ·have hd : d = n := by rw [← hdd]; exact Nat.min_eq_left h3
    have : ys = xs := by rw [HYS.out, Nat.min_eq_left h3, ← HN.out, List.take_length]
    subst this
    rw [hd, ← HN.out]
    exact Filled.first (by simp; rw [HN.out]; exact h3)
  ·intro hlt
   rcases HNT.out with h0 | ⟨h1, h2, h3⟩
   ·omega
   ·have hd : d = n := by rw [← hdd]; exact Nat.min_eq_left h3
    exact ⟨by omega, 1, by omega⟩)
 clear hw2 hdd HD HYS
 go_wp2
 go_loopw [8] (fun i wr => ∃ (m : Nat) (out : List Int), i = .int .i64 (m : Int) ∧ m ≤ T ∧ Blk wr w'.heap.size (out.map (Value.int .i64)).toArray 3 ∧ out.length = T ∧ Filled xs out m ∧ (m < T → 0 < m ∧ ∃ q, m = n * q) ∧ Below w'.heap.size w' wr) (fun i _ => T - (intOf i).toNat)
 case atStart =>
  obtain ⟨out, h1, h2, h3, h4⟩ := hrow.out
  exact ⟨d, out, rfl, hdT, h1, h2, h3, h4, hb2⟩
 case round =>
  obtain ⟨m, out, rfl, hm, hB, hol, hfil, hq, hbel⟩ := hrel
  have HOL := Lib.hid hol; have HF := Lib.hid hfil; have HQ := Lib.hid hq
  clear hrow hb2 hol hfil hq
  by_cases hlt : m < T
  ·have hm0 := (HQ.out hlt).1
   have i1 : (m : Int) < (T : Int) := by omega
   have i3 : ¬ T = m := by omega
   have hel : (out.take (Nat.min m (T - m))).length = Nat.min m (T - m) := by rw [List.length_take, HOL.out]; show min (min m (T - m)) T = min m (T - m); omega
   obtain ⟨zs, hzs⟩ : ∃ zs, zs = out.take (Nat.min m (T - m)) := ⟨_, rfl⟩
   rw [← hzs] at hel
   have HEL := Lib.hid hel
   have HZ := Lib.hid hzs
   have hIz : Ints wr (some ⟨w'.heap.size, 0, none⟩) zs := by rw [hzs]; exact (ints_row hB).take _
   have hle : zs.length ≤ T - m := by rw [hel]; exact Nat.min_le_right _ _
   clear hel hzs
   go_wp2
   go_region_law (refine step_copy_splice rfl (.tmp 41) (.tmp 44) _ _ rfl 3 Try.underlying22 sizeInt (some ⟨w'.heap.size, m, none⟩) (some ⟨w'.heap.size, 0, none⟩) (T - m) (T - m) m T (by simp [Act.eval, Act.put, i3]) (by simp [Act.eval, Act.put, i3]) w'.heap.size m (out.map (Value.int .i64)) 3 hB (zs.map (Value.int .i64)) (by rw [List.length_map]; exact HEL.out) (fun hp => ⟨rfl, hIz.drew.src (by simpa using hp)⟩) (by rw [List.length_map, List.length_map, HOL.out]; omega) oneCells w'.heap.size w' hbel.drew (Nat.le_refl _) ?_; intro w4 hg4 hb4)
   all_goals
    have hg := hg4.out
    rw [splice_map] at hg
    have hz : zs = out.take zs.length := by rw [HEL.out]; exact HZ.out
    have hzm : zs.length ≤ m := by rw [HEL.out]; exact Nat.min_le_left _ _
    have hzT : zs.length = m ∨ zs.length = T - m := by rw [HEL.out]; show min m (T - m) = m ∨ min m (T - m) = T - m; omega
    have hlen : (splice out m zs).length = T := by rw [length_splice _ _ _ (by rw [HOL.out]; omega)]; exact HOL.out
    obtain ⟨q, hq⟩ := (HQ.out hlt).2
    have hfl : Filled xs (splice out m zs) (m + zs.length) := by
     rw [hz]
     have := Filled.more (xs := xs) (q := q) HF.out (by rw [HOL.out]; exact hm) hzm (by rw [HN.out]; exact hq)
     have e : (out.take zs.length).length = zs.length := by rw [← hz]
     rw [e]; exact this
    have H1 := Lib.hid hg; have H2 := Lib.hid hlen; have H3 := Lib.hid hfl
    have H4 : Hid (m + zs.length < T → 0 < m + zs.length ∧ ∃ q, m + zs.length = n * q) := Lib.hid (fun hl => ⟨by omega, 2 * q, by rcases hzT with h | h; (· rw [h, hq, ← Nat.two_mul, Nat.mul_left_comm]); (· omega)⟩)
    have hzp : 0 < zs.length := by omega
    clear hg hg4 hz hlen hq hfl hzT
    have iw : IntKind.i64.wrap ((m : Int) + (zs.length : Int)) = ((m + zs.length : Nat) : Int) := by rw [IntKind.wrap_i64]; omega
    go_simp
    go_roundw
    case rel =>
     exact ⟨_, _, _, _, _, _, _, _, _, _, _, _, _, _, ⟨m + zs.length, splice out m zs, by go_num, by omega, H1.out, H2.out, H3.out, H4.out, hb4⟩, rfl⟩
    case measure => simp [intOf]; omega
  ·have hmT : m = T := by omega
   subst hmT
   go_wp2
   go_ret
   refine ⟨_, rfl, ?_, hbel⟩
   have he : out = repS xs k := Filled.all (by rw [HN.out, ← HTE.out]; exact HF.out) (by rw [HN.out, ← HTE.out]; exact HOL.out)
   rw [← he]
   have := own_of_blk hB (Nat.le_refl _) (by rw [HOL.out]; omega)
   rwa [HOL.out] at this
theorem keepQ {P : Nat} {rg : Int} {vs : List Value} {w w1 w2 : World} (hP : P < w.heap.size) (h : (w1.cell? ⟨P, 30, none⟩ = some (.int .i64 rg) ∧ w1.rangeAt P 2 vs ∧ Below w.heap.size w w1)) (hb : Below w.heap.size w1 w2) : w2.cell? ⟨P, 30, none⟩ = some (.int .i64 rg) ∧ w2.rangeAt P 2 vs ∧ Below w.heap.size w w2 :=
 ⟨by rw [hb.cell hP]; exact h.1, fun j v hv => by rw [hb.cell hP]; exact h.2.1 j v hv, h.2.2.trans hb⟩
theorem keepQC {P : Nat} {rg : Int} {vs : List Value} {w w1 w2 : World} (hP : P < w.heap.size) (h : (w1.cell? ⟨P, 30, none⟩ = some (.int .i64 rg) ∧ w1.rangeAt P 2 vs ∧ Below w.heap.size w w1)) (hb : Below w1.heap.size w1 w2) : w2.cell? ⟨P, 30, none⟩ = some (.int .i64 rg) ∧ w2.rangeAt P 2 vs ∧ Below w.heap.size w w2 :=
 keepQ hP h (hb.mono h.2.2.size)
theorem getEs_pos {X : List (List Int)} {rg : Int} (h : getEs X rg = 0) : getYs X rg ≠ [] := by
 unfold getEs getYs at *
 split at h
 ·omega
 ·rename_i h1
  rw [if_neg h1]
  unfold regE at h
  split at h
  ·omega
  ·assumption
theorem quo_gt {n m N : Nat} (hn : n ≤ 200) (hm : 0 < m) : (200 - (n : Int)) / (m : Int) < (N : Int) ↔ (200 : Int) < (n : Int) + (N : Int) * (m : Int) := by
 rw [Int.ediv_lt_iff_lt_mul (by omega)]
 omega
set_option maxRecDepth 100000 in
set_option maxHeartbeats 4000000 in
theorem doer_paste (P i : Nat) (us : List Value) (I : In) (hI : InOk I) (s : St) (w : World) (h : DI P w us I s) (hi : i ≤ I.n) (hc0 : 0 ≤ s.cm.a) (hc1 : s.cm.a ≤ 999) :
  Calls Try.prog 224 #[.pointer (some ⟨P, 0, none⟩), .int .i64 (i : Int)] w (DPost P I (psS I s i).1 (psS I s i).2 w) := by
 have hR := h.rg hI
 have HS := Lib.hid hI.small
 have HI := Lib.hid hI
 have htop := hI.top
 have c30 := h.c30
 have rr := h.rr hI
 have hlv := hI.rgs.lv
 have hPw := h.lt
 have HX := Lib.hid h
 have HII := Lib.hid hi
 obtain ⟨y, hy⟩ : ∃ y, getYs I.X s.cm.b = y := ⟨_, rfl⟩
 obtain ⟨E, hE⟩ : ∃ E, getEs I.X s.cm.b = E := ⟨_, rfl⟩
 obtain ⟨rg, hrg⟩ : ∃ rg, s.cm.b = rg := ⟨_, rfl⟩
 obtain ⟨N, hN, hN1, hN2⟩ : ∃ N : Nat, max 1 s.cm.a = (N : Int) ∧ 1 ≤ N ∧ N ≤ 999 := ⟨(max 1 s.cm.a).toNat, by omega, by omega, by omega⟩
 obtain ⟨m, hm⟩ : ∃ m, y.length = m := ⟨_, rfl⟩
 have hps : psS I s i = if E ≠ 0 then (E, s) else if 200 < (I.n : Int) + (N : Int) * (m : Int) then (2, s) else (0, { putS I s i i (repS y N) with p := (i : Int) + (N : Int) * (m : Int) - 1 }) := by
  rw [psS, hy, hE, hN, hm]; rfl
 rw [hps]
 have hpos : E = 0 → 0 < m := fun h0 => by
  have := getEs_pos (hE.trans h0)
  rw [hy] at this
  rw [← hm]; exact List.length_pos_iff.2 this
 have GET : ∀ w1, Below w.heap.size w w1 → Calls Try.prog 254 #[.agg I.vs.toArray, .int .i64 rg] w1 (GetVPost y E w1) := fun w1 hb => by
  have := reg_get I.vs I.X rg w1 (hR.below hb) HS.out
  rw [← hrg, hy, hE] at this
  rw [← hrg]; exact this
 rw [hrg] at c30
 have HG := Lib.hid GET
 have hu := under_regs
 have hz : (Try.prog.info? 133).map (·.size) = some I.vs.length := by rw [hlv]; exact size_regs
 obtain ⟨vs, hvs⟩ : ∃ vs, I.vs = vs := ⟨_, rfl⟩
 rw [hvs] at HG hz rr
 have HP := Lib.hid hpos
 have HM := Lib.hid hm
 clear GET hR hy hE hrg hvs hps hpos hI h hi hm
 go_enter Try.func224, Try.ntmps224
 go_upto_region 1 with fail
 go_cut [5, 6] (fun v e wx => ∃ a5 n5 c5, v = .slice a5 n5 c5 ∧ e = .int .i64 E ∧ Sl wx (.slice a5 n5 c5) y ∧ Below w.heap.size w wx)
 case first =>
  go_region_held3 (fun w' => w'.cell? ⟨P, 30, none⟩ = some (.int .i64 rg) ∧ w'.rangeAt P 2 vs ∧ Below w.heap.size w w') (first | exact ⟨c30, rr, (Below.refl _ _).drew⟩ | assumption | exact keepQC hPw ‹_› ‹_›)
   (first | (go_at_call 254; refine (HG.out _ (Below.refl _ _).drew).mono ?_; rintro e w8 ⟨v8, rfl, sl8, hb8⟩; have sl9 := sl8; obtain ⟨a8, n8, c8, rfl, -, -, -, -, -⟩ := sl9))
  all_goals
   go_wp2
   go_meet
   exact ⟨_, _, _, rfl, rfl, sl8, ((Below.refl _ _).drew).trans hb8⟩
 obtain ⟨a5, n5, c5, rfl, rfl, sl5, hb5⟩ := hcut
 have h5 := HX.out.to hb5
 clear c30 rr hz hu hlv
 have c0 := h5.c0
 have c29 := h5.c29
 obtain ⟨g1, g2, g3, g4, g5⟩ := sl5.get
 have hn5 : n5 = m := by rw [← g1, HM.out]
 subst hn5
 have G4 := Lib.hid g4; have G5 := Lib.hid g5
 have H5 := Lib.hid h5
 clear g4 g5 sl5 h5 g1
 by_cases h0 : E = 0
 ·have hm0 := HP.out h0
  subst h0
  obtain ⟨ct, hct⟩ : ∃ ct, s.cm.a = ct := ⟨_, rfl⟩
  rw [hct] at c29 hN hc0 hc1
  have HCT := Lib.hid hct
  have HNN := Lib.hid hN
  clear hct hN
  have HC0 := Lib.hid c0
  clear c0
  go_upto_region 4 with fail
  go_cut [7] (fun v wx => v = .int .i64 (N : Int) ∧ wx = wc)
  case first =>
   have h3 : ct = 0 ∨ ct = 1 ∨ 2 ≤ ct := by omega
   rcases h3 with rfl | rfl | h3
   ·obtain rfl : N = 1 := by have := HNN.out; omega
    go_wp2
    go_meet
    exact ⟨rfl, rfl⟩
   ·obtain rfl : N = 1 := by have := HNN.out; omega
    go_wp2
    go_meet
    exact ⟨rfl, rfl⟩
   ·obtain rfl : ct = (N : Int) := by have := HNN.out; omega
    go_wp2
    go_meet
    exact ⟨rfl, rfl⟩
  obtain ⟨rfl, rfl⟩ := hcut
  have c0 := HC0.out
  clear c29 hc0 hc1
  by_cases hbig : (200 : Int) < (I.n : Int) + (N : Int) * (n5 : Int)
  ·have hq := (quo_gt htop hm0 (N := N)).2 hbig
   have HB := Lib.hid hbig
   clear hbig
   go_wp2
   go_ret
   exact ⟨rfl, ⟨_, by first | exact H5.out | (rw [if_pos HB.out]; exact H5.out)⟩, Asd.of hb5⟩
  ·have hq : (N : Int) ≤ (200 - (I.n : Int)) / (n5 : Int) := Int.not_lt.1 fun hx => hbig ((quo_gt htop hm0 (N := N)).1 hx)
   obtain ⟨M, hM⟩ : ∃ M, N * n5 = M := ⟨_, rfl⟩
   have hmul : (N : Int) * (n5 : Int) = (M : Int) := by rw [← hM]; push_cast; rfl
   have hM2 : M ≤ 200 := by rw [hmul] at hbig; omega
   have hM3 : n5 ≤ M := by rw [← hM]; exact Nat.le_mul_of_pos_left _ (by omega)
   have iw1 : IntKind.i64.wrap ((N : Int) * (n5 : Int)) = (M : Int) := by rw [hmul, IntKind.wrap_i64]; omega
   have hi2 : i ≤ 200 := by have := HII.out; omega
   have HB := Lib.hid hbig
   have HMU := Lib.hid hmul
   have HRL := Lib.hid (show (repS y N).length = M by rw [repS_length, HM.out, Nat.mul_comm]; exact hM)
   clear hbig hmul hM
   go_wp2_with (first | (go_at_call 201; refine (slices_repeat _ _ _ _ y _ G4.out HM.out (by omega) (by omega)).mono ?_; rintro e w6 ⟨v6, rfl, o6, hb6⟩; obtain ⟨a6, n6, c6, rfl⟩ := o6.form; have O6 := Lib.hid o6; clear o6) | (go_at_call 230; go_loud (refine (doer_put P i i us I HI.out s _ _ _ (repS y N) _ (H5.out.to hb6) O6.out.get.2.1 O6.out.get.1 (by have := O6.out.get.1; rw [HRL.out] at this; omega) O6.out.sl.get.2.2.2.2 (Nat.le_refl _) HII.out).mono ?_; rintro e w7 ⟨rfl, ⟨us7, h7⟩, hA7⟩; have c35 := h7.c35; have f35 := h7.free 35; have H7 := Lib.hid h7; clear h7)))
   all_goals
    go_ret
    first
     | exact absurd (show (200 : Int) < (I.n : Int) + (N : Int) * (n5 : Int) by assumption) (by have := HB.out; omega)
     | exact ⟨rfl, ⟨_, by rw [HMU.out]; exact H7.out.set35 _⟩, (((Asd.of hb5).trans (Asd.of hb6)).trans hA7).trans (Asd.set _)⟩
 ·have n0 : (E != 0) = true := by simpa using h0
  have HE := Lib.hid h0
  clear h0
  go_wp2
  go_ret
  exact ⟨rfl, ⟨_, by first | exact H5.out | (rw [if_pos HE.out]; exact H5.out)⟩, Asd.of hb5⟩
end Go.Proofs.Ytmipnikhgihcpaa
