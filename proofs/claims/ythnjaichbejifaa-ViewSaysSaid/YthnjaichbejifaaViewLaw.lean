/- The walk of the law ViewSays: for every line and all numbers the call returns true and writes nothing that was there. -/
import Derived.Test.YthnjaichbejifaaView3
import Derived.Deep.RegionHeld3
namespace Go.Proofs.Ythnjaichbejifaa
open Go.RowKit
set_option linter.unusedVariables false
set_option linter.unusedSimpArgs false

def InW (n at' off width : Int) : Prop := 0 ≤ n ∧ n ≤ 200 ∧ 0 ≤ at' ∧ at' ≤ n ∧ 0 ≤ off ∧ off ≤ 200 ∧ 2 ≤ width ∧ width ≤ 120

theorem view_scroll_ok {n at' off width : Int} {w : World} (h : InW n at' off width) :
    Calls Try.prog 25 #[.int .i64 n, .int .i64 at', .int .i64 off, .int .i64 width] w fun e w' => e = .returned (.tuple #[.int .i64 (scrollS at' off width), .int .i64 0]) ∧ w = w' := by
  refine (view_scroll n at' off width w).mono ?_
  rintro e w' ⟨rfl, rfl⟩
  obtain ⟨h0, h1, h2, h3, h4, h5, h6, h7⟩ := h
  rw [vScroll_in h1 h2 h3 h4 h5 h6 h7]
  exact ⟨rfl, rfl⟩

theorem vScroll_out {n at' off width : Int} (h : ¬ InW n at' off width) : vScroll n at' off width = (0, 1) := by
  unfold vScroll; rw [if_pos]; unfold InW at h; omega

theorem view_scroll_bad {n at' off width : Int} {w : World} (h : ¬ InW n at' off width) :
    Calls Try.prog 25 #[.int .i64 n, .int .i64 at', .int .i64 off, .int .i64 width] w fun e w' => e = .returned (.tuple #[.int .i64 0, .int .i64 1]) ∧ w = w' := by
  refine (view_scroll n at' off width w).mono ?_
  rintro e w' ⟨rfl, rfl⟩
  rw [vScroll_out h]
  exact ⟨rfl, rfl⟩

theorem ref_scrollErr_ok {n at' off width : Int} {w : World} (h : InW n at' off width) :
    Calls Try.prog 26 #[.int .i64 n, .int .i64 at', .int .i64 off, .int .i64 width] w fun e w' => e = .returned (.int .i64 0) ∧ w = w' := by
  refine (ref_scrollErr n at' off width w).mono ?_
  rintro e w' ⟨rfl, rfl⟩
  unfold scrollErrS; rw [if_neg (by unfold InW at h; omega)]
  exact ⟨rfl, rfl⟩

theorem ref_scrollErr_bad {n at' off width : Int} {w : World} (h : ¬ InW n at' off width) :
    Calls Try.prog 26 #[.int .i64 n, .int .i64 at', .int .i64 off, .int .i64 width] w fun e w' => e = .returned (.int .i64 1) ∧ w = w' := by
  refine (ref_scrollErr n at' off width w).mono ?_
  rintro e w' ⟨rfl, rfl⟩
  unfold scrollErrS; rw [if_pos (by unfold InW at h; omega)]
  exact ⟨rfl, rfl⟩

theorem ref_scroll_ok {n at' off width : Int} {w : World} (h : InW n at' off width) :
    Calls Try.prog 27 #[.int .i64 at', .int .i64 off, .int .i64 width] w fun e w' => e = .returned (.int .i64 (scrollS at' off width)) ∧ w = w' := by
  obtain ⟨h0, h1, h2, h3, h4, h5, h6, h7⟩ := h
  exact ref_scroll at' off width w (by omega) (by omega) h4 h5 h6 h7

theorem keepS {w2 w' w'' : World} {B : Nat} {u v : Value} (h : w'.cell? ⟨B, 0, none⟩ = some u ∧ w'.cell? ⟨B, 1, none⟩ = some v ∧ Below w2.heap.size w2 w') (hb : Below w'.heap.size w' w'') :
    w''.cell? ⟨B, 0, none⟩ = some u ∧ w''.cell? ⟨B, 1, none⟩ = some v ∧ Below w2.heap.size w2 w'' :=
  ⟨below_keeps hb _ _ h.1, below_keeps hb _ _ h.2.1, below_then h.2.2 h.2.2.size hb⟩

set_option maxRecDepth 100000 in
set_option maxHeartbeats 1000000 in
theorem viewSays_1 (a : Option Addr) (c0 len : Nat) (l : List Int) (n at' off width c : Int) (w : World) (hl : Ints w a l) (hn : l.length = len) (hlen : len ≤ 9223372036854775807) (h1 : InW n at' off width) (h2 : InW len at' off width) (h3 : scrollS at' off width = off) :
    Calls Try.prog 6 #[.slice a len c0, .int .i64 n, .int .i64 at', .int .i64 off, .int .i64 width, .int .i64 c] w fun e w' => e = .returned (.bool true) ∧ Below w.heap.size w w' := by
  have HN := Lib.hid hn; have H3 := Lib.hid h3; clear hn h3
  obtain ⟨b0, b1, b2, b3, b4, b5, b6, b7⟩ := h2
  have h2 : InW len at' off width := ⟨b0, b1, b2, b3, b4, b5, b6, b7⟩
  go_enter Try.func6, Try.ntmps6
  go_wp2_with fail
  refine (view_scroll_ok h1).mono ?_; rintro e w' ⟨rfl, rfl⟩
  go_wp2_with fail
  refine (ref_scrollErr_ok h1).mono ?_; rintro e w' ⟨rfl, rfl⟩
  go_wp2_with fail
  refine (ref_scroll_ok h1).mono ?_; rintro e w' ⟨rfl, rfl⟩
  go_wp2_with fail
  refine (view_row_ok a len c0 l at' off width w hl HN.out (by omega) (by omega) (by omega) H3.out (by omega) (by omega) (by omega) (by omega)).mono ?_
  rintro e w1 ⟨v, rfl, hown, hbel⟩
  obtain ⟨a1, n1, m1, rfl⟩ := hown.form
  go_wp2_with fail
  refine (ref_scrollErr_ok h2).mono ?_; rintro e w' ⟨rfl, rfl⟩
  go_wp2_with fail
  refine (ref_scroll_ok h2).mono ?_; rintro e w' ⟨rfl, rfl⟩
  rw [H3.out]
  go_wp2
  have hW := hbel.alloc hbel.size (.cells #[.slice a1 n1 m1, .int .i64 (at' - off)] 46)
  have hB := Blk.new w1 #[.slice a1 n1 m1, .int .i64 (at' - off)] 46
  have hO := hown.alloc (.cells #[.slice a1 n1 m1, .int .i64 (at' - off)] 46)
  generalize hw2 : w1.alloc (.cells #[.slice a1 n1 m1, .int .i64 (at' - off)] 46) = w2 at *
  obtain ⟨c20, c21, -, -⟩ := hB.two
  clear hw2
  have hl2 := (hl.below hW).drew
  obtain ⟨e1, i1, -⟩ := hO.get
  have E1 := Lib.hid e1; clear e1
  have hn1 : n1 ≤ 9223372036854775807 := by rw [← E1.out, winS_length]; omega
  have hl20 := hl.below hW
  have hsz2 : w1.heap.size < w2.heap.size := hB.lt
  go_region_held3 (fun w' => w'.cell? ⟨w1.heap.size, 0, none⟩ = some (.slice a1 n1 m1) ∧ w'.cell? ⟨w1.heap.size, 1, none⟩ = some (.int .i64 (at' - off)) ∧ Below w2.heap.size w2 w') (first | exact ⟨c20, c21, (Below.refl _ _).drew⟩ | assumption | exact keepS ‹_› ‹_›)
    (first | (go_at_call 29; refine (view_cell _ _).mono ?_; rintro e w' ⟨rfl, rfl⟩) | (go_at_call 30; refine (ref_cell _ _).mono ?_; rintro e w' ⟨rfl, rfl⟩) | (go_at_call 32; refine (ref_window a len c0 l at' off width _ (hl20.below (And.right (And.right ‹_›))) HN.out (by omega) (by omega) (by omega) (by omega) (by omega) (by omega) (by omega)).mono ?_; rintro e w3 ⟨v3, rfl, hown3, hbel3⟩; obtain ⟨a3, n3, m3, rfl⟩ := hown3.form) | (go_at_call 31; refine (ref_sameRow a1 a3 n1 n3 m1 m3 _ _ _ _ _ (i1.below (And.right (And.right ‹_›))) hown3.get.2.1 E1.out hown3.get.1 hn1).mono ?_; rintro e w4 ⟨rfl, hbel4⟩))
  all_goals go_wp2
  all_goals go_ret
  all_goals exact ⟨rfl, below_then hW hW.size (And.right (And.right ‹_›))⟩

set_option maxRecDepth 100000 in
set_option maxHeartbeats 1000000 in
theorem viewSays_2 (a : Option Addr) (c0 len : Nat) (l : List Int) (n at' off width c : Int) (w : World) (hl : Ints w a l) (hn : l.length = len) (hlen : len ≤ 9223372036854775807) (h1 : ¬ InW n at' off width) (h2 : InW len at' off width) (h3 : scrollS at' off width = off) :
    Calls Try.prog 6 #[.slice a len c0, .int .i64 n, .int .i64 at', .int .i64 off, .int .i64 width, .int .i64 c] w fun e w' => e = .returned (.bool true) ∧ Below w.heap.size w w' := by
  have HN := Lib.hid hn; have H3 := Lib.hid h3; clear hn h3
  obtain ⟨b0, b1, b2, b3, b4, b5, b6, b7⟩ := h2
  have h2 : InW len at' off width := ⟨b0, b1, b2, b3, b4, b5, b6, b7⟩
  go_enter Try.func6, Try.ntmps6
  go_wp2_with fail
  refine (view_scroll_bad h1).mono ?_; rintro e w' ⟨rfl, rfl⟩
  go_wp2_with fail
  refine (ref_scrollErr_bad h1).mono ?_; rintro e w' ⟨rfl, rfl⟩
  go_wp2_with fail
  refine (view_row_ok a len c0 l at' off width w hl HN.out (by omega) (by omega) (by omega) H3.out (by omega) (by omega) (by omega) (by omega)).mono ?_
  rintro e w1 ⟨v, rfl, hown, hbel⟩
  obtain ⟨a1, n1, m1, rfl⟩ := hown.form
  go_wp2_with fail
  refine (ref_scrollErr_ok h2).mono ?_; rintro e w' ⟨rfl, rfl⟩
  go_wp2_with fail
  refine (ref_scroll_ok h2).mono ?_; rintro e w' ⟨rfl, rfl⟩
  rw [H3.out]
  go_wp2
  have hW := hbel.alloc hbel.size (.cells #[.slice a1 n1 m1, .int .i64 (at' - off)] 46)
  have hB := Blk.new w1 #[.slice a1 n1 m1, .int .i64 (at' - off)] 46
  have hO := hown.alloc (.cells #[.slice a1 n1 m1, .int .i64 (at' - off)] 46)
  generalize hw2 : w1.alloc (.cells #[.slice a1 n1 m1, .int .i64 (at' - off)] 46) = w2 at *
  obtain ⟨c20, c21, -, -⟩ := hB.two
  clear hw2
  have hl2 := (hl.below hW).drew
  obtain ⟨e1, i1, -⟩ := hO.get
  have E1 := Lib.hid e1; clear e1
  have hn1 : n1 ≤ 9223372036854775807 := by rw [← E1.out, winS_length]; omega
  have hl20 := hl.below hW
  have hsz2 : w1.heap.size < w2.heap.size := hB.lt
  go_region_held3 (fun w' => w'.cell? ⟨w1.heap.size, 0, none⟩ = some (.slice a1 n1 m1) ∧ w'.cell? ⟨w1.heap.size, 1, none⟩ = some (.int .i64 (at' - off)) ∧ Below w2.heap.size w2 w') (first | exact ⟨c20, c21, (Below.refl _ _).drew⟩ | assumption | exact keepS ‹_› ‹_›)
    (first | (go_at_call 29; refine (view_cell _ _).mono ?_; rintro e w' ⟨rfl, rfl⟩) | (go_at_call 30; refine (ref_cell _ _).mono ?_; rintro e w' ⟨rfl, rfl⟩) | (go_at_call 32; refine (ref_window a len c0 l at' off width _ (hl20.below (And.right (And.right ‹_›))) HN.out (by omega) (by omega) (by omega) (by omega) (by omega) (by omega) (by omega)).mono ?_; rintro e w3 ⟨v3, rfl, hown3, hbel3⟩; obtain ⟨a3, n3, m3, rfl⟩ := hown3.form) | (go_at_call 31; refine (ref_sameRow a1 a3 n1 n3 m1 m3 _ _ _ _ _ (i1.below (And.right (And.right ‹_›))) hown3.get.2.1 E1.out hown3.get.1 hn1).mono ?_; rintro e w4 ⟨rfl, hbel4⟩))
  all_goals go_wp2
  all_goals go_ret
  all_goals exact ⟨rfl, below_then hW hW.size (And.right (And.right ‹_›))⟩

set_option maxRecDepth 100000 in
set_option maxHeartbeats 1000000 in
theorem viewSays_3 (a : Option Addr) (c0 len : Nat) (l : List Int) (n at' off width c : Int) (w : World) (hl : Ints w a l) (hn : l.length = len) (hlen : len ≤ 9223372036854775807) (h1 : InW n at' off width) (h2 : 200 < len) :
    Calls Try.prog 6 #[.slice a len c0, .int .i64 n, .int .i64 at', .int .i64 off, .int .i64 width, .int .i64 c] w fun e w' => e = .returned (.bool true) ∧ Below w.heap.size w w' := by
  have HN := Lib.hid hn; clear hn
  have h2b : ¬ InW len at' off width := by unfold InW; omega
  go_enter Try.func6, Try.ntmps6
  go_wp2_with fail
  refine (view_scroll_ok h1).mono ?_; rintro e w' ⟨rfl, rfl⟩
  go_wp2_with fail
  refine (ref_scrollErr_ok h1).mono ?_; rintro e w' ⟨rfl, rfl⟩
  go_wp2_with fail
  refine (ref_scroll_ok h1).mono ?_; rintro e w' ⟨rfl, rfl⟩
  go_wp2_with fail
  refine (view_row_bad a len c0 at' off width w 2 (by decide) (.inl ⟨h2, rfl⟩)).mono ?_
  rintro e w1 ⟨rfl, hbel⟩
  go_wp2_with fail
  refine (ref_scrollErr_bad h2b).mono ?_; rintro e w' ⟨rfl, rfl⟩
  go_wp2_with (first | (go_at_call 29; refine (view_cell _ _).mono ?_; rintro e w' ⟨rfl, rfl⟩) | (go_at_call 30; refine (ref_cell _ _).mono ?_; rintro e w' ⟨rfl, rfl⟩) | (go_at_call 31; refine (ref_sameRow none none 0 0 0 0 [] [] 0 0 _ (.inl rfl) (.inl rfl) rfl rfl (by omega)).mono ?_; rintro e w4 ⟨rfl, hbel4⟩))
  go_ret
  exact ⟨rfl, below_then (hbel.alloc hbel.size _) (by have := hbel.size; simp; omega) hbel4⟩

set_option maxRecDepth 100000 in
set_option maxHeartbeats 1000000 in
theorem viewSays_4 (a : Option Addr) (c0 len : Nat) (l : List Int) (n at' off width c : Int) (w : World) (hl : Ints w a l) (hn : l.length = len) (hlen : len ≤ 9223372036854775807) (h1 : InW n at' off width) (h2 : len ≤ 200) (h2b : ¬ InW len at' off width) :
    Calls Try.prog 6 #[.slice a len c0, .int .i64 n, .int .i64 at', .int .i64 off, .int .i64 width, .int .i64 c] w fun e w' => e = .returned (.bool true) ∧ Below w.heap.size w w' := by
  have HN := Lib.hid hn; clear hn
  go_enter Try.func6, Try.ntmps6
  go_wp2_with fail
  refine (view_scroll_ok h1).mono ?_; rintro e w' ⟨rfl, rfl⟩
  go_wp2_with fail
  refine (ref_scrollErr_ok h1).mono ?_; rintro e w' ⟨rfl, rfl⟩
  go_wp2_with fail
  refine (ref_scroll_ok h1).mono ?_; rintro e w' ⟨rfl, rfl⟩
  go_wp2_with fail
  refine (view_row_bad a len c0 at' off width w 1 (by decide) (.inr ⟨h2, by rw [vScroll_out h2b]; rfl⟩)).mono ?_
  rintro e w1 ⟨rfl, hbel⟩
  go_wp2_with fail
  refine (ref_scrollErr_bad h2b).mono ?_; rintro e w' ⟨rfl, rfl⟩
  go_wp2_with (first | (go_at_call 29; refine (view_cell _ _).mono ?_; rintro e w' ⟨rfl, rfl⟩) | (go_at_call 30; refine (ref_cell _ _).mono ?_; rintro e w' ⟨rfl, rfl⟩) | (go_at_call 31; refine (ref_sameRow none none 0 0 0 0 [] [] 0 0 _ (.inl rfl) (.inl rfl) rfl rfl (by omega)).mono ?_; rintro e w4 ⟨rfl, hbel4⟩))
  go_ret
  exact ⟨rfl, below_then (hbel.alloc hbel.size _) (by have := hbel.size; simp; omega) hbel4⟩

set_option maxRecDepth 100000 in
set_option maxHeartbeats 1000000 in
theorem viewSays_5 (a : Option Addr) (c0 len : Nat) (l : List Int) (n at' off width c : Int) (w : World) (hl : Ints w a l) (hn : l.length = len) (hlen : len ≤ 9223372036854775807) (h1 : InW n at' off width) (h2 : InW len at' off width) (h3 : scrollS at' off width ≠ off) :
    Calls Try.prog 6 #[.slice a len c0, .int .i64 n, .int .i64 at', .int .i64 off, .int .i64 width, .int .i64 c] w fun e w' => e = .returned (.bool true) ∧ Below w.heap.size w w' := by
  have HN := Lib.hid hn; clear hn
  have H3 := Lib.hid h3; clear h3
  have hv : (scrollS at' off width != off) = true := by simpa using H3.out
  obtain ⟨b0, b1, b2, b3, b4, b5, b6, b7⟩ := h2
  have h2 : InW len at' off width := ⟨b0, b1, b2, b3, b4, b5, b6, b7⟩
  go_enter Try.func6, Try.ntmps6
  go_wp2_with fail
  refine (view_scroll_ok h1).mono ?_; rintro e w' ⟨rfl, rfl⟩
  go_wp2_with fail
  refine (ref_scrollErr_ok h1).mono ?_; rintro e w' ⟨rfl, rfl⟩
  go_wp2_with fail
  refine (ref_scroll_ok h1).mono ?_; rintro e w' ⟨rfl, rfl⟩
  go_wp2_with fail
  refine (view_row_bad a len c0 at' off width w 1 (by decide) (.inr ⟨by omega, by rw [vScroll_in b1 b2 b3 b4 b5 b6 b7, if_pos ⟨rfl, H3.out⟩]⟩)).mono ?_
  rintro e w1 ⟨rfl, hbel⟩
  go_wp2_with fail
  refine (ref_scrollErr_ok h2).mono ?_; rintro e w' ⟨rfl, rfl⟩
  go_wp2_with fail
  refine (ref_scroll_ok h2).mono ?_; rintro e w' ⟨rfl, rfl⟩
  go_wp2_with (first | (go_at_call 29; refine (view_cell _ _).mono ?_; rintro e w' ⟨rfl, rfl⟩) | (go_at_call 30; refine (ref_cell _ _).mono ?_; rintro e w' ⟨rfl, rfl⟩) | (go_at_call 31; refine (ref_sameRow none none 0 0 0 0 [] [] 0 0 _ (.inl rfl) (.inl rfl) rfl rfl (by omega)).mono ?_; rintro e w4 ⟨rfl, hbel4⟩))
  go_ret
  exact ⟨rfl, below_then (hbel.alloc hbel.size _) (by have := hbel.size; simp; omega) hbel4⟩

set_option maxRecDepth 100000 in
set_option maxHeartbeats 1000000 in
theorem viewSays_6 (a : Option Addr) (c0 len : Nat) (l : List Int) (n at' off width c : Int) (w : World) (hl : Ints w a l) (hn : l.length = len) (hlen : len ≤ 9223372036854775807) (h1 : ¬ InW n at' off width) (h2 : 200 < len) :
    Calls Try.prog 6 #[.slice a len c0, .int .i64 n, .int .i64 at', .int .i64 off, .int .i64 width, .int .i64 c] w fun e w' => e = .returned (.bool true) ∧ Below w.heap.size w w' := by
  have HN := Lib.hid hn; clear hn
  have h2b : ¬ InW len at' off width := by unfold InW; omega
  go_enter Try.func6, Try.ntmps6
  go_wp2_with fail
  refine (view_scroll_bad h1).mono ?_; rintro e w' ⟨rfl, rfl⟩
  go_wp2_with fail
  refine (ref_scrollErr_bad h1).mono ?_; rintro e w' ⟨rfl, rfl⟩
  go_wp2_with fail
  refine (view_row_bad a len c0 at' off width w 2 (by decide) (.inl ⟨h2, rfl⟩)).mono ?_
  rintro e w1 ⟨rfl, hbel⟩
  go_wp2_with fail
  refine (ref_scrollErr_bad h2b).mono ?_; rintro e w' ⟨rfl, rfl⟩
  go_wp2_with (first | (go_at_call 29; refine (view_cell _ _).mono ?_; rintro e w' ⟨rfl, rfl⟩) | (go_at_call 30; refine (ref_cell _ _).mono ?_; rintro e w' ⟨rfl, rfl⟩) | (go_at_call 31; refine (ref_sameRow none none 0 0 0 0 [] [] 0 0 _ (.inl rfl) (.inl rfl) rfl rfl (by omega)).mono ?_; rintro e w4 ⟨rfl, hbel4⟩))
  go_ret
  exact ⟨rfl, below_then (hbel.alloc hbel.size _) (by have := hbel.size; simp; omega) hbel4⟩

set_option maxRecDepth 100000 in
set_option maxHeartbeats 1000000 in
theorem viewSays_7 (a : Option Addr) (c0 len : Nat) (l : List Int) (n at' off width c : Int) (w : World) (hl : Ints w a l) (hn : l.length = len) (hlen : len ≤ 9223372036854775807) (h1 : ¬ InW n at' off width) (h2 : len ≤ 200) (h2b : ¬ InW len at' off width) :
    Calls Try.prog 6 #[.slice a len c0, .int .i64 n, .int .i64 at', .int .i64 off, .int .i64 width, .int .i64 c] w fun e w' => e = .returned (.bool true) ∧ Below w.heap.size w w' := by
  have HN := Lib.hid hn; clear hn
  go_enter Try.func6, Try.ntmps6
  go_wp2_with fail
  refine (view_scroll_bad h1).mono ?_; rintro e w' ⟨rfl, rfl⟩
  go_wp2_with fail
  refine (ref_scrollErr_bad h1).mono ?_; rintro e w' ⟨rfl, rfl⟩
  go_wp2_with fail
  refine (view_row_bad a len c0 at' off width w 1 (by decide) (.inr ⟨h2, by rw [vScroll_out h2b]; rfl⟩)).mono ?_
  rintro e w1 ⟨rfl, hbel⟩
  go_wp2_with fail
  refine (ref_scrollErr_bad h2b).mono ?_; rintro e w' ⟨rfl, rfl⟩
  go_wp2_with (first | (go_at_call 29; refine (view_cell _ _).mono ?_; rintro e w' ⟨rfl, rfl⟩) | (go_at_call 30; refine (ref_cell _ _).mono ?_; rintro e w' ⟨rfl, rfl⟩) | (go_at_call 31; refine (ref_sameRow none none 0 0 0 0 [] [] 0 0 _ (.inl rfl) (.inl rfl) rfl rfl (by omega)).mono ?_; rintro e w4 ⟨rfl, hbel4⟩))
  go_ret
  exact ⟨rfl, below_then (hbel.alloc hbel.size _) (by have := hbel.size; simp; omega) hbel4⟩

set_option maxRecDepth 100000 in
set_option maxHeartbeats 1000000 in
theorem viewSays_8 (a : Option Addr) (c0 len : Nat) (l : List Int) (n at' off width c : Int) (w : World) (hl : Ints w a l) (hn : l.length = len) (hlen : len ≤ 9223372036854775807) (h1 : ¬ InW n at' off width) (h2 : InW len at' off width) (h3 : scrollS at' off width ≠ off) :
    Calls Try.prog 6 #[.slice a len c0, .int .i64 n, .int .i64 at', .int .i64 off, .int .i64 width, .int .i64 c] w fun e w' => e = .returned (.bool true) ∧ Below w.heap.size w w' := by
  have HN := Lib.hid hn; clear hn
  have H3 := Lib.hid h3; clear h3
  have hv : (scrollS at' off width != off) = true := by simpa using H3.out
  obtain ⟨b0, b1, b2, b3, b4, b5, b6, b7⟩ := h2
  have h2 : InW len at' off width := ⟨b0, b1, b2, b3, b4, b5, b6, b7⟩
  go_enter Try.func6, Try.ntmps6
  go_wp2_with fail
  refine (view_scroll_bad h1).mono ?_; rintro e w' ⟨rfl, rfl⟩
  go_wp2_with fail
  refine (ref_scrollErr_bad h1).mono ?_; rintro e w' ⟨rfl, rfl⟩
  go_wp2_with fail
  refine (view_row_bad a len c0 at' off width w 1 (by decide) (.inr ⟨by omega, by rw [vScroll_in b1 b2 b3 b4 b5 b6 b7, if_pos ⟨rfl, H3.out⟩]⟩)).mono ?_
  rintro e w1 ⟨rfl, hbel⟩
  go_wp2_with fail
  refine (ref_scrollErr_ok h2).mono ?_; rintro e w' ⟨rfl, rfl⟩
  go_wp2_with fail
  refine (ref_scroll_ok h2).mono ?_; rintro e w' ⟨rfl, rfl⟩
  go_wp2_with (first | (go_at_call 29; refine (view_cell _ _).mono ?_; rintro e w' ⟨rfl, rfl⟩) | (go_at_call 30; refine (ref_cell _ _).mono ?_; rintro e w' ⟨rfl, rfl⟩) | (go_at_call 31; refine (ref_sameRow none none 0 0 0 0 [] [] 0 0 _ (.inl rfl) (.inl rfl) rfl rfl (by omega)).mono ?_; rintro e w4 ⟨rfl, hbel4⟩))
  go_ret
  exact ⟨rfl, below_then (hbel.alloc hbel.size _) (by have := hbel.size; simp; omega) hbel4⟩

theorem viewSays_walk (a : Option Addr) (c0 len : Nat) (l : List Int) (n at' off width c : Int) (w : World) (hl : Ints w a l) (hn : l.length = len) (hlen : len ≤ 9223372036854775807) :
    Calls Try.prog 6 #[.slice a len c0, .int .i64 n, .int .i64 at', .int .i64 off, .int .i64 width, .int .i64 c] w fun e w' => e = .returned (.bool true) ∧ Below w.heap.size w w' := by
  by_cases h1 : InW n at' off width
  · by_cases h2 : 200 < len
    · exact viewSays_3 a c0 len l n at' off width c w hl hn hlen h1 h2
    · by_cases h3 : InW len at' off width
      · by_cases h4 : scrollS at' off width = off
        · exact viewSays_1 a c0 len l n at' off width c w hl hn hlen h1 h3 h4
        · exact viewSays_5 a c0 len l n at' off width c w hl hn hlen h1 h3 h4
      · exact viewSays_4 a c0 len l n at' off width c w hl hn hlen h1 (by omega) h3
  · by_cases h2 : 200 < len
    · exact viewSays_6 a c0 len l n at' off width c w hl hn hlen h1 h2
    · by_cases h3 : InW len at' off width
      · by_cases h4 : scrollS at' off width = off
        · exact viewSays_2 a c0 len l n at' off width c w hl hn hlen h1 h3 h4
        · exact viewSays_8 a c0 len l n at' off width c w hl hn hlen h1 h3 h4
      · exact viewSays_7 a c0 len l n at' off width c w hl hn hlen h1 (by omega) h3

end Go.Proofs.Ythnjaichbejifaa
