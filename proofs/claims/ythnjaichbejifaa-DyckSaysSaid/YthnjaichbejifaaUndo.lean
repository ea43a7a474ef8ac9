/- Contracts of package undo at int. -/
import Derived.Test.YthnjaichbejifaaSlib
import Derived.Deep.RegionHeld3
namespace Go.Proofs.Ythnjaichbejifaa
open Go.RowKit
set_option linter.unusedVariables false
set_option linter.unusedSimpArgs false

/-- what Do keeps -/
def doS (past : List Int) (most now : Int) : List Int := (past ++ [now]).drop (past.length + 1 - most.toNat)

def UndoPost (xs : List Int) (w : World) (e : Ending) (w' : World) : Prop := ∃ v, e = .returned (.agg #[v, .slice none 0 0]) ∧ Own 3 w.heap.size w' v xs ∧ Below w.heap.size w w'

set_option maxRecDepth 100000 in
theorem undo_do1 (a a2 : Option Addr) (n c n2 c2 : Nat) (past : List Int) (most now : Int) (w : World) (ha : Ints w a past) (hn : past.length = n) (hl : n < 17592186044416) (h0 : a = none → n = 0) (hm1 : -9223372036854775808 ≤ most) (hm2 : most ≤ 9223372036854775807) (hm : (n : Int) + 1 ≤ most) :
    Calls Try.prog 21 #[.agg #[.slice a n c, .slice a2 n2 c2], .int .i64 most, .int .i64 now] w (UndoPost (doS past most now) w) := by
  have HN := Lib.hid hn; clear hn
  have hS : doS past most now = past ++ [now] := by unfold doS; rw [HN.out, show n + 1 - most.toNat = 0 from by omega]; rfl
  have HS := Lib.hid hS; clear hS
  go_enter Try.func21, Try.ntmps21
  go_wp2_with fail
  have hb2 := below2 w (.cells #[.slice a n c, .slice a2 n2 c2] 35) (.cells #[.slice none 0 0, .slice none 0 0] 35)
  have hB1 := Blk.new (w.alloc (.cells #[.slice a n c, .slice a2 n2 c2] 35)) #[.slice none 0 0, .slice none 0 0] 35
  rw [World.size_alloc] at hB1
  refine (slices_clone a n c past _ (ha.below hb2) HN.out (by omega) h0).mono ?_
  rintro e w1 ⟨v1, rfl, hown1, hbel1⟩
  have hB1' := hB1.below hbel1 hB1.lt
  have hb1 := below_then hb2 hb2.size hbel1
  have hsz1 := hbel1.size
  rw [World.size_alloc, World.size_alloc] at hown1 hsz1
  obtain ⟨a1, n1, m1, rfl⟩ := hown1.form
  go_wp2_with (at_builtin; refine app1 rfl _ _ rfl (w.heap.size + 1 + 1) (.slice a1 n1 m1) _ _ _ rfl rfl (hown1.alloc _) (cell_new1 _ _ _) (by rw [HN.out]; exact hl) (size_alloc_le hsz1 _) ?_; intro v2 w2 hown2 hgrow2; obtain ⟨g, k, c3, rfl, hk1, hk2, hkc, hc3, hg1, hg2, hI⟩ := hown2.full (by simp); rw [List.length_append, List.length_singleton, HN.out] at hk1 hk2; have hD := (hB1'.alloc _).grown hgrow2 (hown1.ne (by omega)); obtain ⟨d0, d1, x0, x1⟩ := hD.two; have hDl := hD.lt)
  have hG := Blk.alloc ((hD.set 0 (.slice (some ⟨g, 0, none⟩) k c3)).set 1 (.slice none 0 0)) (.cells #[.slice (some ⟨g, 0, none⟩) k c3, .slice none 0 0] 35)
  obtain ⟨y0, y1, -, -⟩ := Blk.two hG
  have hbel2 := (hb1.alloc hb1.size (.cells #[.int .i64 now] 3)).grown hgrow2 (by have := hb1.size; simp; omega) (fun j hj => by have := hown1.row j hj; omega)
  refine bodyPost_ret (v := .agg #[.slice (some ⟨g, 0, none⟩) k c3, .slice none 0 0]) (by simp [results, Try.results21, go_sem, y0, y1]) rfl ?_
  refine ⟨_, rfl, ?_, ((hbel2.setCell (by simp) _).setCell (by simp) _).alloc (by have := hbel2.size; simp [World.setCell]; omega) _⟩
  rw [HS.out]
  exact (((hown2.setCell (by simp) _).setCell (by simp) _).alloc _).mono (by omega)

set_option maxRecDepth 100000 in
theorem undo_do2 (a a2 : Option Addr) (n c n2 c2 : Nat) (past : List Int) (most now : Int) (w : World) (ha : Ints w a past) (hn : past.length = n) (hl : n < 17592186044416) (h0 : a = none → n = 0) (hm1 : -9223372036854775808 ≤ most) (hm2 : most ≤ 9223372036854775807) (hm : most ≤ 0) :
    Calls Try.prog 21 #[.agg #[.slice a n c, .slice a2 n2 c2], .int .i64 most, .int .i64 now] w (UndoPost (doS past most now) w) := by
  have HN := Lib.hid hn; clear hn
  have hS : doS past most now = [] := by unfold doS; rw [HN.out, show most.toNat = 0 from by omega]; simp [HN.out]
  have HS := Lib.hid hS; clear hS
  go_enter Try.func21, Try.ntmps21
  go_wp2_with fail
  have hb2 := below2 w (.cells #[.slice a n c, .slice a2 n2 c2] 35) (.cells #[.slice none 0 0, .slice none 0 0] 35)
  have hB1 := Blk.new (w.alloc (.cells #[.slice a n c, .slice a2 n2 c2] 35)) #[.slice none 0 0, .slice none 0 0] 35
  rw [World.size_alloc] at hB1
  refine (slices_clone a n c past _ (ha.below hb2) HN.out (by omega) h0).mono ?_
  rintro e w1 ⟨v1, rfl, hown1, hbel1⟩
  have hB1' := hB1.below hbel1 hB1.lt
  have hb1 := below_then hb2 hb2.size hbel1
  have hsz1 := hbel1.size
  rw [World.size_alloc, World.size_alloc] at hown1 hsz1
  obtain ⟨a1, n1, m1, rfl⟩ := hown1.form
  go_wp2_with (at_builtin; refine app1 rfl _ _ rfl (w.heap.size + 1 + 1) (.slice a1 n1 m1) _ _ _ rfl rfl (hown1.alloc _) (cell_new1 _ _ _) (by rw [HN.out]; exact hl) (size_alloc_le hsz1 _) ?_; intro v2 w2 hown2 hgrow2; obtain ⟨g, k, c3, rfl, hk1, hk2, hkc, hc3, hg1, hg2, hI⟩ := hown2.full (by simp); rw [List.length_append, List.length_singleton, HN.out] at hk1 hk2; have hD := (hB1'.alloc _).grown hgrow2 (hown1.ne (by omega)); obtain ⟨d0, d1, x0, x1⟩ := hD.two; have hDl := hD.lt)
  all_goals
    have hbel2 := (hb1.alloc hb1.size (.cells #[.int .i64 now] 3)).grown hgrow2 (by have := hb1.size; simp; omega) (fun j hj => by have := hown1.row j hj; omega)
    refine (slices_clone _ _ _ [] _ (.inl rfl) (by first | (simp; done) | (simp; omega)) (by omega) (by simp)).mono ?_
    rintro e w4 ⟨v4, rfl, hown4, hbel4⟩
    obtain ⟨a4, n4, m4, rfl⟩ := hown4.form
    have hE := Blk.below (Blk.new w2 #[.slice (some ⟨g, 0, none⟩) k _, .slice none 0 0] 35) hbel4 (by simp)
    have hF := Blk.below (hD.alloc _) hbel4 (by simp; omega)
    have hsz4 := hbel4.size
    rw [World.size_alloc] at hsz4 hown4
    have hbel5 := below_then (hbel2.alloc hbel2.size _) (by have := hbel2.size; simp; omega) hbel4
    obtain ⟨p0, p1, p2, p3⟩ := hE.two
    obtain ⟨q0, q1, q2, q3⟩ := hF.two
    go_wp2
    have hG := (((hF.other (a := ⟨w2.heap.size, 0, none⟩) (by simp; omega) (.slice a4 n4 m4)).set 0 (.slice a4 n4 m4)).set 1 (.slice none 0 0))
    obtain ⟨y0, y1, -, -⟩ := Blk.two hG
    refine bodyPost_ret (v := .agg #[.slice a4 n4 m4, .slice none 0 0]) (by simp [results, Try.results21, go_sem, y0, y1]) rfl ?_
    exact ⟨_, rfl, (by rw [HS.out]; exact (((hown4.setCell (by simp) _).setCell (by simp; omega) _).setCell (by simp; omega) _).mono (by omega)), ((hbel5.setCell (by have := hbel2.size; simp; omega) _).setCell (by simp) _).setCell (by simp) _⟩

set_option maxRecDepth 100000 in
theorem undo_do3 (a a2 : Option Addr) (n c n2 c2 : Nat) (past : List Int) (most now : Int) (w : World) (ha : Ints w a past) (hn : past.length = n) (hl : n < 17592186044416) (h0 : a = none → n = 0) (hm1 : -9223372036854775808 ≤ most) (hm2 : most ≤ 9223372036854775807) (hm : 0 < most ∧ most ≤ n) :
    Calls Try.prog 21 #[.agg #[.slice a n c, .slice a2 n2 c2], .int .i64 most, .int .i64 now] w (UndoPost (doS past most now) w) := by
  have HN := Lib.hid hn; clear hn
  obtain ⟨hma, hmb⟩ := hm
  obtain ⟨m, rfl⟩ := Int.eq_ofNat_of_zero_le (show 0 ≤ most by omega)
  have hS : doS past m now = (past ++ [now]).drop (n + 1 - m) := by unfold doS; rw [HN.out]; rfl
  have HS := Lib.hid hS; clear hS
  go_enter Try.func21, Try.ntmps21
  go_wp2_with fail
  have hb2 := below2 w (.cells #[.slice a n c, .slice a2 n2 c2] 35) (.cells #[.slice none 0 0, .slice none 0 0] 35)
  have hB1 := Blk.new (w.alloc (.cells #[.slice a n c, .slice a2 n2 c2] 35)) #[.slice none 0 0, .slice none 0 0] 35
  rw [World.size_alloc] at hB1
  refine (slices_clone a n c past _ (ha.below hb2) HN.out (by omega) h0).mono ?_
  rintro e w1 ⟨v1, rfl, hown1, hbel1⟩
  have hB1' := hB1.below hbel1 hB1.lt
  have hb1 := below_then hb2 hb2.size hbel1
  have hsz1 := hbel1.size
  rw [World.size_alloc, World.size_alloc] at hown1 hsz1
  obtain ⟨a1, n1, m1, rfl⟩ := hown1.form
  go_wp2_with (at_builtin; refine app1 rfl _ _ rfl (w.heap.size + 1 + 1) (.slice a1 n1 m1) _ _ _ rfl rfl (hown1.alloc _) (cell_new1 _ _ _) (by rw [HN.out]; exact hl) (size_alloc_le hsz1 _) ?_; intro v2 w2 hown2 hgrow2; obtain ⟨g, k, c3, rfl, hk1, hk2, hkc, hc3, hg1, hg2, hI⟩ := hown2.full (by simp); rw [List.length_append, List.length_singleton, HN.out] at hk1 hk2; have hD := (hB1'.alloc _).grown hgrow2 (hown1.ne (by omega)); obtain ⟨d0, d1, x0, x1⟩ := hD.two; have hDl := hD.lt)
  have hbel2 := (hb1.alloc hb1.size (.cells #[.int .i64 now] 3)).grown hgrow2 (by have := hb1.size; simp; omega) (fun j hj => by have := hown1.row j hj; omega)
  refine (slices_clone _ _ _ ((past ++ [now]).drop (k - m)) _ (by have := (hI.below (below1 w2 (.cells #[.slice (some ⟨g, 0, none⟩) k c3, .slice none 0 0] 35))).drop (k - m); simpa using this) (by have := HN.out; simp; omega) (by omega) (by simp)).mono ?_
  rintro e w4 ⟨v4, rfl, hown4, hbel4⟩
  obtain ⟨a4, n4, m4, rfl⟩ := hown4.form
  have hE := Blk.below (Blk.new w2 #[.slice (some ⟨g, 0, none⟩) k _, .slice none 0 0] 35) hbel4 (by simp)
  have hF := Blk.below (hD.alloc _) hbel4 (by simp; omega)
  have hsz4 := hbel4.size
  rw [World.size_alloc] at hsz4 hown4
  have hbel5 := below_then (hbel2.alloc hbel2.size _) (by have := hbel2.size; simp; omega) hbel4
  obtain ⟨p0, p1, p2, p3⟩ := hE.two
  obtain ⟨q0, q1, q2, q3⟩ := hF.two
  go_wp2
  have hG := (((hF.other (a := ⟨w2.heap.size, 0, none⟩) (by simp; omega) (.slice a4 n4 m4)).set 0 (.slice a4 n4 m4)).set 1 (.slice none 0 0))
  obtain ⟨y0, y1, -, -⟩ := Blk.two hG
  refine bodyPost_ret (v := .agg #[.slice a4 n4 m4, .slice none 0 0]) (by simp [results, Try.results21, go_sem, y0, y1]) rfl ?_
  exact ⟨_, rfl, (by rw [HS.out, show n + 1 - m = k - m from by omega]; exact (((hown4.setCell (by simp) _).setCell (by simp; omega) _).setCell (by simp; omega) _).mono (by omega)), ((hbel5.setCell (by have := hbel2.size; simp; omega) _).setCell (by simp) _).setCell (by simp) _⟩

theorem undo_do (a a2 : Option Addr) (n c n2 c2 : Nat) (past : List Int) (most now : Int) (w : World) (ha : Ints w a past) (hn : past.length = n) (hl : n < 17592186044416) (h0 : a = none → n = 0) (hm1 : -9223372036854775808 ≤ most) (hm2 : most ≤ 9223372036854775807) :
    Calls Try.prog 21 #[.agg #[.slice a n c, .slice a2 n2 c2], .int .i64 most, .int .i64 now] w (UndoPost (doS past most now) w) := by
  have hcase : (n : Int) + 1 ≤ most ∨ most ≤ 0 ∨ 0 < most ∧ most ≤ n := by omega
  rcases hcase with hm | hm | hm
  · exact undo_do1 a a2 n c n2 c2 past most now w ha hn hl h0 hm1 hm2 hm
  · exact undo_do2 a a2 n c n2 c2 past most now w ha hn hl h0 hm1 hm2 hm
  · exact undo_do3 a a2 n c n2 c2 past most now w ha hn hl h0 hm1 hm2 hm

end Go.Proofs.Ythnjaichbejifaa
