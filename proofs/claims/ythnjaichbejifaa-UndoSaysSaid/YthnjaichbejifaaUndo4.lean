/- Contracts of package undo at int: Again; Back and Again where there is nothing. -/
import Derived.Test.YthnjaichbejifaaUndo3
namespace Go.Proofs.Ythnjaichbejifaa
open Go.RowKit
set_option linter.unusedVariables false
set_option linter.unusedSimpArgs false

set_option maxRecDepth 100000 in
theorem undo_again (a2 a1 : Option Addr) (n2 c2 m c1 : Nat) (ys xs : List Int) (now : Int) (w : World) (h1 : Ints w a1 xs) (h2 : Ints w a2 ys) (hn1 : xs.length = m + 1) (hn2 : ys.length = n2) (hl1 : m + 1 ≤ 17592186044416) (hl2 : n2 < 17592186044416)
    (z1 : a1 = none → m + 1 = 0) (z2 : a2 = none → n2 = 0) :
    Calls Try.prog 24 #[.agg #[.slice a2 n2 c2, .slice a1 (m + 1) c1], .int .i64 now] w (BackPost (ys ++ [now]) xs.dropLast (ix xs m) true w) := by
  have HN1 := Lib.hid hn1; have HN2 := Lib.hid hn2; clear hn1 hn2
  have Z1 := Lib.hid z1; have Z2 := Lib.hid z2; clear z1 z2
  have hb2 := below2 w (.cells #[.slice a2 n2 c2, .slice a1 (m + 1) c1] 35) (.cells #[.slice none 0 0, .slice none 0 0] 35)
  have hB1 := Blk.new (w.alloc (.cells #[.slice a2 n2 c2, .slice a1 (m + 1) c1] 35)) #[.slice none 0 0, .slice none 0 0] 35
  rw [World.size_alloc] at hB1
  go_enter Try.func24, Try.ntmps24
  go_wp2_with fail
  refine (undo_copied a2 a1 n2 c2 (m + 1) c1 ys xs _ (h2.below hb2) (h1.below hb2) HN2.out HN1.out (by omega) hl1 Z2.out Z1.out).mono ?_
  rintro e w1 ⟨v2, v1, rfl, o2, o1, hsep, hbel1⟩
  have hB1' := hB1.below hbel1 hB1.lt
  have hb1 := below_then hb2 hb2.size hbel1
  have hsz1 := hbel1.size
  rw [World.size_alloc, World.size_alloc] at o1 o2 hsz1
  obtain ⟨g, k, c3, rfl, hk1, hk2, hkc, hc3, hg1, hg2, hI⟩ := o1.full (by rw [HN1.out]; omega)
  rw [HN1.out] at hk1 hk2
  obtain rfl : k = m + 1 := by omega
  obtain ⟨a3, n3, m3, rfl⟩ := o2.form
  go_wp2_with fail
  obtain ⟨b', o', hbo, hcell⟩ := hI.at (k := m) (by rw [HN1.out]; omega)
  simp only [Option.some.injEq, Addr.mk.injEq] at hbo
  obtain ⟨rfl, rfl, -⟩ := hbo
  have hcm := hcell m (by rw [HN1.out]; omega)
  rw [Nat.zero_add] at hcm
  clear hcell
  refine (undo_newest g m c3 (ix xs m) _ (by rw [World.cell?_alloc_past _ _ _ hg2]; exact hcm) hkc hc3).mono ?_
  rintro e w5 ⟨rfl, q, hq⟩
  have hB7 : Blk w5 w1.heap.size #[.slice a3 n3 m3, .slice (some ⟨g, 0, none⟩) (m + 1) c3] 35 := by rw [hq]; exact (Blk.new _ _ _).drewN q
  have hb5 : Below w.heap.size w w5 := by rw [hq]; exact below_drewN (hb1.alloc hb1.size _) q
  have o15 : Own 3 (w.heap.size + 1 + 1) w5 (.slice (some ⟨g, 0, none⟩) (m + 1) c3) xs := by rw [hq]; exact (o1.alloc _).drewN q
  have o25 : Own 3 (w.heap.size + 1 + 1) w5 (.slice a3 n3 m3) ys := by rw [hq]; exact (o2.alloc _).drewN q
  have hB15 : Blk w5 (w.heap.size + 1) #[.slice none 0 0, .slice none 0 0] 35 := by rw [hq]; exact (hB1'.alloc _).drewN q
  have hne1 := o1.neOf (Nat.le_refl w1.heap.size)
  have hne2 := o2.neOf (Nat.le_refl w1.heap.size)
  have HE1 := Lib.hid hne1; have HE2 := Lib.hid hne2; clear hne1 hne2
  have hsz5 : w1.heap.size < w5.heap.size := hB7.lt
  clear hq
  obtain ⟨c70, c71, f70, f71⟩ := hB7.two
  go_wp2_with (at_builtin; refine app1 rfl _ _ rfl (w.heap.size + 1 + 1) (.slice a3 n3 m3) _ _ _ rfl rfl ((o25.other HE2.out _).alloc _) (cell_newAt _ _ _ (size_setCell _ _ _).symm) (by rw [HN2.out]; exact hl2) (size_alloc_le (by rw [size_setCell]; omega) _) ?_; intro v4 w4 hown4 hgrow4; obtain ⟨a4, n4, m4, rfl⟩ := hown4.form; have hC7 := ((hB7.set 1 (.slice (some ⟨g, 0, none⟩) m c3)).alloc _).grown hgrow4 HE2.out; have hC1 := ((hB15.other (a := ⟨w1.heap.size, 1, none⟩) (by simp; omega) _).alloc _).grown hgrow4 (o25.ne (by omega)); obtain ⟨d0, d1, d2, d3⟩ := Blk.two hC7; obtain ⟨x0, x1, x2, x3⟩ := hC1.two; have hL7 := hC7.lt; have hL1 := hC1.lt)
  have hD1 := ((hC1.other (a := ⟨w1.heap.size, 0, none⟩) (by simp; omega) (.slice a4 n4 m4)).set 0 (.slice a4 n4 m4)).set 1 (.slice (some ⟨g, 0, none⟩) m c3)
  obtain ⟨y0, y1, -, -⟩ := Blk.two hD1
  refine bodyPost_ret (v := .tuple #[.agg #[.slice a4 n4 m4, .slice (some ⟨g, 0, none⟩) m c3], .int .i64 (ix xs m), .bool true]) (by simp [results, Try.results24, go_sem, y0, y1]) rfl ?_
  have hs4 := hgrow4.size
  rw [World.size_alloc, size_setCell] at hs4
  have hb4 := ((hb5.setCell (p := ⟨w1.heap.size, 1, none⟩) (by simp; omega) (.slice (some ⟨g, 0, none⟩) m c3)).alloc (by rw [size_setCell]; omega) (.cells #[.int .i64 now] 3)).grown hgrow4 (by rw [World.size_alloc, size_setCell]; omega) (fun k hk => by have := o25.row k hk; omega)
  refine ⟨_, _, rfl, ?_, ?_, ((hb4.setCell (by simp; omega) _).setCell (by simp) _).setCell (by simp) _⟩
  · exact (((hown4.other (hown4.neBlk hC7 (by decide)) _).setCell (by simp) _).setCell (by simp) _).sl
  · exact ((((((o15.pop.other HE1.out _).alloc _).grown hgrow4 hsep.symm).other HE1.out _).setCell (by simp) _).setCell (by simp) _).sl

def EmptyPost (xs ys : List Int) (now : Int) (w : World) (e : Ending) (w' : World) : Prop := BackPost xs ys now false w e w'

set_option maxRecDepth 100000 in
theorem undo_back0 (a1 a2 : Option Addr) (c1 n2 c2 : Nat) (ys : List Int) (now : Int) (w : World) (h2 : Ints w a2 ys) (hn2 : ys.length = n2) (hl2 : n2 ≤ 17592186044416) (z2 : a2 = none → n2 = 0) :
    Calls Try.prog 23 #[.agg #[.slice a1 0 c1, .slice a2 n2 c2], .int .i64 now] w (EmptyPost [] ys now w) := by
  have HN2 := Lib.hid hn2; clear hn2
  have Z2 := Lib.hid z2; clear z2
  have hb2 := below2 w (.cells #[.slice a1 0 c1, .slice a2 n2 c2] 35) (.cells #[.slice none 0 0, .slice none 0 0] 35)
  have hB1 := Blk.new (w.alloc (.cells #[.slice a1 0 c1, .slice a2 n2 c2] 35)) #[.slice none 0 0, .slice none 0 0] 35
  rw [World.size_alloc] at hB1
  go_enter Try.func23, Try.ntmps23
  go_wp2_with fail
  refine (undo_copied a1 a2 0 c1 n2 c2 [] ys _ (.inl rfl) (h2.below hb2) rfl HN2.out (by omega) hl2 (fun _ => rfl) Z2.out).mono ?_
  rintro e w1 ⟨v1, v2, rfl, o1, o2, hsep, hbel1⟩
  have hB1' := hB1.below hbel1 hB1.lt
  have hb1 := below_then hb2 hb2.size hbel1
  rw [World.size_alloc, World.size_alloc] at o1 o2
  obtain ⟨a3, n3, m3, rfl⟩ := o1.form
  obtain ⟨a4, n4, m4, rfl⟩ := o2.form
  obtain ⟨x0, x1, x2, x3⟩ := hB1'.two
  have hL1 := hB1'.lt
  go_wp2
  obtain ⟨y0, y1, -, -⟩ := Blk.two ((hB1'.set 0 (.slice a3 n3 m3)).set 1 (.slice a4 n4 m4))
  refine bodyPost_ret (v := .tuple #[.agg #[.slice a3 n3 m3, .slice a4 n4 m4], .int .i64 now, .bool false]) (by simp [results, Try.results23, go_sem, y0, y1]) rfl ?_
  exact ⟨_, _, rfl, ((o1.setCell (by simp) _).setCell (by simp) _).sl, ((o2.setCell (by simp) _).setCell (by simp) _).sl, (hb1.setCell (by simp) _).setCell (by simp) _⟩

set_option maxRecDepth 100000 in
theorem undo_again0 (a2 a1 : Option Addr) (n2 c2 c1 : Nat) (ys : List Int) (now : Int) (w : World) (h2 : Ints w a2 ys) (hn2 : ys.length = n2) (hl2 : n2 ≤ 17592186044416) (z2 : a2 = none → n2 = 0) :
    Calls Try.prog 24 #[.agg #[.slice a2 n2 c2, .slice a1 0 c1], .int .i64 now] w (EmptyPost ys [] now w) := by
  have HN2 := Lib.hid hn2; clear hn2
  have Z2 := Lib.hid z2; clear z2
  have hb2 := below2 w (.cells #[.slice a2 n2 c2, .slice a1 0 c1] 35) (.cells #[.slice none 0 0, .slice none 0 0] 35)
  have hB1 := Blk.new (w.alloc (.cells #[.slice a2 n2 c2, .slice a1 0 c1] 35)) #[.slice none 0 0, .slice none 0 0] 35
  rw [World.size_alloc] at hB1
  go_enter Try.func24, Try.ntmps24
  go_wp2_with fail
  refine (undo_copied a2 a1 n2 c2 0 c1 ys [] _ (h2.below hb2) (.inl rfl) HN2.out rfl hl2 (by omega) Z2.out (fun _ => rfl)).mono ?_
  rintro e w1 ⟨v1, v2, rfl, o1, o2, hsep, hbel1⟩
  have hB1' := hB1.below hbel1 hB1.lt
  have hb1 := below_then hb2 hb2.size hbel1
  rw [World.size_alloc, World.size_alloc] at o1 o2
  obtain ⟨a3, n3, m3, rfl⟩ := o1.form
  obtain ⟨a4, n4, m4, rfl⟩ := o2.form
  obtain ⟨x0, x1, x2, x3⟩ := hB1'.two
  have hL1 := hB1'.lt
  go_wp2
  obtain ⟨y0, y1, -, -⟩ := Blk.two ((hB1'.set 0 (.slice a3 n3 m3)).set 1 (.slice a4 n4 m4))
  refine bodyPost_ret (v := .tuple #[.agg #[.slice a3 n3 m3, .slice a4 n4 m4], .int .i64 now, .bool false]) (by simp [results, Try.results24, go_sem, y0, y1]) rfl ?_
  exact ⟨_, _, rfl, ((o1.setCell (by simp) _).setCell (by simp) _).sl, ((o2.setCell (by simp) _).setCell (by simp) _).sl, (hb1.setCell (by simp) _).setCell (by simp) _⟩

def BackAny (xs ys : List Int) (now : Int) (w : World) (e : Ending) (w' : World) : Prop :=
  ∃ v1 v2 x b, e = .returned (.tuple #[.agg #[v1, v2], .int .i64 x, .bool b]) ∧ SlI w' v1 xs.dropLast ∧ SlI w' v2 (if xs = [] then ys else ys ++ [now]) ∧ Below w.heap.size w w' ∧ (xs = [] ∧ b = false ∧ x = now ∨ xs ≠ [] ∧ b = true ∧ x = ix xs (xs.length - 1))
def AgainAny (ys xs : List Int) (now : Int) (w : World) (e : Ending) (w' : World) : Prop :=
  ∃ v2 v1 x b, e = .returned (.tuple #[.agg #[v2, v1], .int .i64 x, .bool b]) ∧ SlI w' v1 xs.dropLast ∧ SlI w' v2 (if xs = [] then ys else ys ++ [now]) ∧ Below w.heap.size w w' ∧ (xs = [] ∧ b = false ∧ x = now ∨ xs ≠ [] ∧ b = true ∧ x = ix xs (xs.length - 1))

theorem undo_back_any (a1 a2 : Option Addr) (n1 c1 n2 c2 : Nat) (xs ys : List Int) (now : Int) (w : World) (h1 : Ints w a1 xs) (h2 : Ints w a2 ys) (hn1 : xs.length = n1) (hn2 : ys.length = n2) (hl1 : n1 ≤ 17592186044416) (hl2 : n2 < 17592186044416)
    (z1 : a1 = none → n1 = 0) (z2 : a2 = none → n2 = 0) :
    Calls Try.prog 23 #[.agg #[.slice a1 n1 c1, .slice a2 n2 c2], .int .i64 now] w (BackAny xs ys now w) := by
  cases n1 with
  | zero =>
    have hx : xs = [] := List.eq_nil_of_length_eq_zero hn1
    refine (undo_back0 a1 a2 c1 n2 c2 ys now w h2 hn2 (by omega) z2).mono ?_
    rintro e w' ⟨v1, v2, rfl, h3, h4, h5⟩
    exact ⟨v1, v2, now, false, rfl, by rw [hx]; exact h3, by rw [if_pos hx]; exact h4, h5, .inl ⟨hx, rfl, rfl⟩⟩
  | succ m =>
    have hx : xs ≠ [] := by rintro rfl; simp at hn1
    refine (undo_back a1 a2 m c1 n2 c2 xs ys now w h1 h2 hn1 hn2 hl1 hl2 z1 z2).mono ?_
    rintro e w' ⟨v1, v2, rfl, h3, h4, h5⟩
    exact ⟨v1, v2, _, true, rfl, h3, by rw [if_neg hx]; exact h4, h5, .inr ⟨hx, rfl, by rw [hn1]; rfl⟩⟩

theorem undo_again_any (a2 a1 : Option Addr) (n2 c2 n1 c1 : Nat) (ys xs : List Int) (now : Int) (w : World) (h2 : Ints w a2 ys) (h1 : Ints w a1 xs) (hn2 : ys.length = n2) (hn1 : xs.length = n1) (hl2 : n2 < 17592186044416) (hl1 : n1 ≤ 17592186044416)
    (z2 : a2 = none → n2 = 0) (z1 : a1 = none → n1 = 0) :
    Calls Try.prog 24 #[.agg #[.slice a2 n2 c2, .slice a1 n1 c1], .int .i64 now] w (AgainAny ys xs now w) := by
  cases n1 with
  | zero =>
    have hx : xs = [] := List.eq_nil_of_length_eq_zero hn1
    refine (undo_again0 a2 a1 n2 c2 c1 ys now w h2 hn2 (by omega) z2).mono ?_
    rintro e w' ⟨v1, v2, rfl, h3, h4, h5⟩
    exact ⟨v1, v2, now, false, rfl, by rw [hx]; exact h4, by rw [if_pos hx]; exact h3, h5, .inl ⟨hx, rfl, rfl⟩⟩
  | succ m =>
    have hx : xs ≠ [] := by rintro rfl; simp at hn1
    refine (undo_again a2 a1 n2 c2 m c1 ys xs now w h1 h2 hn1 hn2 hl1 hl2 z1 z2).mono ?_
    rintro e w' ⟨v1, v2, rfl, h3, h4, h5⟩
    exact ⟨v1, v2, _, true, rfl, h4, by rw [if_neg hx]; exact h3, h5, .inr ⟨hx, rfl, by rw [hn1]; rfl⟩⟩

end Go.Proofs.Ythnjaichbejifaa
