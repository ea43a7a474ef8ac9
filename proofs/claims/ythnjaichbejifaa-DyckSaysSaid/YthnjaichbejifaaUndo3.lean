/- Contracts of package undo at int: newest, Back, Again. -/
import Derived.Test.YthnjaichbejifaaUndo2
namespace Go.Proofs.Ythnjaichbejifaa
open Go.RowKit
set_option linter.unusedVariables false
set_option linter.unusedSimpArgs false

set_option maxRecDepth 100000 in
theorem undo_newest (g m c : Nat) (x : Int) (w : World) (hc : w.cell? ⟨g, m, none⟩ = some (.int .i64 x)) (hm : m + 1 ≤ c) (hc2 : c ≤ 9223372036854775807) :
    Calls Try.prog 82 #[.slice (some ⟨g, 0, none⟩) (m + 1) c] w fun e w' => e = .returned (.tuple #[.int .i64 x, .slice (some ⟨g, 0, none⟩) m c]) ∧ ∃ k, w' = w.drewN k := by
  obtain ⟨n, hn1, hn2⟩ : ∃ n : Nat, n ≤ m + 1 ∧ m + 1 ≤ n := ⟨m + 1, by omega, by omega⟩
  rw [show m + 1 = n from by omega]
  have i1 : ((n : Int) - 1).toNat = m := by omega
  have i2 : IntKind.i64.wrap ((n : Int) - 1) = (n : Int) - 1 := IntWalk.i64_in _ (by omega)
  have i3 : (0 : Int) ≤ (n : Int) - 1 := by omega
  have i4 : (n : Int) - 1 < (n : Int) := by omega
  have i5 : (n : Int) - 1 ≤ (c : Int) := by omega
  have i6 : (1 : Int) ≤ (n : Int) := by omega
  go_enter Try.func82, Try.ntmps82
  go_wp2
  go_quiet (fail)
  go_wp2
  go_ret2
  exact ⟨rfl, nq, rfl⟩

/-- a readable slice of numbers -/
def SlI (w : World) (v : Value) (xs : List Int) : Prop := ∃ a n c, v = .slice a n c ∧ xs.length = n ∧ Ints w a xs ∧ n ≤ c ∧ (a = none → n = 0)

theorem Own.sl {e : TypeId} {base : Nat} {w : World} {v : Value} {xs : List Int} (h : Own e base w v xs) : SlI w v xs := by
  have h2 := h.2
  obtain ⟨a, c, hv, hc, hi⟩ := h.ints
  refine ⟨a, _, c, hv, rfl, hi, hc, ?_⟩
  rintro rfl
  rcases h2 with ⟨_, h0⟩ | ⟨g, cap, cur, h1, _⟩
  · exact h0
  · rw [hv] at h1; simp at h1
theorem SlI.below {w w' : World} {v : Value} {xs : List Int} (h : SlI w v xs) (hb : Below w.heap.size w w') : SlI w' v xs := by
  obtain ⟨a, n, c, h1, h2, h3, h4⟩ := h
  exact ⟨a, n, c, h1, h2, h3.below hb, h4⟩
theorem SlI.keep {w w' : World} {v : Value} {xs : List Int} (h : SlI w v xs) (hk : ∀ p u, w.cell? p = some u → w'.cell? p = some u) : SlI w' v xs := by
  obtain ⟨a, n, c, h1, h2, h3, h4⟩ := h
  exact ⟨a, n, c, h1, h2, h3.keep hk, h4⟩
/-- the row without its last number -/
theorem Own.pop {e : TypeId} {base : Nat} {w : World} {g m c : Nat} {xs : List Int} (h : Own e base w (.slice (some ⟨g, 0, none⟩) (m + 1) c) xs) : Own e base w (.slice (some ⟨g, 0, none⟩) m c) xs.dropLast := by
  have hl := h.get.1
  have hd : xs.dropLast.length = m := by simp; omega
  rcases h.2 with ⟨h1, _⟩ | ⟨g', cap, cur, h1, h2, h3, h4, h5, h6, h7⟩
  · simp at h1
  · simp only [Value.slice.injEq, Option.some.injEq, Addr.mk.injEq] at h1
    obtain ⟨⟨rfl, _, _⟩, _, rfl⟩ := h1
    refine ⟨by simp, .inr ⟨g, c, cur, by rw [hd], h2, h3, by omega, h5, h6, ?_⟩⟩
    rw [hl] at h7
    have : (List.take ((m + 1) * 1) cur.toList).take (m * 1) = (xs.map (Value.int .i64)).take (m * 1) := by rw [h7]
    rw [List.take_take] at this
    rw [hd]
    rw [show min (m * 1) ((m + 1) * 1) = m * 1 from by omega] at this
    rw [this, Nat.mul_one, ← List.map_take, List.dropLast_eq_take, hl]
    rfl

def BackPost (xs ys : List Int) (x : Int) (b : Bool) (w : World) (e : Ending) (w' : World) : Prop :=
  ∃ v1 v2, e = .returned (.tuple #[.agg #[v1, v2], .int .i64 x, .bool b]) ∧ SlI w' v1 xs ∧ SlI w' v2 ys ∧ Below w.heap.size w w'

set_option maxRecDepth 100000 in
theorem undo_back (a1 a2 : Option Addr) (m c1 n2 c2 : Nat) (xs ys : List Int) (now : Int) (w : World) (h1 : Ints w a1 xs) (h2 : Ints w a2 ys) (hn1 : xs.length = m + 1) (hn2 : ys.length = n2) (hl1 : m + 1 ≤ 17592186044416) (hl2 : n2 < 17592186044416)
    (z1 : a1 = none → m + 1 = 0) (z2 : a2 = none → n2 = 0) :
    Calls Try.prog 23 #[.agg #[.slice a1 (m + 1) c1, .slice a2 n2 c2], .int .i64 now] w (BackPost xs.dropLast (ys ++ [now]) (ix xs m) true w) := by
  have HN1 := Lib.hid hn1; have HN2 := Lib.hid hn2; clear hn1 hn2
  have Z1 := Lib.hid z1; have Z2 := Lib.hid z2; clear z1 z2
  have hb2 := below2 w (.cells #[.slice a1 (m + 1) c1, .slice a2 n2 c2] 35) (.cells #[.slice none 0 0, .slice none 0 0] 35)
  have hB1 := Blk.new (w.alloc (.cells #[.slice a1 (m + 1) c1, .slice a2 n2 c2] 35)) #[.slice none 0 0, .slice none 0 0] 35
  rw [World.size_alloc] at hB1
  go_enter Try.func23, Try.ntmps23
  go_wp2_with fail
  refine (undo_copied a1 a2 (m + 1) c1 n2 c2 xs ys _ (h1.below hb2) (h2.below hb2) HN1.out HN2.out hl1 (by omega) Z1.out Z2.out).mono ?_
  rintro e w1 ⟨v1, v2, rfl, o1, o2, hsep, hbel1⟩
  have hB1' := hB1.below hbel1 hB1.lt
  have hb1 := below_then hb2 hb2.size hbel1
  have hsz1 := hbel1.size
  rw [World.size_alloc, World.size_alloc] at o1 o2 hsz1
  obtain ⟨g, k, c3, rfl, hk1, hk2, hkc, hc3, hg1, hg2, hI⟩ := o1.full (by rw [HN1.out]; omega)
  rw [HN1.out] at hk1 hk2
  obtain rfl : k = m + 1 := by omega
  obtain ⟨a3, n3, m3, rfl⟩ := o2.form
  go_wp2_with fail
  obtain ⟨b', o', hbo, hcell⟩ := hI.at (k := m) (by rw [HN1.out]; omega)
  simp only [Option.some.injEq, Addr.mk.injEq] at hbo
  obtain ⟨rfl, rfl, -⟩ := hbo
  have hcm := hcell m (by rw [HN1.out]; omega)
  rw [Nat.zero_add] at hcm
  clear hcell
  refine (undo_newest g m c3 (ix xs m) _ (by rw [World.cell?_alloc_past _ _ _ hg2]; exact hcm) hkc hc3).mono ?_
  rintro e w5 ⟨rfl, q, hq⟩
  have hB7 : Blk w5 w1.heap.size #[.slice (some ⟨g, 0, none⟩) (m + 1) c3, .slice a3 n3 m3] 35 := by rw [hq]; exact (Blk.new _ _ _).drewN q
  have hb5 : Below w.heap.size w w5 := by rw [hq]; exact below_drewN (hb1.alloc hb1.size _) q
  have o15 : Own 3 (w.heap.size + 1 + 1) w5 (.slice (some ⟨g, 0, none⟩) (m + 1) c3) xs := by rw [hq]; exact (o1.alloc _).drewN q
  have o25 : Own 3 (w.heap.size + 1 + 1) w5 (.slice a3 n3 m3) ys := by rw [hq]; exact (o2.alloc _).drewN q
  have hB15 : Blk w5 (w.heap.size + 1) #[.slice none 0 0, .slice none 0 0] 35 := by rw [hq]; exact (hB1'.alloc _).drewN q
  have hne1 := o1.neOf (Nat.le_refl w1.heap.size)
  have hne2 := o2.neOf (Nat.le_refl w1.heap.size)
  have HE1 := Lib.hid hne1; have HE2 := Lib.hid hne2; clear hne1 hne2
  have hsz5 : w1.heap.size < w5.heap.size := hB7.lt
  clear hq
  obtain ⟨c70, c71, f70, f71⟩ := hB7.two
  go_wp2_with (at_builtin; refine app1 rfl _ _ rfl (w.heap.size + 1 + 1) (.slice a3 n3 m3) _ _ _ rfl rfl ((o25.other HE2.out _).alloc _) (cell_newAt _ _ _ (size_setCell _ _ _).symm) (by rw [HN2.out]; exact hl2) (size_alloc_le (by rw [size_setCell]; omega) _) ?_; intro v4 w4 hown4 hgrow4; obtain ⟨a4, n4, m4, rfl⟩ := hown4.form; have hC7 := ((hB7.set 0 (.slice (some ⟨g, 0, none⟩) m c3)).alloc _).grown hgrow4 HE2.out; have hC1 := ((hB15.other (a := ⟨w1.heap.size, 0, none⟩) (by simp; omega) _).alloc _).grown hgrow4 (o25.ne (by omega)); obtain ⟨d0, d1, d2, d3⟩ := Blk.two hC7; obtain ⟨x0, x1, x2, x3⟩ := hC1.two; have hL7 := hC7.lt; have hL1 := hC1.lt)
  have hD1 := ((hC1.other (a := ⟨w1.heap.size, 1, none⟩) (by simp; omega) (.slice a4 n4 m4)).set 0 (.slice (some ⟨g, 0, none⟩) m c3)).set 1 (.slice a4 n4 m4)
  obtain ⟨y0, y1, -, -⟩ := Blk.two hD1
  refine bodyPost_ret (v := .tuple #[.agg #[.slice (some ⟨g, 0, none⟩) m c3, .slice a4 n4 m4], .int .i64 (ix xs m), .bool true]) (by simp [results, Try.results23, go_sem, y0, y1]) rfl ?_
  have hs4 := hgrow4.size
  rw [World.size_alloc, size_setCell] at hs4
  have hb4 := ((hb5.setCell (p := ⟨w1.heap.size, 0, none⟩) (by simp; omega) (.slice (some ⟨g, 0, none⟩) m c3)).alloc (by rw [size_setCell]; omega) (.cells #[.int .i64 now] 3)).grown hgrow4 (by rw [World.size_alloc, size_setCell]; omega) (fun k hk => by have := o25.row k hk; omega)
  refine ⟨_, _, rfl, ?_, ?_, ((hb4.setCell (by simp; omega) _).setCell (by simp) _).setCell (by simp) _⟩
  · exact ((((((o15.pop.other HE1.out _).alloc _).grown hgrow4 hsep).other HE1.out _).setCell (by simp) _).setCell (by simp) _).sl
  · exact (((hown4.other (hown4.neBlk hC7 (by decide)) _).setCell (by simp) _).setCell (by simp) _).sl

end Go.Proofs.Ythnjaichbejifaa
