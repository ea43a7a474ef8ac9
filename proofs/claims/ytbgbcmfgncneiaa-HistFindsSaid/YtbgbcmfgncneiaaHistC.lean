/- Contract of fairref.HistFind. -/
import Derived.Test.YtbgbcmfgncneiaaHist9
import Derived.Test.YtbgbcmfgncneiaaHistB
import Derived.Test.YtbgbcmfgncneiaaHistA
namespace Go.Proofs.Ytbgbcmfgncneiaa
open Go.RowKit
set_option linter.unusedVariables false
set_option linter.unusedSimpArgs false

/-- the best line ahead of k -/
def BestP (F : Nat → Bool) (o : Bool) (W : Int) (k : Nat) (b : Int) : Prop := (b = -1 ∧ NoFind F o W k) ∨ ∃ m : Nat, b = m ∧ Found F o W k m
theorem BestP.zero (F : Nat → Bool) (o : Bool) (W : Int) : BestP F o W 0 (-1) := .inl ⟨rfl, fun j hj => by omega⟩
theorem BestP.miss {F : Nat → Bool} {o : Bool} {W b : Int} {k : Nat} (h : BestP F o W k b) (hF : sideB o W k → F k = false) : BestP F o W (k + 1) b := by
  rcases h with ⟨h1, h2⟩ | ⟨m, h1, h2⟩
  · refine .inl ⟨h1, fun j hj hs => ?_⟩
    rcases Nat.lt_succ_iff_lt_or_eq.1 hj with h | rfl
    · exact h2 j h hs
    · exact hF hs
  · refine .inr ⟨m, h1, Nat.lt_succ_of_lt h2.lt, h2.hit, h2.side, fun j hj hs hb => ?_⟩
    rcases Nat.lt_succ_iff_lt_or_eq.1 hj with h | rfl
    · exact h2.first j h hs hb
    · exact hF hs
theorem BestP.older {F : Nat → Bool} {W b : Int} {k : Nat} (h : BestP F true W k b) (hF : F k = true) (hs : (k : Int) < W) : BestP F true W (k + 1) k :=
  .inr ⟨k, rfl, Nat.lt_succ_self _, hF, by simpa [sideB] using hs, fun j hj _ hb => by simp only [if_true] at hb; omega⟩
theorem BestP.newer {F : Nat → Bool} {W b : Int} {k : Nat} (h : BestP F false W k b) (hF : F k = true) (hs : W < (k : Int)) (hb : b < 0) : BestP F false W (k + 1) k := by
  rcases h with ⟨h1, h2⟩ | ⟨m, h1, h2⟩
  · exact .inr ⟨k, rfl, Nat.lt_succ_self _, hF, by simpa [sideB] using hs, fun j hj hs hb => h2 j (by simpa using hb) hs⟩
  · omega
theorem BestP.kept {F : Nat → Bool} {W b : Int} {k : Nat} (h : BestP F false W k b) (hb : 0 ≤ b) : BestP F false W (k + 1) b := by
  rcases h with ⟨h1, h2⟩ | ⟨m, h1, h2⟩
  · omega
  · exact .inr ⟨m, h1, Nat.lt_succ_of_lt h2.lt, h2.hit, h2.side, fun j hj hs hb => h2.first j (by have := h2.lt; simp only [Bool.false_eq_true, if_false] at hb; omega) hs hb⟩

/-- what HistFind answers of a right history and a word that is not empty -/
def RFindPost (P : Nat → Prop) (h : Hi) (xs q : List Int) (ol : Bool) (w : World) (e : Ending) (w' : World) : Prop :=
  (∃ k, Found (fun j => fitsB q (rx h.ls j)) ol h.wher h.ls.length k ∧ HPost P (setPat (toH h xs k) q ol) (toL h xs k) 0 w e w') ∨
  (NoFind (fun j => fitsB q (rx h.ls j)) ol h.wher h.ls.length ∧ HPost P hi0 [] 5 w e w')

set_option maxRecDepth 100000 in
set_option maxHeartbeats 4000000 in
theorem ref_Find_bad (lv : Value) (most wher : Int) (sv pv : Value) (older : Bool) (ls : List (List Int)) (M W : Int) (scr pat : List Int) (O : Bool) (a : Option Addr) (nn c : Nat) (a2 : Option Addr) (np cq : Nat) (ol : Bool) (P : Nat → Prop) (w : World) (r : HiP P w lv most wher sv pv older ⟨ls, M, W, scr, pat, O⟩) (E : Int) (hE : hiE ⟨ls, M, W, scr, pat, O⟩ = E) (h0 : E ≠ 0) :
    Calls Try.prog 71 #[.agg (hiC lv most wher sv pv older), .slice a nn c, .slice a2 np cq, .bool ol] w (HPost P hi0 [] E w) := by
  have HE := Lib.hid hE
  have HR0 := Lib.hid r.hir
  have h0' : (E != 0) = true := by simpa using h0
  clear hE h0
  obtain ⟨⟨vs, hvsP, hlsP⟩, h1, h2, hscr, hpat, h3⟩ := r
  simp only at hlsP h1 h2 h3 hscr hpat
  have hvs := hvsP.vs
  have hls := hlsP.lists
  clear hvsP hlsP
  obtain rfl : M = most := h1.symm
  obtain rfl : W = wher := h2.symm
  obtain rfl : O = older := h3.symm
  obtain ⟨la, ln, lc, rfl, hl1, hl2, hl3, hl4, hl5⟩ := hvs
  obtain ⟨sa, sn, sc, rfl, hs1, hs2, hs3, hs4, hs5, -⟩ := hscr
  have HPS := Lib.hid hpat
  obtain ⟨pa, pn, pc, rfl, hp1, hp2, hp3, hp4, hp5, -⟩ := hpat
  have hll : ls.length = ln := by rw [← hls.len]; exact hl1
  have HRT := Lib.hid (fun W' r => ref_histErr (.slice la ln lc) M W (.slice sa sn sc) (.slice pa pn pc) O ⟨ls, M, W, scr, pat, O⟩ W' r)
  unfold hiC at *
  have hB := (Blk.new w #[.slice la ln lc, .int .i64 M, .int .i64 W, .slice sa sn sc, .slice pa pn pc, .bool O] 90).alloc (.cells #[.slice none 0 0, .int .i64 0, .int .i64 0, .slice none 0 0, .slice none 0 0, .bool false] 90)
  have hR := Blk.new (w.alloc (.cells #[.slice la ln lc, .int .i64 M, .int .i64 W, .slice sa sn sc, .slice pa pn pc, .bool O] 90)) #[.slice none 0 0, .int .i64 0, .int .i64 0, .slice none 0 0, .slice none 0 0, .bool false] 90
  rw [World.size_alloc] at hR
  have hacc := below2 w (.cells #[.slice la ln lc, .int .i64 M, .int .i64 W, .slice sa sn sc, .slice pa pn pc, .bool O] 90) (.cells #[.slice none 0 0, .int .i64 0, .int .i64 0, .slice none 0 0, .slice none 0 0, .bool false] 90)
  have hsz : w.heap.size + 2 ≤ ((w.alloc (.cells #[.slice la ln lc, .int .i64 M, .int .i64 W, .slice sa sn sc, .slice pa pn pc, .bool O] 90)).alloc (.cells #[.slice none 0 0, .int .i64 0, .int .i64 0, .slice none 0 0, .slice none 0 0, .bool false] 90)).heap.size := by simp
  have HR1 := Lib.hid (HR0.out.below hacc)
  clear hs1 hp1 hl1 hl5 hs5 hp5 hll hls HR0
  go_enter Try.func71, Try.ntmps71
  go_upto_region 1 with fail
  change Code.wp _ _ _ _ ((w.alloc (.cells #[.slice la ln lc, .int .i64 M, .int .i64 W, .slice sa sn sc, .slice pa pn pc, .bool O] 90)).alloc (.cells #[.slice none 0 0, .int .i64 0, .int .i64 0, .slice none 0 0, .slice none 0 0, .bool false] 90))
  generalize ((w.alloc (.cells #[.slice la ln lc, .int .i64 M, .int .i64 W, .slice sa sn sc, .slice pa pn pc, .bool O] 90)).alloc (.cells #[.slice none 0 0, .int .i64 0, .int .i64 0, .slice none 0 0, .slice none 0 0, .bool false] 90)) = w1 at *
  obtain ⟨c0, c1, c2, c3, c4, c5⟩ := hB.six
  go_wp2_with ((go_at_call 61); refine (HRT.out _ HR1.out).mono ?_; rintro e w2 ⟨rfl, hb2⟩; rw [HE.out]; have hB2 := hB.below hb2 hB.lt; obtain ⟨d0, d1, d2, d3, d4, d5⟩ := hB2.six; have hR2 := hR.below hb2 hR.lt; obtain ⟨p0, p1, p2, p3, p4, p5⟩ := hR2.six; obtain ⟨t0, t1, t2, t3, t4, t5⟩ := hR2.sixf; have hacc2 := below_then hacc (by omega) hb2; have hlt2 := hB2.lt; have hz2 := hb2.size)
  obtain ⟨y0, y1, y2, y3, y4, y5⟩ := (hR2.six' (.slice none 0 0) (.int .i64 0) (.int .i64 0) (.slice none 0 0) (.slice none 0 0) (.bool false)).six
  refine bodyPost_ret (v := .tuple #[.agg (hiC (.slice none 0 0) 0 0 (.slice none 0 0) (.slice none 0 0) false), .slice none 0 0, .int .i64 (E)]) (by simp [results, Try.results71, go_sem, y0, y1, y2, y3, y4, y5, hiC]) rfl ?_
  exact ⟨_, _, _, _, rfl, hip0 _ _, SlP.nil _ _, below6 hacc2 (Nat.le_succ _)⟩

set_option maxRecDepth 100000 in
set_option maxHeartbeats 4000000 in
theorem ref_Find_large (lv : Value) (most wher : Int) (sv pv : Value) (older : Bool) (ls : List (List Int)) (M W : Int) (scr pat : List Int) (O : Bool) (a : Option Addr) (nn c : Nat) (a2 : Option Addr) (np cq : Nat) (ol : Bool) (P : Nat → Prop) (w : World) (r : HiP P w lv most wher sv pv older ⟨ls, M, W, scr, pat, O⟩) (hE : hiE ⟨ls, M, W, scr, pat, O⟩ = 0) (h0 : 200 < nn ∨ 200 < np) :
    Calls Try.prog 71 #[.agg (hiC lv most wher sv pv older), .slice a nn c, .slice a2 np cq, .bool ol] w (HPost P hi0 [] 2 w) := by
  have HE := Lib.hid hE
  have HR0 := Lib.hid r.hir
  clear hE
  have hcs : 200 < nn ∨ (nn ≤ 200 ∧ 200 < np) := by omega
  clear h0
  obtain ⟨⟨vs, hvsP, hlsP⟩, h1, h2, hscr, hpat, h3⟩ := r
  simp only at hlsP h1 h2 h3 hscr hpat
  have hvs := hvsP.vs
  have hls := hlsP.lists
  clear hvsP hlsP
  obtain rfl : M = most := h1.symm
  obtain rfl : W = wher := h2.symm
  obtain rfl : O = older := h3.symm
  obtain ⟨la, ln, lc, rfl, hl1, hl2, hl3, hl4, hl5⟩ := hvs
  obtain ⟨sa, sn, sc, rfl, hs1, hs2, hs3, hs4, hs5, -⟩ := hscr
  have HPS := Lib.hid hpat
  obtain ⟨pa, pn, pc, rfl, hp1, hp2, hp3, hp4, hp5, -⟩ := hpat
  have hll : ls.length = ln := by rw [← hls.len]; exact hl1
  have HRT := Lib.hid (fun W' r => ref_histErr (.slice la ln lc) M W (.slice sa sn sc) (.slice pa pn pc) O ⟨ls, M, W, scr, pat, O⟩ W' r)
  unfold hiC at *
  have hB := (Blk.new w #[.slice la ln lc, .int .i64 M, .int .i64 W, .slice sa sn sc, .slice pa pn pc, .bool O] 90).alloc (.cells #[.slice none 0 0, .int .i64 0, .int .i64 0, .slice none 0 0, .slice none 0 0, .bool false] 90)
  have hR := Blk.new (w.alloc (.cells #[.slice la ln lc, .int .i64 M, .int .i64 W, .slice sa sn sc, .slice pa pn pc, .bool O] 90)) #[.slice none 0 0, .int .i64 0, .int .i64 0, .slice none 0 0, .slice none 0 0, .bool false] 90
  rw [World.size_alloc] at hR
  have hacc := below2 w (.cells #[.slice la ln lc, .int .i64 M, .int .i64 W, .slice sa sn sc, .slice pa pn pc, .bool O] 90) (.cells #[.slice none 0 0, .int .i64 0, .int .i64 0, .slice none 0 0, .slice none 0 0, .bool false] 90)
  have hsz : w.heap.size + 2 ≤ ((w.alloc (.cells #[.slice la ln lc, .int .i64 M, .int .i64 W, .slice sa sn sc, .slice pa pn pc, .bool O] 90)).alloc (.cells #[.slice none 0 0, .int .i64 0, .int .i64 0, .slice none 0 0, .slice none 0 0, .bool false] 90)).heap.size := by simp
  have HR1 := Lib.hid (HR0.out.below hacc)
  clear hs1 hp1 hl1 hl5 hs5 hp5 hll hls HR0
  rcases hcs with h0 | ⟨h0, h1⟩
  all_goals
    go_enter Try.func71, Try.ntmps71
    go_upto_region 1 with fail
    change Code.wp _ _ _ _ ((w.alloc (.cells #[.slice la ln lc, .int .i64 M, .int .i64 W, .slice sa sn sc, .slice pa pn pc, .bool O] 90)).alloc (.cells #[.slice none 0 0, .int .i64 0, .int .i64 0, .slice none 0 0, .slice none 0 0, .bool false] 90))
    generalize ((w.alloc (.cells #[.slice la ln lc, .int .i64 M, .int .i64 W, .slice sa sn sc, .slice pa pn pc, .bool O] 90)).alloc (.cells #[.slice none 0 0, .int .i64 0, .int .i64 0, .slice none 0 0, .slice none 0 0, .bool false] 90)) = w1 at *
    obtain ⟨c0, c1, c2, c3, c4, c5⟩ := hB.six
    go_wp2_with ((go_at_call 61); refine (HRT.out _ HR1.out).mono ?_; rintro e w2 ⟨rfl, hb2⟩; rw [HE.out]; have hB2 := hB.below hb2 hB.lt; obtain ⟨d0, d1, d2, d3, d4, d5⟩ := hB2.six; have hR2 := hR.below hb2 hR.lt; obtain ⟨p0, p1, p2, p3, p4, p5⟩ := hR2.six; obtain ⟨t0, t1, t2, t3, t4, t5⟩ := hR2.sixf; have hacc2 := below_then hacc (by omega) hb2; have hlt2 := hB2.lt; have hz2 := hb2.size)
    obtain ⟨y0, y1, y2, y3, y4, y5⟩ := (hR2.six' (.slice none 0 0) (.int .i64 0) (.int .i64 0) (.slice none 0 0) (.slice none 0 0) (.bool false)).six
    refine bodyPost_ret (v := .tuple #[.agg (hiC (.slice none 0 0) 0 0 (.slice none 0 0) (.slice none 0 0) false), .slice none 0 0, .int .i64 (2)]) (by simp [results, Try.results71, go_sem, y0, y1, y2, y3, y4, y5, hiC]) rfl ?_
    exact ⟨_, _, _, _, rfl, hip0 _ _, SlP.nil _ _, below6 hacc2 (Nat.le_succ _)⟩

set_option maxRecDepth 100000 in
set_option maxHeartbeats 4000000 in
theorem ref_Find_none (lv : Value) (most wher : Int) (sv pv : Value) (older : Bool) (ls : List (List Int)) (M W : Int) (scr pat : List Int) (O : Bool) (a : Option Addr) (nn c : Nat) (a2 : Option Addr) (np cq : Nat) (ol : Bool) (P : Nat → Prop) (w : World) (r : HiP P w lv most wher sv pv older ⟨ls, M, W, scr, pat, O⟩) (hE : hiE ⟨ls, M, W, scr, pat, O⟩ = 0) (hn : nn ≤ 200) (h0 : np = 0) (hp : pat = []) :
    Calls Try.prog 71 #[.agg (hiC lv most wher sv pv older), .slice a nn c, .slice a2 np cq, .bool ol] w (HPost P hi0 [] 6 w) := by
  have HE := Lib.hid hE
  have HR0 := Lib.hid r.hir
  subst h0
  clear hE
  obtain ⟨⟨vs, hvsP, hlsP⟩, h1, h2, hscr, hpat, h3⟩ := r
  simp only at hlsP h1 h2 h3 hscr hpat
  have hvs := hvsP.vs
  have hls := hlsP.lists
  clear hvsP hlsP
  obtain rfl : M = most := h1.symm
  obtain rfl : W = wher := h2.symm
  obtain rfl : O = older := h3.symm
  obtain ⟨la, ln, lc, rfl, hl1, hl2, hl3, hl4, hl5⟩ := hvs
  obtain ⟨sa, sn, sc, rfl, hs1, hs2, hs3, hs4, hs5, -⟩ := hscr
  have HPS := Lib.hid hpat
  obtain ⟨pa, pn, pc, rfl, hp1, hp2, hp3, hp4, hp5, -⟩ := hpat
  have hll : ls.length = ln := by rw [← hls.len]; exact hl1
  have HRT := Lib.hid (fun W' r => ref_histErr (.slice la ln lc) M W (.slice sa sn sc) (.slice pa pn pc) O ⟨ls, M, W, scr, pat, O⟩ W' r)
  have hp0 : ((pn : Int) == 0) = true := by rw [← hp1, hp]; rfl
  clear hp
  unfold hiC at *
  have hB := (Blk.new w #[.slice la ln lc, .int .i64 M, .int .i64 W, .slice sa sn sc, .slice pa pn pc, .bool O] 90).alloc (.cells #[.slice none 0 0, .int .i64 0, .int .i64 0, .slice none 0 0, .slice none 0 0, .bool false] 90)
  have hR := Blk.new (w.alloc (.cells #[.slice la ln lc, .int .i64 M, .int .i64 W, .slice sa sn sc, .slice pa pn pc, .bool O] 90)) #[.slice none 0 0, .int .i64 0, .int .i64 0, .slice none 0 0, .slice none 0 0, .bool false] 90
  rw [World.size_alloc] at hR
  have hacc := below2 w (.cells #[.slice la ln lc, .int .i64 M, .int .i64 W, .slice sa sn sc, .slice pa pn pc, .bool O] 90) (.cells #[.slice none 0 0, .int .i64 0, .int .i64 0, .slice none 0 0, .slice none 0 0, .bool false] 90)
  have hsz : w.heap.size + 2 ≤ ((w.alloc (.cells #[.slice la ln lc, .int .i64 M, .int .i64 W, .slice sa sn sc, .slice pa pn pc, .bool O] 90)).alloc (.cells #[.slice none 0 0, .int .i64 0, .int .i64 0, .slice none 0 0, .slice none 0 0, .bool false] 90)).heap.size := by simp
  have HR1 := Lib.hid (HR0.out.below hacc)
  clear hs1 hp1 hl1 hl5 hs5 hp5 hll hls HR0
  go_enter Try.func71, Try.ntmps71
  go_upto_region 1 with fail
  change Code.wp _ _ _ _ ((w.alloc (.cells #[.slice la ln lc, .int .i64 M, .int .i64 W, .slice sa sn sc, .slice pa pn pc, .bool O] 90)).alloc (.cells #[.slice none 0 0, .int .i64 0, .int .i64 0, .slice none 0 0, .slice none 0 0, .bool false] 90))
  generalize ((w.alloc (.cells #[.slice la ln lc, .int .i64 M, .int .i64 W, .slice sa sn sc, .slice pa pn pc, .bool O] 90)).alloc (.cells #[.slice none 0 0, .int .i64 0, .int .i64 0, .slice none 0 0, .slice none 0 0, .bool false] 90)) = w1 at *
  obtain ⟨c0, c1, c2, c3, c4, c5⟩ := hB.six
  go_wp2_with ((go_at_call 61); refine (HRT.out _ HR1.out).mono ?_; rintro e w2 ⟨rfl, hb2⟩; rw [HE.out]; have hB2 := hB.below hb2 hB.lt; obtain ⟨d0, d1, d2, d3, d4, d5⟩ := hB2.six; have hR2 := hR.below hb2 hR.lt; obtain ⟨p0, p1, p2, p3, p4, p5⟩ := hR2.six; obtain ⟨t0, t1, t2, t3, t4, t5⟩ := hR2.sixf; have hacc2 := below_then hacc (by omega) hb2; have hlt2 := hB2.lt; have hz2 := hb2.size)
  obtain ⟨y0, y1, y2, y3, y4, y5⟩ := (hR2.six' (.slice none 0 0) (.int .i64 0) (.int .i64 0) (.slice none 0 0) (.slice none 0 0) (.bool false)).six
  refine bodyPost_ret (v := .tuple #[.agg (hiC (.slice none 0 0) 0 0 (.slice none 0 0) (.slice none 0 0) false), .slice none 0 0, .int .i64 (6)]) (by simp [results, Try.results71, go_sem, y0, y1, y2, y3, y4, y5, hiC]) rfl ?_
  exact ⟨_, _, _, _, rfl, hip0 _ _, SlP.nil _ _, below6 hacc2 (Nat.le_succ _)⟩

end Go.Proofs.Ytbgbcmfgncneiaa
