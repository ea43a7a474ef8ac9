/- Contract of hist.Find. -/
import Derived.Test.YtbgbcmfgncneiaaHistF
import Derived.Test.YtbgbcmfgncneiaaHist4
namespace Go.Proofs.Ytbgbcmfgncneiaa
open Go.RowKit
set_option linter.unusedVariables false
set_option linter.unusedSimpArgs false

def setPat (h : Hi) (q : List Int) (ol : Bool) : Hi := ⟨h.ls, h.most, h.wher, h.scr, q, ol⟩
/-- what Find answers of a right history and a word that is not empty -/
def FindPost (h : Hi) (xs q : List Int) (ol : Bool) (w : World) (e : Ending) (w' : World) : Prop :=
  (∃ k, Found (fun j => fitsB q (rx h.ls j)) ol h.wher h.ls.length k ∧ HPost (fun k => w.heap.size ≤ k) (setPat (toH h xs k) q ol) (toL h xs k) 0 w e w') ∨
  (NoFind (fun j => fitsB q (rx h.ls j)) ol h.wher h.ls.length ∧ HPost (fun k => w.heap.size ≤ k) hi0 [] 5 w e w')

set_option maxRecDepth 100000 in
set_option maxHeartbeats 4000000 in
theorem hist_Find_bad (lv : Value) (most wher : Int) (sv pv : Value) (older : Bool) (ls : List (List Int)) (M W : Int) (scr pat : List Int) (O : Bool) (a : Option Addr) (nn c : Nat) (a2 : Option Addr) (np cq : Nat) (ol : Bool) (w : World) (r : HiR w lv most wher sv pv older ⟨ls, M, W, scr, pat, O⟩) (E : Int) (hE : rightE ⟨ls, M, W, scr, pat, O⟩ nn 0 = E) (h0 : E ≠ 0) (P : Nat → Prop) :
    Calls Try.prog 70 #[.agg (hiC lv most wher sv pv older), .slice a nn c, .slice a2 np cq, .bool ol] w (HPost P hi0 [] E w) := by
  have HE := Lib.hid hE
  have HR0 := Lib.hid r
  have h0' : (E != 0) = true := by simpa using h0
  clear hE h0
  obtain ⟨⟨vs, hvs, hls⟩, h1, h2, hscr, hpat, h3⟩ := r
  simp only at hls h1 h2 h3 hscr hpat
  obtain rfl : M = most := h1.symm
  obtain rfl : W = wher := h2.symm
  obtain rfl : O = older := h3.symm
  obtain ⟨la, ln, lc, rfl, hl1, hl2, hl3, hl4, hl5⟩ := hvs
  obtain ⟨sa, sn, sc, rfl, hs1, hs2, hs3, hs4, hs5⟩ := hscr
  obtain ⟨pa, pn, pc, rfl, hp1, hp2, hp3, hp4, hp5⟩ := hpat
  have hll : ls.length = ln := by rw [← hls.len]; exact hl1
  have HRT := Lib.hid (fun W' r => hist_right (.slice la ln lc) M W (.slice sa sn sc) (.slice pa pn pc) O ⟨ls, M, W, scr, pat, O⟩ a nn c 0 W' r)
  unfold hiC at *
  have hB := (Blk.new w #[.slice la ln lc, .int .i64 M, .int .i64 W, .slice sa sn sc, .slice pa pn pc, .bool O] 90).alloc (.cells #[.slice none 0 0, .int .i64 0, .int .i64 0, .slice none 0 0, .slice none 0 0, .bool false] 90)
  have hR := Blk.new (w.alloc (.cells #[.slice la ln lc, .int .i64 M, .int .i64 W, .slice sa sn sc, .slice pa pn pc, .bool O] 90)) #[.slice none 0 0, .int .i64 0, .int .i64 0, .slice none 0 0, .slice none 0 0, .bool false] 90
  rw [World.size_alloc] at hR
  have hacc := below2 w (.cells #[.slice la ln lc, .int .i64 M, .int .i64 W, .slice sa sn sc, .slice pa pn pc, .bool O] 90) (.cells #[.slice none 0 0, .int .i64 0, .int .i64 0, .slice none 0 0, .slice none 0 0, .bool false] 90)
  have hsz : w.heap.size + 2 ≤ ((w.alloc (.cells #[.slice la ln lc, .int .i64 M, .int .i64 W, .slice sa sn sc, .slice pa pn pc, .bool O] 90)).alloc (.cells #[.slice none 0 0, .int .i64 0, .int .i64 0, .slice none 0 0, .slice none 0 0, .bool false] 90)).heap.size := by simp
  have HR1 := Lib.hid (HR0.out.below hacc)
  clear hs1 hp1 hl1 hl5 hs5 hp5 hll hls HR0
  go_enter Try.func70, Try.ntmps70
  go_upto_region 1 with fail
  change Code.wp _ _ _ _ ((w.alloc (.cells #[.slice la ln lc, .int .i64 M, .int .i64 W, .slice sa sn sc, .slice pa pn pc, .bool O] 90)).alloc (.cells #[.slice none 0 0, .int .i64 0, .int .i64 0, .slice none 0 0, .slice none 0 0, .bool false] 90))
  generalize ((w.alloc (.cells #[.slice la ln lc, .int .i64 M, .int .i64 W, .slice sa sn sc, .slice pa pn pc, .bool O] 90)).alloc (.cells #[.slice none 0 0, .int .i64 0, .int .i64 0, .slice none 0 0, .slice none 0 0, .bool false] 90)) = w1 at *
  obtain ⟨c0, c1, c2, c3, c4, c5⟩ := hB.six
  go_wp2_with ((go_at_call 130); refine (HRT.out _ HR1.out).mono ?_; rintro e w2 ⟨rfl, hb2⟩; rw [HE.out]; have hB2 := hB.below hb2 hB.lt; obtain ⟨d0, d1, d2, d3, d4, d5⟩ := hB2.six; have hR2 := hR.below hb2 hR.lt; obtain ⟨p0, p1, p2, p3, p4, p5⟩ := hR2.six; obtain ⟨t0, t1, t2, t3, t4, t5⟩ := hR2.sixf; have hacc2 := below_then hacc (by omega) hb2; have hlt2 := hB2.lt; have hz2 := hb2.size)
  have hG := ((((((hR2.set 0 (.slice none 0 0)).set 1 (.int .i64 0)).set 2 (.int .i64 0)).set 3 (.slice none 0 0)).set 4 (.slice none 0 0)).set 5 (.bool false))
  simp only [List.setIfInBounds_toArray, List.set_cons_zero, List.set_cons_succ] at hG
  obtain ⟨y0, y1, y2, y3, y4, y5⟩ := hG.six
  refine bodyPost_ret (v := .tuple #[.agg (hiC (.slice none 0 0) 0 0 (.slice none 0 0) (.slice none 0 0) false), .slice none 0 0, .int .i64 (E)]) (by simp [results, Try.results70, go_sem, y0, y1, y2, y3, y4, y5, hiC]) rfl ?_
  exact ⟨_, _, _, _, rfl, hip0 _ _, SlP.nil _ _, ((((((hacc2.setCell (p := ⟨w.heap.size + 1, 0, none⟩) (Nat.le_succ _) _).setCell (p := ⟨w.heap.size + 1, 1, none⟩) (Nat.le_succ _) _).setCell (p := ⟨w.heap.size + 1, 2, none⟩) (Nat.le_succ _) _).setCell (p := ⟨w.heap.size + 1, 3, none⟩) (Nat.le_succ _) _).setCell (p := ⟨w.heap.size + 1, 4, none⟩) (Nat.le_succ _) _).setCell (p := ⟨w.heap.size + 1, 5, none⟩) (Nat.le_succ _) _)⟩

set_option maxRecDepth 100000 in
set_option maxHeartbeats 4000000 in
theorem hist_Find_large (lv : Value) (most wher : Int) (sv pv : Value) (older : Bool) (ls : List (List Int)) (M W : Int) (scr pat : List Int) (O : Bool) (a : Option Addr) (nn c : Nat) (a2 : Option Addr) (np cq : Nat) (ol : Bool) (w : World) (r : HiR w lv most wher sv pv older ⟨ls, M, W, scr, pat, O⟩) (hE : rightE ⟨ls, M, W, scr, pat, O⟩ nn 0 = 0) (h0 : 200 < np) (P : Nat → Prop) :
    Calls Try.prog 70 #[.agg (hiC lv most wher sv pv older), .slice a nn c, .slice a2 np cq, .bool ol] w (HPost P hi0 [] 2 w) := by
  have HE := Lib.hid hE
  have HR0 := Lib.hid r
  clear hE
  obtain ⟨⟨vs, hvs, hls⟩, h1, h2, hscr, hpat, h3⟩ := r
  simp only at hls h1 h2 h3 hscr hpat
  obtain rfl : M = most := h1.symm
  obtain rfl : W = wher := h2.symm
  obtain rfl : O = older := h3.symm
  obtain ⟨la, ln, lc, rfl, hl1, hl2, hl3, hl4, hl5⟩ := hvs
  obtain ⟨sa, sn, sc, rfl, hs1, hs2, hs3, hs4, hs5⟩ := hscr
  obtain ⟨pa, pn, pc, rfl, hp1, hp2, hp3, hp4, hp5⟩ := hpat
  have hll : ls.length = ln := by rw [← hls.len]; exact hl1
  have HRT := Lib.hid (fun W' r => hist_right (.slice la ln lc) M W (.slice sa sn sc) (.slice pa pn pc) O ⟨ls, M, W, scr, pat, O⟩ a nn c 0 W' r)
  unfold hiC at *
  have hB := (Blk.new w #[.slice la ln lc, .int .i64 M, .int .i64 W, .slice sa sn sc, .slice pa pn pc, .bool O] 90).alloc (.cells #[.slice none 0 0, .int .i64 0, .int .i64 0, .slice none 0 0, .slice none 0 0, .bool false] 90)
  have hR := Blk.new (w.alloc (.cells #[.slice la ln lc, .int .i64 M, .int .i64 W, .slice sa sn sc, .slice pa pn pc, .bool O] 90)) #[.slice none 0 0, .int .i64 0, .int .i64 0, .slice none 0 0, .slice none 0 0, .bool false] 90
  rw [World.size_alloc] at hR
  have hacc := below2 w (.cells #[.slice la ln lc, .int .i64 M, .int .i64 W, .slice sa sn sc, .slice pa pn pc, .bool O] 90) (.cells #[.slice none 0 0, .int .i64 0, .int .i64 0, .slice none 0 0, .slice none 0 0, .bool false] 90)
  have hsz : w.heap.size + 2 ≤ ((w.alloc (.cells #[.slice la ln lc, .int .i64 M, .int .i64 W, .slice sa sn sc, .slice pa pn pc, .bool O] 90)).alloc (.cells #[.slice none 0 0, .int .i64 0, .int .i64 0, .slice none 0 0, .slice none 0 0, .bool false] 90)).heap.size := by simp
  have HR1 := Lib.hid (HR0.out.below hacc)
  clear hs1 hp1 hl1 hl5 hs5 hp5 hll hls HR0
  go_enter Try.func70, Try.ntmps70
  go_upto_region 1 with fail
  change Code.wp _ _ _ _ ((w.alloc (.cells #[.slice la ln lc, .int .i64 M, .int .i64 W, .slice sa sn sc, .slice pa pn pc, .bool O] 90)).alloc (.cells #[.slice none 0 0, .int .i64 0, .int .i64 0, .slice none 0 0, .slice none 0 0, .bool false] 90))
  generalize ((w.alloc (.cells #[.slice la ln lc, .int .i64 M, .int .i64 W, .slice sa sn sc, .slice pa pn pc, .bool O] 90)).alloc (.cells #[.slice none 0 0, .int .i64 0, .int .i64 0, .slice none 0 0, .slice none 0 0, .bool false] 90)) = w1 at *
  obtain ⟨c0, c1, c2, c3, c4, c5⟩ := hB.six
  go_wp2_with ((go_at_call 130); refine (HRT.out _ HR1.out).mono ?_; rintro e w2 ⟨rfl, hb2⟩; rw [HE.out]; have hB2 := hB.below hb2 hB.lt; obtain ⟨d0, d1, d2, d3, d4, d5⟩ := hB2.six; have hR2 := hR.below hb2 hR.lt; obtain ⟨p0, p1, p2, p3, p4, p5⟩ := hR2.six; obtain ⟨t0, t1, t2, t3, t4, t5⟩ := hR2.sixf; have hacc2 := below_then hacc (by omega) hb2; have hlt2 := hB2.lt; have hz2 := hb2.size)
  have hG := ((((((hR2.set 0 (.slice none 0 0)).set 1 (.int .i64 0)).set 2 (.int .i64 0)).set 3 (.slice none 0 0)).set 4 (.slice none 0 0)).set 5 (.bool false))
  simp only [List.setIfInBounds_toArray, List.set_cons_zero, List.set_cons_succ] at hG
  obtain ⟨y0, y1, y2, y3, y4, y5⟩ := hG.six
  refine bodyPost_ret (v := .tuple #[.agg (hiC (.slice none 0 0) 0 0 (.slice none 0 0) (.slice none 0 0) false), .slice none 0 0, .int .i64 (2)]) (by simp [results, Try.results70, go_sem, y0, y1, y2, y3, y4, y5, hiC]) rfl ?_
  exact ⟨_, _, _, _, rfl, hip0 _ _, SlP.nil _ _, ((((((hacc2.setCell (p := ⟨w.heap.size + 1, 0, none⟩) (Nat.le_succ _) _).setCell (p := ⟨w.heap.size + 1, 1, none⟩) (Nat.le_succ _) _).setCell (p := ⟨w.heap.size + 1, 2, none⟩) (Nat.le_succ _) _).setCell (p := ⟨w.heap.size + 1, 3, none⟩) (Nat.le_succ _) _).setCell (p := ⟨w.heap.size + 1, 4, none⟩) (Nat.le_succ _) _).setCell (p := ⟨w.heap.size + 1, 5, none⟩) (Nat.le_succ _) _)⟩

set_option maxRecDepth 100000 in
set_option maxHeartbeats 4000000 in
theorem hist_Find_none (lv : Value) (most wher : Int) (sv pv : Value) (older : Bool) (ls : List (List Int)) (M W : Int) (scr pat : List Int) (O : Bool) (a : Option Addr) (nn c : Nat) (a2 : Option Addr) (np cq : Nat) (ol : Bool) (w : World) (r : HiR w lv most wher sv pv older ⟨ls, M, W, scr, pat, O⟩) (hE : rightE ⟨ls, M, W, scr, pat, O⟩ nn 0 = 0) (h0 : np = 0) (hp : pat = []) (P : Nat → Prop) :
    Calls Try.prog 70 #[.agg (hiC lv most wher sv pv older), .slice a nn c, .slice a2 np cq, .bool ol] w (HPost P hi0 [] 6 w) := by
  have HE := Lib.hid hE
  have HR0 := Lib.hid r
  subst h0
  clear hE
  obtain ⟨⟨vs, hvs, hls⟩, h1, h2, hscr, hpat, h3⟩ := r
  simp only at hls h1 h2 h3 hscr hpat
  obtain rfl : M = most := h1.symm
  obtain rfl : W = wher := h2.symm
  obtain rfl : O = older := h3.symm
  obtain ⟨la, ln, lc, rfl, hl1, hl2, hl3, hl4, hl5⟩ := hvs
  obtain ⟨sa, sn, sc, rfl, hs1, hs2, hs3, hs4, hs5⟩ := hscr
  obtain ⟨pa, pn, pc, rfl, hp1, hp2, hp3, hp4, hp5⟩ := hpat
  have hll : ls.length = ln := by rw [← hls.len]; exact hl1
  have HRT := Lib.hid (fun W' r => hist_right (.slice la ln lc) M W (.slice sa sn sc) (.slice pa pn pc) O ⟨ls, M, W, scr, pat, O⟩ a nn c 0 W' r)
  have hp0 : ((pn : Int) == 0) = true := by rw [← hp1, hp]; rfl
  clear hp
  unfold hiC at *
  have hB := (Blk.new w #[.slice la ln lc, .int .i64 M, .int .i64 W, .slice sa sn sc, .slice pa pn pc, .bool O] 90).alloc (.cells #[.slice none 0 0, .int .i64 0, .int .i64 0, .slice none 0 0, .slice none 0 0, .bool false] 90)
  have hR := Blk.new (w.alloc (.cells #[.slice la ln lc, .int .i64 M, .int .i64 W, .slice sa sn sc, .slice pa pn pc, .bool O] 90)) #[.slice none 0 0, .int .i64 0, .int .i64 0, .slice none 0 0, .slice none 0 0, .bool false] 90
  rw [World.size_alloc] at hR
  have hacc := below2 w (.cells #[.slice la ln lc, .int .i64 M, .int .i64 W, .slice sa sn sc, .slice pa pn pc, .bool O] 90) (.cells #[.slice none 0 0, .int .i64 0, .int .i64 0, .slice none 0 0, .slice none 0 0, .bool false] 90)
  have hsz : w.heap.size + 2 ≤ ((w.alloc (.cells #[.slice la ln lc, .int .i64 M, .int .i64 W, .slice sa sn sc, .slice pa pn pc, .bool O] 90)).alloc (.cells #[.slice none 0 0, .int .i64 0, .int .i64 0, .slice none 0 0, .slice none 0 0, .bool false] 90)).heap.size := by simp
  have HR1 := Lib.hid (HR0.out.below hacc)
  clear hs1 hp1 hl1 hl5 hs5 hp5 hll hls HR0
  go_enter Try.func70, Try.ntmps70
  go_upto_region 1 with fail
  change Code.wp _ _ _ _ ((w.alloc (.cells #[.slice la ln lc, .int .i64 M, .int .i64 W, .slice sa sn sc, .slice pa pn pc, .bool O] 90)).alloc (.cells #[.slice none 0 0, .int .i64 0, .int .i64 0, .slice none 0 0, .slice none 0 0, .bool false] 90))
  generalize ((w.alloc (.cells #[.slice la ln lc, .int .i64 M, .int .i64 W, .slice sa sn sc, .slice pa pn pc, .bool O] 90)).alloc (.cells #[.slice none 0 0, .int .i64 0, .int .i64 0, .slice none 0 0, .slice none 0 0, .bool false] 90)) = w1 at *
  obtain ⟨c0, c1, c2, c3, c4, c5⟩ := hB.six
  go_wp2_with ((go_at_call 130); refine (HRT.out _ HR1.out).mono ?_; rintro e w2 ⟨rfl, hb2⟩; rw [HE.out]; have hB2 := hB.below hb2 hB.lt; obtain ⟨d0, d1, d2, d3, d4, d5⟩ := hB2.six; have hR2 := hR.below hb2 hR.lt; obtain ⟨p0, p1, p2, p3, p4, p5⟩ := hR2.six; obtain ⟨t0, t1, t2, t3, t4, t5⟩ := hR2.sixf; have hacc2 := below_then hacc (by omega) hb2; have hlt2 := hB2.lt; have hz2 := hb2.size)
  have hG := ((((((hR2.set 0 (.slice none 0 0)).set 1 (.int .i64 0)).set 2 (.int .i64 0)).set 3 (.slice none 0 0)).set 4 (.slice none 0 0)).set 5 (.bool false))
  simp only [List.setIfInBounds_toArray, List.set_cons_zero, List.set_cons_succ] at hG
  obtain ⟨y0, y1, y2, y3, y4, y5⟩ := hG.six
  refine bodyPost_ret (v := .tuple #[.agg (hiC (.slice none 0 0) 0 0 (.slice none 0 0) (.slice none 0 0) false), .slice none 0 0, .int .i64 (6)]) (by simp [results, Try.results70, go_sem, y0, y1, y2, y3, y4, y5, hiC]) rfl ?_
  exact ⟨_, _, _, _, rfl, hip0 _ _, SlP.nil _ _, ((((((hacc2.setCell (p := ⟨w.heap.size + 1, 0, none⟩) (Nat.le_succ _) _).setCell (p := ⟨w.heap.size + 1, 1, none⟩) (Nat.le_succ _) _).setCell (p := ⟨w.heap.size + 1, 2, none⟩) (Nat.le_succ _) _).setCell (p := ⟨w.heap.size + 1, 3, none⟩) (Nat.le_succ _) _).setCell (p := ⟨w.heap.size + 1, 4, none⟩) (Nat.le_succ _) _).setCell (p := ⟨w.heap.size + 1, 5, none⟩) (Nat.le_succ _) _)⟩

end Go.Proofs.Ytbgbcmfgncneiaa

