/- Contract of fairref.histTo. -/
import Derived.Test.YtmipnikhgihcpaaSix
import Derived.Test.YtmipnikhgihcpaaHist4
namespace Go.Proofs.Ytmipnikhgihcpaa
open Go.RowKit
set_option linter.unusedVariables false
set_option linter.unusedSimpArgs false

def AnyB : Nat → Prop := fun _ => True
theorem HiR.any {w : World} {lv : Value} {most wher : Int} {sv pv : Value} {older : Bool} {h : Hi} (r : HiR w lv most wher sv pv older h) : HiP AnyB w lv most wher sv pv older h := r.lt.imp fun _ _ => trivial
theorem Sl.any {w : World} {v : Value} {xs : List Int} (h : Sl w v xs) : SlP AnyB w v xs := h.lt.imp fun _ _ => trivial

set_option maxRecDepth 100000 in
set_option maxHeartbeats 4000000 in
theorem ref_histTo_AC (lv : Value) (most wher : Int) (sv pv : Value) (older : Bool) (ls : List (List Int)) (M W : Int) (scr pat : List Int) (O : Bool) (a : Option Addr) (nn c : Nat) (xs : List Int) (wh : Nat) (P : Nat → Prop) (w : World) (r : HiP P w lv most wher sv pv older ⟨ls, M, W, scr, pat, O⟩) (hx : SlP P w (.slice a nn c) xs) (hA : W = ls.length) (hC : wh = ls.length) (h50 : ls.length ≤ 50) :
    Calls Try.prog 104 #[.agg (hiC lv most wher sv pv older), .slice a nn c, .int .i64 (wh : Int)] w (HPost P (toH ⟨ls, M, W, scr, pat, O⟩ xs wh) (toL ⟨ls, M, W, scr, pat, O⟩ xs wh) 0 w) := by
  have hTS : toS ⟨ls, M, W, scr, pat, O⟩ xs = xs := if_pos hA
  have hTL : toL ⟨ls, M, W, scr, pat, O⟩ xs wh = toS ⟨ls, M, W, scr, pat, O⟩ xs := if_pos hC
  have HTH := Lib.hid (show toH ⟨ls, M, W, scr, pat, O⟩ xs wh = ⟨ls, M, wh, xs, pat, O⟩ by unfold toH; rw [hTS])
  have HTL := Lib.hid (show toL ⟨ls, M, W, scr, pat, O⟩ xs wh = xs by rw [hTL, hTS])
  have HX := Lib.hid hx
  clear hTS hTL hx
  obtain ⟨⟨vs, hvsP, hlsP⟩, h1, h2, hscr, hpat, h3⟩ := r
  simp only at hlsP h1 h2 h3 hscr hpat
  have hvs := hvsP.vs
  have hls := hlsP.lists
  obtain rfl : M = most := h1.symm
  obtain rfl : W = wher := h2.symm
  obtain rfl : O = older := h3.symm
  have HVS := Lib.hid hvsP
  clear hvsP
  obtain ⟨la, ln, lc, rfl, hl1, hl2, hl3, hl4, hl5⟩ := hvs
  obtain ⟨sa, sn, sc, rfl⟩ : ∃ a n c, sv = .slice a n c := hscr.form
  obtain ⟨pa, pn, pc, rfl⟩ : ∃ a n c, pv = .slice a n c := hpat.form
  have hll : ls.length = ln := by rw [← hls.len]; exact hl1
  have HSC := Lib.hid hscr; have HPT := Lib.hid hpat; have HLS := Lib.hid hlsP; have HL1 := Lib.hid hl1; have HLL := Lib.hid hll
  unfold hiC at *
  have hB := (Blk.new w #[.slice la ln lc, .int .i64 M, .int .i64 W, .slice sa sn sc, .slice pa pn pc, .bool O] 48).alloc (.cells #[.slice none 0 0, .int .i64 0, .int .i64 0, .slice none 0 0, .slice none 0 0, .bool false] 48)
  have hR := Blk.new (w.alloc (.cells #[.slice la ln lc, .int .i64 M, .int .i64 W, .slice sa sn sc, .slice pa pn pc, .bool O] 48)) #[.slice none 0 0, .int .i64 0, .int .i64 0, .slice none 0 0, .slice none 0 0, .bool false] 48
  rw [World.size_alloc] at hR
  have hacc := below2 w (.cells #[.slice la ln lc, .int .i64 M, .int .i64 W, .slice sa sn sc, .slice pa pn pc, .bool O] 48) (.cells #[.slice none 0 0, .int .i64 0, .int .i64 0, .slice none 0 0, .slice none 0 0, .bool false] 48)
  have hsz : w.heap.size + 2 ≤ ((w.alloc (.cells #[.slice la ln lc, .int .i64 M, .int .i64 W, .slice sa sn sc, .slice pa pn pc, .bool O] 48)).alloc (.cells #[.slice none 0 0, .int .i64 0, .int .i64 0, .slice none 0 0, .slice none 0 0, .bool false] 48)).heap.size := by simp
  rw [hll] at hA hC h50
  have hAb : (W == (ln : Int)) = true := by simpa using hA
  have hwl : (wh : Int) ≤ (ln : Int) := by omega
  have hwc : ¬ ((wh : Int) < (ln : Int)) := by omega
  clear hA hl1 hl5 hll hls hlsP hscr hpat
  clear hC
  go_enter Try.func104, Try.ntmps104
  go_upto_region 1 with fail
  change Code.wp _ _ _ _ ((w.alloc (.cells #[.slice la ln lc, .int .i64 M, .int .i64 W, .slice sa sn sc, .slice pa pn pc, .bool O] 48)).alloc (.cells #[.slice none 0 0, .int .i64 0, .int .i64 0, .slice none 0 0, .slice none 0 0, .bool false] 48))
  generalize ((w.alloc (.cells #[.slice la ln lc, .int .i64 M, .int .i64 W, .slice sa sn sc, .slice pa pn pc, .bool O] 48)).alloc (.cells #[.slice none 0 0, .int .i64 0, .int .i64 0, .slice none 0 0, .slice none 0 0, .bool false] 48)) = w1 at *
  obtain ⟨c0, c1, c2, c3, c4, c5⟩ := hB.six
  obtain ⟨b0, b1, b2, b3, b4, b5⟩ := hB.sixf
  obtain ⟨p0, p1, p2, p3, p4, p5⟩ := hR.six
  obtain ⟨t0, t1, t2, t3, t4, t5⟩ := hR.sixf
  go_upto_region 6 with fail
  have hB5 := (hB.set 3 (.slice a nn c)).set 2 (.int .i64 (wh : Int))
  simp only [List.setIfInBounds_toArray, List.set_cons_zero, List.set_cons_succ] at hB5
  have hR5 := (hR.other (a := ⟨w.heap.size, 3, none⟩) (by simp) (.slice a nn c)).other (a := ⟨w.heap.size, 2, none⟩) (by simp) (.int .i64 (wh : Int))
  have hacc5 := (hacc.setCell (p := ⟨w.heap.size, 3, none⟩) (Nat.le_refl _) (.slice a nn c)).setCell (p := ⟨w.heap.size, 2, none⟩) (Nat.le_refl _) (.int .i64 (wh : Int))
  clear c0 c1 c2 c3 c4 c5 b0 b1 b2 b3 b4 b5 p0 p1 p2 p3 p4 p5 t0 t1 t2 t3 t4 t5
  generalize ((w1.setCell ⟨w.heap.size, 3, none⟩ (.slice a nn c)).setCell ⟨w.heap.size, 2, none⟩ (.int .i64 (wh : Int))) = w5 at *
  obtain ⟨c0, c1, c2, c3, c4, c5⟩ := hB5.six
  obtain ⟨p0, p1, p2, p3, p4, p5⟩ := hR5.six
  obtain ⟨t0, t1, t2, t3, t4, t5⟩ := hR5.sixf
  have hNL : SlP P w (.slice a nn c) xs := HX.out
  have HNL := Lib.hid hNL
  clear hNL
  go_wp2
  go_region
  all_goals go_wp2
  all_goals
    obtain ⟨y0, y1, y2, y3, y4, y5⟩ := (hR5.six' (.slice la ln lc) (.int .i64 M) (.int .i64 (wh : Int)) (.slice a nn c) (.slice pa pn pc) (.bool O)).six
    have hGd := (hR5.six' (.slice la ln lc) (.int .i64 M) (.int .i64 (wh : Int)) (.slice a nn c) (.slice pa pn pc) (.bool O)).drew
    have hGn := (hR5.drew.six' (.slice la ln lc) (.int .i64 M) (.int .i64 (wh : Int)) (.slice a nn c) (.slice pa pn pc) (.bool O))
    obtain ⟨z0, z1, z2, z3, z4, z5⟩ := hGd.six
    obtain ⟨x0, x1, x2, x3, x4, x5⟩ := hGn.six
    refine bodyPost_ret (v := .tuple #[.agg (hiC (.slice la ln lc) M (wh : Int) (.slice a nn c) (.slice pa pn pc) O), (.slice a nn c), .int .i64 0]) (by simp [results, Try.results104, go_sem, y0, y1, y2, y3, y4, y5, z0, z1, z2, z3, z4, z5, x0, x1, x2, x3, x4, x5, hiC]) rfl ?_
    rw [HTH.out, HTL.out]
    have hb6 := below6 (B := w.heap.size + 1) (u0 := .slice la ln lc) (u1 := .int .i64 M) (u2 := .int .i64 (wh : Int)) (u3 := (.slice a nn c)) (u4 := .slice pa pn pc) (u5 := .bool O) hacc5 (Nat.le_succ _)
    have hbF := hb6.drew
    exact ⟨_, _, _, _, rfl, ⟨⟨vs, HVS.out.keep (fun p v _ hc => below_keeps hbF p v hc), HLS.out.imp (fun _ _ k => k.below hbF)⟩, rfl, rfl, HX.out.below hbF, HPT.out.below hbF, rfl⟩, HNL.out.below hbF, hbF⟩

set_option maxRecDepth 100000 in
set_option maxHeartbeats 4000000 in
theorem ref_histTo_AD (lv : Value) (most wher : Int) (sv pv : Value) (older : Bool) (ls : List (List Int)) (M W : Int) (scr pat : List Int) (O : Bool) (a : Option Addr) (nn c : Nat) (xs : List Int) (wh : Nat) (P : Nat → Prop) (w : World) (r : HiP P w lv most wher sv pv older ⟨ls, M, W, scr, pat, O⟩) (hx : SlP P w (.slice a nn c) xs) (hA : W = ls.length) (hC : wh < ls.length) (h50 : ls.length ≤ 50) :
    Calls Try.prog 104 #[.agg (hiC lv most wher sv pv older), .slice a nn c, .int .i64 (wh : Int)] w (HPost P (toH ⟨ls, M, W, scr, pat, O⟩ xs wh) (toL ⟨ls, M, W, scr, pat, O⟩ xs wh) 0 w) := by
  have hTS : toS ⟨ls, M, W, scr, pat, O⟩ xs = xs := if_pos hA
  have hTL : toL ⟨ls, M, W, scr, pat, O⟩ xs wh = rx ls wh := if_neg (Nat.ne_of_lt hC)
  have HTH := Lib.hid (show toH ⟨ls, M, W, scr, pat, O⟩ xs wh = ⟨ls, M, wh, xs, pat, O⟩ by unfold toH; rw [hTS])
  have HTL := Lib.hid (show toL ⟨ls, M, W, scr, pat, O⟩ xs wh = (rx ls wh) by rw [hTL])
  have HX := Lib.hid hx
  clear hTS hTL hx
  obtain ⟨⟨vs, hvsP, hlsP⟩, h1, h2, hscr, hpat, h3⟩ := r
  simp only at hlsP h1 h2 h3 hscr hpat
  have hvs := hvsP.vs
  have hls := hlsP.lists
  obtain rfl : M = most := h1.symm
  obtain rfl : W = wher := h2.symm
  obtain rfl : O = older := h3.symm
  have HVS := Lib.hid hvsP
  clear hvsP
  obtain ⟨la, ln, lc, rfl, hl1, hl2, hl3, hl4, hl5⟩ := hvs
  obtain ⟨sa, sn, sc, rfl⟩ : ∃ a n c, sv = .slice a n c := hscr.form
  obtain ⟨pa, pn, pc, rfl⟩ : ∃ a n c, pv = .slice a n c := hpat.form
  have hll : ls.length = ln := by rw [← hls.len]; exact hl1
  have HSC := Lib.hid hscr; have HPT := Lib.hid hpat; have HLS := Lib.hid hlsP; have HL1 := Lib.hid hl1; have HLL := Lib.hid hll
  unfold hiC at *
  have hB := (Blk.new w #[.slice la ln lc, .int .i64 M, .int .i64 W, .slice sa sn sc, .slice pa pn pc, .bool O] 48).alloc (.cells #[.slice none 0 0, .int .i64 0, .int .i64 0, .slice none 0 0, .slice none 0 0, .bool false] 48)
  have hR := Blk.new (w.alloc (.cells #[.slice la ln lc, .int .i64 M, .int .i64 W, .slice sa sn sc, .slice pa pn pc, .bool O] 48)) #[.slice none 0 0, .int .i64 0, .int .i64 0, .slice none 0 0, .slice none 0 0, .bool false] 48
  rw [World.size_alloc] at hR
  have hacc := below2 w (.cells #[.slice la ln lc, .int .i64 M, .int .i64 W, .slice sa sn sc, .slice pa pn pc, .bool O] 48) (.cells #[.slice none 0 0, .int .i64 0, .int .i64 0, .slice none 0 0, .slice none 0 0, .bool false] 48)
  have hsz : w.heap.size + 2 ≤ ((w.alloc (.cells #[.slice la ln lc, .int .i64 M, .int .i64 W, .slice sa sn sc, .slice pa pn pc, .bool O] 48)).alloc (.cells #[.slice none 0 0, .int .i64 0, .int .i64 0, .slice none 0 0, .slice none 0 0, .bool false] 48)).heap.size := by simp
  rw [hll] at hA hC h50
  have hAb : (W == (ln : Int)) = true := by simpa using hA
  have hwl : (wh : Int) ≤ (ln : Int) := by omega
  have hwc : (wh : Int) < (ln : Int) := by omega
  clear hA hl1 hl5 hll hls hlsP hscr hpat
  
  go_enter Try.func104, Try.ntmps104
  go_upto_region 1 with fail
  change Code.wp _ _ _ _ ((w.alloc (.cells #[.slice la ln lc, .int .i64 M, .int .i64 W, .slice sa sn sc, .slice pa pn pc, .bool O] 48)).alloc (.cells #[.slice none 0 0, .int .i64 0, .int .i64 0, .slice none 0 0, .slice none 0 0, .bool false] 48))
  generalize ((w.alloc (.cells #[.slice la ln lc, .int .i64 M, .int .i64 W, .slice sa sn sc, .slice pa pn pc, .bool O] 48)).alloc (.cells #[.slice none 0 0, .int .i64 0, .int .i64 0, .slice none 0 0, .slice none 0 0, .bool false] 48)) = w1 at *
  obtain ⟨c0, c1, c2, c3, c4, c5⟩ := hB.six
  obtain ⟨b0, b1, b2, b3, b4, b5⟩ := hB.sixf
  obtain ⟨p0, p1, p2, p3, p4, p5⟩ := hR.six
  obtain ⟨t0, t1, t2, t3, t4, t5⟩ := hR.sixf
  go_upto_region 6 with fail
  have hB5 := (hB.set 3 (.slice a nn c)).set 2 (.int .i64 (wh : Int))
  simp only [List.setIfInBounds_toArray, List.set_cons_zero, List.set_cons_succ] at hB5
  have hR5 := (hR.other (a := ⟨w.heap.size, 3, none⟩) (by simp) (.slice a nn c)).other (a := ⟨w.heap.size, 2, none⟩) (by simp) (.int .i64 (wh : Int))
  have hacc5 := (hacc.setCell (p := ⟨w.heap.size, 3, none⟩) (Nat.le_refl _) (.slice a nn c)).setCell (p := ⟨w.heap.size, 2, none⟩) (Nat.le_refl _) (.int .i64 (wh : Int))
  clear c0 c1 c2 c3 c4 c5 b0 b1 b2 b3 b4 b5 p0 p1 p2 p3 p4 p5 t0 t1 t2 t3 t4 t5
  generalize ((w1.setCell ⟨w.heap.size, 3, none⟩ (.slice a nn c)).setCell ⟨w.heap.size, 2, none⟩ (.int .i64 (wh : Int))) = w5 at *
  obtain ⟨c0, c1, c2, c3, c4, c5⟩ := hB5.six
  obtain ⟨p0, p1, p2, p3, p4, p5⟩ := hR5.six
  obtain ⟨t0, t1, t2, t3, t4, t5⟩ := hR5.sixf
  obtain ⟨b7, o7, rfl, hc7⟩ := (hl4.below hacc5).at (k := wh) (by rw [HL1.out]; exact hC)
  have e7 := hc7 wh (by rw [HL1.out]; exact hC)
  obtain ⟨b8, o8, hq8, hc8⟩ := hl4.at (k := wh) (by rw [HL1.out]; exact hC)
  have hb7 : b7 < w.heap.size := by
    have := cell_lt (hc8 wh (by rw [HL1.out]; exact hC))
    simp only [Option.some.injEq, Addr.mk.injEq] at hq8
    rw [hq8.1]; exact this
  have hb8 : b7 ≠ w.heap.size + 1 := by omega
  clear hq8 hc8
  have hsl := HLS.out.2 wh (by rw [HLL.out]; exact hC)
  obtain ⟨ya, yn, yc, y1⟩ : ∃ a n c, vx vs wh = .slice a n c := hsl.form
  rw [y1] at e7 hsl
  have hNL : SlP P w (.slice ya yn yc) (rx ls wh) := hsl
  clear hc7 y1 hsl
  have HNL := Lib.hid hNL
  clear hNL
  go_wp2
  go_region
  all_goals go_wp2
  all_goals
    obtain ⟨y0, y1, y2, y3, y4, y5⟩ := (hR5.six' (.slice (some ⟨b7, o7, none⟩) ln lc) (.int .i64 M) (.int .i64 (wh : Int)) (.slice a nn c) (.slice pa pn pc) (.bool O)).six
    have hGd := (hR5.six' (.slice (some ⟨b7, o7, none⟩) ln lc) (.int .i64 M) (.int .i64 (wh : Int)) (.slice a nn c) (.slice pa pn pc) (.bool O)).drew
    have hGn := (hR5.drew.six' (.slice (some ⟨b7, o7, none⟩) ln lc) (.int .i64 M) (.int .i64 (wh : Int)) (.slice a nn c) (.slice pa pn pc) (.bool O))
    obtain ⟨z0, z1, z2, z3, z4, z5⟩ := hGd.six
    obtain ⟨x0, x1, x2, x3, x4, x5⟩ := hGn.six
    refine bodyPost_ret (v := .tuple #[.agg (hiC (.slice (some ⟨b7, o7, none⟩) ln lc) M (wh : Int) (.slice a nn c) (.slice pa pn pc) O), (.slice ya yn yc), .int .i64 0]) (by simp [results, Try.results104, go_sem, y0, y1, y2, y3, y4, y5, z0, z1, z2, z3, z4, z5, x0, x1, x2, x3, x4, x5, hiC]) rfl ?_
    rw [HTH.out, HTL.out]
    have hb6 := below6 (B := w.heap.size + 1) (u0 := .slice (some ⟨b7, o7, none⟩) ln lc) (u1 := .int .i64 M) (u2 := .int .i64 (wh : Int)) (u3 := (.slice a nn c)) (u4 := .slice pa pn pc) (u5 := .bool O) hacc5 (Nat.le_succ _)
    have hbF := hb6.drew
    exact ⟨_, _, _, _, rfl, ⟨⟨vs, HVS.out.keep (fun p v _ hc => below_keeps hbF p v hc), HLS.out.imp (fun _ _ k => k.below hbF)⟩, rfl, rfl, HX.out.below hbF, HPT.out.below hbF, rfl⟩, HNL.out.below hbF, hbF⟩

set_option maxRecDepth 100000 in
set_option maxHeartbeats 4000000 in
theorem ref_histTo_BC (lv : Value) (most wher : Int) (sv pv : Value) (older : Bool) (ls : List (List Int)) (M W : Int) (scr pat : List Int) (O : Bool) (a : Option Addr) (nn c : Nat) (xs : List Int) (wh : Nat) (P : Nat → Prop) (w : World) (r : HiP P w lv most wher sv pv older ⟨ls, M, W, scr, pat, O⟩) (hx : SlP P w (.slice a nn c) xs) (hA : W ≠ ls.length) (hC : wh = ls.length) (h50 : ls.length ≤ 50) :
    Calls Try.prog 104 #[.agg (hiC lv most wher sv pv older), .slice a nn c, .int .i64 (wh : Int)] w (HPost P (toH ⟨ls, M, W, scr, pat, O⟩ xs wh) (toL ⟨ls, M, W, scr, pat, O⟩ xs wh) 0 w) := by
  have hTS : toS ⟨ls, M, W, scr, pat, O⟩ xs = scr := if_neg hA
  have hTL : toL ⟨ls, M, W, scr, pat, O⟩ xs wh = toS ⟨ls, M, W, scr, pat, O⟩ xs := if_pos hC
  have HTH := Lib.hid (show toH ⟨ls, M, W, scr, pat, O⟩ xs wh = ⟨ls, M, wh, scr, pat, O⟩ by unfold toH; rw [hTS])
  have HTL := Lib.hid (show toL ⟨ls, M, W, scr, pat, O⟩ xs wh = scr by rw [hTL, hTS])
  have HX := Lib.hid hx
  clear hTS hTL hx
  obtain ⟨⟨vs, hvsP, hlsP⟩, h1, h2, hscr, hpat, h3⟩ := r
  simp only at hlsP h1 h2 h3 hscr hpat
  have hvs := hvsP.vs
  have hls := hlsP.lists
  obtain rfl : M = most := h1.symm
  obtain rfl : W = wher := h2.symm
  obtain rfl : O = older := h3.symm
  have HVS := Lib.hid hvsP
  clear hvsP
  obtain ⟨la, ln, lc, rfl, hl1, hl2, hl3, hl4, hl5⟩ := hvs
  obtain ⟨sa, sn, sc, rfl⟩ : ∃ a n c, sv = .slice a n c := hscr.form
  obtain ⟨pa, pn, pc, rfl⟩ : ∃ a n c, pv = .slice a n c := hpat.form
  have hll : ls.length = ln := by rw [← hls.len]; exact hl1
  have HSC := Lib.hid hscr; have HPT := Lib.hid hpat; have HLS := Lib.hid hlsP; have HL1 := Lib.hid hl1; have HLL := Lib.hid hll
  unfold hiC at *
  have hB := (Blk.new w #[.slice la ln lc, .int .i64 M, .int .i64 W, .slice sa sn sc, .slice pa pn pc, .bool O] 48).alloc (.cells #[.slice none 0 0, .int .i64 0, .int .i64 0, .slice none 0 0, .slice none 0 0, .bool false] 48)
  have hR := Blk.new (w.alloc (.cells #[.slice la ln lc, .int .i64 M, .int .i64 W, .slice sa sn sc, .slice pa pn pc, .bool O] 48)) #[.slice none 0 0, .int .i64 0, .int .i64 0, .slice none 0 0, .slice none 0 0, .bool false] 48
  rw [World.size_alloc] at hR
  have hacc := below2 w (.cells #[.slice la ln lc, .int .i64 M, .int .i64 W, .slice sa sn sc, .slice pa pn pc, .bool O] 48) (.cells #[.slice none 0 0, .int .i64 0, .int .i64 0, .slice none 0 0, .slice none 0 0, .bool false] 48)
  have hsz : w.heap.size + 2 ≤ ((w.alloc (.cells #[.slice la ln lc, .int .i64 M, .int .i64 W, .slice sa sn sc, .slice pa pn pc, .bool O] 48)).alloc (.cells #[.slice none 0 0, .int .i64 0, .int .i64 0, .slice none 0 0, .slice none 0 0, .bool false] 48)).heap.size := by simp
  rw [hll] at hA hC h50
  have hAb : (W == (ln : Int)) = false := by simpa using hA
  have hwl : (wh : Int) ≤ (ln : Int) := by omega
  have hwc : ¬ ((wh : Int) < (ln : Int)) := by omega
  clear hA hl1 hl5 hll hls hlsP hscr hpat
  clear hC
  go_enter Try.func104, Try.ntmps104
  go_upto_region 1 with fail
  change Code.wp _ _ _ _ ((w.alloc (.cells #[.slice la ln lc, .int .i64 M, .int .i64 W, .slice sa sn sc, .slice pa pn pc, .bool O] 48)).alloc (.cells #[.slice none 0 0, .int .i64 0, .int .i64 0, .slice none 0 0, .slice none 0 0, .bool false] 48))
  generalize ((w.alloc (.cells #[.slice la ln lc, .int .i64 M, .int .i64 W, .slice sa sn sc, .slice pa pn pc, .bool O] 48)).alloc (.cells #[.slice none 0 0, .int .i64 0, .int .i64 0, .slice none 0 0, .slice none 0 0, .bool false] 48)) = w1 at *
  obtain ⟨c0, c1, c2, c3, c4, c5⟩ := hB.six
  obtain ⟨b0, b1, b2, b3, b4, b5⟩ := hB.sixf
  obtain ⟨p0, p1, p2, p3, p4, p5⟩ := hR.six
  obtain ⟨t0, t1, t2, t3, t4, t5⟩ := hR.sixf
  go_upto_region 6 with fail
  have hB5 := hB.set 2 (.int .i64 (wh : Int))
  simp only [List.setIfInBounds_toArray, List.set_cons_zero, List.set_cons_succ] at hB5
  have hR5 := hR.other (a := ⟨w.heap.size, 2, none⟩) (by simp) (.int .i64 (wh : Int))
  have hacc5 := hacc.setCell (p := ⟨w.heap.size, 2, none⟩) (Nat.le_refl _) (.int .i64 (wh : Int))
  clear c0 c1 c2 c3 c4 c5 b0 b1 b2 b3 b4 b5 p0 p1 p2 p3 p4 p5 t0 t1 t2 t3 t4 t5
  generalize (w1.setCell ⟨w.heap.size, 2, none⟩ (.int .i64 (wh : Int))) = w5 at *
  obtain ⟨c0, c1, c2, c3, c4, c5⟩ := hB5.six
  obtain ⟨p0, p1, p2, p3, p4, p5⟩ := hR5.six
  obtain ⟨t0, t1, t2, t3, t4, t5⟩ := hR5.sixf
  have hNL : SlP P w (.slice sa sn sc) scr := HSC.out
  have HNL := Lib.hid hNL
  clear hNL
  go_wp2
  go_region
  all_goals go_wp2
  all_goals
    obtain ⟨y0, y1, y2, y3, y4, y5⟩ := (hR5.six' (.slice la ln lc) (.int .i64 M) (.int .i64 (wh : Int)) (.slice sa sn sc) (.slice pa pn pc) (.bool O)).six
    have hGd := (hR5.six' (.slice la ln lc) (.int .i64 M) (.int .i64 (wh : Int)) (.slice sa sn sc) (.slice pa pn pc) (.bool O)).drew
    have hGn := (hR5.drew.six' (.slice la ln lc) (.int .i64 M) (.int .i64 (wh : Int)) (.slice sa sn sc) (.slice pa pn pc) (.bool O))
    obtain ⟨z0, z1, z2, z3, z4, z5⟩ := hGd.six
    obtain ⟨x0, x1, x2, x3, x4, x5⟩ := hGn.six
    refine bodyPost_ret (v := .tuple #[.agg (hiC (.slice la ln lc) M (wh : Int) (.slice sa sn sc) (.slice pa pn pc) O), (.slice sa sn sc), .int .i64 0]) (by simp [results, Try.results104, go_sem, y0, y1, y2, y3, y4, y5, z0, z1, z2, z3, z4, z5, x0, x1, x2, x3, x4, x5, hiC]) rfl ?_
    rw [HTH.out, HTL.out]
    have hb6 := below6 (B := w.heap.size + 1) (u0 := .slice la ln lc) (u1 := .int .i64 M) (u2 := .int .i64 (wh : Int)) (u3 := (.slice sa sn sc)) (u4 := .slice pa pn pc) (u5 := .bool O) hacc5 (Nat.le_succ _)
    have hbF := hb6.drew
    exact ⟨_, _, _, _, rfl, ⟨⟨vs, HVS.out.keep (fun p v _ hc => below_keeps hbF p v hc), HLS.out.imp (fun _ _ k => k.below hbF)⟩, rfl, rfl, HSC.out.below hbF, HPT.out.below hbF, rfl⟩, HNL.out.below hbF, hbF⟩

set_option maxRecDepth 100000 in
set_option maxHeartbeats 4000000 in
theorem ref_histTo_BD (lv : Value) (most wher : Int) (sv pv : Value) (older : Bool) (ls : List (List Int)) (M W : Int) (scr pat : List Int) (O : Bool) (a : Option Addr) (nn c : Nat) (xs : List Int) (wh : Nat) (P : Nat → Prop) (w : World) (r : HiP P w lv most wher sv pv older ⟨ls, M, W, scr, pat, O⟩) (hx : SlP P w (.slice a nn c) xs) (hA : W ≠ ls.length) (hC : wh < ls.length) (h50 : ls.length ≤ 50) :
    Calls Try.prog 104 #[.agg (hiC lv most wher sv pv older), .slice a nn c, .int .i64 (wh : Int)] w (HPost P (toH ⟨ls, M, W, scr, pat, O⟩ xs wh) (toL ⟨ls, M, W, scr, pat, O⟩ xs wh) 0 w) := by
  have hTS : toS ⟨ls, M, W, scr, pat, O⟩ xs = scr := if_neg hA
  have hTL : toL ⟨ls, M, W, scr, pat, O⟩ xs wh = rx ls wh := if_neg (Nat.ne_of_lt hC)
  have HTH := Lib.hid (show toH ⟨ls, M, W, scr, pat, O⟩ xs wh = ⟨ls, M, wh, scr, pat, O⟩ by unfold toH; rw [hTS])
  have HTL := Lib.hid (show toL ⟨ls, M, W, scr, pat, O⟩ xs wh = (rx ls wh) by rw [hTL])
  have HX := Lib.hid hx
  clear hTS hTL hx
  obtain ⟨⟨vs, hvsP, hlsP⟩, h1, h2, hscr, hpat, h3⟩ := r
  simp only at hlsP h1 h2 h3 hscr hpat
  have hvs := hvsP.vs
  have hls := hlsP.lists
  obtain rfl : M = most := h1.symm
  obtain rfl : W = wher := h2.symm
  obtain rfl : O = older := h3.symm
  have HVS := Lib.hid hvsP
  clear hvsP
  obtain ⟨la, ln, lc, rfl, hl1, hl2, hl3, hl4, hl5⟩ := hvs
  obtain ⟨sa, sn, sc, rfl⟩ : ∃ a n c, sv = .slice a n c := hscr.form
  obtain ⟨pa, pn, pc, rfl⟩ : ∃ a n c, pv = .slice a n c := hpat.form
  have hll : ls.length = ln := by rw [← hls.len]; exact hl1
  have HSC := Lib.hid hscr; have HPT := Lib.hid hpat; have HLS := Lib.hid hlsP; have HL1 := Lib.hid hl1; have HLL := Lib.hid hll
  unfold hiC at *
  have hB := (Blk.new w #[.slice la ln lc, .int .i64 M, .int .i64 W, .slice sa sn sc, .slice pa pn pc, .bool O] 48).alloc (.cells #[.slice none 0 0, .int .i64 0, .int .i64 0, .slice none 0 0, .slice none 0 0, .bool false] 48)
  have hR := Blk.new (w.alloc (.cells #[.slice la ln lc, .int .i64 M, .int .i64 W, .slice sa sn sc, .slice pa pn pc, .bool O] 48)) #[.slice none 0 0, .int .i64 0, .int .i64 0, .slice none 0 0, .slice none 0 0, .bool false] 48
  rw [World.size_alloc] at hR
  have hacc := below2 w (.cells #[.slice la ln lc, .int .i64 M, .int .i64 W, .slice sa sn sc, .slice pa pn pc, .bool O] 48) (.cells #[.slice none 0 0, .int .i64 0, .int .i64 0, .slice none 0 0, .slice none 0 0, .bool false] 48)
  have hsz : w.heap.size + 2 ≤ ((w.alloc (.cells #[.slice la ln lc, .int .i64 M, .int .i64 W, .slice sa sn sc, .slice pa pn pc, .bool O] 48)).alloc (.cells #[.slice none 0 0, .int .i64 0, .int .i64 0, .slice none 0 0, .slice none 0 0, .bool false] 48)).heap.size := by simp
  rw [hll] at hA hC h50
  have hAb : (W == (ln : Int)) = false := by simpa using hA
  have hwl : (wh : Int) ≤ (ln : Int) := by omega
  have hwc : (wh : Int) < (ln : Int) := by omega
  clear hA hl1 hl5 hll hls hlsP hscr hpat
  
  go_enter Try.func104, Try.ntmps104
  go_upto_region 1 with fail
  change Code.wp _ _ _ _ ((w.alloc (.cells #[.slice la ln lc, .int .i64 M, .int .i64 W, .slice sa sn sc, .slice pa pn pc, .bool O] 48)).alloc (.cells #[.slice none 0 0, .int .i64 0, .int .i64 0, .slice none 0 0, .slice none 0 0, .bool false] 48))
  generalize ((w.alloc (.cells #[.slice la ln lc, .int .i64 M, .int .i64 W, .slice sa sn sc, .slice pa pn pc, .bool O] 48)).alloc (.cells #[.slice none 0 0, .int .i64 0, .int .i64 0, .slice none 0 0, .slice none 0 0, .bool false] 48)) = w1 at *
  obtain ⟨c0, c1, c2, c3, c4, c5⟩ := hB.six
  obtain ⟨b0, b1, b2, b3, b4, b5⟩ := hB.sixf
  obtain ⟨p0, p1, p2, p3, p4, p5⟩ := hR.six
  obtain ⟨t0, t1, t2, t3, t4, t5⟩ := hR.sixf
  go_upto_region 6 with fail
  have hB5 := hB.set 2 (.int .i64 (wh : Int))
  simp only [List.setIfInBounds_toArray, List.set_cons_zero, List.set_cons_succ] at hB5
  have hR5 := hR.other (a := ⟨w.heap.size, 2, none⟩) (by simp) (.int .i64 (wh : Int))
  have hacc5 := hacc.setCell (p := ⟨w.heap.size, 2, none⟩) (Nat.le_refl _) (.int .i64 (wh : Int))
  clear c0 c1 c2 c3 c4 c5 b0 b1 b2 b3 b4 b5 p0 p1 p2 p3 p4 p5 t0 t1 t2 t3 t4 t5
  generalize (w1.setCell ⟨w.heap.size, 2, none⟩ (.int .i64 (wh : Int))) = w5 at *
  obtain ⟨c0, c1, c2, c3, c4, c5⟩ := hB5.six
  obtain ⟨p0, p1, p2, p3, p4, p5⟩ := hR5.six
  obtain ⟨t0, t1, t2, t3, t4, t5⟩ := hR5.sixf
  obtain ⟨b7, o7, rfl, hc7⟩ := (hl4.below hacc5).at (k := wh) (by rw [HL1.out]; exact hC)
  have e7 := hc7 wh (by rw [HL1.out]; exact hC)
  obtain ⟨b8, o8, hq8, hc8⟩ := hl4.at (k := wh) (by rw [HL1.out]; exact hC)
  have hb7 : b7 < w.heap.size := by
    have := cell_lt (hc8 wh (by rw [HL1.out]; exact hC))
    simp only [Option.some.injEq, Addr.mk.injEq] at hq8
    rw [hq8.1]; exact this
  have hb8 : b7 ≠ w.heap.size + 1 := by omega
  clear hq8 hc8
  have hsl := HLS.out.2 wh (by rw [HLL.out]; exact hC)
  obtain ⟨ya, yn, yc, y1⟩ : ∃ a n c, vx vs wh = .slice a n c := hsl.form
  rw [y1] at e7 hsl
  have hNL : SlP P w (.slice ya yn yc) (rx ls wh) := hsl
  clear hc7 y1 hsl
  have HNL := Lib.hid hNL
  clear hNL
  go_wp2
  go_region
  all_goals go_wp2
  all_goals
    obtain ⟨y0, y1, y2, y3, y4, y5⟩ := (hR5.six' (.slice (some ⟨b7, o7, none⟩) ln lc) (.int .i64 M) (.int .i64 (wh : Int)) (.slice sa sn sc) (.slice pa pn pc) (.bool O)).six
    have hGd := (hR5.six' (.slice (some ⟨b7, o7, none⟩) ln lc) (.int .i64 M) (.int .i64 (wh : Int)) (.slice sa sn sc) (.slice pa pn pc) (.bool O)).drew
    have hGn := (hR5.drew.six' (.slice (some ⟨b7, o7, none⟩) ln lc) (.int .i64 M) (.int .i64 (wh : Int)) (.slice sa sn sc) (.slice pa pn pc) (.bool O))
    obtain ⟨z0, z1, z2, z3, z4, z5⟩ := hGd.six
    obtain ⟨x0, x1, x2, x3, x4, x5⟩ := hGn.six
    refine bodyPost_ret (v := .tuple #[.agg (hiC (.slice (some ⟨b7, o7, none⟩) ln lc) M (wh : Int) (.slice sa sn sc) (.slice pa pn pc) O), (.slice ya yn yc), .int .i64 0]) (by simp [results, Try.results104, go_sem, y0, y1, y2, y3, y4, y5, z0, z1, z2, z3, z4, z5, x0, x1, x2, x3, x4, x5, hiC]) rfl ?_
    rw [HTH.out, HTL.out]
    have hb6 := below6 (B := w.heap.size + 1) (u0 := .slice (some ⟨b7, o7, none⟩) ln lc) (u1 := .int .i64 M) (u2 := .int .i64 (wh : Int)) (u3 := (.slice sa sn sc)) (u4 := .slice pa pn pc) (u5 := .bool O) hacc5 (Nat.le_succ _)
    have hbF := hb6.drew
    exact ⟨_, _, _, _, rfl, ⟨⟨vs, HVS.out.keep (fun p v _ hc => below_keeps hbF p v hc), HLS.out.imp (fun _ _ k => k.below hbF)⟩, rfl, rfl, HSC.out.below hbF, HPT.out.below hbF, rfl⟩, HNL.out.below hbF, hbF⟩

theorem ref_histTo (lv : Value) (most wher : Int) (sv pv : Value) (older : Bool) (h : Hi) (a : Option Addr) (nn c : Nat) (xs : List Int) (wh : Nat) (P : Nat → Prop) (w : World) (r : HiP P w lv most wher sv pv older h) (hx : SlP P w (.slice a nn c) xs) (hw : wh ≤ h.ls.length) (h50 : h.ls.length ≤ 50) :
    Calls Try.prog 104 #[.agg (hiC lv most wher sv pv older), .slice a nn c, .int .i64 (wh : Int)] w (HPost P (toH h xs wh) (toL h xs wh) 0 w) := by
  obtain ⟨ls, M, W, scr, pat, O⟩ := h
  by_cases hA : W = ls.length
  · rcases (show wh = ls.length ∨ wh < ls.length by simp only at hw; omega) with hC | hC
    · exact ref_histTo_AC lv most wher sv pv older ls M W scr pat O a nn c xs wh P w r hx hA hC h50
    · exact ref_histTo_AD lv most wher sv pv older ls M W scr pat O a nn c xs wh P w r hx hA hC h50
  · rcases (show wh = ls.length ∨ wh < ls.length by simp only at hw; omega) with hC | hC
    · exact ref_histTo_BC lv most wher sv pv older ls M W scr pat O a nn c xs wh P w r hx hA hC h50
    · exact ref_histTo_BD lv most wher sv pv older ls M W scr pat O a nn c xs wh P w r hx hA hC h50

end Go.Proofs.Ytmipnikhgihcpaa
