/- Contract of hist.to. -/
import Derived.Test.YtmipnikhgihcpaaHist3
namespace Go.Proofs.Ytmipnikhgihcpaa
open Go.RowKit
set_option linter.unusedVariables false
set_option linter.unusedSimpArgs false

def toS (h : Hi) (now : List Int) : List Int := if h.wher = h.ls.length then now else h.scr
def toH (h : Hi) (now : List Int) (wh : Nat) : Hi := ⟨h.ls, h.most, wh, toS h now, h.pat, h.older⟩
def toL (h : Hi) (now : List Int) (wh : Nat) : List Int := if wh = h.ls.length then toS h now else rx h.ls wh

set_option maxRecDepth 100000 in
set_option maxHeartbeats 4000000 in
theorem hist_to_AC (lv : Value) (most wher : Int) (sv pv : Value) (older : Bool) (ls : List (List Int)) (M W : Int) (scr pat : List Int) (O : Bool) (a : Option Addr) (nn c wh : Nat) (xs : List Int) (w : World) (r : HiR w lv most wher sv pv older ⟨ls, M, W, scr, pat, O⟩) (hok : HiOk ⟨ls, M, W, scr, pat, O⟩) (hx : Ints w a xs) (hxn : xs.length = nn) (hx0 : a = none → nn = 0) (hnn : nn ≤ 200)
    (hA : W = ls.length) (hC : wh = ls.length) :
    Calls Try.prog 103 #[.agg (hiC lv most wher sv pv older), .slice a nn c, .int .i64 (wh : Int)] w (HPost (fun k => w.heap.size ≤ k) (toH ⟨ls, M, W, scr, pat, O⟩ xs wh) (toL ⟨ls, M, W, scr, pat, O⟩ xs wh) 0 w) := by
  have hCP := hist_copied lv most wher sv pv older ⟨ls, M, W, scr, pat, O⟩
  have HCP := Lib.hid (fun W r => hCP W r (by have := hok.len; have := hok.most2; omega) hok.lines hok.scr hok.pat)
  have HR0 := Lib.hid r
  have hTS : toS ⟨ls, M, W, scr, pat, O⟩ xs = xs := if_pos hA
  have hTL : toL ⟨ls, M, W, scr, pat, O⟩ xs wh = toS ⟨ls, M, W, scr, pat, O⟩ xs := if_pos hC
  obtain ⟨⟨vs, hvs, hls⟩, h1, h2, hscr, hpat, h3⟩ := r
  simp only at hls h1 h2 h3 hscr hpat
  obtain rfl : M = most := h1.symm
  obtain rfl : W = wher := h2.symm
  obtain rfl : O = older := h3.symm
  obtain ⟨la, ln, lc, rfl, hl1, hl2, hl3, hl4, hl5⟩ := hvs
  obtain ⟨sa, sn, sc, rfl, hs1, hs2, hs3, hs4, hs5⟩ := hscr
  obtain ⟨pa, pn, pc, rfl, hp1, hp2, hp3, hp4, hp5⟩ := hpat
  have hll : ls.length = ln := by rw [← hls.len]; exact hl1
  have hs200 : scr.length ≤ 200 := hok.scr
  have hl200 := hok.lines
  rw [hll] at hA hC hl200
  have HTH := Lib.hid (show HPost (fun k => w.heap.size ≤ k) (toH ⟨ls, M, W, scr, pat, O⟩ xs wh) (toL ⟨ls, M, W, scr, pat, O⟩ xs wh) 0 w = HPost (fun k => w.heap.size ≤ k) ⟨ls, M, wh, xs, pat, O⟩ (xs) 0 w by rw [hTL, hTS]; unfold toH; rw [hTS])
  have HLL := Lib.hid hll; have HL1 := Lib.hid hl1; have HLS := Lib.hid hls; have HXN := Lib.hid hxn; have HX0 := Lib.hid hx0; have HS1 := Lib.hid hs1; have H2 := Lib.hid hs200; have HL2 := Lib.hid hl200; have HS5 := Lib.hid hs5
  have hwl : W ≤ (ln : Int) := by have := hok.wher2; simp only at this; omega
  have hAb : (W == (ln : Int)) = true := by simpa using hA
  have hCb : ((wh : Int) == (ln : Int)) = true := by simp; omega
  have hnn2 : nn ≤ 17592186044416 := by omega
  
  
  unfold hiC at *
  have hB := (Blk.new w #[.slice la ln lc, .int .i64 M, .int .i64 W, .slice sa sn sc, .slice pa pn pc, .bool O] 48).alloc (.cells #[.slice none 0 0, .int .i64 0, .int .i64 0, .slice none 0 0, .slice none 0 0, .bool false] 48)
  have hR := Blk.new (w.alloc (.cells #[.slice la ln lc, .int .i64 M, .int .i64 W, .slice sa sn sc, .slice pa pn pc, .bool O] 48)) #[.slice none 0 0, .int .i64 0, .int .i64 0, .slice none 0 0, .slice none 0 0, .bool false] 48
  rw [World.size_alloc] at hR
  have hacc := below2 w (.cells #[.slice la ln lc, .int .i64 M, .int .i64 W, .slice sa sn sc, .slice pa pn pc, .bool O] 48) (.cells #[.slice none 0 0, .int .i64 0, .int .i64 0, .slice none 0 0, .slice none 0 0, .bool false] 48)
  have hsz : w.heap.size + 2 ≤ ((w.alloc (.cells #[.slice la ln lc, .int .i64 M, .int .i64 W, .slice sa sn sc, .slice pa pn pc, .bool O] 48)).alloc (.cells #[.slice none 0 0, .int .i64 0, .int .i64 0, .slice none 0 0, .slice none 0 0, .bool false] 48)).heap.size := by simp
  have HR1 := Lib.hid (HR0.out.below hacc)
  clear hTS hTL hs1 hp1 hl1 hl5 hs5 hp5 hll hls hxn hx0 hl200 hok hCP HR0 hA hC
  go_enter Try.func103, Try.ntmps103
  go_upto_region 1 with fail
  change Code.wp _ _ _ _ ((w.alloc (.cells #[.slice la ln lc, .int .i64 M, .int .i64 W, .slice sa sn sc, .slice pa pn pc, .bool O] 48)).alloc (.cells #[.slice none 0 0, .int .i64 0, .int .i64 0, .slice none 0 0, .slice none 0 0, .bool false] 48))
  generalize ((w.alloc (.cells #[.slice la ln lc, .int .i64 M, .int .i64 W, .slice sa sn sc, .slice pa pn pc, .bool O] 48)).alloc (.cells #[.slice none 0 0, .int .i64 0, .int .i64 0, .slice none 0 0, .slice none 0 0, .bool false] 48)) = w1 at *
  obtain ⟨c0, c1, c2, c3, c4, c5⟩ := hB.six
  go_wp2_with fail
  refine (HCP.out _ HR1.out).mono ?_
  rintro e w2 ⟨lv2, sv2, pv2, vs2, rfl, ho2, hol2, os2, op2, hb2⟩
  have hO2 : OHi w1.heap.size w2 lv2 sv2 pv2 ls scr pat := ⟨⟨vs2, ho2, hol2⟩, os2, op2⟩
  obtain ⟨⟨ra, rn, rc, rfl⟩, ⟨ta, tn, tc, rfl⟩, ⟨ua, un, uc, rfl⟩⟩ := hO2.form
  have hbel2 := below_then hacc (by omega) hb2
  have hB2 := hB.below hb2 hB.lt
  have hR2 := hR.below hb2 hR.lt
  obtain ⟨d0, d1, d2, d3, d4, d5⟩ := hB2.six
  have hlt2 := hB2.lt
  have hz2 := hb2.size
  have HO2 := Lib.hid (hO2.mono (base' := w.heap.size + 2) hsz)
  have hB3 := Blk.new w2 #[.slice ra rn rc, .int .i64 M, .int .i64 W, .slice ta tn tc, .slice ua un uc, .bool O] 48
  have hbel3 := hbel2.alloc (by omega) (.cells #[.slice ra rn rc, .int .i64 M, .int .i64 W, .slice ta tn tc, .slice ua un uc, .bool O] 48)
  have hx3 := hx.below hbel3
  clear hO2 ho2 hol2 os2 op2 c0 c1 c2 c3 c4 c5
  simp only [hiC]
  go_wp2_with ((go_at_call 98); refine (slices_clone a nn c xs _ hx3 HXN.out hnn2 HX0.out).mono ?_; rintro e w4 ⟨v4, rfl, own4, hb4⟩; obtain ⟨a4, n4, c4', rfl⟩ := own4.form; have hB4 := hB3.below hb4 hB3.lt; obtain ⟨e0, e1, e2, e3, e4, e5⟩ := hB4.six; obtain ⟨g0, g1, g2, g3, g4, g5⟩ := hB4.sixf; have hBx := (hB2.alloc (.cells #[.slice ra rn rc, .int .i64 M, .int .i64 W, .slice ta tn tc, .slice ua un uc, .bool O] 48)).below hb4 (by simp; omega); obtain ⟨x0, x1, x2, x3, x4, x5⟩ := hBx.six)
  have hz4 : w2.heap.size + 1 ≤ w4.heap.size := by have := hb4.size; simp at this; omega
  have hbel4 := ((below_then hbel3 (by simp; omega) hb4).setCell (p := ⟨w2.heap.size, 3, none⟩) (by show w.heap.size ≤ w2.heap.size; omega) (.slice a4 n4 c4')).setCell (p := ⟨w2.heap.size, 2, none⟩) (by show w.heap.size ≤ w2.heap.size; omega) (.int .i64 (wh : Int))
  have hb24 : Below w2.heap.size w2 ((w4.setCell ⟨w2.heap.size, 3, none⟩ (.slice a4 n4 c4')).setCell ⟨w2.heap.size, 2, none⟩ (.int .i64 (wh : Int))) := ((below_then (below1 w2 (.cells #[.slice ra rn rc, .int .i64 M, .int .i64 W, .slice ta tn tc, .slice ua un uc, .bool O] 48)) (by simp) hb4).setCell (p := ⟨w2.heap.size, 3, none⟩) (Nat.le_refl _) (.slice a4 n4 c4')).setCell (p := ⟨w2.heap.size, 2, none⟩) (Nat.le_refl _) (.int .i64 (wh : Int))
  have hB5 := (hB4.set 3 (.slice a4 n4 c4')).set 2 (.int .i64 (wh : Int))
  simp only [List.setIfInBounds_toArray, List.set_cons_zero, List.set_cons_succ] at hB5
  have oS : Own 3 (w.heap.size + 2) ((w4.setCell ⟨w2.heap.size, 3, none⟩ (.slice a4 n4 c4')).setCell ⟨w2.heap.size, 2, none⟩ (.int .i64 (wh : Int))) (.slice a4 n4 c4') xs := (((own4.mono (base' := w2.heap.size + 1) (by simp)).setCell (by show w2.heap.size < _; omega) _).setCell (by show w2.heap.size < _; omega) _).mono (by omega)
  have hO5 := HO2.out.kept hb24
  have hR5 := hR2.below hb24 (by omega)
  have hBx5 := hB2.below hb24 (by omega)
  have hz5 : w2.heap.size < ((w4.setCell ⟨w2.heap.size, 3, none⟩ (.slice a4 n4 c4')).setCell ⟨w2.heap.size, 2, none⟩ (.int .i64 (wh : Int))).heap.size := hB5.lt
  have HO5 := Lib.hid hO5; have HOS := Lib.hid oS
  clear hO5 oS hb24 hbel3 hB3
  try clear hB4 e0 e1 e2 e3 e4 e5 g0 g1 g2 g3 g4 g5 x0 x1 x2 x3 x4 x5 hBx own4 hb4
  generalize ((w4.setCell ⟨w2.heap.size, 3, none⟩ (.slice a4 n4 c4')).setCell ⟨w2.heap.size, 2, none⟩ (.int .i64 (wh : Int))) = w5 at *
  obtain ⟨e0, e1, e2, e3, e4, e5⟩ := hB5.six
  obtain ⟨x0, x1, x2, x3, x4, x5⟩ := hBx5.six
  obtain ⟨p0, p1, p2, p3, p4, p5⟩ := hR5.six
  obtain ⟨t0, t1, t2, t3, t4, t5⟩ := hR5.sixf
  obtain ⟨k1, k2, k3, k4, k5⟩ := HOS.out.sl.drew.get
  have hsn : n4 ≤ 17592186044416 := by rw [← k1]; have := H2.out; have := HXN.out; omega
  have K1 := Lib.hid k1; have K5 := Lib.hid k5
  clear k1 k5
  first
  | go_region_law ((go_simp; go_at_call 98; ((with_reducible refine (slices_clone a4 n4 c4' xs w5.drew k4 K1.out hsn K5.out).mono ?_)); rintro e w9 ⟨v9, rfl, own9, hb9⟩; obtain ⟨a9, n9, c9, rfl⟩ := own9.form; have hB9 := hB5.drew.below hb9 hB5.lt; obtain ⟨f0, f1, f2, f3, f4, f5⟩ := hB9.six; have hR9 := hR5.drew.below hb9 hR5.lt; obtain ⟨q0, q1, q2, q3, q4, q5⟩ := hR9.six; obtain ⟨u0, u1, u2, u3, u4, u5⟩ := hR9.sixf; have hBx9 := hBx5.drew.below hb9 hBx5.lt; obtain ⟨z0, z1, z2, z3, z4, z5⟩ := hBx9.six))
  | fail "region"
  all_goals
    go_wp2
    have hG := ((((((hR9.set 0 (.slice ra rn rc)).set 1 (.int .i64 M)).set 2 (.int .i64 (wh : Int))).set 3 (.slice a4 n4 c4')).set 4 (.slice ua un uc)).set 5 (.bool O))
    simp only [List.setIfInBounds_toArray, List.set_cons_zero, List.set_cons_succ] at hG
    obtain ⟨y0, y1, y2, y3, y4, y5⟩ := hG.six
    have hbel9 : Below w.heap.size w w9 := below_then hbel4.drew (by show w.heap.size ≤ w5.heap.size; omega) hb9
    have hO9 : OHi (w.heap.size + 2) w9 (.slice ra rn rc) (.slice a4 n4 c4') (.slice ua un uc) ls xs pat := by
      have h1 := OHi.kept (w := w5) HO5.out (w' := w5.drew) (Below.refl _ _).drew
      have h2 := h1.kept hb9
      have h3 := Own.kept (w := w5) HOS.out (w' := w5.drew) (Below.refl _ _).drew
      exact ⟨h2.row, h3.kept hb9, h2.pat⟩
    have hO10 := (((((hO9.setCell (a := ⟨w.heap.size + 1, 0, none⟩) (Nat.lt_succ_self _) (.slice ra rn rc)).setCell (a := ⟨w.heap.size + 1, 1, none⟩) (Nat.lt_succ_self _) (.int .i64 M)).setCell (a := ⟨w.heap.size + 1, 2, none⟩) (Nat.lt_succ_self _) (.int .i64 (wh : Int))).setCell (a := ⟨w.heap.size + 1, 3, none⟩) (Nat.lt_succ_self _) (.slice a4 n4 c4')).setCell (a := ⟨w.heap.size + 1, 4, none⟩) (Nat.lt_succ_self _) (.slice ua un uc)).setCell (a := ⟨w.heap.size + 1, 5, none⟩) (Nat.lt_succ_self _) (.bool O)
    have own9' := own9.mono (base' := w.heap.size + 2) (by show w.heap.size + 2 ≤ w5.heap.size; omega)
    have hL10 := (((((own9'.setCell (a := ⟨w.heap.size + 1, 0, none⟩) (Nat.lt_succ_self _) (.slice ra rn rc)).setCell (a := ⟨w.heap.size + 1, 1, none⟩) (Nat.lt_succ_self _) (.int .i64 M)).setCell (a := ⟨w.heap.size + 1, 2, none⟩) (Nat.lt_succ_self _) (.int .i64 (wh : Int))).setCell (a := ⟨w.heap.size + 1, 3, none⟩) (Nat.lt_succ_self _) (.slice a4 n4 c4')).setCell (a := ⟨w.heap.size + 1, 4, none⟩) (Nat.lt_succ_self _) (.slice ua un uc)).setCell (a := ⟨w.heap.size + 1, 5, none⟩) (Nat.lt_succ_self _) (.bool O)
    refine bodyPost_ret (v := .tuple #[.agg (hiC (.slice ra rn rc) M (wh : Int) (.slice a4 n4 c4') (.slice ua un uc) O), .slice a9 n9 c9, .int .i64 0]) (by simp [results, Try.results103, go_sem, y0, y1, y2, y3, y4, y5, hiC]) rfl ?_
    rw [HTH.out]
    exact ⟨.slice ra rn rc, (.slice a4 n4 c4'), .slice ua un uc, .slice a9 n9 c9, rfl, (hO10.hip _ _ _).imp (fun k hk => by omega), hL10.slp.imp (fun k hk => by omega), (((((hbel9.setCell (Nat.le_succ _) _).setCell (Nat.le_succ _) _).setCell (Nat.le_succ _) _).setCell (Nat.le_succ _) _).setCell (Nat.le_succ _) _).setCell (Nat.le_succ _) _⟩

set_option maxRecDepth 100000 in
set_option maxHeartbeats 4000000 in
theorem hist_to_AD (lv : Value) (most wher : Int) (sv pv : Value) (older : Bool) (ls : List (List Int)) (M W : Int) (scr pat : List Int) (O : Bool) (a : Option Addr) (nn c wh : Nat) (xs : List Int) (w : World) (r : HiR w lv most wher sv pv older ⟨ls, M, W, scr, pat, O⟩) (hok : HiOk ⟨ls, M, W, scr, pat, O⟩) (hx : Ints w a xs) (hxn : xs.length = nn) (hx0 : a = none → nn = 0) (hnn : nn ≤ 200)
    (hA : W = ls.length) (hC : wh < ls.length) :
    Calls Try.prog 103 #[.agg (hiC lv most wher sv pv older), .slice a nn c, .int .i64 (wh : Int)] w (HPost (fun k => w.heap.size ≤ k) (toH ⟨ls, M, W, scr, pat, O⟩ xs wh) (toL ⟨ls, M, W, scr, pat, O⟩ xs wh) 0 w) := by
  have hCP := hist_copied lv most wher sv pv older ⟨ls, M, W, scr, pat, O⟩
  have HCP := Lib.hid (fun W r => hCP W r (by have := hok.len; have := hok.most2; omega) hok.lines hok.scr hok.pat)
  have HR0 := Lib.hid r
  have hTS : toS ⟨ls, M, W, scr, pat, O⟩ xs = xs := if_pos hA
  have hTL : toL ⟨ls, M, W, scr, pat, O⟩ xs wh = rx ls wh := if_neg (Nat.ne_of_lt hC)
  obtain ⟨⟨vs, hvs, hls⟩, h1, h2, hscr, hpat, h3⟩ := r
  simp only at hls h1 h2 h3 hscr hpat
  obtain rfl : M = most := h1.symm
  obtain rfl : W = wher := h2.symm
  obtain rfl : O = older := h3.symm
  obtain ⟨la, ln, lc, rfl, hl1, hl2, hl3, hl4, hl5⟩ := hvs
  obtain ⟨sa, sn, sc, rfl, hs1, hs2, hs3, hs4, hs5⟩ := hscr
  obtain ⟨pa, pn, pc, rfl, hp1, hp2, hp3, hp4, hp5⟩ := hpat
  have hll : ls.length = ln := by rw [← hls.len]; exact hl1
  have hs200 : scr.length ≤ 200 := hok.scr
  have hl200 := hok.lines
  rw [hll] at hA hC hl200
  have HTH := Lib.hid (show HPost (fun k => w.heap.size ≤ k) (toH ⟨ls, M, W, scr, pat, O⟩ xs wh) (toL ⟨ls, M, W, scr, pat, O⟩ xs wh) 0 w = HPost (fun k => w.heap.size ≤ k) ⟨ls, M, wh, xs, pat, O⟩ (rx ls wh) 0 w by rw [hTL]; unfold toH; rw [hTS])
  have HLL := Lib.hid hll; have HL1 := Lib.hid hl1; have HLS := Lib.hid hls; have HXN := Lib.hid hxn; have HX0 := Lib.hid hx0; have HS1 := Lib.hid hs1; have H2 := Lib.hid hs200; have HL2 := Lib.hid hl200; have HS5 := Lib.hid hs5
  have hwl : W ≤ (ln : Int) := by have := hok.wher2; simp only at this; omega
  have hAb : (W == (ln : Int)) = true := by simpa using hA
  have hCb : ((wh : Int) == (ln : Int)) = false := by simp; omega
  have hnn2 : nn ≤ 17592186044416 := by omega
  have hwh0 : (0 : Int) ≤ (wh : Int) := by omega
  have hwh1 : (wh : Int) < (ln : Int) := by omega
  unfold hiC at *
  have hB := (Blk.new w #[.slice la ln lc, .int .i64 M, .int .i64 W, .slice sa sn sc, .slice pa pn pc, .bool O] 48).alloc (.cells #[.slice none 0 0, .int .i64 0, .int .i64 0, .slice none 0 0, .slice none 0 0, .bool false] 48)
  have hR := Blk.new (w.alloc (.cells #[.slice la ln lc, .int .i64 M, .int .i64 W, .slice sa sn sc, .slice pa pn pc, .bool O] 48)) #[.slice none 0 0, .int .i64 0, .int .i64 0, .slice none 0 0, .slice none 0 0, .bool false] 48
  rw [World.size_alloc] at hR
  have hacc := below2 w (.cells #[.slice la ln lc, .int .i64 M, .int .i64 W, .slice sa sn sc, .slice pa pn pc, .bool O] 48) (.cells #[.slice none 0 0, .int .i64 0, .int .i64 0, .slice none 0 0, .slice none 0 0, .bool false] 48)
  have hsz : w.heap.size + 2 ≤ ((w.alloc (.cells #[.slice la ln lc, .int .i64 M, .int .i64 W, .slice sa sn sc, .slice pa pn pc, .bool O] 48)).alloc (.cells #[.slice none 0 0, .int .i64 0, .int .i64 0, .slice none 0 0, .slice none 0 0, .bool false] 48)).heap.size := by simp
  have HR1 := Lib.hid (HR0.out.below hacc)
  clear hTS hTL hs1 hp1 hl1 hl5 hs5 hp5 hll hls hxn hx0 hl200 hok hCP HR0 hA 
  go_enter Try.func103, Try.ntmps103
  go_upto_region 1 with fail
  change Code.wp _ _ _ _ ((w.alloc (.cells #[.slice la ln lc, .int .i64 M, .int .i64 W, .slice sa sn sc, .slice pa pn pc, .bool O] 48)).alloc (.cells #[.slice none 0 0, .int .i64 0, .int .i64 0, .slice none 0 0, .slice none 0 0, .bool false] 48))
  generalize ((w.alloc (.cells #[.slice la ln lc, .int .i64 M, .int .i64 W, .slice sa sn sc, .slice pa pn pc, .bool O] 48)).alloc (.cells #[.slice none 0 0, .int .i64 0, .int .i64 0, .slice none 0 0, .slice none 0 0, .bool false] 48)) = w1 at *
  obtain ⟨c0, c1, c2, c3, c4, c5⟩ := hB.six
  go_wp2_with fail
  refine (HCP.out _ HR1.out).mono ?_
  rintro e w2 ⟨lv2, sv2, pv2, vs2, rfl, ho2, hol2, os2, op2, hb2⟩
  have hO2 : OHi w1.heap.size w2 lv2 sv2 pv2 ls scr pat := ⟨⟨vs2, ho2, hol2⟩, os2, op2⟩
  obtain ⟨⟨ra, rn, rc, rfl⟩, ⟨ta, tn, tc, rfl⟩, ⟨ua, un, uc, rfl⟩⟩ := hO2.form
  have hbel2 := below_then hacc (by omega) hb2
  have hB2 := hB.below hb2 hB.lt
  have hR2 := hR.below hb2 hR.lt
  obtain ⟨d0, d1, d2, d3, d4, d5⟩ := hB2.six
  have hlt2 := hB2.lt
  have hz2 := hb2.size
  have HO2 := Lib.hid (hO2.mono (base' := w.heap.size + 2) hsz)
  have hB3 := Blk.new w2 #[.slice ra rn rc, .int .i64 M, .int .i64 W, .slice ta tn tc, .slice ua un uc, .bool O] 48
  have hbel3 := hbel2.alloc (by omega) (.cells #[.slice ra rn rc, .int .i64 M, .int .i64 W, .slice ta tn tc, .slice ua un uc, .bool O] 48)
  have hx3 := hx.below hbel3
  clear hO2 ho2 hol2 os2 op2 c0 c1 c2 c3 c4 c5
  simp only [hiC]
  go_wp2_with ((go_at_call 98); refine (slices_clone a nn c xs _ hx3 HXN.out hnn2 HX0.out).mono ?_; rintro e w4 ⟨v4, rfl, own4, hb4⟩; obtain ⟨a4, n4, c4', rfl⟩ := own4.form; have hB4 := hB3.below hb4 hB3.lt; obtain ⟨e0, e1, e2, e3, e4, e5⟩ := hB4.six; obtain ⟨g0, g1, g2, g3, g4, g5⟩ := hB4.sixf; have hBx := (hB2.alloc (.cells #[.slice ra rn rc, .int .i64 M, .int .i64 W, .slice ta tn tc, .slice ua un uc, .bool O] 48)).below hb4 (by simp; omega); obtain ⟨x0, x1, x2, x3, x4, x5⟩ := hBx.six)
  have hz4 : w2.heap.size + 1 ≤ w4.heap.size := by have := hb4.size; simp at this; omega
  have hbel4 := ((below_then hbel3 (by simp; omega) hb4).setCell (p := ⟨w2.heap.size, 3, none⟩) (by show w.heap.size ≤ w2.heap.size; omega) (.slice a4 n4 c4')).setCell (p := ⟨w2.heap.size, 2, none⟩) (by show w.heap.size ≤ w2.heap.size; omega) (.int .i64 (wh : Int))
  have hb24 : Below w2.heap.size w2 ((w4.setCell ⟨w2.heap.size, 3, none⟩ (.slice a4 n4 c4')).setCell ⟨w2.heap.size, 2, none⟩ (.int .i64 (wh : Int))) := ((below_then (below1 w2 (.cells #[.slice ra rn rc, .int .i64 M, .int .i64 W, .slice ta tn tc, .slice ua un uc, .bool O] 48)) (by simp) hb4).setCell (p := ⟨w2.heap.size, 3, none⟩) (Nat.le_refl _) (.slice a4 n4 c4')).setCell (p := ⟨w2.heap.size, 2, none⟩) (Nat.le_refl _) (.int .i64 (wh : Int))
  have hB5 := (hB4.set 3 (.slice a4 n4 c4')).set 2 (.int .i64 (wh : Int))
  simp only [List.setIfInBounds_toArray, List.set_cons_zero, List.set_cons_succ] at hB5
  have oS : Own 3 (w.heap.size + 2) ((w4.setCell ⟨w2.heap.size, 3, none⟩ (.slice a4 n4 c4')).setCell ⟨w2.heap.size, 2, none⟩ (.int .i64 (wh : Int))) (.slice a4 n4 c4') xs := (((own4.mono (base' := w2.heap.size + 1) (by simp)).setCell (by show w2.heap.size < _; omega) _).setCell (by show w2.heap.size < _; omega) _).mono (by omega)
  have hO5 := HO2.out.kept hb24
  have hR5 := hR2.below hb24 (by omega)
  have hBx5 := hB2.below hb24 (by omega)
  have hz5 : w2.heap.size < ((w4.setCell ⟨w2.heap.size, 3, none⟩ (.slice a4 n4 c4')).setCell ⟨w2.heap.size, 2, none⟩ (.int .i64 (wh : Int))).heap.size := hB5.lt
  have HO5 := Lib.hid hO5; have HOS := Lib.hid oS
  clear hO5 oS hb24 hbel3 hB3
  try clear hB4 e0 e1 e2 e3 e4 e5 g0 g1 g2 g3 g4 g5 x0 x1 x2 x3 x4 x5 hBx own4 hb4
  generalize ((w4.setCell ⟨w2.heap.size, 3, none⟩ (.slice a4 n4 c4')).setCell ⟨w2.heap.size, 2, none⟩ (.int .i64 (wh : Int))) = w5 at *
  obtain ⟨e0, e1, e2, e3, e4, e5⟩ := hB5.six
  obtain ⟨x0, x1, x2, x3, x4, x5⟩ := hBx5.six
  obtain ⟨p0, p1, p2, p3, p4, p5⟩ := hR5.six
  obtain ⟨t0, t1, t2, t3, t4, t5⟩ := hR5.sixf
  obtain ⟨b7, o7, rfl, hc7⟩ := (hl4.below hbel4).at (k := wh) (by rw [HL1.out]; exact hC)
  have e7 := hc7 wh (by rw [HL1.out]; exact hC)
  obtain ⟨ya, yn, yc, y1, k1, y3, y4, k4, k5⟩ := (HLS.out.below hbel4).sl wh (by rw [HLL.out]; exact hC)
  rw [y1] at e7
  have hsn : yn ≤ 17592186044416 := by rw [← k1]; have := HL2.out wh hC; omega
  have K1 := Lib.hid k1; have K5 := Lib.hid k5
  have k4' := k4.drew
  clear k1 k5 hc7 y1
  first
  | go_region_law ((go_simp; go_at_call 98; ((with_reducible refine (slices_clone ya yn yc (rx ls wh) w5.drew k4' K1.out hsn K5.out).mono ?_)); rintro e w9 ⟨v9, rfl, own9, hb9⟩; obtain ⟨a9, n9, c9, rfl⟩ := own9.form; have hB9 := hB5.drew.below hb9 hB5.lt; obtain ⟨f0, f1, f2, f3, f4, f5⟩ := hB9.six; have hR9 := hR5.drew.below hb9 hR5.lt; obtain ⟨q0, q1, q2, q3, q4, q5⟩ := hR9.six; obtain ⟨u0, u1, u2, u3, u4, u5⟩ := hR9.sixf; have hBx9 := hBx5.drew.below hb9 hBx5.lt; obtain ⟨z0, z1, z2, z3, z4, z5⟩ := hBx9.six))
  | fail "region"
  all_goals
    go_wp2
    have hG := ((((((hR9.set 0 (.slice ra rn rc)).set 1 (.int .i64 M)).set 2 (.int .i64 (wh : Int))).set 3 (.slice a4 n4 c4')).set 4 (.slice ua un uc)).set 5 (.bool O))
    simp only [List.setIfInBounds_toArray, List.set_cons_zero, List.set_cons_succ] at hG
    obtain ⟨y0, y1, y2, y3, y4, y5⟩ := hG.six
    have hbel9 : Below w.heap.size w w9 := below_then hbel4.drew (by show w.heap.size ≤ w5.heap.size; omega) hb9
    have hO9 : OHi (w.heap.size + 2) w9 (.slice ra rn rc) (.slice a4 n4 c4') (.slice ua un uc) ls xs pat := by
      have h1 := OHi.kept (w := w5) HO5.out (w' := w5.drew) (Below.refl _ _).drew
      have h2 := h1.kept hb9
      have h3 := Own.kept (w := w5) HOS.out (w' := w5.drew) (Below.refl _ _).drew
      exact ⟨h2.row, h3.kept hb9, h2.pat⟩
    have hO10 := (((((hO9.setCell (a := ⟨w.heap.size + 1, 0, none⟩) (Nat.lt_succ_self _) (.slice ra rn rc)).setCell (a := ⟨w.heap.size + 1, 1, none⟩) (Nat.lt_succ_self _) (.int .i64 M)).setCell (a := ⟨w.heap.size + 1, 2, none⟩) (Nat.lt_succ_self _) (.int .i64 (wh : Int))).setCell (a := ⟨w.heap.size + 1, 3, none⟩) (Nat.lt_succ_self _) (.slice a4 n4 c4')).setCell (a := ⟨w.heap.size + 1, 4, none⟩) (Nat.lt_succ_self _) (.slice ua un uc)).setCell (a := ⟨w.heap.size + 1, 5, none⟩) (Nat.lt_succ_self _) (.bool O)
    have own9' := own9.mono (base' := w.heap.size + 2) (by show w.heap.size + 2 ≤ w5.heap.size; omega)
    have hL10 := (((((own9'.setCell (a := ⟨w.heap.size + 1, 0, none⟩) (Nat.lt_succ_self _) (.slice ra rn rc)).setCell (a := ⟨w.heap.size + 1, 1, none⟩) (Nat.lt_succ_self _) (.int .i64 M)).setCell (a := ⟨w.heap.size + 1, 2, none⟩) (Nat.lt_succ_self _) (.int .i64 (wh : Int))).setCell (a := ⟨w.heap.size + 1, 3, none⟩) (Nat.lt_succ_self _) (.slice a4 n4 c4')).setCell (a := ⟨w.heap.size + 1, 4, none⟩) (Nat.lt_succ_self _) (.slice ua un uc)).setCell (a := ⟨w.heap.size + 1, 5, none⟩) (Nat.lt_succ_self _) (.bool O)
    refine bodyPost_ret (v := .tuple #[.agg (hiC (.slice ra rn rc) M (wh : Int) (.slice a4 n4 c4') (.slice ua un uc) O), .slice a9 n9 c9, .int .i64 0]) (by simp [results, Try.results103, go_sem, y0, y1, y2, y3, y4, y5, hiC]) rfl ?_
    rw [HTH.out]
    exact ⟨.slice ra rn rc, (.slice a4 n4 c4'), .slice ua un uc, .slice a9 n9 c9, rfl, (hO10.hip _ _ _).imp (fun k hk => by omega), hL10.slp.imp (fun k hk => by omega), (((((hbel9.setCell (Nat.le_succ _) _).setCell (Nat.le_succ _) _).setCell (Nat.le_succ _) _).setCell (Nat.le_succ _) _).setCell (Nat.le_succ _) _).setCell (Nat.le_succ _) _⟩

set_option maxRecDepth 100000 in
set_option maxHeartbeats 4000000 in
theorem hist_to_BC (lv : Value) (most wher : Int) (sv pv : Value) (older : Bool) (ls : List (List Int)) (M W : Int) (scr pat : List Int) (O : Bool) (a : Option Addr) (nn c wh : Nat) (xs : List Int) (w : World) (r : HiR w lv most wher sv pv older ⟨ls, M, W, scr, pat, O⟩) (hok : HiOk ⟨ls, M, W, scr, pat, O⟩) (hx : Ints w a xs) (hxn : xs.length = nn) (hx0 : a = none → nn = 0) (hnn : nn ≤ 200)
    (hA : W ≠ ls.length) (hC : wh = ls.length) :
    Calls Try.prog 103 #[.agg (hiC lv most wher sv pv older), .slice a nn c, .int .i64 (wh : Int)] w (HPost (fun k => w.heap.size ≤ k) (toH ⟨ls, M, W, scr, pat, O⟩ xs wh) (toL ⟨ls, M, W, scr, pat, O⟩ xs wh) 0 w) := by
  have hCP := hist_copied lv most wher sv pv older ⟨ls, M, W, scr, pat, O⟩
  have HCP := Lib.hid (fun W r => hCP W r (by have := hok.len; have := hok.most2; omega) hok.lines hok.scr hok.pat)
  have HR0 := Lib.hid r
  have hTS : toS ⟨ls, M, W, scr, pat, O⟩ xs = scr := if_neg hA
  have hTL : toL ⟨ls, M, W, scr, pat, O⟩ xs wh = toS ⟨ls, M, W, scr, pat, O⟩ xs := if_pos hC
  obtain ⟨⟨vs, hvs, hls⟩, h1, h2, hscr, hpat, h3⟩ := r
  simp only at hls h1 h2 h3 hscr hpat
  obtain rfl : M = most := h1.symm
  obtain rfl : W = wher := h2.symm
  obtain rfl : O = older := h3.symm
  obtain ⟨la, ln, lc, rfl, hl1, hl2, hl3, hl4, hl5⟩ := hvs
  obtain ⟨sa, sn, sc, rfl, hs1, hs2, hs3, hs4, hs5⟩ := hscr
  obtain ⟨pa, pn, pc, rfl, hp1, hp2, hp3, hp4, hp5⟩ := hpat
  have hll : ls.length = ln := by rw [← hls.len]; exact hl1
  have hs200 : scr.length ≤ 200 := hok.scr
  have hl200 := hok.lines
  rw [hll] at hA hC hl200
  have HTH := Lib.hid (show HPost (fun k => w.heap.size ≤ k) (toH ⟨ls, M, W, scr, pat, O⟩ xs wh) (toL ⟨ls, M, W, scr, pat, O⟩ xs wh) 0 w = HPost (fun k => w.heap.size ≤ k) ⟨ls, M, wh, scr, pat, O⟩ (scr) 0 w by rw [hTL, hTS]; unfold toH; rw [hTS])
  have HLL := Lib.hid hll; have HL1 := Lib.hid hl1; have HLS := Lib.hid hls; have HXN := Lib.hid hxn; have HX0 := Lib.hid hx0; have HS1 := Lib.hid hs1; have H2 := Lib.hid hs200; have HL2 := Lib.hid hl200; have HS5 := Lib.hid hs5
  have hwl : W ≤ (ln : Int) := by have := hok.wher2; simp only at this; omega
  have hAb : (W == (ln : Int)) = false := by simpa using hA
  have hCb : ((wh : Int) == (ln : Int)) = true := by simp; omega
  have hnn2 : nn ≤ 17592186044416 := by omega
  
  
  unfold hiC at *
  have hB := (Blk.new w #[.slice la ln lc, .int .i64 M, .int .i64 W, .slice sa sn sc, .slice pa pn pc, .bool O] 48).alloc (.cells #[.slice none 0 0, .int .i64 0, .int .i64 0, .slice none 0 0, .slice none 0 0, .bool false] 48)
  have hR := Blk.new (w.alloc (.cells #[.slice la ln lc, .int .i64 M, .int .i64 W, .slice sa sn sc, .slice pa pn pc, .bool O] 48)) #[.slice none 0 0, .int .i64 0, .int .i64 0, .slice none 0 0, .slice none 0 0, .bool false] 48
  rw [World.size_alloc] at hR
  have hacc := below2 w (.cells #[.slice la ln lc, .int .i64 M, .int .i64 W, .slice sa sn sc, .slice pa pn pc, .bool O] 48) (.cells #[.slice none 0 0, .int .i64 0, .int .i64 0, .slice none 0 0, .slice none 0 0, .bool false] 48)
  have hsz : w.heap.size + 2 ≤ ((w.alloc (.cells #[.slice la ln lc, .int .i64 M, .int .i64 W, .slice sa sn sc, .slice pa pn pc, .bool O] 48)).alloc (.cells #[.slice none 0 0, .int .i64 0, .int .i64 0, .slice none 0 0, .slice none 0 0, .bool false] 48)).heap.size := by simp
  have HR1 := Lib.hid (HR0.out.below hacc)
  clear hTS hTL hs1 hp1 hl1 hl5 hs5 hp5 hll hls hxn hx0 hl200 hok hCP HR0 hA hC
  go_enter Try.func103, Try.ntmps103
  go_upto_region 1 with fail
  change Code.wp _ _ _ _ ((w.alloc (.cells #[.slice la ln lc, .int .i64 M, .int .i64 W, .slice sa sn sc, .slice pa pn pc, .bool O] 48)).alloc (.cells #[.slice none 0 0, .int .i64 0, .int .i64 0, .slice none 0 0, .slice none 0 0, .bool false] 48))
  generalize ((w.alloc (.cells #[.slice la ln lc, .int .i64 M, .int .i64 W, .slice sa sn sc, .slice pa pn pc, .bool O] 48)).alloc (.cells #[.slice none 0 0, .int .i64 0, .int .i64 0, .slice none 0 0, .slice none 0 0, .bool false] 48)) = w1 at *
  obtain ⟨c0, c1, c2, c3, c4, c5⟩ := hB.six
  go_wp2_with fail
  refine (HCP.out _ HR1.out).mono ?_
  rintro e w2 ⟨lv2, sv2, pv2, vs2, rfl, ho2, hol2, os2, op2, hb2⟩
  have hO2 : OHi w1.heap.size w2 lv2 sv2 pv2 ls scr pat := ⟨⟨vs2, ho2, hol2⟩, os2, op2⟩
  obtain ⟨⟨ra, rn, rc, rfl⟩, ⟨ta, tn, tc, rfl⟩, ⟨ua, un, uc, rfl⟩⟩ := hO2.form
  have hbel2 := below_then hacc (by omega) hb2
  have hB2 := hB.below hb2 hB.lt
  have hR2 := hR.below hb2 hR.lt
  obtain ⟨d0, d1, d2, d3, d4, d5⟩ := hB2.six
  have hlt2 := hB2.lt
  have hz2 := hb2.size
  have HO2 := Lib.hid (hO2.mono (base' := w.heap.size + 2) hsz)
  have hB3 := Blk.new w2 #[.slice ra rn rc, .int .i64 M, .int .i64 W, .slice ta tn tc, .slice ua un uc, .bool O] 48
  have hbel3 := hbel2.alloc (by omega) (.cells #[.slice ra rn rc, .int .i64 M, .int .i64 W, .slice ta tn tc, .slice ua un uc, .bool O] 48)
  have hx3 := hx.below hbel3
  clear hO2 ho2 hol2 os2 op2 c0 c1 c2 c3 c4 c5
  simp only [hiC]
  go_wp2
  have hbel4 := hbel2.alloc (by omega) (.cells #[.slice ra rn rc, .int .i64 M, .int .i64 (wh : Int), .slice ta tn tc, .slice ua un uc, .bool O] 48)
  have hb24 := below1 w2 (.cells #[.slice ra rn rc, .int .i64 M, .int .i64 (wh : Int), .slice ta tn tc, .slice ua un uc, .bool O] 48)
  have hB5 := Blk.new w2 #[.slice ra rn rc, .int .i64 M, .int .i64 (wh : Int), .slice ta tn tc, .slice ua un uc, .bool O] 48
  have oS : Own 3 (w.heap.size + 2) (w2.alloc (.cells #[.slice ra rn rc, .int .i64 M, .int .i64 (wh : Int), .slice ta tn tc, .slice ua un uc, .bool O] 48)) (.slice ta tn tc) scr := (HO2.out.kept hb24).scr
  have hO5 := HO2.out.kept hb24
  have hR5 := hR2.below hb24 (by omega)
  have hBx5 := hB2.below hb24 (by omega)
  have hz5 : w2.heap.size < (w2.alloc (.cells #[.slice ra rn rc, .int .i64 M, .int .i64 (wh : Int), .slice ta tn tc, .slice ua un uc, .bool O] 48)).heap.size := hB5.lt
  have HO5 := Lib.hid hO5; have HOS := Lib.hid oS
  clear hO5 oS hb24 hbel3 hB3
  try clear hB4 e0 e1 e2 e3 e4 e5 g0 g1 g2 g3 g4 g5 x0 x1 x2 x3 x4 x5 hBx own4 hb4
  generalize (w2.alloc (.cells #[.slice ra rn rc, .int .i64 M, .int .i64 (wh : Int), .slice ta tn tc, .slice ua un uc, .bool O] 48)) = w5 at *
  obtain ⟨e0, e1, e2, e3, e4, e5⟩ := hB5.six
  obtain ⟨x0, x1, x2, x3, x4, x5⟩ := hBx5.six
  obtain ⟨p0, p1, p2, p3, p4, p5⟩ := hR5.six
  obtain ⟨t0, t1, t2, t3, t4, t5⟩ := hR5.sixf
  obtain ⟨k1, k2, k3, k4, k5⟩ := HOS.out.sl.drew.get
  have hsn : tn ≤ 17592186044416 := by rw [← k1]; have := H2.out; omega
  have K1 := Lib.hid k1; have K5 := Lib.hid k5
  clear k1 k5
  first
  | go_region_law ((go_simp; go_at_call 98; ((with_reducible refine (slices_clone ta tn tc scr w5.drew k4 K1.out hsn K5.out).mono ?_)); rintro e w9 ⟨v9, rfl, own9, hb9⟩; obtain ⟨a9, n9, c9, rfl⟩ := own9.form; have hB9 := hB5.drew.below hb9 hB5.lt; obtain ⟨f0, f1, f2, f3, f4, f5⟩ := hB9.six; have hR9 := hR5.drew.below hb9 hR5.lt; obtain ⟨q0, q1, q2, q3, q4, q5⟩ := hR9.six; obtain ⟨u0, u1, u2, u3, u4, u5⟩ := hR9.sixf; have hBx9 := hBx5.drew.below hb9 hBx5.lt; obtain ⟨z0, z1, z2, z3, z4, z5⟩ := hBx9.six))
  | fail "region"
  all_goals
    go_wp2
    have hG := ((((((hR9.set 0 (.slice ra rn rc)).set 1 (.int .i64 M)).set 2 (.int .i64 (wh : Int))).set 3 (.slice ta tn tc)).set 4 (.slice ua un uc)).set 5 (.bool O))
    simp only [List.setIfInBounds_toArray, List.set_cons_zero, List.set_cons_succ] at hG
    obtain ⟨y0, y1, y2, y3, y4, y5⟩ := hG.six
    have hbel9 : Below w.heap.size w w9 := below_then hbel4.drew (by show w.heap.size ≤ w5.heap.size; omega) hb9
    have hO9 : OHi (w.heap.size + 2) w9 (.slice ra rn rc) (.slice ta tn tc) (.slice ua un uc) ls scr pat := by
      have h1 := OHi.kept (w := w5) HO5.out (w' := w5.drew) (Below.refl _ _).drew
      have h2 := h1.kept hb9
      have h3 := Own.kept (w := w5) HOS.out (w' := w5.drew) (Below.refl _ _).drew
      exact ⟨h2.row, h3.kept hb9, h2.pat⟩
    have hO10 := (((((hO9.setCell (a := ⟨w.heap.size + 1, 0, none⟩) (Nat.lt_succ_self _) (.slice ra rn rc)).setCell (a := ⟨w.heap.size + 1, 1, none⟩) (Nat.lt_succ_self _) (.int .i64 M)).setCell (a := ⟨w.heap.size + 1, 2, none⟩) (Nat.lt_succ_self _) (.int .i64 (wh : Int))).setCell (a := ⟨w.heap.size + 1, 3, none⟩) (Nat.lt_succ_self _) (.slice ta tn tc)).setCell (a := ⟨w.heap.size + 1, 4, none⟩) (Nat.lt_succ_self _) (.slice ua un uc)).setCell (a := ⟨w.heap.size + 1, 5, none⟩) (Nat.lt_succ_self _) (.bool O)
    have own9' := own9.mono (base' := w.heap.size + 2) (by show w.heap.size + 2 ≤ w5.heap.size; omega)
    have hL10 := (((((own9'.setCell (a := ⟨w.heap.size + 1, 0, none⟩) (Nat.lt_succ_self _) (.slice ra rn rc)).setCell (a := ⟨w.heap.size + 1, 1, none⟩) (Nat.lt_succ_self _) (.int .i64 M)).setCell (a := ⟨w.heap.size + 1, 2, none⟩) (Nat.lt_succ_self _) (.int .i64 (wh : Int))).setCell (a := ⟨w.heap.size + 1, 3, none⟩) (Nat.lt_succ_self _) (.slice ta tn tc)).setCell (a := ⟨w.heap.size + 1, 4, none⟩) (Nat.lt_succ_self _) (.slice ua un uc)).setCell (a := ⟨w.heap.size + 1, 5, none⟩) (Nat.lt_succ_self _) (.bool O)
    refine bodyPost_ret (v := .tuple #[.agg (hiC (.slice ra rn rc) M (wh : Int) (.slice ta tn tc) (.slice ua un uc) O), .slice a9 n9 c9, .int .i64 0]) (by simp [results, Try.results103, go_sem, y0, y1, y2, y3, y4, y5, hiC]) rfl ?_
    rw [HTH.out]
    exact ⟨.slice ra rn rc, (.slice ta tn tc), .slice ua un uc, .slice a9 n9 c9, rfl, (hO10.hip _ _ _).imp (fun k hk => by omega), hL10.slp.imp (fun k hk => by omega), (((((hbel9.setCell (Nat.le_succ _) _).setCell (Nat.le_succ _) _).setCell (Nat.le_succ _) _).setCell (Nat.le_succ _) _).setCell (Nat.le_succ _) _).setCell (Nat.le_succ _) _⟩

set_option maxRecDepth 100000 in
set_option maxHeartbeats 4000000 in
theorem hist_to_BD (lv : Value) (most wher : Int) (sv pv : Value) (older : Bool) (ls : List (List Int)) (M W : Int) (scr pat : List Int) (O : Bool) (a : Option Addr) (nn c wh : Nat) (xs : List Int) (w : World) (r : HiR w lv most wher sv pv older ⟨ls, M, W, scr, pat, O⟩) (hok : HiOk ⟨ls, M, W, scr, pat, O⟩) (hx : Ints w a xs) (hxn : xs.length = nn) (hx0 : a = none → nn = 0) (hnn : nn ≤ 200)
    (hA : W ≠ ls.length) (hC : wh < ls.length) :
    Calls Try.prog 103 #[.agg (hiC lv most wher sv pv older), .slice a nn c, .int .i64 (wh : Int)] w (HPost (fun k => w.heap.size ≤ k) (toH ⟨ls, M, W, scr, pat, O⟩ xs wh) (toL ⟨ls, M, W, scr, pat, O⟩ xs wh) 0 w) := by
  have hCP := hist_copied lv most wher sv pv older ⟨ls, M, W, scr, pat, O⟩
  have HCP := Lib.hid (fun W r => hCP W r (by have := hok.len; have := hok.most2; omega) hok.lines hok.scr hok.pat)
  have HR0 := Lib.hid r
  have hTS : toS ⟨ls, M, W, scr, pat, O⟩ xs = scr := if_neg hA
  have hTL : toL ⟨ls, M, W, scr, pat, O⟩ xs wh = rx ls wh := if_neg (Nat.ne_of_lt hC)
  obtain ⟨⟨vs, hvs, hls⟩, h1, h2, hscr, hpat, h3⟩ := r
  simp only at hls h1 h2 h3 hscr hpat
  obtain rfl : M = most := h1.symm
  obtain rfl : W = wher := h2.symm
  obtain rfl : O = older := h3.symm
  obtain ⟨la, ln, lc, rfl, hl1, hl2, hl3, hl4, hl5⟩ := hvs
  obtain ⟨sa, sn, sc, rfl, hs1, hs2, hs3, hs4, hs5⟩ := hscr
  obtain ⟨pa, pn, pc, rfl, hp1, hp2, hp3, hp4, hp5⟩ := hpat
  have hll : ls.length = ln := by rw [← hls.len]; exact hl1
  have hs200 : scr.length ≤ 200 := hok.scr
  have hl200 := hok.lines
  rw [hll] at hA hC hl200
  have HTH := Lib.hid (show HPost (fun k => w.heap.size ≤ k) (toH ⟨ls, M, W, scr, pat, O⟩ xs wh) (toL ⟨ls, M, W, scr, pat, O⟩ xs wh) 0 w = HPost (fun k => w.heap.size ≤ k) ⟨ls, M, wh, scr, pat, O⟩ (rx ls wh) 0 w by rw [hTL]; unfold toH; rw [hTS])
  have HLL := Lib.hid hll; have HL1 := Lib.hid hl1; have HLS := Lib.hid hls; have HXN := Lib.hid hxn; have HX0 := Lib.hid hx0; have HS1 := Lib.hid hs1; have H2 := Lib.hid hs200; have HL2 := Lib.hid hl200; have HS5 := Lib.hid hs5
  have hwl : W ≤ (ln : Int) := by have := hok.wher2; simp only at this; omega
  have hAb : (W == (ln : Int)) = false := by simpa using hA
  have hCb : ((wh : Int) == (ln : Int)) = false := by simp; omega
  have hnn2 : nn ≤ 17592186044416 := by omega
  have hwh0 : (0 : Int) ≤ (wh : Int) := by omega
  have hwh1 : (wh : Int) < (ln : Int) := by omega
  unfold hiC at *
  have hB := (Blk.new w #[.slice la ln lc, .int .i64 M, .int .i64 W, .slice sa sn sc, .slice pa pn pc, .bool O] 48).alloc (.cells #[.slice none 0 0, .int .i64 0, .int .i64 0, .slice none 0 0, .slice none 0 0, .bool false] 48)
  have hR := Blk.new (w.alloc (.cells #[.slice la ln lc, .int .i64 M, .int .i64 W, .slice sa sn sc, .slice pa pn pc, .bool O] 48)) #[.slice none 0 0, .int .i64 0, .int .i64 0, .slice none 0 0, .slice none 0 0, .bool false] 48
  rw [World.size_alloc] at hR
  have hacc := below2 w (.cells #[.slice la ln lc, .int .i64 M, .int .i64 W, .slice sa sn sc, .slice pa pn pc, .bool O] 48) (.cells #[.slice none 0 0, .int .i64 0, .int .i64 0, .slice none 0 0, .slice none 0 0, .bool false] 48)
  have hsz : w.heap.size + 2 ≤ ((w.alloc (.cells #[.slice la ln lc, .int .i64 M, .int .i64 W, .slice sa sn sc, .slice pa pn pc, .bool O] 48)).alloc (.cells #[.slice none 0 0, .int .i64 0, .int .i64 0, .slice none 0 0, .slice none 0 0, .bool false] 48)).heap.size := by simp
  have HR1 := Lib.hid (HR0.out.below hacc)
  clear hTS hTL hs1 hp1 hl1 hl5 hs5 hp5 hll hls hxn hx0 hl200 hok hCP HR0 hA 
  go_enter Try.func103, Try.ntmps103
  go_upto_region 1 with fail
  change Code.wp _ _ _ _ ((w.alloc (.cells #[.slice la ln lc, .int .i64 M, .int .i64 W, .slice sa sn sc, .slice pa pn pc, .bool O] 48)).alloc (.cells #[.slice none 0 0, .int .i64 0, .int .i64 0, .slice none 0 0, .slice none 0 0, .bool false] 48))
  generalize ((w.alloc (.cells #[.slice la ln lc, .int .i64 M, .int .i64 W, .slice sa sn sc, .slice pa pn pc, .bool O] 48)).alloc (.cells #[.slice none 0 0, .int .i64 0, .int .i64 0, .slice none 0 0, .slice none 0 0, .bool false] 48)) = w1 at *
  obtain ⟨c0, c1, c2, c3, c4, c5⟩ := hB.six
  go_wp2_with fail
  refine (HCP.out _ HR1.out).mono ?_
  rintro e w2 ⟨lv2, sv2, pv2, vs2, rfl, ho2, hol2, os2, op2, hb2⟩
  have hO2 : OHi w1.heap.size w2 lv2 sv2 pv2 ls scr pat := ⟨⟨vs2, ho2, hol2⟩, os2, op2⟩
  obtain ⟨⟨ra, rn, rc, rfl⟩, ⟨ta, tn, tc, rfl⟩, ⟨ua, un, uc, rfl⟩⟩ := hO2.form
  have hbel2 := below_then hacc (by omega) hb2
  have hB2 := hB.below hb2 hB.lt
  have hR2 := hR.below hb2 hR.lt
  obtain ⟨d0, d1, d2, d3, d4, d5⟩ := hB2.six
  have hlt2 := hB2.lt
  have hz2 := hb2.size
  have HO2 := Lib.hid (hO2.mono (base' := w.heap.size + 2) hsz)
  have hB3 := Blk.new w2 #[.slice ra rn rc, .int .i64 M, .int .i64 W, .slice ta tn tc, .slice ua un uc, .bool O] 48
  have hbel3 := hbel2.alloc (by omega) (.cells #[.slice ra rn rc, .int .i64 M, .int .i64 W, .slice ta tn tc, .slice ua un uc, .bool O] 48)
  have hx3 := hx.below hbel3
  clear hO2 ho2 hol2 os2 op2 c0 c1 c2 c3 c4 c5
  simp only [hiC]
  go_wp2
  have hbel4 := hbel2.alloc (by omega) (.cells #[.slice ra rn rc, .int .i64 M, .int .i64 (wh : Int), .slice ta tn tc, .slice ua un uc, .bool O] 48)
  have hb24 := below1 w2 (.cells #[.slice ra rn rc, .int .i64 M, .int .i64 (wh : Int), .slice ta tn tc, .slice ua un uc, .bool O] 48)
  have hB5 := Blk.new w2 #[.slice ra rn rc, .int .i64 M, .int .i64 (wh : Int), .slice ta tn tc, .slice ua un uc, .bool O] 48
  have oS : Own 3 (w.heap.size + 2) (w2.alloc (.cells #[.slice ra rn rc, .int .i64 M, .int .i64 (wh : Int), .slice ta tn tc, .slice ua un uc, .bool O] 48)) (.slice ta tn tc) scr := (HO2.out.kept hb24).scr
  have hO5 := HO2.out.kept hb24
  have hR5 := hR2.below hb24 (by omega)
  have hBx5 := hB2.below hb24 (by omega)
  have hz5 : w2.heap.size < (w2.alloc (.cells #[.slice ra rn rc, .int .i64 M, .int .i64 (wh : Int), .slice ta tn tc, .slice ua un uc, .bool O] 48)).heap.size := hB5.lt
  have HO5 := Lib.hid hO5; have HOS := Lib.hid oS
  clear hO5 oS hb24 hbel3 hB3
  try clear hB4 e0 e1 e2 e3 e4 e5 g0 g1 g2 g3 g4 g5 x0 x1 x2 x3 x4 x5 hBx own4 hb4
  generalize (w2.alloc (.cells #[.slice ra rn rc, .int .i64 M, .int .i64 (wh : Int), .slice ta tn tc, .slice ua un uc, .bool O] 48)) = w5 at *
  obtain ⟨e0, e1, e2, e3, e4, e5⟩ := hB5.six
  obtain ⟨x0, x1, x2, x3, x4, x5⟩ := hBx5.six
  obtain ⟨p0, p1, p2, p3, p4, p5⟩ := hR5.six
  obtain ⟨t0, t1, t2, t3, t4, t5⟩ := hR5.sixf
  obtain ⟨b7, o7, rfl, hc7⟩ := (hl4.below hbel4).at (k := wh) (by rw [HL1.out]; exact hC)
  have e7 := hc7 wh (by rw [HL1.out]; exact hC)
  obtain ⟨ya, yn, yc, y1, k1, y3, y4, k4, k5⟩ := (HLS.out.below hbel4).sl wh (by rw [HLL.out]; exact hC)
  rw [y1] at e7
  have hsn : yn ≤ 17592186044416 := by rw [← k1]; have := HL2.out wh hC; omega
  have K1 := Lib.hid k1; have K5 := Lib.hid k5
  have k4' := k4.drew
  clear k1 k5 hc7 y1
  first
  | go_region_law ((go_simp; go_at_call 98; ((with_reducible refine (slices_clone ya yn yc (rx ls wh) w5.drew k4' K1.out hsn K5.out).mono ?_)); rintro e w9 ⟨v9, rfl, own9, hb9⟩; obtain ⟨a9, n9, c9, rfl⟩ := own9.form; have hB9 := hB5.drew.below hb9 hB5.lt; obtain ⟨f0, f1, f2, f3, f4, f5⟩ := hB9.six; have hR9 := hR5.drew.below hb9 hR5.lt; obtain ⟨q0, q1, q2, q3, q4, q5⟩ := hR9.six; obtain ⟨u0, u1, u2, u3, u4, u5⟩ := hR9.sixf; have hBx9 := hBx5.drew.below hb9 hBx5.lt; obtain ⟨z0, z1, z2, z3, z4, z5⟩ := hBx9.six))
  | fail "region"
  all_goals
    go_wp2
    have hG := ((((((hR9.set 0 (.slice ra rn rc)).set 1 (.int .i64 M)).set 2 (.int .i64 (wh : Int))).set 3 (.slice ta tn tc)).set 4 (.slice ua un uc)).set 5 (.bool O))
    simp only [List.setIfInBounds_toArray, List.set_cons_zero, List.set_cons_succ] at hG
    obtain ⟨y0, y1, y2, y3, y4, y5⟩ := hG.six
    have hbel9 : Below w.heap.size w w9 := below_then hbel4.drew (by show w.heap.size ≤ w5.heap.size; omega) hb9
    have hO9 : OHi (w.heap.size + 2) w9 (.slice ra rn rc) (.slice ta tn tc) (.slice ua un uc) ls scr pat := by
      have h1 := OHi.kept (w := w5) HO5.out (w' := w5.drew) (Below.refl _ _).drew
      have h2 := h1.kept hb9
      have h3 := Own.kept (w := w5) HOS.out (w' := w5.drew) (Below.refl _ _).drew
      exact ⟨h2.row, h3.kept hb9, h2.pat⟩
    have hO10 := (((((hO9.setCell (a := ⟨w.heap.size + 1, 0, none⟩) (Nat.lt_succ_self _) (.slice ra rn rc)).setCell (a := ⟨w.heap.size + 1, 1, none⟩) (Nat.lt_succ_self _) (.int .i64 M)).setCell (a := ⟨w.heap.size + 1, 2, none⟩) (Nat.lt_succ_self _) (.int .i64 (wh : Int))).setCell (a := ⟨w.heap.size + 1, 3, none⟩) (Nat.lt_succ_self _) (.slice ta tn tc)).setCell (a := ⟨w.heap.size + 1, 4, none⟩) (Nat.lt_succ_self _) (.slice ua un uc)).setCell (a := ⟨w.heap.size + 1, 5, none⟩) (Nat.lt_succ_self _) (.bool O)
    have own9' := own9.mono (base' := w.heap.size + 2) (by show w.heap.size + 2 ≤ w5.heap.size; omega)
    have hL10 := (((((own9'.setCell (a := ⟨w.heap.size + 1, 0, none⟩) (Nat.lt_succ_self _) (.slice ra rn rc)).setCell (a := ⟨w.heap.size + 1, 1, none⟩) (Nat.lt_succ_self _) (.int .i64 M)).setCell (a := ⟨w.heap.size + 1, 2, none⟩) (Nat.lt_succ_self _) (.int .i64 (wh : Int))).setCell (a := ⟨w.heap.size + 1, 3, none⟩) (Nat.lt_succ_self _) (.slice ta tn tc)).setCell (a := ⟨w.heap.size + 1, 4, none⟩) (Nat.lt_succ_self _) (.slice ua un uc)).setCell (a := ⟨w.heap.size + 1, 5, none⟩) (Nat.lt_succ_self _) (.bool O)
    refine bodyPost_ret (v := .tuple #[.agg (hiC (.slice ra rn rc) M (wh : Int) (.slice ta tn tc) (.slice ua un uc) O), .slice a9 n9 c9, .int .i64 0]) (by simp [results, Try.results103, go_sem, y0, y1, y2, y3, y4, y5, hiC]) rfl ?_
    rw [HTH.out]
    exact ⟨.slice ra rn rc, (.slice ta tn tc), .slice ua un uc, .slice a9 n9 c9, rfl, (hO10.hip _ _ _).imp (fun k hk => by omega), hL10.slp.imp (fun k hk => by omega), (((((hbel9.setCell (Nat.le_succ _) _).setCell (Nat.le_succ _) _).setCell (Nat.le_succ _) _).setCell (Nat.le_succ _) _).setCell (Nat.le_succ _) _).setCell (Nat.le_succ _) _⟩

theorem hist_to (lv : Value) (most wher : Int) (sv pv : Value) (older : Bool) (h : Hi) (a : Option Addr) (nn c wh : Nat) (xs : List Int) (w : World) (r : HiR w lv most wher sv pv older h) (hok : HiOk h) (hx : Ints w a xs) (hxn : xs.length = nn) (hx0 : a = none → nn = 0) (hnn : nn ≤ 200) (hw : wh ≤ h.ls.length) :
    Calls Try.prog 103 #[.agg (hiC lv most wher sv pv older), .slice a nn c, .int .i64 (wh : Int)] w (HPost (fun k => w.heap.size ≤ k) (toH h xs wh) (toL h xs wh) 0 w) := by
  obtain ⟨ls, M, W, scr, pat, O⟩ := h
  by_cases hA : W = ls.length
  · rcases (show wh = ls.length ∨ wh < ls.length by simp only at hw; omega) with hC | hC
    · exact hist_to_AC lv most wher sv pv older ls M W scr pat O a nn c wh xs w r hok hx hxn hx0 hnn hA hC
    · exact hist_to_AD lv most wher sv pv older ls M W scr pat O a nn c wh xs w r hok hx hxn hx0 hnn hA hC
  · rcases (show wh = ls.length ∨ wh < ls.length by simp only at hw; omega) with hC | hC
    · exact hist_to_BC lv most wher sv pv older ls M W scr pat O a nn c wh xs w r hok hx hxn hx0 hnn hA hC
    · exact hist_to_BD lv most wher sv pv older ls M W scr pat O a nn c wh xs w r hok hx hxn hx0 hnn hA hC

end Go.Proofs.Ytmipnikhgihcpaa
