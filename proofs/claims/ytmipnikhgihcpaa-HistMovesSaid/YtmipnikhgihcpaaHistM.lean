/- Contract of fairref.HistMove. -/
import Derived.Test.YtmipnikhgihcpaaHist9
import Derived.Test.YtmipnikhgihcpaaHistB
import Derived.Test.YtmipnikhgihcpaaHist5
namespace Go.Proofs.Ytmipnikhgihcpaa
open Go.RowKit
set_option linter.unusedVariables false
set_option linter.unusedSimpArgs false

set_option maxRecDepth 100000 in
set_option maxHeartbeats 4000000 in
theorem ref_histTo_out (lv : Value) (most wher : Int) (sv pv : Value) (older : Bool) (ls : List (List Int)) (M W : Int) (scr pat : List Int) (O : Bool) (a : Option Addr) (nn c : Nat) (n : Int) (P : Nat → Prop) (w : World) (r : HiP P w lv most wher sv pv older ⟨ls, M, W, scr, pat, O⟩) (hf : n < 0 ∨ (ls.length : Int) < n) :
    Calls Try.prog 104 #[.agg (hiC lv most wher sv pv older), .slice a nn c, .int .i64 n] w (HPost P hi0 [] 5 w) := by
  have HR0 := Lib.hid r.hir
  obtain ⟨⟨vs, hvsP, hlsP⟩, h1, h2, hscr, hpat, h3⟩ := r
  simp only at hlsP h1 h2 h3 hscr hpat
  have hvs := hvsP.vs
  have hls := hlsP.lists
  clear hvsP hlsP
  obtain rfl : M = most := h1.symm
  obtain rfl : W = wher := h2.symm
  obtain rfl : O = older := h3.symm
  obtain ⟨la, ln, lc, rfl, hl1, hl2, hl3, hl4, hl5⟩ := hvs
  obtain ⟨sa, sn, sc, rfl, hs1, hs2, hs3, hs4, hs5, -⟩ := hscr
  obtain ⟨pa, pn, pc, rfl, hp1, hp2, hp3, hp4, hp5, -⟩ := hpat
  have hll : ls.length = ln := by rw [← hls.len]; exact hl1
  have HRT := Lib.hid (fun W' r => ref_histErr (.slice la ln lc) M W (.slice sa sn sc) (.slice pa pn pc) O ⟨ls, M, W, scr, pat, O⟩ W' r)
  rw [hll] at hf
  have hcs : n < 0 ∨ (0 ≤ n ∧ (ln : Int) < n) := by omega
  clear hf HRT
  unfold hiC at *
  have hB := (Blk.new w #[.slice la ln lc, .int .i64 M, .int .i64 W, .slice sa sn sc, .slice pa pn pc, .bool O] 48).alloc (.cells #[.slice none 0 0, .int .i64 0, .int .i64 0, .slice none 0 0, .slice none 0 0, .bool false] 48)
  have hR := Blk.new (w.alloc (.cells #[.slice la ln lc, .int .i64 M, .int .i64 W, .slice sa sn sc, .slice pa pn pc, .bool O] 48)) #[.slice none 0 0, .int .i64 0, .int .i64 0, .slice none 0 0, .slice none 0 0, .bool false] 48
  rw [World.size_alloc] at hR
  have hacc := below2 w (.cells #[.slice la ln lc, .int .i64 M, .int .i64 W, .slice sa sn sc, .slice pa pn pc, .bool O] 48) (.cells #[.slice none 0 0, .int .i64 0, .int .i64 0, .slice none 0 0, .slice none 0 0, .bool false] 48)
  have hsz : w.heap.size + 2 ≤ ((w.alloc (.cells #[.slice la ln lc, .int .i64 M, .int .i64 W, .slice sa sn sc, .slice pa pn pc, .bool O] 48)).alloc (.cells #[.slice none 0 0, .int .i64 0, .int .i64 0, .slice none 0 0, .slice none 0 0, .bool false] 48)).heap.size := by simp
  have HR1 := Lib.hid (HR0.out.below hacc)
  clear hs1 hp1 hl1 hl5 hs5 hp5 hll hls HR0
  rcases hcs with k1 | ⟨k1, k2⟩
  all_goals
    go_enter Try.func104, Try.ntmps104
    go_upto_region 1 with fail
    change Code.wp _ _ _ _ ((w.alloc (.cells #[.slice la ln lc, .int .i64 M, .int .i64 W, .slice sa sn sc, .slice pa pn pc, .bool O] 48)).alloc (.cells #[.slice none 0 0, .int .i64 0, .int .i64 0, .slice none 0 0, .slice none 0 0, .bool false] 48))
    generalize ((w.alloc (.cells #[.slice la ln lc, .int .i64 M, .int .i64 W, .slice sa sn sc, .slice pa pn pc, .bool O] 48)).alloc (.cells #[.slice none 0 0, .int .i64 0, .int .i64 0, .slice none 0 0, .slice none 0 0, .bool false] 48)) = w1 at *
    obtain ⟨c0, c1, c2, c3, c4, c5⟩ := hB.six
    obtain ⟨p0, p1, p2, p3, p4, p5⟩ := hR.six
    obtain ⟨t0, t1, t2, t3, t4, t5⟩ := hR.sixf
    go_wp2
    obtain ⟨y0, y1, y2, y3, y4, y5⟩ := (hR.six' (.slice none 0 0) (.int .i64 0) (.int .i64 0) (.slice none 0 0) (.slice none 0 0) (.bool false)).six
    refine bodyPost_ret (v := .tuple #[.agg (hiC (.slice none 0 0) 0 0 (.slice none 0 0) (.slice none 0 0) false), .slice none 0 0, .int .i64 (5)]) (by simp [results, Try.results104, go_sem, y0, y1, y2, y3, y4, y5, hiC]) rfl ?_
    exact ⟨_, _, _, _, rfl, hip0 _ _, SlP.nil _ _, below6 hacc (Nat.le_succ _)⟩

set_option maxRecDepth 100000 in
set_option maxHeartbeats 4000000 in
theorem ref_Move_bad (lv : Value) (most wher : Int) (sv pv : Value) (older : Bool) (ls : List (List Int)) (M W : Int) (scr pat : List Int) (O : Bool) (a : Option Addr) (nn c : Nat) (n way : Int) (P : Nat → Prop) (w : World) (r : HiP P w lv most wher sv pv older ⟨ls, M, W, scr, pat, O⟩) (E : Int) (hE : hiE ⟨ls, M, W, scr, pat, O⟩ = E) (h0 : E ≠ 0) :
    Calls Try.prog 36 #[.agg (hiC lv most wher sv pv older), .slice a nn c, .int .i64 n, .int .i64 way] w (HPost P hi0 [] E w) := by
  have HE := Lib.hid hE
  have h0' : (E != 0) = true := by simpa using h0
  have HR0 := Lib.hid r.hir
  clear hE h0
  obtain ⟨⟨vs, hvsP, hlsP⟩, h1, h2, hscr, hpat, h3⟩ := r
  simp only at hlsP h1 h2 h3 hscr hpat
  have hvs := hvsP.vs
  have hls := hlsP.lists
  clear hvsP hlsP
  obtain rfl : M = most := h1.symm
  obtain rfl : W = wher := h2.symm
  obtain rfl : O = older := h3.symm
  obtain ⟨la, ln, lc, rfl, hl1, hl2, hl3, hl4, hl5⟩ := hvs
  obtain ⟨sa, sn, sc, rfl, hs1, hs2, hs3, hs4, hs5, -⟩ := hscr
  obtain ⟨pa, pn, pc, rfl, hp1, hp2, hp3, hp4, hp5, -⟩ := hpat
  have hll : ls.length = ln := by rw [← hls.len]; exact hl1
  have HRT := Lib.hid (fun W' r => ref_histErr (.slice la ln lc) M W (.slice sa sn sc) (.slice pa pn pc) O ⟨ls, M, W, scr, pat, O⟩ W' r)
  unfold hiC at *
  have hB := (Blk.new w #[.slice la ln lc, .int .i64 M, .int .i64 W, .slice sa sn sc, .slice pa pn pc, .bool O] 48).alloc (.cells #[.slice none 0 0, .int .i64 0, .int .i64 0, .slice none 0 0, .slice none 0 0, .bool false] 48)
  have hR := Blk.new (w.alloc (.cells #[.slice la ln lc, .int .i64 M, .int .i64 W, .slice sa sn sc, .slice pa pn pc, .bool O] 48)) #[.slice none 0 0, .int .i64 0, .int .i64 0, .slice none 0 0, .slice none 0 0, .bool false] 48
  rw [World.size_alloc] at hR
  have hacc := below2 w (.cells #[.slice la ln lc, .int .i64 M, .int .i64 W, .slice sa sn sc, .slice pa pn pc, .bool O] 48) (.cells #[.slice none 0 0, .int .i64 0, .int .i64 0, .slice none 0 0, .slice none 0 0, .bool false] 48)
  have hsz : w.heap.size + 2 ≤ ((w.alloc (.cells #[.slice la ln lc, .int .i64 M, .int .i64 W, .slice sa sn sc, .slice pa pn pc, .bool O] 48)).alloc (.cells #[.slice none 0 0, .int .i64 0, .int .i64 0, .slice none 0 0, .slice none 0 0, .bool false] 48)).heap.size := by simp
  have HR1 := Lib.hid (HR0.out.below hacc)
  clear hs1 hp1 hl1 hl5 hs5 hp5 hll hls HR0
  go_enter Try.func36, Try.ntmps36
  go_upto_region 1 with fail
  change Code.wp _ _ _ _ ((w.alloc (.cells #[.slice la ln lc, .int .i64 M, .int .i64 W, .slice sa sn sc, .slice pa pn pc, .bool O] 48)).alloc (.cells #[.slice none 0 0, .int .i64 0, .int .i64 0, .slice none 0 0, .slice none 0 0, .bool false] 48))
  generalize ((w.alloc (.cells #[.slice la ln lc, .int .i64 M, .int .i64 W, .slice sa sn sc, .slice pa pn pc, .bool O] 48)).alloc (.cells #[.slice none 0 0, .int .i64 0, .int .i64 0, .slice none 0 0, .slice none 0 0, .bool false] 48)) = w1 at *
  obtain ⟨c0, c1, c2, c3, c4, c5⟩ := hB.six
  go_wp2_with ((go_at_call 31); refine (HRT.out _ HR1.out).mono ?_; rintro e w2 ⟨rfl, hb2⟩; rw [HE.out]; have hB2 := hB.below hb2 hB.lt; obtain ⟨d0, d1, d2, d3, d4, d5⟩ := hB2.six; have hR2 := hR.below hb2 hR.lt; obtain ⟨p0, p1, p2, p3, p4, p5⟩ := hR2.six; obtain ⟨t0, t1, t2, t3, t4, t5⟩ := hR2.sixf; have hacc2 := below_then hacc (by omega) hb2; have hlt2 := hB2.lt; have hz2 := hb2.size)
  obtain ⟨y0, y1, y2, y3, y4, y5⟩ := (hR2.six' (.slice none 0 0) (.int .i64 0) (.int .i64 0) (.slice none 0 0) (.slice none 0 0) (.bool false)).six
  refine bodyPost_ret (v := .tuple #[.agg (hiC (.slice none 0 0) 0 0 (.slice none 0 0) (.slice none 0 0) false), .slice none 0 0, .int .i64 (E)]) (by simp [results, Try.results36, go_sem, y0, y1, y2, y3, y4, y5, hiC]) rfl ?_
  exact ⟨_, _, _, _, rfl, hip0 _ _, SlP.nil _ _, below6 hacc2 (Nat.le_succ _)⟩

set_option maxRecDepth 100000 in
set_option maxHeartbeats 4000000 in
theorem ref_Move_large (lv : Value) (most wher : Int) (sv pv : Value) (older : Bool) (ls : List (List Int)) (M W : Int) (scr pat : List Int) (O : Bool) (a : Option Addr) (nn c : Nat) (n way : Int) (P : Nat → Prop) (w : World) (r : HiP P w lv most wher sv pv older ⟨ls, M, W, scr, pat, O⟩) (hE : hiE ⟨ls, M, W, scr, pat, O⟩ = 0) (h0 : 200 < nn) :
    Calls Try.prog 36 #[.agg (hiC lv most wher sv pv older), .slice a nn c, .int .i64 n, .int .i64 way] w (HPost P hi0 [] 2 w) := by
  have HE := Lib.hid hE
  have HR0 := Lib.hid r.hir
  clear hE
  obtain ⟨⟨vs, hvsP, hlsP⟩, h1, h2, hscr, hpat, h3⟩ := r
  simp only at hlsP h1 h2 h3 hscr hpat
  have hvs := hvsP.vs
  have hls := hlsP.lists
  clear hvsP hlsP
  obtain rfl : M = most := h1.symm
  obtain rfl : W = wher := h2.symm
  obtain rfl : O = older := h3.symm
  obtain ⟨la, ln, lc, rfl, hl1, hl2, hl3, hl4, hl5⟩ := hvs
  obtain ⟨sa, sn, sc, rfl, hs1, hs2, hs3, hs4, hs5, -⟩ := hscr
  obtain ⟨pa, pn, pc, rfl, hp1, hp2, hp3, hp4, hp5, -⟩ := hpat
  have hll : ls.length = ln := by rw [← hls.len]; exact hl1
  have HRT := Lib.hid (fun W' r => ref_histErr (.slice la ln lc) M W (.slice sa sn sc) (.slice pa pn pc) O ⟨ls, M, W, scr, pat, O⟩ W' r)
  unfold hiC at *
  have hB := (Blk.new w #[.slice la ln lc, .int .i64 M, .int .i64 W, .slice sa sn sc, .slice pa pn pc, .bool O] 48).alloc (.cells #[.slice none 0 0, .int .i64 0, .int .i64 0, .slice none 0 0, .slice none 0 0, .bool false] 48)
  have hR := Blk.new (w.alloc (.cells #[.slice la ln lc, .int .i64 M, .int .i64 W, .slice sa sn sc, .slice pa pn pc, .bool O] 48)) #[.slice none 0 0, .int .i64 0, .int .i64 0, .slice none 0 0, .slice none 0 0, .bool false] 48
  rw [World.size_alloc] at hR
  have hacc := below2 w (.cells #[.slice la ln lc, .int .i64 M, .int .i64 W, .slice sa sn sc, .slice pa pn pc, .bool O] 48) (.cells #[.slice none 0 0, .int .i64 0, .int .i64 0, .slice none 0 0, .slice none 0 0, .bool false] 48)
  have hsz : w.heap.size + 2 ≤ ((w.alloc (.cells #[.slice la ln lc, .int .i64 M, .int .i64 W, .slice sa sn sc, .slice pa pn pc, .bool O] 48)).alloc (.cells #[.slice none 0 0, .int .i64 0, .int .i64 0, .slice none 0 0, .slice none 0 0, .bool false] 48)).heap.size := by simp
  have HR1 := Lib.hid (HR0.out.below hacc)
  clear hs1 hp1 hl1 hl5 hs5 hp5 hll hls HR0
  go_enter Try.func36, Try.ntmps36
  go_upto_region 1 with fail
  change Code.wp _ _ _ _ ((w.alloc (.cells #[.slice la ln lc, .int .i64 M, .int .i64 W, .slice sa sn sc, .slice pa pn pc, .bool O] 48)).alloc (.cells #[.slice none 0 0, .int .i64 0, .int .i64 0, .slice none 0 0, .slice none 0 0, .bool false] 48))
  generalize ((w.alloc (.cells #[.slice la ln lc, .int .i64 M, .int .i64 W, .slice sa sn sc, .slice pa pn pc, .bool O] 48)).alloc (.cells #[.slice none 0 0, .int .i64 0, .int .i64 0, .slice none 0 0, .slice none 0 0, .bool false] 48)) = w1 at *
  obtain ⟨c0, c1, c2, c3, c4, c5⟩ := hB.six
  go_wp2_with ((go_at_call 31); refine (HRT.out _ HR1.out).mono ?_; rintro e w2 ⟨rfl, hb2⟩; rw [HE.out]; have hB2 := hB.below hb2 hB.lt; obtain ⟨d0, d1, d2, d3, d4, d5⟩ := hB2.six; have hR2 := hR.below hb2 hR.lt; obtain ⟨p0, p1, p2, p3, p4, p5⟩ := hR2.six; obtain ⟨t0, t1, t2, t3, t4, t5⟩ := hR2.sixf; have hacc2 := below_then hacc (by omega) hb2; have hlt2 := hB2.lt; have hz2 := hb2.size)
  obtain ⟨y0, y1, y2, y3, y4, y5⟩ := (hR2.six' (.slice none 0 0) (.int .i64 0) (.int .i64 0) (.slice none 0 0) (.slice none 0 0) (.bool false)).six
  refine bodyPost_ret (v := .tuple #[.agg (hiC (.slice none 0 0) 0 0 (.slice none 0 0) (.slice none 0 0) false), .slice none 0 0, .int .i64 (2)]) (by simp [results, Try.results36, go_sem, y0, y1, y2, y3, y4, y5, hiC]) rfl ?_
  exact ⟨_, _, _, _, rfl, hip0 _ _, SlP.nil _ _, below6 hacc2 (Nat.le_succ _)⟩

set_option maxRecDepth 100000 in
set_option maxHeartbeats 4000000 in
theorem ref_Move_arg (lv : Value) (most wher : Int) (sv pv : Value) (older : Bool) (ls : List (List Int)) (M W : Int) (scr pat : List Int) (O : Bool) (a : Option Addr) (nn c : Nat) (n way : Int) (P : Nat → Prop) (w : World) (r : HiP P w lv most wher sv pv older ⟨ls, M, W, scr, pat, O⟩) (hE : hiE ⟨ls, M, W, scr, pat, O⟩ = 0) (h0 : nn ≤ 200) (hn : n < 0 ∨ 999 < n) :
    Calls Try.prog 36 #[.agg (hiC lv most wher sv pv older), .slice a nn c, .int .i64 n, .int .i64 way] w (HPost P hi0 [] 1 w) := by
  have HE := Lib.hid hE
  have HR0 := Lib.hid r.hir
  have hcs : n < 0 ∨ (0 ≤ n ∧ 999 < n) := by omega
  clear hE hn
  obtain ⟨⟨vs, hvsP, hlsP⟩, h1, h2, hscr, hpat, h3⟩ := r
  simp only at hlsP h1 h2 h3 hscr hpat
  have hvs := hvsP.vs
  have hls := hlsP.lists
  clear hvsP hlsP
  obtain rfl : M = most := h1.symm
  obtain rfl : W = wher := h2.symm
  obtain rfl : O = older := h3.symm
  obtain ⟨la, ln, lc, rfl, hl1, hl2, hl3, hl4, hl5⟩ := hvs
  obtain ⟨sa, sn, sc, rfl, hs1, hs2, hs3, hs4, hs5, -⟩ := hscr
  obtain ⟨pa, pn, pc, rfl, hp1, hp2, hp3, hp4, hp5, -⟩ := hpat
  have hll : ls.length = ln := by rw [← hls.len]; exact hl1
  have HRT := Lib.hid (fun W' r => ref_histErr (.slice la ln lc) M W (.slice sa sn sc) (.slice pa pn pc) O ⟨ls, M, W, scr, pat, O⟩ W' r)
  unfold hiC at *
  have hB := (Blk.new w #[.slice la ln lc, .int .i64 M, .int .i64 W, .slice sa sn sc, .slice pa pn pc, .bool O] 48).alloc (.cells #[.slice none 0 0, .int .i64 0, .int .i64 0, .slice none 0 0, .slice none 0 0, .bool false] 48)
  have hR := Blk.new (w.alloc (.cells #[.slice la ln lc, .int .i64 M, .int .i64 W, .slice sa sn sc, .slice pa pn pc, .bool O] 48)) #[.slice none 0 0, .int .i64 0, .int .i64 0, .slice none 0 0, .slice none 0 0, .bool false] 48
  rw [World.size_alloc] at hR
  have hacc := below2 w (.cells #[.slice la ln lc, .int .i64 M, .int .i64 W, .slice sa sn sc, .slice pa pn pc, .bool O] 48) (.cells #[.slice none 0 0, .int .i64 0, .int .i64 0, .slice none 0 0, .slice none 0 0, .bool false] 48)
  have hsz : w.heap.size + 2 ≤ ((w.alloc (.cells #[.slice la ln lc, .int .i64 M, .int .i64 W, .slice sa sn sc, .slice pa pn pc, .bool O] 48)).alloc (.cells #[.slice none 0 0, .int .i64 0, .int .i64 0, .slice none 0 0, .slice none 0 0, .bool false] 48)).heap.size := by simp
  have HR1 := Lib.hid (HR0.out.below hacc)
  clear hs1 hp1 hl1 hl5 hs5 hp5 hll hls HR0
  rcases hcs with k1 | ⟨k1, k2⟩
  all_goals
    go_enter Try.func36, Try.ntmps36
    go_upto_region 1 with fail
    change Code.wp _ _ _ _ ((w.alloc (.cells #[.slice la ln lc, .int .i64 M, .int .i64 W, .slice sa sn sc, .slice pa pn pc, .bool O] 48)).alloc (.cells #[.slice none 0 0, .int .i64 0, .int .i64 0, .slice none 0 0, .slice none 0 0, .bool false] 48))
    generalize ((w.alloc (.cells #[.slice la ln lc, .int .i64 M, .int .i64 W, .slice sa sn sc, .slice pa pn pc, .bool O] 48)).alloc (.cells #[.slice none 0 0, .int .i64 0, .int .i64 0, .slice none 0 0, .slice none 0 0, .bool false] 48)) = w1 at *
    obtain ⟨c0, c1, c2, c3, c4, c5⟩ := hB.six
    go_wp2_with ((go_at_call 31); refine (HRT.out _ HR1.out).mono ?_; rintro e w2 ⟨rfl, hb2⟩; rw [HE.out]; have hB2 := hB.below hb2 hB.lt; obtain ⟨d0, d1, d2, d3, d4, d5⟩ := hB2.six; have hR2 := hR.below hb2 hR.lt; obtain ⟨p0, p1, p2, p3, p4, p5⟩ := hR2.six; obtain ⟨t0, t1, t2, t3, t4, t5⟩ := hR2.sixf; have hacc2 := below_then hacc (by omega) hb2; have hlt2 := hB2.lt; have hz2 := hb2.size)
    obtain ⟨y0, y1, y2, y3, y4, y5⟩ := (hR2.six' (.slice none 0 0) (.int .i64 0) (.int .i64 0) (.slice none 0 0) (.slice none 0 0) (.bool false)).six
    refine bodyPost_ret (v := .tuple #[.agg (hiC (.slice none 0 0) 0 0 (.slice none 0 0) (.slice none 0 0) false), .slice none 0 0, .int .i64 (1)]) (by simp [results, Try.results36, go_sem, y0, y1, y2, y3, y4, y5, hiC]) rfl ?_
    exact ⟨_, _, _, _, rfl, hip0 _ _, SlP.nil _ _, below6 hacc2 (Nat.le_succ _)⟩

set_option maxRecDepth 100000 in
set_option maxHeartbeats 4000000 in
theorem ref_Move_u_fail (lv : Value) (most wher : Int) (sv pv : Value) (older : Bool) (ls : List (List Int)) (M W : Int) (scr pat : List Int) (O : Bool) (a : Option Addr) (nn c : Nat) (n : Int) (P : Nat → Prop) (w : World) (r : HiP P w lv most wher sv pv older ⟨ls, M, W, scr, pat, O⟩) (hE : hiE ⟨ls, M, W, scr, pat, O⟩ = 0) (h0 : nn ≤ 200) (hn0 : 0 ≤ n) (hn1 : n ≤ 999) (hf : W < max 1 n) :
    Calls Try.prog 36 #[.agg (hiC lv most wher sv pv older), .slice a nn c, .int .i64 n, .int .i64 (-1)] w (HPost P hi0 [] 5 w) := by
  have hok := hiOk_of hE
  obtain ⟨w0, wl⟩ : 0 ≤ W ∧ W ≤ ls.length := ⟨hok.wher1, hok.wher2⟩
  have l50 : ls.length ≤ 50 := by have := hok.len; have := hok.most2; simp only at *; omega
  have HE := Lib.hid hE
  have HR0 := Lib.hid r.hir
  have HRP := Lib.hid r.lt
  clear hE hok
  obtain ⟨⟨vs, hvsP, hlsP⟩, h1, h2, hscr, hpat, h3⟩ := r
  simp only at hlsP h1 h2 h3 hscr hpat
  have hvs := hvsP.vs
  have hls := hlsP.lists
  clear hvsP hlsP
  obtain rfl : M = most := h1.symm
  obtain rfl : W = wher := h2.symm
  obtain rfl : O = older := h3.symm
  obtain ⟨la, ln, lc, rfl, hl1, hl2, hl3, hl4, hl5⟩ := hvs
  obtain ⟨sa, sn, sc, rfl, hs1, hs2, hs3, hs4, hs5, -⟩ := hscr
  obtain ⟨pa, pn, pc, rfl, hp1, hp2, hp3, hp4, hp5, -⟩ := hpat
  have hll : ls.length = ln := by rw [← hls.len]; exact hl1
  have HRT := Lib.hid (fun W' r => ref_histErr (.slice la ln lc) M W (.slice sa sn sc) (.slice pa pn pc) O ⟨ls, M, W, scr, pat, O⟩ W' r)
  have HTO := Lib.hid (fun W' q r hf => ref_histTo_out (.slice la ln lc) M W (.slice sa sn sc) (.slice pa pn pc) O ls M W scr pat O a nn c q (fun k => P k ∧ k < w.heap.size) W' r hf)
  have HLL := Lib.hid hll
  rw [hll] at wl
  have l50' : ln ≤ 50 := by omega
  have hcs : (n ≤ 1 ∧ W < 1) ∨ (1 < n ∧ W < n) := by omega
  clear hf l50
  unfold hiC at *
  have hB := (Blk.new w #[.slice la ln lc, .int .i64 M, .int .i64 W, .slice sa sn sc, .slice pa pn pc, .bool O] 48).alloc (.cells #[.slice none 0 0, .int .i64 0, .int .i64 0, .slice none 0 0, .slice none 0 0, .bool false] 48)
  have hR := Blk.new (w.alloc (.cells #[.slice la ln lc, .int .i64 M, .int .i64 W, .slice sa sn sc, .slice pa pn pc, .bool O] 48)) #[.slice none 0 0, .int .i64 0, .int .i64 0, .slice none 0 0, .slice none 0 0, .bool false] 48
  rw [World.size_alloc] at hR
  have hacc := below2 w (.cells #[.slice la ln lc, .int .i64 M, .int .i64 W, .slice sa sn sc, .slice pa pn pc, .bool O] 48) (.cells #[.slice none 0 0, .int .i64 0, .int .i64 0, .slice none 0 0, .slice none 0 0, .bool false] 48)
  have hsz : w.heap.size + 2 ≤ ((w.alloc (.cells #[.slice la ln lc, .int .i64 M, .int .i64 W, .slice sa sn sc, .slice pa pn pc, .bool O] 48)).alloc (.cells #[.slice none 0 0, .int .i64 0, .int .i64 0, .slice none 0 0, .slice none 0 0, .bool false] 48)).heap.size := by simp
  have HR1 := Lib.hid (HR0.out.below hacc)
  clear hs1 hp1 hl1 hl5 hs5 hp5 hll hls HR0
  rcases hcs with ⟨k1, k2⟩ | ⟨k1, k2⟩
  all_goals
    go_enter Try.func36, Try.ntmps36
    go_upto_region 1 with fail
    change Code.wp _ _ _ _ ((w.alloc (.cells #[.slice la ln lc, .int .i64 M, .int .i64 W, .slice sa sn sc, .slice pa pn pc, .bool O] 48)).alloc (.cells #[.slice none 0 0, .int .i64 0, .int .i64 0, .slice none 0 0, .slice none 0 0, .bool false] 48))
    generalize ((w.alloc (.cells #[.slice la ln lc, .int .i64 M, .int .i64 W, .slice sa sn sc, .slice pa pn pc, .bool O] 48)).alloc (.cells #[.slice none 0 0, .int .i64 0, .int .i64 0, .slice none 0 0, .slice none 0 0, .bool false] 48)) = w1 at *
    obtain ⟨c0, c1, c2, c3, c4, c5⟩ := hB.six
    go_wp2_with ((go_at_call 31); refine (HRT.out _ HR1.out).mono ?_; rintro e w2 ⟨rfl, hb2⟩; rw [HE.out]; have hB2 := hB.below hb2 hB.lt; obtain ⟨d0, d1, d2, d3, d4, d5⟩ := hB2.six; have hR2 := hR.below hb2 hR.lt; obtain ⟨p0, p1, p2, p3, p4, p5⟩ := hR2.six; obtain ⟨t0, t1, t2, t3, t4, t5⟩ := hR2.sixf; have hacc2 := below_then hacc (by omega) hb2; have hlt2 := hB2.lt; have hz2 := hb2.size; have HRr := Lib.hid (HRP.out.below hacc2))
    refine (HTO.out _ _ HRr.out (by rw [HLL.out]; omega)).mono ?_
    rintro e w3 ⟨lv3, sv3, pv3, nv3, rfl, hp3, hn3, hb3⟩
    obtain ⟨vs3, ⟨ra, rn, rc, rfl, -⟩, -⟩ := hp3.ls
    obtain ⟨ta, tn, tc, rfl⟩ := hp3.scr.form
    obtain ⟨ua, un, uc, rfl⟩ := hp3.pat.form
    have hR3 := hR2.below hb3 hR2.lt
    obtain ⟨q0, q1, q2, q3, q4, q5⟩ := hR3.six
    obtain ⟨v0, v1, v2, v3, v4, v5⟩ := hR3.sixf
    have hacc3 := below_then hacc2 (by omega) hb3
    have HP3 := Lib.hid hp3; have HN3 := Lib.hid hn3
    simp only [hiC, hi0]
    clear hp3 hn3
    go_wp2
    obtain ⟨y0, y1, y2, y3, y4, y5⟩ := (hR3.six' (.slice ra rn rc) (.int .i64 0) (.int .i64 0) (.slice ta tn tc) (.slice ua un uc) (.bool false)).six
    refine bodyPost_ret (v := .tuple #[.agg (hiC (.slice ra rn rc) 0 0 (.slice ta tn tc) (.slice ua un uc) false), nv3, .int .i64 5]) (by simp [results, Try.results36, go_sem, y0, y1, y2, y3, y4, y5, hiC]) rfl ?_
    exact ⟨_, _, _, _, rfl, (HP3.out.six (by omega)).imp (fun k hk => hk.1), (HN3.out.six (by omega)).imp (fun k hk => hk.1), below6 hacc3 (by omega)⟩

set_option maxRecDepth 100000 in
set_option maxHeartbeats 4000000 in
theorem ref_Move_u_ok (lv : Value) (most wher : Int) (sv pv : Value) (older : Bool) (ls : List (List Int)) (M W : Int) (scr pat : List Int) (O : Bool) (a : Option Addr) (nn c : Nat) (n : Int) (P : Nat → Prop) (w : World) (r : HiP P w lv most wher sv pv older ⟨ls, M, W, scr, pat, O⟩) (hE : hiE ⟨ls, M, W, scr, pat, O⟩ = 0) (h0 : nn ≤ 200) (hn0 : 0 ≤ n) (hn1 : n ≤ 999) (xs : List Int) (hx : SlP P w (.slice a nn c) xs) (wh : Nat) (hf : ¬ W < max 1 n) (hk : (wh : Int) = W - max 1 n) :
    Calls Try.prog 36 #[.agg (hiC lv most wher sv pv older), .slice a nn c, .int .i64 n, .int .i64 (-1)] w (HPost P (toH ⟨ls, M, W, scr, pat, O⟩ xs wh) (toL ⟨ls, M, W, scr, pat, O⟩ xs wh) 0 w) := by
  have hok := hiOk_of hE
  obtain ⟨w0, wl⟩ : 0 ≤ W ∧ W ≤ ls.length := ⟨hok.wher1, hok.wher2⟩
  have l50 : ls.length ≤ 50 := by have := hok.len; have := hok.most2; simp only at *; omega
  have HE := Lib.hid hE
  have HR0 := Lib.hid r.hir
  have HRP := Lib.hid r.lt
  clear hE hok
  have hwh : wh ≤ ls.length := by omega
  have HX := Lib.hid hx.lt
  clear hx
  obtain ⟨⟨vs, hvsP, hlsP⟩, h1, h2, hscr, hpat, h3⟩ := r
  simp only at hlsP h1 h2 h3 hscr hpat
  have hvs := hvsP.vs
  have hls := hlsP.lists
  clear hvsP hlsP
  obtain rfl : M = most := h1.symm
  obtain rfl : W = wher := h2.symm
  obtain rfl : O = older := h3.symm
  obtain ⟨la, ln, lc, rfl, hl1, hl2, hl3, hl4, hl5⟩ := hvs
  obtain ⟨sa, sn, sc, rfl, hs1, hs2, hs3, hs4, hs5, -⟩ := hscr
  obtain ⟨pa, pn, pc, rfl, hp1, hp2, hp3, hp4, hp5, -⟩ := hpat
  have hll : ls.length = ln := by rw [← hls.len]; exact hl1
  have HRT := Lib.hid (fun W' r => ref_histErr (.slice la ln lc) M W (.slice sa sn sc) (.slice pa pn pc) O ⟨ls, M, W, scr, pat, O⟩ W' r)
  have HTO := Lib.hid (fun W' r hx => ref_histTo (.slice la ln lc) M W (.slice sa sn sc) (.slice pa pn pc) O ⟨ls, M, W, scr, pat, O⟩ a nn c xs wh (fun k => P k ∧ k < w.heap.size) W' r hx hwh l50)
  have HLL := Lib.hid hll
  rw [hll] at wl
  have l50' : ln ≤ 50 := by omega
  have hcs : (n ≤ 1 ∧ 1 ≤ W ∧ W + -1 = (wh : Int)) ∨ (1 < n ∧ n ≤ W ∧ W + -n = (wh : Int)) := by omega
  clear hf l50 hwh hk
  unfold hiC at *
  have hB := (Blk.new w #[.slice la ln lc, .int .i64 M, .int .i64 W, .slice sa sn sc, .slice pa pn pc, .bool O] 48).alloc (.cells #[.slice none 0 0, .int .i64 0, .int .i64 0, .slice none 0 0, .slice none 0 0, .bool false] 48)
  have hR := Blk.new (w.alloc (.cells #[.slice la ln lc, .int .i64 M, .int .i64 W, .slice sa sn sc, .slice pa pn pc, .bool O] 48)) #[.slice none 0 0, .int .i64 0, .int .i64 0, .slice none 0 0, .slice none 0 0, .bool false] 48
  rw [World.size_alloc] at hR
  have hacc := below2 w (.cells #[.slice la ln lc, .int .i64 M, .int .i64 W, .slice sa sn sc, .slice pa pn pc, .bool O] 48) (.cells #[.slice none 0 0, .int .i64 0, .int .i64 0, .slice none 0 0, .slice none 0 0, .bool false] 48)
  have hsz : w.heap.size + 2 ≤ ((w.alloc (.cells #[.slice la ln lc, .int .i64 M, .int .i64 W, .slice sa sn sc, .slice pa pn pc, .bool O] 48)).alloc (.cells #[.slice none 0 0, .int .i64 0, .int .i64 0, .slice none 0 0, .slice none 0 0, .bool false] 48)).heap.size := by simp
  have HR1 := Lib.hid (HR0.out.below hacc)
  clear hs1 hp1 hl1 hl5 hs5 hp5 hll hls HR0
  rcases hcs with ⟨k1, k2, k3⟩ | ⟨k1, k2, k3⟩
  all_goals
    go_enter Try.func36, Try.ntmps36
    go_upto_region 1 with fail
    change Code.wp _ _ _ _ ((w.alloc (.cells #[.slice la ln lc, .int .i64 M, .int .i64 W, .slice sa sn sc, .slice pa pn pc, .bool O] 48)).alloc (.cells #[.slice none 0 0, .int .i64 0, .int .i64 0, .slice none 0 0, .slice none 0 0, .bool false] 48))
    generalize ((w.alloc (.cells #[.slice la ln lc, .int .i64 M, .int .i64 W, .slice sa sn sc, .slice pa pn pc, .bool O] 48)).alloc (.cells #[.slice none 0 0, .int .i64 0, .int .i64 0, .slice none 0 0, .slice none 0 0, .bool false] 48)) = w1 at *
    obtain ⟨c0, c1, c2, c3, c4, c5⟩ := hB.six
    go_wp2_with ((go_at_call 31); refine (HRT.out _ HR1.out).mono ?_; rintro e w2 ⟨rfl, hb2⟩; rw [HE.out]; have hB2 := hB.below hb2 hB.lt; obtain ⟨d0, d1, d2, d3, d4, d5⟩ := hB2.six; have hR2 := hR.below hb2 hR.lt; obtain ⟨p0, p1, p2, p3, p4, p5⟩ := hR2.six; obtain ⟨t0, t1, t2, t3, t4, t5⟩ := hR2.sixf; have hacc2 := below_then hacc (by omega) hb2; have hlt2 := hB2.lt; have hz2 := hb2.size; have HRr := Lib.hid (HRP.out.below hacc2); have HXr := Lib.hid (HX.out.below hacc2))
  · refine (HTO.out _ HRr.out HXr.out).mono ?_
    rintro e w3 ⟨lv3, sv3, pv3, nv3, rfl, hp3, hn3, hb3⟩
    obtain ⟨vs3, ⟨ra, rn, rc, rfl, -⟩, -⟩ := hp3.ls
    obtain ⟨ta, tn, tc, rfl⟩ := hp3.scr.form
    obtain ⟨ua, un, uc, rfl⟩ := hp3.pat.form
    have hR3 := hR2.below hb3 hR2.lt
    obtain ⟨q0, q1, q2, q3, q4, q5⟩ := hR3.six
    obtain ⟨v0, v1, v2, v3, v4, v5⟩ := hR3.sixf
    have hacc3 := below_then hacc2 (by omega) hb3
    have HP3 := Lib.hid hp3; have HN3 := Lib.hid hn3
    simp only [hiC, toH]
    clear hp3 hn3
    go_wp2
    obtain ⟨y0, y1, y2, y3, y4, y5⟩ := (hR3.six' (.slice ra rn rc) (.int .i64 M) (.int .i64 (wh : Int)) (.slice ta tn tc) (.slice ua un uc) (.bool O)).six
    refine bodyPost_ret (v := .tuple #[.agg (hiC (.slice ra rn rc) M (wh : Int) (.slice ta tn tc) (.slice ua un uc) O), nv3, .int .i64 0]) (by simp [results, Try.results36, go_sem, y0, y1, y2, y3, y4, y5, hiC]) rfl ?_
    exact ⟨_, _, _, _, rfl, (HP3.out.six (by omega)).imp (fun k hk => hk.1), (HN3.out.six (by omega)).imp (fun k hk => hk.1), below6 hacc3 (by omega)⟩
  · refine (HTO.out _ HRr.out HXr.out).mono ?_
    rintro e w3 ⟨lv3, sv3, pv3, nv3, rfl, hp3, hn3, hb3⟩
    obtain ⟨vs3, ⟨ra, rn, rc, rfl, -⟩, -⟩ := hp3.ls
    obtain ⟨ta, tn, tc, rfl⟩ := hp3.scr.form
    obtain ⟨ua, un, uc, rfl⟩ := hp3.pat.form
    have hR3 := hR2.below hb3 hR2.lt
    obtain ⟨q0, q1, q2, q3, q4, q5⟩ := hR3.six
    obtain ⟨v0, v1, v2, v3, v4, v5⟩ := hR3.sixf
    have hacc3 := below_then hacc2 (by omega) hb3
    have HP3 := Lib.hid hp3; have HN3 := Lib.hid hn3
    simp only [hiC, toH]
    clear hp3 hn3
    go_wp2
    obtain ⟨y0, y1, y2, y3, y4, y5⟩ := (hR3.six' (.slice ra rn rc) (.int .i64 M) (.int .i64 (wh : Int)) (.slice ta tn tc) (.slice ua un uc) (.bool O)).six
    refine bodyPost_ret (v := .tuple #[.agg (hiC (.slice ra rn rc) M (wh : Int) (.slice ta tn tc) (.slice ua un uc) O), nv3, .int .i64 0]) (by simp [results, Try.results36, go_sem, y0, y1, y2, y3, y4, y5, hiC]) rfl ?_
    exact ⟨_, _, _, _, rfl, (HP3.out.six (by omega)).imp (fun k hk => hk.1), (HN3.out.six (by omega)).imp (fun k hk => hk.1), below6 hacc3 (by omega)⟩

set_option maxRecDepth 100000 in
set_option maxHeartbeats 4000000 in
theorem ref_Move_d_fail (lv : Value) (most wher : Int) (sv pv : Value) (older : Bool) (ls : List (List Int)) (M W : Int) (scr pat : List Int) (O : Bool) (a : Option Addr) (nn c : Nat) (n : Int) (P : Nat → Prop) (w : World) (r : HiP P w lv most wher sv pv older ⟨ls, M, W, scr, pat, O⟩) (hE : hiE ⟨ls, M, W, scr, pat, O⟩ = 0) (h0 : nn ≤ 200) (hn0 : 0 ≤ n) (hn1 : n ≤ 999) (hf : (ls.length : Int) - W < max 1 n) :
    Calls Try.prog 36 #[.agg (hiC lv most wher sv pv older), .slice a nn c, .int .i64 n, .int .i64 1] w (HPost P hi0 [] 5 w) := by
  have hok := hiOk_of hE
  obtain ⟨w0, wl⟩ : 0 ≤ W ∧ W ≤ ls.length := ⟨hok.wher1, hok.wher2⟩
  have l50 : ls.length ≤ 50 := by have := hok.len; have := hok.most2; simp only at *; omega
  have HE := Lib.hid hE
  have HR0 := Lib.hid r.hir
  have HRP := Lib.hid r.lt
  clear hE hok
  obtain ⟨⟨vs, hvsP, hlsP⟩, h1, h2, hscr, hpat, h3⟩ := r
  simp only at hlsP h1 h2 h3 hscr hpat
  have hvs := hvsP.vs
  have hls := hlsP.lists
  clear hvsP hlsP
  obtain rfl : M = most := h1.symm
  obtain rfl : W = wher := h2.symm
  obtain rfl : O = older := h3.symm
  obtain ⟨la, ln, lc, rfl, hl1, hl2, hl3, hl4, hl5⟩ := hvs
  obtain ⟨sa, sn, sc, rfl, hs1, hs2, hs3, hs4, hs5, -⟩ := hscr
  obtain ⟨pa, pn, pc, rfl, hp1, hp2, hp3, hp4, hp5, -⟩ := hpat
  have hll : ls.length = ln := by rw [← hls.len]; exact hl1
  have HRT := Lib.hid (fun W' r => ref_histErr (.slice la ln lc) M W (.slice sa sn sc) (.slice pa pn pc) O ⟨ls, M, W, scr, pat, O⟩ W' r)
  have HTO := Lib.hid (fun W' q r hf => ref_histTo_out (.slice la ln lc) M W (.slice sa sn sc) (.slice pa pn pc) O ls M W scr pat O a nn c q (fun k => P k ∧ k < w.heap.size) W' r hf)
  have HLL := Lib.hid hll
  rw [hll] at wl hf
  have l50' : ln ≤ 50 := by omega
  have hcs : (n ≤ 1 ∧ (ln : Int) - W < 1) ∨ (1 < n ∧ (ln : Int) - W < n) := by omega
  clear hf l50
  unfold hiC at *
  have hB := (Blk.new w #[.slice la ln lc, .int .i64 M, .int .i64 W, .slice sa sn sc, .slice pa pn pc, .bool O] 48).alloc (.cells #[.slice none 0 0, .int .i64 0, .int .i64 0, .slice none 0 0, .slice none 0 0, .bool false] 48)
  have hR := Blk.new (w.alloc (.cells #[.slice la ln lc, .int .i64 M, .int .i64 W, .slice sa sn sc, .slice pa pn pc, .bool O] 48)) #[.slice none 0 0, .int .i64 0, .int .i64 0, .slice none 0 0, .slice none 0 0, .bool false] 48
  rw [World.size_alloc] at hR
  have hacc := below2 w (.cells #[.slice la ln lc, .int .i64 M, .int .i64 W, .slice sa sn sc, .slice pa pn pc, .bool O] 48) (.cells #[.slice none 0 0, .int .i64 0, .int .i64 0, .slice none 0 0, .slice none 0 0, .bool false] 48)
  have hsz : w.heap.size + 2 ≤ ((w.alloc (.cells #[.slice la ln lc, .int .i64 M, .int .i64 W, .slice sa sn sc, .slice pa pn pc, .bool O] 48)).alloc (.cells #[.slice none 0 0, .int .i64 0, .int .i64 0, .slice none 0 0, .slice none 0 0, .bool false] 48)).heap.size := by simp
  have HR1 := Lib.hid (HR0.out.below hacc)
  clear hs1 hp1 hl1 hl5 hs5 hp5 hll hls HR0
  rcases hcs with ⟨k1, k2⟩ | ⟨k1, k2⟩
  all_goals
    go_enter Try.func36, Try.ntmps36
    go_upto_region 1 with fail
    change Code.wp _ _ _ _ ((w.alloc (.cells #[.slice la ln lc, .int .i64 M, .int .i64 W, .slice sa sn sc, .slice pa pn pc, .bool O] 48)).alloc (.cells #[.slice none 0 0, .int .i64 0, .int .i64 0, .slice none 0 0, .slice none 0 0, .bool false] 48))
    generalize ((w.alloc (.cells #[.slice la ln lc, .int .i64 M, .int .i64 W, .slice sa sn sc, .slice pa pn pc, .bool O] 48)).alloc (.cells #[.slice none 0 0, .int .i64 0, .int .i64 0, .slice none 0 0, .slice none 0 0, .bool false] 48)) = w1 at *
    obtain ⟨c0, c1, c2, c3, c4, c5⟩ := hB.six
    go_wp2_with ((go_at_call 31); refine (HRT.out _ HR1.out).mono ?_; rintro e w2 ⟨rfl, hb2⟩; rw [HE.out]; have hB2 := hB.below hb2 hB.lt; obtain ⟨d0, d1, d2, d3, d4, d5⟩ := hB2.six; have hR2 := hR.below hb2 hR.lt; obtain ⟨p0, p1, p2, p3, p4, p5⟩ := hR2.six; obtain ⟨t0, t1, t2, t3, t4, t5⟩ := hR2.sixf; have hacc2 := below_then hacc (by omega) hb2; have hlt2 := hB2.lt; have hz2 := hb2.size; have HRr := Lib.hid (HRP.out.below hacc2))
    refine (HTO.out _ _ HRr.out (by rw [HLL.out]; omega)).mono ?_
    rintro e w3 ⟨lv3, sv3, pv3, nv3, rfl, hp3, hn3, hb3⟩
    obtain ⟨vs3, ⟨ra, rn, rc, rfl, -⟩, -⟩ := hp3.ls
    obtain ⟨ta, tn, tc, rfl⟩ := hp3.scr.form
    obtain ⟨ua, un, uc, rfl⟩ := hp3.pat.form
    have hR3 := hR2.below hb3 hR2.lt
    obtain ⟨q0, q1, q2, q3, q4, q5⟩ := hR3.six
    obtain ⟨v0, v1, v2, v3, v4, v5⟩ := hR3.sixf
    have hacc3 := below_then hacc2 (by omega) hb3
    have HP3 := Lib.hid hp3; have HN3 := Lib.hid hn3
    simp only [hiC, hi0]
    clear hp3 hn3
    go_wp2
    obtain ⟨y0, y1, y2, y3, y4, y5⟩ := (hR3.six' (.slice ra rn rc) (.int .i64 0) (.int .i64 0) (.slice ta tn tc) (.slice ua un uc) (.bool false)).six
    refine bodyPost_ret (v := .tuple #[.agg (hiC (.slice ra rn rc) 0 0 (.slice ta tn tc) (.slice ua un uc) false), nv3, .int .i64 5]) (by simp [results, Try.results36, go_sem, y0, y1, y2, y3, y4, y5, hiC]) rfl ?_
    exact ⟨_, _, _, _, rfl, (HP3.out.six (by omega)).imp (fun k hk => hk.1), (HN3.out.six (by omega)).imp (fun k hk => hk.1), below6 hacc3 (by omega)⟩

set_option maxRecDepth 100000 in
set_option maxHeartbeats 4000000 in
theorem ref_Move_d_ok (lv : Value) (most wher : Int) (sv pv : Value) (older : Bool) (ls : List (List Int)) (M W : Int) (scr pat : List Int) (O : Bool) (a : Option Addr) (nn c : Nat) (n : Int) (P : Nat → Prop) (w : World) (r : HiP P w lv most wher sv pv older ⟨ls, M, W, scr, pat, O⟩) (hE : hiE ⟨ls, M, W, scr, pat, O⟩ = 0) (h0 : nn ≤ 200) (hn0 : 0 ≤ n) (hn1 : n ≤ 999) (xs : List Int) (hx : SlP P w (.slice a nn c) xs) (wh : Nat) (hf : ¬ (ls.length : Int) - W < max 1 n) (hk : (wh : Int) = W + max 1 n) :
    Calls Try.prog 36 #[.agg (hiC lv most wher sv pv older), .slice a nn c, .int .i64 n, .int .i64 1] w (HPost P (toH ⟨ls, M, W, scr, pat, O⟩ xs wh) (toL ⟨ls, M, W, scr, pat, O⟩ xs wh) 0 w) := by
  have hok := hiOk_of hE
  obtain ⟨w0, wl⟩ : 0 ≤ W ∧ W ≤ ls.length := ⟨hok.wher1, hok.wher2⟩
  have l50 : ls.length ≤ 50 := by have := hok.len; have := hok.most2; simp only at *; omega
  have HE := Lib.hid hE
  have HR0 := Lib.hid r.hir
  have HRP := Lib.hid r.lt
  clear hE hok
  have hwh : wh ≤ ls.length := by omega
  have HX := Lib.hid hx.lt
  clear hx
  obtain ⟨⟨vs, hvsP, hlsP⟩, h1, h2, hscr, hpat, h3⟩ := r
  simp only at hlsP h1 h2 h3 hscr hpat
  have hvs := hvsP.vs
  have hls := hlsP.lists
  clear hvsP hlsP
  obtain rfl : M = most := h1.symm
  obtain rfl : W = wher := h2.symm
  obtain rfl : O = older := h3.symm
  obtain ⟨la, ln, lc, rfl, hl1, hl2, hl3, hl4, hl5⟩ := hvs
  obtain ⟨sa, sn, sc, rfl, hs1, hs2, hs3, hs4, hs5, -⟩ := hscr
  obtain ⟨pa, pn, pc, rfl, hp1, hp2, hp3, hp4, hp5, -⟩ := hpat
  have hll : ls.length = ln := by rw [← hls.len]; exact hl1
  have HRT := Lib.hid (fun W' r => ref_histErr (.slice la ln lc) M W (.slice sa sn sc) (.slice pa pn pc) O ⟨ls, M, W, scr, pat, O⟩ W' r)
  have HTO := Lib.hid (fun W' r hx => ref_histTo (.slice la ln lc) M W (.slice sa sn sc) (.slice pa pn pc) O ⟨ls, M, W, scr, pat, O⟩ a nn c xs wh (fun k => P k ∧ k < w.heap.size) W' r hx hwh l50)
  have HLL := Lib.hid hll
  rw [hll] at wl hf
  have l50' : ln ≤ 50 := by omega
  have hcs : (n ≤ 1 ∧ 1 ≤ (ln : Int) - W ∧ W + 1 = (wh : Int)) ∨ (1 < n ∧ n ≤ (ln : Int) - W ∧ W + n = (wh : Int)) := by omega
  clear hf l50 hwh hk
  unfold hiC at *
  have hB := (Blk.new w #[.slice la ln lc, .int .i64 M, .int .i64 W, .slice sa sn sc, .slice pa pn pc, .bool O] 48).alloc (.cells #[.slice none 0 0, .int .i64 0, .int .i64 0, .slice none 0 0, .slice none 0 0, .bool false] 48)
  have hR := Blk.new (w.alloc (.cells #[.slice la ln lc, .int .i64 M, .int .i64 W, .slice sa sn sc, .slice pa pn pc, .bool O] 48)) #[.slice none 0 0, .int .i64 0, .int .i64 0, .slice none 0 0, .slice none 0 0, .bool false] 48
  rw [World.size_alloc] at hR
  have hacc := below2 w (.cells #[.slice la ln lc, .int .i64 M, .int .i64 W, .slice sa sn sc, .slice pa pn pc, .bool O] 48) (.cells #[.slice none 0 0, .int .i64 0, .int .i64 0, .slice none 0 0, .slice none 0 0, .bool false] 48)
  have hsz : w.heap.size + 2 ≤ ((w.alloc (.cells #[.slice la ln lc, .int .i64 M, .int .i64 W, .slice sa sn sc, .slice pa pn pc, .bool O] 48)).alloc (.cells #[.slice none 0 0, .int .i64 0, .int .i64 0, .slice none 0 0, .slice none 0 0, .bool false] 48)).heap.size := by simp
  have HR1 := Lib.hid (HR0.out.below hacc)
  clear hs1 hp1 hl1 hl5 hs5 hp5 hll hls HR0
  rcases hcs with ⟨k1, k2, k3⟩ | ⟨k1, k2, k3⟩
  all_goals
    go_enter Try.func36, Try.ntmps36
    go_upto_region 1 with fail
    change Code.wp _ _ _ _ ((w.alloc (.cells #[.slice la ln lc, .int .i64 M, .int .i64 W, .slice sa sn sc, .slice pa pn pc, .bool O] 48)).alloc (.cells #[.slice none 0 0, .int .i64 0, .int .i64 0, .slice none 0 0, .slice none 0 0, .bool false] 48))
    generalize ((w.alloc (.cells #[.slice la ln lc, .int .i64 M, .int .i64 W, .slice sa sn sc, .slice pa pn pc, .bool O] 48)).alloc (.cells #[.slice none 0 0, .int .i64 0, .int .i64 0, .slice none 0 0, .slice none 0 0, .bool false] 48)) = w1 at *
    obtain ⟨c0, c1, c2, c3, c4, c5⟩ := hB.six
    go_wp2_with ((go_at_call 31); refine (HRT.out _ HR1.out).mono ?_; rintro e w2 ⟨rfl, hb2⟩; rw [HE.out]; have hB2 := hB.below hb2 hB.lt; obtain ⟨d0, d1, d2, d3, d4, d5⟩ := hB2.six; have hR2 := hR.below hb2 hR.lt; obtain ⟨p0, p1, p2, p3, p4, p5⟩ := hR2.six; obtain ⟨t0, t1, t2, t3, t4, t5⟩ := hR2.sixf; have hacc2 := below_then hacc (by omega) hb2; have hlt2 := hB2.lt; have hz2 := hb2.size; have HRr := Lib.hid (HRP.out.below hacc2); have HXr := Lib.hid (HX.out.below hacc2))
  · refine (HTO.out _ HRr.out HXr.out).mono ?_
    rintro e w3 ⟨lv3, sv3, pv3, nv3, rfl, hp3, hn3, hb3⟩
    obtain ⟨vs3, ⟨ra, rn, rc, rfl, -⟩, -⟩ := hp3.ls
    obtain ⟨ta, tn, tc, rfl⟩ := hp3.scr.form
    obtain ⟨ua, un, uc, rfl⟩ := hp3.pat.form
    have hR3 := hR2.below hb3 hR2.lt
    obtain ⟨q0, q1, q2, q3, q4, q5⟩ := hR3.six
    obtain ⟨v0, v1, v2, v3, v4, v5⟩ := hR3.sixf
    have hacc3 := below_then hacc2 (by omega) hb3
    have HP3 := Lib.hid hp3; have HN3 := Lib.hid hn3
    simp only [hiC, toH]
    clear hp3 hn3
    go_wp2
    obtain ⟨y0, y1, y2, y3, y4, y5⟩ := (hR3.six' (.slice ra rn rc) (.int .i64 M) (.int .i64 (wh : Int)) (.slice ta tn tc) (.slice ua un uc) (.bool O)).six
    refine bodyPost_ret (v := .tuple #[.agg (hiC (.slice ra rn rc) M (wh : Int) (.slice ta tn tc) (.slice ua un uc) O), nv3, .int .i64 0]) (by simp [results, Try.results36, go_sem, y0, y1, y2, y3, y4, y5, hiC]) rfl ?_
    exact ⟨_, _, _, _, rfl, (HP3.out.six (by omega)).imp (fun k hk => hk.1), (HN3.out.six (by omega)).imp (fun k hk => hk.1), below6 hacc3 (by omega)⟩
  · refine (HTO.out _ HRr.out HXr.out).mono ?_
    rintro e w3 ⟨lv3, sv3, pv3, nv3, rfl, hp3, hn3, hb3⟩
    obtain ⟨vs3, ⟨ra, rn, rc, rfl, -⟩, -⟩ := hp3.ls
    obtain ⟨ta, tn, tc, rfl⟩ := hp3.scr.form
    obtain ⟨ua, un, uc, rfl⟩ := hp3.pat.form
    have hR3 := hR2.below hb3 hR2.lt
    obtain ⟨q0, q1, q2, q3, q4, q5⟩ := hR3.six
    obtain ⟨v0, v1, v2, v3, v4, v5⟩ := hR3.sixf
    have hacc3 := below_then hacc2 (by omega) hb3
    have HP3 := Lib.hid hp3; have HN3 := Lib.hid hn3
    simp only [hiC, toH]
    clear hp3 hn3
    go_wp2
    obtain ⟨y0, y1, y2, y3, y4, y5⟩ := (hR3.six' (.slice ra rn rc) (.int .i64 M) (.int .i64 (wh : Int)) (.slice ta tn tc) (.slice ua un uc) (.bool O)).six
    refine bodyPost_ret (v := .tuple #[.agg (hiC (.slice ra rn rc) M (wh : Int) (.slice ta tn tc) (.slice ua un uc) O), nv3, .int .i64 0]) (by simp [results, Try.results36, go_sem, y0, y1, y2, y3, y4, y5, hiC]) rfl ?_
    exact ⟨_, _, _, _, rfl, (HP3.out.six (by omega)).imp (fun k hk => hk.1), (HN3.out.six (by omega)).imp (fun k hk => hk.1), below6 hacc3 (by omega)⟩

set_option maxRecDepth 100000 in
set_option maxHeartbeats 4000000 in
theorem ref_Move_j_fail (lv : Value) (most wher : Int) (sv pv : Value) (older : Bool) (ls : List (List Int)) (M W : Int) (scr pat : List Int) (O : Bool) (a : Option Addr) (nn c : Nat) (n : Int) (P : Nat → Prop) (w : World) (r : HiP P w lv most wher sv pv older ⟨ls, M, W, scr, pat, O⟩) (hE : hiE ⟨ls, M, W, scr, pat, O⟩ = 0) (h0 : nn ≤ 200) (hn0 : 0 ≤ n) (hn1 : n ≤ 999) (hf : (ls.length : Int) < n ∨ ls.length = 0) :
    Calls Try.prog 36 #[.agg (hiC lv most wher sv pv older), .slice a nn c, .int .i64 n, .int .i64 0] w (HPost P hi0 [] 5 w) := by
  have hok := hiOk_of hE
  obtain ⟨w0, wl⟩ : 0 ≤ W ∧ W ≤ ls.length := ⟨hok.wher1, hok.wher2⟩
  have l50 : ls.length ≤ 50 := by have := hok.len; have := hok.most2; simp only at *; omega
  have HE := Lib.hid hE
  have HR0 := Lib.hid r.hir
  have HRP := Lib.hid r.lt
  clear hE hok
  obtain ⟨⟨vs, hvsP, hlsP⟩, h1, h2, hscr, hpat, h3⟩ := r
  simp only at hlsP h1 h2 h3 hscr hpat
  have hvs := hvsP.vs
  have hls := hlsP.lists
  clear hvsP hlsP
  obtain rfl : M = most := h1.symm
  obtain rfl : W = wher := h2.symm
  obtain rfl : O = older := h3.symm
  obtain ⟨la, ln, lc, rfl, hl1, hl2, hl3, hl4, hl5⟩ := hvs
  obtain ⟨sa, sn, sc, rfl, hs1, hs2, hs3, hs4, hs5, -⟩ := hscr
  obtain ⟨pa, pn, pc, rfl, hp1, hp2, hp3, hp4, hp5, -⟩ := hpat
  have hll : ls.length = ln := by rw [← hls.len]; exact hl1
  have HRT := Lib.hid (fun W' r => ref_histErr (.slice la ln lc) M W (.slice sa sn sc) (.slice pa pn pc) O ⟨ls, M, W, scr, pat, O⟩ W' r)
  have HLL := Lib.hid hll
  rw [hll] at wl hf
  have l50' : ln ≤ 50 := by omega
  have hcs : ((ln : Int) < n ∧ 1 < n) ∨ ((ln : Int) < n ∧ n = 1) ∨ (n = 0 ∧ (ln : Int) ≤ 0) := by omega
  clear hf l50
  unfold hiC at *
  have hB := (Blk.new w #[.slice la ln lc, .int .i64 M, .int .i64 W, .slice sa sn sc, .slice pa pn pc, .bool O] 48).alloc (.cells #[.slice none 0 0, .int .i64 0, .int .i64 0, .slice none 0 0, .slice none 0 0, .bool false] 48)
  have hR := Blk.new (w.alloc (.cells #[.slice la ln lc, .int .i64 M, .int .i64 W, .slice sa sn sc, .slice pa pn pc, .bool O] 48)) #[.slice none 0 0, .int .i64 0, .int .i64 0, .slice none 0 0, .slice none 0 0, .bool false] 48
  rw [World.size_alloc] at hR
  have hacc := below2 w (.cells #[.slice la ln lc, .int .i64 M, .int .i64 W, .slice sa sn sc, .slice pa pn pc, .bool O] 48) (.cells #[.slice none 0 0, .int .i64 0, .int .i64 0, .slice none 0 0, .slice none 0 0, .bool false] 48)
  have hsz : w.heap.size + 2 ≤ ((w.alloc (.cells #[.slice la ln lc, .int .i64 M, .int .i64 W, .slice sa sn sc, .slice pa pn pc, .bool O] 48)).alloc (.cells #[.slice none 0 0, .int .i64 0, .int .i64 0, .slice none 0 0, .slice none 0 0, .bool false] 48)).heap.size := by simp
  have HR1 := Lib.hid (HR0.out.below hacc)
  clear hs1 hp1 hl1 hl5 hs5 hp5 hll hls HR0
  rcases hcs with ⟨k1, k2⟩ | ⟨k1, rfl⟩ | ⟨rfl, k2⟩
  all_goals
    go_enter Try.func36, Try.ntmps36
    go_upto_region 1 with fail
    change Code.wp _ _ _ _ ((w.alloc (.cells #[.slice la ln lc, .int .i64 M, .int .i64 W, .slice sa sn sc, .slice pa pn pc, .bool O] 48)).alloc (.cells #[.slice none 0 0, .int .i64 0, .int .i64 0, .slice none 0 0, .slice none 0 0, .bool false] 48))
    generalize ((w.alloc (.cells #[.slice la ln lc, .int .i64 M, .int .i64 W, .slice sa sn sc, .slice pa pn pc, .bool O] 48)).alloc (.cells #[.slice none 0 0, .int .i64 0, .int .i64 0, .slice none 0 0, .slice none 0 0, .bool false] 48)) = w1 at *
    obtain ⟨c0, c1, c2, c3, c4, c5⟩ := hB.six
    go_wp2_with ((go_at_call 31); refine (HRT.out _ HR1.out).mono ?_; rintro e w2 ⟨rfl, hb2⟩; rw [HE.out]; have hB2 := hB.below hb2 hB.lt; obtain ⟨d0, d1, d2, d3, d4, d5⟩ := hB2.six; have hR2 := hR.below hb2 hR.lt; obtain ⟨p0, p1, p2, p3, p4, p5⟩ := hR2.six; obtain ⟨t0, t1, t2, t3, t4, t5⟩ := hR2.sixf; have hacc2 := below_then hacc (by omega) hb2; have hlt2 := hB2.lt; have hz2 := hb2.size)
    all_goals
      obtain ⟨y0, y1, y2, y3, y4, y5⟩ := (hR2.six' (.slice none 0 0) (.int .i64 0) (.int .i64 0) (.slice none 0 0) (.slice none 0 0) (.bool false)).six
      refine bodyPost_ret (v := .tuple #[.agg (hiC (.slice none 0 0) 0 0 (.slice none 0 0) (.slice none 0 0) false), .slice none 0 0, .int .i64 (5)]) (by simp [results, Try.results36, go_sem, y0, y1, y2, y3, y4, y5, hiC]) rfl ?_
      exact ⟨_, _, _, _, rfl, hip0 _ _, SlP.nil _ _, below6 hacc2 (Nat.le_succ _)⟩

set_option maxRecDepth 100000 in
set_option maxHeartbeats 4000000 in
theorem ref_Move_j_ok (lv : Value) (most wher : Int) (sv pv : Value) (older : Bool) (ls : List (List Int)) (M W : Int) (scr pat : List Int) (O : Bool) (a : Option Addr) (nn c : Nat) (n : Int) (P : Nat → Prop) (w : World) (r : HiP P w lv most wher sv pv older ⟨ls, M, W, scr, pat, O⟩) (hE : hiE ⟨ls, M, W, scr, pat, O⟩ = 0) (h0 : nn ≤ 200) (hn0 : 0 ≤ n) (hn1 : n ≤ 999) (xs : List Int) (hx : SlP P w (.slice a nn c) xs) (wh : Nat) (hf : ¬ ((ls.length : Int) < n ∨ ls.length = 0)) (hk : (wh : Int) = max 0 (n - 1)) :
    Calls Try.prog 36 #[.agg (hiC lv most wher sv pv older), .slice a nn c, .int .i64 n, .int .i64 0] w (HPost P (toH ⟨ls, M, W, scr, pat, O⟩ xs wh) (toL ⟨ls, M, W, scr, pat, O⟩ xs wh) 0 w) := by
  have hok := hiOk_of hE
  obtain ⟨w0, wl⟩ : 0 ≤ W ∧ W ≤ ls.length := ⟨hok.wher1, hok.wher2⟩
  have l50 : ls.length ≤ 50 := by have := hok.len; have := hok.most2; simp only at *; omega
  have HE := Lib.hid hE
  have HR0 := Lib.hid r.hir
  have HRP := Lib.hid r.lt
  clear hE hok
  have hwh : wh ≤ ls.length := by omega
  have HX := Lib.hid hx.lt
  clear hx
  obtain ⟨⟨vs, hvsP, hlsP⟩, h1, h2, hscr, hpat, h3⟩ := r
  simp only at hlsP h1 h2 h3 hscr hpat
  have hvs := hvsP.vs
  have hls := hlsP.lists
  clear hvsP hlsP
  obtain rfl : M = most := h1.symm
  obtain rfl : W = wher := h2.symm
  obtain rfl : O = older := h3.symm
  obtain ⟨la, ln, lc, rfl, hl1, hl2, hl3, hl4, hl5⟩ := hvs
  obtain ⟨sa, sn, sc, rfl, hs1, hs2, hs3, hs4, hs5, -⟩ := hscr
  obtain ⟨pa, pn, pc, rfl, hp1, hp2, hp3, hp4, hp5, -⟩ := hpat
  have hll : ls.length = ln := by rw [← hls.len]; exact hl1
  have HRT := Lib.hid (fun W' r => ref_histErr (.slice la ln lc) M W (.slice sa sn sc) (.slice pa pn pc) O ⟨ls, M, W, scr, pat, O⟩ W' r)
  have HTO := Lib.hid (fun W' r hx => ref_histTo (.slice la ln lc) M W (.slice sa sn sc) (.slice pa pn pc) O ⟨ls, M, W, scr, pat, O⟩ a nn c xs wh (fun k => P k ∧ k < w.heap.size) W' r hx hwh l50)
  have HLL := Lib.hid hll
  rw [hll] at wl hf
  have l50' : ln ≤ 50 := by omega
  have hcs : (n = 0 ∧ wh = 0 ∧ 0 < ln) ∨ (n = 1 ∧ wh = 0 ∧ 0 < ln) ∨ (2 ≤ n ∧ n - 1 = (wh : Int) ∧ n ≤ ln) := by omega
  clear hf l50 hwh hk
  unfold hiC at *
  have hB := (Blk.new w #[.slice la ln lc, .int .i64 M, .int .i64 W, .slice sa sn sc, .slice pa pn pc, .bool O] 48).alloc (.cells #[.slice none 0 0, .int .i64 0, .int .i64 0, .slice none 0 0, .slice none 0 0, .bool false] 48)
  have hR := Blk.new (w.alloc (.cells #[.slice la ln lc, .int .i64 M, .int .i64 W, .slice sa sn sc, .slice pa pn pc, .bool O] 48)) #[.slice none 0 0, .int .i64 0, .int .i64 0, .slice none 0 0, .slice none 0 0, .bool false] 48
  rw [World.size_alloc] at hR
  have hacc := below2 w (.cells #[.slice la ln lc, .int .i64 M, .int .i64 W, .slice sa sn sc, .slice pa pn pc, .bool O] 48) (.cells #[.slice none 0 0, .int .i64 0, .int .i64 0, .slice none 0 0, .slice none 0 0, .bool false] 48)
  have hsz : w.heap.size + 2 ≤ ((w.alloc (.cells #[.slice la ln lc, .int .i64 M, .int .i64 W, .slice sa sn sc, .slice pa pn pc, .bool O] 48)).alloc (.cells #[.slice none 0 0, .int .i64 0, .int .i64 0, .slice none 0 0, .slice none 0 0, .bool false] 48)).heap.size := by simp
  have HR1 := Lib.hid (HR0.out.below hacc)
  clear hs1 hp1 hl1 hl5 hs5 hp5 hll hls HR0
  rcases hcs with ⟨rfl, rfl, k1⟩ | ⟨rfl, rfl, k1⟩ | ⟨k1, k2, k3⟩
  all_goals
    go_enter Try.func36, Try.ntmps36
    go_upto_region 1 with fail
    change Code.wp _ _ _ _ ((w.alloc (.cells #[.slice la ln lc, .int .i64 M, .int .i64 W, .slice sa sn sc, .slice pa pn pc, .bool O] 48)).alloc (.cells #[.slice none 0 0, .int .i64 0, .int .i64 0, .slice none 0 0, .slice none 0 0, .bool false] 48))
    generalize ((w.alloc (.cells #[.slice la ln lc, .int .i64 M, .int .i64 W, .slice sa sn sc, .slice pa pn pc, .bool O] 48)).alloc (.cells #[.slice none 0 0, .int .i64 0, .int .i64 0, .slice none 0 0, .slice none 0 0, .bool false] 48)) = w1 at *
    obtain ⟨c0, c1, c2, c3, c4, c5⟩ := hB.six
    go_wp2_with ((go_at_call 31); refine (HRT.out _ HR1.out).mono ?_; rintro e w2 ⟨rfl, hb2⟩; rw [HE.out]; have hB2 := hB.below hb2 hB.lt; obtain ⟨d0, d1, d2, d3, d4, d5⟩ := hB2.six; have hR2 := hR.below hb2 hR.lt; obtain ⟨p0, p1, p2, p3, p4, p5⟩ := hR2.six; obtain ⟨t0, t1, t2, t3, t4, t5⟩ := hR2.sixf; have hacc2 := below_then hacc (by omega) hb2; have hlt2 := hB2.lt; have hz2 := hb2.size; have HRr := Lib.hid (HRP.out.below hacc2); have HXr := Lib.hid (HX.out.below hacc2))
  · refine (HTO.out _ HRr.out HXr.out).mono ?_
    rintro e w3 ⟨lv3, sv3, pv3, nv3, rfl, hp3, hn3, hb3⟩
    obtain ⟨vs3, ⟨ra, rn, rc, rfl, -⟩, -⟩ := hp3.ls
    obtain ⟨ta, tn, tc, rfl⟩ := hp3.scr.form
    obtain ⟨ua, un, uc, rfl⟩ := hp3.pat.form
    have hR3 := hR2.below hb3 hR2.lt
    obtain ⟨q0, q1, q2, q3, q4, q5⟩ := hR3.six
    obtain ⟨v0, v1, v2, v3, v4, v5⟩ := hR3.sixf
    have hacc3 := below_then hacc2 (by omega) hb3
    have HP3 := Lib.hid hp3; have HN3 := Lib.hid hn3
    simp only [hiC, toH]
    clear hp3 hn3
    go_wp2
    obtain ⟨y0, y1, y2, y3, y4, y5⟩ := (hR3.six' (.slice ra rn rc) (.int .i64 M) (.int .i64 (0 : Int)) (.slice ta tn tc) (.slice ua un uc) (.bool O)).six
    refine bodyPost_ret (v := .tuple #[.agg (hiC (.slice ra rn rc) M (0 : Int) (.slice ta tn tc) (.slice ua un uc) O), nv3, .int .i64 0]) (by simp [results, Try.results36, go_sem, y0, y1, y2, y3, y4, y5, hiC]) rfl ?_
    exact ⟨_, _, _, _, rfl, (HP3.out.six (by omega)).imp (fun k hk => hk.1), (HN3.out.six (by omega)).imp (fun k hk => hk.1), below6 hacc3 (by omega)⟩
  · refine (HTO.out _ HRr.out HXr.out).mono ?_
    rintro e w3 ⟨lv3, sv3, pv3, nv3, rfl, hp3, hn3, hb3⟩
    obtain ⟨vs3, ⟨ra, rn, rc, rfl, -⟩, -⟩ := hp3.ls
    obtain ⟨ta, tn, tc, rfl⟩ := hp3.scr.form
    obtain ⟨ua, un, uc, rfl⟩ := hp3.pat.form
    have hR3 := hR2.below hb3 hR2.lt
    obtain ⟨q0, q1, q2, q3, q4, q5⟩ := hR3.six
    obtain ⟨v0, v1, v2, v3, v4, v5⟩ := hR3.sixf
    have hacc3 := below_then hacc2 (by omega) hb3
    have HP3 := Lib.hid hp3; have HN3 := Lib.hid hn3
    simp only [hiC, toH]
    clear hp3 hn3
    go_wp2
    obtain ⟨y0, y1, y2, y3, y4, y5⟩ := (hR3.six' (.slice ra rn rc) (.int .i64 M) (.int .i64 (0 : Int)) (.slice ta tn tc) (.slice ua un uc) (.bool O)).six
    refine bodyPost_ret (v := .tuple #[.agg (hiC (.slice ra rn rc) M (0 : Int) (.slice ta tn tc) (.slice ua un uc) O), nv3, .int .i64 0]) (by simp [results, Try.results36, go_sem, y0, y1, y2, y3, y4, y5, hiC]) rfl ?_
    exact ⟨_, _, _, _, rfl, (HP3.out.six (by omega)).imp (fun k hk => hk.1), (HN3.out.six (by omega)).imp (fun k hk => hk.1), below6 hacc3 (by omega)⟩
  · refine (HTO.out _ HRr.out HXr.out).mono ?_
    rintro e w3 ⟨lv3, sv3, pv3, nv3, rfl, hp3, hn3, hb3⟩
    obtain ⟨vs3, ⟨ra, rn, rc, rfl, -⟩, -⟩ := hp3.ls
    obtain ⟨ta, tn, tc, rfl⟩ := hp3.scr.form
    obtain ⟨ua, un, uc, rfl⟩ := hp3.pat.form
    have hR3 := hR2.below hb3 hR2.lt
    obtain ⟨q0, q1, q2, q3, q4, q5⟩ := hR3.six
    obtain ⟨v0, v1, v2, v3, v4, v5⟩ := hR3.sixf
    have hacc3 := below_then hacc2 (by omega) hb3
    have HP3 := Lib.hid hp3; have HN3 := Lib.hid hn3
    simp only [hiC, toH]
    clear hp3 hn3
    go_wp2
    obtain ⟨y0, y1, y2, y3, y4, y5⟩ := (hR3.six' (.slice ra rn rc) (.int .i64 M) (.int .i64 (wh : Int)) (.slice ta tn tc) (.slice ua un uc) (.bool O)).six
    refine bodyPost_ret (v := .tuple #[.agg (hiC (.slice ra rn rc) M (wh : Int) (.slice ta tn tc) (.slice ua un uc) O), nv3, .int .i64 0]) (by simp [results, Try.results36, go_sem, y0, y1, y2, y3, y4, y5, hiC]) rfl ?_
    exact ⟨_, _, _, _, rfl, (HP3.out.six (by omega)).imp (fun k hk => hk.1), (HN3.out.six (by omega)).imp (fun k hk => hk.1), below6 hacc3 (by omega)⟩

end Go.Proofs.Ytmipnikhgihcpaa
