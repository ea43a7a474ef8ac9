/- Contract of fairref.HistFind. -/
import Derived.Test.YtbgbcmfgncneiaaHistC
namespace Go.Proofs.Ytbgbcmfgncneiaa
open Go.RowKit
set_option linter.unusedVariables false
set_option linter.unusedSimpArgs false

set_option maxRecDepth 100000 in
set_option maxHeartbeats 4000000 in
theorem ref_Find_Po (lv : Value) (most wher : Int) (sv pv : Value) (older : Bool) (ls : List (List Int)) (M W : Int) (scr pat : List Int) (O : Bool) (a : Option Addr) (nn c : Nat) (a2 : Option Addr) (np cq : Nat) (P : Nat → Prop) (w : World) (r : HiP P w lv most wher sv pv older ⟨ls, M, W, scr, pat, O⟩) (xs : List Int) (ps : List Int) (hE : hiE ⟨ls, M, W, scr, pat, O⟩ = 0) (hok : HiOk ⟨ls, M, W, scr, pat, O⟩) (hx : SlP P w (.slice a nn c) xs) (hnn : nn ≤ 200) (h0 : 0 < np) (hpsl : SlP P w (.slice a2 np cq) ps) (hnp : np ≤ 200) :
    Calls Try.prog 71 #[.agg (hiC lv most wher sv pv older), .slice a nn c, .slice a2 np cq, .bool true] w (RFindPost P ⟨ls, M, W, scr, pat, O⟩ xs ps true w) := by
  have HE := Lib.hid hE
  have HR0 := Lib.hid r.hir
  have HOK := Lib.hid hok
  have HX := Lib.hid hx.lt
  have HRP := Lib.hid r.lt
  obtain ⟨w0, wl⟩ : 0 ≤ W ∧ W ≤ ls.length := ⟨hok.wher1, hok.wher2⟩
  have l50 : ls.length ≤ 50 := by have := hok.len; have := hok.most2; simp only at *; omega
  have LL := Lib.hid hok.lines
  have hpat200 : pat.length ≤ 200 := hok.pat
  clear hE hok hx
  obtain ⟨⟨vs, hvsP, hlsP⟩, h1, h2, hscr, hpat, h3⟩ := r
  simp only at hlsP h1 h2 h3 hscr hpat
  have hvs := hvsP.vs
  have hls := hlsP.lists
  clear hvsP hlsP
  obtain rfl : M = most := h1.symm
  obtain rfl : W = wher := h2.symm
  obtain rfl : O = older := h3.symm
  obtain ⟨la, ln, lc, rfl, hl1, hl2, hl3, hl4, hl5⟩ := hvs
  obtain ⟨sa, sn, sc, rfl, hs1, hs2, hs3, hs4, hs5, -⟩ := hscr
  have HPS := Lib.hid hpat
  obtain ⟨pa, pn, pc, rfl, hp1, hp2, hp3, hp4, hp5, -⟩ := hpat
  have hll : ls.length = ln := by rw [← hls.len]; exact hl1
  have HRT := Lib.hid (fun W' r => ref_histErr (.slice la ln lc) M W (.slice sa sn sc) (.slice pa pn pc) O ⟨ls, M, W, scr, pat, O⟩ W' r)
  have HTO := Lib.hid (fun wh hwh W' r hx => ref_histTo (.slice la ln lc) M W (.slice sa sn sc) (.slice pa pn pc) O ⟨ls, M, W, scr, pat, O⟩ a nn c xs wh (fun k => P k ∧ k < w.heap.size) W' r hx hwh l50)
  rw [hll] at wl
  have l50' : ln ≤ 50 := by omega
  have hqn : np ≤ 200 := hnp
  have HQS := Lib.hid hpsl.lt
  obtain ⟨hpl, hpc, hpc2, hps, hp0⟩ := hpsl.get
  have hq0 : ((np : Int) == 0) = false := by simp; omega
  have HQ := Lib.hid hpl
  clear hpl hp0 hpat200 hpsl
  have HL1 := Lib.hid hl1; have HLS := Lib.hid hls; have HLL := Lib.hid hll
  unfold hiC at *
  have hB := (Blk.new w #[.slice la ln lc, .int .i64 M, .int .i64 W, .slice sa sn sc, .slice pa pn pc, .bool O] 90).alloc (.cells #[.slice none 0 0, .int .i64 0, .int .i64 0, .slice none 0 0, .slice none 0 0, .bool false] 90)
  have hR := Blk.new (w.alloc (.cells #[.slice la ln lc, .int .i64 M, .int .i64 W, .slice sa sn sc, .slice pa pn pc, .bool O] 90)) #[.slice none 0 0, .int .i64 0, .int .i64 0, .slice none 0 0, .slice none 0 0, .bool false] 90
  rw [World.size_alloc] at hR
  have hacc := below2 w (.cells #[.slice la ln lc, .int .i64 M, .int .i64 W, .slice sa sn sc, .slice pa pn pc, .bool O] 90) (.cells #[.slice none 0 0, .int .i64 0, .int .i64 0, .slice none 0 0, .slice none 0 0, .bool false] 90)
  have hsz : w.heap.size + 2 ≤ ((w.alloc (.cells #[.slice la ln lc, .int .i64 M, .int .i64 W, .slice sa sn sc, .slice pa pn pc, .bool O] 90)).alloc (.cells #[.slice none 0 0, .int .i64 0, .int .i64 0, .slice none 0 0, .slice none 0 0, .bool false] 90)).heap.size := by simp
  have HR1 := Lib.hid (HR0.out.below hacc)
  clear hs1 hp1 hl1 hl5 hs5 hp5 hll hls HR0 l50
  go_enter Try.func71, Try.ntmps71
  go_upto_region 1 with fail
  change Code.wp _ _ _ _ ((w.alloc (.cells #[.slice la ln lc, .int .i64 M, .int .i64 W, .slice sa sn sc, .slice pa pn pc, .bool O] 90)).alloc (.cells #[.slice none 0 0, .int .i64 0, .int .i64 0, .slice none 0 0, .slice none 0 0, .bool false] 90))
  generalize ((w.alloc (.cells #[.slice la ln lc, .int .i64 M, .int .i64 W, .slice sa sn sc, .slice pa pn pc, .bool O] 90)).alloc (.cells #[.slice none 0 0, .int .i64 0, .int .i64 0, .slice none 0 0, .slice none 0 0, .bool false] 90)) = w1 at *
  obtain ⟨c0, c1, c2, c3, c4, c5⟩ := hB.six
  go_wp2_with ((go_at_call 61); refine (HRT.out _ HR1.out).mono ?_; rintro e w2 ⟨rfl, hb2⟩; rw [HE.out]; have hB2 := hB.below hb2 hB.lt; obtain ⟨d0, d1, d2, d3, d4, d5⟩ := hB2.six; have hR2 := hR.below hb2 hR.lt; obtain ⟨p0, p1, p2, p3, p4, p5⟩ := hR2.six; obtain ⟨t0, t1, t2, t3, t4, t5⟩ := hR2.sixf; have hacc2 := below_then hacc (by omega) hb2; have hlt2 := hB2.lt; have hz2 := hb2.size)
  have HR2 := Lib.hid (HR1.out.below hb2)
  go_loopw [12, 45] (fun v i wr => ∃ (k : Nat) (b : Int), i = .int .i64 (k : Int) ∧ v = .int .i64 b ∧ k ≤ ln ∧ (-1 ≤ b ∧ b < ln) ∧ Hid (BestP (fun j => fitsB ps (rx ls j)) true W k b) ∧ Below w2.heap.size w2 wr) (fun _ i _ => ln - (intOf i).toNat)
  case atStart => exact ⟨0, -1, rfl, rfl, by omega, by omega, Lib.hid (BestP.zero _ _ _), Below.refl _ _⟩
  case round =>
    obtain ⟨k, b, rfl, rfl, hk, hbd, HBP, hbr⟩ := hrel
    have hBr := hB2.below hbr hB2.lt
    obtain ⟨r0, r1, r2, r3, r4, r5⟩ := hBr.six
    have hRr := hR2.below hbr hR2.lt
    obtain ⟨p0, p1, p2, p3, p4, p5⟩ := hRr.six
    obtain ⟨t0, t1, t2, t3, t4, t5⟩ := hRr.sixf
    have haccr := below_then hacc2 (by omega) hbr
    have hzr := hbr.size
    by_cases hkl : k < ln
    · obtain ⟨lb, lo, rfl, hlc⟩ := (hl4.below haccr).at (k := k) (by rw [HL1.out]; exact hkl)
      have e1 := hlc k (by rw [HL1.out]; exact hkl)
      obtain ⟨xa, xn, xc, x1, x2, x3, x4, x5, x6⟩ := (HLS.out.below haccr).sl k (by rw [HLL.out]; exact hkl)
      rw [x1] at e1
      have hxn200 : xn ≤ 4096 := by have := LL.out k (by show k < ls.length; rw [HLL.out]; exact hkl); omega
      have HXK := Lib.hid x2
      have HFT := Lib.hid (fun W' h1 h2 => ref_fits a2 xa np cq xn xc ps (rx ls k) W' h1 h2 HQ.out HXK.out (by omega) hxn200 hpc x3 hpc2 x4)
      have hq := hps.below haccr
      have hzz : w.heap.size + 2 ≤ wr.heap.size := by omega
      clear x1 x2 x6 hlc
      by_cases hfit : fitsB ps (rx ls k) = true
      · have HFI := Lib.hid hfit
        by_cases hsd : (k : Int) < W
        · skip
          all_goals
            go_wp2_with ((go_at_call 141); refine (HFT.out _ hq x5).mono ?_; rintro e w5 ⟨rfl, hb5⟩; rw [hfit]; have hB5 := hBr.below hb5 hBr.lt; obtain ⟨s0, s1, s2, s3, s4, s5⟩ := hB5.six)
            go_roundw
            case rel => exact ⟨k + 1, k, by go_num, rfl, by omega, by omega, Lib.hid (HBP.out.older HFI.out hsd), below_then hbr (by omega) hb5⟩
            case measure => simp [intOf]; omega
        · go_wp2_with ((go_at_call 141); refine (HFT.out _ hq x5).mono ?_; rintro e w5 ⟨rfl, hb5⟩; rw [hfit]; have hB5 := hBr.below hb5 hBr.lt; obtain ⟨s0, s1, s2, s3, s4, s5⟩ := hB5.six)
          go_roundw
          case rel => exact ⟨k + 1, b, by go_num, rfl, by omega, by omega, Lib.hid (HBP.out.miss (fun hs => by simp only [sideB, if_true, if_false, Bool.false_eq_true] at hs; omega)), below_then hbr (by omega) hb5⟩
          case measure => simp [intOf]; omega
      · have hfit' : fitsB ps (rx ls k) = false := by simpa using hfit
        have HFF := Lib.hid hfit'
        clear hfit
        go_wp2_with ((go_at_call 141); refine (HFT.out _ hq x5).mono ?_; rintro e w5 ⟨rfl, hb5⟩; rw [hfit'])
        go_roundw
        case rel => exact ⟨k + 1, b, by go_num, rfl, by omega, by omega, Lib.hid (HBP.out.miss (fun _ => HFF.out)), below_then hbr (by omega) hb5⟩
        case measure => simp [intOf]; omega
    · obtain rfl : k = ln := by omega
      rcases HBP.out with ⟨hb0, hno⟩ | ⟨m, hb0, hfo⟩
      · have HN := Lib.hid hno
        have hbn : b < 0 := by omega
        clear hno hb0 hbd
        go_wp2
        obtain ⟨y0, y1, y2, y3, y4, y5⟩ := (hRr.six' (.slice none 0 0) (.int .i64 0) (.int .i64 0) (.slice none 0 0) (.slice none 0 0) (.bool false)).six
        refine bodyPost_ret (v := .tuple #[.agg (hiC (.slice none 0 0) 0 0 (.slice none 0 0) (.slice none 0 0) false), .slice none 0 0, .int .i64 (5)]) (by simp [results, Try.results71, go_sem, y0, y1, y2, y3, y4, y5, hiC]) rfl ?_
        exact .inr ⟨by show NoFind _ _ _ ls.length; rw [HLL.out]; exact HN.out, _, _, _, _, rfl, hip0 _ _, SlP.nil _ _, below6 haccr (Nat.le_succ _)⟩
      · obtain rfl : b = (m : Int) := hb0
        have HFO := Lib.hid hfo
        have hm0 : (0 : Int) ≤ (m : Int) := by omega
        have hmls : m ≤ ls.length := by rw [HLL.out]; omega
        have HML := Lib.hid hmls
        have HRr := Lib.hid (HRP.out.below haccr)
        have hxr := HX.out.below haccr
        have HXR := Lib.hid hxr
        clear hfo hmls hxr
        go_wp2_with fail
        refine (HTO.out m HML.out _ HRr.out HXR.out).mono ?_
        rintro e w6 ⟨lv6, sv6, pv6, nv6, rfl, hp6, hn6, hb6⟩
        obtain ⟨vs6, ⟨ra, rn, rc, rfl, -⟩, -⟩ := hp6.ls
        obtain ⟨ta, tn, tc, rfl⟩ := hp6.scr.form
        obtain ⟨ua, un, uc, rfl⟩ := hp6.pat.form
        have HP6 := Lib.hid hp6.lt; have HN6 := Lib.hid hn6.lt
        have hz6 := hb6.size
        have hacc6 := below_then haccr (by omega) hb6
        have hR6 := hRr.below hb6 hRr.lt
        simp only [hiC, toH]
        clear hp6 hn6 p0 p1 p2 p3 p4 p5 t0 t1 t2 t3 t4 t5 r0 r1 r2 r3 r4 r5
        have hk0 := below1 w6 (.cells #[.slice ra rn rc, .int .i64 M, .int .i64 (m : Int), .slice ta tn tc, .slice ua un uc, .bool O] 90)
        have hN7 := Blk.new w6 #[.slice ra rn rc, .int .i64 M, .int .i64 (m : Int), .slice ta tn tc, .slice ua un uc, .bool O] 90
        have hR7 := hR6.alloc (.cells #[.slice ra rn rc, .int .i64 M, .int .i64 (m : Int), .slice ta tn tc, .slice ua un uc, .bool O] 90)
        have hacc7 := below_then hacc6 (by omega) hk0
        have HP7 := Lib.hid (HP6.out.below hk0); have HN7 := Lib.hid (HN6.out.below hk0)
        have HQ7 := Lib.hid (HQS.out.below hacc7)
        clear HP6 HN6
        go_upto_region 21 with fail
        change Code.wp _ _ _ _ (w6.alloc (.cells #[.slice ra rn rc, .int .i64 M, .int .i64 (m : Int), .slice ta tn tc, .slice ua un uc, .bool O] 90))
        generalize (w6.alloc (.cells #[.slice ra rn rc, .int .i64 M, .int .i64 (m : Int), .slice ta tn tc, .slice ua un uc, .bool O] 90)) = w7 at *
        obtain ⟨n0, n1, n2, n3, n4, n5⟩ := hN7.six; obtain ⟨m0, m1, m2, m3, m4, m5⟩ := hN7.sixf; obtain ⟨p0, p1, p2, p3, p4, p5⟩ := hR7.six; obtain ⟨t0, t1, t2, t3, t4, t5⟩ := hR7.sixf
        go_wp2
        have hR8 := (hR7.other (a := ⟨w6.heap.size, 4, none⟩) (by show w.heap.size + 1 ≠ w6.heap.size; omega) (.slice a2 np cq)).other (a := ⟨w6.heap.size, 5, none⟩) (by show w.heap.size + 1 ≠ w6.heap.size; omega) (.bool true)
        obtain ⟨y0, y1, y2, y3, y4, y5⟩ := (hR8.six' (.slice ra rn rc) (.int .i64 M) (.int .i64 (m : Int)) (.slice ta tn tc) (.slice a2 np cq) (.bool true)).six
        refine bodyPost_ret (v := .tuple #[.agg (hiC (.slice ra rn rc) M (m : Int) (.slice ta tn tc) (.slice a2 np cq) true), nv6, .int .i64 0]) (by simp [results, Try.results71, go_sem, y0, y1, y2, y3, y4, y5, hiC]) rfl ?_
        have hacc8 := (hacc7.setCell (p := ⟨w6.heap.size, 4, none⟩) (by show w.heap.size ≤ w6.heap.size; omega) (.slice a2 np cq)).setCell (p := ⟨w6.heap.size, 5, none⟩) (by show w.heap.size ≤ w6.heap.size; omega) (.bool true)
        have hcl := fun (p : Addr) (v : Value) (hp : P p.block ∧ p.block < w.heap.size) (hc : w7.cell? p = some v) =>
          cell6 (B := w.heap.size + 1) (u0 := .slice ra rn rc) (u1 := .int .i64 M) (u2 := .int .i64 (m : Int)) (u3 := .slice ta tn tc) (u4 := .slice a2 np cq) (u5 := .bool true) (cell_other (cell_other hc (a := ⟨w6.heap.size, 4, none⟩) (u := .slice a2 np cq) (by show p.block ≠ w6.heap.size; omega)) (a := ⟨w6.heap.size, 5, none⟩) (u := .bool true) (by show p.block ≠ w6.heap.size; omega)) (by omega)
        have hP9 := (HP7.out.imp (Q := fun k => P k ∧ k < w.heap.size) (fun k hk => hk.1)).keep hcl
        have hN9 := (HN7.out.imp (Q := fun k => P k ∧ k < w.heap.size) (fun k hk => hk.1)).keep hcl
        have hQ9 := HQ7.out.keep hcl
        obtain ⟨vsA, g1, g2⟩ := hP9.ls
        exact .inl ⟨m, by show Found _ _ _ ls.length m; rw [HLL.out]; exact HFO.out, _, _, _, _, rfl, ⟨⟨vsA, g1.imp (fun _ hk => hk.1), g2.imp (fun _ _ h => h.imp (fun _ hk => hk.1))⟩, rfl, rfl, hP9.scr.imp (fun _ hk => hk.1), hQ9.imp (fun _ hk => hk.1), rfl⟩, hN9.imp (fun _ hk => hk.1), below6 hacc8 (Nat.le_succ _)⟩

end Go.Proofs.Ytbgbcmfgncneiaa
