/- Contract of hist.Find. -/
import Derived.Test.YtbgbcmfgncneiaaHist7
namespace Go.Proofs.Ytbgbcmfgncneiaa
open Go.RowKit
set_option linter.unusedVariables false
set_option linter.unusedSimpArgs false

set_option maxRecDepth 100000 in
set_option maxHeartbeats 4000000 in
theorem hist_Find_No (lv : Value) (most wher : Int) (sv pv : Value) (older : Bool) (ls : List (List Int)) (M W : Int) (scr pat : List Int) (O : Bool) (a : Option Addr) (nn c : Nat) (a2 : Option Addr) (np cq : Nat) (w : World) (r : HiR w lv most wher sv pv older ⟨ls, M, W, scr, pat, O⟩) (xs : List Int) (hE : rightE ⟨ls, M, W, scr, pat, O⟩ nn 0 = 0) (hok : HiOk ⟨ls, M, W, scr, pat, O⟩) (hx : Ints w a xs) (hxn : xs.length = nn) (hx0 : a = none → nn = 0) (hnn : nn ≤ 200) (h0 : np = 0) (hpn : pat ≠ []) :
    Calls Try.prog 70 #[.agg (hiC lv most wher sv pv older), .slice a nn c, .slice a2 np cq, .bool true] w (FindPost ⟨ls, M, W, scr, pat, O⟩ xs pat true w) := by
  have HE := Lib.hid hE
  have HR0 := Lib.hid r
  have HXN := Lib.hid hxn; have HX0 := Lib.hid hx0; have HOK := Lib.hid hok
  obtain ⟨w0, wl⟩ : 0 ≤ W ∧ W ≤ ls.length := ⟨hok.wher1, hok.wher2⟩
  have l50 : ls.length ≤ 50 := by have := hok.len; have := hok.most2; simp only at *; omega
  have LL := Lib.hid hok.lines
  have hpat200 : pat.length ≤ 200 := hok.pat
  clear hE hxn hx0 hok
  obtain ⟨⟨vs, hvs, hls⟩, h1, h2, hscr, hpat, h3⟩ := r
  simp only at hls h1 h2 h3 hscr hpat
  obtain rfl : M = most := h1.symm
  obtain rfl : W = wher := h2.symm
  obtain rfl : O = older := h3.symm
  obtain ⟨la, ln, lc, rfl, hl1, hl2, hl3, hl4, hl5⟩ := hvs
  obtain ⟨sa, sn, sc, rfl, hs1, hs2, hs3, hs4, hs5⟩ := hscr
  obtain ⟨pa, pn, pc, rfl, hp1, hp2, hp3, hp4, hp5⟩ := hpat
  have hll : ls.length = ln := by rw [← hls.len]; exact hl1
  have HRT := Lib.hid (fun W' r => hist_right (.slice la ln lc) M W (.slice sa sn sc) (.slice pa pn pc) O ⟨ls, M, W, scr, pat, O⟩ a nn c 0 W' r)
  have HTO := Lib.hid (fun wh hwh W' r hx => hist_to (.slice la ln lc) M W (.slice sa sn sc) (.slice pa pn pc) O ⟨ls, M, W, scr, pat, O⟩ a nn c wh xs W' r HOK.out hx HXN.out HX0.out hnn hwh)
  rw [hll] at wl l50
  obtain rfl : np = 0 := h0
  have hpn1 : 1 ≤ pn := by rw [← hp1]; exact List.length_pos_iff.2 hpn
  have hqn : pn ≤ 200 := by omega
  have hq0 : ((pn : Int) == 0) = false := by simp; omega
  have HQ := Lib.hid hp1
  have HQ0 := Lib.hid hp5
  clear hpn hpat200
  have HL1 := Lib.hid hl1; have HLS := Lib.hid hls; have HLL := Lib.hid hll
  unfold hiC at *
  have hB := (Blk.new w #[.slice la ln lc, .int .i64 M, .int .i64 W, .slice sa sn sc, .slice pa pn pc, .bool O] 90).alloc (.cells #[.slice none 0 0, .int .i64 0, .int .i64 0, .slice none 0 0, .slice none 0 0, .bool false] 90)
  have hR := Blk.new (w.alloc (.cells #[.slice la ln lc, .int .i64 M, .int .i64 W, .slice sa sn sc, .slice pa pn pc, .bool O] 90)) #[.slice none 0 0, .int .i64 0, .int .i64 0, .slice none 0 0, .slice none 0 0, .bool false] 90
  rw [World.size_alloc] at hR
  have hacc := below2 w (.cells #[.slice la ln lc, .int .i64 M, .int .i64 W, .slice sa sn sc, .slice pa pn pc, .bool O] 90) (.cells #[.slice none 0 0, .int .i64 0, .int .i64 0, .slice none 0 0, .slice none 0 0, .bool false] 90)
  have hsz : w.heap.size + 2 ≤ ((w.alloc (.cells #[.slice la ln lc, .int .i64 M, .int .i64 W, .slice sa sn sc, .slice pa pn pc, .bool O] 90)).alloc (.cells #[.slice none 0 0, .int .i64 0, .int .i64 0, .slice none 0 0, .slice none 0 0, .bool false] 90)).heap.size := by simp
  have HR1 := Lib.hid (HR0.out.below hacc)
  clear hs1 hp1 hl1 hl5 hs5 hp5 hll hls HR0
  go_enter Try.func70, Try.ntmps70
  go_upto_region 1 with fail
  change Code.wp _ _ _ _ ((w.alloc (.cells #[.slice la ln lc, .int .i64 M, .int .i64 W, .slice sa sn sc, .slice pa pn pc, .bool O] 90)).alloc (.cells #[.slice none 0 0, .int .i64 0, .int .i64 0, .slice none 0 0, .slice none 0 0, .bool false] 90))
  generalize ((w.alloc (.cells #[.slice la ln lc, .int .i64 M, .int .i64 W, .slice sa sn sc, .slice pa pn pc, .bool O] 90)).alloc (.cells #[.slice none 0 0, .int .i64 0, .int .i64 0, .slice none 0 0, .slice none 0 0, .bool false] 90)) = w1 at *
  obtain ⟨c0, c1, c2, c3, c4, c5⟩ := hB.six
  go_wp2_with ((go_at_call 130); refine (HRT.out _ HR1.out).mono ?_; rintro e w2 ⟨rfl, hb2⟩; rw [HE.out]; have hB2 := hB.below hb2 hB.lt; obtain ⟨d0, d1, d2, d3, d4, d5⟩ := hB2.six; have hR2 := hR.below hb2 hR.lt; obtain ⟨p0, p1, p2, p3, p4, p5⟩ := hR2.six; obtain ⟨t0, t1, t2, t3, t4, t5⟩ := hR2.sixf; have hacc2 := below_then hacc (by omega) hb2; have hlt2 := hB2.lt; have hz2 := hb2.size)
  have HR2 := Lib.hid (HR1.out.below hb2)
  go_loopw [13] (fun i wr => ∃ kk : Int, i = .int .i64 kk ∧ (-1 ≤ kk ∧ kk < W) ∧ (∀ j : Nat, j < ln → sideB true W j → kk < (j : Int) → fitsB pat (rx ls j) = false) ∧ Below w2.heap.size w2 wr) (fun i _ => (intOf i + 1).toNat)
  case atStart => exact ⟨_, rfl, by omega, fun j hj hs hb => by simp only [sideB, if_true, if_false, Bool.false_eq_true] at hs; omega, Below.refl _ _⟩
  case round =>
    obtain ⟨kk, rfl, hrng, hno, hbr⟩ := hrel
    have HNO := Lib.hid hno; clear hno
    have hBr := hB2.below hbr hB2.lt
    obtain ⟨r0, r1, r2, r3, r4, r5⟩ := hBr.six
    have hRr := hR2.below hbr hR2.lt
    obtain ⟨p0, p1, p2, p3, p4, p5⟩ := hRr.six
    obtain ⟨t0, t1, t2, t3, t4, t5⟩ := hRr.sixf
    have haccr := below_then hacc2 (by omega) hbr
    have hzr := hbr.size
    by_cases hin : 0 ≤ kk ∧ kk < ln
    · obtain ⟨hin0, hin1⟩ := hin
      obtain ⟨k, rfl⟩ : ∃ k : Nat, kk = (k : Int) := ⟨kk.toNat, by omega⟩
      have hkl : k < ln := by omega
      obtain ⟨lb, lo, rfl, hlc⟩ := (hl4.below haccr).at (k := k) (by rw [HL1.out]; exact hkl)
      have e1 := hlc k (by rw [HL1.out]; exact hkl)
      obtain ⟨xa, xn, xc, x1, x2, x3, x4, x5, x6⟩ := (HLS.out.below haccr).sl k (by rw [HLL.out]; exact hkl)
      rw [x1] at e1
      have hxn200 : xn ≤ 4096 := by have := LL.out k (by show k < ls.length; rw [HLL.out]; exact hkl); omega
      have HXK := Lib.hid x2
      have HFT := Lib.hid (fun W' h1 h2 => hist_fits pa xa pn pc xn xc pat (rx ls k) W' h1 h2 HQ.out HXK.out (by omega) hxn200 hp2 x3 hp3 x4)
      have hq := hp4.below haccr
      have hzz : w.heap.size + 2 ≤ wr.heap.size := by omega
      clear x1 x2 x6 hlc
      by_cases hfit : fitsB pat (rx ls k) = true
      · go_wp2_with ((go_at_call 140); refine (HFT.out _ hq x5).mono ?_; rintro e w5 ⟨rfl, hb5⟩; rw [hfit]; have hB5 := hBr.below hb5 hBr.lt; obtain ⟨s0, s1, s2, s3, s4, s5⟩ := hB5.six; have hR5 := hRr.below hb5 hRr.lt; have hacc5 := below_then haccr (by omega) hb5; have hb25 := below_then hbr (by omega) hb5; have hz5 := hb5.size; have hx5' := hx.below hacc5; have HR5 := Lib.hid (HR2.out.below hb25); have hkls : k ≤ ls.length := (by rw [HLL.out]; omega))
        refine (HTO.out k hkls _ HR5.out hx5').mono ?_
        rintro e w6 ⟨lv6, sv6, pv6, nv6, rfl, hp6, hn6, hb6⟩
        obtain ⟨vs6, ⟨ra, rn, rc, rfl, -⟩, -⟩ := hp6.ls
        obtain ⟨ta, tn, tc, rfl⟩ := hp6.scr.form
        obtain ⟨ua, un, uc, rfl⟩ := hp6.pat.form
        have HP6 := Lib.hid hp6.lt; have HN6 := Lib.hid hn6.lt
        have hz6 := hb6.size
        have hq6 := hp4.below (below_then (below_then hacc5 (by omega) hb6) (by omega) (below1 w6 (.cells #[.slice ra rn rc, .int .i64 M, .int .i64 (k : Int), .slice ta tn tc, .slice ua un uc, .bool O] 90)))
        have hB6 := hB5.below hb6 hB5.lt
        have hR6 := hR5.below hb6 hR5.lt
        have hN6 := Blk.new w6 #[.slice ra rn rc, .int .i64 M, .int .i64 (k : Int), .slice ta tn tc, .slice ua un uc, .bool O] 90
        have hqn2 : pn ≤ 17592186044416 := by omega
        simp only [hiC, toH]
        clear hp6 hn6 p0 p1 p2 p3 p4 p5 t0 t1 t2 t3 t4 t5 s0 s1 s2 s3 s4 s5 r0 r1 r2 r3 r4 r5
        go_wp2_with ((go_at_call 88); refine (slices_clone pa pn pc pat _ hq6 HQ.out hqn2 HQ0.out).mono ?_; rintro e w7 ⟨v7, rfl, own7, hb7⟩; obtain ⟨a7, n7, c7, rfl⟩ := own7.form; have hN7 := hN6.below hb7 hN6.lt; obtain ⟨n0, n1, n2, n3, n4, n5⟩ := hN7.six; obtain ⟨m0, m1, m2, m3, m4, m5⟩ := hN7.sixf; have hz7 := hb7.size; have hR7 := (hR6.alloc (.cells #[.slice ra rn rc, .int .i64 M, .int .i64 (k : Int), .slice ta tn tc, .slice ua un uc, .bool O] 90)).below hb7 (by simp; omega); obtain ⟨p0, p1, p2, p3, p4, p5⟩ := hR7.six; obtain ⟨t0, t1, t2, t3, t4, t5⟩ := hR7.sixf)
        have hR8 := (hR7.other (a := ⟨w6.heap.size, 4, none⟩) (by show w.heap.size + 1 ≠ w6.heap.size; omega) (.slice a7 n7 c7)).other (a := ⟨w6.heap.size, 5, none⟩) (by show w.heap.size + 1 ≠ w6.heap.size; omega) (.bool true)
        have hG := ((((((hR8.set 0 (.slice ra rn rc)).set 1 (.int .i64 M)).set 2 (.int .i64 (k : Int))).set 3 (.slice ta tn tc)).set 4 (.slice a7 n7 c7)).set 5 (.bool true))
        simp only [List.setIfInBounds_toArray, List.set_cons_zero, List.set_cons_succ] at hG
        obtain ⟨y0, y1, y2, y3, y4, y5⟩ := hG.six
        obtain ⟨nvs, hnv⟩ : ∃ v, nv6 = v := ⟨_, rfl⟩
        refine bodyPost_ret (v := .tuple #[.agg (hiC (.slice ra rn rc) M (k : Int) (.slice ta tn tc) (.slice a7 n7 c7) true), nv6, .int .i64 0]) (by simp [results, Try.results70, go_sem, y0, y1, y2, y3, y4, y5, hiC]) rfl ?_
        have hk0 : Below w6.heap.size w6 w7 := below_then (below1 w6 _) (by simp) hb7
        have hwa := HP6.out.below hk0
        have hwb := HN6.out.below hk0
        have hst := fun (w' : World) (hc : ∀ p v, (w5.heap.size ≤ p.block ∧ p.block < w6.heap.size) → w7.cell? p = some v → w'.cell? p = some v) => And.intro (hwa.keep hc) (hwb.keep hc)
        have hown := own7.mono (base' := w.heap.size + 2) (by simp; omega)
        have hk := fun (p : Addr) (v : Value) (hp : w5.heap.size ≤ p.block ∧ p.block < w6.heap.size) (hc : w7.cell? p = some v) =>
          cell_other (cell_other (cell_other (cell_other (cell_other (cell_other (cell_other (cell_other hc
            (a := ⟨w6.heap.size, 4, none⟩) (u := .slice a7 n7 c7) (by show p.block ≠ w6.heap.size; omega))
            (a := ⟨w6.heap.size, 5, none⟩) (u := .bool true) (by show p.block ≠ w6.heap.size; omega))
            (a := ⟨w.heap.size + 1, 0, none⟩) (u := .slice ra rn rc) (by show p.block ≠ w.heap.size + 1; omega))
            (a := ⟨w.heap.size + 1, 1, none⟩) (u := .int .i64 M) (by show p.block ≠ w.heap.size + 1; omega))
            (a := ⟨w.heap.size + 1, 2, none⟩) (u := .int .i64 (k : Int)) (by show p.block ≠ w.heap.size + 1; omega))
            (a := ⟨w.heap.size + 1, 3, none⟩) (u := .slice ta tn tc) (by show p.block ≠ w.heap.size + 1; omega))
            (a := ⟨w.heap.size + 1, 4, none⟩) (u := .slice a7 n7 c7) (by show p.block ≠ w.heap.size + 1; omega))
            (a := ⟨w.heap.size + 1, 5, none⟩) (u := .bool true) (by show p.block ≠ w.heap.size + 1; omega)
        obtain ⟨hA, hBn⟩ := hst _ hk
        have hO := ((((((((own7.setCell (a := ⟨w6.heap.size, 4, none⟩) (by simp) (.slice a7 n7 c7)).setCell (a := ⟨w6.heap.size, 5, none⟩) (by simp) (.bool true)).mono (base' := w.heap.size + 2) (by simp; omega)).setCell (a := ⟨w.heap.size + 1, 0, none⟩) (Nat.lt_succ_self _) (.slice ra rn rc)).setCell (a := ⟨w.heap.size + 1, 1, none⟩) (Nat.lt_succ_self _) (.int .i64 M)).setCell (a := ⟨w.heap.size + 1, 2, none⟩) (Nat.lt_succ_self _) (.int .i64 (k : Int))).setCell (a := ⟨w.heap.size + 1, 3, none⟩) (Nat.lt_succ_self _) (.slice ta tn tc)).setCell (a := ⟨w.heap.size + 1, 4, none⟩) (Nat.lt_succ_self _) (.slice a7 n7 c7)).setCell (a := ⟨w.heap.size + 1, 5, none⟩) (Nat.lt_succ_self _) (.bool true)
        have hacc7 : Below w.heap.size w w7 := below_then (below_then hacc5 (by omega) hb6) (by omega) hk0
        have hacc8 := (hacc7.setCell (p := ⟨w6.heap.size, 4, none⟩) (by show w.heap.size ≤ w6.heap.size; omega) (.slice a7 n7 c7)).setCell (p := ⟨w6.heap.size, 5, none⟩) (by show w.heap.size ≤ w6.heap.size; omega) (.bool true)
        obtain ⟨vsA, g1, g2⟩ := hA.ls
        refine .inl ⟨k, ⟨by show k < ls.length; rw [HLL.out]; exact hkl, hfit, by simp only [sideB, if_true, if_false, Bool.false_eq_true]; omega, fun j hj hs hb => ?_⟩, .slice ra rn rc, .slice ta tn tc, .slice a7 n7 c7, nv6, rfl, ⟨⟨vsA, g1.imp (fun k hk => by omega), g2.imp (fun _ _ h => h.imp (fun k hk => by omega))⟩, rfl, rfl, hA.scr.imp (fun k hk => by omega), hO.slp.imp (fun k hk => by omega), rfl⟩, hBn.imp (fun k hk => by omega), ((((((hacc8.setCell (p := ⟨w.heap.size + 1, 0, none⟩) (Nat.le_succ _) _).setCell (p := ⟨w.heap.size + 1, 1, none⟩) (Nat.le_succ _) _).setCell (p := ⟨w.heap.size + 1, 2, none⟩) (Nat.le_succ _) _).setCell (p := ⟨w.heap.size + 1, 3, none⟩) (Nat.le_succ _) _).setCell (p := ⟨w.heap.size + 1, 4, none⟩) (Nat.le_succ _) _).setCell (p := ⟨w.heap.size + 1, 5, none⟩) (Nat.le_succ _) _)⟩
        exact HNO.out j (by rw [← HLL.out]; exact hj) hs (by simp only [if_true, if_false, Bool.false_eq_true] at hb; omega)
      · have hfit' : fitsB pat (rx ls k) = false := by simpa using hfit
        have HFF := Lib.hid hfit'
        clear hfit
        go_wp2_with ((go_at_call 140); refine (HFT.out _ hq x5).mono ?_; rintro e w5 ⟨rfl, hb5⟩; rw [hfit'])
        go_roundw
        case rel => exact ⟨_, rfl, by omega, fun j hj hs hb => by
          rcases Nat.lt_trichotomy j k with h | h | h
          · exact HNO.out j hj hs (by omega)
          · subst h; exact HFF.out
          · exact HNO.out j hj hs (by omega), below_then hbr (by omega) hb5⟩
        case measure => simp [intOf]; omega
    · have hno : NoFind (fun j => fitsB pat (rx ls j)) true W ls.length := fun j hj hs => by
        rw [HLL.out] at hj
        exact HNO.out j hj hs (by simp only [sideB, if_true, if_false, Bool.false_eq_true] at hs; omega)
      have HN := Lib.hid hno
      have hcs : kk < 0 := by omega
      clear hin hno
      go_wp2
      have hG := ((((((hRr.set 0 (.slice none 0 0)).set 1 (.int .i64 0)).set 2 (.int .i64 0)).set 3 (.slice none 0 0)).set 4 (.slice none 0 0)).set 5 (.bool false))
      simp only [List.setIfInBounds_toArray, List.set_cons_zero, List.set_cons_succ] at hG
      obtain ⟨y0, y1, y2, y3, y4, y5⟩ := hG.six
      refine bodyPost_ret (v := .tuple #[.agg (hiC (.slice none 0 0) 0 0 (.slice none 0 0) (.slice none 0 0) false), .slice none 0 0, .int .i64 (5)]) (by simp [results, Try.results70, go_sem, y0, y1, y2, y3, y4, y5, hiC]) rfl ?_
      exact .inr ⟨HN.out, _, _, _, _, rfl, hip0 _ _, SlP.nil _ _, ((((((haccr.setCell (p := ⟨w.heap.size + 1, 0, none⟩) (Nat.le_succ _) _).setCell (p := ⟨w.heap.size + 1, 1, none⟩) (Nat.le_succ _) _).setCell (p := ⟨w.heap.size + 1, 2, none⟩) (Nat.le_succ _) _).setCell (p := ⟨w.heap.size + 1, 3, none⟩) (Nat.le_succ _) _).setCell (p := ⟨w.heap.size + 1, 4, none⟩) (Nat.le_succ _) _).setCell (p := ⟨w.heap.size + 1, 5, none⟩) (Nat.le_succ _) _)⟩

end Go.Proofs.Ytbgbcmfgncneiaa

