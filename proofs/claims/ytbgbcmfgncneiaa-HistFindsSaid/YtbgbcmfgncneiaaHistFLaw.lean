/- The walk of the law HistFinds. -/
import Derived.Test.YtbgbcmfgncneiaaHist8
import Derived.Test.YtbgbcmfgncneiaaHistD
namespace Go.Proofs.Ytbgbcmfgncneiaa
open Go.RowKit
set_option linter.unusedVariables false
set_option linter.unusedSimpArgs false

set_option maxRecDepth 100000 in
set_option maxHeartbeats 8000000 in
theorem histFinds_walk (lv : Value) (most wher : Int) (sv pv : Value) (older : Bool) (h : Hi) (a : Option Addr) (nn c : Nat) (xs : List Int) (a2 : Option Addr) (np cq : Nat) (ps : List Int) (ol tu : Bool) (w : World) (r : HiR w lv most wher sv pv older h) (hx : Sl w (.slice a nn c) xs) (hp : Sl w (.slice a2 np cq) ps) :
    Calls Try.prog 13 #[.agg (hiC lv most wher sv pv older), .slice a nn c, .slice a2 np cq, .bool ol, .bool tu] w fun e w' => e = .returned (.bool true) ∧ Below w.heap.size w w' := by
  have HR0 := Lib.hid r.lt
  have HX := Lib.hid hx.lt; have HPP := Lib.hid hp.lt
  obtain ⟨hxn, -, -, hxi, hx0⟩ := hx.get
  obtain ⟨hpn, hpc, hpc2, hpi, hp0⟩ := hp.get
  have HXN := Lib.hid hxn; have HX0 := Lib.hid hx0; have HPN := Lib.hid hpn; have HP0 := Lib.hid hp0
  have hhO : h.older = older := r.older.symm
  have HHO := Lib.hid hhO
  obtain ⟨⟨vs, hvs, hls⟩, h1, h2, hscr, hpat, h3⟩ := r
  obtain ⟨la, ln, lc, rfl, -⟩ := hvs
  obtain ⟨sa, sn, sc, rfl, -⟩ := hscr
  obtain ⟨pa, pn, pc, rfl, -⟩ := hpat
  clear hls hxn hx0 hpn hp0 hp hx h1 h2 h3 hhO
  have HFI := Lib.hid (fun W' r hx hp => hist_Find (.slice la ln lc) most wher (.slice sa sn sc) (.slice pa pn pc) older h a nn c xs a2 np cq ps ol W' r hx HXN.out HX0.out hp HPN.out HP0.out hpc hpc2)
  have HRF := Lib.hid (fun W' r hx hp => ref_HistFind (.slice la ln lc) most wher (.slice sa sn sc) (.slice pa pn pc) older h a nn c xs a2 np cq ps ol (fun k => k < w.heap.size) W' r hx hp)
  have HAG := Lib.hid (fun W' r hx => hist_Again (.slice la ln lc) most wher (.slice sa sn sc) (.slice pa pn pc) older h a nn c xs tu W' r hx HXN.out HX0.out)
  have HRG := Lib.hid (fun W' r hx hp => ref_HistFind (.slice la ln lc) most wher (.slice sa sn sc) (.slice pa pn pc) older h a nn c xs none 0 0 [] (older != tu) (fun k => k < w.heap.size) W' r hx hp)
  unfold hiC at *
  generalize most = M at *
  generalize wher = W at *
  generalize older = O at *
  have hB := Blk.new w #[.slice la ln lc, .int .i64 M, .int .i64 W, .slice sa sn sc, .slice pa pn pc, .bool O] 90
  have hacc := below1 w (.cells #[.slice la ln lc, .int .i64 M, .int .i64 W, .slice sa sn sc, .slice pa pn pc, .bool O] 90)
  have hsz : w.heap.size + 1 ≤ (w.alloc (.cells #[.slice la ln lc, .int .i64 M, .int .i64 W, .slice sa sn sc, .slice pa pn pc, .bool O] 90)).heap.size := by simp
  go_enter Try.func13, Try.ntmps13
  go_upto_region 1 with fail
  change Code.wp _ _ _ _ (w.alloc (.cells #[.slice la ln lc, .int .i64 M, .int .i64 W, .slice sa sn sc, .slice pa pn pc, .bool O] 90))
  generalize (w.alloc (.cells #[.slice la ln lc, .int .i64 M, .int .i64 W, .slice sa sn sc, .slice pa pn pc, .bool O] 90)) = w1 at *
  obtain ⟨c0, c1, c2, c3, c4, c5⟩ := hB.six
  go_wp2_with fail
  refine (HFI.out _ (HR0.out.below hacc).hir (hxi.below hacc) (hpi.below hacc)).mono ?_
  rintro e w2 ⟨hx1, lx1, E1, hres1, lv2, sv2, pv2, nv2, rfl, hp2, hn2, hb2⟩
  have HRES1 := Lib.hid hres1
  obtain ⟨ls2, M2, W2, scr2, pat2, O2⟩ := hx1
  obtain ⟨vs2, ⟨l2, m2, k2, rfl, -⟩, -⟩ := hp2.ls
  obtain ⟨s2, t2, u2, rfl⟩ := hp2.scr.form
  obtain ⟨p2, q2, r2, rfl⟩ := hp2.pat.form
  obtain ⟨na2, nn2, nc2, rfl⟩ := hn2.form
  have HP2 := Lib.hid hp2.hir; have HN2 := Lib.hid hn2.sl
  have hz2 := hb2.size
  have hB2 := hB.below hb2 hB.lt
  have hacc2 := below_then hacc (by omega) hb2
  simp only [hiC]
  clear hp2 hn2 hres1 c0 c1 c2 c3 c4 c5
  have hX3 := Blk.new w2 #[.slice l2 m2 k2, .int .i64 M2, .int .i64 W2, .slice s2 t2 u2, .slice p2 q2 r2, .bool O2] 90
  have hk3 := below1 w2 (.cells #[.slice l2 m2 k2, .int .i64 M2, .int .i64 W2, .slice s2 t2 u2, .slice p2 q2 r2, .bool O2] 90)
  have hz3 : w2.heap.size + 1 ≤ (w2.alloc (.cells #[.slice l2 m2 k2, .int .i64 M2, .int .i64 W2, .slice s2 t2 u2, .slice p2 q2 r2, .bool O2] 90)).heap.size := by simp
  go_upto_region 2 with fail
  change Code.wp _ _ _ _ (w2.alloc (.cells #[.slice l2 m2 k2, .int .i64 M2, .int .i64 W2, .slice s2 t2 u2, .slice p2 q2 r2, .bool O2] 90))
  generalize (w2.alloc (.cells #[.slice l2 m2 k2, .int .i64 M2, .int .i64 W2, .slice s2 t2 u2, .slice p2 q2 r2, .bool O2] 90)) = w3 at *
  have hacc3 := below_then hacc2 (by omega) hk3
  have HP3 := Lib.hid (HP2.out.below hk3); have HN3 := Lib.hid (HN2.out.below hk3)
  have hB3 := hB2.below hk3 (by omega)
  obtain ⟨c0, c1, c2, c3, c4, c5⟩ := hB3.six
  clear HP2 HN2
  go_wp2_with fail
  refine (HRF.out _ ((HR0.out.below hacc3).imp fun k hk => hk) ((HX.out.below hacc3).imp fun k hk => hk) ((HPP.out.below hacc3).imp fun k hk => hk)).mono ?_
  rintro e w4 ⟨hx4, lx4, E4, hres4, lv4, sv4, pv4, nv4, rfl, hp4, hn4, hb4⟩
  obtain ⟨rfl, rfl, rfl⟩ := hres4.unique HRES1.out
  obtain ⟨vs4, ⟨l4, m4, k4, rfl, -⟩, -⟩ := hp4.ls
  obtain ⟨s4, t4, u4, rfl⟩ := hp4.scr.form
  obtain ⟨p4, q4, r4, rfl⟩ := hp4.pat.form
  obtain ⟨na4, nn4, nc4, rfl⟩ := hn4.form
  have HP4 := Lib.hid hp4.hir; have HN4 := Lib.hid hn4.sl
  have hz4 := hb4.size
  have hacc4 := below_then hacc3 (by omega) hb4
  simp only [hiC]
  clear hp4 hn4 hres4 c0 c1 c2 c3 c4 c5
  have hY5 := Blk.new w4 #[.slice l4 m4 k4, .int .i64 M2, .int .i64 W2, .slice s4 t4 u4, .slice p4 q4 r4, .bool O2] 90
  have hk5 := below1 w4 (.cells #[.slice l4 m4 k4, .int .i64 M2, .int .i64 W2, .slice s4 t4 u4, .slice p4 q4 r4, .bool O2] 90)
  have hz5 : w4.heap.size + 1 ≤ (w4.alloc (.cells #[.slice l4 m4 k4, .int .i64 M2, .int .i64 W2, .slice s4 t4 u4, .slice p4 q4 r4, .bool O2] 90)).heap.size := by simp
  have hX4 := hX3.below hb4 hX3.lt
  have hX5 := hX4.below hk5 hX4.lt
  have hacc5 := below_then hacc4 (by omega) hk5
  have hB4 := hB3.below hb4 hB3.lt
  have hB5 := hB4.below hk5 hB4.lt
  have h35 := below_then hb4 (by omega) hk5
  have HA5 := Lib.hid (HP3.out.below h35); have HB5 := Lib.hid (HP4.out.below hk5)
  have HL5 := Lib.hid (HN3.out.below h35); have HM5 := Lib.hid (HN4.out.below hk5)
  clear HP3 HP4 HN3 HN4
  go_upto_region 3 with fail
  change Code.wp _ _ _ _ (w4.alloc (.cells #[.slice l4 m4 k4, .int .i64 M2, .int .i64 W2, .slice s4 t4 u4, .slice p4 q4 r4, .bool O2] 90))
  generalize (w4.alloc (.cells #[.slice l4 m4 k4, .int .i64 M2, .int .i64 W2, .slice s4 t4 u4, .slice p4 q4 r4, .bool O2] 90)) = w5 at *
  obtain ⟨x0, x1, x2, x3, x4, x5⟩ := hX5.six
  obtain ⟨y0, y1, y2, y3, y4, y5⟩ := hY5.six
  go_wp2_with fail
  refine (same_hist _ _ _ _ _ _ _ _ _ _ _ _ _ _ HA5.out HB5.out).mono ?_
  rintro e w6 ⟨rfl, hb6⟩
  obtain ⟨g1, g2, g3, g4, -⟩ := (HL5.out.below hb6).get
  obtain ⟨g6, g7, g8, g9, -⟩ := (HM5.out.below hb6).get
  have G1 := Lib.hid g1; have G6 := Lib.hid g6
  have hg : nn2 ≤ 9223372036854775807 := by omega
  clear g1 g6
  go_wp2_with fail
  refine (slices_same na2 na4 nn2 nn4 nc2 nc4 lx4 _ g4 g9 G1.out G6.out hg).mono ?_
  rintro e w7 ⟨rfl, nq, rfl⟩
  have hb7 : Below w5.heap.size w5 (w6.drewN nq) := below_drewN hb6 nq
  have hacc7 := below_then hacc5 (by omega) hb7
  have hB7 := hB5.below hb7 hB5.lt
  have hX7 := hX5.below hb7 hX5.lt
  have hY7 := hY5.below hb7 hY5.lt
  have hz7 := hb7.size
  clear hb6 HL5 HM5 HA5 HB5 x0 x1 x2 x3 x4 x5 y0 y1 y2 y3 y4 y5 g2 g3 g4 g7 g8 g9
  generalize w6.drewN nq = w7 at *
  obtain ⟨c0, c1, c2, c3, c4, c5⟩ := hB7.six
  have hEE : (E4 != E4) = false := by simp
  go_wp2_with fail
  refine (HAG.out _ (HR0.out.below hacc7).hir (hxi.below hacc7)).mono ?_
  rintro e w8 ⟨hx8, lx8, E8, hres8, lv8, sv8, pv8, nv8, rfl, hp8, hn8, hb8⟩
  have HRES8 := Lib.hid hres8
  obtain ⟨ls8, M8, W8, scr8, pat8, O8⟩ := hx8
  obtain ⟨vs8, ⟨l8, m8, k8, rfl, -⟩, -⟩ := hp8.ls
  obtain ⟨s8, t8, u8, rfl⟩ := hp8.scr.form
  obtain ⟨p8, q8, r8, rfl⟩ := hp8.pat.form
  obtain ⟨na8, nn8, nc8, rfl⟩ := hn8.form
  have hz8 := hb8.size
  have hB8 := hB7.below hb8 hB7.lt
  have hX8 := hX7.below hb8 hX7.lt
  have hY8 := hY7.below hb8 hY7.lt
  have hacc8 := below_then hacc7 (by omega) hb8
  simp only [hiC]
  have hX9 := hX8.six' (.slice l8 m8 k8) (.int .i64 M8) (.int .i64 W8) (.slice s8 t8 u8) (.slice p8 q8 r8) (.bool O8)
  have hY9 := hY8.other6 (B := w2.heap.size) (by omega) (.slice l8 m8 k8) (.int .i64 M8) (.int .i64 W8) (.slice s8 t8 u8) (.slice p8 q8 r8) (.bool O8)
  have hB9 := hB8.other6 (B := w2.heap.size) (by omega) (.slice l8 m8 k8) (.int .i64 M8) (.int .i64 W8) (.slice s8 t8 u8) (.slice p8 q8 r8) (.bool O8)
  have hacc9 : Below w.heap.size w _ := below6 (B := w2.heap.size) (u0 := .slice l8 m8 k8) (u1 := .int .i64 M8) (u2 := .int .i64 W8) (u3 := .slice s8 t8 u8) (u4 := .slice p8 q8 r8) (u5 := .bool O8) hacc8 (by omega)
  have HP9 := Lib.hid (hp8.six (B := w2.heap.size) (u0 := .slice l8 m8 k8) (u1 := .int .i64 M8) (u2 := .int .i64 W8) (u3 := .slice s8 t8 u8) (u4 := .slice p8 q8 r8) (u5 := .bool O8) (by omega))
  have HN9 := Lib.hid (hn8.six (B := w2.heap.size) (u0 := .slice l8 m8 k8) (u1 := .int .i64 M8) (u2 := .int .i64 W8) (u3 := .slice s8 t8 u8) (u4 := .slice p8 q8 r8) (u5 := .bool O8) (by omega))
  clear hp8 hn8 hres8 c0 c1 c2 c3 c4 c5
  obtain ⟨x0, x1, x2, x3, x4, x5⟩ := hX8.six
  obtain ⟨f0, f1, f2, f3, f4, f5⟩ := hX8.sixf
  go_upto_region 6 with fail
  clear x0 x1 x2 x3 x4 x5 f0 f1 f2 f3 f4 f5
  have hz9 : w8.heap.size ≤ ((((((w8.setCell ⟨w2.heap.size, 0, none⟩ (.slice l8 m8 k8)).setCell ⟨w2.heap.size, 1, none⟩ (.int .i64 M8)).setCell ⟨w2.heap.size, 2, none⟩ (.int .i64 W8)).setCell ⟨w2.heap.size, 3, none⟩ (.slice s8 t8 u8)).setCell ⟨w2.heap.size, 4, none⟩ (.slice p8 q8 r8)).setCell ⟨w2.heap.size, 5, none⟩ (.bool O8)).heap.size := by simp
  generalize ((((((w8.setCell ⟨w2.heap.size, 0, none⟩ (.slice l8 m8 k8)).setCell ⟨w2.heap.size, 1, none⟩ (.int .i64 M8)).setCell ⟨w2.heap.size, 2, none⟩ (.int .i64 W8)).setCell ⟨w2.heap.size, 3, none⟩ (.slice s8 t8 u8)).setCell ⟨w2.heap.size, 4, none⟩ (.slice p8 q8 r8)).setCell ⟨w2.heap.size, 5, none⟩ (.bool O8)) = w9 at *
  obtain ⟨c0, c1, c2, c3, c4, c5⟩ := hB9.six
  go_wp2_with fail
  refine (HRG.out _ ((HR0.out.below hacc9).imp fun k hk => hk) ((HX.out.below hacc9).imp fun k hk => hk) (SlP.nil _ _)).mono ?_
  rintro e w10 ⟨hxA, lxA, EA, hresA, lvA, svA, pvA, nvA, rfl, hpA, hnA, hb10⟩
  obtain ⟨hq, hf, he⟩ := HRES8.out
  rw [HHO.out] at hf he
  obtain ⟨rfl, rfl, rfl⟩ := hresA.unique hf
  obtain ⟨lsA, MA, WA, scrA, patA, OA⟩ := hxA
  obtain ⟨vsA, ⟨lA, mA, kA, rfl, -⟩, -⟩ := hpA.ls
  obtain ⟨sA, tA, uA, rfl⟩ := hpA.scr.form
  obtain ⟨pA, qA, rA, rfl⟩ := hpA.pat.form
  obtain ⟨naA, nnA, ncA, rfl⟩ := hnA.form
  have hz10 := hb10.size
  have hB10 := hB9.below hb10 hB9.lt
  have hX10 := hX9.below hb10 hX9.lt
  have hY10 := hY9.below hb10 hY9.lt
  have hacc10 := below_then hacc9 (by omega) hb10
  have HP10 := Lib.hid (HP9.out.below hb10); have HN10 := Lib.hid (HN9.out.below hb10)
  have HPA := Lib.hid hpA; have HNA := Lib.hid hnA
  have HH := Lib.hid he
  simp only [hiC]
  clear hpA hnA hresA hf he c0 c1 c2 c3 c4 c5 HP9 HN9
  by_cases hE : EA = 0
  · have he := HH.out
    rw [if_pos hE] at he
    simp only [Hi.mk.injEq] at he
    obtain ⟨e1, e2, e3, e4, e5, e6⟩ := he
    subst e1 e2 e3 e4 e5
    subst e6
    have HE := Lib.hid hE
    have hE' : (EA == 0) = true := by simpa using hE
    have hY11 := hY10.six' (.slice lA mA kA) (.int .i64 M8) (.int .i64 W8) (.slice sA tA uA) (.slice pA qA rA) (.bool OA)
    have hX11 := hX10.other6 (B := w4.heap.size) (by omega) (.slice lA mA kA) (.int .i64 M8) (.int .i64 W8) (.slice sA tA uA) (.slice pA qA rA) (.bool OA)
    have hB11 := hB10.other6 (B := w4.heap.size) (by omega) (.slice lA mA kA) (.int .i64 M8) (.int .i64 W8) (.slice sA tA uA) (.slice pA qA rA) (.bool OA)
    have hacc11 : Below w.heap.size w _ := below6 (B := w4.heap.size) (u0 := .slice lA mA kA) (u1 := .int .i64 M8) (u2 := .int .i64 W8) (u3 := .slice sA tA uA) (u4 := .slice pA qA rA) (u5 := .bool OA) hacc10 (by omega)
    have HP11 := Lib.hid (HP10.out.six (B := w4.heap.size) (u0 := .slice lA mA kA) (u1 := .int .i64 M8) (u2 := .int .i64 W8) (u3 := .slice sA tA uA) (u4 := .slice pA qA rA) (u5 := .bool OA) (by omega))
    have HN11 := Lib.hid (HN10.out.six (B := w4.heap.size) (u0 := .slice lA mA kA) (u1 := .int .i64 M8) (u2 := .int .i64 W8) (u3 := .slice sA tA uA) (u4 := .slice pA qA rA) (u5 := .bool OA) (by omega))
    have HQ11 := Lib.hid (HPA.out.six (B := w4.heap.size) (u0 := .slice lA mA kA) (u1 := .int .i64 M8) (u2 := .int .i64 W8) (u3 := .slice sA tA uA) (u4 := .slice pA qA rA) (u5 := .bool OA) (by omega))
    have HM11 := Lib.hid (HNA.out.six (B := w4.heap.size) (u0 := .slice lA mA kA) (u1 := .int .i64 M8) (u2 := .int .i64 W8) (u3 := .slice sA tA uA) (u4 := .slice pA qA rA) (u5 := .bool OA) (by omega))
    clear hE HP10 HN10 HPA HNA HH
    obtain ⟨y0, y1, y2, y3, y4, y5⟩ := hY10.six
    obtain ⟨f0, f1, f2, f3, f4, f5⟩ := hY10.sixf
    go_upto_region 7 with fail
    clear y0 y1 y2 y3 y4 y5 f0 f1 f2 f3 f4 f5
    generalize ((((((w10.setCell ⟨w4.heap.size, 0, none⟩ (.slice lA mA kA)).setCell ⟨w4.heap.size, 1, none⟩ (.int .i64 M8)).setCell ⟨w4.heap.size, 2, none⟩ (.int .i64 W8)).setCell ⟨w4.heap.size, 3, none⟩ (.slice sA tA uA)).setCell ⟨w4.heap.size, 4, none⟩ (.slice pA qA rA)).setCell ⟨w4.heap.size, 5, none⟩ (.bool OA)) = w11 at *
    obtain ⟨x0, x1, x2, x3, x4, x5⟩ := hX11.six
    obtain ⟨y0, y1, y2, y3, y4, y5⟩ := hY11.six
    obtain ⟨f0, f1, f2, f3, f4, f5⟩ := hY11.sixf
    obtain ⟨c0, c1, c2, c3, c4, c5⟩ := hB11.six
    have hY12 := hY11.set 5 (.bool O8)
    simp only [List.setIfInBounds_toArray, List.set_cons_zero, List.set_cons_succ] at hY12
    have hX12 := hX11.other (a := ⟨w4.heap.size, 5, none⟩) (by show w2.heap.size ≠ w4.heap.size; omega) (.bool O8)
    have hacc12 := hacc11.setCell (p := ⟨w4.heap.size, 5, none⟩) (by show w.heap.size ≤ w4.heap.size; omega) (.bool O8)
    have HP12 := Lib.hid (HP11.out.setCell (a := ⟨w4.heap.size, 5, none⟩) (by show ¬ (w7.heap.size ≤ w4.heap.size); omega) (.bool O8))
    have HN12 := Lib.hid (HN11.out.setCell (a := ⟨w4.heap.size, 5, none⟩) (by show ¬ (w7.heap.size ≤ w4.heap.size); omega) (.bool O8))
    have HM12 := Lib.hid (HM11.out.setCell (a := ⟨w4.heap.size, 5, none⟩) (by show ¬ (w4.heap.size < w.heap.size); omega) (.bool O8))
    have hq12 := HQ11.out.setCell (a := ⟨w4.heap.size, 5, none⟩) (by show ¬ (w4.heap.size < w.heap.size); omega) (.bool O8)
    have HQ12 := Lib.hid (show HiR _ (.slice lA mA kA) M8 W8 (.slice sA tA uA) (.slice pA qA rA) O8 ⟨ls8, M8, W8, scr8, pat8, O8⟩ from ⟨hq12.hir.ls, rfl, rfl, hq12.hir.scr, hq12.hir.pat, rfl⟩)
    clear hq12
    go_upto_region 9 with fail
    clear x0 x1 x2 x3 x4 x5 y0 y1 y2 y3 y4 y5 f0 f1 f2 f3 f4 f5 c0 c1 c2 c3 c4 c5
    generalize (w11.setCell ⟨w4.heap.size, 5, none⟩ (.bool O8)) = w12 at *
    obtain ⟨x0, x1, x2, x3, x4, x5⟩ := hX12.six
    obtain ⟨y0, y1, y2, y3, y4, y5⟩ := hY12.six
    go_wp2_with fail
    refine (same_hist _ _ _ _ _ _ _ _ _ _ _ _ _ _ HP12.out.hir HQ12.out).mono ?_
    rintro e w13 ⟨rfl, hb13⟩
    obtain ⟨g1, g2, g3, g4, -⟩ := (HN12.out.below hb13).get
    obtain ⟨g6, g7, g8, g9, -⟩ := (HM12.out.below hb13).get
    have G1 := Lib.hid g1; have G6 := Lib.hid g6
    have hg : nn8 ≤ 9223372036854775807 := by omega
    clear g1 g6
    go_wp2_with fail
    refine (slices_same na8 naA nn8 nnA nc8 ncA lxA _ g4 g9 G1.out G6.out hg).mono ?_
    rintro e w14 ⟨rfl, nq, rfl⟩
    have hEE : (EA == EA) = true := by simp
    go_wp2
    go_ret
    exact ⟨rfl, below_drewN (below_then hacc12 (by have := hacc12.size; omega) hb13) _⟩
  · have he := HH.out
    rw [if_neg hE] at he
    simp only [Hi.mk.injEq] at he
    obtain ⟨e1, e2, e3, e4, e5, e6⟩ := he
    subst e1 e2 e3 e4 e5 e6
    skip
    have HE := Lib.hid hE
    have hE' : (EA == 0) = false := by simpa using hE
    have hY11 := hY10.six' (.slice lA mA kA) (.int .i64 M8) (.int .i64 W8) (.slice sA tA uA) (.slice pA qA rA) (.bool O8)
    have hX11 := hX10.other6 (B := w4.heap.size) (by omega) (.slice lA mA kA) (.int .i64 M8) (.int .i64 W8) (.slice sA tA uA) (.slice pA qA rA) (.bool O8)
    have hB11 := hB10.other6 (B := w4.heap.size) (by omega) (.slice lA mA kA) (.int .i64 M8) (.int .i64 W8) (.slice sA tA uA) (.slice pA qA rA) (.bool O8)
    have hacc11 : Below w.heap.size w _ := below6 (B := w4.heap.size) (u0 := .slice lA mA kA) (u1 := .int .i64 M8) (u2 := .int .i64 W8) (u3 := .slice sA tA uA) (u4 := .slice pA qA rA) (u5 := .bool O8) hacc10 (by omega)
    have HP11 := Lib.hid (HP10.out.six (B := w4.heap.size) (u0 := .slice lA mA kA) (u1 := .int .i64 M8) (u2 := .int .i64 W8) (u3 := .slice sA tA uA) (u4 := .slice pA qA rA) (u5 := .bool O8) (by omega))
    have HN11 := Lib.hid (HN10.out.six (B := w4.heap.size) (u0 := .slice lA mA kA) (u1 := .int .i64 M8) (u2 := .int .i64 W8) (u3 := .slice sA tA uA) (u4 := .slice pA qA rA) (u5 := .bool O8) (by omega))
    have HQ11 := Lib.hid (HPA.out.six (B := w4.heap.size) (u0 := .slice lA mA kA) (u1 := .int .i64 M8) (u2 := .int .i64 W8) (u3 := .slice sA tA uA) (u4 := .slice pA qA rA) (u5 := .bool O8) (by omega))
    have HM11 := Lib.hid (HNA.out.six (B := w4.heap.size) (u0 := .slice lA mA kA) (u1 := .int .i64 M8) (u2 := .int .i64 W8) (u3 := .slice sA tA uA) (u4 := .slice pA qA rA) (u5 := .bool O8) (by omega))
    clear hE HP10 HN10 HPA HNA HH
    obtain ⟨y0, y1, y2, y3, y4, y5⟩ := hY10.six
    obtain ⟨f0, f1, f2, f3, f4, f5⟩ := hY10.sixf
    go_upto_region 7 with fail
    clear y0 y1 y2 y3 y4 y5 f0 f1 f2 f3 f4 f5
    generalize ((((((w10.setCell ⟨w4.heap.size, 0, none⟩ (.slice lA mA kA)).setCell ⟨w4.heap.size, 1, none⟩ (.int .i64 M8)).setCell ⟨w4.heap.size, 2, none⟩ (.int .i64 W8)).setCell ⟨w4.heap.size, 3, none⟩ (.slice sA tA uA)).setCell ⟨w4.heap.size, 4, none⟩ (.slice pA qA rA)).setCell ⟨w4.heap.size, 5, none⟩ (.bool O8)) = w11 at *
    obtain ⟨x0, x1, x2, x3, x4, x5⟩ := hX11.six
    obtain ⟨y0, y1, y2, y3, y4, y5⟩ := hY11.six
    obtain ⟨f0, f1, f2, f3, f4, f5⟩ := hY11.sixf
    obtain ⟨c0, c1, c2, c3, c4, c5⟩ := hB11.six
    go_wp2_with fail
    refine (same_hist _ _ _ _ _ _ _ _ _ _ _ _ _ _ HP11.out.hir HQ11.out.hir).mono ?_
    rintro e w13 ⟨rfl, hb13⟩
    obtain ⟨g1, g2, g3, g4, -⟩ := (HN11.out.below hb13).get
    obtain ⟨g6, g7, g8, g9, -⟩ := (HM11.out.below hb13).get
    have G1 := Lib.hid g1; have G6 := Lib.hid g6
    have hg : nn8 ≤ 9223372036854775807 := by omega
    clear g1 g6
    go_wp2_with fail
    refine (slices_same na8 naA nn8 nnA nc8 ncA lxA _ g4 g9 G1.out G6.out hg).mono ?_
    rintro e w14 ⟨rfl, nq, rfl⟩
    have hEE : (EA == EA) = true := by simp
    go_wp2
    go_ret
    exact ⟨rfl, below_drewN (below_then hacc11 (by have := hacc11.size; omega) hb13) _⟩

end Go.Proofs.Ytbgbcmfgncneiaa

