/- The walk of the law HistMoves. -/
import Derived.Test.YtmipnikhgihcpaaHist8
import Derived.Test.YtmipnikhgihcpaaHistE3
import Derived.Test.YtmipnikhgihcpaaHistM2
import Derived.Test.YtmipnikhgihcpaaMap3
namespace Go.Proofs.Ytmipnikhgihcpaa
open Go.RowKit
set_option linter.unusedVariables false
set_option linter.unusedSimpArgs false

theorem IterB.seen {w : World} {r b s c : Nat} {seen : Array Nat} (h : IterB w r b s seen c) : w.iterSeen r = seen := by
  unfold World.iterSeen; rw [show w.heap[r]? = _ from h]
theorem keepB18 {W w1 w2 : World} {a0 a1 a2 a3 a4 a5 a6 a7 a8 a9 a10 a11 a12 a13 a14 a15 a16 a17 : Addr} {u0 u1 u2 u3 u4 u5 u6 u7 u8 u9 u10 u11 u12 u13 u14 u15 u16 u17 : Value} (h : w1.cell? a0 = some u0 ∧ w1.cell? a1 = some u1 ∧ w1.cell? a2 = some u2 ∧ w1.cell? a3 = some u3 ∧ w1.cell? a4 = some u4 ∧ w1.cell? a5 = some u5 ∧ w1.cell? a6 = some u6 ∧ w1.cell? a7 = some u7 ∧ w1.cell? a8 = some u8 ∧ w1.cell? a9 = some u9 ∧ w1.cell? a10 = some u10 ∧ w1.cell? a11 = some u11 ∧ w1.cell? a12 = some u12 ∧ w1.cell? a13 = some u13 ∧ w1.cell? a14 = some u14 ∧ w1.cell? a15 = some u15 ∧ w1.cell? a16 = some u16 ∧ w1.cell? a17 = some u17 ∧ Below W.heap.size W w1) (hb : Below w1.heap.size w1 w2) : w2.cell? a0 = some u0 ∧ w2.cell? a1 = some u1 ∧ w2.cell? a2 = some u2 ∧ w2.cell? a3 = some u3 ∧ w2.cell? a4 = some u4 ∧ w2.cell? a5 = some u5 ∧ w2.cell? a6 = some u6 ∧ w2.cell? a7 = some u7 ∧ w2.cell? a8 = some u8 ∧ w2.cell? a9 = some u9 ∧ w2.cell? a10 = some u10 ∧ w2.cell? a11 = some u11 ∧ w2.cell? a12 = some u12 ∧ w2.cell? a13 = some u13 ∧ w2.cell? a14 = some u14 ∧ w2.cell? a15 = some u15 ∧ w2.cell? a16 = some u16 ∧ w2.cell? a17 = some u17 ∧ Below W.heap.size W w2 := by
  obtain ⟨h0, h1, h2, h3, h4, h5, h6, h7, h8, h9, h10, h11, h12, h13, h14, h15, h16, h17, hW⟩ := h
  exact ⟨below_keeps hb _ _ h0, below_keeps hb _ _ h1, below_keeps hb _ _ h2, below_keeps hb _ _ h3, below_keeps hb _ _ h4, below_keeps hb _ _ h5, below_keeps hb _ _ h6, below_keeps hb _ _ h7, below_keeps hb _ _ h8, below_keeps hb _ _ h9, below_keeps hb _ _ h10, below_keeps hb _ _ h11, below_keeps hb _ _ h12, below_keeps hb _ _ h13, below_keeps hb _ _ h14, below_keeps hb _ _ h15, below_keeps hb _ _ h16, below_keeps hb _ _ h17, below_then hW hW.size hb⟩
theorem keepR18 {W w1 : World} {P0 P1 P2 P3 P4 P5 P6 P7 P8 P9 P10 P11 P12 P13 P14 P15 P16 P17 : Prop} (h : P0 ∧ P1 ∧ P2 ∧ P3 ∧ P4 ∧ P5 ∧ P6 ∧ P7 ∧ P8 ∧ P9 ∧ P10 ∧ P11 ∧ P12 ∧ P13 ∧ P14 ∧ P15 ∧ P16 ∧ P17 ∧ Below W.heap.size W w1) : Below W.heap.size W w1 := h.2.2.2.2.2.2.2.2.2.2.2.2.2.2.2.2.2.2

set_option maxRecDepth 100000 in
set_option maxHeartbeats 8000000 in
theorem histMoves_walk (lv : Value) (most wher : Int) (sv pv : Value) (older : Bool) (h : Hi) (a : Option Addr) (nn c : Nat) (xs : List Int) (n : Int) (w : World) (r : HiR w lv most wher sv pv older h) (hx : Sl w (.slice a nn c) xs) :
    Calls Try.prog 5 #[.agg (hiC lv most wher sv pv older), .slice a nn c, .int .i64 n] w fun e w' => e = .returned (.bool true) ∧ Below w.heap.size w w' := by
  have HR0 := Lib.hid r.any
  have HX := Lib.hid hx.any
  obtain ⟨hxn, -, -, hxi, hx0⟩ := hx.get
  have HXN := Lib.hid hxn; have HX0 := Lib.hid hx0
  obtain ⟨⟨vs, hvs, hls⟩, h1, h2, hscr, hpat, h3⟩ := r
  obtain ⟨la, ln, lc, rfl, -⟩ := hvs
  obtain ⟨sa, sn, sc, rfl, -⟩ := hscr
  obtain ⟨pa, pn, pc, rfl, -⟩ := hpat
  clear hls hxn hx0 hx h1 h2 h3
  have HAD := Lib.hid (fun W' r hx => hist_Add (.slice la ln lc) most wher (.slice sa sn sc) (.slice pa pn pc) older h a nn c xs W' r hx HXN.out HX0.out)
  have HRA := Lib.hid (fun W' r hx => ref_HistAdd (.slice la ln lc) most wher (.slice sa sn sc) (.slice pa pn pc) older h a nn c xs W' r hx)
  have HCK := Lib.hid (fun W' r => hist_check (.slice la ln lc) most wher (.slice sa sn sc) (.slice pa pn pc) older h W' r)
  have HRC := Lib.hid (fun W' r => ref_histErr (.slice la ln lc) most wher (.slice sa sn sc) (.slice pa pn pc) older h W' r)
  have HUP := Lib.hid (fun W' r hx => hist_Up (.slice la ln lc) most wher (.slice sa sn sc) (.slice pa pn pc) older h a nn c n xs W' r hx HXN.out HX0.out)
  have HDN := Lib.hid (fun W' r hx => hist_Down (.slice la ln lc) most wher (.slice sa sn sc) (.slice pa pn pc) older h a nn c n xs W' r hx HXN.out HX0.out)
  have HJP := Lib.hid (fun W' r hx => hist_Jump (.slice la ln lc) most wher (.slice sa sn sc) (.slice pa pn pc) older h a nn c n xs W' r hx HXN.out HX0.out)
  have HMV := Lib.hid (fun way hw W' r hx => ref_HistMove (.slice la ln lc) most wher (.slice sa sn sc) (.slice pa pn pc) older h a nn c n way hw xs AnyB W' r hx)
  unfold hiC at *
  generalize most = M at *
  generalize wher = W at *
  generalize older = O at *
  have hB := Blk.new w #[.slice la ln lc, .int .i64 M, .int .i64 W, .slice sa sn sc, .slice pa pn pc, .bool O] 48
  have hacc := below1 w (.cells #[.slice la ln lc, .int .i64 M, .int .i64 W, .slice sa sn sc, .slice pa pn pc, .bool O] 48)
  have hsz : w.heap.size + 1 ≤ (w.alloc (.cells #[.slice la ln lc, .int .i64 M, .int .i64 W, .slice sa sn sc, .slice pa pn pc, .bool O] 48)).heap.size := by simp
  go_enter Try.func5, Try.ntmps5
  go_upto_region 1 with fail
  change Code.wp _ _ _ _ (w.alloc (.cells #[.slice la ln lc, .int .i64 M, .int .i64 W, .slice sa sn sc, .slice pa pn pc, .bool O] 48))
  generalize (w.alloc (.cells #[.slice la ln lc, .int .i64 M, .int .i64 W, .slice sa sn sc, .slice pa pn pc, .bool O] 48)) = w1 at *
  obtain ⟨c0, c1, c2, c3, c4, c5⟩ := hB.six
  go_wp2_with fail
  refine (HAD.out _ (HR0.out.below hacc).hir (hxi.below hacc)).mono ?_
  rintro e w2 ⟨hx1, E1, hres1, lv2, sv2, pv2, rfl, hp2, hb2⟩
  have HRES1 := Lib.hid hres1
  obtain ⟨ls2, M2, W2, scr2, pat2, O2⟩ := hx1
  obtain ⟨vs2, ⟨l2, m2, k2, rfl, -⟩, -⟩ := hp2.ls
  obtain ⟨s2, t2, u2, rfl⟩ := hp2.scr.form
  obtain ⟨p2, q2, r2, rfl⟩ := hp2.pat.form
  have HP2 := Lib.hid hp2.hir
  have hz2 := hb2.size
  have hB2 := hB.below hb2 hB.lt
  have hacc2 := below_then hacc (by omega) hb2
  simp only [hiC]
  clear hp2 hres1 c0 c1 c2 c3 c4 c5
  have hX3 := Blk.new w2 #[.slice l2 m2 k2, .int .i64 M2, .int .i64 W2, .slice s2 t2 u2, .slice p2 q2 r2, .bool O2] 48
  have hk3 := below1 w2 (.cells #[.slice l2 m2 k2, .int .i64 M2, .int .i64 W2, .slice s2 t2 u2, .slice p2 q2 r2, .bool O2] 48)
  have hz3 : w2.heap.size + 1 ≤ (w2.alloc (.cells #[.slice l2 m2 k2, .int .i64 M2, .int .i64 W2, .slice s2 t2 u2, .slice p2 q2 r2, .bool O2] 48)).heap.size := by simp
  go_upto_region 2 with fail
  change Code.wp _ _ _ _ (w2.alloc (.cells #[.slice l2 m2 k2, .int .i64 M2, .int .i64 W2, .slice s2 t2 u2, .slice p2 q2 r2, .bool O2] 48))
  generalize (w2.alloc (.cells #[.slice l2 m2 k2, .int .i64 M2, .int .i64 W2, .slice s2 t2 u2, .slice p2 q2 r2, .bool O2] 48)) = w3 at *
  have hacc3 := below_then hacc2 (by omega) hk3
  have HP3 := Lib.hid (HP2.out.below hk3)
  have hB3 := hB2.below hk3 (by omega)
  obtain ⟨c0, c1, c2, c3, c4, c5⟩ := hB3.six
  clear HP2
  go_wp2_with fail
  refine (HRA.out _ (HR0.out.below hacc3).hir (HX.out.below hacc3).sl).mono ?_
  rintro e w4 ⟨hx4, E4, hres4, lv4, sv4, pv4, rfl, hp4, hb4⟩
  obtain ⟨rfl, rfl⟩ := hres4.unique HRES1.out
  obtain ⟨vs4, ⟨l4, m4, k4, rfl, -⟩, -⟩ := hp4.ls
  obtain ⟨s4, t4, u4, rfl⟩ := hp4.scr.form
  obtain ⟨p4, q4, r4, rfl⟩ := hp4.pat.form
  have HP4 := Lib.hid hp4.hir
  have hz4 := hb4.size
  have hacc4 := below_then hacc3 (by omega) hb4
  simp only [hiC]
  clear hp4 hres4 c0 c1 c2 c3 c4 c5
  have hY5 := Blk.new w4 #[.slice l4 m4 k4, .int .i64 M2, .int .i64 W2, .slice s4 t4 u4, .slice p4 q4 r4, .bool O2] 48
  have hk5 := below1 w4 (.cells #[.slice l4 m4 k4, .int .i64 M2, .int .i64 W2, .slice s4 t4 u4, .slice p4 q4 r4, .bool O2] 48)
  have hz5 : w4.heap.size + 1 ≤ (w4.alloc (.cells #[.slice l4 m4 k4, .int .i64 M2, .int .i64 W2, .slice s4 t4 u4, .slice p4 q4 r4, .bool O2] 48)).heap.size := by simp
  have hX4 := hX3.below hb4 hX3.lt
  have hX5 := hX4.below hk5 hX4.lt
  have hacc5 := below_then hacc4 (by omega) hk5
  have hB4 := hB3.below hb4 hB3.lt
  have hB5 := hB4.below hk5 hB4.lt
  have h35 := below_then hb4 (by omega) hk5
  have HA5 := Lib.hid (HP3.out.below h35); have HB5 := Lib.hid (HP4.out.below hk5)
  clear HP3 HP4
  go_upto_region 3 with fail
  change Code.wp _ _ _ _ (w4.alloc (.cells #[.slice l4 m4 k4, .int .i64 M2, .int .i64 W2, .slice s4 t4 u4, .slice p4 q4 r4, .bool O2] 48))
  generalize (w4.alloc (.cells #[.slice l4 m4 k4, .int .i64 M2, .int .i64 W2, .slice s4 t4 u4, .slice p4 q4 r4, .bool O2] 48)) = w5 at *
  have HR5 := Lib.hid (HR0.out.below hacc5)
  obtain ⟨c0, c1, c2, c3, c4, c5⟩ := hB5.six
  obtain ⟨x0, x1, x2, x3, x4, x5⟩ := hX5.six
  obtain ⟨y0, y1, y2, y3, y4, y5⟩ := hY5.six
  have HSH := Lib.hid (fun W' ra rb => same_hist (.slice l2 m2 k2) M2 W2 (.slice s2 t2 u2) (.slice p2 q2 r2) O2 (.slice l4 m4 k4) M2 W2 (.slice s4 t4 u4) (.slice p4 q4 r4) O2 ⟨ls2, M2, W2, scr2, pat2, O2⟩ W' ra rb)
  unfold hiC at HSH
  obtain ⟨hEv, hhE⟩ : ∃ E, hiE h = E := ⟨_, rfl⟩
  rw [hhE] at HCK HRC
  go_region_held3 (fun w' => w'.cell? ⟨w.heap.size, 0, none⟩ = some (.slice la ln lc) ∧ w'.cell? ⟨w.heap.size, 1, none⟩ = some (.int .i64 M) ∧ w'.cell? ⟨w.heap.size, 2, none⟩ = some (.int .i64 W) ∧ w'.cell? ⟨w.heap.size, 3, none⟩ = some (.slice sa sn sc) ∧ w'.cell? ⟨w.heap.size, 4, none⟩ = some (.slice pa pn pc) ∧ w'.cell? ⟨w.heap.size, 5, none⟩ = some (.bool O) ∧ w'.cell? ⟨w2.heap.size, 0, none⟩ = some (.slice l2 m2 k2) ∧ w'.cell? ⟨w2.heap.size, 1, none⟩ = some (.int .i64 M2) ∧ w'.cell? ⟨w2.heap.size, 2, none⟩ = some (.int .i64 W2) ∧ w'.cell? ⟨w2.heap.size, 3, none⟩ = some (.slice s2 t2 u2) ∧ w'.cell? ⟨w2.heap.size, 4, none⟩ = some (.slice p2 q2 r2) ∧ w'.cell? ⟨w2.heap.size, 5, none⟩ = some (.bool O2) ∧ w'.cell? ⟨w4.heap.size, 0, none⟩ = some (.slice l4 m4 k4) ∧ w'.cell? ⟨w4.heap.size, 1, none⟩ = some (.int .i64 M2) ∧ w'.cell? ⟨w4.heap.size, 2, none⟩ = some (.int .i64 W2) ∧ w'.cell? ⟨w4.heap.size, 3, none⟩ = some (.slice s4 t4 u4) ∧ w'.cell? ⟨w4.heap.size, 4, none⟩ = some (.slice p4 q4 r4) ∧ w'.cell? ⟨w4.heap.size, 5, none⟩ = some (.bool O2) ∧ Below w5.heap.size w5 w') (first | exact ⟨c0, c1, c2, c3, c4, c5, x0, x1, x2, x3, x4, x5, y0, y1, y2, y3, y4, y5, (Below.refl _ _).drew⟩ | assumption | exact keepB18 ‹_› ‹_›)
    (first | (go_at_call 30; ((with_reducible refine (HCK.out _ (HR5.out.below (keepR18 ‹_›)).hir).mono ?_); rintro e w6 ⟨rfl, hb6⟩)) | (go_at_call 31; ((with_reducible refine (HRC.out _ (HR5.out.below (keepR18 ‹_›)).hir).mono ?_); rintro e w7 ⟨rfl, hb7⟩)) | (go_at_call 32; ((with_reducible refine (HSH.out _ (HA5.out.below (keepR18 ‹_›)) (HB5.out.below (keepR18 ‹_›))).mono ?_); rintro e w8 ⟨rfl, hb8⟩)))
  have hb8' : Below w5.heap.size w5 w8 := keepR18 ‹_›
  have hacc8 := below_then hacc5 (by omega) hb8'
  have hB8 := hB5.below hb8' hB5.lt
  have hz8 := hb8'.size
  have hmm := @run_makeMap Try.prog
  have hM0 : MapB (w8.alloc (.map #[] 0)) w8.heap.size #[] 0 := heap_alloc_new w8 _
  obtain ⟨M1, hi1, hM1, hy1, hbM1⟩ := ins_new (-1) (.func (.func 33) #[] #[]) hM0 (fun e he => by simp at he)
  obtain ⟨M2', hi2, hM2, hy2, hbM2⟩ := ins_new 1 (.func (.func 34) #[] #[]) hM1 (fun e he => by simp at he; subst he; exact ⟨-1, rfl, by omega⟩)
  obtain ⟨M3, hi3, hM3, hy3, hbM3⟩ := ins_new 0 (.func (.func 35) #[] #[]) hM2 (fun e he => by simp at he; rcases he with rfl | rfl; exact ⟨-1, rfl, by omega⟩; exact ⟨1, rfl, by omega⟩)
  have hM3' : MapB M3 w8.heap.size #[⟨.int .i64 (-1), .func (.func 33) #[] #[], 0⟩, ⟨.int .i64 1, .func (.func 34) #[] #[], 1⟩, ⟨.int .i64 0, .func (.func 35) #[] #[], 2⟩] 3 := hM3
  have hrg := run_range_map (P := Try.prog) M3 54 3 53 w8.heap.size _ 3 Try.underlying54 hM3'
  have hbM : Below w8.heap.size w8 M3 := hbM3 _ _ (Nat.le_refl _) (hbM2 _ _ (Nat.le_refl _) (hbM1 _ _ (Nat.le_refl _) (below1 w8 _)))
  have hb10 : Below w8.heap.size w8 (M3.alloc (.mapIter (some w8.heap.size) 3 #[] 3)) := hbM.alloc hbM.size _
  have hMsz : w8.heap.size < M3.heap.size := by rw [hy3, hy2, hy1]; simp
  have hIt0 : IterB (M3.alloc (.mapIter (some w8.heap.size) 3 #[] 3)) M3.heap.size w8.heap.size 3 #[] 3 := heap_alloc_new M3 _
  have hMp0 : MapB (M3.alloc (.mapIter (some w8.heap.size) 3 #[] 3)) w8.heap.size #[⟨.int .i64 (-1), .func (.func 33) #[] #[], 0⟩, ⟨.int .i64 1, .func (.func 34) #[] #[], 1⟩, ⟨.int .i64 0, .func (.func 35) #[] #[], 2⟩] 3 := by
    unfold MapB; rw [heap_alloc_old M3 _ hMsz]; exact hM3'
  have HI0 := Lib.hid hIt0; have HM0 := Lib.hid hMp0; have HB10 := Lib.hid hb10
  clear hIt0 hMp0 hb10 hM0 hM1 hM2 hM3 hM3' hbM1 hbM2 hbM3 hbM c0 c1 c2 c3 c4 c5 x0 x1 x2 x3 x4 x5 y0 y1 y2 y3 y4 y5 HSH
  clear hy1 hy2 hy3
  go_wp2
  go_loopw [11] (fun _ wr => ∃ seen, IterB wr M3.heap.size w8.heap.size 3 seen 3 ∧ MapB wr w8.heap.size #[⟨.int .i64 (-1), .func (.func 33) #[] #[], 0⟩, ⟨.int .i64 1, .func (.func 34) #[] #[], 1⟩, ⟨.int .i64 0, .func (.func 35) #[] #[], 2⟩] 3 ∧ Below w8.heap.size w8 wr) (fun _ wr => (leftOf #[⟨.int .i64 (-1), .func (.func 33) #[] #[], 0⟩, ⟨.int .i64 1, .func (.func 34) #[] #[], 1⟩, ⟨.int .i64 0, .func (.func 35) #[] #[], 2⟩] (wr.iterSeen M3.heap.size)).size)
  case atStart => exact ⟨_, HI0.out, HM0.out, HB10.out⟩
  case round =>
    obtain ⟨seen, hIt, hMp, hbr⟩ := hrel
    have HIT := Lib.hid hIt; have HMP := Lib.hid hMp
    have hdum : True := trivial
    have HSEEN := Lib.hid (show wr.iterSeen M3.heap.size = seen by unfold World.iterSeen; rw [show wr.heap[M3.heap.size]? = _ from hIt])
    clear hIt hMp hmm hi1 hi2 hi3 hrg
    go_wp2_with (show wpList _ _ _ (⟨some 50, _, _, _, _, _⟩ :: _) _ _; revert hdum)
    intro hdum
    refine next_at rfl _ rfl M3.heap.size w8.heap.size 3 3 seen #[⟨.int .i64 (-1), .func (.func 33) #[] #[], 0⟩, ⟨.int .i64 1, .func (.func 34) #[] #[], 1⟩, ⟨.int .i64 0, .func (.func 35) #[] #[], 2⟩] rfl HIT.out HMP.out (by simp) (Nat.le_refl _) (by decide) (by omega) ?_ ?_
    · intro h0
      simp only [List.getElem_toArray, List.getElem_cons_succ, List.getElem_cons_zero, Act.put, List.setIfInBounds_toArray, List.set_cons_succ, List.set_cons_zero]
      clear h0
      go_wp2
      go_ret
      exact ⟨rfl, below_then hacc8 (by omega) hbr⟩
    · intro en w9 hen hIt9 hMp9 hlt9 hbel9 hsz9 hent
      have HIT9 := Lib.hid hIt9; have HMP9 := Lib.hid hMp9; have HLT9 := Lib.hid hlt9
      have hb9 := hbel9 _ _ (by omega) hbr
      clear hIt9 hMp9 hlt9 hbel9
      simp only [List.getElem_toArray, List.getElem_cons_succ, List.getElem_cons_zero, Act.put, List.setIfInBounds_toArray, List.set_cons_succ, List.set_cons_zero]
      have hacc9 := below_then hacc8 (by omega) hb9
      have hB9 := hB8.below hb9 hB8.lt
      have hz9 := hb9.size
      simp at hen
      rcases hen with rfl | rfl | rfl
      · obtain ⟨c0, c1, c2, c3, c4, c5⟩ := hB9.six
        go_wp2_with fail
        refine (HUP.out _ (HR0.out.below hacc9).hir (hxi.below hacc9)).mono ?_
        rintro e wA ⟨hxA, lxA, EA, hresA, lvA, svA, pvA, nvA, rfl, hpA, hnA, hbA⟩
        have HRESA := Lib.hid hresA
        obtain ⟨lsA, MA, WA, scrA, patA, OA⟩ := hxA
        obtain ⟨vsA, ⟨lA, mA, kA, rfl, -⟩, -⟩ := hpA.ls
        obtain ⟨sA, tA, uA, rfl⟩ := hpA.scr.form
        obtain ⟨pA, qA, rA, rfl⟩ := hpA.pat.form
        obtain ⟨naA, nnA, ncA, rfl⟩ := hnA.form
        have HPA := Lib.hid hpA.hir; have HNA := Lib.hid hnA.sl
        have hzA := hbA.size
        have hBA := hB9.below hbA hB9.lt
        have haccA := below_then hacc9 (by omega) hbA
        simp only [hiC]
        clear hpA hnA hresA c0 c1 c2 c3 c4 c5 hent
        have hXB := Blk.new wA #[.slice lA mA kA, .int .i64 MA, .int .i64 WA, .slice sA tA uA, .slice pA qA rA, .bool OA] 48
        have hkB := below1 wA (.cells #[.slice lA mA kA, .int .i64 MA, .int .i64 WA, .slice sA tA uA, .slice pA qA rA, .bool OA] 48)
        have hzB : wA.heap.size + 1 ≤ (wA.alloc (.cells #[.slice lA mA kA, .int .i64 MA, .int .i64 WA, .slice sA tA uA, .slice pA qA rA, .bool OA] 48)).heap.size := by simp
        go_upto_region 9 with fail
        change Code.wp _ _ _ _ (wA.alloc (.cells #[.slice lA mA kA, .int .i64 MA, .int .i64 WA, .slice sA tA uA, .slice pA qA rA, .bool OA] 48))
        generalize (wA.alloc (.cells #[.slice lA mA kA, .int .i64 MA, .int .i64 WA, .slice sA tA uA, .slice pA qA rA, .bool OA] 48)) = wB at *
        have haccB := below_then haccA (by omega) hkB
        have HPB := Lib.hid (HPA.out.below hkB); have HNB := Lib.hid (HNA.out.below hkB)
        have hBB := hBA.below hkB (by omega)
        obtain ⟨c0, c1, c2, c3, c4, c5⟩ := hBB.six
        clear HPA HNA
        go_wp2_with fail
        refine (HMV.out (-1) (by decide) _ ((HR0.out.below haccB).imp fun k hk => hk) ((HX.out.below haccB).imp fun k hk => hk)).mono ?_
        rintro e wC ⟨hxC, lxC, EC, hresC, lvC, svC, pvC, nvC, rfl, hpC, hnC, hbC⟩
        obtain ⟨rfl, rfl, rfl⟩ := hresC.unique HRESA.out
        obtain ⟨vsC, ⟨lC, mC, kC, rfl, -⟩, -⟩ := hpC.ls
        obtain ⟨sC, tC, uC, rfl⟩ := hpC.scr.form
        obtain ⟨pC, qC, rC, rfl⟩ := hpC.pat.form
        obtain ⟨naC, nnC, ncC, rfl⟩ := hnC.form
        have HPC := Lib.hid hpC.hir; have HNC := Lib.hid hnC.sl
        have hzC := hbC.size
        have haccC := below_then haccB (by omega) hbC
        simp only [hiC]
        clear hpC hnC hresC c0 c1 c2 c3 c4 c5
        have hYD := Blk.new wC #[.slice lC mC kC, .int .i64 MA, .int .i64 WA, .slice sC tC uC, .slice pC qC rC, .bool OA] 48
        have hkD := below1 wC (.cells #[.slice lC mC kC, .int .i64 MA, .int .i64 WA, .slice sC tC uC, .slice pC qC rC, .bool OA] 48)
        have hzD : wC.heap.size + 1 ≤ (wC.alloc (.cells #[.slice lC mC kC, .int .i64 MA, .int .i64 WA, .slice sC tC uC, .slice pC qC rC, .bool OA] 48)).heap.size := by simp
        have hXC := hXB.below hbC hXB.lt
        have hXD := hXC.below hkD hXC.lt
        have haccD := below_then haccC (by omega) hkD
        have hBD := below_then hbC (by omega) hkD
        have hAD := Lib.hid (HPB.out.below hBD); have hCD := Lib.hid (HPC.out.below hkD)
        have hLD := Lib.hid (HNB.out.below hBD); have hMD := Lib.hid (HNC.out.below hkD)
        clear HPB HPC HNB HNC
        go_upto_region 10 with fail
        change Code.wp _ _ _ _ (wC.alloc (.cells #[.slice lC mC kC, .int .i64 MA, .int .i64 WA, .slice sC tC uC, .slice pC qC rC, .bool OA] 48))
        generalize (wC.alloc (.cells #[.slice lC mC kC, .int .i64 MA, .int .i64 WA, .slice sC tC uC, .slice pC qC rC, .bool OA] 48)) = wD at *
        obtain ⟨x0, x1, x2, x3, x4, x5⟩ := hXD.six
        obtain ⟨y0, y1, y2, y3, y4, y5⟩ := hYD.six
        go_wp2_with fail
        refine (same_hist _ _ _ _ _ _ _ _ _ _ _ _ _ _ hAD.out hCD.out).mono ?_
        rintro e wE ⟨rfl, hbE⟩
        obtain ⟨g1, g2, g3, g4, -⟩ := (hLD.out.below hbE).get
        obtain ⟨g6, g7, g8, g9, -⟩ := (hMD.out.below hbE).get
        have G1 := Lib.hid g1; have G6 := Lib.hid g6
        have hg : nnA ≤ 9223372036854775807 := by omega
        clear g1 g6
        go_wp2_with fail
        refine (slices_same naA naC nnA nnC ncA ncC lxC _ g4 g9 G1.out G6.out hg).mono ?_
        rintro e wF ⟨rfl, nq, rfl⟩
        have hEE : (EC != EC) = false := by simp
        have hall : Below w9.heap.size w9 (wE.drewN nq) := below_drewN (below_then (below_then (below_then hbA (by omega) hkB) (by omega) hBD) (by omega) hbE) nq
        clear g2 g3 g4 g7 g8 g9 x0 x1 x2 x3 x4 x5 y0 y1 y2 y3 y4 y5
        go_wp2
        go_roundw
        case rel => exact ⟨_, HIT9.out.below hall, HMP9.out.below hall, below_then hb9 (by omega) hall⟩
        case measure =>
          rw [(HIT9.out.below hall).seen, HSEEN.out]
          exact HLT9.out
      · obtain ⟨c0, c1, c2, c3, c4, c5⟩ := hB9.six
        go_wp2_with fail
        refine (HDN.out _ (HR0.out.below hacc9).hir (hxi.below hacc9)).mono ?_
        rintro e wA ⟨hxA, lxA, EA, hresA, lvA, svA, pvA, nvA, rfl, hpA, hnA, hbA⟩
        have HRESA := Lib.hid hresA
        obtain ⟨lsA, MA, WA, scrA, patA, OA⟩ := hxA
        obtain ⟨vsA, ⟨lA, mA, kA, rfl, -⟩, -⟩ := hpA.ls
        obtain ⟨sA, tA, uA, rfl⟩ := hpA.scr.form
        obtain ⟨pA, qA, rA, rfl⟩ := hpA.pat.form
        obtain ⟨naA, nnA, ncA, rfl⟩ := hnA.form
        have HPA := Lib.hid hpA.hir; have HNA := Lib.hid hnA.sl
        have hzA := hbA.size
        have hBA := hB9.below hbA hB9.lt
        have haccA := below_then hacc9 (by omega) hbA
        simp only [hiC]
        clear hpA hnA hresA c0 c1 c2 c3 c4 c5 hent
        have hXB := Blk.new wA #[.slice lA mA kA, .int .i64 MA, .int .i64 WA, .slice sA tA uA, .slice pA qA rA, .bool OA] 48
        have hkB := below1 wA (.cells #[.slice lA mA kA, .int .i64 MA, .int .i64 WA, .slice sA tA uA, .slice pA qA rA, .bool OA] 48)
        have hzB : wA.heap.size + 1 ≤ (wA.alloc (.cells #[.slice lA mA kA, .int .i64 MA, .int .i64 WA, .slice sA tA uA, .slice pA qA rA, .bool OA] 48)).heap.size := by simp
        go_upto_region 9 with fail
        change Code.wp _ _ _ _ (wA.alloc (.cells #[.slice lA mA kA, .int .i64 MA, .int .i64 WA, .slice sA tA uA, .slice pA qA rA, .bool OA] 48))
        generalize (wA.alloc (.cells #[.slice lA mA kA, .int .i64 MA, .int .i64 WA, .slice sA tA uA, .slice pA qA rA, .bool OA] 48)) = wB at *
        have haccB := below_then haccA (by omega) hkB
        have HPB := Lib.hid (HPA.out.below hkB); have HNB := Lib.hid (HNA.out.below hkB)
        have hBB := hBA.below hkB (by omega)
        obtain ⟨c0, c1, c2, c3, c4, c5⟩ := hBB.six
        clear HPA HNA
        go_wp2_with fail
        refine (HMV.out 1 (by decide) _ ((HR0.out.below haccB).imp fun k hk => hk) ((HX.out.below haccB).imp fun k hk => hk)).mono ?_
        rintro e wC ⟨hxC, lxC, EC, hresC, lvC, svC, pvC, nvC, rfl, hpC, hnC, hbC⟩
        obtain ⟨rfl, rfl, rfl⟩ := hresC.unique HRESA.out
        obtain ⟨vsC, ⟨lC, mC, kC, rfl, -⟩, -⟩ := hpC.ls
        obtain ⟨sC, tC, uC, rfl⟩ := hpC.scr.form
        obtain ⟨pC, qC, rC, rfl⟩ := hpC.pat.form
        obtain ⟨naC, nnC, ncC, rfl⟩ := hnC.form
        have HPC := Lib.hid hpC.hir; have HNC := Lib.hid hnC.sl
        have hzC := hbC.size
        have haccC := below_then haccB (by omega) hbC
        simp only [hiC]
        clear hpC hnC hresC c0 c1 c2 c3 c4 c5
        have hYD := Blk.new wC #[.slice lC mC kC, .int .i64 MA, .int .i64 WA, .slice sC tC uC, .slice pC qC rC, .bool OA] 48
        have hkD := below1 wC (.cells #[.slice lC mC kC, .int .i64 MA, .int .i64 WA, .slice sC tC uC, .slice pC qC rC, .bool OA] 48)
        have hzD : wC.heap.size + 1 ≤ (wC.alloc (.cells #[.slice lC mC kC, .int .i64 MA, .int .i64 WA, .slice sC tC uC, .slice pC qC rC, .bool OA] 48)).heap.size := by simp
        have hXC := hXB.below hbC hXB.lt
        have hXD := hXC.below hkD hXC.lt
        have haccD := below_then haccC (by omega) hkD
        have hBD := below_then hbC (by omega) hkD
        have hAD := Lib.hid (HPB.out.below hBD); have hCD := Lib.hid (HPC.out.below hkD)
        have hLD := Lib.hid (HNB.out.below hBD); have hMD := Lib.hid (HNC.out.below hkD)
        clear HPB HPC HNB HNC
        go_upto_region 10 with fail
        change Code.wp _ _ _ _ (wC.alloc (.cells #[.slice lC mC kC, .int .i64 MA, .int .i64 WA, .slice sC tC uC, .slice pC qC rC, .bool OA] 48))
        generalize (wC.alloc (.cells #[.slice lC mC kC, .int .i64 MA, .int .i64 WA, .slice sC tC uC, .slice pC qC rC, .bool OA] 48)) = wD at *
        obtain ⟨x0, x1, x2, x3, x4, x5⟩ := hXD.six
        obtain ⟨y0, y1, y2, y3, y4, y5⟩ := hYD.six
        go_wp2_with fail
        refine (same_hist _ _ _ _ _ _ _ _ _ _ _ _ _ _ hAD.out hCD.out).mono ?_
        rintro e wE ⟨rfl, hbE⟩
        obtain ⟨g1, g2, g3, g4, -⟩ := (hLD.out.below hbE).get
        obtain ⟨g6, g7, g8, g9, -⟩ := (hMD.out.below hbE).get
        have G1 := Lib.hid g1; have G6 := Lib.hid g6
        have hg : nnA ≤ 9223372036854775807 := by omega
        clear g1 g6
        go_wp2_with fail
        refine (slices_same naA naC nnA nnC ncA ncC lxC _ g4 g9 G1.out G6.out hg).mono ?_
        rintro e wF ⟨rfl, nq, rfl⟩
        have hEE : (EC != EC) = false := by simp
        have hall : Below w9.heap.size w9 (wE.drewN nq) := below_drewN (below_then (below_then (below_then hbA (by omega) hkB) (by omega) hBD) (by omega) hbE) nq
        clear g2 g3 g4 g7 g8 g9 x0 x1 x2 x3 x4 x5 y0 y1 y2 y3 y4 y5
        go_wp2
        go_roundw
        case rel => exact ⟨_, HIT9.out.below hall, HMP9.out.below hall, below_then hb9 (by omega) hall⟩
        case measure =>
          rw [(HIT9.out.below hall).seen, HSEEN.out]
          exact HLT9.out
      · obtain ⟨c0, c1, c2, c3, c4, c5⟩ := hB9.six
        go_wp2_with fail
        refine (HJP.out _ (HR0.out.below hacc9).hir (hxi.below hacc9)).mono ?_
        rintro e wA ⟨hxA, lxA, EA, hresA, lvA, svA, pvA, nvA, rfl, hpA, hnA, hbA⟩
        have HRESA := Lib.hid hresA
        obtain ⟨lsA, MA, WA, scrA, patA, OA⟩ := hxA
        obtain ⟨vsA, ⟨lA, mA, kA, rfl, -⟩, -⟩ := hpA.ls
        obtain ⟨sA, tA, uA, rfl⟩ := hpA.scr.form
        obtain ⟨pA, qA, rA, rfl⟩ := hpA.pat.form
        obtain ⟨naA, nnA, ncA, rfl⟩ := hnA.form
        have HPA := Lib.hid hpA.hir; have HNA := Lib.hid hnA.sl
        have hzA := hbA.size
        have hBA := hB9.below hbA hB9.lt
        have haccA := below_then hacc9 (by omega) hbA
        simp only [hiC]
        clear hpA hnA hresA c0 c1 c2 c3 c4 c5 hent
        have hXB := Blk.new wA #[.slice lA mA kA, .int .i64 MA, .int .i64 WA, .slice sA tA uA, .slice pA qA rA, .bool OA] 48
        have hkB := below1 wA (.cells #[.slice lA mA kA, .int .i64 MA, .int .i64 WA, .slice sA tA uA, .slice pA qA rA, .bool OA] 48)
        have hzB : wA.heap.size + 1 ≤ (wA.alloc (.cells #[.slice lA mA kA, .int .i64 MA, .int .i64 WA, .slice sA tA uA, .slice pA qA rA, .bool OA] 48)).heap.size := by simp
        go_upto_region 9 with fail
        change Code.wp _ _ _ _ (wA.alloc (.cells #[.slice lA mA kA, .int .i64 MA, .int .i64 WA, .slice sA tA uA, .slice pA qA rA, .bool OA] 48))
        generalize (wA.alloc (.cells #[.slice lA mA kA, .int .i64 MA, .int .i64 WA, .slice sA tA uA, .slice pA qA rA, .bool OA] 48)) = wB at *
        have haccB := below_then haccA (by omega) hkB
        have HPB := Lib.hid (HPA.out.below hkB); have HNB := Lib.hid (HNA.out.below hkB)
        have hBB := hBA.below hkB (by omega)
        obtain ⟨c0, c1, c2, c3, c4, c5⟩ := hBB.six
        clear HPA HNA
        go_wp2_with fail
        refine (HMV.out 0 (by decide) _ ((HR0.out.below haccB).imp fun k hk => hk) ((HX.out.below haccB).imp fun k hk => hk)).mono ?_
        rintro e wC ⟨hxC, lxC, EC, hresC, lvC, svC, pvC, nvC, rfl, hpC, hnC, hbC⟩
        obtain ⟨rfl, rfl, rfl⟩ := hresC.unique HRESA.out
        obtain ⟨vsC, ⟨lC, mC, kC, rfl, -⟩, -⟩ := hpC.ls
        obtain ⟨sC, tC, uC, rfl⟩ := hpC.scr.form
        obtain ⟨pC, qC, rC, rfl⟩ := hpC.pat.form
        obtain ⟨naC, nnC, ncC, rfl⟩ := hnC.form
        have HPC := Lib.hid hpC.hir; have HNC := Lib.hid hnC.sl
        have hzC := hbC.size
        have haccC := below_then haccB (by omega) hbC
        simp only [hiC]
        clear hpC hnC hresC c0 c1 c2 c3 c4 c5
        have hYD := Blk.new wC #[.slice lC mC kC, .int .i64 MA, .int .i64 WA, .slice sC tC uC, .slice pC qC rC, .bool OA] 48
        have hkD := below1 wC (.cells #[.slice lC mC kC, .int .i64 MA, .int .i64 WA, .slice sC tC uC, .slice pC qC rC, .bool OA] 48)
        have hzD : wC.heap.size + 1 ≤ (wC.alloc (.cells #[.slice lC mC kC, .int .i64 MA, .int .i64 WA, .slice sC tC uC, .slice pC qC rC, .bool OA] 48)).heap.size := by simp
        have hXC := hXB.below hbC hXB.lt
        have hXD := hXC.below hkD hXC.lt
        have haccD := below_then haccC (by omega) hkD
        have hBD := below_then hbC (by omega) hkD
        have hAD := Lib.hid (HPB.out.below hBD); have hCD := Lib.hid (HPC.out.below hkD)
        have hLD := Lib.hid (HNB.out.below hBD); have hMD := Lib.hid (HNC.out.below hkD)
        clear HPB HPC HNB HNC
        go_upto_region 10 with fail
        change Code.wp _ _ _ _ (wC.alloc (.cells #[.slice lC mC kC, .int .i64 MA, .int .i64 WA, .slice sC tC uC, .slice pC qC rC, .bool OA] 48))
        generalize (wC.alloc (.cells #[.slice lC mC kC, .int .i64 MA, .int .i64 WA, .slice sC tC uC, .slice pC qC rC, .bool OA] 48)) = wD at *
        obtain ⟨x0, x1, x2, x3, x4, x5⟩ := hXD.six
        obtain ⟨y0, y1, y2, y3, y4, y5⟩ := hYD.six
        go_wp2_with fail
        refine (same_hist _ _ _ _ _ _ _ _ _ _ _ _ _ _ hAD.out hCD.out).mono ?_
        rintro e wE ⟨rfl, hbE⟩
        obtain ⟨g1, g2, g3, g4, -⟩ := (hLD.out.below hbE).get
        obtain ⟨g6, g7, g8, g9, -⟩ := (hMD.out.below hbE).get
        have G1 := Lib.hid g1; have G6 := Lib.hid g6
        have hg : nnA ≤ 9223372036854775807 := by omega
        clear g1 g6
        go_wp2_with fail
        refine (slices_same naA naC nnA nnC ncA ncC lxC _ g4 g9 G1.out G6.out hg).mono ?_
        rintro e wF ⟨rfl, nq, rfl⟩
        have hEE : (EC != EC) = false := by simp
        have hall : Below w9.heap.size w9 (wE.drewN nq) := below_drewN (below_then (below_then (below_then hbA (by omega) hkB) (by omega) hBD) (by omega) hbE) nq
        clear g2 g3 g4 g7 g8 g9 x0 x1 x2 x3 x4 x5 y0 y1 y2 y3 y4 y5
        go_wp2
        go_roundw
        case rel => exact ⟨_, HIT9.out.below hall, HMP9.out.below hall, below_then hb9 (by omega) hall⟩
        case measure =>
          rw [(HIT9.out.below hall).seen, HSEEN.out]
          exact HLT9.out

end Go.Proofs.Ytmipnikhgihcpaa

