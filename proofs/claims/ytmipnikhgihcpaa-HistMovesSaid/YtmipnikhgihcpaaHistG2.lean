/- Contract of fairref.HistAdd. -/
import Derived.Test.YtmipnikhgihcpaaHistG
namespace Go.Proofs.Ytmipnikhgihcpaa
open Go.RowKit
set_option linter.unusedVariables false
set_option linter.unusedSimpArgs false

set_option maxRecDepth 100000 in
set_option maxHeartbeats 8000000 in
theorem ref_Add_small (lv : Value) (most wher : Int) (sv pv : Value) (older : Bool) (ls : List (List Int)) (M W : Int) (scr pat : List Int) (O : Bool) (a : Option Addr) (nn c : Nat) (w : World) (r : HiR w lv most wher sv pv older ⟨ls, M, W, scr, pat, O⟩) (xs : List Int) (hE : hiE ⟨ls, M, W, scr, pat, O⟩ = 0) (hx : Sl w (.slice a nn c) xs) (hnn : nn ≤ 200) (h0 : 0 < nn) (hsm : (ls.length : Int) + 1 ≤ M) :
    Calls Try.prog 29 #[.agg (hiC lv most wher sv pv older), .slice a nn c] w (APost AnyB (addH ⟨ls, M, W, scr, pat, O⟩ xs) 0 w) := by
  have hok := hiOk_of hE
  have HE := Lib.hid hE
  have HR0 := Lib.hid r
  have hm1 : 1 ≤ M := hok.most1
  have hm2 : M ≤ 50 := hok.most2
  have hlm : (ls.length : Int) ≤ M := hok.len
  have HX := Lib.hid hx
  have HXN := Lib.hid hx.get.1
  clear hE hok hx
  obtain ⟨⟨vs, hvs, hls⟩, h1, h2, hscr, hpat, h3⟩ := r
  simp only at hls h1 h2 h3 hscr hpat
  obtain rfl : M = most := h1.symm
  obtain rfl : W = wher := h2.symm
  obtain rfl : O = older := h3.symm
  have HVS := Lib.hid hvs; have HLS := Lib.hid hls; have HPT := Lib.hid hpat
  obtain ⟨la, ln, lc, rfl, hl1, hl2, hl3, hl4, hl5⟩ := hvs
  obtain ⟨sa, sn, sc, rfl, hs1, hs2, hs3, hs4, hs5⟩ := hscr
  obtain ⟨pa, pn, pc, rfl, hp1, hp2, hp3, hp4, hp5⟩ := hpat
  have hll : ls.length = ln := by rw [← hls.len]; exact hl1
  have HRT := Lib.hid (fun W' r => ref_histErr (.slice la ln lc) M W (.slice sa sn sc) (.slice pa pn pc) O ⟨ls, M, W, scr, pat, O⟩ W' r)
  rw [hll] at hlm hsm
  have hl50 : ln ≤ 50 := by omega
  have HLN := Lib.hid hll
  have HVSL := Lib.hid hls.sls
  have HL1 := Lib.hid hl1
  have HL5 := Lib.hid hl5
  skip
  unfold hiC at *
  have hB := (Blk.new w #[.slice la ln lc, .int .i64 M, .int .i64 W, .slice sa sn sc, .slice pa pn pc, .bool O] 48).alloc (.cells #[.slice none 0 0, .int .i64 0, .int .i64 0, .slice none 0 0, .slice none 0 0, .bool false] 48)
  have hR := Blk.new (w.alloc (.cells #[.slice la ln lc, .int .i64 M, .int .i64 W, .slice sa sn sc, .slice pa pn pc, .bool O] 48)) #[.slice none 0 0, .int .i64 0, .int .i64 0, .slice none 0 0, .slice none 0 0, .bool false] 48
  rw [World.size_alloc] at hR
  have hacc := below2 w (.cells #[.slice la ln lc, .int .i64 M, .int .i64 W, .slice sa sn sc, .slice pa pn pc, .bool O] 48) (.cells #[.slice none 0 0, .int .i64 0, .int .i64 0, .slice none 0 0, .slice none 0 0, .bool false] 48)
  have hsz : w.heap.size + 2 ≤ ((w.alloc (.cells #[.slice la ln lc, .int .i64 M, .int .i64 W, .slice sa sn sc, .slice pa pn pc, .bool O] 48)).alloc (.cells #[.slice none 0 0, .int .i64 0, .int .i64 0, .slice none 0 0, .slice none 0 0, .bool false] 48)).heap.size := by simp
  have HR1 := Lib.hid (HR0.out.below hacc)
  clear hs1 hp1 hl1 hl5 hs5 hp5 hll hls HR0
  go_enter Try.func29, Try.ntmps29
  go_upto_region 1 with fail
  change Code.wp _ _ _ _ ((w.alloc (.cells #[.slice la ln lc, .int .i64 M, .int .i64 W, .slice sa sn sc, .slice pa pn pc, .bool O] 48)).alloc (.cells #[.slice none 0 0, .int .i64 0, .int .i64 0, .slice none 0 0, .slice none 0 0, .bool false] 48))
  generalize ((w.alloc (.cells #[.slice la ln lc, .int .i64 M, .int .i64 W, .slice sa sn sc, .slice pa pn pc, .bool O] 48)).alloc (.cells #[.slice none 0 0, .int .i64 0, .int .i64 0, .slice none 0 0, .slice none 0 0, .bool false] 48)) = w1 at *
  obtain ⟨c0, c1, c2, c3, c4, c5⟩ := hB.six
  go_wp2_with ((go_at_call 31); refine (HRT.out _ HR1.out).mono ?_; rintro e wc ⟨rfl, hb2⟩; rw [HE.out]; have hB2 := hB.below hb2 hB.lt; obtain ⟨d0, d1, d2, d3, d4, d5⟩ := hB2.six; have hR2 := hR.below hb2 hR.lt; obtain ⟨p0, p1, p2, p3, p4, p5⟩ := hR2.six; obtain ⟨t0, t1, t2, t3, t4, t5⟩ := hR2.sixf; have hacc2 := below_then hacc (by omega) hb2; have hlt2 := hB2.lt; have hz2 := hb2.size; obtain ⟨q0, q1, q2, q3, q4, q5⟩ := hB2.sixf)
  refine (slices_vclone la ln lc vs wc (hl4.below hacc2) HVSL.out HL1.out (by omega) HL5.out).mono ?_
  rintro e w2 ⟨v2, rfl, own2, hb3⟩
  obtain ⟨ra, rn, rc, rfl⟩ := own2.form
  have hO2 := own2.mono (base' := w.heap.size + 2) (by omega)
  have HO2 := Lib.hid hO2
  have hz3 := hb3.size
  have hacc3 := below_then hacc2 (by omega) hb3
  have hB3 := (hB2.below hb3 hB2.lt).alloc (.cells #[.slice a nn c] 22)
  have hR3 := (hR2.below hb3 hR2.lt).alloc (.cells #[.slice a nn c] 22)
  have HSLS := Lib.hid (show Sls [Value.slice a nn c] from fun i hi => by
    obtain rfl : i = 0 := by simp at hi; omega
    exact ⟨a, nn, c, rfl⟩)
  have HLEN := Lib.hid (show vs.length + 1 ≤ 4398046511104 by rw [HL1.out]; omega)
  clear own2 hO2 d0 d1 d2 d3 d4 d5 p0 p1 p2 p3 p4 p5 t0 t1 t2 t3 t4 t5 q0 q1 q2 q3 q4 q5 c0 c1 c2 c3 c4 c5
  go_wp2_with (at_builtin; refine vapp rfl _ _ rfl (w.heap.size + 2) (.slice ra rn rc) vs [.slice a nn c] _ 1 1 rfl rfl (HO2.out.alloc _) (vals_lit w2 [.slice a nn c] _) HSLS.out rfl HLEN.out (by simp; omega) ?_; intro v9 w9 o9 hgrow9; obtain ⟨a9, n9, c9, rfl⟩ := o9.form; have hB9 := hB3.grown hgrow9 (HO2.out.ne (by omega)); have hR9 := hR3.grown hgrow9 (HO2.out.ne (by omega)); obtain ⟨d0, d1, d2, d3, d4, d5⟩ := hB9.six; obtain ⟨q0, q1, q2, q3, q4, q5⟩ := hB9.sixf; obtain ⟨p0, p1, p2, p3, p4, p5⟩ := hR9.six; obtain ⟨t0, t1, t2, t3, t4, t5⟩ := hR9.sixf; have HO9 := Lib.hid o9; have hn9 : n9 = ln + 1 := (by have := o9.vs.get.1; simp only [List.length_append, List.length_cons, List.length_nil] at this; have := HL1.out; omega); have hlt9 : (n9 : Int) ≤ M := (by omega); have hc9 : 2 ≤ n9 + 1 ∧ n9 ≤ c9 := ⟨by omega, o9.vs.get.2.1⟩; have HN9 := Lib.hid hn9; clear hn9 o9)
  have hxs : xs ≠ [] := by have := HXN.out; rintro rfl; simp at this; omega
  have hlsl : ls.length = ln := HLN.out
  have hn9 : n9 = ln + 1 := HN9.out
  have hgz := hgrow9.size
  have hacc9 : Below w.heap.size w w9 := (hacc3.alloc (by omega) (.cells #[.slice a nn c] 22)).grown hgrow9 (by simp; omega) (fun k hk => by have := HO2.out.row k hk; omega)
  have hAL : addLs ⟨ls, M, W, scr, pat, O⟩ xs = ls ++ [xs] := by
    unfold addLs; rw [if_neg hxs]; simp only; rw [if_neg (by omega)]
  have hAH : addH ⟨ls, M, W, scr, pat, O⟩ xs = ⟨ls ++ [xs], M, (n9 : Int), [], pat, O⟩ := by
    unfold addH; rw [hAL]; congr 1; simp [hlsl]; omega
  have hR11 := ((hR9.other (a := ⟨w.heap.size, 0, none⟩) (by simp) (.slice a9 n9 c9)).other (a := ⟨w.heap.size, 2, none⟩) (by simp) (.int .i64 (n9 : Int))).other (a := ⟨w.heap.size, 3, none⟩) (by simp) (.slice none 0 0)
  obtain ⟨y0, y1, y2, y3, y4, y5⟩ := (hR11.six' (.slice a9 n9 c9) (.int .i64 M) (.int .i64 (n9 : Int)) (.slice none 0 0) (.slice pa pn pc) (.bool O)).six
  refine bodyPost_ret (v := .tuple #[.agg (hiC (.slice a9 n9 c9) M (n9 : Int) (.slice none 0 0) (.slice pa pn pc) O), .int .i64 0]) (by simp [results, Try.results29, go_sem, y0, y1, y2, y3, y4, y5, hiC]) rfl ?_
  rw [hAH]
  have hacc11 := ((hacc9.setCell (p := ⟨w.heap.size, 0, none⟩) (Nat.le_refl _) (.slice a9 n9 c9)).setCell (p := ⟨w.heap.size, 2, none⟩) (Nat.le_refl _) (.int .i64 (n9 : Int))).setCell (p := ⟨w.heap.size, 3, none⟩) (Nat.le_refl _) (.slice none 0 0)
  have hbF := below6 (B := w.heap.size + 1) (u0 := (.slice a9 n9 c9)) (u1 := .int .i64 M) (u2 := .int .i64 (n9 : Int)) (u3 := .slice none 0 0) (u4 := .slice pa pn pc) (u5 := .bool O) hacc11 (Nat.le_succ _)
  have hOF := ((((((((HO9.out.setCell (a := ⟨w.heap.size, 0, none⟩) (by show w.heap.size < _; omega) (.slice a9 n9 c9)).setCell (a := ⟨w.heap.size, 2, none⟩) (by show w.heap.size < _; omega) (.int .i64 (n9 : Int))).setCell (a := ⟨w.heap.size, 3, none⟩) (by show w.heap.size < _; omega) (.slice none 0 0)).setCell (a := ⟨w.heap.size + 1, 0, none⟩) (by show w.heap.size + 1 < _; omega) (.slice a9 n9 c9)).setCell (a := ⟨w.heap.size + 1, 1, none⟩) (by show w.heap.size + 1 < _; omega) (.int .i64 M)).setCell (a := ⟨w.heap.size + 1, 2, none⟩) (by show w.heap.size + 1 < _; omega) (.int .i64 (n9 : Int))).setCell (a := ⟨w.heap.size + 1, 3, none⟩) (by show w.heap.size + 1 < _; omega) (.slice none 0 0)).setCell (a := ⟨w.heap.size + 1, 4, none⟩) (by show w.heap.size + 1 < _; omega) (.slice pa pn pc)).setCell (a := ⟨w.heap.size + 1, 5, none⟩) (by show w.heap.size + 1 < _; omega) (.bool O)
  obtain ⟨g1, g2, g3, g4, g5⟩ := hOF.vs.get
  have hLF := (HLS.out.below hbF).append (Lists.one (HX.out.below hbF))
  exact ⟨_, _, _, rfl, HiR.any ⟨⟨_, hOF.vs, hLF⟩, rfl, rfl, Sl.nil _, HPT.out.below hbF, rfl⟩, hbF⟩

end Go.Proofs.Ytmipnikhgihcpaa
