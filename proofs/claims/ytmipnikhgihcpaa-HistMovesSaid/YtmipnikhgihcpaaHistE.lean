/- Contract of hist.Add. -/
import Derived.Test.YtmipnikhgihcpaaBut
import Derived.Test.YtmipnikhgihcpaaSix
import Derived.Test.YtmipnikhgihcpaaHist2
namespace Go.Proofs.Ytmipnikhgihcpaa
open Go.RowKit
set_option linter.unusedVariables false
set_option linter.unusedSimpArgs false

def addLs (h : Hi) (xs : List Int) : List (List Int) := if xs = [] then h.ls else if h.most < (h.ls.length : Int) + 1 then (h.ls ++ [xs]).drop 1 else h.ls ++ [xs]
def addH (h : Hi) (xs : List Int) : Hi := ⟨addLs h xs, h.most, (addLs h xs).length, [], h.pat, h.older⟩
def APost (P : Nat → Prop) (h : Hi) (E : Int) (w : World) (e : Ending) (w' : World) : Prop :=
  ∃ lv sv pv, e = .returned (.tuple #[.agg (hiC lv h.most h.wher sv pv h.older), .int .i64 E]) ∧ HiP P w' lv h.most h.wher sv pv h.older h ∧ Below w.heap.size w w'
def AddRes (h : Hi) (xs : List Int) (h' : Hi) (E : Int) : Prop :=
  (hiE h ≠ 0 ∧ h' = hi0 ∧ E = hiE h) ∨ (hiE h = 0 ∧ 200 < xs.length ∧ h' = hi0 ∧ E = 2) ∨ (hiE h = 0 ∧ xs.length ≤ 200 ∧ h' = addH h xs ∧ E = 0)
theorem AddRes.unique {h : Hi} {xs : List Int} {h1 h2 : Hi} {E1 E2 : Int} (a : AddRes h xs h1 E1) (b : AddRes h xs h2 E2) : h1 = h2 ∧ E1 = E2 := by
  rcases a with ⟨a1, rfl, rfl⟩ | ⟨a1, a2, rfl, rfl⟩ | ⟨a1, a2, rfl, rfl⟩ <;>
  rcases b with ⟨b1, rfl, rfl⟩ | ⟨b1, b2, rfl, rfl⟩ | ⟨b1, b2, rfl, rfl⟩ <;>
  first | exact ⟨rfl, rfl⟩ | exact absurd b1 a1 | exact absurd a1 b1 | omega

/-- a ring of n places behind k pushes -/
def PushP (wr : World) (p g n : Nat) (all : List Value) (k : Nat) : Prop :=
  (k ≤ n ∧ ∃ slots, RingV wr p g n 0 k slots ∧ ∀ i, i < k → vx slots i = vx all i) ∨
  (k = n + 1 ∧ ∃ slots, RingV wr p g n (place n 0 1) n slots ∧ vx slots 0 = vx all n ∧ ∀ i, 1 ≤ i → i < n → vx slots i = vx all i)
theorem vx_ext {vs us : List Value} (h : vs.length = us.length) (he : ∀ i, i < vs.length → vx vs i = vx us i) : vs = us := by
  apply List.ext_getElem h
  intro i h1 h2
  have := he i h1
  rwa [vx_at h1, vx_at h2] at this
theorem PushP.list {wr : World} {p g n : Nat} {all : List Value} {k : Nat} (h : PushP wr p g n all k) (hk : all.length = k) (hn : 1 ≤ n) :
    ∃ f s slots, RingV wr p g n f s slots ∧ f < n ∧ s ≤ n ∧ ringVs n f s slots = (if n < k then all.drop 1 else all) := by
  rcases h with ⟨h1, slots, h2, h3⟩ | ⟨rfl, slots, h2, h3, h4⟩
  · refine ⟨0, k, slots, h2, by omega, h1, ?_⟩
    rw [if_neg (by omega)]
    apply vx_ext (by rw [ringVs_length, hk])
    intro i hi
    rw [ringVs_length] at hi
    rw [ringVs_vx hi, show place n 0 i = i from by unfold place; split <;> omega]
    exact h3 i hi
  · refine ⟨place n 0 1, n, slots, h2, by unfold place; split <;> omega, Nat.le_refl _, ?_⟩
    rw [if_pos (by omega)]
    apply vx_ext (by rw [ringVs_length, List.length_drop]; omega)
    intro i hi
    rw [ringVs_length] at hi
    rw [ringVs_vx hi, vx_drop]
    by_cases h0 : i = n - 1
    · have : place n (place n 0 1) i = 0 := by unfold place; split <;> split <;> omega
      rw [this, h3]; congr 1; omega
    · have : place n (place n 0 1) i = 1 + i := by unfold place; split <;> split <;> omega
      rw [this]; exact h4 (1 + i) (by omega) (by omega)

set_option maxRecDepth 100000 in
set_option maxHeartbeats 4000000 in
theorem hist_Add_bad (lv : Value) (most wher : Int) (sv pv : Value) (older : Bool) (ls : List (List Int)) (M W : Int) (scr pat : List Int) (O : Bool) (a : Option Addr) (nn c : Nat) (w : World) (r : HiR w lv most wher sv pv older ⟨ls, M, W, scr, pat, O⟩) (E : Int) (hE : hiE ⟨ls, M, W, scr, pat, O⟩ = E) (h0 : E ≠ 0) (P : Nat → Prop) :
    Calls Try.prog 28 #[.agg (hiC lv most wher sv pv older), .slice a nn c] w (APost P hi0 E w) := by
  have HE := Lib.hid hE
  have h0' : (E != 0) = true := by simpa using h0
  have HR0 := Lib.hid r
  clear hE h0
  obtain ⟨⟨vs, hvs, hls⟩, h1, h2, hscr, hpat, h3⟩ := r
  simp only at hls h1 h2 h3 hscr hpat
  obtain rfl : M = most := h1.symm
  obtain rfl : W = wher := h2.symm
  obtain rfl : O = older := h3.symm
  obtain ⟨la, ln, lc, rfl, hl1, hl2, hl3, hl4, hl5⟩ := hvs
  obtain ⟨sa, sn, sc, rfl, hs1, hs2, hs3, hs4, hs5⟩ := hscr
  obtain ⟨pa, pn, pc, rfl, hp1, hp2, hp3, hp4, hp5⟩ := hpat
  have hll : ls.length = ln := by rw [← hls.len]; exact hl1
  have HRT := Lib.hid (fun W' r => hist_check (.slice la ln lc) M W (.slice sa sn sc) (.slice pa pn pc) O ⟨ls, M, W, scr, pat, O⟩ W' r)
  unfold hiC at *
  have hB := (Blk.new w #[.slice la ln lc, .int .i64 M, .int .i64 W, .slice sa sn sc, .slice pa pn pc, .bool O] 48).alloc (.cells #[.slice none 0 0, .int .i64 0, .int .i64 0, .slice none 0 0, .slice none 0 0, .bool false] 48)
  have hR := Blk.new (w.alloc (.cells #[.slice la ln lc, .int .i64 M, .int .i64 W, .slice sa sn sc, .slice pa pn pc, .bool O] 48)) #[.slice none 0 0, .int .i64 0, .int .i64 0, .slice none 0 0, .slice none 0 0, .bool false] 48
  rw [World.size_alloc] at hR
  have hacc := below2 w (.cells #[.slice la ln lc, .int .i64 M, .int .i64 W, .slice sa sn sc, .slice pa pn pc, .bool O] 48) (.cells #[.slice none 0 0, .int .i64 0, .int .i64 0, .slice none 0 0, .slice none 0 0, .bool false] 48)
  have hsz : w.heap.size + 2 ≤ ((w.alloc (.cells #[.slice la ln lc, .int .i64 M, .int .i64 W, .slice sa sn sc, .slice pa pn pc, .bool O] 48)).alloc (.cells #[.slice none 0 0, .int .i64 0, .int .i64 0, .slice none 0 0, .slice none 0 0, .bool false] 48)).heap.size := by simp
  have HR1 := Lib.hid (HR0.out.below hacc)
  clear hs1 hp1 hl1 hl5 hs5 hp5 hll hls HR0
  go_enter Try.func28, Try.ntmps28
  go_upto_region 1 with fail
  change Code.wp _ _ _ _ ((w.alloc (.cells #[.slice la ln lc, .int .i64 M, .int .i64 W, .slice sa sn sc, .slice pa pn pc, .bool O] 48)).alloc (.cells #[.slice none 0 0, .int .i64 0, .int .i64 0, .slice none 0 0, .slice none 0 0, .bool false] 48))
  generalize ((w.alloc (.cells #[.slice la ln lc, .int .i64 M, .int .i64 W, .slice sa sn sc, .slice pa pn pc, .bool O] 48)).alloc (.cells #[.slice none 0 0, .int .i64 0, .int .i64 0, .slice none 0 0, .slice none 0 0, .bool false] 48)) = w1 at *
  obtain ⟨c0, c1, c2, c3, c4, c5⟩ := hB.six
  go_wp2_with ((go_at_call 30); refine (HRT.out _ HR1.out).mono ?_; rintro e wc ⟨rfl, hb2⟩; rw [HE.out]; have hB2 := hB.below hb2 hB.lt; obtain ⟨d0, d1, d2, d3, d4, d5⟩ := hB2.six; have hR2 := hR.below hb2 hR.lt; obtain ⟨p0, p1, p2, p3, p4, p5⟩ := hR2.six; obtain ⟨t0, t1, t2, t3, t4, t5⟩ := hR2.sixf; have hacc2 := below_then hacc (by omega) hb2; have hlt2 := hB2.lt; have hz2 := hb2.size)
  obtain ⟨y0, y1, y2, y3, y4, y5⟩ := (hR2.six' (.slice none 0 0) (.int .i64 0) (.int .i64 0) (.slice none 0 0) (.slice none 0 0) (.bool false)).six
  refine bodyPost_ret (v := .tuple #[.agg (hiC (.slice none 0 0) 0 0 (.slice none 0 0) (.slice none 0 0) false), .int .i64 (E)]) (by simp [results, Try.results28, go_sem, y0, y1, y2, y3, y4, y5, hiC]) rfl ?_
  exact ⟨_, _, _, rfl, hip0 _ _, below6 hacc2 (Nat.le_succ _)⟩

set_option maxRecDepth 100000 in
set_option maxHeartbeats 4000000 in
theorem hist_Add_large (lv : Value) (most wher : Int) (sv pv : Value) (older : Bool) (ls : List (List Int)) (M W : Int) (scr pat : List Int) (O : Bool) (a : Option Addr) (nn c : Nat) (w : World) (r : HiR w lv most wher sv pv older ⟨ls, M, W, scr, pat, O⟩) (hE : hiE ⟨ls, M, W, scr, pat, O⟩ = 0) (h0 : 200 < nn) (P : Nat → Prop) :
    Calls Try.prog 28 #[.agg (hiC lv most wher sv pv older), .slice a nn c] w (APost P hi0 2 w) := by
  have HE := Lib.hid hE
  have HR0 := Lib.hid r
  clear hE
  obtain ⟨⟨vs, hvs, hls⟩, h1, h2, hscr, hpat, h3⟩ := r
  simp only at hls h1 h2 h3 hscr hpat
  obtain rfl : M = most := h1.symm
  obtain rfl : W = wher := h2.symm
  obtain rfl : O = older := h3.symm
  obtain ⟨la, ln, lc, rfl, hl1, hl2, hl3, hl4, hl5⟩ := hvs
  obtain ⟨sa, sn, sc, rfl, hs1, hs2, hs3, hs4, hs5⟩ := hscr
  obtain ⟨pa, pn, pc, rfl, hp1, hp2, hp3, hp4, hp5⟩ := hpat
  have hll : ls.length = ln := by rw [← hls.len]; exact hl1
  have HRT := Lib.hid (fun W' r => hist_check (.slice la ln lc) M W (.slice sa sn sc) (.slice pa pn pc) O ⟨ls, M, W, scr, pat, O⟩ W' r)
  unfold hiC at *
  have hB := (Blk.new w #[.slice la ln lc, .int .i64 M, .int .i64 W, .slice sa sn sc, .slice pa pn pc, .bool O] 48).alloc (.cells #[.slice none 0 0, .int .i64 0, .int .i64 0, .slice none 0 0, .slice none 0 0, .bool false] 48)
  have hR := Blk.new (w.alloc (.cells #[.slice la ln lc, .int .i64 M, .int .i64 W, .slice sa sn sc, .slice pa pn pc, .bool O] 48)) #[.slice none 0 0, .int .i64 0, .int .i64 0, .slice none 0 0, .slice none 0 0, .bool false] 48
  rw [World.size_alloc] at hR
  have hacc := below2 w (.cells #[.slice la ln lc, .int .i64 M, .int .i64 W, .slice sa sn sc, .slice pa pn pc, .bool O] 48) (.cells #[.slice none 0 0, .int .i64 0, .int .i64 0, .slice none 0 0, .slice none 0 0, .bool false] 48)
  have hsz : w.heap.size + 2 ≤ ((w.alloc (.cells #[.slice la ln lc, .int .i64 M, .int .i64 W, .slice sa sn sc, .slice pa pn pc, .bool O] 48)).alloc (.cells #[.slice none 0 0, .int .i64 0, .int .i64 0, .slice none 0 0, .slice none 0 0, .bool false] 48)).heap.size := by simp
  have HR1 := Lib.hid (HR0.out.below hacc)
  clear hs1 hp1 hl1 hl5 hs5 hp5 hll hls HR0
  go_enter Try.func28, Try.ntmps28
  go_upto_region 1 with fail
  change Code.wp _ _ _ _ ((w.alloc (.cells #[.slice la ln lc, .int .i64 M, .int .i64 W, .slice sa sn sc, .slice pa pn pc, .bool O] 48)).alloc (.cells #[.slice none 0 0, .int .i64 0, .int .i64 0, .slice none 0 0, .slice none 0 0, .bool false] 48))
  generalize ((w.alloc (.cells #[.slice la ln lc, .int .i64 M, .int .i64 W, .slice sa sn sc, .slice pa pn pc, .bool O] 48)).alloc (.cells #[.slice none 0 0, .int .i64 0, .int .i64 0, .slice none 0 0, .slice none 0 0, .bool false] 48)) = w1 at *
  obtain ⟨c0, c1, c2, c3, c4, c5⟩ := hB.six
  go_wp2_with ((go_at_call 30); refine (HRT.out _ HR1.out).mono ?_; rintro e wc ⟨rfl, hb2⟩; rw [HE.out]; have hB2 := hB.below hb2 hB.lt; obtain ⟨d0, d1, d2, d3, d4, d5⟩ := hB2.six; have hR2 := hR.below hb2 hR.lt; obtain ⟨p0, p1, p2, p3, p4, p5⟩ := hR2.six; obtain ⟨t0, t1, t2, t3, t4, t5⟩ := hR2.sixf; have hacc2 := below_then hacc (by omega) hb2; have hlt2 := hB2.lt; have hz2 := hb2.size)
  obtain ⟨y0, y1, y2, y3, y4, y5⟩ := (hR2.six' (.slice none 0 0) (.int .i64 0) (.int .i64 0) (.slice none 0 0) (.slice none 0 0) (.bool false)).six
  refine bodyPost_ret (v := .tuple #[.agg (hiC (.slice none 0 0) 0 0 (.slice none 0 0) (.slice none 0 0) false), .int .i64 (2)]) (by simp [results, Try.results28, go_sem, y0, y1, y2, y3, y4, y5, hiC]) rfl ?_
  exact ⟨_, _, _, rfl, hip0 _ _, below6 hacc2 (Nat.le_succ _)⟩

set_option maxRecDepth 100000 in
set_option maxHeartbeats 8000000 in
theorem hist_Add_empty (lv : Value) (most wher : Int) (sv pv : Value) (older : Bool) (ls : List (List Int)) (M W : Int) (scr pat : List Int) (O : Bool) (a : Option Addr) (nn c : Nat) (w : World) (r : HiR w lv most wher sv pv older ⟨ls, M, W, scr, pat, O⟩) (xs : List Int) (hE : hiE ⟨ls, M, W, scr, pat, O⟩ = 0) (hx : Ints w a xs) (hxn : xs.length = nn) (hx0 : a = none → nn = 0) (hnn : nn ≤ 200) (h0 : nn = 0) :
    Calls Try.prog 28 #[.agg (hiC lv most wher sv pv older), .slice a nn c] w (APost (fun k => w.heap.size ≤ k) (addH ⟨ls, M, W, scr, pat, O⟩ xs) 0 w) := by
  have hok := hiOk_of hE
  have HE := Lib.hid hE
  have HR0 := Lib.hid r
  have hm1 : 1 ≤ M := hok.most1
  have hm2 : M ≤ 50 := hok.most2
  have hlm : (ls.length : Int) ≤ M := hok.len
  have HXN := Lib.hid hxn; have HX0 := Lib.hid hx0
  have HLL200 := Lib.hid hok.lines; have HS200 := Lib.hid hok.scr; have HP200 := Lib.hid hok.pat
  clear hE hok hxn hx0
  obtain ⟨⟨vs, hvs, hls⟩, h1, h2, hscr, hpat, h3⟩ := r
  simp only at hls h1 h2 h3 hscr hpat
  obtain rfl : M = most := h1.symm
  obtain rfl : W = wher := h2.symm
  obtain rfl : O = older := h3.symm
  obtain ⟨la, ln, lc, rfl, hl1, hl2, hl3, hl4, hl5⟩ := hvs
  obtain ⟨sa, sn, sc, rfl, hs1, hs2, hs3, hs4, hs5⟩ := hscr
  obtain ⟨pa, pn, pc, rfl, hp1, hp2, hp3, hp4, hp5⟩ := hpat
  have hll : ls.length = ln := by rw [← hls.len]; exact hl1
  have HRT := Lib.hid (fun W' r => hist_check (.slice la ln lc) M W (.slice sa sn sc) (.slice pa pn pc) O ⟨ls, M, W, scr, pat, O⟩ W' r)
  have HCP := Lib.hid (fun W' r => hist_copied (.slice la ln lc) M W (.slice sa sn sc) (.slice pa pn pc) O ⟨ls, M, W, scr, pat, O⟩ W' r (by show ls.length ≤ 50; omega) HLL200.out HS200.out HP200.out)
  rw [hll] at hlm
  obtain rfl : nn = 0 := h0
  have HLN := Lib.hid hll
  unfold hiC at *
  have hB := (Blk.new w #[.slice la ln lc, .int .i64 M, .int .i64 W, .slice sa sn sc, .slice pa pn pc, .bool O] 48).alloc (.cells #[.slice none 0 0, .int .i64 0, .int .i64 0, .slice none 0 0, .slice none 0 0, .bool false] 48)
  have hR := Blk.new (w.alloc (.cells #[.slice la ln lc, .int .i64 M, .int .i64 W, .slice sa sn sc, .slice pa pn pc, .bool O] 48)) #[.slice none 0 0, .int .i64 0, .int .i64 0, .slice none 0 0, .slice none 0 0, .bool false] 48
  rw [World.size_alloc] at hR
  have hacc := below2 w (.cells #[.slice la ln lc, .int .i64 M, .int .i64 W, .slice sa sn sc, .slice pa pn pc, .bool O] 48) (.cells #[.slice none 0 0, .int .i64 0, .int .i64 0, .slice none 0 0, .slice none 0 0, .bool false] 48)
  have hsz : w.heap.size + 2 ≤ ((w.alloc (.cells #[.slice la ln lc, .int .i64 M, .int .i64 W, .slice sa sn sc, .slice pa pn pc, .bool O] 48)).alloc (.cells #[.slice none 0 0, .int .i64 0, .int .i64 0, .slice none 0 0, .slice none 0 0, .bool false] 48)).heap.size := by simp
  have HR1 := Lib.hid (HR0.out.below hacc)
  clear hs1 hp1 hl1 hl5 hs5 hp5 hll hls HR0
  go_enter Try.func28, Try.ntmps28
  go_upto_region 1 with fail
  change Code.wp _ _ _ _ ((w.alloc (.cells #[.slice la ln lc, .int .i64 M, .int .i64 W, .slice sa sn sc, .slice pa pn pc, .bool O] 48)).alloc (.cells #[.slice none 0 0, .int .i64 0, .int .i64 0, .slice none 0 0, .slice none 0 0, .bool false] 48))
  generalize ((w.alloc (.cells #[.slice la ln lc, .int .i64 M, .int .i64 W, .slice sa sn sc, .slice pa pn pc, .bool O] 48)).alloc (.cells #[.slice none 0 0, .int .i64 0, .int .i64 0, .slice none 0 0, .slice none 0 0, .bool false] 48)) = w1 at *
  obtain ⟨c0, c1, c2, c3, c4, c5⟩ := hB.six
  go_wp2_with ((go_at_call 30); refine (HRT.out _ HR1.out).mono ?_; rintro e wc ⟨rfl, hb2⟩; rw [HE.out]; have hB2 := hB.below hb2 hB.lt; obtain ⟨d0, d1, d2, d3, d4, d5⟩ := hB2.six; have hR2 := hR.below hb2 hR.lt; obtain ⟨p0, p1, p2, p3, p4, p5⟩ := hR2.six; obtain ⟨t0, t1, t2, t3, t4, t5⟩ := hR2.sixf; have hacc2 := below_then hacc (by omega) hb2; have hlt2 := hB2.lt; have hz2 := hb2.size; have HR2 := Lib.hid (HR1.out.below hb2))
  refine (HCP.out _ HR2.out).mono ?_
  rintro e w2 ⟨lv2, sv2, pv2, vs2, rfl, ho2, hol2, os2, op2, hb3⟩
  obtain ⟨ra, rn, rc, rfl⟩ := ho2.form
  obtain ⟨ta, tn, tc, rfl⟩ := os2.form
  obtain ⟨ua, un, uc, rfl⟩ := op2.form
  have hacc3 := below_then hacc2 (by omega) hb3
  have hB3 := hB2.below hb3 hB2.lt
  have hR3 := hR2.below hb3 hR2.lt
  have hz3 := hb3.size
  have ho2' := ho2.mono (base' := w.heap.size + 2) (by omega)
  have hol2' := hol2.imp (base' := w.heap.size + 2) fun _ _ k => k.mono (by omega)
  have op2' := op2.mono (base' := w.heap.size + 2) (by omega)
  have HO2 := Lib.hid ho2'; have HOL2 := Lib.hid hol2'; have HOP2 := Lib.hid op2'
  simp only [hiC]
  clear ho2 hol2 os2 op2 ho2' hol2' op2' c0 c1 c2 c3 c4 c5 d0 d1 d2 d3 d4 d5 p0 p1 p2 p3 p4 p5 t0 t1 t2 t3 t4 t5
  have hN3 := Blk.new w2 #[.slice ra rn rc, .int .i64 M, .int .i64 W, .slice ta tn tc, .slice ua un uc, .bool O] 48
  have hk3 := below1 w2 (.cells #[.slice ra rn rc, .int .i64 M, .int .i64 W, .slice ta tn tc, .slice ua un uc, .bool O] 48)
  have hz4 : (w2.alloc (.cells #[.slice ra rn rc, .int .i64 M, .int .i64 W, .slice ta tn tc, .slice ua un uc, .bool O] 48)).heap.size = w2.heap.size + 1 := by simp
  have hB4 := hB3.alloc (.cells #[.slice ra rn rc, .int .i64 M, .int .i64 W, .slice ta tn tc, .slice ua un uc, .bool O] 48)
  have hR4 := hR3.alloc (.cells #[.slice ra rn rc, .int .i64 M, .int .i64 W, .slice ta tn tc, .slice ua un uc, .bool O] 48)
  go_upto_region 7 with fail
  change Code.wp _ _ _ _ (w2.alloc (.cells #[.slice ra rn rc, .int .i64 M, .int .i64 W, .slice ta tn tc, .slice ua un uc, .bool O] 48))
  generalize (w2.alloc (.cells #[.slice ra rn rc, .int .i64 M, .int .i64 W, .slice ta tn tc, .slice ua un uc, .bool O] 48)) = w3 at *
  have hacc4 := below_then hacc3 (by omega) hk3
  obtain ⟨n0, n1, n2, n3, n4, n5⟩ := hN3.six
  obtain ⟨m0, m1, m2, m3, m4, m5⟩ := hN3.sixf
  have hvs2 := (HO2.out.kept hk3).vspAt
  have hrl : rn = ls.length := by
    have h1 := HO2.out.vs.get.1
    have h2 : vs2.length = ls.length := HOL2.out.1
    omega
  have HRL := Lib.hid hrl
  clear hvs2 hrl
  obtain ⟨p0, p1, p2, p3, p4, p5⟩ := hR4.six
  obtain ⟨t0, t1, t2, t3, t4, t5⟩ := hR4.sixf
  go_wp2
  have hR5 := (hR4.other (a := ⟨w2.heap.size, 2, none⟩) (by show w.heap.size + 1 ≠ w2.heap.size; omega) (.int .i64 (rn : Int))).other (a := ⟨w2.heap.size, 3, none⟩) (by show w.heap.size + 1 ≠ w2.heap.size; omega) (.slice none 0 0)
  obtain ⟨y0, y1, y2, y3, y4, y5⟩ := (hR5.six' (.slice ra rn rc) (.int .i64 M) (.int .i64 (rn : Int)) (.slice none 0 0) (.slice ua un uc) (.bool O)).six
  refine bodyPost_ret (v := .tuple #[.agg (hiC (.slice ra rn rc) M (rn : Int) (.slice none 0 0) (.slice ua un uc) O), .int .i64 0]) (by simp [results, Try.results28, go_sem, y0, y1, y2, y3, y4, y5, hiC]) rfl ?_
  have hxs : xs = [] := List.eq_nil_of_length_eq_zero HXN.out
  have hAH : addH ⟨ls, M, W, scr, pat, O⟩ xs = ⟨ls, M, (rn : Int), [], pat, O⟩ := by
    unfold addH addLs; rw [if_pos hxs, HRL.out]
  rw [hAH]
  have hacc5 := (hacc4.setCell (p := ⟨w2.heap.size, 2, none⟩) (by show w.heap.size ≤ w2.heap.size; omega) (.int .i64 (rn : Int))).setCell (p := ⟨w2.heap.size, 3, none⟩) (by show w.heap.size ≤ w2.heap.size; omega) (.slice none 0 0)
  have hcl := fun (q : Addr) (v : Value) (hq : w.heap.size + 2 ≤ q.block ∧ q.block < w2.heap.size) (hc : w3.cell? q = some v) =>
    cell6 (B := w.heap.size + 1) (u0 := .slice ra rn rc) (u1 := .int .i64 M) (u2 := .int .i64 (rn : Int)) (u3 := .slice none 0 0) (u4 := .slice ua un uc) (u5 := .bool O) (cell_other (cell_other hc (a := ⟨w2.heap.size, 2, none⟩) (u := .int .i64 (rn : Int)) (by show q.block ≠ w2.heap.size; omega)) (a := ⟨w2.heap.size, 3, none⟩) (u := .slice none 0 0) (by show q.block ≠ w2.heap.size; omega)) (by omega)
  exact ⟨_, _, _, rfl, ⟨⟨vs2, ((HO2.out.kept hk3).vspAt.imp (Q := fun k => w.heap.size + 2 ≤ k ∧ k < w2.heap.size) (fun k hk => World.ownsRow.lt HO2.out k hk)).keep hcl |>.imp (fun k hk => by omega), ⟨HOL2.out.1, fun i hi => (((HOL2.out.2 i hi).slpIn ((HOL2.out.2 i hi).kept hk3)).keep hcl).imp (fun k hk => by omega)⟩⟩, rfl, rfl, SlP.nil _ _, ((HOP2.out.slpIn (HOP2.out.kept hk3)).keep hcl).imp (fun k hk => by omega), rfl⟩, below6 hacc5 (Nat.le_succ _)⟩

end Go.Proofs.Ytmipnikhgihcpaa
