/- Contracts of hist.Up, Down, Jump. -/
import Derived.Test.YtmipnikhgihcpaaHist4
import Derived.Test.YtmipnikhgihcpaaHistR
namespace Go.Proofs.Ytmipnikhgihcpaa
open Go.RowKit
set_option linter.unusedVariables false
set_option linter.unusedSimpArgs false

/-- where a move goes -/
def moveW (h : Hi) (n way : Int) : Option Nat :=
  if way = -1 then (if h.wher < max 1 n then none else some (h.wher - max 1 n).toNat)
  else if way = 1 then (if (h.ls.length : Int) - h.wher < max 1 n then none else some (h.wher + max 1 n).toNat)
  else (if (h.ls.length : Int) < n ∨ h.ls.length = 0 then none else some (max 0 (n - 1)).toNat)
def MoveRes (h : Hi) (xs : List Int) (n way : Int) (h' : Hi) (l : List Int) (E : Int) : Prop :=
  (rightE h xs.length n ≠ 0 ∧ h' = hi0 ∧ l = [] ∧ E = rightE h xs.length n) ∨
  (rightE h xs.length n = 0 ∧ moveW h n way = none ∧ h' = hi0 ∧ l = [] ∧ E = 5) ∨
  (rightE h xs.length n = 0 ∧ ∃ k, moveW h n way = some k ∧ h' = toH h xs k ∧ l = toL h xs k ∧ E = 0)
theorem MoveRes.unique {h : Hi} {xs : List Int} {n way : Int} {h1 h2 : Hi} {l1 l2 : List Int} {E1 E2 : Int} (a : MoveRes h xs n way h1 l1 E1) (b : MoveRes h xs n way h2 l2 E2) : h1 = h2 ∧ l1 = l2 ∧ E1 = E2 := by
  rcases a with ⟨a1, rfl, rfl, rfl⟩ | ⟨a1, a2, rfl, rfl, rfl⟩ | ⟨a1, k, a2, rfl, rfl, rfl⟩ <;>
  rcases b with ⟨b1, rfl, rfl, rfl⟩ | ⟨b1, b2, rfl, rfl, rfl⟩ | ⟨b1, k', b2, rfl, rfl, rfl⟩ <;>
  first
    | exact ⟨rfl, rfl, rfl⟩
    | exact absurd b1 a1
    | exact absurd a1 b1
    | (rw [a2] at b2; simp at b2; done)
    | (rw [a2] at b2; simp at b2; subst b2; exact ⟨rfl, rfl, rfl⟩)
/-- what a right history and move tell -/
theorem rightE_zero {h : Hi} {nn : Nat} {n : Int} (hE : rightE h nn n = 0) : HiOk h ∧ nn ≤ 200 ∧ 0 ≤ n ∧ n ≤ 999 := by
  unfold rightE at hE
  split at hE
  · rename_i h0; exact absurd hE h0
  · rename_i h0
    split at hE
    · simp at hE
    · split at hE
      · simp at hE
      · exact ⟨hiOk_of (by simpa using h0), by omega, by omega, by omega⟩

set_option maxRecDepth 100000 in
set_option maxHeartbeats 4000000 in
theorem hist_Up_bad (lv : Value) (most wher : Int) (sv pv : Value) (older : Bool) (ls : List (List Int)) (M W : Int) (scr pat : List Int) (O : Bool) (a : Option Addr) (nn c : Nat) (n : Int) (w : World) (r : HiR w lv most wher sv pv older ⟨ls, M, W, scr, pat, O⟩) (E : Int) (hE : rightE ⟨ls, M, W, scr, pat, O⟩ nn n = E) (h0 : E ≠ 0) (P : Nat → Prop) :
    Calls Try.prog 33 #[.agg (hiC lv most wher sv pv older), .slice a nn c, .int .i64 n] w (HPost P hi0 [] E w) := by
  have HE := Lib.hid hE
  have h0' : (E != 0) = true := by simpa using h0
  have HR0 := Lib.hid r
  clear hE h0
  obtain ⟨⟨vs, hvs, hls⟩, h1, h2, hscr, hpat, h3⟩ := r
  simp only at hls h1 h2 h3 hscr hpat
  obtain rfl : M = most := h1.symm
  obtain rfl : W = wher := h2.symm
  obtain rfl : O = older := h3.symm
  obtain ⟨la, ln, lc, rfl, hl1, hl2, hl3, hl4, hl5⟩ := hvs
  obtain ⟨sa, sn, sc, rfl, hs1, hs2, hs3, hs4, hs5⟩ := hscr
  obtain ⟨pa, pn, pc, rfl, hp1, hp2, hp3, hp4, hp5⟩ := hpat
  have hll : ls.length = ln := by rw [← hls.len]; exact hl1
  have HRT := Lib.hid (fun W' r => hist_right (.slice la ln lc) M W (.slice sa sn sc) (.slice pa pn pc) O ⟨ls, M, W, scr, pat, O⟩ a nn c n W' r)
  unfold hiC at *
  have hB := (Blk.new w #[.slice la ln lc, .int .i64 M, .int .i64 W, .slice sa sn sc, .slice pa pn pc, .bool O] 48).alloc (.cells #[.slice none 0 0, .int .i64 0, .int .i64 0, .slice none 0 0, .slice none 0 0, .bool false] 48)
  have hR := Blk.new (w.alloc (.cells #[.slice la ln lc, .int .i64 M, .int .i64 W, .slice sa sn sc, .slice pa pn pc, .bool O] 48)) #[.slice none 0 0, .int .i64 0, .int .i64 0, .slice none 0 0, .slice none 0 0, .bool false] 48
  rw [World.size_alloc] at hR
  have hacc := below2 w (.cells #[.slice la ln lc, .int .i64 M, .int .i64 W, .slice sa sn sc, .slice pa pn pc, .bool O] 48) (.cells #[.slice none 0 0, .int .i64 0, .int .i64 0, .slice none 0 0, .slice none 0 0, .bool false] 48)
  have hsz : w.heap.size + 2 ≤ ((w.alloc (.cells #[.slice la ln lc, .int .i64 M, .int .i64 W, .slice sa sn sc, .slice pa pn pc, .bool O] 48)).alloc (.cells #[.slice none 0 0, .int .i64 0, .int .i64 0, .slice none 0 0, .slice none 0 0, .bool false] 48)).heap.size := by simp
  have HR1 := Lib.hid (HR0.out.below hacc)
  clear hs1 hp1 hl1 hl5 hs5 hp5 hll hls HR0
  go_enter Try.func33, Try.ntmps33
  go_upto_region 1 with fail
  change Code.wp _ _ _ _ ((w.alloc (.cells #[.slice la ln lc, .int .i64 M, .int .i64 W, .slice sa sn sc, .slice pa pn pc, .bool O] 48)).alloc (.cells #[.slice none 0 0, .int .i64 0, .int .i64 0, .slice none 0 0, .slice none 0 0, .bool false] 48))
  generalize ((w.alloc (.cells #[.slice la ln lc, .int .i64 M, .int .i64 W, .slice sa sn sc, .slice pa pn pc, .bool O] 48)).alloc (.cells #[.slice none 0 0, .int .i64 0, .int .i64 0, .slice none 0 0, .slice none 0 0, .bool false] 48)) = w1 at *
  obtain ⟨c0, c1, c2, c3, c4, c5⟩ := hB.six
  go_wp2_with ((go_at_call 102); refine (HRT.out _ HR1.out).mono ?_; rintro e w2 ⟨rfl, hb2⟩; rw [HE.out]; have hB2 := hB.below hb2 hB.lt; obtain ⟨d0, d1, d2, d3, d4, d5⟩ := hB2.six; have hR2 := hR.below hb2 hR.lt; obtain ⟨p0, p1, p2, p3, p4, p5⟩ := hR2.six; obtain ⟨t0, t1, t2, t3, t4, t5⟩ := hR2.sixf; have hacc2 := below_then hacc (by omega) hb2; have hlt2 := hB2.lt; have hz2 := hb2.size)
  obtain ⟨y0, y1, y2, y3, y4, y5⟩ := (hR2.six' (.slice none 0 0) (.int .i64 0) (.int .i64 0) (.slice none 0 0) (.slice none 0 0) (.bool false)).six
  refine bodyPost_ret (v := .tuple #[.agg (hiC (.slice none 0 0) 0 0 (.slice none 0 0) (.slice none 0 0) false), .slice none 0 0, .int .i64 (E)]) (by simp [results, Try.results33, go_sem, y0, y1, y2, y3, y4, y5, hiC]) rfl ?_
  exact ⟨_, _, _, _, rfl, hip0 _ _, SlP.nil _ _, below6 hacc2 (Nat.le_succ _)⟩

set_option maxRecDepth 100000 in
set_option maxHeartbeats 4000000 in
theorem hist_Up_fail (lv : Value) (most wher : Int) (sv pv : Value) (older : Bool) (ls : List (List Int)) (M W : Int) (scr pat : List Int) (O : Bool) (a : Option Addr) (nn c : Nat) (n : Int) (w : World) (r : HiR w lv most wher sv pv older ⟨ls, M, W, scr, pat, O⟩) (hE : rightE ⟨ls, M, W, scr, pat, O⟩ nn n = 0) (hf : W < max 1 n) (P : Nat → Prop) :
    Calls Try.prog 33 #[.agg (hiC lv most wher sv pv older), .slice a nn c, .int .i64 n] w (HPost P hi0 [] 5 w) := by
  obtain ⟨hok, hnn, hn0, hn1⟩ := rightE_zero hE
  obtain ⟨w0, wl⟩ : 0 ≤ W ∧ W ≤ ls.length := ⟨hok.wher1, hok.wher2⟩
  have l50 : ls.length ≤ 50 := by have := hok.len; have := hok.most2; simp only at *; omega
  have HE := Lib.hid hE
  have HR0 := Lib.hid r
  clear hE hok
  obtain ⟨⟨vs, hvs, hls⟩, h1, h2, hscr, hpat, h3⟩ := r
  simp only at hls h1 h2 h3 hscr hpat
  obtain rfl : M = most := h1.symm
  obtain rfl : W = wher := h2.symm
  obtain rfl : O = older := h3.symm
  obtain ⟨la, ln, lc, rfl, hl1, hl2, hl3, hl4, hl5⟩ := hvs
  obtain ⟨sa, sn, sc, rfl, hs1, hs2, hs3, hs4, hs5⟩ := hscr
  obtain ⟨pa, pn, pc, rfl, hp1, hp2, hp3, hp4, hp5⟩ := hpat
  have hll : ls.length = ln := by rw [← hls.len]; exact hl1
  have HRT := Lib.hid (fun W' r => hist_right (.slice la ln lc) M W (.slice sa sn sc) (.slice pa pn pc) O ⟨ls, M, W, scr, pat, O⟩ a nn c n W' r)
  rw [hll] at wl l50
  have hcs : (n ≤ 1 ∧ W < 1) ∨ (1 < n ∧ W < n) := by omega
  clear hf
  unfold hiC at *
  have hB := (Blk.new w #[.slice la ln lc, .int .i64 M, .int .i64 W, .slice sa sn sc, .slice pa pn pc, .bool O] 48).alloc (.cells #[.slice none 0 0, .int .i64 0, .int .i64 0, .slice none 0 0, .slice none 0 0, .bool false] 48)
  have hR := Blk.new (w.alloc (.cells #[.slice la ln lc, .int .i64 M, .int .i64 W, .slice sa sn sc, .slice pa pn pc, .bool O] 48)) #[.slice none 0 0, .int .i64 0, .int .i64 0, .slice none 0 0, .slice none 0 0, .bool false] 48
  rw [World.size_alloc] at hR
  have hacc := below2 w (.cells #[.slice la ln lc, .int .i64 M, .int .i64 W, .slice sa sn sc, .slice pa pn pc, .bool O] 48) (.cells #[.slice none 0 0, .int .i64 0, .int .i64 0, .slice none 0 0, .slice none 0 0, .bool false] 48)
  have hsz : w.heap.size + 2 ≤ ((w.alloc (.cells #[.slice la ln lc, .int .i64 M, .int .i64 W, .slice sa sn sc, .slice pa pn pc, .bool O] 48)).alloc (.cells #[.slice none 0 0, .int .i64 0, .int .i64 0, .slice none 0 0, .slice none 0 0, .bool false] 48)).heap.size := by simp
  have HR1 := Lib.hid (HR0.out.below hacc)
  clear hs1 hp1 hl1 hl5 hs5 hp5 hll hls HR0
  rcases hcs with ⟨k1, k2⟩ | ⟨k1, k2⟩
  all_goals
    go_enter Try.func33, Try.ntmps33
    go_upto_region 1 with fail
    change Code.wp _ _ _ _ ((w.alloc (.cells #[.slice la ln lc, .int .i64 M, .int .i64 W, .slice sa sn sc, .slice pa pn pc, .bool O] 48)).alloc (.cells #[.slice none 0 0, .int .i64 0, .int .i64 0, .slice none 0 0, .slice none 0 0, .bool false] 48))
    generalize ((w.alloc (.cells #[.slice la ln lc, .int .i64 M, .int .i64 W, .slice sa sn sc, .slice pa pn pc, .bool O] 48)).alloc (.cells #[.slice none 0 0, .int .i64 0, .int .i64 0, .slice none 0 0, .slice none 0 0, .bool false] 48)) = w1 at *
    obtain ⟨c0, c1, c2, c3, c4, c5⟩ := hB.six
    go_wp2_with ((go_at_call 102); refine (HRT.out _ HR1.out).mono ?_; rintro e w2 ⟨rfl, hb2⟩; rw [HE.out]; have hB2 := hB.below hb2 hB.lt; obtain ⟨d0, d1, d2, d3, d4, d5⟩ := hB2.six; have hR2 := hR.below hb2 hR.lt; obtain ⟨p0, p1, p2, p3, p4, p5⟩ := hR2.six; obtain ⟨t0, t1, t2, t3, t4, t5⟩ := hR2.sixf; have hacc2 := below_then hacc (by omega) hb2; have hlt2 := hB2.lt; have hz2 := hb2.size)
    all_goals
      obtain ⟨y0, y1, y2, y3, y4, y5⟩ := (hR2.six' (.slice none 0 0) (.int .i64 0) (.int .i64 0) (.slice none 0 0) (.slice none 0 0) (.bool false)).six
      refine bodyPost_ret (v := .tuple #[.agg (hiC (.slice none 0 0) 0 0 (.slice none 0 0) (.slice none 0 0) false), .slice none 0 0, .int .i64 (5)]) (by simp [results, Try.results33, go_sem, y0, y1, y2, y3, y4, y5, hiC]) rfl ?_
      exact ⟨_, _, _, _, rfl, hip0 _ _, SlP.nil _ _, below6 hacc2 (Nat.le_succ _)⟩

set_option maxRecDepth 100000 in
set_option maxHeartbeats 4000000 in
theorem hist_Up_ok (lv : Value) (most wher : Int) (sv pv : Value) (older : Bool) (ls : List (List Int)) (M W : Int) (scr pat : List Int) (O : Bool) (a : Option Addr) (nn c : Nat) (n : Int) (w : World) (r : HiR w lv most wher sv pv older ⟨ls, M, W, scr, pat, O⟩) (xs : List Int) (hE : rightE ⟨ls, M, W, scr, pat, O⟩ nn n = 0) (hx : Ints w a xs) (hxn : xs.length = nn) (hx0 : a = none → nn = 0) (wh : Nat) (hf : ¬ W < max 1 n) (hk : (wh : Int) = W - max 1 n) :
    Calls Try.prog 33 #[.agg (hiC lv most wher sv pv older), .slice a nn c, .int .i64 n] w (HPost (fun k => w.heap.size ≤ k) (toH ⟨ls, M, W, scr, pat, O⟩ xs wh) (toL ⟨ls, M, W, scr, pat, O⟩ xs wh) 0 w) := by
  obtain ⟨hok, hnn, hn0, hn1⟩ := rightE_zero hE
  obtain ⟨w0, wl⟩ : 0 ≤ W ∧ W ≤ ls.length := ⟨hok.wher1, hok.wher2⟩
  have l50 : ls.length ≤ 50 := by have := hok.len; have := hok.most2; simp only at *; omega
  have hwh : wh ≤ ls.length := by omega
  have HE := Lib.hid hE
  have HR0 := Lib.hid r
  have HXN := Lib.hid hxn; have HX0 := Lib.hid hx0; have HOK := Lib.hid hok
  clear hE hok hxn hx0
  obtain ⟨⟨vs, hvs, hls⟩, h1, h2, hscr, hpat, h3⟩ := r
  simp only at hls h1 h2 h3 hscr hpat
  obtain rfl : M = most := h1.symm
  obtain rfl : W = wher := h2.symm
  obtain rfl : O = older := h3.symm
  obtain ⟨la, ln, lc, rfl, hl1, hl2, hl3, hl4, hl5⟩ := hvs
  obtain ⟨sa, sn, sc, rfl, hs1, hs2, hs3, hs4, hs5⟩ := hscr
  obtain ⟨pa, pn, pc, rfl, hp1, hp2, hp3, hp4, hp5⟩ := hpat
  have hll : ls.length = ln := by rw [← hls.len]; exact hl1
  have HRT := Lib.hid (fun W' r => hist_right (.slice la ln lc) M W (.slice sa sn sc) (.slice pa pn pc) O ⟨ls, M, W, scr, pat, O⟩ a nn c n W' r)
  have HTO := Lib.hid (fun W' r hx => hist_to (.slice la ln lc) M W (.slice sa sn sc) (.slice pa pn pc) O ⟨ls, M, W, scr, pat, O⟩ a nn c wh xs W' r HOK.out hx HXN.out HX0.out hnn hwh)
  rw [hll] at wl l50
  have hcs : (n ≤ 1 ∧ 1 ≤ W ∧ W - 1 = (wh : Int)) ∨ (1 < n ∧ n ≤ W ∧ W - n = (wh : Int)) := by omega
  clear hf hk hwh
  unfold hiC at *
  have hB := (Blk.new w #[.slice la ln lc, .int .i64 M, .int .i64 W, .slice sa sn sc, .slice pa pn pc, .bool O] 48).alloc (.cells #[.slice none 0 0, .int .i64 0, .int .i64 0, .slice none 0 0, .slice none 0 0, .bool false] 48)
  have hR := Blk.new (w.alloc (.cells #[.slice la ln lc, .int .i64 M, .int .i64 W, .slice sa sn sc, .slice pa pn pc, .bool O] 48)) #[.slice none 0 0, .int .i64 0, .int .i64 0, .slice none 0 0, .slice none 0 0, .bool false] 48
  rw [World.size_alloc] at hR
  have hacc := below2 w (.cells #[.slice la ln lc, .int .i64 M, .int .i64 W, .slice sa sn sc, .slice pa pn pc, .bool O] 48) (.cells #[.slice none 0 0, .int .i64 0, .int .i64 0, .slice none 0 0, .slice none 0 0, .bool false] 48)
  have hsz : w.heap.size + 2 ≤ ((w.alloc (.cells #[.slice la ln lc, .int .i64 M, .int .i64 W, .slice sa sn sc, .slice pa pn pc, .bool O] 48)).alloc (.cells #[.slice none 0 0, .int .i64 0, .int .i64 0, .slice none 0 0, .slice none 0 0, .bool false] 48)).heap.size := by simp
  have HR1 := Lib.hid (HR0.out.below hacc)
  clear hs1 hp1 hl1 hl5 hs5 hp5 hll hls HR0
  rcases hcs with ⟨k1, k2, k3⟩ | ⟨k1, k2, k3⟩
  · skip
    go_enter Try.func33, Try.ntmps33
    go_upto_region 1 with fail
    change Code.wp _ _ _ _ ((w.alloc (.cells #[.slice la ln lc, .int .i64 M, .int .i64 W, .slice sa sn sc, .slice pa pn pc, .bool O] 48)).alloc (.cells #[.slice none 0 0, .int .i64 0, .int .i64 0, .slice none 0 0, .slice none 0 0, .bool false] 48))
    generalize ((w.alloc (.cells #[.slice la ln lc, .int .i64 M, .int .i64 W, .slice sa sn sc, .slice pa pn pc, .bool O] 48)).alloc (.cells #[.slice none 0 0, .int .i64 0, .int .i64 0, .slice none 0 0, .slice none 0 0, .bool false] 48)) = w1 at *
    obtain ⟨c0, c1, c2, c3, c4, c5⟩ := hB.six
    go_wp2_with ((go_at_call 102); refine (HRT.out _ HR1.out).mono ?_; rintro e w2 ⟨rfl, hb2⟩; rw [HE.out]; have hB2 := hB.below hb2 hB.lt; obtain ⟨d0, d1, d2, d3, d4, d5⟩ := hB2.six; have hR2 := hR.below hb2 hR.lt; obtain ⟨p0, p1, p2, p3, p4, p5⟩ := hR2.six; obtain ⟨t0, t1, t2, t3, t4, t5⟩ := hR2.sixf; have hacc2 := below_then hacc (by omega) hb2; have hlt2 := hB2.lt; have hz2 := hb2.size; have HR2 := Lib.hid (HR1.out.below hb2); have hx2 := hx.below hacc2)
    refine (HTO.out _ HR2.out hx2).mono ?_
    rintro e w3 ⟨lv3, sv3, pv3, nv3, rfl, hp3, hn3, hb3⟩
    obtain ⟨vs3, ⟨ra, rn, rc, rfl, -⟩, -⟩ := hp3.ls
    obtain ⟨ta, tn, tc, rfl⟩ := hp3.scr.form
    obtain ⟨ua, un, uc, rfl⟩ := hp3.pat.form
    have hR3 := hR2.below hb3 hR2.lt
    obtain ⟨q0, q1, q2, q3, q4, q5⟩ := hR3.six
    obtain ⟨v0, v1, v2, v3, v4, v5⟩ := hR3.sixf
    have hacc3 := below_then hacc2 (by omega) hb3
    have HP3 := Lib.hid hp3; have HN3 := Lib.hid hn3
    simp only [hiC, toH]
    clear hp3 hn3
    go_wp2
    obtain ⟨y0, y1, y2, y3, y4, y5⟩ := (hR3.six' (.slice ra rn rc) (.int .i64 M) (.int .i64 (wh : Int)) (.slice ta tn tc) (.slice ua un uc) (.bool O)).six
    refine bodyPost_ret (v := .tuple #[.agg (hiC (.slice ra rn rc) M (wh : Int) (.slice ta tn tc) (.slice ua un uc) O), nv3, .int .i64 0]) (by simp [results, Try.results33, go_sem, y0, y1, y2, y3, y4, y5, hiC]) rfl ?_
    exact ⟨_, _, _, _, rfl, (HP3.out.six (by omega)).imp (fun k hk => by omega), (HN3.out.six (by omega)).imp (fun k hk => by omega), below6 hacc3 (by omega)⟩
  · skip
    go_enter Try.func33, Try.ntmps33
    go_upto_region 1 with fail
    change Code.wp _ _ _ _ ((w.alloc (.cells #[.slice la ln lc, .int .i64 M, .int .i64 W, .slice sa sn sc, .slice pa pn pc, .bool O] 48)).alloc (.cells #[.slice none 0 0, .int .i64 0, .int .i64 0, .slice none 0 0, .slice none 0 0, .bool false] 48))
    generalize ((w.alloc (.cells #[.slice la ln lc, .int .i64 M, .int .i64 W, .slice sa sn sc, .slice pa pn pc, .bool O] 48)).alloc (.cells #[.slice none 0 0, .int .i64 0, .int .i64 0, .slice none 0 0, .slice none 0 0, .bool false] 48)) = w1 at *
    obtain ⟨c0, c1, c2, c3, c4, c5⟩ := hB.six
    go_wp2_with ((go_at_call 102); refine (HRT.out _ HR1.out).mono ?_; rintro e w2 ⟨rfl, hb2⟩; rw [HE.out]; have hB2 := hB.below hb2 hB.lt; obtain ⟨d0, d1, d2, d3, d4, d5⟩ := hB2.six; have hR2 := hR.below hb2 hR.lt; obtain ⟨p0, p1, p2, p3, p4, p5⟩ := hR2.six; obtain ⟨t0, t1, t2, t3, t4, t5⟩ := hR2.sixf; have hacc2 := below_then hacc (by omega) hb2; have hlt2 := hB2.lt; have hz2 := hb2.size; have HR2 := Lib.hid (HR1.out.below hb2); have hx2 := hx.below hacc2)
    refine (HTO.out _ HR2.out hx2).mono ?_
    rintro e w3 ⟨lv3, sv3, pv3, nv3, rfl, hp3, hn3, hb3⟩
    obtain ⟨vs3, ⟨ra, rn, rc, rfl, -⟩, -⟩ := hp3.ls
    obtain ⟨ta, tn, tc, rfl⟩ := hp3.scr.form
    obtain ⟨ua, un, uc, rfl⟩ := hp3.pat.form
    have hR3 := hR2.below hb3 hR2.lt
    obtain ⟨q0, q1, q2, q3, q4, q5⟩ := hR3.six
    obtain ⟨v0, v1, v2, v3, v4, v5⟩ := hR3.sixf
    have hacc3 := below_then hacc2 (by omega) hb3
    have HP3 := Lib.hid hp3; have HN3 := Lib.hid hn3
    simp only [hiC, toH]
    clear hp3 hn3
    go_wp2
    obtain ⟨y0, y1, y2, y3, y4, y5⟩ := (hR3.six' (.slice ra rn rc) (.int .i64 M) (.int .i64 (wh : Int)) (.slice ta tn tc) (.slice ua un uc) (.bool O)).six
    refine bodyPost_ret (v := .tuple #[.agg (hiC (.slice ra rn rc) M (wh : Int) (.slice ta tn tc) (.slice ua un uc) O), nv3, .int .i64 0]) (by simp [results, Try.results33, go_sem, y0, y1, y2, y3, y4, y5, hiC]) rfl ?_
    exact ⟨_, _, _, _, rfl, (HP3.out.six (by omega)).imp (fun k hk => by omega), (HN3.out.six (by omega)).imp (fun k hk => by omega), below6 hacc3 (by omega)⟩

theorem hist_Up (lv : Value) (most wher : Int) (sv pv : Value) (older : Bool) (h : Hi) (a : Option Addr) (nn c : Nat) (n : Int) (xs : List Int) (w : World) (r : HiR w lv most wher sv pv older h) (hx : Ints w a xs) (hxn : xs.length = nn) (hx0 : a = none → nn = 0) :
    Calls Try.prog 33 #[.agg (hiC lv most wher sv pv older), .slice a nn c, .int .i64 n] w (ResPost (MoveRes h xs n (-1)) (fun k => w.heap.size ≤ k) w) := by
  obtain ⟨ls, M, W, scr, pat, O⟩ := h
  by_cases hE : rightE ⟨ls, M, W, scr, pat, O⟩ nn n = 0
  · by_cases hf : W < max 1 n
    · exact (hist_Up_fail lv most wher sv pv older ls M W scr pat O a nn c n w r hE hf _).mono fun e w' h => ⟨hi0, [], 5, .inr (.inl ⟨by rw [hxn]; exact hE, by rw [moveW, if_pos rfl, if_pos hf], rfl, rfl, rfl⟩), h⟩
    · obtain ⟨wh, hwh⟩ : ∃ wh : Nat, moveW ⟨ls, M, W, scr, pat, O⟩ n (-1) = some wh ∧ (wh : Int) = W - max 1 n := by
        obtain ⟨hok, hnn, hn0, hn1⟩ := rightE_zero hE
        have w0 : 0 ≤ W := hok.wher1
        rw [moveW, if_pos rfl, if_neg hf]
        exact ⟨_, rfl, by first | omega | (simp only; omega)⟩
      exact (hist_Up_ok lv most wher sv pv older ls M W scr pat O a nn c n w r xs hE hx hxn hx0 wh hf hwh.2).mono fun e w' h => ⟨_, _, 0, .inr (.inr ⟨by rw [hxn]; exact hE, wh, hwh.1, rfl, rfl, rfl⟩), h⟩
  · exact (hist_Up_bad lv most wher sv pv older ls M W scr pat O a nn c n w r _ rfl hE _).mono fun e w' h => ⟨hi0, [], _, .inl ⟨by rw [hxn]; exact hE, rfl, rfl, by rw [hxn]⟩, h⟩

set_option maxRecDepth 100000 in
set_option maxHeartbeats 4000000 in
theorem hist_Down_bad (lv : Value) (most wher : Int) (sv pv : Value) (older : Bool) (ls : List (List Int)) (M W : Int) (scr pat : List Int) (O : Bool) (a : Option Addr) (nn c : Nat) (n : Int) (w : World) (r : HiR w lv most wher sv pv older ⟨ls, M, W, scr, pat, O⟩) (E : Int) (hE : rightE ⟨ls, M, W, scr, pat, O⟩ nn n = E) (h0 : E ≠ 0) (P : Nat → Prop) :
    Calls Try.prog 34 #[.agg (hiC lv most wher sv pv older), .slice a nn c, .int .i64 n] w (HPost P hi0 [] E w) := by
  have HE := Lib.hid hE
  have h0' : (E != 0) = true := by simpa using h0
  have HR0 := Lib.hid r
  clear hE h0
  obtain ⟨⟨vs, hvs, hls⟩, h1, h2, hscr, hpat, h3⟩ := r
  simp only at hls h1 h2 h3 hscr hpat
  obtain rfl : M = most := h1.symm
  obtain rfl : W = wher := h2.symm
  obtain rfl : O = older := h3.symm
  obtain ⟨la, ln, lc, rfl, hl1, hl2, hl3, hl4, hl5⟩ := hvs
  obtain ⟨sa, sn, sc, rfl, hs1, hs2, hs3, hs4, hs5⟩ := hscr
  obtain ⟨pa, pn, pc, rfl, hp1, hp2, hp3, hp4, hp5⟩ := hpat
  have hll : ls.length = ln := by rw [← hls.len]; exact hl1
  have HRT := Lib.hid (fun W' r => hist_right (.slice la ln lc) M W (.slice sa sn sc) (.slice pa pn pc) O ⟨ls, M, W, scr, pat, O⟩ a nn c n W' r)
  unfold hiC at *
  have hB := (Blk.new w #[.slice la ln lc, .int .i64 M, .int .i64 W, .slice sa sn sc, .slice pa pn pc, .bool O] 48).alloc (.cells #[.slice none 0 0, .int .i64 0, .int .i64 0, .slice none 0 0, .slice none 0 0, .bool false] 48)
  have hR := Blk.new (w.alloc (.cells #[.slice la ln lc, .int .i64 M, .int .i64 W, .slice sa sn sc, .slice pa pn pc, .bool O] 48)) #[.slice none 0 0, .int .i64 0, .int .i64 0, .slice none 0 0, .slice none 0 0, .bool false] 48
  rw [World.size_alloc] at hR
  have hacc := below2 w (.cells #[.slice la ln lc, .int .i64 M, .int .i64 W, .slice sa sn sc, .slice pa pn pc, .bool O] 48) (.cells #[.slice none 0 0, .int .i64 0, .int .i64 0, .slice none 0 0, .slice none 0 0, .bool false] 48)
  have hsz : w.heap.size + 2 ≤ ((w.alloc (.cells #[.slice la ln lc, .int .i64 M, .int .i64 W, .slice sa sn sc, .slice pa pn pc, .bool O] 48)).alloc (.cells #[.slice none 0 0, .int .i64 0, .int .i64 0, .slice none 0 0, .slice none 0 0, .bool false] 48)).heap.size := by simp
  have HR1 := Lib.hid (HR0.out.below hacc)
  clear hs1 hp1 hl1 hl5 hs5 hp5 hll hls HR0
  go_enter Try.func34, Try.ntmps34
  go_upto_region 1 with fail
  change Code.wp _ _ _ _ ((w.alloc (.cells #[.slice la ln lc, .int .i64 M, .int .i64 W, .slice sa sn sc, .slice pa pn pc, .bool O] 48)).alloc (.cells #[.slice none 0 0, .int .i64 0, .int .i64 0, .slice none 0 0, .slice none 0 0, .bool false] 48))
  generalize ((w.alloc (.cells #[.slice la ln lc, .int .i64 M, .int .i64 W, .slice sa sn sc, .slice pa pn pc, .bool O] 48)).alloc (.cells #[.slice none 0 0, .int .i64 0, .int .i64 0, .slice none 0 0, .slice none 0 0, .bool false] 48)) = w1 at *
  obtain ⟨c0, c1, c2, c3, c4, c5⟩ := hB.six
  go_wp2_with ((go_at_call 102); refine (HRT.out _ HR1.out).mono ?_; rintro e w2 ⟨rfl, hb2⟩; rw [HE.out]; have hB2 := hB.below hb2 hB.lt; obtain ⟨d0, d1, d2, d3, d4, d5⟩ := hB2.six; have hR2 := hR.below hb2 hR.lt; obtain ⟨p0, p1, p2, p3, p4, p5⟩ := hR2.six; obtain ⟨t0, t1, t2, t3, t4, t5⟩ := hR2.sixf; have hacc2 := below_then hacc (by omega) hb2; have hlt2 := hB2.lt; have hz2 := hb2.size)
  obtain ⟨y0, y1, y2, y3, y4, y5⟩ := (hR2.six' (.slice none 0 0) (.int .i64 0) (.int .i64 0) (.slice none 0 0) (.slice none 0 0) (.bool false)).six
  refine bodyPost_ret (v := .tuple #[.agg (hiC (.slice none 0 0) 0 0 (.slice none 0 0) (.slice none 0 0) false), .slice none 0 0, .int .i64 (E)]) (by simp [results, Try.results34, go_sem, y0, y1, y2, y3, y4, y5, hiC]) rfl ?_
  exact ⟨_, _, _, _, rfl, hip0 _ _, SlP.nil _ _, below6 hacc2 (Nat.le_succ _)⟩

set_option maxRecDepth 100000 in
set_option maxHeartbeats 4000000 in
theorem hist_Down_fail (lv : Value) (most wher : Int) (sv pv : Value) (older : Bool) (ls : List (List Int)) (M W : Int) (scr pat : List Int) (O : Bool) (a : Option Addr) (nn c : Nat) (n : Int) (w : World) (r : HiR w lv most wher sv pv older ⟨ls, M, W, scr, pat, O⟩) (hE : rightE ⟨ls, M, W, scr, pat, O⟩ nn n = 0) (hf : (ls.length : Int) - W < max 1 n) (P : Nat → Prop) :
    Calls Try.prog 34 #[.agg (hiC lv most wher sv pv older), .slice a nn c, .int .i64 n] w (HPost P hi0 [] 5 w) := by
  obtain ⟨hok, hnn, hn0, hn1⟩ := rightE_zero hE
  obtain ⟨w0, wl⟩ : 0 ≤ W ∧ W ≤ ls.length := ⟨hok.wher1, hok.wher2⟩
  have l50 : ls.length ≤ 50 := by have := hok.len; have := hok.most2; simp only at *; omega
  have HE := Lib.hid hE
  have HR0 := Lib.hid r
  clear hE hok
  obtain ⟨⟨vs, hvs, hls⟩, h1, h2, hscr, hpat, h3⟩ := r
  simp only at hls h1 h2 h3 hscr hpat
  obtain rfl : M = most := h1.symm
  obtain rfl : W = wher := h2.symm
  obtain rfl : O = older := h3.symm
  obtain ⟨la, ln, lc, rfl, hl1, hl2, hl3, hl4, hl5⟩ := hvs
  obtain ⟨sa, sn, sc, rfl, hs1, hs2, hs3, hs4, hs5⟩ := hscr
  obtain ⟨pa, pn, pc, rfl, hp1, hp2, hp3, hp4, hp5⟩ := hpat
  have hll : ls.length = ln := by rw [← hls.len]; exact hl1
  have HRT := Lib.hid (fun W' r => hist_right (.slice la ln lc) M W (.slice sa sn sc) (.slice pa pn pc) O ⟨ls, M, W, scr, pat, O⟩ a nn c n W' r)
  rw [hll] at wl l50 hf
  have hcs : (n ≤ 1 ∧ (ln : Int) - W < 1) ∨ (1 < n ∧ (ln : Int) - W < n) := by omega
  clear hf
  unfold hiC at *
  have hB := (Blk.new w #[.slice la ln lc, .int .i64 M, .int .i64 W, .slice sa sn sc, .slice pa pn pc, .bool O] 48).alloc (.cells #[.slice none 0 0, .int .i64 0, .int .i64 0, .slice none 0 0, .slice none 0 0, .bool false] 48)
  have hR := Blk.new (w.alloc (.cells #[.slice la ln lc, .int .i64 M, .int .i64 W, .slice sa sn sc, .slice pa pn pc, .bool O] 48)) #[.slice none 0 0, .int .i64 0, .int .i64 0, .slice none 0 0, .slice none 0 0, .bool false] 48
  rw [World.size_alloc] at hR
  have hacc := below2 w (.cells #[.slice la ln lc, .int .i64 M, .int .i64 W, .slice sa sn sc, .slice pa pn pc, .bool O] 48) (.cells #[.slice none 0 0, .int .i64 0, .int .i64 0, .slice none 0 0, .slice none 0 0, .bool false] 48)
  have hsz : w.heap.size + 2 ≤ ((w.alloc (.cells #[.slice la ln lc, .int .i64 M, .int .i64 W, .slice sa sn sc, .slice pa pn pc, .bool O] 48)).alloc (.cells #[.slice none 0 0, .int .i64 0, .int .i64 0, .slice none 0 0, .slice none 0 0, .bool false] 48)).heap.size := by simp
  have HR1 := Lib.hid (HR0.out.below hacc)
  clear hs1 hp1 hl1 hl5 hs5 hp5 hll hls HR0
  rcases hcs with ⟨k1, k2⟩ | ⟨k1, k2⟩
  all_goals
    go_enter Try.func34, Try.ntmps34
    go_upto_region 1 with fail
    change Code.wp _ _ _ _ ((w.alloc (.cells #[.slice la ln lc, .int .i64 M, .int .i64 W, .slice sa sn sc, .slice pa pn pc, .bool O] 48)).alloc (.cells #[.slice none 0 0, .int .i64 0, .int .i64 0, .slice none 0 0, .slice none 0 0, .bool false] 48))
    generalize ((w.alloc (.cells #[.slice la ln lc, .int .i64 M, .int .i64 W, .slice sa sn sc, .slice pa pn pc, .bool O] 48)).alloc (.cells #[.slice none 0 0, .int .i64 0, .int .i64 0, .slice none 0 0, .slice none 0 0, .bool false] 48)) = w1 at *
    obtain ⟨c0, c1, c2, c3, c4, c5⟩ := hB.six
    go_wp2_with ((go_at_call 102); refine (HRT.out _ HR1.out).mono ?_; rintro e w2 ⟨rfl, hb2⟩; rw [HE.out]; have hB2 := hB.below hb2 hB.lt; obtain ⟨d0, d1, d2, d3, d4, d5⟩ := hB2.six; have hR2 := hR.below hb2 hR.lt; obtain ⟨p0, p1, p2, p3, p4, p5⟩ := hR2.six; obtain ⟨t0, t1, t2, t3, t4, t5⟩ := hR2.sixf; have hacc2 := below_then hacc (by omega) hb2; have hlt2 := hB2.lt; have hz2 := hb2.size)
    all_goals
      obtain ⟨y0, y1, y2, y3, y4, y5⟩ := (hR2.six' (.slice none 0 0) (.int .i64 0) (.int .i64 0) (.slice none 0 0) (.slice none 0 0) (.bool false)).six
      refine bodyPost_ret (v := .tuple #[.agg (hiC (.slice none 0 0) 0 0 (.slice none 0 0) (.slice none 0 0) false), .slice none 0 0, .int .i64 (5)]) (by simp [results, Try.results34, go_sem, y0, y1, y2, y3, y4, y5, hiC]) rfl ?_
      exact ⟨_, _, _, _, rfl, hip0 _ _, SlP.nil _ _, below6 hacc2 (Nat.le_succ _)⟩

set_option maxRecDepth 100000 in
set_option maxHeartbeats 4000000 in
theorem hist_Down_ok (lv : Value) (most wher : Int) (sv pv : Value) (older : Bool) (ls : List (List Int)) (M W : Int) (scr pat : List Int) (O : Bool) (a : Option Addr) (nn c : Nat) (n : Int) (w : World) (r : HiR w lv most wher sv pv older ⟨ls, M, W, scr, pat, O⟩) (xs : List Int) (hE : rightE ⟨ls, M, W, scr, pat, O⟩ nn n = 0) (hx : Ints w a xs) (hxn : xs.length = nn) (hx0 : a = none → nn = 0) (wh : Nat) (hf : ¬ (ls.length : Int) - W < max 1 n) (hk : (wh : Int) = W + max 1 n) :
    Calls Try.prog 34 #[.agg (hiC lv most wher sv pv older), .slice a nn c, .int .i64 n] w (HPost (fun k => w.heap.size ≤ k) (toH ⟨ls, M, W, scr, pat, O⟩ xs wh) (toL ⟨ls, M, W, scr, pat, O⟩ xs wh) 0 w) := by
  obtain ⟨hok, hnn, hn0, hn1⟩ := rightE_zero hE
  obtain ⟨w0, wl⟩ : 0 ≤ W ∧ W ≤ ls.length := ⟨hok.wher1, hok.wher2⟩
  have l50 : ls.length ≤ 50 := by have := hok.len; have := hok.most2; simp only at *; omega
  have hwh : wh ≤ ls.length := by omega
  have HE := Lib.hid hE
  have HR0 := Lib.hid r
  have HXN := Lib.hid hxn; have HX0 := Lib.hid hx0; have HOK := Lib.hid hok
  clear hE hok hxn hx0
  obtain ⟨⟨vs, hvs, hls⟩, h1, h2, hscr, hpat, h3⟩ := r
  simp only at hls h1 h2 h3 hscr hpat
  obtain rfl : M = most := h1.symm
  obtain rfl : W = wher := h2.symm
  obtain rfl : O = older := h3.symm
  obtain ⟨la, ln, lc, rfl, hl1, hl2, hl3, hl4, hl5⟩ := hvs
  obtain ⟨sa, sn, sc, rfl, hs1, hs2, hs3, hs4, hs5⟩ := hscr
  obtain ⟨pa, pn, pc, rfl, hp1, hp2, hp3, hp4, hp5⟩ := hpat
  have hll : ls.length = ln := by rw [← hls.len]; exact hl1
  have HRT := Lib.hid (fun W' r => hist_right (.slice la ln lc) M W (.slice sa sn sc) (.slice pa pn pc) O ⟨ls, M, W, scr, pat, O⟩ a nn c n W' r)
  have HTO := Lib.hid (fun W' r hx => hist_to (.slice la ln lc) M W (.slice sa sn sc) (.slice pa pn pc) O ⟨ls, M, W, scr, pat, O⟩ a nn c wh xs W' r HOK.out hx HXN.out HX0.out hnn hwh)
  rw [hll] at wl l50 hf
  have hcs : (n ≤ 1 ∧ 1 ≤ (ln : Int) - W ∧ W + 1 = (wh : Int)) ∨ (1 < n ∧ n ≤ (ln : Int) - W ∧ W + n = (wh : Int)) := by omega
  clear hf hk hwh
  unfold hiC at *
  have hB := (Blk.new w #[.slice la ln lc, .int .i64 M, .int .i64 W, .slice sa sn sc, .slice pa pn pc, .bool O] 48).alloc (.cells #[.slice none 0 0, .int .i64 0, .int .i64 0, .slice none 0 0, .slice none 0 0, .bool false] 48)
  have hR := Blk.new (w.alloc (.cells #[.slice la ln lc, .int .i64 M, .int .i64 W, .slice sa sn sc, .slice pa pn pc, .bool O] 48)) #[.slice none 0 0, .int .i64 0, .int .i64 0, .slice none 0 0, .slice none 0 0, .bool false] 48
  rw [World.size_alloc] at hR
  have hacc := below2 w (.cells #[.slice la ln lc, .int .i64 M, .int .i64 W, .slice sa sn sc, .slice pa pn pc, .bool O] 48) (.cells #[.slice none 0 0, .int .i64 0, .int .i64 0, .slice none 0 0, .slice none 0 0, .bool false] 48)
  have hsz : w.heap.size + 2 ≤ ((w.alloc (.cells #[.slice la ln lc, .int .i64 M, .int .i64 W, .slice sa sn sc, .slice pa pn pc, .bool O] 48)).alloc (.cells #[.slice none 0 0, .int .i64 0, .int .i64 0, .slice none 0 0, .slice none 0 0, .bool false] 48)).heap.size := by simp
  have HR1 := Lib.hid (HR0.out.below hacc)
  clear hs1 hp1 hl1 hl5 hs5 hp5 hll hls HR0
  rcases hcs with ⟨k1, k2, k3⟩ | ⟨k1, k2, k3⟩
  · skip
    go_enter Try.func34, Try.ntmps34
    go_upto_region 1 with fail
    change Code.wp _ _ _ _ ((w.alloc (.cells #[.slice la ln lc, .int .i64 M, .int .i64 W, .slice sa sn sc, .slice pa pn pc, .bool O] 48)).alloc (.cells #[.slice none 0 0, .int .i64 0, .int .i64 0, .slice none 0 0, .slice none 0 0, .bool false] 48))
    generalize ((w.alloc (.cells #[.slice la ln lc, .int .i64 M, .int .i64 W, .slice sa sn sc, .slice pa pn pc, .bool O] 48)).alloc (.cells #[.slice none 0 0, .int .i64 0, .int .i64 0, .slice none 0 0, .slice none 0 0, .bool false] 48)) = w1 at *
    obtain ⟨c0, c1, c2, c3, c4, c5⟩ := hB.six
    go_wp2_with ((go_at_call 102); refine (HRT.out _ HR1.out).mono ?_; rintro e w2 ⟨rfl, hb2⟩; rw [HE.out]; have hB2 := hB.below hb2 hB.lt; obtain ⟨d0, d1, d2, d3, d4, d5⟩ := hB2.six; have hR2 := hR.below hb2 hR.lt; obtain ⟨p0, p1, p2, p3, p4, p5⟩ := hR2.six; obtain ⟨t0, t1, t2, t3, t4, t5⟩ := hR2.sixf; have hacc2 := below_then hacc (by omega) hb2; have hlt2 := hB2.lt; have hz2 := hb2.size; have HR2 := Lib.hid (HR1.out.below hb2); have hx2 := hx.below hacc2)
    refine (HTO.out _ HR2.out hx2).mono ?_
    rintro e w3 ⟨lv3, sv3, pv3, nv3, rfl, hp3, hn3, hb3⟩
    obtain ⟨vs3, ⟨ra, rn, rc, rfl, -⟩, -⟩ := hp3.ls
    obtain ⟨ta, tn, tc, rfl⟩ := hp3.scr.form
    obtain ⟨ua, un, uc, rfl⟩ := hp3.pat.form
    have hR3 := hR2.below hb3 hR2.lt
    obtain ⟨q0, q1, q2, q3, q4, q5⟩ := hR3.six
    obtain ⟨v0, v1, v2, v3, v4, v5⟩ := hR3.sixf
    have hacc3 := below_then hacc2 (by omega) hb3
    have HP3 := Lib.hid hp3; have HN3 := Lib.hid hn3
    simp only [hiC, toH]
    clear hp3 hn3
    go_wp2
    obtain ⟨y0, y1, y2, y3, y4, y5⟩ := (hR3.six' (.slice ra rn rc) (.int .i64 M) (.int .i64 (wh : Int)) (.slice ta tn tc) (.slice ua un uc) (.bool O)).six
    refine bodyPost_ret (v := .tuple #[.agg (hiC (.slice ra rn rc) M (wh : Int) (.slice ta tn tc) (.slice ua un uc) O), nv3, .int .i64 0]) (by simp [results, Try.results34, go_sem, y0, y1, y2, y3, y4, y5, hiC]) rfl ?_
    exact ⟨_, _, _, _, rfl, (HP3.out.six (by omega)).imp (fun k hk => by omega), (HN3.out.six (by omega)).imp (fun k hk => by omega), below6 hacc3 (by omega)⟩
  · skip
    go_enter Try.func34, Try.ntmps34
    go_upto_region 1 with fail
    change Code.wp _ _ _ _ ((w.alloc (.cells #[.slice la ln lc, .int .i64 M, .int .i64 W, .slice sa sn sc, .slice pa pn pc, .bool O] 48)).alloc (.cells #[.slice none 0 0, .int .i64 0, .int .i64 0, .slice none 0 0, .slice none 0 0, .bool false] 48))
    generalize ((w.alloc (.cells #[.slice la ln lc, .int .i64 M, .int .i64 W, .slice sa sn sc, .slice pa pn pc, .bool O] 48)).alloc (.cells #[.slice none 0 0, .int .i64 0, .int .i64 0, .slice none 0 0, .slice none 0 0, .bool false] 48)) = w1 at *
    obtain ⟨c0, c1, c2, c3, c4, c5⟩ := hB.six
    go_wp2_with ((go_at_call 102); refine (HRT.out _ HR1.out).mono ?_; rintro e w2 ⟨rfl, hb2⟩; rw [HE.out]; have hB2 := hB.below hb2 hB.lt; obtain ⟨d0, d1, d2, d3, d4, d5⟩ := hB2.six; have hR2 := hR.below hb2 hR.lt; obtain ⟨p0, p1, p2, p3, p4, p5⟩ := hR2.six; obtain ⟨t0, t1, t2, t3, t4, t5⟩ := hR2.sixf; have hacc2 := below_then hacc (by omega) hb2; have hlt2 := hB2.lt; have hz2 := hb2.size; have HR2 := Lib.hid (HR1.out.below hb2); have hx2 := hx.below hacc2)
    refine (HTO.out _ HR2.out hx2).mono ?_
    rintro e w3 ⟨lv3, sv3, pv3, nv3, rfl, hp3, hn3, hb3⟩
    obtain ⟨vs3, ⟨ra, rn, rc, rfl, -⟩, -⟩ := hp3.ls
    obtain ⟨ta, tn, tc, rfl⟩ := hp3.scr.form
    obtain ⟨ua, un, uc, rfl⟩ := hp3.pat.form
    have hR3 := hR2.below hb3 hR2.lt
    obtain ⟨q0, q1, q2, q3, q4, q5⟩ := hR3.six
    obtain ⟨v0, v1, v2, v3, v4, v5⟩ := hR3.sixf
    have hacc3 := below_then hacc2 (by omega) hb3
    have HP3 := Lib.hid hp3; have HN3 := Lib.hid hn3
    simp only [hiC, toH]
    clear hp3 hn3
    go_wp2
    obtain ⟨y0, y1, y2, y3, y4, y5⟩ := (hR3.six' (.slice ra rn rc) (.int .i64 M) (.int .i64 (wh : Int)) (.slice ta tn tc) (.slice ua un uc) (.bool O)).six
    refine bodyPost_ret (v := .tuple #[.agg (hiC (.slice ra rn rc) M (wh : Int) (.slice ta tn tc) (.slice ua un uc) O), nv3, .int .i64 0]) (by simp [results, Try.results34, go_sem, y0, y1, y2, y3, y4, y5, hiC]) rfl ?_
    exact ⟨_, _, _, _, rfl, (HP3.out.six (by omega)).imp (fun k hk => by omega), (HN3.out.six (by omega)).imp (fun k hk => by omega), below6 hacc3 (by omega)⟩

theorem hist_Down (lv : Value) (most wher : Int) (sv pv : Value) (older : Bool) (h : Hi) (a : Option Addr) (nn c : Nat) (n : Int) (xs : List Int) (w : World) (r : HiR w lv most wher sv pv older h) (hx : Ints w a xs) (hxn : xs.length = nn) (hx0 : a = none → nn = 0) :
    Calls Try.prog 34 #[.agg (hiC lv most wher sv pv older), .slice a nn c, .int .i64 n] w (ResPost (MoveRes h xs n 1) (fun k => w.heap.size ≤ k) w) := by
  obtain ⟨ls, M, W, scr, pat, O⟩ := h
  by_cases hE : rightE ⟨ls, M, W, scr, pat, O⟩ nn n = 0
  · by_cases hf : (ls.length : Int) - W < max 1 n
    · exact (hist_Down_fail lv most wher sv pv older ls M W scr pat O a nn c n w r hE hf _).mono fun e w' h => ⟨hi0, [], 5, .inr (.inl ⟨by rw [hxn]; exact hE, by rw [moveW, if_neg (by decide), if_pos rfl, if_pos hf], rfl, rfl, rfl⟩), h⟩
    · obtain ⟨wh, hwh⟩ : ∃ wh : Nat, moveW ⟨ls, M, W, scr, pat, O⟩ n 1 = some wh ∧ (wh : Int) = W + max 1 n := by
        obtain ⟨hok, hnn, hn0, hn1⟩ := rightE_zero hE
        have w0 : 0 ≤ W := hok.wher1
        rw [moveW, if_neg (by decide), if_pos rfl, if_neg hf]
        exact ⟨_, rfl, by first | omega | (simp only; omega)⟩
      exact (hist_Down_ok lv most wher sv pv older ls M W scr pat O a nn c n w r xs hE hx hxn hx0 wh hf hwh.2).mono fun e w' h => ⟨_, _, 0, .inr (.inr ⟨by rw [hxn]; exact hE, wh, hwh.1, rfl, rfl, rfl⟩), h⟩
  · exact (hist_Down_bad lv most wher sv pv older ls M W scr pat O a nn c n w r _ rfl hE _).mono fun e w' h => ⟨hi0, [], _, .inl ⟨by rw [hxn]; exact hE, rfl, rfl, by rw [hxn]⟩, h⟩

set_option maxRecDepth 100000 in
set_option maxHeartbeats 4000000 in
theorem hist_Jump_bad (lv : Value) (most wher : Int) (sv pv : Value) (older : Bool) (ls : List (List Int)) (M W : Int) (scr pat : List Int) (O : Bool) (a : Option Addr) (nn c : Nat) (n : Int) (w : World) (r : HiR w lv most wher sv pv older ⟨ls, M, W, scr, pat, O⟩) (E : Int) (hE : rightE ⟨ls, M, W, scr, pat, O⟩ nn n = E) (h0 : E ≠ 0) (P : Nat → Prop) :
    Calls Try.prog 35 #[.agg (hiC lv most wher sv pv older), .slice a nn c, .int .i64 n] w (HPost P hi0 [] E w) := by
  have HE := Lib.hid hE
  have h0' : (E != 0) = true := by simpa using h0
  have HR0 := Lib.hid r
  clear hE h0
  obtain ⟨⟨vs, hvs, hls⟩, h1, h2, hscr, hpat, h3⟩ := r
  simp only at hls h1 h2 h3 hscr hpat
  obtain rfl : M = most := h1.symm
  obtain rfl : W = wher := h2.symm
  obtain rfl : O = older := h3.symm
  obtain ⟨la, ln, lc, rfl, hl1, hl2, hl3, hl4, hl5⟩ := hvs
  obtain ⟨sa, sn, sc, rfl, hs1, hs2, hs3, hs4, hs5⟩ := hscr
  obtain ⟨pa, pn, pc, rfl, hp1, hp2, hp3, hp4, hp5⟩ := hpat
  have hll : ls.length = ln := by rw [← hls.len]; exact hl1
  have HRT := Lib.hid (fun W' r => hist_right (.slice la ln lc) M W (.slice sa sn sc) (.slice pa pn pc) O ⟨ls, M, W, scr, pat, O⟩ a nn c n W' r)
  unfold hiC at *
  have hB := (Blk.new w #[.slice la ln lc, .int .i64 M, .int .i64 W, .slice sa sn sc, .slice pa pn pc, .bool O] 48).alloc (.cells #[.slice none 0 0, .int .i64 0, .int .i64 0, .slice none 0 0, .slice none 0 0, .bool false] 48)
  have hR := Blk.new (w.alloc (.cells #[.slice la ln lc, .int .i64 M, .int .i64 W, .slice sa sn sc, .slice pa pn pc, .bool O] 48)) #[.slice none 0 0, .int .i64 0, .int .i64 0, .slice none 0 0, .slice none 0 0, .bool false] 48
  rw [World.size_alloc] at hR
  have hacc := below2 w (.cells #[.slice la ln lc, .int .i64 M, .int .i64 W, .slice sa sn sc, .slice pa pn pc, .bool O] 48) (.cells #[.slice none 0 0, .int .i64 0, .int .i64 0, .slice none 0 0, .slice none 0 0, .bool false] 48)
  have hsz : w.heap.size + 2 ≤ ((w.alloc (.cells #[.slice la ln lc, .int .i64 M, .int .i64 W, .slice sa sn sc, .slice pa pn pc, .bool O] 48)).alloc (.cells #[.slice none 0 0, .int .i64 0, .int .i64 0, .slice none 0 0, .slice none 0 0, .bool false] 48)).heap.size := by simp
  have HR1 := Lib.hid (HR0.out.below hacc)
  clear hs1 hp1 hl1 hl5 hs5 hp5 hll hls HR0
  go_enter Try.func35, Try.ntmps35
  go_upto_region 1 with fail
  change Code.wp _ _ _ _ ((w.alloc (.cells #[.slice la ln lc, .int .i64 M, .int .i64 W, .slice sa sn sc, .slice pa pn pc, .bool O] 48)).alloc (.cells #[.slice none 0 0, .int .i64 0, .int .i64 0, .slice none 0 0, .slice none 0 0, .bool false] 48))
  generalize ((w.alloc (.cells #[.slice la ln lc, .int .i64 M, .int .i64 W, .slice sa sn sc, .slice pa pn pc, .bool O] 48)).alloc (.cells #[.slice none 0 0, .int .i64 0, .int .i64 0, .slice none 0 0, .slice none 0 0, .bool false] 48)) = w1 at *
  obtain ⟨c0, c1, c2, c3, c4, c5⟩ := hB.six
  go_wp2_with ((go_at_call 102); refine (HRT.out _ HR1.out).mono ?_; rintro e w2 ⟨rfl, hb2⟩; rw [HE.out]; have hB2 := hB.below hb2 hB.lt; obtain ⟨d0, d1, d2, d3, d4, d5⟩ := hB2.six; have hR2 := hR.below hb2 hR.lt; obtain ⟨p0, p1, p2, p3, p4, p5⟩ := hR2.six; obtain ⟨t0, t1, t2, t3, t4, t5⟩ := hR2.sixf; have hacc2 := below_then hacc (by omega) hb2; have hlt2 := hB2.lt; have hz2 := hb2.size)
  obtain ⟨y0, y1, y2, y3, y4, y5⟩ := (hR2.six' (.slice none 0 0) (.int .i64 0) (.int .i64 0) (.slice none 0 0) (.slice none 0 0) (.bool false)).six
  refine bodyPost_ret (v := .tuple #[.agg (hiC (.slice none 0 0) 0 0 (.slice none 0 0) (.slice none 0 0) false), .slice none 0 0, .int .i64 (E)]) (by simp [results, Try.results35, go_sem, y0, y1, y2, y3, y4, y5, hiC]) rfl ?_
  exact ⟨_, _, _, _, rfl, hip0 _ _, SlP.nil _ _, below6 hacc2 (Nat.le_succ _)⟩

set_option maxRecDepth 100000 in
set_option maxHeartbeats 4000000 in
theorem hist_Jump_fail (lv : Value) (most wher : Int) (sv pv : Value) (older : Bool) (ls : List (List Int)) (M W : Int) (scr pat : List Int) (O : Bool) (a : Option Addr) (nn c : Nat) (n : Int) (w : World) (r : HiR w lv most wher sv pv older ⟨ls, M, W, scr, pat, O⟩) (hE : rightE ⟨ls, M, W, scr, pat, O⟩ nn n = 0) (hf : (ls.length : Int) < n ∨ ls.length = 0) (P : Nat → Prop) :
    Calls Try.prog 35 #[.agg (hiC lv most wher sv pv older), .slice a nn c, .int .i64 n] w (HPost P hi0 [] 5 w) := by
  obtain ⟨hok, hnn, hn0, hn1⟩ := rightE_zero hE
  obtain ⟨w0, wl⟩ : 0 ≤ W ∧ W ≤ ls.length := ⟨hok.wher1, hok.wher2⟩
  have l50 : ls.length ≤ 50 := by have := hok.len; have := hok.most2; simp only at *; omega
  have HE := Lib.hid hE
  have HR0 := Lib.hid r
  clear hE hok
  obtain ⟨⟨vs, hvs, hls⟩, h1, h2, hscr, hpat, h3⟩ := r
  simp only at hls h1 h2 h3 hscr hpat
  obtain rfl : M = most := h1.symm
  obtain rfl : W = wher := h2.symm
  obtain rfl : O = older := h3.symm
  obtain ⟨la, ln, lc, rfl, hl1, hl2, hl3, hl4, hl5⟩ := hvs
  obtain ⟨sa, sn, sc, rfl, hs1, hs2, hs3, hs4, hs5⟩ := hscr
  obtain ⟨pa, pn, pc, rfl, hp1, hp2, hp3, hp4, hp5⟩ := hpat
  have hll : ls.length = ln := by rw [← hls.len]; exact hl1
  have HRT := Lib.hid (fun W' r => hist_right (.slice la ln lc) M W (.slice sa sn sc) (.slice pa pn pc) O ⟨ls, M, W, scr, pat, O⟩ a nn c n W' r)
  rw [hll] at wl l50 hf
  have hcs : (ln : Int) < n ∨ (n ≤ (ln : Int) ∧ ((ln : Int) == 0) = true) := by simp only [beq_iff_eq, Int.natCast_eq_zero] at *; omega
  clear hf
  unfold hiC at *
  have hB := (Blk.new w #[.slice la ln lc, .int .i64 M, .int .i64 W, .slice sa sn sc, .slice pa pn pc, .bool O] 48).alloc (.cells #[.slice none 0 0, .int .i64 0, .int .i64 0, .slice none 0 0, .slice none 0 0, .bool false] 48)
  have hR := Blk.new (w.alloc (.cells #[.slice la ln lc, .int .i64 M, .int .i64 W, .slice sa sn sc, .slice pa pn pc, .bool O] 48)) #[.slice none 0 0, .int .i64 0, .int .i64 0, .slice none 0 0, .slice none 0 0, .bool false] 48
  rw [World.size_alloc] at hR
  have hacc := below2 w (.cells #[.slice la ln lc, .int .i64 M, .int .i64 W, .slice sa sn sc, .slice pa pn pc, .bool O] 48) (.cells #[.slice none 0 0, .int .i64 0, .int .i64 0, .slice none 0 0, .slice none 0 0, .bool false] 48)
  have hsz : w.heap.size + 2 ≤ ((w.alloc (.cells #[.slice la ln lc, .int .i64 M, .int .i64 W, .slice sa sn sc, .slice pa pn pc, .bool O] 48)).alloc (.cells #[.slice none 0 0, .int .i64 0, .int .i64 0, .slice none 0 0, .slice none 0 0, .bool false] 48)).heap.size := by simp
  have HR1 := Lib.hid (HR0.out.below hacc)
  clear hs1 hp1 hl1 hl5 hs5 hp5 hll hls HR0
  rcases hcs with k1 | ⟨k1, k2⟩
  all_goals
    go_enter Try.func35, Try.ntmps35
    go_upto_region 1 with fail
    change Code.wp _ _ _ _ ((w.alloc (.cells #[.slice la ln lc, .int .i64 M, .int .i64 W, .slice sa sn sc, .slice pa pn pc, .bool O] 48)).alloc (.cells #[.slice none 0 0, .int .i64 0, .int .i64 0, .slice none 0 0, .slice none 0 0, .bool false] 48))
    generalize ((w.alloc (.cells #[.slice la ln lc, .int .i64 M, .int .i64 W, .slice sa sn sc, .slice pa pn pc, .bool O] 48)).alloc (.cells #[.slice none 0 0, .int .i64 0, .int .i64 0, .slice none 0 0, .slice none 0 0, .bool false] 48)) = w1 at *
    obtain ⟨c0, c1, c2, c3, c4, c5⟩ := hB.six
    go_wp2_with ((go_at_call 102); refine (HRT.out _ HR1.out).mono ?_; rintro e w2 ⟨rfl, hb2⟩; rw [HE.out]; have hB2 := hB.below hb2 hB.lt; obtain ⟨d0, d1, d2, d3, d4, d5⟩ := hB2.six; have hR2 := hR.below hb2 hR.lt; obtain ⟨p0, p1, p2, p3, p4, p5⟩ := hR2.six; obtain ⟨t0, t1, t2, t3, t4, t5⟩ := hR2.sixf; have hacc2 := below_then hacc (by omega) hb2; have hlt2 := hB2.lt; have hz2 := hb2.size)
    all_goals
      obtain ⟨y0, y1, y2, y3, y4, y5⟩ := (hR2.six' (.slice none 0 0) (.int .i64 0) (.int .i64 0) (.slice none 0 0) (.slice none 0 0) (.bool false)).six
      refine bodyPost_ret (v := .tuple #[.agg (hiC (.slice none 0 0) 0 0 (.slice none 0 0) (.slice none 0 0) false), .slice none 0 0, .int .i64 (5)]) (by simp [results, Try.results35, go_sem, y0, y1, y2, y3, y4, y5, hiC]) rfl ?_
      exact ⟨_, _, _, _, rfl, hip0 _ _, SlP.nil _ _, below6 hacc2 (Nat.le_succ _)⟩

set_option maxRecDepth 100000 in
set_option maxHeartbeats 4000000 in
theorem hist_Jump_ok (lv : Value) (most wher : Int) (sv pv : Value) (older : Bool) (ls : List (List Int)) (M W : Int) (scr pat : List Int) (O : Bool) (a : Option Addr) (nn c : Nat) (n : Int) (w : World) (r : HiR w lv most wher sv pv older ⟨ls, M, W, scr, pat, O⟩) (xs : List Int) (hE : rightE ⟨ls, M, W, scr, pat, O⟩ nn n = 0) (hx : Ints w a xs) (hxn : xs.length = nn) (hx0 : a = none → nn = 0) (wh : Nat) (hf : ¬ ((ls.length : Int) < n ∨ ls.length = 0)) (hk : (wh : Int) = max 0 (n - 1)) :
    Calls Try.prog 35 #[.agg (hiC lv most wher sv pv older), .slice a nn c, .int .i64 n] w (HPost (fun k => w.heap.size ≤ k) (toH ⟨ls, M, W, scr, pat, O⟩ xs wh) (toL ⟨ls, M, W, scr, pat, O⟩ xs wh) 0 w) := by
  obtain ⟨hok, hnn, hn0, hn1⟩ := rightE_zero hE
  obtain ⟨w0, wl⟩ : 0 ≤ W ∧ W ≤ ls.length := ⟨hok.wher1, hok.wher2⟩
  have l50 : ls.length ≤ 50 := by have := hok.len; have := hok.most2; simp only at *; omega
  have hwh : wh ≤ ls.length := by omega
  have HE := Lib.hid hE
  have HR0 := Lib.hid r
  have HXN := Lib.hid hxn; have HX0 := Lib.hid hx0; have HOK := Lib.hid hok
  clear hE hok hxn hx0
  obtain ⟨⟨vs, hvs, hls⟩, h1, h2, hscr, hpat, h3⟩ := r
  simp only at hls h1 h2 h3 hscr hpat
  obtain rfl : M = most := h1.symm
  obtain rfl : W = wher := h2.symm
  obtain rfl : O = older := h3.symm
  obtain ⟨la, ln, lc, rfl, hl1, hl2, hl3, hl4, hl5⟩ := hvs
  obtain ⟨sa, sn, sc, rfl, hs1, hs2, hs3, hs4, hs5⟩ := hscr
  obtain ⟨pa, pn, pc, rfl, hp1, hp2, hp3, hp4, hp5⟩ := hpat
  have hll : ls.length = ln := by rw [← hls.len]; exact hl1
  have HRT := Lib.hid (fun W' r => hist_right (.slice la ln lc) M W (.slice sa sn sc) (.slice pa pn pc) O ⟨ls, M, W, scr, pat, O⟩ a nn c n W' r)
  have HTO := Lib.hid (fun W' r hx => hist_to (.slice la ln lc) M W (.slice sa sn sc) (.slice pa pn pc) O ⟨ls, M, W, scr, pat, O⟩ a nn c wh xs W' r HOK.out hx HXN.out HX0.out hnn hwh)
  rw [hll] at wl l50 hf
  have hcs : (n ≤ (ln : Int) ∧ ((ln : Int) == 0) = false ∧ n = 0 ∧ wh = 0) ∨ (n ≤ (ln : Int) ∧ ((ln : Int) == 0) = false ∧ n = 1 ∧ wh = 0) ∨ (n ≤ (ln : Int) ∧ ((ln : Int) == 0) = false ∧ 2 ≤ n ∧ n - 1 = (wh : Int)) := by simp only [beq_iff_eq, beq_eq_false_iff_ne, ne_eq, Int.natCast_eq_zero] at *; omega
  clear hf hk hwh
  unfold hiC at *
  have hB := (Blk.new w #[.slice la ln lc, .int .i64 M, .int .i64 W, .slice sa sn sc, .slice pa pn pc, .bool O] 48).alloc (.cells #[.slice none 0 0, .int .i64 0, .int .i64 0, .slice none 0 0, .slice none 0 0, .bool false] 48)
  have hR := Blk.new (w.alloc (.cells #[.slice la ln lc, .int .i64 M, .int .i64 W, .slice sa sn sc, .slice pa pn pc, .bool O] 48)) #[.slice none 0 0, .int .i64 0, .int .i64 0, .slice none 0 0, .slice none 0 0, .bool false] 48
  rw [World.size_alloc] at hR
  have hacc := below2 w (.cells #[.slice la ln lc, .int .i64 M, .int .i64 W, .slice sa sn sc, .slice pa pn pc, .bool O] 48) (.cells #[.slice none 0 0, .int .i64 0, .int .i64 0, .slice none 0 0, .slice none 0 0, .bool false] 48)
  have hsz : w.heap.size + 2 ≤ ((w.alloc (.cells #[.slice la ln lc, .int .i64 M, .int .i64 W, .slice sa sn sc, .slice pa pn pc, .bool O] 48)).alloc (.cells #[.slice none 0 0, .int .i64 0, .int .i64 0, .slice none 0 0, .slice none 0 0, .bool false] 48)).heap.size := by simp
  have HR1 := Lib.hid (HR0.out.below hacc)
  clear hs1 hp1 hl1 hl5 hs5 hp5 hll hls HR0
  rcases hcs with ⟨k1, k2, rfl, rfl⟩ | ⟨k1, k2, rfl, rfl⟩ | ⟨k1, k2, k4, k3⟩
  · skip
    go_enter Try.func35, Try.ntmps35
    go_upto_region 1 with fail
    change Code.wp _ _ _ _ ((w.alloc (.cells #[.slice la ln lc, .int .i64 M, .int .i64 W, .slice sa sn sc, .slice pa pn pc, .bool O] 48)).alloc (.cells #[.slice none 0 0, .int .i64 0, .int .i64 0, .slice none 0 0, .slice none 0 0, .bool false] 48))
    generalize ((w.alloc (.cells #[.slice la ln lc, .int .i64 M, .int .i64 W, .slice sa sn sc, .slice pa pn pc, .bool O] 48)).alloc (.cells #[.slice none 0 0, .int .i64 0, .int .i64 0, .slice none 0 0, .slice none 0 0, .bool false] 48)) = w1 at *
    obtain ⟨c0, c1, c2, c3, c4, c5⟩ := hB.six
    go_wp2_with ((go_at_call 102); refine (HRT.out _ HR1.out).mono ?_; rintro e w2 ⟨rfl, hb2⟩; rw [HE.out]; have hB2 := hB.below hb2 hB.lt; obtain ⟨d0, d1, d2, d3, d4, d5⟩ := hB2.six; have hR2 := hR.below hb2 hR.lt; obtain ⟨p0, p1, p2, p3, p4, p5⟩ := hR2.six; obtain ⟨t0, t1, t2, t3, t4, t5⟩ := hR2.sixf; have hacc2 := below_then hacc (by omega) hb2; have hlt2 := hB2.lt; have hz2 := hb2.size; have HR2 := Lib.hid (HR1.out.below hb2); have hx2 := hx.below hacc2)
    refine (HTO.out _ HR2.out hx2).mono ?_
    rintro e w3 ⟨lv3, sv3, pv3, nv3, rfl, hp3, hn3, hb3⟩
    obtain ⟨vs3, ⟨ra, rn, rc, rfl, -⟩, -⟩ := hp3.ls
    obtain ⟨ta, tn, tc, rfl⟩ := hp3.scr.form
    obtain ⟨ua, un, uc, rfl⟩ := hp3.pat.form
    have hR3 := hR2.below hb3 hR2.lt
    obtain ⟨q0, q1, q2, q3, q4, q5⟩ := hR3.six
    obtain ⟨v0, v1, v2, v3, v4, v5⟩ := hR3.sixf
    have hacc3 := below_then hacc2 (by omega) hb3
    have HP3 := Lib.hid hp3; have HN3 := Lib.hid hn3
    simp only [hiC, toH]
    clear hp3 hn3
    go_wp2
    obtain ⟨y0, y1, y2, y3, y4, y5⟩ := (hR3.six' (.slice ra rn rc) (.int .i64 M) (.int .i64 (0 : Int)) (.slice ta tn tc) (.slice ua un uc) (.bool O)).six
    refine bodyPost_ret (v := .tuple #[.agg (hiC (.slice ra rn rc) M (0 : Int) (.slice ta tn tc) (.slice ua un uc) O), nv3, .int .i64 0]) (by simp [results, Try.results35, go_sem, y0, y1, y2, y3, y4, y5, hiC]) rfl ?_
    exact ⟨_, _, _, _, rfl, (HP3.out.six (by omega)).imp (fun k hk => by omega), (HN3.out.six (by omega)).imp (fun k hk => by omega), below6 hacc3 (by omega)⟩
  · skip
    go_enter Try.func35, Try.ntmps35
    go_upto_region 1 with fail
    change Code.wp _ _ _ _ ((w.alloc (.cells #[.slice la ln lc, .int .i64 M, .int .i64 W, .slice sa sn sc, .slice pa pn pc, .bool O] 48)).alloc (.cells #[.slice none 0 0, .int .i64 0, .int .i64 0, .slice none 0 0, .slice none 0 0, .bool false] 48))
    generalize ((w.alloc (.cells #[.slice la ln lc, .int .i64 M, .int .i64 W, .slice sa sn sc, .slice pa pn pc, .bool O] 48)).alloc (.cells #[.slice none 0 0, .int .i64 0, .int .i64 0, .slice none 0 0, .slice none 0 0, .bool false] 48)) = w1 at *
    obtain ⟨c0, c1, c2, c3, c4, c5⟩ := hB.six
    go_wp2_with ((go_at_call 102); refine (HRT.out _ HR1.out).mono ?_; rintro e w2 ⟨rfl, hb2⟩; rw [HE.out]; have hB2 := hB.below hb2 hB.lt; obtain ⟨d0, d1, d2, d3, d4, d5⟩ := hB2.six; have hR2 := hR.below hb2 hR.lt; obtain ⟨p0, p1, p2, p3, p4, p5⟩ := hR2.six; obtain ⟨t0, t1, t2, t3, t4, t5⟩ := hR2.sixf; have hacc2 := below_then hacc (by omega) hb2; have hlt2 := hB2.lt; have hz2 := hb2.size; have HR2 := Lib.hid (HR1.out.below hb2); have hx2 := hx.below hacc2)
    refine (HTO.out _ HR2.out hx2).mono ?_
    rintro e w3 ⟨lv3, sv3, pv3, nv3, rfl, hp3, hn3, hb3⟩
    obtain ⟨vs3, ⟨ra, rn, rc, rfl, -⟩, -⟩ := hp3.ls
    obtain ⟨ta, tn, tc, rfl⟩ := hp3.scr.form
    obtain ⟨ua, un, uc, rfl⟩ := hp3.pat.form
    have hR3 := hR2.below hb3 hR2.lt
    obtain ⟨q0, q1, q2, q3, q4, q5⟩ := hR3.six
    obtain ⟨v0, v1, v2, v3, v4, v5⟩ := hR3.sixf
    have hacc3 := below_then hacc2 (by omega) hb3
    have HP3 := Lib.hid hp3; have HN3 := Lib.hid hn3
    simp only [hiC, toH]
    clear hp3 hn3
    go_wp2
    obtain ⟨y0, y1, y2, y3, y4, y5⟩ := (hR3.six' (.slice ra rn rc) (.int .i64 M) (.int .i64 (0 : Int)) (.slice ta tn tc) (.slice ua un uc) (.bool O)).six
    refine bodyPost_ret (v := .tuple #[.agg (hiC (.slice ra rn rc) M (0 : Int) (.slice ta tn tc) (.slice ua un uc) O), nv3, .int .i64 0]) (by simp [results, Try.results35, go_sem, y0, y1, y2, y3, y4, y5, hiC]) rfl ?_
    exact ⟨_, _, _, _, rfl, (HP3.out.six (by omega)).imp (fun k hk => by omega), (HN3.out.six (by omega)).imp (fun k hk => by omega), below6 hacc3 (by omega)⟩
  · skip
    go_enter Try.func35, Try.ntmps35
    go_upto_region 1 with fail
    change Code.wp _ _ _ _ ((w.alloc (.cells #[.slice la ln lc, .int .i64 M, .int .i64 W, .slice sa sn sc, .slice pa pn pc, .bool O] 48)).alloc (.cells #[.slice none 0 0, .int .i64 0, .int .i64 0, .slice none 0 0, .slice none 0 0, .bool false] 48))
    generalize ((w.alloc (.cells #[.slice la ln lc, .int .i64 M, .int .i64 W, .slice sa sn sc, .slice pa pn pc, .bool O] 48)).alloc (.cells #[.slice none 0 0, .int .i64 0, .int .i64 0, .slice none 0 0, .slice none 0 0, .bool false] 48)) = w1 at *
    obtain ⟨c0, c1, c2, c3, c4, c5⟩ := hB.six
    go_wp2_with ((go_at_call 102); refine (HRT.out _ HR1.out).mono ?_; rintro e w2 ⟨rfl, hb2⟩; rw [HE.out]; have hB2 := hB.below hb2 hB.lt; obtain ⟨d0, d1, d2, d3, d4, d5⟩ := hB2.six; have hR2 := hR.below hb2 hR.lt; obtain ⟨p0, p1, p2, p3, p4, p5⟩ := hR2.six; obtain ⟨t0, t1, t2, t3, t4, t5⟩ := hR2.sixf; have hacc2 := below_then hacc (by omega) hb2; have hlt2 := hB2.lt; have hz2 := hb2.size; have HR2 := Lib.hid (HR1.out.below hb2); have hx2 := hx.below hacc2)
    refine (HTO.out _ HR2.out hx2).mono ?_
    rintro e w3 ⟨lv3, sv3, pv3, nv3, rfl, hp3, hn3, hb3⟩
    obtain ⟨vs3, ⟨ra, rn, rc, rfl, -⟩, -⟩ := hp3.ls
    obtain ⟨ta, tn, tc, rfl⟩ := hp3.scr.form
    obtain ⟨ua, un, uc, rfl⟩ := hp3.pat.form
    have hR3 := hR2.below hb3 hR2.lt
    obtain ⟨q0, q1, q2, q3, q4, q5⟩ := hR3.six
    obtain ⟨v0, v1, v2, v3, v4, v5⟩ := hR3.sixf
    have hacc3 := below_then hacc2 (by omega) hb3
    have HP3 := Lib.hid hp3; have HN3 := Lib.hid hn3
    simp only [hiC, toH]
    clear hp3 hn3
    go_wp2
    obtain ⟨y0, y1, y2, y3, y4, y5⟩ := (hR3.six' (.slice ra rn rc) (.int .i64 M) (.int .i64 (wh : Int)) (.slice ta tn tc) (.slice ua un uc) (.bool O)).six
    refine bodyPost_ret (v := .tuple #[.agg (hiC (.slice ra rn rc) M (wh : Int) (.slice ta tn tc) (.slice ua un uc) O), nv3, .int .i64 0]) (by simp [results, Try.results35, go_sem, y0, y1, y2, y3, y4, y5, hiC]) rfl ?_
    exact ⟨_, _, _, _, rfl, (HP3.out.six (by omega)).imp (fun k hk => by omega), (HN3.out.six (by omega)).imp (fun k hk => by omega), below6 hacc3 (by omega)⟩

theorem hist_Jump (lv : Value) (most wher : Int) (sv pv : Value) (older : Bool) (h : Hi) (a : Option Addr) (nn c : Nat) (n : Int) (xs : List Int) (w : World) (r : HiR w lv most wher sv pv older h) (hx : Ints w a xs) (hxn : xs.length = nn) (hx0 : a = none → nn = 0) :
    Calls Try.prog 35 #[.agg (hiC lv most wher sv pv older), .slice a nn c, .int .i64 n] w (ResPost (MoveRes h xs n 0) (fun k => w.heap.size ≤ k) w) := by
  obtain ⟨ls, M, W, scr, pat, O⟩ := h
  by_cases hE : rightE ⟨ls, M, W, scr, pat, O⟩ nn n = 0
  · by_cases hf : (ls.length : Int) < n ∨ ls.length = 0
    · exact (hist_Jump_fail lv most wher sv pv older ls M W scr pat O a nn c n w r hE hf _).mono fun e w' h => ⟨hi0, [], 5, .inr (.inl ⟨by rw [hxn]; exact hE, by rw [moveW, if_neg (by decide), if_neg (by decide), if_pos hf], rfl, rfl, rfl⟩), h⟩
    · obtain ⟨wh, hwh⟩ : ∃ wh : Nat, moveW ⟨ls, M, W, scr, pat, O⟩ n 0 = some wh ∧ (wh : Int) = max 0 (n - 1) := by
        obtain ⟨hok, hnn, hn0, hn1⟩ := rightE_zero hE
        have w0 : 0 ≤ W := hok.wher1
        rw [moveW, if_neg (by decide), if_neg (by decide), if_neg hf]
        exact ⟨_, rfl, by first | omega | (simp only; omega)⟩
      exact (hist_Jump_ok lv most wher sv pv older ls M W scr pat O a nn c n w r xs hE hx hxn hx0 wh hf hwh.2).mono fun e w' h => ⟨_, _, 0, .inr (.inr ⟨by rw [hxn]; exact hE, wh, hwh.1, rfl, rfl, rfl⟩), h⟩
  · exact (hist_Jump_bad lv most wher sv pv older ls M W scr pat O a nn c n w r _ rfl hE _).mono fun e w' h => ⟨hi0, [], _, .inl ⟨by rw [hxn]; exact hE, rfl, rfl, by rw [hxn]⟩, h⟩

end Go.Proofs.Ytmipnikhgihcpaa
