/- Contract of hist.copied. -/
import Derived.Test.YtmipnikhgihcpaaHist1
namespace Go.Proofs.Ytmipnikhgihcpaa
open Go.RowKit
set_option linter.unusedVariables false
set_option linter.unusedSimpArgs false

/-- lists in rows of the call's own -/
def OLists (base : Nat) (w : World) (vs : List Value) (X : List (List Int)) : Prop := vs.length = X.length ∧ ∀ i, i < X.length → Own 3 base w (vx vs i) (rx X i)
theorem OLists.lists {base : Nat} {w : World} {vs : List Value} {X : List (List Int)} (h : OLists base w vs X) : Lists w vs X := ⟨h.1, fun i hi => (h.2 i hi).sl⟩
theorem OLists.imp {base base' : Nat} {w w' : World} {vs : List Value} {X : List (List Int)} (h : OLists base w vs X) (hk : ∀ v xs, Own 3 base w v xs → Own 3 base' w' v xs) : OLists base' w' vs X := ⟨h.1, fun i hi => hk _ _ (h.2 i hi)⟩
theorem OLists.snoc {base : Nat} {w : World} {vs : List Value} {X : List (List Int)} {v : Value} {xs : List Int} (h : OLists base w vs X) (hv : Own 3 base w v xs) : OLists base w (vs ++ [v]) (X ++ [xs]) := by
  refine ⟨by simp [h.1], fun i hi => ?_⟩
  by_cases hl : i < X.length
  · rw [vx_left (by rw [h.1]; exact hl), rx_left hl]; exact h.2 i hl
  · obtain rfl : i = X.length := by simp at hi; omega
    have h1 := rx_right (X := X) (Y := [xs]) (i := 0)
    have h2 := vx_right (vs := vs) (us := [v]) (i := 0)
    rw [h.1] at h2
    rw [Nat.add_zero] at h1 h2
    rw [h1, h2]; exact hv
theorem OLists.nil (base : Nat) (w : World) : OLists base w [] [] := ⟨rfl, fun i hi => by simp at hi⟩
theorem OLists.sls {base : Nat} {w : World} {vs : List Value} {X : List (List Int)} (h : OLists base w vs X) : Sls vs := h.lists.sls

def CopHi (h : Hi) (w : World) (e : Ending) (w' : World) : Prop :=
  ∃ lv sv pv vs, e = .returned (.agg (hiC lv h.most h.wher sv pv h.older)) ∧ VOwn 22 w.heap.size w' lv vs ∧ OLists w.heap.size w' vs h.ls ∧ Own 3 w.heap.size w' sv h.scr ∧ Own 3 w.heap.size w' pv h.pat ∧ Below w.heap.size w w'

theorem Blk.sixf {w : World} {B : Nat} {u0 u1 u2 u3 u4 u5 : Value} {e : TypeId} (h : Blk w B #[u0, u1, u2, u3, u4, u5] e) : w.frozen? ⟨B, 0, none⟩ = false ∧ w.frozen? ⟨B, 1, none⟩ = false ∧ w.frozen? ⟨B, 2, none⟩ = false ∧ w.frozen? ⟨B, 3, none⟩ = false ∧ w.frozen? ⟨B, 4, none⟩ = false ∧ w.frozen? ⟨B, 5, none⟩ = false := ⟨h.free 0, h.free 1, h.free 2, h.free 3, h.free 4, h.free 5⟩

set_option maxRecDepth 100000 in
set_option maxHeartbeats 4000000 in
theorem hist_copied (lv : Value) (most wher : Int) (sv pv : Value) (older : Bool) (h : Hi) (w : World) (r : HiR w lv most wher sv pv older h) (hn50 : h.ls.length ≤ 50) (hn200 : ∀ i, i < h.ls.length → (rx h.ls i).length ≤ 200) (hs200 : h.scr.length ≤ 200) (hp200 : h.pat.length ≤ 200) :
    Calls Try.prog 96 #[.agg (hiC lv most wher sv pv older)] w (CopHi h w) := by
  obtain ⟨⟨vs, hvs, hls⟩, rfl, rfl, hscr, hpat, rfl⟩ := r
  obtain ⟨la, ln, lc, rfl, hl1, hl2, hl3, hl4, hl5⟩ := hvs
  obtain ⟨sa, sn, sc, rfl, hs1, hs2, hs3, hs4, hs5⟩ := hscr
  obtain ⟨pa, pn, pc, rfl, hp1, hp2, hp3, hp4, hp5⟩ := hpat
  have hll : h.ls.length = ln := by rw [← hls.len]; exact hl1
  have hln : ln ≤ 50 := by omega
  have hsn : sn ≤ 200 := by omega
  have hpn : pn ≤ 200 := by omega
  unfold hiC
  have HC := Lib.hid (show CopHi h w = CopHi ⟨h.ls, h.most, h.wher, h.scr, h.pat, h.older⟩ w from rfl)
  have hB := (Blk.new w #[.slice la ln lc, .int .i64 h.most, .int .i64 h.wher, .slice sa sn sc, .slice pa pn pc, .bool h.older] 48).alloc (.cells #[.slice none 0 0, .int .i64 0, .int .i64 0, .slice none 0 0, .slice none 0 0, .bool false] 48)
  have hR := Blk.new (w.alloc (.cells #[.slice la ln lc, .int .i64 h.most, .int .i64 h.wher, .slice sa sn sc, .slice pa pn pc, .bool h.older] 48)) #[.slice none 0 0, .int .i64 0, .int .i64 0, .slice none 0 0, .slice none 0 0, .bool false] 48
  rw [World.size_alloc] at hR
  have hacc := below2 w (.cells #[.slice la ln lc, .int .i64 h.most, .int .i64 h.wher, .slice sa sn sc, .slice pa pn pc, .bool h.older] 48) (.cells #[.slice none 0 0, .int .i64 0, .int .i64 0, .slice none 0 0, .slice none 0 0, .bool false] 48)
  have hsz : w.heap.size + 2 ≤ ((w.alloc (.cells #[.slice la ln lc, .int .i64 h.most, .int .i64 h.wher, .slice sa sn sc, .slice pa pn pc, .bool h.older] 48)).alloc (.cells #[.slice none 0 0, .int .i64 0, .int .i64 0, .slice none 0 0, .slice none 0 0, .bool false] 48)).heap.size := by simp
  have HL := Lib.hid hl1; have HS1 := Lib.hid hs1; have HP1 := Lib.hid hp1; have HS5 := Lib.hid hs5; have HP5 := Lib.hid hp5; have HLL := Lib.hid hll; have HLS := Lib.hid hls; have H200 := Lib.hid hn200
  clear hl1 hs1 hp1 hl5 hs5 hp5 hll hls hn200 hn50 hs200 hp200
  generalize h.most = M at *
  generalize h.wher = W at *
  generalize h.older = O at *
  go_enter Try.func96, Try.ntmps96
  go_upto_region 1 with fail
  change Code.wp _ _ _ _ ((w.alloc (.cells #[.slice la ln lc, .int .i64 M, .int .i64 W, .slice sa sn sc, .slice pa pn pc, .bool O] 48)).alloc (.cells #[.slice none 0 0, .int .i64 0, .int .i64 0, .slice none 0 0, .slice none 0 0, .bool false] 48))
  generalize ((w.alloc (.cells #[.slice la ln lc, .int .i64 M, .int .i64 W, .slice sa sn sc, .slice pa pn pc, .bool O] 48)).alloc (.cells #[.slice none 0 0, .int .i64 0, .int .i64 0, .slice none 0 0, .slice none 0 0, .bool false] 48)) = w1 at *
  obtain ⟨c0, c1, c2, c3, c4, c5⟩ := hB.six
  obtain ⟨f0, -⟩ := hB.sixf
  go_wp2
  have hB1 := hB.set 0 (.slice none 0 0)
  have hR1 := hR.other (a := ⟨w.heap.size, 0, none⟩) (by simp) (.slice none 0 0)
  have hacc1 := hacc.setCell (p := ⟨w.heap.size, 0, none⟩) (Nat.le_refl _) (.slice none 0 0)
  have hsz1 : w.heap.size + 2 ≤ (w1.setCell ⟨w.heap.size, 0, none⟩ (.slice none 0 0)).heap.size := by rw [size_setCell]; exact hsz
  simp only [List.setIfInBounds_toArray, List.set_cons_zero] at hB1
  clear hB hR hacc hsz c0 c1 c2 c3 c4 c5 f0
  go_loopw [11] (fun iv wr => ∃ (k : Nat) (ra : Option Addr) (rn rc : Nat) (us : List Value), iv = .int .i64 (k : Int) ∧ k ≤ ln ∧ Blk wr w.heap.size #[.slice ra rn rc, .int .i64 M, .int .i64 W, .slice sa sn sc, .slice pa pn pc, .bool O] 48 ∧ Blk wr (w.heap.size + 1) #[.slice none 0 0, .int .i64 0, .int .i64 0, .slice none 0 0, .slice none 0 0, .bool false] 48 ∧
      VOwn 22 (w.heap.size + 2) wr (.slice ra rn rc) us ∧ OLists (w.heap.size + 2) wr us (h.ls.take k) ∧ Below w.heap.size w wr ∧ w.heap.size + 2 ≤ wr.heap.size) (fun iv _ => ln - (intOf iv).toNat)
  case atStart => exact ⟨0, none, 0, 0, [], rfl, by omega, hB1, hR1, VOwn.nil _ _ _, OLists.nil _ _, hacc1, hsz1⟩
  case round =>
    obtain ⟨k, ra, rn, rc, us, rfl, hk, hB, hR, hown, hol, hbel, hsz⟩ := hrel
    have HOL := Lib.hid hol; clear hol
    obtain ⟨c0, c1, c2, c3, c4, c5⟩ := hB.six
    obtain ⟨f0, f1, f2, f3, f4, f5⟩ := hB.sixf
    by_cases hlt : k < ln
    · obtain ⟨b1, o1, rfl, hc⟩ := (hl4.below hbel).at (k := k) (by rw [HL.out]; exact hlt)
      have e1 := hc k (by rw [HL.out]; exact hlt)
      obtain ⟨xa, xn, xc, x1, x2, x3, x4, x5, x6⟩ := (HLS.out.below hbel).sl k (by rw [HLL.out]; exact hlt)
      rw [x1] at e1
      have hxn : xn ≤ 17592186044416 := by have := H200.out k (by rw [HLL.out]; exact hlt); omega
      have HX2 := Lib.hid x2; have HX6 := Lib.hid x6
      have HU := Lib.hid (show us.length + 1 ≤ 4398046511104 by rw [HOL.out.1, List.length_take]; omega)
      clear hc x1 x2 x6
      go_wp2
      have HVL := Lib.hid (show ∀ (u : World) (x : Option Addr) (n c : Nat), Vals (u.alloc (.cells #[.slice x n c] 22)) (some ⟨u.heap.size, 0, none⟩) [.slice x n c] from fun u x n c => vals_lit u [.slice x n c] _)
      have HS1 := Lib.hid (show ∀ (x : Option Addr) (n c : Nat), Sls [.slice x n c] from fun x n c i hi => by
        obtain rfl : i = 0 := by simp at hi; omega
        exact ⟨x, n, c, rfl⟩)
      have x5' := x5.drew
      go_region_law (first | (go_simp; go_at_call 98; refine (slices_clone xa xn xc _ wr.drew x5' HX2.out hxn HX6.out).mono ?_; rintro e w2 ⟨v2, rfl, own2, hb2⟩; obtain ⟨a2, n2, c2, rfl⟩ := own2.form; have hB2 := hB.drew.below hb2 hB.lt; have d0 := hB2.cell 0; have hlt2 := hB2.lt; have ho2 := hown.drew.kept hb2; have hz2 : w.heap.size + 2 ≤ w2.heap.size := Nat.le_trans hsz hb2.size; simp only [List.getElem?_toArray, List.getElem?_cons_zero] at d0) | (refine step_vapp (by rfl) _ _ rfl _ (.slice ra rn rc) us [.slice a2 n2 c2] _ 1 1 rfl rfl (ho2.alloc _) (HVL.out _ _ _ _) (HS1.out _ _ _) rfl HU.out (size_alloc_le hz2 _) ?_; intro v9 w9 o9 hgrow9; obtain ⟨a9, n9, c9, rfl⟩ := o9.form; have hB9 := (hB2.alloc _).grown hgrow9 (ho2.neBlk hB2 (by decide)); have e0 := hB9.cell 0; have g0 := hB9.free 0; simp only [List.getElem?_toArray, List.getElem?_cons_zero] at e0))
      all_goals
        go_wp2
        go_roundw
        case rel =>
          have hB10 := hB9.set 0 (.slice a9 n9 c9)
          simp only [List.setIfInBounds_toArray, List.set_cons_zero] at hB10
          have hR2 := (((hR.drew.below hb2 (by show w.heap.size + 1 < wr.heap.size; omega)).alloc _).grown hgrow9 (ho2.ne (by omega))).other (a := ⟨w.heap.size, 0, none⟩) (by simp) (.slice a9 n9 c9)
          have hbel2 : Below w.heap.size w w2 := below_then hbel.drew (by show w.heap.size ≤ wr.heap.size; omega) hb2
          have hsz9 := hgrow9.size
          rw [World.size_alloc] at hsz9
          refine ⟨k + 1, a9, n9, c9, _, by go_num, by omega, hB10, hR2, o9.other (o9.neBlk hB9 (by decide)) _, ?_, ((hbel2.alloc (by omega) _).grown hgrow9 (by simp; omega) (fun j hj => by have := ho2.row j hj; omega)).setCell (Nat.le_refl _) _, by rw [size_setCell]; omega⟩
          rw [take_succ_rx (by rw [HLL.out]; exact hlt)]
          have hbase : w.heap.size + 2 ≤ wr.heap.size := hsz
          refine OLists.snoc (HOL.out.imp fun v xs hv => ?_) ?_
          · have h1 := ((hv.drew.kept hb2).alloc (.cells #[.slice a2 n2 c2] 22)).beside (ho2.alloc _) (by decide) hgrow9
            exact h1.other (h1.neBlk hB9 (by decide)) _
          · have h1 := ((own2.mono (base' := w.heap.size + 2) hbase).alloc (.cells #[.slice a2 n2 c2] 22)).beside (ho2.alloc _) (by decide) hgrow9
            exact h1.other (h1.neBlk hB9 (by decide)) _
        case measure => simp [intOf]; omega
    · obtain rfl : k = ln := by omega
      have hol := HOL.out
      rw [List.take_of_length_le (by rw [HLL.out]; omega)] at hol
      have HOL2 := Lib.hid hol
      have hs4' := (hs4.below hbel).drew
      have hp4' := (hp4.below hbel).drew
      have hsn2 : sn ≤ 17592186044416 := by omega
      have hpn2 : pn ≤ 17592186044416 := by omega
      clear hol hl4 hlt
      go_wp2
      go_region_law (first | (go_simp; go_at_call 98; ((with_reducible refine (slices_clone pa pn pc h.pat wS (hp4'.below hbS) HP1.out hpn2 HP5.out).mono ?_)); rintro e w9 ⟨vP, rfl, ownP, hb9⟩; obtain ⟨aP, nP, cP, rfl⟩ := ownP.form; have hB9 := hBS.below hb9 hBS.lt; obtain ⟨e0, e1, e2, e3, e4, e5⟩ := hB9.six; obtain ⟨g0, g1, g2, g3, g4, g5⟩ := hB9.sixf; have oS := ownS.kept hb9; have oP := ownP.mono hbS.size; have hb29 := below_then hbS hbS.size hb9) | (go_simp; go_at_call 98; ((with_reducible refine (slices_clone sa sn sc h.scr wP (hs4'.below hbP) HS1.out hsn2 HS5.out).mono ?_)); rintro e w9 ⟨vS, rfl, ownS, hb9⟩; obtain ⟨aS, nS, cS, rfl⟩ := ownS.form; have hB9 := hBP.below hb9 hBP.lt; obtain ⟨e0, e1, e2, e3, e4, e5⟩ := hB9.six; obtain ⟨g0, g1, g2, g3, g4, g5⟩ := hB9.sixf; have oS := ownS.mono hbP.size; have oP := ownP.kept hb9; have hb29 := below_then hbP hbP.size hb9) | (go_simp; go_at_call 98; ((with_reducible refine (slices_clone sa sn sc h.scr wr.drew hs4' HS1.out hsn2 HS5.out).mono ?_)); rintro e wS ⟨vS, rfl, ownS, hbS⟩; obtain ⟨aS, nS, cS, rfl⟩ := ownS.form; have hBS := hB.drew.below hbS hB.lt; obtain ⟨d0, d1, d2, d3, d4, d5⟩ := hBS.six; obtain ⟨f0', f1', f2', f3', f4', f5'⟩ := hBS.sixf) | (go_simp; go_at_call 98; ((with_reducible refine (slices_clone pa pn pc h.pat wr.drew hp4' HP1.out hpn2 HP5.out).mono ?_)); rintro e wP ⟨vP, rfl, ownP, hbP⟩; obtain ⟨aP, nP, cP, rfl⟩ := ownP.form; have hBP := hB.drew.below hbP hB.lt; obtain ⟨d0, d1, d2, d3, d4, d5⟩ := hBP.six; obtain ⟨f0', f1', f2', f3', f4', f5'⟩ := hBP.sixf))
      all_goals
        have hB11 := (hB9.set 3 (.slice aS nS cS)).set 4 (.slice aP nP cP)
        simp only [List.setIfInBounds_toArray, List.set_cons_zero, List.set_cons_succ] at hB11
        obtain ⟨q0, q1, q2, q3, q4, q5⟩ := hB11.six
        have hR9 := hR.drew.below hb29 (by show w.heap.size + 1 < wr.heap.size; omega)
        have hR11 := (hR9.other (a := ⟨w.heap.size, 3, none⟩) (by simp) (.slice aS nS cS)).other (a := ⟨w.heap.size, 4, none⟩) (by simp) (.slice aP nP cP)
        obtain ⟨p0, p1, p2, p3, p4, p5⟩ := hR11.six
        obtain ⟨t0, t1, t2, t3, t4, t5⟩ := hR11.sixf
        go_wp2
        have hG := ((((((hR11.set 0 (.slice ra rn rc)).set 1 (.int .i64 M)).set 2 (.int .i64 W)).set 3 (.slice aS nS cS)).set 4 (.slice aP nP cP)).set 5 (.bool O))
        simp only [List.setIfInBounds_toArray, List.set_cons_zero, List.set_cons_succ] at hG
        obtain ⟨y0, y1, y2, y3, y4, y5⟩ := hG.six
        have hz2 : w.heap.size + 2 ≤ wr.drew.heap.size := hsz
        have hbel9 : Below w.heap.size w w9 := below_then hbel.drew (by show w.heap.size ≤ wr.heap.size; omega) hb29
        refine bodyPost_ret (v := .agg (hiC (.slice ra rn rc) M W (.slice aS nS cS) (.slice aP nP cP) O)) (by simp [results, Try.results96, go_sem, y0, y1, y2, y3, y4, y5, hiC]) rfl ?_
        rw [HC.out]
        have kV : ∀ (v : Value) (us : List Value), VOwn 22 (w.heap.size + 2) w9 v us → VOwn 22 w.heap.size ((((((((w9.setCell ⟨w.heap.size, 3, none⟩ (.slice aS nS cS)).setCell ⟨w.heap.size, 4, none⟩ (.slice aP nP cP)).setCell ⟨w.heap.size + 1, 0, none⟩ (.slice ra rn rc)).setCell ⟨w.heap.size + 1, 1, none⟩ (.int .i64 M)).setCell ⟨w.heap.size + 1, 2, none⟩ (.int .i64 W)).setCell ⟨w.heap.size + 1, 3, none⟩ (.slice aS nS cS)).setCell ⟨w.heap.size + 1, 4, none⟩ (.slice aP nP cP)).setCell ⟨w.heap.size + 1, 5, none⟩ (.bool O)) v us := fun v us h => ((((((((h.setCell (by simp) _).setCell (by simp) _).setCell (by simp) _).setCell (by simp) _).setCell (by simp) _).setCell (by simp) _).setCell (by simp) _).setCell (by simp) _).mono (by omega)
        have kO : ∀ (v : Value) (xs : List Int), Own 3 (w.heap.size + 2) w9 v xs → Own 3 w.heap.size ((((((((w9.setCell ⟨w.heap.size, 3, none⟩ (.slice aS nS cS)).setCell ⟨w.heap.size, 4, none⟩ (.slice aP nP cP)).setCell ⟨w.heap.size + 1, 0, none⟩ (.slice ra rn rc)).setCell ⟨w.heap.size + 1, 1, none⟩ (.int .i64 M)).setCell ⟨w.heap.size + 1, 2, none⟩ (.int .i64 W)).setCell ⟨w.heap.size + 1, 3, none⟩ (.slice aS nS cS)).setCell ⟨w.heap.size + 1, 4, none⟩ (.slice aP nP cP)).setCell ⟨w.heap.size + 1, 5, none⟩ (.bool O)) v xs := fun v us h => ((((((((h.setCell (by simp) _).setCell (by simp) _).setCell (by simp) _).setCell (by simp) _).setCell (by simp) _).setCell (by simp) _).setCell (by simp) _).setCell (by simp) _).mono (by omega)
        refine ⟨.slice ra rn rc, .slice aS nS cS, .slice aP nP cP, us, rfl, kV _ _ (hown.drew.kept hb29), HOL2.out.imp fun v xs hv => kO _ _ (hv.drew.kept hb29), kO _ _ (oS.mono hz2), kO _ _ (oP.mono hz2), ?_⟩
        exact (((((((hbel9.setCell (Nat.le_refl _) _).setCell (Nat.le_refl _) _).setCell (Nat.le_succ _) _).setCell (Nat.le_succ _) _).setCell (Nat.le_succ _) _).setCell (Nat.le_succ _) _).setCell (Nat.le_succ _) _).setCell (Nat.le_succ _) _

end Go.Proofs.Ytmipnikhgihcpaa
