/- Contract of hist.Add. -/
import Derived.Test.YtmipnikhgihcpaaHistE
namespace Go.Proofs.Ytmipnikhgihcpaa
open Go.RowKit
set_option linter.unusedVariables false
set_option linter.unusedSimpArgs false

set_option maxRecDepth 100000 in
set_option maxHeartbeats 8000000 in
theorem hist_Add_push (lv : Value) (most wher : Int) (sv pv : Value) (older : Bool) (ls : List (List Int)) (M W : Int) (scr pat : List Int) (O : Bool) (a : Option Addr) (nn c : Nat) (w : World) (r : HiR w lv most wher sv pv older ⟨ls, M, W, scr, pat, O⟩) (xs : List Int) (hE : hiE ⟨ls, M, W, scr, pat, O⟩ = 0) (hx : Ints w a xs) (hxn : xs.length = nn) (hx0 : a = none → nn = 0) (hnn : nn ≤ 200) (h0 : 0 < nn) :
    Calls Try.prog 28 #[.agg (hiC lv most wher sv pv older), .slice a nn c] w (APost (fun k => w.heap.size ≤ k) (addH ⟨ls, M, W, scr, pat, O⟩ xs) 0 w) := by
  have hok := hiOk_of hE
  have HE := Lib.hid hE
  have HR0 := Lib.hid r
  have hm1 : 1 ≤ M := hok.most1
  have hm2 : M ≤ 50 := hok.most2
  have hlm : (ls.length : Int) ≤ M := hok.len
  have HXN := Lib.hid hxn; have HX0 := Lib.hid hx0
  have HLL200 := Lib.hid hok.lines; have HS200 := Lib.hid hok.scr; have HP200 := Lib.hid hok.pat
  clear hE hok hxn hx0
  obtain ⟨⟨vs, hvs, hls⟩, h1, h2, hscr, hpat, h3⟩ := r
  simp only at hls h1 h2 h3 hscr hpat
  obtain rfl : M = most := h1.symm
  obtain rfl : W = wher := h2.symm
  obtain rfl : O = older := h3.symm
  obtain ⟨la, ln, lc, rfl, hl1, hl2, hl3, hl4, hl5⟩ := hvs
  obtain ⟨sa, sn, sc, rfl, hs1, hs2, hs3, hs4, hs5⟩ := hscr
  obtain ⟨pa, pn, pc, rfl, hp1, hp2, hp3, hp4, hp5⟩ := hpat
  have hll : ls.length = ln := by rw [← hls.len]; exact hl1
  have HRT := Lib.hid (fun W' r => hist_check (.slice la ln lc) M W (.slice sa sn sc) (.slice pa pn pc) O ⟨ls, M, W, scr, pat, O⟩ W' r)
  have HCP := Lib.hid (fun W' r => hist_copied (.slice la ln lc) M W (.slice sa sn sc) (.slice pa pn pc) O ⟨ls, M, W, scr, pat, O⟩ W' r (by show ls.length ≤ 50; omega) HLL200.out HS200.out HP200.out)
  rw [hll] at hlm
  obtain ⟨n, rfl⟩ : ∃ n : Nat, M = (n : Int) := ⟨M.toNat, by omega⟩
  have hn1 : 1 ≤ n := by omega
  have hn50 : n ≤ 50 := by omega
  have hlnn : ln ≤ n := by omega
  have hnn2 : nn ≤ 17592186044416 := by omega
  clear hm1 hm2 hlm
  have HLN := Lib.hid hll
  unfold hiC at *
  have hB := (Blk.new w #[.slice la ln lc, .int .i64 (n : Int), .int .i64 W, .slice sa sn sc, .slice pa pn pc, .bool O] 48).alloc (.cells #[.slice none 0 0, .int .i64 0, .int .i64 0, .slice none 0 0, .slice none 0 0, .bool false] 48)
  have hR := Blk.new (w.alloc (.cells #[.slice la ln lc, .int .i64 (n : Int), .int .i64 W, .slice sa sn sc, .slice pa pn pc, .bool O] 48)) #[.slice none 0 0, .int .i64 0, .int .i64 0, .slice none 0 0, .slice none 0 0, .bool false] 48
  rw [World.size_alloc] at hR
  have hacc := below2 w (.cells #[.slice la ln lc, .int .i64 (n : Int), .int .i64 W, .slice sa sn sc, .slice pa pn pc, .bool O] 48) (.cells #[.slice none 0 0, .int .i64 0, .int .i64 0, .slice none 0 0, .slice none 0 0, .bool false] 48)
  have hsz : w.heap.size + 2 ≤ ((w.alloc (.cells #[.slice la ln lc, .int .i64 (n : Int), .int .i64 W, .slice sa sn sc, .slice pa pn pc, .bool O] 48)).alloc (.cells #[.slice none 0 0, .int .i64 0, .int .i64 0, .slice none 0 0, .slice none 0 0, .bool false] 48)).heap.size := by simp
  have HR1 := Lib.hid (HR0.out.below hacc)
  clear hs1 hp1 hl1 hl5 hs5 hp5 hll hls HR0
  go_enter Try.func28, Try.ntmps28
  go_upto_region 1 with fail
  change Code.wp _ _ _ _ ((w.alloc (.cells #[.slice la ln lc, .int .i64 (n : Int), .int .i64 W, .slice sa sn sc, .slice pa pn pc, .bool O] 48)).alloc (.cells #[.slice none 0 0, .int .i64 0, .int .i64 0, .slice none 0 0, .slice none 0 0, .bool false] 48))
  generalize ((w.alloc (.cells #[.slice la ln lc, .int .i64 (n : Int), .int .i64 W, .slice sa sn sc, .slice pa pn pc, .bool O] 48)).alloc (.cells #[.slice none 0 0, .int .i64 0, .int .i64 0, .slice none 0 0, .slice none 0 0, .bool false] 48)) = w1 at *
  obtain ⟨c0, c1, c2, c3, c4, c5⟩ := hB.six
  go_wp2_with ((go_at_call 30); refine (HRT.out _ HR1.out).mono ?_; rintro e wc ⟨rfl, hb2⟩; rw [HE.out]; have hB2 := hB.below hb2 hB.lt; obtain ⟨d0, d1, d2, d3, d4, d5⟩ := hB2.six; have hR2 := hR.below hb2 hR.lt; obtain ⟨p0, p1, p2, p3, p4, p5⟩ := hR2.six; obtain ⟨t0, t1, t2, t3, t4, t5⟩ := hR2.sixf; have hacc2 := below_then hacc (by omega) hb2; have hlt2 := hB2.lt; have hz2 := hb2.size; have HR2 := Lib.hid (HR1.out.below hb2))
  refine (HCP.out _ HR2.out).mono ?_
  rintro e w2 ⟨lv2, sv2, pv2, vs2, rfl, ho2, hol2, os2, op2, hb3⟩
  obtain ⟨ra, rn, rc, rfl⟩ := ho2.form
  obtain ⟨ta, tn, tc, rfl⟩ := os2.form
  obtain ⟨ua, un, uc, rfl⟩ := op2.form
  have hacc3 := below_then hacc2 (by omega) hb3
  have hB3 := hB2.below hb3 hB2.lt
  have hR3 := hR2.below hb3 hR2.lt
  have hz3 := hb3.size
  have ho2' := ho2.mono (base' := w.heap.size + 2) (by omega)
  have hol2' := hol2.imp (base' := w.heap.size + 2) fun _ _ k => k.mono (by omega)
  have op2' := op2.mono (base' := w.heap.size + 2) (by omega)
  have HO2 := Lib.hid ho2'; have HOL2 := Lib.hid hol2'; have HOP2 := Lib.hid op2'
  simp only [hiC]
  clear ho2 hol2 os2 op2 ho2' hol2' op2' c0 c1 c2 c3 c4 c5 d0 d1 d2 d3 d4 d5 p0 p1 p2 p3 p4 p5 t0 t1 t2 t3 t4 t5
  have hN3 := Blk.new w2 #[.slice ra rn rc, .int .i64 (n : Int), .int .i64 W, .slice ta tn tc, .slice ua un uc, .bool O] 48
  have hk3 := below1 w2 (.cells #[.slice ra rn rc, .int .i64 (n : Int), .int .i64 W, .slice ta tn tc, .slice ua un uc, .bool O] 48)
  have hz4 : (w2.alloc (.cells #[.slice ra rn rc, .int .i64 (n : Int), .int .i64 W, .slice ta tn tc, .slice ua un uc, .bool O] 48)).heap.size = w2.heap.size + 1 := by simp
  have hB4 := hB3.alloc (.cells #[.slice ra rn rc, .int .i64 (n : Int), .int .i64 W, .slice ta tn tc, .slice ua un uc, .bool O] 48)
  have hR4 := hR3.alloc (.cells #[.slice ra rn rc, .int .i64 (n : Int), .int .i64 W, .slice ta tn tc, .slice ua un uc, .bool O] 48)
  go_upto_region 7 with fail
  change Code.wp _ _ _ _ (w2.alloc (.cells #[.slice ra rn rc, .int .i64 (n : Int), .int .i64 W, .slice ta tn tc, .slice ua un uc, .bool O] 48))
  generalize (w2.alloc (.cells #[.slice ra rn rc, .int .i64 (n : Int), .int .i64 W, .slice ta tn tc, .slice ua un uc, .bool O] 48)) = w3 at *
  have hacc4 := below_then hacc3 (by omega) hk3
  obtain ⟨c0, c1, c2, c3, c4, c5⟩ := hB4.six
  go_wp2_with fail
  refine (vring_new n hn1 (by omega) w3).mono ?_
  rintro e w4 ⟨p, g, rfl, hring, hp3, hg3, hb4⟩
  have hacc5 := below_then hacc4 (by omega) hb4
  have hz5 := hb4.size
  have hN4 := hN3.below hb4 hN3.lt
  have hB5 := hB4.below hb4 hB4.lt
  have hR5 := hR4.below hb4 hR4.lt
  have hk4 : Below w2.heap.size w2 w4 := below_then hk3 (by omega) hb4
  have HO4 := Lib.hid (HO2.out.kept hk4)
  have HRG := Lib.hid hring
  have hpg : p ≠ g := hring.2.2.2.1
  have hpl := hring.1.lt
  have hgl := hring.2.1.lt
  have hx4 := hx.below hacc5
  have hrn : vs2.length = rn := HO2.out.vs.get.1
  have hrl : vs2.length = ls.length := HOL2.out.1
  have hrln : rn = ln := by rw [← HLN.out]; omega
  have HVL2 := Lib.hid (show vs2.length = ln by omega)
  have HRLN := Lib.hid hrln
  have hrnn : rn ≤ n := by omega
  clear hring hrn hrl hrln c0 c1 c2 c3 c4 c5 hB5
  obtain ⟨n0, n1, n2, n3, n4, n5⟩ := hN4.six
  go_upto_region 9 with fail
  have hsls1 : ∀ a n c, Sls [Value.slice a n c] := fun a n c i hi => by
    obtain rfl : i = 0 := by simp at hi; omega
    exact ⟨a, n, c, rfl⟩
  have HSLS := Lib.hid hsls1
  have HLEN := Lib.hid (show vs2.length + 1 ≤ 4398046511104 by rw [HVL2.out]; omega)
  clear hsls1
  first
  | go_region_law (first | (go_simp; go_at_call 98; ((with_reducible refine (slices_clone a nn c xs w4.drew hx4.drew HXN.out hnn2 HX0.out).mono ?_)); rintro e w5 ⟨v5, rfl, own5, hb5⟩; obtain ⟨a5, n5', c5', rfl⟩ := own5.form; have hN5 := hN4.drew.below hb5 hN4.lt; obtain ⟨f0, f1, f2, f3, f4, f5⟩ := hN5.six; obtain ⟨fa0, fa1, fa2, fa3, fa4, fa5⟩ := (hN5.alloc (.cells #[.slice a5 n5' c5'] 22)).six; have HO5 := Lib.hid (VOwn.kept (w := w4.drew) (HO4.out.drew) hb5)) | (refine step_vapp_at (by rfl) _ _ rfl (w.heap.size + 2) (.slice ra rn rc) vs2 [.slice a5 n5' c5'] _ 1 1 rfl rfl (HO5.out.alloc _) (vals_lit w5 [.slice a5 n5' c5'] _) (HSLS.out _ _ _) rfl HLEN.out (by have := hb5.size; simp at this ⊢; omega) ?_; intro v9 w9 o9 hgrow9 hat9; obtain ⟨a9, n9, c9, rfl⟩ := o9.form))
  | fail "region"
  all_goals
    have hb5' : Below w4.heap.size w4 w5 := below_then (Below.refl _ _).drew (Nat.le_refl _) hb5
    have hz6 := hb5'.size
    have hz7 : (w5.alloc (.cells #[.slice a5 n5' c5'] 22)).heap.size = w5.heap.size + 1 := by simp
    have hneP : some p ≠ (Value.slice ra rn rc).ownBlock := HO2.out.neOf (by omega)
    have hneG : some g ≠ (Value.slice ra rn rc).ownBlock := HO2.out.neOf (by omega)
    have hneN : some w2.heap.size ≠ (Value.slice ra rn rc).ownBlock := HO2.out.neOf (Nat.le_refl _)
    have hneR : some (w.heap.size + 1) ≠ (Value.slice ra rn rc).ownBlock := HO2.out.ne (by omega)
    have HRG9 := Lib.hid (show RingV w9 p g n 0 0 (List.replicate n (.slice none 0 0)) from ⟨((HRG.out.1.below hb5' hpl).alloc _).grown hgrow9 hneP, ((HRG.out.2.1.below hb5' hgl).alloc _).grown hgrow9 hneG, HRG.out.2.2⟩)
    have hN9 := (hN5.alloc (.cells #[.slice a5 n5' c5'] 22)).grown hgrow9 hneN
    have hR9 := ((hR5.below hb5' (by omega)).alloc (.cells #[.slice a5 n5' c5'] 22)).grown hgrow9 hneR
    have hacc9 : Below w.heap.size w w9 := ((below_then hacc5 (by omega) hb5').alloc (by omega) (.cells #[.slice a5 n5' c5'] 22)).grown hgrow9 (by omega) (fun k hk => by have := HO2.out.row k hk; omega)
    have hsz9 : w5.heap.size + 1 ≤ w9.heap.size := by have := hgrow9.size; omega
    have hown9 : ∀ v ys, Own 3 (w.heap.size + 2) w2 v ys → Own 3 (w.heap.size + 2) w9 v ys := fun v ys h =>
      ((Own.kept (h.kept hk4) hb5').alloc (.cells #[.slice a5 n5' c5'] 22)).beside (HO5.out.alloc _) (by decide) hgrow9
    have hcl9 : Own 3 w4.heap.size w9 (.slice a5 n5' c5') xs := (own5.alloc (.cells #[.slice a5 n5' c5'] 22)).beside (HO5.out.alloc _) (by decide) hgrow9
    have HALL := Lib.hid (show ListsP (fun k => w.heap.size + 2 ≤ k ∧ k ≠ w2.heap.size ∧ k ≠ p ∧ k ≠ g) w9 (vs2 ++ [.slice a5 n5' c5']) (ls ++ [xs]) from
      ListsP.append ⟨HOL2.out.1, fun i hi => ((HOL2.out.2 i hi).slpIn (hown9 _ _ (HOL2.out.2 i hi))).imp (fun k hk => by omega)⟩ (ListsP.one (hcl9.slp.imp (fun k hk => by omega))))
    have HPAT := Lib.hid ((HOP2.out.slpIn (hown9 _ _ HOP2.out)).imp (Q := fun k => w.heap.size + 2 ≤ k ∧ k ≠ w2.heap.size ∧ k ≠ p ∧ k ≠ g) (fun k hk => by omega))
    have HROW := Lib.hid (o9.vspAt.imp (Q := fun k => k ≠ p ∧ k ≠ g) (fun k hk => by
      rcases hat9 with h | h
      · rw [h] at hk; have := World.ownsRow.lt HO2.out k hk; omega
      · rw [h] at hk; simp only [Option.some.injEq] at hk; omega))
    have hn9 : n9 = ln + 1 := by have := o9.vs.get.1; simp only [List.length_append, List.length_cons, List.length_nil] at this; have := HVL2.out; omega
    have HN9L := Lib.hid (show (vs2 ++ [Value.slice a5 n5' c5']).length = n9 from o9.vs.get.1)
    have HXL := Lib.hid (show (ls ++ [xs]).length = n9 by rw [← HALL.out.1]; exact HN9L.out)
    have HN9E := Lib.hid hn9
    have hn9n : n9 ≤ n + 1 := by omega
    clear hn9 hat9 own5 o9 hcl9 hown9 hgrow9 hneP hneG hneN hneR f0 f1 f2 f3 f4 f5 fa0 fa1 fa2 fa3 fa4 fa5 n0 n1 n2 n3 n4 n5
    have HALS := Lib.hid (show ∃ al : List Value, vs2 ++ [Value.slice a5 n5' c5'] = al from ⟨_, rfl⟩)
    obtain ⟨al, hal⟩ := HALS.out
    rw [hal] at HALL HROW HN9L
    clear HALS
    have HAL := Lib.hid hal
    clear hal
    simp only [List.getElem_toArray, List.getElem_cons_succ, List.getElem_cons_zero, Act.put, List.setIfInBounds_toArray, List.set_cons_succ, List.set_cons_zero]
    go_wp2
    go_loopw [36] (fun i wr => ∃ k : Nat, i = .int .i64 (k : Int) ∧ k ≤ n9 ∧ Hid (PushP wr p g n al k) ∧ But2 p g w9 wr ∧ Below w.heap.size w wr) (fun i _ => n9 - (intOf i).toNat)
    case atStart => exact ⟨0, rfl, by omega, .inl ⟨by omega, _, HRG9.out, fun i hi => by omega⟩, But2.refl _ _ _, hacc9⟩
    case round =>
      obtain ⟨k, rfl, hk, HPU, hbut, haccr⟩ := hrel
      by_cases hlt : k < n9
      · obtain ⟨va, vn, vc, hv1, hv2, hv3, hv4, hv5, hv6, hv7⟩ := HROW.out.keep (w' := wr) (fun q v hq hc => hbut.cell hq.1 hq.2 hc)
        simp only [Value.slice.injEq] at hv1
        obtain ⟨rfl, rfl, rfl⟩ := hv1
        obtain ⟨b1, o1, rfl, hc⟩ := hv5.at (k := k) (by rw [HN9L.out]; exact hlt)
        have e1 := hc k (by rw [HN9L.out]; exact hlt)
        obtain ⟨ya, yn, yc, hy⟩ := (HALL.out.2 k (by rw [HXL.out]; exact hlt)).form
        rw [hy] at e1
        have HY := Lib.hid hy
        clear hc hv2 hv3 hv4 hv5 hv6 hv7 hy
        rcases HPU with ⟨hkn, slots, hr, hs⟩ | ⟨hkn, slots, hr, hs0, hs⟩
        · rcases Nat.lt_or_ge k n with hkn' | hkn'
          · have HS := Lib.hid hs
            have hpl' : place n 0 k = k := by unfold place; split <;> omega
            have HPR := Lib.hid (vring_push1 p n 0 k g ya yn yc wr slots hr (by omega) hkn' (by omega))
            have HR := Lib.hid hr
            rw [hpl'] at HPR
            clear hs hr hpl'
            go_wp2_with ((go_at_call 99); refine HPR.out.mono ?_; rintro e w' ⟨rfl, q, rfl⟩)
            go_roundw
            case rel => exact ⟨k + 1, by go_num, by omega, .inl ⟨by omega, _, HR.out.push1 ⟨ya, yn, yc, rfl⟩ q k, fun i hi => by
              by_cases e : k = i
              · subst e; rw [vx_set_eq (by rw [HR.out.2.2.1]; exact hkn'), HY.out]
              · rw [vx_set_ne e]; exact HS.out i (by omega)⟩, ((hbut.set (a := ⟨g, k, none⟩) (.inr rfl) _).set (a := ⟨p, 2, none⟩) (.inl rfl) _).drewN q, below_drewN ((haccr.setCell (p := ⟨g, k, none⟩) (by show w.heap.size ≤ g; omega) _).setCell (p := ⟨p, 2, none⟩) (by show w.heap.size ≤ p; omega) _) q⟩
            case measure => simp [intOf]; omega
          · obtain rfl : k = n := by omega
            have HS := Lib.hid hs
            have HPR := Lib.hid (vring_push2 p k 0 g ya yn yc wr slots hr (by omega) (by omega))
            have HR := Lib.hid hr
            clear hs hr
            go_wp2_with ((go_at_call 99); refine HPR.out.mono ?_; rintro e w' ⟨rfl, q, rfl⟩)
            go_roundw
            case rel => exact ⟨k + 1, by go_num, by omega, .inr ⟨rfl, _, HR.out.push2 ⟨ya, yn, yc, rfl⟩ q 0 (place k 0 1), by rw [vx_set_eq (by rw [HR.out.2.2.1]; omega), HY.out], fun i h1 h2 => by
              rw [vx_set_ne (by omega)]; exact HS.out i h2⟩, ((hbut.set (a := ⟨g, 0, none⟩) (.inr rfl) _).set (a := ⟨p, 1, none⟩) (.inl rfl) _).drewN q, below_drewN ((haccr.setCell (p := ⟨g, 0, none⟩) (by show w.heap.size ≤ g; omega) _).setCell (p := ⟨p, 1, none⟩) (by show w.heap.size ≤ p; omega) _) q⟩
            case measure => simp [intOf]; omega
        · omega
      · have hkn : k = n9 := by omega
        subst hkn
        obtain ⟨f, s, slots, hr, hf, hs, hrv⟩ := HPU.list HN9L.out hn1
        have HRV := Lib.hid hrv
        have HLI := Lib.hid (vring_list p n f s g wr slots hr hf hs (by omega))
        have hNr := hbut.blk (B := w2.heap.size) (by omega) (by omega) hN9
        have hRr := hbut.blk (B := w.heap.size + 1) (by omega) (by omega) hR9
        have hzr : wr.heap.size = w9.heap.size := hbut.1
        have HAr := Lib.hid (HALL.out.imp (Q := fun k => w.heap.size + 2 ≤ k ∧ k ≠ w2.heap.size) (w' := wr) (fun v ys h => (h.keep (w' := wr) (fun q v hq hc => hbut.cell hq.2.2.1 hq.2.2.2 hc)).imp (fun k hk => ⟨hk.1, hk.2.1⟩)))
        have HPr := Lib.hid ((HPAT.out.keep (w' := wr) (fun q v hq hc => hbut.cell hq.2.2.1 hq.2.2.2 hc)).imp (Q := fun k => w.heap.size + 2 ≤ k ∧ k ≠ w2.heap.size) (fun k hk => ⟨hk.1, hk.2.1⟩))
        clear hrv hr
        go_wp2_with ((go_at_call 100); refine HLI.out.mono ?_; rintro e w10 ⟨v10, rfl, own10, hb10⟩; obtain ⟨b10, m10, c10, rfl⟩ := own10.form; have HO10 := Lib.hid own10; have hN10 := hNr.below hb10 hNr.lt; have hR10 := hRr.below hb10 hRr.lt; have hz10 := hb10.size; have hacc10 := below_then haccr (by omega) hb10; clear own10; obtain ⟨n0, n1, n2, n3, n4, n5⟩ := hN10.six; obtain ⟨m0, m1, m2, m3, m4, m5⟩ := hN10.sixf; obtain ⟨p0, p1, p2, p3, p4, p5⟩ := hR10.six; obtain ⟨t0, t1, t2, t3, t4, t5⟩ := hR10.sixf)
        have hR11 := ((hR10.other (a := ⟨w2.heap.size, 0, none⟩) (by show w.heap.size + 1 ≠ w2.heap.size; omega) (.slice b10 m10 c10)).other (a := ⟨w2.heap.size, 2, none⟩) (by show w.heap.size + 1 ≠ w2.heap.size; omega) (.int .i64 (m10 : Int))).other (a := ⟨w2.heap.size, 3, none⟩) (by show w.heap.size + 1 ≠ w2.heap.size; omega) (.slice none 0 0)
        obtain ⟨y0, y1, y2, y3, y4, y5⟩ := (hR11.six' (.slice b10 m10 c10) (.int .i64 (n : Int)) (.int .i64 (m10 : Int)) (.slice none 0 0) (.slice ua un uc) (.bool O)).six
        refine bodyPost_ret (v := .tuple #[.agg (hiC (.slice b10 m10 c10) (n : Int) (m10 : Int) (.slice none 0 0) (.slice ua un uc) O), .int .i64 0]) (by simp [results, Try.results28, go_sem, y0, y1, y2, y3, y4, y5, hiC]) rfl ?_
        have hxs : xs ≠ [] := by have := HXN.out; rintro rfl; simp at this; omega
        have hlsl : ls.length = ln := HLN.out
        have hkl : k = ln + 1 := HN9E.out
        have hAL2 : ListsP (fun k => w.heap.size + 2 ≤ k ∧ k ≠ w2.heap.size) wr (ringVs n f s slots) (addLs ⟨ls, (n : Int), W, scr, pat, O⟩ xs) := by
          rw [HRV.out]
          unfold addLs
          rw [if_neg hxs]
          simp only
          by_cases hc : n < k
          · rw [if_pos hc, if_pos (by omega)]; exact HAr.out.drop 1
          · rw [if_neg hc, if_neg (by omega)]; exact HAr.out
        have hml : m10 = (addLs ⟨ls, (n : Int), W, scr, pat, O⟩ xs).length := by
          rw [← hAL2.1]; exact HO10.out.vs.get.1.symm
        have hAH : addH ⟨ls, (n : Int), W, scr, pat, O⟩ xs = ⟨addLs ⟨ls, (n : Int), W, scr, pat, O⟩ xs, (n : Int), (m10 : Int), [], pat, O⟩ := by
          unfold addH; rw [hml]
        rw [hAH]
        have hacc11 := ((hacc10.setCell (p := ⟨w2.heap.size, 0, none⟩) (by show w.heap.size ≤ w2.heap.size; omega) (.slice b10 m10 c10)).setCell (p := ⟨w2.heap.size, 2, none⟩) (by show w.heap.size ≤ w2.heap.size; omega) (.int .i64 (m10 : Int))).setCell (p := ⟨w2.heap.size, 3, none⟩) (by show w.heap.size ≤ w2.heap.size; omega) (.slice none 0 0)
        have hcl := fun (q : Addr) (v : Value) (hq : w.heap.size + 2 ≤ q.block ∧ q.block ≠ w2.heap.size) (hc : w10.cell? q = some v) =>
          cell6 (B := w.heap.size + 1) (u0 := .slice b10 m10 c10) (u1 := .int .i64 (n : Int)) (u2 := .int .i64 (m10 : Int)) (u3 := .slice none 0 0) (u4 := .slice ua un uc) (u5 := .bool O) (cell_other (cell_other (cell_other hc (a := ⟨w2.heap.size, 0, none⟩) (u := .slice b10 m10 c10) hq.2) (a := ⟨w2.heap.size, 2, none⟩) (u := .int .i64 (m10 : Int)) hq.2) (a := ⟨w2.heap.size, 3, none⟩) (u := .slice none 0 0) hq.2) (by omega)
        exact ⟨_, _, _, rfl, ⟨⟨ringVs n f s slots, ((HO10.out.vsp.imp (Q := fun k => w.heap.size + 2 ≤ k ∧ k ≠ w2.heap.size) (fun k hk => by omega)).keep hcl).imp (fun k hk => by omega), hAL2.imp (fun v ys h => ((h.below hb10).keep hcl).imp (fun k hk => by omega))⟩, rfl, rfl, SlP.nil _ _, ((HPr.out.below hb10).keep hcl).imp (fun k hk => by omega), rfl⟩, below6 hacc11 (Nat.le_succ _)⟩

end Go.Proofs.Ytmipnikhgihcpaa
