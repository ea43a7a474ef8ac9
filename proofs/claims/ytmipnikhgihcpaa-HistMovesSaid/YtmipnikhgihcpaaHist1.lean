/- Histories: what they read as; contract of hist.Check. -/
import Derived.Test.YtmipnikhgihcpaaVRow
import Derived.Test.YtmipnikhgihcpaaKeep
import Derived.Deep.RegionHeld3
import Derived.Deep.RegionLaw
import Derived.Deep.DeepCutAuto
import Derived.Deep.CutBlock
namespace Go.Proofs.Ytmipnikhgihcpaa
open Go.RowKit
set_option linter.unusedVariables false
set_option linter.unusedSimpArgs false

structure Hi where
  ls : List (List Int)
  most : Int
  wher : Int
  scr : List Int
  pat : List Int
  older : Bool
/-- the cells of a history -/
def hiC (lv : Value) (most wher : Int) (sv pv : Value) (older : Bool) : Array Value := #[lv, .int .i64 most, .int .i64 wher, sv, pv, .bool older]
/-- a history by value reads as h -/
structure HiR (w : World) (lv : Value) (most wher : Int) (sv pv : Value) (older : Bool) (h : Hi) : Prop where
  ls : ∃ vs, Vs w lv vs ∧ Lists w vs h.ls
  most : most = h.most
  wher : wher = h.wher
  scr : Sl w sv h.scr
  pat : Sl w pv h.pat
  older : older = h.older
theorem HiR.keep {w w' : World} {lv : Value} {most wher : Int} {sv pv : Value} {older : Bool} {h : Hi} (r : HiR w lv most wher sv pv older h) (hc : ∀ p v, w.cell? p = some v → w'.cell? p = some v) : HiR w' lv most wher sv pv older h := by
  obtain ⟨vs, h1, h2⟩ := r.ls
  exact ⟨⟨vs, h1.keep hc, h2.keep hc⟩, r.most, r.wher, r.scr.keep hc, r.pat.keep hc, r.older⟩
theorem HiR.below {w w' : World} {lv : Value} {most wher : Int} {sv pv : Value} {older : Bool} {h : Hi} (r : HiR w lv most wher sv pv older h) (hb : Below w.heap.size w w') : HiR w' lv most wher sv pv older h := r.keep (below_keeps hb)

def longL (l : List Int) : Bool := decide (200 < l.length)
/-- Check's answer -/
def hiE (h : Hi) : Int :=
  if h.most < 1 ∨ 50 < h.most ∨ h.most < h.ls.length ∨ h.wher < 0 ∨ (h.ls.length : Int) < h.wher then 1
  else if h.ls.any longL || longL h.scr || longL h.pat then 2 else 0

theorem Blk.six {w : World} {B : Nat} {u0 u1 u2 u3 u4 u5 : Value} {e : TypeId} (h : Blk w B #[u0, u1, u2, u3, u4, u5] e) : w.cell? ⟨B, 0, none⟩ = some u0 ∧ w.cell? ⟨B, 1, none⟩ = some u1 ∧ w.cell? ⟨B, 2, none⟩ = some u2 ∧ w.cell? ⟨B, 3, none⟩ = some u3 ∧ w.cell? ⟨B, 4, none⟩ = some u4 ∧ w.cell? ⟨B, 5, none⟩ = some u5 := ⟨h.cell 0, h.cell 1, h.cell 2, h.cell 3, h.cell 4, h.cell 5⟩

theorem any3 {α : Type} (p : α → Bool) (l : List α) (a b : α) : (l ++ [a, b]).any p = (l.any p || p a || p b) := by simp [List.any_append, Bool.or_assoc]
theorem rx_mem {X : List (List Int)} {i : Nat} (h : i < X.length) : rx X i ∈ X := by rw [rx_at h]; exact List.getElem_mem h
theorem any_snoc {α : Type} (p : α → Bool) (l : List α) (a : α) : (l ++ [a]).any p = (l.any p || p a) := by simp [List.any_append]

set_option maxRecDepth 100000 in
set_option maxHeartbeats 2000000 in
theorem hist_check (lv : Value) (most wher : Int) (sv pv : Value) (older : Bool) (h : Hi) (w : World) (r : HiR w lv most wher sv pv older h) :
    Calls Try.prog 30 #[.agg (hiC lv most wher sv pv older)] w fun e w' => e = .returned (.int .i64 (hiE h)) ∧ Below w.heap.size w w' := by
  obtain ⟨⟨vs, hvs, hls⟩, rfl, rfl, hscr, hpat, rfl⟩ := r
  obtain ⟨la, ln, lc, rfl, hl1, hl2, hl3, hl4, hl5⟩ := hvs
  obtain ⟨sa, sn, sc, rfl, hs1, hs2, hs3, hs4, hs5⟩ := hscr
  obtain ⟨pa, pn, pc, rfl, hp1, hp2, hp3, hp4, hp5⟩ := hpat
  have hll : h.ls.length = ln := by rw [← hls.len]; exact hl1
  unfold hiC
  have hB := Blk.new w #[.slice la ln lc, .int .i64 h.most, .int .i64 h.wher, .slice sa sn sc, .slice pa pn pc, .bool h.older] 48
  obtain ⟨c0, c1, c2, c3, c4, c5⟩ := hB.six
  have hacc := below1 w (.cells #[.slice la ln lc, .int .i64 h.most, .int .i64 h.wher, .slice sa sn sc, .slice pa pn pc, .bool h.older] 48)
  have hE1 : hiE h = if h.most < 1 ∨ 50 < h.most ∨ h.most < ln ∨ h.wher < 0 ∨ (ln : Int) < h.wher then 1 else if h.ls.any longL || longL h.scr || longL h.pat then 2 else 0 := by rw [hiE, hll]
  by_cases hbad : h.most < 1 ∨ 50 < h.most ∨ h.most < ln ∨ h.wher < 0 ∨ (ln : Int) < h.wher
  · rw [hE1, if_pos hbad]
    have hd : h.most < 1 ∨ (1 ≤ h.most ∧ 50 < h.most) ∨ (1 ≤ h.most ∧ h.most ≤ 50 ∧ h.most < ln) ∨ (1 ≤ h.most ∧ h.most ≤ 50 ∧ (ln : Int) ≤ h.most ∧ h.wher < 0) ∨ (1 ≤ h.most ∧ h.most ≤ 50 ∧ (ln : Int) ≤ h.most ∧ 0 ≤ h.wher ∧ (ln : Int) < h.wher) := by omega
    clear hE1 hbad hl1 hs1 hp1 hl5 hs5 hp5 hll
    generalize h.most = M at *
    generalize h.wher = W at *
    rcases hd with h1 | ⟨h1, h2⟩ | ⟨h1, h2, h3⟩ | ⟨h1, h2, h3, h4⟩ | ⟨h1, h2, h3, h4, h5⟩
    all_goals
      go_enter Try.func30, Try.ntmps30
      go_wp2
      go_ret
      exact ⟨rfl, hacc⟩
  · rw [if_neg hbad] at hE1
    have hd : 1 ≤ h.most ∧ h.most ≤ 50 ∧ (ln : Int) ≤ h.most ∧ 0 ≤ h.wher ∧ h.wher ≤ (ln : Int) := by omega
    obtain ⟨g1, g2, g3, g4, g5⟩ := hd
    have hln : ln ≤ 50 := by omega
    have hln2 : ln ≤ 4398046511104 := by omega
    have HE := Lib.hid hE1; have HL := Lib.hid hl1; have HS1 := Lib.hid hs1; have HP1 := Lib.hid hp1; have HL5 := Lib.hid hl5; have HLL := Lib.hid hll; have HSL := Lib.hid hls.sls
    have HSC := Lib.hid (show Sl ((w.alloc (.cells #[.slice la ln lc, .int .i64 h.most, .int .i64 h.wher, .slice sa sn sc, .slice pa pn pc, .bool h.older] 48))) (.slice sa sn sc) h.scr from Sl.below (w := w) ⟨sa, sn, sc, rfl, hs1, hs2, hs3, hs4, hs5⟩ hacc)
    have HPC := Lib.hid (show Sl ((w.alloc (.cells #[.slice la ln lc, .int .i64 h.most, .int .i64 h.wher, .slice sa sn sc, .slice pa pn pc, .bool h.older] 48))) (.slice pa pn pc) h.pat from Sl.below (w := w) ⟨pa, pn, pc, rfl, hp1, hp2, hp3, hp4, hp5⟩ hacc)
    have HLS := Lib.hid (hls.below hacc)
    clear hE1 hbad hl1 hs1 hp1 hl5 hll
    have hl4' := hl4.below hacc
    have hsz : w.heap.size < (w.alloc (.cells #[.slice la ln lc, .int .i64 h.most, .int .i64 h.wher, .slice sa sn sc, .slice pa pn pc, .bool h.older] 48)).heap.size := by simp
    generalize h.most = M at *
    generalize h.wher = W at *
    go_enter Try.func30, Try.ntmps30
    go_upto_region 1 with fail
    change Code.wp _ _ _ _ (w.alloc (.cells #[.slice la ln lc, .int .i64 M, .int .i64 W, .slice sa sn sc, .slice pa pn pc, .bool h.older] 48))
    generalize (w.alloc (.cells #[.slice la ln lc, .int .i64 M, .int .i64 W, .slice sa sn sc, .slice pa pn pc, .bool h.older] 48)) = w1 at *
    go_wp2
    have hVL : ∀ u : World, Vals (u.alloc (.cells #[.slice sa sn sc, .slice pa pn pc] 22)) (some ⟨u.heap.size, 0, none⟩) [.slice sa sn sc, .slice pa pn pc] := fun u => vals_lit u [.slice sa sn sc, .slice pa pn pc] _
    have HVL := Lib.hid hVL
    have HS2 := Lib.hid (show Sls [.slice sa sn sc, .slice pa pn pc] from fun i hi => by
      rcases (show i = 0 ∨ i = 1 by simp at hi; omega) with rfl | rfl
      · exact ⟨sa, sn, sc, rfl⟩
      · exact ⟨pa, pn, pc, rfl⟩)
    have HLV := Lib.hid (show vs.length + 2 ≤ 4398046511104 by rw [HL.out]; omega)
    clear hVL
    go_region_held3 (fun w' => w'.cell? ⟨w.heap.size, 0, none⟩ = some (.slice la ln lc) ∧ w'.cell? ⟨w.heap.size, 3, none⟩ = some (.slice sa sn sc) ∧ w'.cell? ⟨w.heap.size, 4, none⟩ = some (.slice pa pn pc) ∧ Below w1.heap.size w1 w') (first | exact ⟨c0, c3, c4, (Below.refl _ _).drew⟩ | assumption | exact keepB3 ‹_› (below1 _ _) | exact keepB3 ‹_› ‹_›)
      (first | (refine step_vapp (by rfl) _ _ rfl _ (.slice a2 n2 c2) vs [.slice sa sn sc, .slice pa pn pc] _ 2 2 rfl rfl (own2.alloc _) (HVL.out _) HS2.out rfl HLV.out (Below.size (And.right (And.right (And.right ‹_›)))) ?_; intro v9 w9 o9 hgrow9; have hS9 := keepG3 ‹_› hgrow9 own2.row hsz hsz hsz; obtain ⟨a9, n9, c9, rfl⟩ := o9.form) | (refine step_vapp (by rfl) _ _ rfl _ (.slice a2 n2 c2) vs [.slice sa sn sc, .slice pa pn pc] _ 2 2 rfl rfl own2 ((Vals.drew (HVL.out _)).below hb2) HS2.out rfl HLV.out (Below.size (And.right (And.right (And.right ‹_›)))) ?_; intro v9 w9 o9 hgrow9; have hS9 := keepG3 ‹_› hgrow9 own2.row hsz hsz hsz; obtain ⟨a9, n9, c9, rfl⟩ := o9.form) | (go_at_call 101; ((with_reducible refine (slices_vclone_b w1.heap.size la ln lc vs _ (hl4'.below (And.right (And.right (And.right ‹_›)))) (Below.size (And.right (And.right (And.right ‹_›)))) HSL.out HL.out hln2 HL5.out).mono ?_); rintro e w2 ⟨v2, rfl, own2, hb2⟩; obtain ⟨a2, n2, c2, rfl⟩ := own2.form)))
    all_goals
      have hS : Below w1.heap.size w1 w9 := And.right (And.right (And.right hS9))
      have hLi : Lists w9 (vs ++ [.slice sa sn sc, .slice pa pn pc]) (h.ls ++ [h.scr, h.pat]) := (HLS.out.below hS).append ((Lists.one (HSC.out.below hS)).append (Lists.one (HPC.out.below hS)))
      obtain ⟨z1, z2, z3, z4, z5⟩ := o9.vs.get
      have HLI := Lib.hid hLi; have HZ := Lib.hid z1
      have hn9 : n9 ≤ 52 := by rw [← z1, List.length_append, HL.out]; simp; omega
      have HNX := Lib.hid (show (h.ls ++ [h.scr, h.pat]).length = n9 by rw [← hLi.len]; exact z1)
      have hbb := below_then hacc (Nat.le_of_lt hsz) hS
      clear hLi z1 z5 hS9
      go_wp2
      go_loop [44] (fun iv => ∃ k : Nat, iv = .int .i64 (k : Int) ∧ k ≤ n9 ∧ ∀ j, j < k → longL (rx (h.ls ++ [h.scr, h.pat]) j) = false) (fun iv => n9 - (intOf iv).toNat)
      case atStart => exact ⟨0, rfl, by omega, fun j hj => by omega⟩
      case round =>
        obtain ⟨k, rfl, hk, hno⟩ := hrel
        have HO := Lib.hid hno; clear hno
        by_cases hlt : k < n9
        · obtain ⟨b1, o1, rfl, hc⟩ := z4.at (k := k) (by rw [HZ.out]; exact hlt)
          have e1 := hc k (by rw [HZ.out]; exact hlt)
          obtain ⟨xa, xn, xc, x1, x2, x3, x4, x5, x6⟩ := HLI.out.sl k (by rw [HNX.out]; exact hlt)
          rw [x1] at e1
          have HX := Lib.hid x2
          clear hc z4 x1 x2 x6
          by_cases hlong : 200 < xn
          · have HR := Lib.hid (show hiE h = 2 by
              rw [HE.out]
              have hh : (h.ls ++ [h.scr, h.pat]).any longL = true := by
                rw [List.any_eq_true]
                exact ⟨_, rx_mem (by rw [HNX.out]; exact hlt), by simp [longL, HX.out, hlong]⟩
              rw [any3] at hh
              rw [if_pos hh])
            go_wp2
            go_ret
            exact ⟨ret1_int HR.out.symm, hbb⟩
          · have HN := Lib.hid (show longL (rx (h.ls ++ [h.scr, h.pat]) k) = false by simp [longL, HX.out]; omega)
            go_wp2
            go_round
            case rel => exact ⟨k + 1, by go_num, by omega, fun j hj => by
              rcases Nat.lt_succ_iff_lt_or_eq.1 hj with h | rfl
              · exact HO.out j h
              · exact HN.out⟩
            case measure => simp [intOf]; omega
        · obtain rfl : k = n9 := by omega
          have HR := Lib.hid (show hiE h = 0 by
            rw [HE.out]
            have hh : (h.ls ++ [h.scr, h.pat]).any longL = false := by
              rw [List.any_eq_false]
              intro x hx
              obtain ⟨j, hj, rfl⟩ := List.mem_iff_getElem.1 hx
              have := HO.out j (by rw [HNX.out] at hj; exact hj)
              rw [rx_at hj] at this
              simpa using this
            rw [any3] at hh
            rw [if_neg (by simp [hh])])
          go_wp2
          go_ret
          exact ⟨ret1_int HR.out.symm, hbb⟩

end Go.Proofs.Ytmipnikhgihcpaa
