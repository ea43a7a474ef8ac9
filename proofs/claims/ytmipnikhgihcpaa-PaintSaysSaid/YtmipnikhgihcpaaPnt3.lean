/- Contract of paint.Signs for right rows of one width. -/
import Derived.Test.YtmipnikhgihcpaaPnt2
import Derived.Test.YtmipnikhgihcpaaTerm
import Derived.Test.YtmipnikhgihcpaaVRow
import Derived.Deep.RegionHeld3
import Derived.Deep.RegionLaw
import Derived.Deep.CutBlock
namespace Go.Proofs.Ytmipnikhgihcpaa
open Go.RowKit
set_option linter.unusedVariables false
set_option linter.unusedSimpArgs false

theorem Ints.cellA {w : World} {b o : Nat} {xs : List Int} {k : Nat} (h : Ints w (some ⟨b, o, none⟩) xs) (hk : k < xs.length) : w.cell? ⟨b, o + k, none⟩ = some (.int .i64 (ix xs k)) := by
  obtain ⟨b', o', e, hc⟩ := h.at hk
  cases e
  exact hc k hk
theorem plansTo_succ (lo hi full k : Nat) : plansTo lo hi full (k + 1) = plansTo lo hi full k ++ plansAt lo hi (full + k) := rfl
theorem below_cell {base : Nat} {w1 w2 : World} (hb : Below base w1 w2) {p : Addr} (hp : p.block < base) : w2.cell? p = w1.cell? p := by
  unfold World.cell?
  rw [hb.block _ hp]
theorem ps0 {W w1 : World} {a0 a1 a2 : Addr} {u0 u1 u2 : Value} (h : w1.cell? a0 = some u0 ∧ w1.cell? a1 = some u1 ∧ w1.cell? a2 = some u2 ∧ Below W.heap.size W w1) : w1.cell? a0 = some u0 := h.1
theorem ps1 {W w1 : World} {a0 a1 a2 : Addr} {u0 u1 u2 : Value} (h : w1.cell? a0 = some u0 ∧ w1.cell? a1 = some u1 ∧ w1.cell? a2 = some u2 ∧ Below W.heap.size W w1) : w1.cell? a1 = some u1 := h.2.1
theorem pbel {W w1 : World} {a0 a1 a2 : Addr} {u0 u1 u2 : Value} (h : w1.cell? a0 = some u0 ∧ w1.cell? a1 = some u1 ∧ w1.cell? a2 = some u2 ∧ Below W.heap.size W w1) : Below W.heap.size W w1 := h.2.2.2
theorem psz {W w1 : World} {a0 a1 a2 : Addr} {u0 u1 u2 : Value} (h : w1.cell? a0 = some u0 ∧ w1.cell? a1 = some u1 ∧ w1.cell? a2 = some u2 ∧ Below W.heap.size W w1) : W.heap.size ≤ w1.heap.size := h.2.2.2.size
theorem keepP {W w1 w2 : World} {B2 B3 base : Nat} {u0 u1 u2 : Value} (h : w1.cell? ⟨B3, 0, none⟩ = some u0 ∧ w1.cell? ⟨B2, 1, none⟩ = some u1 ∧ w1.cell? ⟨B3, 1, none⟩ = some u2 ∧ Below W.heap.size W w1) (h2 : B2 < W.heap.size) (h3 : B3 < W.heap.size) (hb : Below base w1 w2) (hB : W.heap.size ≤ base) :
    w2.cell? ⟨B3, 0, none⟩ = some u0 ∧ w2.cell? ⟨B2, 1, none⟩ = some u1 ∧ w2.cell? ⟨B3, 1, none⟩ = some u2 ∧ Below W.heap.size W w2 :=
  ⟨(below_cell hb (p := ⟨B3, 0, none⟩) (Nat.lt_of_lt_of_le h3 hB)).trans h.1, (below_cell hb (p := ⟨B2, 1, none⟩) (Nat.lt_of_lt_of_le h2 hB)).trans h.2.1, (below_cell hb (p := ⟨B3, 1, none⟩) (Nat.lt_of_lt_of_le h3 hB)).trans h.2.2.1, h.2.2.2.trans (hb.mono hB)⟩
/-- what is known of two right rows of one width -/
structure PaintPar (A B : List Int) (n full x y lo hi fi la : Nat) : Prop where
  n2 : 2 ≤ n
  n120 : n ≤ 120
  fullp : FullP B n full
  all : RngD A B 0 n x y
  head : RngD A B 0 full lo hi
  tail : RngD A B full n fi la
def SignsPost (V : List Int) (w : World) (e : Ending) (w' : World) : Prop := ∃ v, e = .returned (.tuple #[v, .int .i64 0]) ∧ Sl w' v V ∧ Below w.heap.size w w'

set_option maxRecDepth 100000 in
set_option maxHeartbeats 8000000 in
theorem paint_signs (aa ba : Option Addr) (n ca cb pa pb full x y lo hi fi la : Nat) (A B : List Int) (w : World) (ha : Sl w (.slice aa n ca) A) (hb : Sl w (.slice ba n cb) B) (heA : rowErr A pa = 0) (heB : rowErr B pb = 0) (hpa : pa ≤ n) (hpb : pb ≤ n) (H : PaintPar A B n full x y lo hi fi la) :
    Calls Try.prog 37 #[.agg #[.slice aa n ca, .int .i64 (pa : Int)], .agg #[.slice ba n cb, .int .i64 (pb : Int)]] w (SignsPost (paintV B pa pb x y full lo hi fi la) w) := by
  have HH := Lib.hid H
  have hn2 := H.n2; have hn := H.n120
  have hxn := H.all.yt; have hxy := H.all.xy
  have hlh := H.head.xy; have hhf := H.head.yt; have hfn := H.fullp.le; have hff := H.tail.fx; have hfl := H.tail.xy; have hln := H.tail.yt
  have HA := Lib.hid ha; have HB := Lib.hid hb
  have HEA := Lib.hid heA; have HEB := Lib.hid heB
  have HAN := Lib.hid ha.get.1; have HBN := Lib.hid hb.get.1
  obtain ⟨ab1, ao1, rfl, -⟩ := ha.get.2.2.2.1.at (k := 0) (by rw [HAN.out]; omega)
  obtain ⟨bb1, bo1, rfl, -⟩ := hb.get.2.2.2.1.at (k := 0) (by rw [HBN.out]; omega)
  have hB2 := (Blk.new w #[.slice (some ⟨ab1, ao1, none⟩) n ca, .int .i64 (pa : Int)] 59).alloc (.cells #[.slice (some ⟨bb1, bo1, none⟩) n cb, .int .i64 (pb : Int)] 59)
  have hB3 := Blk.new (w.alloc (.cells #[.slice (some ⟨ab1, ao1, none⟩) n ca, .int .i64 (pa : Int)] 59)) #[.slice (some ⟨bb1, bo1, none⟩) n cb, .int .i64 (pb : Int)] 59
  rw [World.size_alloc] at hB3
  have hacc := below2 w (.cells #[.slice (some ⟨ab1, ao1, none⟩) n ca, .int .i64 (pa : Int)] 59) (.cells #[.slice (some ⟨bb1, bo1, none⟩) n cb, .int .i64 (pb : Int)] 59)
  have hsz : w.heap.size + 2 ≤ ((w.alloc (.cells #[.slice (some ⟨ab1, ao1, none⟩) n ca, .int .i64 (pa : Int)] 59)).alloc (.cells #[.slice (some ⟨bb1, bo1, none⟩) n cb, .int .i64 (pb : Int)] 59)).heap.size := by simp
  clear ha hb heA heB H
  go_enter Try.func37, Try.ntmps37
  go_upto_region 1 with fail
  have HA1 := Lib.hid (HA.out.below hacc); have HB1 := Lib.hid (HB.out.below hacc)
  clear HA HB
  generalize ((w.alloc (.cells #[.slice (some ⟨ab1, ao1, none⟩) n ca, .int .i64 (pa : Int)] 59)).alloc (.cells #[.slice (some ⟨bb1, bo1, none⟩) n cb, .int .i64 (pb : Int)] 59)) = w1 at *
  obtain ⟨B2, hB2e⟩ : ∃ B2, w.heap.size = B2 := ⟨_, rfl⟩
  obtain ⟨B3, hB3e⟩ : ∃ B3, w.heap.size + 1 = B3 := ⟨_, rfl⟩
  rw [hB2e] at hB2
  rw [hB3e] at hB3
  simp only [hB3e]
  simp only [hB2e]
  have hsz0 : w.heap.size ≤ w1.heap.size := by omega
  clear hB2e hB3e hsz
  obtain ⟨c0, c1, -⟩ := hB2.two
  obtain ⟨d0, d1, -⟩ := hB3.two
  go_wp2_with fail
  refine (term_check (some ⟨ab1, ao1, none⟩) n ca A pa _ HA1.out.get.2.2.2.1 HAN.out (by omega)).mono ?_
  rintro e w2 ⟨rfl, hb2⟩
  rw [HEA.out]
  have HA2 := Lib.hid (HA1.out.below hb2); have HB2 := Lib.hid (HB1.out.below hb2)
  have hB2' := hB2.below hb2 hB2.lt; have hB3' := hB3.below hb2 hB3.lt
  have hacc2 := below_then hacc (by omega) hb2
  have hz2 := hb2.size
  clear HA1 HB1 c0 c1 d0 d1 hb2 hB2 hB3
  obtain ⟨c0, c1, -⟩ := hB2'.two
  obtain ⟨d0, d1, -⟩ := hB3'.two
  go_wp2_with fail
  refine (term_check (some ⟨bb1, bo1, none⟩) n cb B pb _ HB2.out.get.2.2.2.1 HBN.out (by omega)).mono ?_
  rintro e w3 ⟨rfl, hb3⟩
  rw [HEB.out]
  have HA3 := Lib.hid (HA2.out.below hb3); have HB3 := Lib.hid (HB2.out.below hb3)
  have hB2 := hB2'.below hb3 hB2'.lt; have hB3 := hB3'.below hb3 hB3'.lt
  have hacc3 := below_then hacc2 (by omega) hb3
  have hz3 := hb3.size
  clear HA2 HB2 c0 c1 d0 d1 hb3 hB2' hB3'
  obtain ⟨c0, c1, -⟩ := hB2.two
  obtain ⟨d0, d1, -⟩ := hB3.two
  go_wp2_with fail
  refine (paint_diff (some ⟨ab1, ao1, none⟩) (some ⟨bb1, bo1, none⟩) n ca cb 0 n x y A B _ HA3.out HB3.out (Nat.zero_le _) (Nat.le_refl _) hn HH.out.all).mono ?_
  rintro e w4 ⟨rfl, nq, rfl⟩
  have haccW := below_drewN hacc3 nq
  have HAW := Lib.hid (HA3.out.drewN nq); have HBW := Lib.hid (HB3.out.drewN nq)
  have hB2W := hB2.drewN nq; have hB3W := hB3.drewN nq
  have hzW : w1.heap.size ≤ (w3.drewN nq).heap.size := Nat.le_trans hz2 hz3
  clear hacc3 HA3 HB3 hB2 hB3 c0 c1 d0 d1 hacc2
  generalize w3.drewN nq = W at *
  obtain ⟨c0, q1, -⟩ := hB2W.two
  obtain ⟨q0, q2, -⟩ := hB3W.two
  have hB2lt := hB2W.lt; have hB3lt := hB3W.lt
  have HSB := Lib.hid HBW.out.lt
  have HPV := Lib.hid (paintV_eq B pa pb x y full lo hi fi la)
  rcases Nat.lt_or_ge x y with hxy1 | hxy1
  · rw [decide_eq_true hxy1]
    go_upto_region 14 with fail
    go_cut [13] (fun v wx => ∃ vb, v = vb ∧ Sl wx vb ((([] ++ wayS B pa x) ++ wayS B x y) ++ wayS B y pb) ∧ Below W.heap.size W wx)
    case first =>
      have hS0 : (W.drew.cell? ⟨B3, 0, none⟩ = some (.slice (some ⟨bb1, bo1, none⟩) n cb) ∧ W.drew.cell? ⟨B2, 1, none⟩ = some (.int .i64 (pa : Int)) ∧ W.drew.cell? ⟨B3, 1, none⟩ = some (.int .i64 (pb : Int)) ∧ Below W.heap.size W W.drew) := ⟨q0, q1, q2, (Below.refl _ _).drew⟩
      go_region_law (first | (go_simp; go_at_call 106; ((with_reducible refine (paint_begin B2 B3 (some ⟨bb1, bo1, none⟩) n cb pa _ (ps0 ‹_›) (ps1 ‹_›)).mono ?_); rintro e w4 ⟨J4, rfl, hz4, hJ4, hb4⟩; have hJWJ4 : W.heap.size ≤ J4 := Nat.le_trans (psz ‹_›) hz4; have hS4 := keepP ‹_› hB2lt hB3lt hb4 (psz ‹_›); have hT := hS4; obtain ⟨r0, r1, r2, -⟩ := hT)) | (go_simp; go_at_call 109; ((with_reducible refine (joined_over J4 J4 0 (some ⟨bb1, bo1, none⟩) n cb pa x y B _ _ ((HSB.out.belowB (pbel ‹_›)).imp (fun q hq => Nat.lt_of_lt_of_le hq hJWJ4)) hJ4 (by omega) hxy hxn hn (by decide)).mono ?_); rintro e w5 ⟨rfl, hJ5, hb5, hz5⟩; have hS5 := keepP ‹_› hB2lt hB3lt hb5 hJWJ4; have hT := hS5; obtain ⟨r0, r1, r2, -⟩ := hT)) | (go_simp; go_at_call 108; ((with_reducible refine (joined_to J4 J4 2 (some ⟨bb1, bo1, none⟩) n cb y pb B _ _ ((HSB.out.belowB (pbel ‹_›)).imp (fun q hq => Nat.lt_of_lt_of_le hq hJWJ4)) hJ5 (by omega) hpb hn (by decide)).mono ?_); rintro e w6 ⟨rfl, hJ6, hb6, hz6⟩; have hS6 := keepP ‹_› hB2lt hB3lt hb6 hJWJ4; have hT := hS6; obtain ⟨r0, r1, r2, -⟩ := hT; obtain ⟨sv6, hB6, ho6, hbJ6, hl6⟩ := hJ6; obtain ⟨-, -, k6, -⟩ := hB6.three; obtain ⟨sa6, sn6, sc6, rfl⟩ := ho6.form)))
      all_goals
        have hbW : Below W.heap.size W w6 := pbel ‹_›
        have hSl := ho6.sl
        go_wp2
        go_meet
        exact ⟨_, rfl, hSl, hbW⟩
    case rest =>
      obtain ⟨vb, rfl, hbest, hbW6⟩ := hcut
      obtain ⟨ab, nb, cb2, rfl, -⟩ := id hbest
      obtain ⟨best0, hb0⟩ : ∃ s, (([] ++ wayS B pa x) ++ wayS B x y) ++ wayS B y pb = s := ⟨_, rfl⟩
      have HB0 := Lib.hid hb0
      rw [hb0] at hbest
      have HBEST0 := Lib.hid hbest
      have HAW2 := Lib.hid (HAW.out.below hbW6); have HBW2 := Lib.hid (HBW.out.below hbW6)
      have hB2V := hB2W.below hbW6 hB2lt; have hB3V := hB3W.below hbW6 hB3lt
      have haccV := below_then haccW (by omega) hbW6
      have hzV := hbW6.size
      clear hbest q0 q1 q2 c0 HSB hB2W hB3W HAW HBW hbW6 haccW hb0
      have hB2lt := hB2V.lt; have hB3lt := hB3V.lt
      obtain ⟨V0, hV0⟩ : ∃ V, V = wc := ⟨_, rfl⟩
      subst hV0
      go_wp2
      go_loopw [14] (fun i wr => ∃ k : Nat, i = .int .i64 (k : Int) ∧ full ≤ k ∧ k ≤ n ∧ ∃ m, wr = V0.drewN m) (fun i _ => (intOf i).toNat)
      case atStart => exact ⟨n, rfl, hfn, Nat.le_refl _, 0, rfl⟩
      case round =>
        obtain ⟨k, rfl, hk1, hk2, m, rfl⟩ := hrel
        obtain ⟨c0, q1, -⟩ := (hB2V.drewN m).two
        obtain ⟨q0, q2, -⟩ := (hB3V.drewN m).two
        by_cases hkf : full < k
        · have i1 : (0 : Int) < (k : Int) := by omega
          have e1 := (HBW2.out.drewN m).get.2.2.2.1.cellA (k := k - 1) (by rw [HBN.out]; omega)
          have i2 : (k : Int) - 1 = ((k - 1 : Nat) : Int) := by omega
          have i3 : ((k - 1 : Nat) : Int) < (n : Int) := by omega
          have he : (ix B (k - 1) == 32) = true := by simpa using HH.out.fullp.blank (k - 1) (by omega) (by omega)
          go_wp2
          go_roundw
          case rel => exact ⟨k - 1, rfl, by omega, by omega, _, rfl⟩
          case measure => simp [intOf]; omega
        · obtain rfl : k = full := by omega
          go_upto_region 16 with fail
          go_cut [86] (fun v wx => v = .bool false ∧ wx = V0.drewN m)
          case first =>
            by_cases h0 : 0 < k
            · have i1 : (0 : Int) < (k : Int) := by omega
              have e1 := (HBW2.out.drewN m).get.2.2.2.1.cellA (k := k - 1) (by rw [HBN.out]; omega)
              have i2 : (k : Int) - 1 = ((k - 1 : Nat) : Int) := by omega
              have i3 : ((k - 1 : Nat) : Int) < (n : Int) := by omega
              have he : (ix B (k - 1) == 32) = false := by simpa using HH.out.fullp.last h0
              go_wp2
              go_meet
              exact ⟨rfl, rfl⟩
            · have i1 : ¬ (0 : Int) < (k : Int) := by omega
              go_wp2
              go_meet
              exact ⟨rfl, rfl⟩
          case rest =>
            obtain ⟨rfl, rfl⟩ := hcut
            go_wp2_with fail
            refine (paint_diff (some ⟨ab1, ao1, none⟩) (some ⟨bb1, bo1, none⟩) n ca cb 0 k lo hi A B _ (HAW2.out.drewN m) (HBW2.out.drewN m) (Nat.zero_le _) hk2 hn HH.out.head).mono ?_
            rintro e w4 ⟨rfl, nq1, rfl⟩
            have HBESTY := Lib.hid ((HBEST0.out.drewN m).drewN nq1)
            have haccY := below_drewN (below_drewN haccV m) nq1
            have HAY := Lib.hid ((HAW2.out.drewN m).drewN nq1); have HBY := Lib.hid ((HBW2.out.drewN m).drewN nq1)
            have hB2Y := (hB2V.drewN m).drewN nq1; have hB3Y := (hB3V.drewN m).drewN nq1
            have hzY : W.heap.size ≤ ((V0.drewN m).drewN nq1).heap.size := hzV
            clear HAW2 HBW2 hB2V hB3V hB2lt hB3lt haccV HBEST0 c0 q0 q1 q2 hzV hkf hk1
            generalize ((V0.drewN m).drewN nq1) = Y at *
            obtain ⟨c0, q1, -⟩ := hB2Y.two
            obtain ⟨q0, q2, -⟩ := hB3Y.two
            go_wp2_with fail
            refine (paint_diff (some ⟨ab1, ao1, none⟩) (some ⟨bb1, bo1, none⟩) n ca cb k n fi la A B _ HAY.out HBY.out hk2 (Nat.le_refl _) hn HH.out.tail).mono ?_
            rintro e w4 ⟨rfl, nq2, rfl⟩
            have HBEST := Lib.hid (HBESTY.out.drewN nq2)
            have haccV := below_drewN haccY nq2
            have HBW2 := Lib.hid (HBY.out.drewN nq2)
            have hB2V := hB2Y.drewN nq2; have hB3V := hB3Y.drewN nq2
            have hzX : W.heap.size ≤ (Y.drewN nq2).heap.size := hzY
            clear HAY HBY hB2Y hB3Y HBESTY c0 q0 q1 q2 hzY haccY
            generalize (Y.drewN nq2) = V at *
            have hB2lt := hB2V.lt; have hB3lt := hB3V.lt
            obtain ⟨c0, q1, -⟩ := hB2V.two
            obtain ⟨q0, q2, -⟩ := hB3V.two
            obtain ⟨full, hfull⟩ : ∃ f, f = k := ⟨_, rfl⟩
            subst hfull
            rcases Nat.lt_or_ge fi la with htl | htl
            · rw [decide_eq_true htl]
              go_wp2
              go_loopw [13, 21] (fun bv p wr => ∃ P j : Nat, p = .int .i64 (P : Int) ∧ Hid (P = full + j) ∧ j ≤ fi + 1 - full ∧ P ≤ fi + 1 ∧ Sl wr bv (bestS best0 ((plansTo lo hi full j).map (fun p => planS B pa p pb))) ∧ Below V.heap.size V wr) (fun _ p _ => fi + 1 - (intOf p).toNat)
              case atStart => exact ⟨full, 0, rfl, Lib.hid rfl, Nat.zero_le _, by omega, HBEST.out, Below.refl _ _⟩
              case round =>
                obtain ⟨P, j, rfl, HP, hj, hPle, hbj, hbr⟩ := hrel
                obtain ⟨abj, nbj, cbj, rfl, -⟩ := id hbj
                by_cases hlt : P ≤ fi
                · obtain ⟨BB, hBB⟩ : ∃ BB, bestS best0 ((plansTo lo hi full j).map (fun p => planS B pa p pb)) = BB := ⟨_, rfl⟩
                  have HBB := Lib.hid hBB
                  rw [hBB] at hbj
                  have HBR := Lib.hid hbj
                  have hPn : P ≤ n := by omega
                  have hPf : P ≤ fi := by omega
                  have i1 : ((P : Nat) : Int) ≤ (fi : Int) := by omega
                  have hB2r := hB2V.below hbr hB2lt; have hB3r := hB3V.below hbr hB3lt
                  have HSB := Lib.hid (HBW2.out.below hbr).lt
                  clear hBB hbj q0 q1 q2 c0
                  obtain ⟨-, q1, -⟩ := hB2r.two
                  obtain ⟨q0, q2, -⟩ := hB3r.two
                  have hB2l2 := hB2lt; have hB3l2 := hB3lt
                  have hB2lt := hB2r.lt; have hB3lt := hB3r.lt
                  obtain ⟨V2, hV2⟩ : ∃ V, V = wr := ⟨_, rfl⟩
                  subst hV2
                  by_cases hm : lo < hi
                  · have HPA := Lib.hid (show (plansAt lo hi (full + j)) = [[(lo, some hi), (P, none)], [(P, none), (lo, some hi)]] by unfold plansAt; rw [if_pos hm, ← HP.out])
                    rw [decide_eq_true hm]
                    go_upto_region 25 with fail
                    go_cut [22] (fun v wx => ∃ us, Vs wx v us ∧ Lists wx us [(([] ++ wayS B pa P) ++ [11]) ++ wayS B P pb] ∧ Below V2.heap.size V2 wx)
                    case first =>
                      have hS0 : (V2.drew.cell? ⟨B3, 0, none⟩ = some (.slice (some ⟨bb1, bo1, none⟩) n cb) ∧ V2.drew.cell? ⟨B2, 1, none⟩ = some (.int .i64 (pa : Int)) ∧ V2.drew.cell? ⟨B3, 1, none⟩ = some (.int .i64 (pb : Int)) ∧ Below V2.heap.size V2 V2.drew) := ⟨q0, q1, q2, (Below.refl _ _).drew⟩
                      go_region_law (first | (go_simp; go_at_call 106; ((with_reducible refine (paint_begin B2 B3 (some ⟨bb1, bo1, none⟩) n cb pa _ (ps0 ‹_›) (ps1 ‹_›)).mono ?_); rintro e w4 ⟨J4, rfl, hz4, hJ4, hb4⟩; have hJWJ4 : V2.heap.size ≤ J4 := Nat.le_trans (psz ‹_›) hz4; have hS4 := keepP ‹_› hB2lt hB3lt hb4 (psz ‹_›); have hT := hS4; obtain ⟨r0, r1, r2, -⟩ := hT)) | (go_simp; go_at_call 110; ((with_reducible refine (joined_erase J4 J4 0 (some ⟨bb1, bo1, none⟩) n cb pa P B _ _ ((HSB.out.belowB (pbel ‹_›)).imp (fun q hq => Nat.lt_of_lt_of_le hq hJWJ4)) hJ4 (by omega) (by omega) hn (by decide)).mono ?_); rintro e w5 ⟨rfl, hJ5, hb5, hz5⟩; have hS5 := keepP ‹_› hB2lt hB3lt hb5 hJWJ4; have hT := hS5; obtain ⟨r0, r1, r2, -⟩ := hT)) | (go_simp; go_at_call 108; ((with_reducible refine (joined_to J4 J4 2 (some ⟨bb1, bo1, none⟩) n cb P pb B _ _ ((HSB.out.belowB (pbel ‹_›)).imp (fun q hq => Nat.lt_of_lt_of_le hq hJWJ4)) hJ5 (by omega) hpb hn (by decide)).mono ?_); rintro e w6 ⟨rfl, hJ6, hb6, hz6⟩; have hS6 := keepP ‹_› hB2lt hB3lt hb6 hJWJ4; have hT := hS6; obtain ⟨r0, r1, r2, -⟩ := hT; obtain ⟨sv6, hB6, ho6, hbJ6, hl6⟩ := hJ6; obtain ⟨-, -, k6, -⟩ := hB6.three; obtain ⟨sa6, sn6, sc6, rfl⟩ := ho6.form)))
                      all_goals
                        have hbW : Below V2.heap.size V2 w6 := pbel ‹_›
                        have hSl := ho6.sl
                        go_wp2
                        go_meet
                        change ∃ us, Vs (w6.alloc (.cells #[.slice sa6 sn6 sc6] 22)) (.slice (some ⟨w6.heap.size, 0, none⟩) 1 1) us ∧ Lists (w6.alloc (.cells #[.slice sa6 sn6 sc6] 22)) us _ ∧ Below V2.heap.size V2 (w6.alloc (.cells #[.slice sa6 sn6 sc6] 22))
                        exact ⟨[.slice sa6 sn6 sc6], ⟨_, 1, 1, rfl, rfl, by decide, by decide, vals_lit _ [.slice sa6 sn6 sc6] _, fun h => by simp at h⟩, Lists.one (hSl.below (below1 _ _)), hbW.alloc hbW.size _⟩
                    case rest =>
                      obtain ⟨us0, hvs0, hls0, hbx0⟩ := hcut
                      obtain ⟨va0, vn0, vc0, rfl, -⟩ := hvs0
                      have HBR2 := Lib.hid (HBR.out.below hbx0)
                      have hbr2 := below_then hbr hbr.size hbx0
                      have hB2q := hB2r.below hbx0 hB2lt; have hB3q := hB3r.below hbx0 hB3lt
                      have HSB2 := Lib.hid ((HBW2.out.below hbr2).lt)
                      clear hls0 q0 q1 q2 HBR HSB hbx0 hbr hB2r hB3r
                      have HBR := HBR2; have hbr := hbr2; have HSB := HSB2
                      obtain ⟨-, q1, -⟩ := hB2q.two
                      obtain ⟨q0, q2, -⟩ := hB3q.two
                      have hB2lt := hB2q.lt; have hB3lt := hB3q.lt
                      obtain ⟨V4, hV4⟩ : ∃ V, V = wc := ⟨_, rfl⟩
                      subst hV4
                      go_upto_region 27 with fail
                      go_cut [22] (fun v wx => ∃ us, Vs wx v us ∧ Lists wx us [(((([] ++ wayS B pa lo) ++ wayS B lo hi) ++ wayS B hi P) ++ [11]) ++ wayS B P pb, (((([] ++ wayS B pa P) ++ [11]) ++ wayS B P lo) ++ wayS B lo hi) ++ wayS B hi pb] ∧ Below V4.heap.size V4 wx)
                      case first =>
                        refine wp_region_held_drew (S := (fun w' => w'.cell? ⟨B3, 0, none⟩ = some (.slice (some ⟨bb1, bo1, none⟩) n cb) ∧ w'.cell? ⟨B2, 1, none⟩ = some (.int .i64 (pa : Int)) ∧ w'.cell? ⟨B3, 1, none⟩ = some (.int .i64 (pb : Int)) ∧ Below V4.heap.size V4 w')) (by kernel_rfl) ⟨q0, q1, q2, (Below.refl _ _).drew⟩ ?_
                        intro hSd
                        refine wpAnyH_take (i := 0) (oi := ⟨some 131, .move (.tmp 9), _, _, _, _⟩) (v := (.func (.func 106) #[] #[.pointer (some ⟨B3, 0, none⟩), .pointer (some ⟨B2, 0, none⟩)])) rfl (by kernel_rfl) (by kernel_rfl) (by kernel_rfl) (fun _ _ _ h => h) (Or.inl ⟨by rfl, fun w hSw => by (dsimp only at hSw; go_simp)⟩) (by assumption) ?_
                        simp only [Act.put, List.setIfInBounds_toArray, List.set_cons_zero, List.set_cons_succ]
                        refine wpAnyH_take (i := 2) (oi := ⟨some 133, .move (.tmp 15), _, _, _, _⟩) (v := (.int .i64 (lo : Int))) rfl (by kernel_rfl) (by kernel_rfl) (by kernel_rfl) (fun _ _ _ h => h) (Or.inl ⟨by rfl, fun w hSw => by (dsimp only at hSw; go_simp)⟩) (by assumption) ?_
                        simp only [Act.put, List.setIfInBounds_toArray, List.set_cons_zero, List.set_cons_succ]
                        refine wpAnyH_take (i := 3) (oi := ⟨some 134, .move (.tmp 16), _, _, _, _⟩) (v := (.int .i64 (hi : Int))) rfl (by kernel_rfl) (by kernel_rfl) (by kernel_rfl) (fun _ _ _ h => h) (Or.inl ⟨by rfl, fun w hSw => by (dsimp only at hSw; go_simp)⟩) (by assumption) ?_
                        simp only [Act.put, List.setIfInBounds_toArray, List.set_cons_zero, List.set_cons_succ]
                        refine wpAnyH_take (i := 5) (oi := ⟨some 136, .move (.tmp 21), _, _, _, _⟩) (v := (.int .i64 (P : Int))) rfl (by kernel_rfl) (by kernel_rfl) (by kernel_rfl) (fun _ _ _ h => h) (Or.inl ⟨by rfl, fun w hSw => by (dsimp only at hSw; go_simp)⟩) (by assumption) ?_
                        simp only [Act.put, List.setIfInBounds_toArray, List.set_cons_zero, List.set_cons_succ]
                        refine wpAnyH_take (i := 7) (oi := ⟨some 138, .fieldAddr 59 (.tmp 3) 1, _, _, _, _⟩) (v := (.pointer (some ⟨B3, 1, none⟩))) rfl (by kernel_rfl) (by kernel_rfl) (by kernel_rfl) (fun _ _ _ h => h) (Or.inl ⟨by rfl, fun w hSw => by (dsimp only at hSw; go_simp)⟩) (by assumption) ?_
                        simp only [Act.put, List.setIfInBounds_toArray, List.set_cons_zero, List.set_cons_succ]
                        refine wpAnyH_take (i := 8) (oi := ⟨some 139, .load 3 (.tmp 138), _, _, _, _⟩) (v := (.int .i64 (pb : Int))) rfl (by kernel_rfl) (by kernel_rfl) (by kernel_rfl) (fun _ _ _ h => h) (Or.inl ⟨by rfl, fun w hSw => by (dsimp only at hSw; go_simp)⟩) (by assumption) ?_
                        simp only [Act.put, List.setIfInBounds_toArray, List.set_cons_zero, List.set_cons_succ]
                        refine wpAnyH_take (i := 13) (oi := ⟨some 144, .move (.tmp 9), _, _, _, _⟩) (v := (.func (.func 106) #[] #[.pointer (some ⟨B3, 0, none⟩), .pointer (some ⟨B2, 0, none⟩)])) rfl (by kernel_rfl) (by kernel_rfl) (by kernel_rfl) (fun _ _ _ h => h) (Or.inl ⟨by rfl, fun w hSw => by (dsimp only at hSw; go_simp)⟩) (by assumption) ?_
                        simp only [Act.put, List.setIfInBounds_toArray, List.set_cons_zero, List.set_cons_succ]
                        refine wpAnyH_take (i := 15) (oi := ⟨some 146, .move (.tmp 21), _, _, _, _⟩) (v := (.int .i64 (P : Int))) rfl (by kernel_rfl) (by kernel_rfl) (by kernel_rfl) (fun _ _ _ h => h) (Or.inl ⟨by rfl, fun w hSw => by (dsimp only at hSw; go_simp)⟩) (by assumption) ?_
                        simp only [Act.put, List.setIfInBounds_toArray, List.set_cons_zero, List.set_cons_succ]
                        refine wpAnyH_take (i := 17) (oi := ⟨some 148, .move (.tmp 15), _, _, _, _⟩) (v := (.int .i64 (lo : Int))) rfl (by kernel_rfl) (by kernel_rfl) (by kernel_rfl) (fun _ _ _ h => h) (Or.inl ⟨by rfl, fun w hSw => by (dsimp only at hSw; go_simp)⟩) (by assumption) ?_
                        simp only [Act.put, List.setIfInBounds_toArray, List.set_cons_zero, List.set_cons_succ]
                        refine wpAnyH_take (i := 18) (oi := ⟨some 149, .move (.tmp 16), _, _, _, _⟩) (v := (.int .i64 (hi : Int))) rfl (by kernel_rfl) (by kernel_rfl) (by kernel_rfl) (fun _ _ _ h => h) (Or.inl ⟨by rfl, fun w hSw => by (dsimp only at hSw; go_simp)⟩) (by assumption) ?_
                        simp only [Act.put, List.setIfInBounds_toArray, List.set_cons_zero, List.set_cons_succ]
                        refine wpAnyH_take (i := 20) (oi := ⟨some 151, .fieldAddr 59 (.tmp 3) 1, _, _, _, _⟩) (v := (.pointer (some ⟨B3, 1, none⟩))) rfl (by kernel_rfl) (by kernel_rfl) (by kernel_rfl) (fun _ _ _ h => h) (Or.inl ⟨by rfl, fun w hSw => by (dsimp only at hSw; go_simp)⟩) (by assumption) ?_
                        simp only [Act.put, List.setIfInBounds_toArray, List.set_cons_zero, List.set_cons_succ]
                        refine wpAnyH_take (i := 21) (oi := ⟨some 152, .load 3 (.tmp 151), _, _, _, _⟩) (v := (.int .i64 (pb : Int))) rfl (by kernel_rfl) (by kernel_rfl) (by kernel_rfl) (fun _ _ _ h => h) (Or.inl ⟨by rfl, fun w hSw => by (dsimp only at hSw; go_simp)⟩) (by assumption) ?_
                        simp only [Act.put, List.setIfInBounds_toArray, List.set_cons_zero, List.set_cons_succ]
                        refine wpAnyH_ready (rs := [1]) (by kernel_rfl) (by simp) ?_
                        refine AllReadyH.cons (o := ⟨some 132, _, _, _, _, _⟩) rfl (fun K hK => ?_) ?_
                        · go_simp
                          refine (paint_begin B2 B3 (some ⟨bb1, bo1, none⟩) n cb pa _ (ps0 ‹_›) (ps1 ‹_›)).mono ?_
                          rintro e w4 ⟨J4, rfl, hz4, hJ4, hb4⟩
                          have hJWJ4 : V4.heap.size ≤ J4 := Nat.le_trans (psz ‹_›) hz4
                          have hS4 := keepP ‹_› hB2lt hB3lt hb4 (psz ‹_›)
                          dsimp only
                          refine hK.out _ _ hS4 (fun hHeld => ?_)
                          clear hK K
                          refine wpAnyH_ready (rs := [4]) (by kernel_rfl) (by simp) ?_
                          refine AllReadyH.cons (o := ⟨some 135, _, _, _, _, _⟩) rfl (fun K hK => ?_) ?_
                          · go_simp
                            refine (joined_over J4 J4 0 (some ⟨bb1, bo1, none⟩) n cb pa lo hi B _ _ ((HSB.out.belowB (pbel ‹_›)).imp (fun q hq => Nat.lt_of_lt_of_le hq hJWJ4)) hJ4 (by omega) hlh (by omega) hn (by decide)).mono ?_
                            rintro e w5 ⟨rfl, hJ5, hb5, hz5⟩
                            have hS5 := keepP ‹_› hB2lt hB3lt hb5 hJWJ4
                            dsimp only
                            refine hK.out _ _ hS5 (fun hHeld => ?_)
                            clear hK K
                            refine wpAnyH_ready (rs := [6]) (by kernel_rfl) (by simp) ?_
                            refine AllReadyH.cons (o := ⟨some 137, _, _, _, _, _⟩) rfl (fun K hK => ?_) ?_
                            · go_simp
                              refine (joined_erase J4 J4 2 (some ⟨bb1, bo1, none⟩) n cb hi P B _ _ ((HSB.out.belowB (pbel ‹_›)).imp (fun q hq => Nat.lt_of_lt_of_le hq hJWJ4)) hJ5 (by omega) hPn hn (by decide)).mono ?_
                              rintro e w6 ⟨rfl, hJ6, hb6, hz6⟩
                              have hS6 := keepP ‹_› hB2lt hB3lt hb6 hJWJ4
                              dsimp only
                              refine hK.out _ _ hS6 (fun hHeld => ?_)
                              clear hK K
                              refine wpAnyH_ready (rs := [9]) (by kernel_rfl) (by simp) ?_
                              refine AllReadyH.cons (o := ⟨some 140, _, _, _, _, _⟩) rfl (fun K hK => ?_) ?_
                              · go_simp
                                refine (joined_to J4 J4 4 (some ⟨bb1, bo1, none⟩) n cb P pb B _ _ ((HSB.out.belowB (pbel ‹_›)).imp (fun q hq => Nat.lt_of_lt_of_le hq hJWJ4)) hJ6 hPn hpb hn (by decide)).mono ?_
                                rintro e w7 ⟨rfl, hJ7, hb7, hz7⟩
                                have hS7 := keepP ‹_› hB2lt hB3lt hb7 hJWJ4
                                obtain ⟨sv7, hB7, ho7, hbJ7, hl7⟩ := hJ7
                                obtain ⟨-, -, k7, -⟩ := hB7.three
                                obtain ⟨sa7, sn7, sc7, rfl⟩ := ho7.form
                                dsimp only
                                refine hK.out _ _ hS7 (fun hHeld => ?_)
                                clear hK K
                                refine wpAnyH_take (i := 10) (oi := ⟨some 141, .nilCheck (.tmp 140), _, _, _, _⟩) (v := (.pointer (some ⟨J4, 0, none⟩))) rfl (by kernel_rfl) (by kernel_rfl) (by kernel_rfl) (fun _ _ _ h => h) (Or.inl ⟨by rfl, fun w hSw => by (dsimp only at hSw; go_simp)⟩) (by assumption) ?_
                                simp only [Act.put, List.setIfInBounds_toArray, List.set_cons_zero, List.set_cons_succ]
                                refine wpAnyH_take (i := 11) (oi := ⟨some 142, .fieldAddr 168 (.tmp 141) 2, _, _, _, _⟩) (v := (.pointer (some ⟨J4, 2, none⟩))) rfl (by kernel_rfl) (by kernel_rfl) (by kernel_rfl) (fun _ _ _ h => h) (Or.inl ⟨by rfl, fun w hSw => by (dsimp only at hSw; go_simp)⟩) (by assumption) ?_
                                simp only [Act.put, List.setIfInBounds_toArray, List.set_cons_zero, List.set_cons_succ]
                                refine wpAnyH_ready (rs := [12, 14]) (by kernel_rfl) (by simp) ?_
                                refine AllReadyH.cons (o := ⟨some 143, .load 22 (.tmp 142), _, _, _, _⟩) rfl (fun K hK => ?_) ?_
                                · go_simp
                                  refine hK.out _ _ (by assumption) (fun hHeld => ?_)
                                  clear hK K
                                  refine wpAnyH_ready (rs := [14]) (by kernel_rfl) (by simp) ?_
                                  refine AllReadyH.cons (o := ⟨some 145, _, _, _, _, _⟩) rfl (fun K hK => ?_) ?_
                                  · go_simp
                                    refine (paint_begin B2 B3 (some ⟨bb1, bo1, none⟩) n cb pa _ (ps0 ‹_›) (ps1 ‹_›)).mono ?_
                                    rintro e w8 ⟨J8, rfl, hz8, hJ8, hb8⟩
                                    have hJWJ8 : V4.heap.size ≤ J8 := Nat.le_trans (psz ‹_›) hz8
                                    have hS8 := keepP ‹_› hB2lt hB3lt hb8 (psz ‹_›)
                                    have hJ48 : J4 < J8 := Nat.lt_of_lt_of_le hB7.lt hz8
                                    have l8 := (below_cell hb8 (p := ⟨J4, 2, none⟩) hB7.lt).trans k7
                                    have p8 := ho7.sl.below hb8
                                    have z8 := hb8.size
                                    dsimp only
                                    refine hK.out _ _ hS8 (fun hHeld => ?_)
                                    clear hK K
                                    refine wpAnyH_ready (rs := [16]) (by kernel_rfl) (by simp) ?_
                                    refine AllReadyH.cons (o := ⟨some 147, _, _, _, _, _⟩) rfl (fun K hK => ?_) ?_
                                    · go_simp
                                      refine (joined_erase J8 J8 0 (some ⟨bb1, bo1, none⟩) n cb pa P B _ _ ((HSB.out.belowB (pbel ‹_›)).imp (fun q hq => Nat.lt_of_lt_of_le hq hJWJ8)) hJ8 (by omega) hPn hn (by decide)).mono ?_
                                      rintro e w9 ⟨rfl, hJ9, hb9, hz9⟩
                                      have hS9 := keepP ‹_› hB2lt hB3lt hb9 hJWJ8
                                      have l9 := (below_cell hb9 (p := ⟨J4, 2, none⟩) hJ48).trans l8
                                      have b9 := hb8.trans (hb9.mono hz8)
                                      dsimp only
                                      refine hK.out _ _ hS9 (fun hHeld => ?_)
                                      clear hK K
                                      refine wpAnyH_ready (rs := [19]) (by kernel_rfl) (by simp) ?_
                                      refine AllReadyH.cons (o := ⟨some 150, _, _, _, _, _⟩) rfl (fun K hK => ?_) ?_
                                      · go_simp
                                        refine (joined_over J8 J8 2 (some ⟨bb1, bo1, none⟩) n cb P lo hi B _ _ ((HSB.out.belowB (pbel ‹_›)).imp (fun q hq => Nat.lt_of_lt_of_le hq hJWJ8)) hJ9 hPn hlh (by omega) hn (by decide)).mono ?_
                                        rintro e w10 ⟨rfl, hJ10, hb10, hz10⟩
                                        have hS10 := keepP ‹_› hB2lt hB3lt hb10 hJWJ8
                                        have l10 := (below_cell hb10 (p := ⟨J4, 2, none⟩) hJ48).trans l9
                                        have b10 := b9.trans (hb10.mono hz8)
                                        dsimp only
                                        refine hK.out _ _ hS10 (fun hHeld => ?_)
                                        clear hK K
                                        refine wpAnyH_ready (rs := [22]) (by kernel_rfl) (by simp) ?_
                                        refine AllReadyH.cons (o := ⟨some 153, _, _, _, _, _⟩) rfl (fun K hK => ?_) ?_
                                        · go_simp
                                          refine (joined_to J8 J8 4 (some ⟨bb1, bo1, none⟩) n cb hi pb B _ _ ((HSB.out.belowB (pbel ‹_›)).imp (fun q hq => Nat.lt_of_lt_of_le hq hJWJ8)) hJ10 (by omega) hpb hn (by decide)).mono ?_
                                          rintro e w11 ⟨rfl, hJ11, hb11, hz11⟩
                                          have hS11 := keepP ‹_› hB2lt hB3lt hb11 hJWJ8
                                          have l11 := (below_cell hb11 (p := ⟨J4, 2, none⟩) hJ48).trans l10
                                          have b11 := b10.trans (hb11.mono hz8)
                                          obtain ⟨sv11, hB11, ho11, hbJ11, hl11⟩ := hJ11
                                          obtain ⟨-, -, k11, -⟩ := hB11.three
                                          obtain ⟨sa11, sn11, sc11, rfl⟩ := ho11.form
                                          dsimp only
                                          refine hK.out _ _ hS11 (fun hHeld => ?_)
                                          clear hK K
                                          refine wpAnyH_take (i := 23) (oi := ⟨some 154, .nilCheck (.tmp 153), _, _, _, _⟩) (v := (.pointer (some ⟨J8, 0, none⟩))) rfl (by kernel_rfl) (by kernel_rfl) (by kernel_rfl) (fun _ _ _ h => h) (Or.inl ⟨by rfl, fun w hSw => by (dsimp only at hSw; go_simp)⟩) (by assumption) ?_
                                          simp only [Act.put, List.setIfInBounds_toArray, List.set_cons_zero, List.set_cons_succ]
                                          refine wpAnyH_take (i := 24) (oi := ⟨some 155, .fieldAddr 168 (.tmp 154) 2, _, _, _, _⟩) (v := (.pointer (some ⟨J8, 2, none⟩))) rfl (by kernel_rfl) (by kernel_rfl) (by kernel_rfl) (fun _ _ _ h => h) (Or.inl ⟨by rfl, fun w hSw => by (dsimp only at hSw; go_simp)⟩) (by assumption) ?_
                                          simp only [Act.put, List.setIfInBounds_toArray, List.set_cons_zero, List.set_cons_succ]
                                          refine wpAnyH_ready (rs := [25]) (by kernel_rfl) (by simp) ?_
                                          refine AllReadyH.cons (o := ⟨some 156, .load 22 (.tmp 155), _, _, _, _⟩) rfl (fun K hK => ?_) ?_
                                          · go_simp
                                            refine hK.out _ _ (by assumption) (fun hHeld => ?_)
                                            clear hK K
                                            refine wpAnyH_ready (rs := [26]) (by kernel_rfl) (by simp) ?_
                                            refine AllReadyH.cons (o := ⟨some 157, _, _, _, _, _⟩) rfl (fun K hK => ?_) ?_
                                            · go_simp
                                              refine hK.out _ _ (keepP ‹_› hB2lt hB3lt (below1 _ _) (psz ‹_›)) (fun hHeld => ?_)
                                              clear hK K
                                              refine wpAnyH_ready (rs := [27]) (by kernel_rfl) (by simp) ?_
                                              refine AllReadyH.cons (o := ⟨some 22, .assign (.tmp 157), _, _, _, _⟩) rfl (fun K hK => ?_) ?_
                                              · go_simp
                                                refine hK.out _ _ (by assumption) (fun hHeld => ?_)
                                                clear hK K
                                                refine wpAnyH_done (by kernel_rfl) ?_ _
                                                have hbW : Below V4.heap.size V4 w11 := pbel hS11
                                                have q11 := ho7.sl.below b11
                                                have q12 := ho11.sl
                                                go_wp2
                                                go_meet
                                                change ∃ us, Vs (w11.alloc (.cells #[.slice sa7 sn7 sc7, .slice sa11 sn11 sc11] 22)) (.slice (some ⟨w11.heap.size, 0, none⟩) 2 2) us ∧ Lists (w11.alloc (.cells #[.slice sa7 sn7 sc7, .slice sa11 sn11 sc11] 22)) us _ ∧ Below V4.heap.size V4 (w11.alloc (.cells #[.slice sa7 sn7 sc7, .slice sa11 sn11 sc11] 22))
                                                exact ⟨[.slice sa7 sn7 sc7, .slice sa11 sn11 sc11], ⟨_, 2, 2, rfl, rfl, by decide, by decide, vals_lit _ [.slice sa7 sn7 sc7, .slice sa11 sn11 sc11] _, fun h => by simp at h⟩, (Lists.one (q11.below (below1 _ _))).append (Lists.one (q12.below (below1 _ _))), hbW.alloc hbW.size _⟩
                                              exact AllReadyH.nil
                                            exact AllReadyH.nil
                                          exact AllReadyH.nil
                                        exact AllReadyH.nil
                                      exact AllReadyH.nil
                                    exact AllReadyH.nil
                                  exact AllReadyH.nil
                                refine AllReadyH.cons (o := ⟨some 145, _, _, _, _, _⟩) rfl (fun K hK => ?_) ?_
                                · go_simp
                                  refine (paint_begin B2 B3 (some ⟨bb1, bo1, none⟩) n cb pa _ (ps0 ‹_›) (ps1 ‹_›)).mono ?_
                                  rintro e w8 ⟨J8, rfl, hz8, hJ8, hb8⟩
                                  have hJWJ8 : V4.heap.size ≤ J8 := Nat.le_trans (psz ‹_›) hz8
                                  have hS8 := keepP ‹_› hB2lt hB3lt hb8 (psz ‹_›)
                                  have hJ48 : J4 < J8 := Nat.lt_of_lt_of_le hB7.lt hz8
                                  have l8 := (below_cell hb8 (p := ⟨J4, 2, none⟩) hB7.lt).trans k7
                                  have p8 := ho7.sl.below hb8
                                  have z8 := hb8.size
                                  dsimp only
                                  refine hK.out _ _ hS8 (fun hHeld => ?_)
                                  clear hK K
                                  refine wpAnyH_ready (rs := [12, 16]) (by kernel_rfl) (by simp) ?_
                                  refine AllReadyH.cons (o := ⟨some 143, .load 22 (.tmp 142), _, _, _, _⟩) rfl (fun K hK => ?_) ?_
                                  · go_simp
                                    refine hK.out _ _ (by assumption) (fun hHeld => ?_)
                                    clear hK K
                                    refine wpAnyH_ready (rs := [16]) (by kernel_rfl) (by simp) ?_
                                    refine AllReadyH.cons (o := ⟨some 147, _, _, _, _, _⟩) rfl (fun K hK => ?_) ?_
                                    · go_simp
                                      refine (joined_erase J8 J8 0 (some ⟨bb1, bo1, none⟩) n cb pa P B _ _ ((HSB.out.belowB (pbel ‹_›)).imp (fun q hq => Nat.lt_of_lt_of_le hq hJWJ8)) hJ8 (by omega) hPn hn (by decide)).mono ?_
                                      rintro e w9 ⟨rfl, hJ9, hb9, hz9⟩
                                      have hS9 := keepP ‹_› hB2lt hB3lt hb9 hJWJ8
                                      have l9 := (below_cell hb9 (p := ⟨J4, 2, none⟩) hJ48).trans l8
                                      have b9 := hb8.trans (hb9.mono hz8)
                                      dsimp only
                                      refine hK.out _ _ hS9 (fun hHeld => ?_)
                                      clear hK K
                                      refine wpAnyH_ready (rs := [19]) (by kernel_rfl) (by simp) ?_
                                      refine AllReadyH.cons (o := ⟨some 150, _, _, _, _, _⟩) rfl (fun K hK => ?_) ?_
                                      · go_simp
                                        refine (joined_over J8 J8 2 (some ⟨bb1, bo1, none⟩) n cb P lo hi B _ _ ((HSB.out.belowB (pbel ‹_›)).imp (fun q hq => Nat.lt_of_lt_of_le hq hJWJ8)) hJ9 hPn hlh (by omega) hn (by decide)).mono ?_
                                        rintro e w10 ⟨rfl, hJ10, hb10, hz10⟩
                                        have hS10 := keepP ‹_› hB2lt hB3lt hb10 hJWJ8
                                        have l10 := (below_cell hb10 (p := ⟨J4, 2, none⟩) hJ48).trans l9
                                        have b10 := b9.trans (hb10.mono hz8)
                                        dsimp only
                                        refine hK.out _ _ hS10 (fun hHeld => ?_)
                                        clear hK K
                                        refine wpAnyH_ready (rs := [22]) (by kernel_rfl) (by simp) ?_
                                        refine AllReadyH.cons (o := ⟨some 153, _, _, _, _, _⟩) rfl (fun K hK => ?_) ?_
                                        · go_simp
                                          refine (joined_to J8 J8 4 (some ⟨bb1, bo1, none⟩) n cb hi pb B _ _ ((HSB.out.belowB (pbel ‹_›)).imp (fun q hq => Nat.lt_of_lt_of_le hq hJWJ8)) hJ10 (by omega) hpb hn (by decide)).mono ?_
                                          rintro e w11 ⟨rfl, hJ11, hb11, hz11⟩
                                          have hS11 := keepP ‹_› hB2lt hB3lt hb11 hJWJ8
                                          have l11 := (below_cell hb11 (p := ⟨J4, 2, none⟩) hJ48).trans l10
                                          have b11 := b10.trans (hb11.mono hz8)
                                          obtain ⟨sv11, hB11, ho11, hbJ11, hl11⟩ := hJ11
                                          obtain ⟨-, -, k11, -⟩ := hB11.three
                                          obtain ⟨sa11, sn11, sc11, rfl⟩ := ho11.form
                                          dsimp only
                                          refine hK.out _ _ hS11 (fun hHeld => ?_)
                                          clear hK K
                                          refine wpAnyH_take (i := 23) (oi := ⟨some 154, .nilCheck (.tmp 153), _, _, _, _⟩) (v := (.pointer (some ⟨J8, 0, none⟩))) rfl (by kernel_rfl) (by kernel_rfl) (by kernel_rfl) (fun _ _ _ h => h) (Or.inl ⟨by rfl, fun w hSw => by (dsimp only at hSw; go_simp)⟩) (by assumption) ?_
                                          simp only [Act.put, List.setIfInBounds_toArray, List.set_cons_zero, List.set_cons_succ]
                                          refine wpAnyH_take (i := 24) (oi := ⟨some 155, .fieldAddr 168 (.tmp 154) 2, _, _, _, _⟩) (v := (.pointer (some ⟨J8, 2, none⟩))) rfl (by kernel_rfl) (by kernel_rfl) (by kernel_rfl) (fun _ _ _ h => h) (Or.inl ⟨by rfl, fun w hSw => by (dsimp only at hSw; go_simp)⟩) (by assumption) ?_
                                          simp only [Act.put, List.setIfInBounds_toArray, List.set_cons_zero, List.set_cons_succ]
                                          refine wpAnyH_ready (rs := [25]) (by kernel_rfl) (by simp) ?_
                                          refine AllReadyH.cons (o := ⟨some 156, .load 22 (.tmp 155), _, _, _, _⟩) rfl (fun K hK => ?_) ?_
                                          · go_simp
                                            refine hK.out _ _ (by assumption) (fun hHeld => ?_)
                                            clear hK K
                                            refine wpAnyH_ready (rs := [26]) (by kernel_rfl) (by simp) ?_
                                            refine AllReadyH.cons (o := ⟨some 157, _, _, _, _, _⟩) rfl (fun K hK => ?_) ?_
                                            · go_simp
                                              refine hK.out _ _ (keepP ‹_› hB2lt hB3lt (below1 _ _) (psz ‹_›)) (fun hHeld => ?_)
                                              clear hK K
                                              refine wpAnyH_ready (rs := [27]) (by kernel_rfl) (by simp) ?_
                                              refine AllReadyH.cons (o := ⟨some 22, .assign (.tmp 157), _, _, _, _⟩) rfl (fun K hK => ?_) ?_
                                              · go_simp
                                                refine hK.out _ _ (by assumption) (fun hHeld => ?_)
                                                clear hK K
                                                refine wpAnyH_done (by kernel_rfl) ?_ _
                                                have hbW : Below V4.heap.size V4 w11 := pbel hS11
                                                have q11 := ho7.sl.below b11
                                                have q12 := ho11.sl
                                                go_wp2
                                                go_meet
                                                change ∃ us, Vs (w11.alloc (.cells #[.slice sa7 sn7 sc7, .slice sa11 sn11 sc11] 22)) (.slice (some ⟨w11.heap.size, 0, none⟩) 2 2) us ∧ Lists (w11.alloc (.cells #[.slice sa7 sn7 sc7, .slice sa11 sn11 sc11] 22)) us _ ∧ Below V4.heap.size V4 (w11.alloc (.cells #[.slice sa7 sn7 sc7, .slice sa11 sn11 sc11] 22))
                                                exact ⟨[.slice sa7 sn7 sc7, .slice sa11 sn11 sc11], ⟨_, 2, 2, rfl, rfl, by decide, by decide, vals_lit _ [.slice sa7 sn7 sc7, .slice sa11 sn11 sc11] _, fun h => by simp at h⟩, (Lists.one (q11.below (below1 _ _))).append (Lists.one (q12.below (below1 _ _))), hbW.alloc hbW.size _⟩
                                              exact AllReadyH.nil
                                            exact AllReadyH.nil
                                          exact AllReadyH.nil
                                        exact AllReadyH.nil
                                      exact AllReadyH.nil
                                    exact AllReadyH.nil
                                  refine AllReadyH.cons (o := ⟨some 147, _, _, _, _, _⟩) rfl (fun K hK => ?_) ?_
                                  · go_simp
                                    refine (joined_erase J8 J8 0 (some ⟨bb1, bo1, none⟩) n cb pa P B _ _ ((HSB.out.belowB (pbel ‹_›)).imp (fun q hq => Nat.lt_of_lt_of_le hq hJWJ8)) hJ8 (by omega) hPn hn (by decide)).mono ?_
                                    rintro e w9 ⟨rfl, hJ9, hb9, hz9⟩
                                    have hS9 := keepP ‹_› hB2lt hB3lt hb9 hJWJ8
                                    have l9 := (below_cell hb9 (p := ⟨J4, 2, none⟩) hJ48).trans l8
                                    have b9 := hb8.trans (hb9.mono hz8)
                                    dsimp only
                                    refine hK.out _ _ hS9 (fun hHeld => ?_)
                                    clear hK K
                                    refine wpAnyH_ready (rs := [12, 19]) (by kernel_rfl) (by simp) ?_
                                    refine AllReadyH.cons (o := ⟨some 143, .load 22 (.tmp 142), _, _, _, _⟩) rfl (fun K hK => ?_) ?_
                                    · go_simp
                                      refine hK.out _ _ (by assumption) (fun hHeld => ?_)
                                      clear hK K
                                      refine wpAnyH_ready (rs := [19]) (by kernel_rfl) (by simp) ?_
                                      refine AllReadyH.cons (o := ⟨some 150, _, _, _, _, _⟩) rfl (fun K hK => ?_) ?_
                                      · go_simp
                                        refine (joined_over J8 J8 2 (some ⟨bb1, bo1, none⟩) n cb P lo hi B _ _ ((HSB.out.belowB (pbel ‹_›)).imp (fun q hq => Nat.lt_of_lt_of_le hq hJWJ8)) hJ9 hPn hlh (by omega) hn (by decide)).mono ?_
                                        rintro e w10 ⟨rfl, hJ10, hb10, hz10⟩
                                        have hS10 := keepP ‹_› hB2lt hB3lt hb10 hJWJ8
                                        have l10 := (below_cell hb10 (p := ⟨J4, 2, none⟩) hJ48).trans l9
                                        have b10 := b9.trans (hb10.mono hz8)
                                        dsimp only
                                        refine hK.out _ _ hS10 (fun hHeld => ?_)
                                        clear hK K
                                        refine wpAnyH_ready (rs := [22]) (by kernel_rfl) (by simp) ?_
                                        refine AllReadyH.cons (o := ⟨some 153, _, _, _, _, _⟩) rfl (fun K hK => ?_) ?_
                                        · go_simp
                                          refine (joined_to J8 J8 4 (some ⟨bb1, bo1, none⟩) n cb hi pb B _ _ ((HSB.out.belowB (pbel ‹_›)).imp (fun q hq => Nat.lt_of_lt_of_le hq hJWJ8)) hJ10 (by omega) hpb hn (by decide)).mono ?_
                                          rintro e w11 ⟨rfl, hJ11, hb11, hz11⟩
                                          have hS11 := keepP ‹_› hB2lt hB3lt hb11 hJWJ8
                                          have l11 := (below_cell hb11 (p := ⟨J4, 2, none⟩) hJ48).trans l10
                                          have b11 := b10.trans (hb11.mono hz8)
                                          obtain ⟨sv11, hB11, ho11, hbJ11, hl11⟩ := hJ11
                                          obtain ⟨-, -, k11, -⟩ := hB11.three
                                          obtain ⟨sa11, sn11, sc11, rfl⟩ := ho11.form
                                          dsimp only
                                          refine hK.out _ _ hS11 (fun hHeld => ?_)
                                          clear hK K
                                          refine wpAnyH_take (i := 23) (oi := ⟨some 154, .nilCheck (.tmp 153), _, _, _, _⟩) (v := (.pointer (some ⟨J8, 0, none⟩))) rfl (by kernel_rfl) (by kernel_rfl) (by kernel_rfl) (fun _ _ _ h => h) (Or.inl ⟨by rfl, fun w hSw => by (dsimp only at hSw; go_simp)⟩) (by assumption) ?_
                                          simp only [Act.put, List.setIfInBounds_toArray, List.set_cons_zero, List.set_cons_succ]
                                          refine wpAnyH_take (i := 24) (oi := ⟨some 155, .fieldAddr 168 (.tmp 154) 2, _, _, _, _⟩) (v := (.pointer (some ⟨J8, 2, none⟩))) rfl (by kernel_rfl) (by kernel_rfl) (by kernel_rfl) (fun _ _ _ h => h) (Or.inl ⟨by rfl, fun w hSw => by (dsimp only at hSw; go_simp)⟩) (by assumption) ?_
                                          simp only [Act.put, List.setIfInBounds_toArray, List.set_cons_zero, List.set_cons_succ]
                                          refine wpAnyH_ready (rs := [25]) (by kernel_rfl) (by simp) ?_
                                          refine AllReadyH.cons (o := ⟨some 156, .load 22 (.tmp 155), _, _, _, _⟩) rfl (fun K hK => ?_) ?_
                                          · go_simp
                                            refine hK.out _ _ (by assumption) (fun hHeld => ?_)
                                            clear hK K
                                            refine wpAnyH_ready (rs := [26]) (by kernel_rfl) (by simp) ?_
                                            refine AllReadyH.cons (o := ⟨some 157, _, _, _, _, _⟩) rfl (fun K hK => ?_) ?_
                                            · go_simp
                                              refine hK.out _ _ (keepP ‹_› hB2lt hB3lt (below1 _ _) (psz ‹_›)) (fun hHeld => ?_)
                                              clear hK K
                                              refine wpAnyH_ready (rs := [27]) (by kernel_rfl) (by simp) ?_
                                              refine AllReadyH.cons (o := ⟨some 22, .assign (.tmp 157), _, _, _, _⟩) rfl (fun K hK => ?_) ?_
                                              · go_simp
                                                refine hK.out _ _ (by assumption) (fun hHeld => ?_)
                                                clear hK K
                                                refine wpAnyH_done (by kernel_rfl) ?_ _
                                                have hbW : Below V4.heap.size V4 w11 := pbel hS11
                                                have q11 := ho7.sl.below b11
                                                have q12 := ho11.sl
                                                go_wp2
                                                go_meet
                                                change ∃ us, Vs (w11.alloc (.cells #[.slice sa7 sn7 sc7, .slice sa11 sn11 sc11] 22)) (.slice (some ⟨w11.heap.size, 0, none⟩) 2 2) us ∧ Lists (w11.alloc (.cells #[.slice sa7 sn7 sc7, .slice sa11 sn11 sc11] 22)) us _ ∧ Below V4.heap.size V4 (w11.alloc (.cells #[.slice sa7 sn7 sc7, .slice sa11 sn11 sc11] 22))
                                                exact ⟨[.slice sa7 sn7 sc7, .slice sa11 sn11 sc11], ⟨_, 2, 2, rfl, rfl, by decide, by decide, vals_lit _ [.slice sa7 sn7 sc7, .slice sa11 sn11 sc11] _, fun h => by simp at h⟩, (Lists.one (q11.below (below1 _ _))).append (Lists.one (q12.below (below1 _ _))), hbW.alloc hbW.size _⟩
                                              exact AllReadyH.nil
                                            exact AllReadyH.nil
                                          exact AllReadyH.nil
                                        exact AllReadyH.nil
                                      exact AllReadyH.nil
                                    refine AllReadyH.cons (o := ⟨some 150, _, _, _, _, _⟩) rfl (fun K hK => ?_) ?_
                                    · go_simp
                                      refine (joined_over J8 J8 2 (some ⟨bb1, bo1, none⟩) n cb P lo hi B _ _ ((HSB.out.belowB (pbel ‹_›)).imp (fun q hq => Nat.lt_of_lt_of_le hq hJWJ8)) hJ9 hPn hlh (by omega) hn (by decide)).mono ?_
                                      rintro e w10 ⟨rfl, hJ10, hb10, hz10⟩
                                      have hS10 := keepP ‹_› hB2lt hB3lt hb10 hJWJ8
                                      have l10 := (below_cell hb10 (p := ⟨J4, 2, none⟩) hJ48).trans l9
                                      have b10 := b9.trans (hb10.mono hz8)
                                      dsimp only
                                      refine hK.out _ _ hS10 (fun hHeld => ?_)
                                      clear hK K
                                      refine wpAnyH_ready (rs := [12, 22]) (by kernel_rfl) (by simp) ?_
                                      refine AllReadyH.cons (o := ⟨some 143, .load 22 (.tmp 142), _, _, _, _⟩) rfl (fun K hK => ?_) ?_
                                      · go_simp
                                        refine hK.out _ _ (by assumption) (fun hHeld => ?_)
                                        clear hK K
                                        refine wpAnyH_ready (rs := [22]) (by kernel_rfl) (by simp) ?_
                                        refine AllReadyH.cons (o := ⟨some 153, _, _, _, _, _⟩) rfl (fun K hK => ?_) ?_
                                        · go_simp
                                          refine (joined_to J8 J8 4 (some ⟨bb1, bo1, none⟩) n cb hi pb B _ _ ((HSB.out.belowB (pbel ‹_›)).imp (fun q hq => Nat.lt_of_lt_of_le hq hJWJ8)) hJ10 (by omega) hpb hn (by decide)).mono ?_
                                          rintro e w11 ⟨rfl, hJ11, hb11, hz11⟩
                                          have hS11 := keepP ‹_› hB2lt hB3lt hb11 hJWJ8
                                          have l11 := (below_cell hb11 (p := ⟨J4, 2, none⟩) hJ48).trans l10
                                          have b11 := b10.trans (hb11.mono hz8)
                                          obtain ⟨sv11, hB11, ho11, hbJ11, hl11⟩ := hJ11
                                          obtain ⟨-, -, k11, -⟩ := hB11.three
                                          obtain ⟨sa11, sn11, sc11, rfl⟩ := ho11.form
                                          dsimp only
                                          refine hK.out _ _ hS11 (fun hHeld => ?_)
                                          clear hK K
                                          refine wpAnyH_take (i := 23) (oi := ⟨some 154, .nilCheck (.tmp 153), _, _, _, _⟩) (v := (.pointer (some ⟨J8, 0, none⟩))) rfl (by kernel_rfl) (by kernel_rfl) (by kernel_rfl) (fun _ _ _ h => h) (Or.inl ⟨by rfl, fun w hSw => by (dsimp only at hSw; go_simp)⟩) (by assumption) ?_
                                          simp only [Act.put, List.setIfInBounds_toArray, List.set_cons_zero, List.set_cons_succ]
                                          refine wpAnyH_take (i := 24) (oi := ⟨some 155, .fieldAddr 168 (.tmp 154) 2, _, _, _, _⟩) (v := (.pointer (some ⟨J8, 2, none⟩))) rfl (by kernel_rfl) (by kernel_rfl) (by kernel_rfl) (fun _ _ _ h => h) (Or.inl ⟨by rfl, fun w hSw => by (dsimp only at hSw; go_simp)⟩) (by assumption) ?_
                                          simp only [Act.put, List.setIfInBounds_toArray, List.set_cons_zero, List.set_cons_succ]
                                          refine wpAnyH_ready (rs := [25]) (by kernel_rfl) (by simp) ?_
                                          refine AllReadyH.cons (o := ⟨some 156, .load 22 (.tmp 155), _, _, _, _⟩) rfl (fun K hK => ?_) ?_
                                          · go_simp
                                            refine hK.out _ _ (by assumption) (fun hHeld => ?_)
                                            clear hK K
                                            refine wpAnyH_ready (rs := [26]) (by kernel_rfl) (by simp) ?_
                                            refine AllReadyH.cons (o := ⟨some 157, _, _, _, _, _⟩) rfl (fun K hK => ?_) ?_
                                            · go_simp
                                              refine hK.out _ _ (keepP ‹_› hB2lt hB3lt (below1 _ _) (psz ‹_›)) (fun hHeld => ?_)
                                              clear hK K
                                              refine wpAnyH_ready (rs := [27]) (by kernel_rfl) (by simp) ?_
                                              refine AllReadyH.cons (o := ⟨some 22, .assign (.tmp 157), _, _, _, _⟩) rfl (fun K hK => ?_) ?_
                                              · go_simp
                                                refine hK.out _ _ (by assumption) (fun hHeld => ?_)
                                                clear hK K
                                                refine wpAnyH_done (by kernel_rfl) ?_ _
                                                have hbW : Below V4.heap.size V4 w11 := pbel hS11
                                                have q11 := ho7.sl.below b11
                                                have q12 := ho11.sl
                                                go_wp2
                                                go_meet
                                                change ∃ us, Vs (w11.alloc (.cells #[.slice sa7 sn7 sc7, .slice sa11 sn11 sc11] 22)) (.slice (some ⟨w11.heap.size, 0, none⟩) 2 2) us ∧ Lists (w11.alloc (.cells #[.slice sa7 sn7 sc7, .slice sa11 sn11 sc11] 22)) us _ ∧ Below V4.heap.size V4 (w11.alloc (.cells #[.slice sa7 sn7 sc7, .slice sa11 sn11 sc11] 22))
                                                exact ⟨[.slice sa7 sn7 sc7, .slice sa11 sn11 sc11], ⟨_, 2, 2, rfl, rfl, by decide, by decide, vals_lit _ [.slice sa7 sn7 sc7, .slice sa11 sn11 sc11] _, fun h => by simp at h⟩, (Lists.one (q11.below (below1 _ _))).append (Lists.one (q12.below (below1 _ _))), hbW.alloc hbW.size _⟩
                                              exact AllReadyH.nil
                                            exact AllReadyH.nil
                                          exact AllReadyH.nil
                                        exact AllReadyH.nil
                                      refine AllReadyH.cons (o := ⟨some 153, _, _, _, _, _⟩) rfl (fun K hK => ?_) ?_
                                      · go_simp
                                        refine (joined_to J8 J8 4 (some ⟨bb1, bo1, none⟩) n cb hi pb B _ _ ((HSB.out.belowB (pbel ‹_›)).imp (fun q hq => Nat.lt_of_lt_of_le hq hJWJ8)) hJ10 (by omega) hpb hn (by decide)).mono ?_
                                        rintro e w11 ⟨rfl, hJ11, hb11, hz11⟩
                                        have hS11 := keepP ‹_› hB2lt hB3lt hb11 hJWJ8
                                        have l11 := (below_cell hb11 (p := ⟨J4, 2, none⟩) hJ48).trans l10
                                        have b11 := b10.trans (hb11.mono hz8)
                                        obtain ⟨sv11, hB11, ho11, hbJ11, hl11⟩ := hJ11
                                        obtain ⟨-, -, k11, -⟩ := hB11.three
                                        obtain ⟨sa11, sn11, sc11, rfl⟩ := ho11.form
                                        dsimp only
                                        refine hK.out _ _ hS11 (fun hHeld => ?_)
                                        clear hK K
                                        refine wpAnyH_take (i := 23) (oi := ⟨some 154, .nilCheck (.tmp 153), _, _, _, _⟩) (v := (.pointer (some ⟨J8, 0, none⟩))) rfl (by kernel_rfl) (by kernel_rfl) (by kernel_rfl) (fun _ _ _ h => h) (Or.inl ⟨by rfl, fun w hSw => by (dsimp only at hSw; go_simp)⟩) (by assumption) ?_
                                        simp only [Act.put, List.setIfInBounds_toArray, List.set_cons_zero, List.set_cons_succ]
                                        refine wpAnyH_take (i := 24) (oi := ⟨some 155, .fieldAddr 168 (.tmp 154) 2, _, _, _, _⟩) (v := (.pointer (some ⟨J8, 2, none⟩))) rfl (by kernel_rfl) (by kernel_rfl) (by kernel_rfl) (fun _ _ _ h => h) (Or.inl ⟨by rfl, fun w hSw => by (dsimp only at hSw; go_simp)⟩) (by assumption) ?_
                                        simp only [Act.put, List.setIfInBounds_toArray, List.set_cons_zero, List.set_cons_succ]
                                        refine wpAnyH_ready (rs := [12, 25]) (by kernel_rfl) (by simp) ?_
                                        refine AllReadyH.cons (o := ⟨some 143, .load 22 (.tmp 142), _, _, _, _⟩) rfl (fun K hK => ?_) ?_
                                        · go_simp
                                          refine hK.out _ _ (by assumption) (fun hHeld => ?_)
                                          clear hK K
                                          refine wpAnyH_ready (rs := [25]) (by kernel_rfl) (by simp) ?_
                                          refine AllReadyH.cons (o := ⟨some 156, .load 22 (.tmp 155), _, _, _, _⟩) rfl (fun K hK => ?_) ?_
                                          · go_simp
                                            refine hK.out _ _ (by assumption) (fun hHeld => ?_)
                                            clear hK K
                                            refine wpAnyH_ready (rs := [26]) (by kernel_rfl) (by simp) ?_
                                            refine AllReadyH.cons (o := ⟨some 157, _, _, _, _, _⟩) rfl (fun K hK => ?_) ?_
                                            · go_simp
                                              refine hK.out _ _ (keepP ‹_› hB2lt hB3lt (below1 _ _) (psz ‹_›)) (fun hHeld => ?_)
                                              clear hK K
                                              refine wpAnyH_ready (rs := [27]) (by kernel_rfl) (by simp) ?_
                                              refine AllReadyH.cons (o := ⟨some 22, .assign (.tmp 157), _, _, _, _⟩) rfl (fun K hK => ?_) ?_
                                              · go_simp
                                                refine hK.out _ _ (by assumption) (fun hHeld => ?_)
                                                clear hK K
                                                refine wpAnyH_done (by kernel_rfl) ?_ _
                                                have hbW : Below V4.heap.size V4 w11 := pbel hS11
                                                have q11 := ho7.sl.below b11
                                                have q12 := ho11.sl
                                                go_wp2
                                                go_meet
                                                change ∃ us, Vs (w11.alloc (.cells #[.slice sa7 sn7 sc7, .slice sa11 sn11 sc11] 22)) (.slice (some ⟨w11.heap.size, 0, none⟩) 2 2) us ∧ Lists (w11.alloc (.cells #[.slice sa7 sn7 sc7, .slice sa11 sn11 sc11] 22)) us _ ∧ Below V4.heap.size V4 (w11.alloc (.cells #[.slice sa7 sn7 sc7, .slice sa11 sn11 sc11] 22))
                                                exact ⟨[.slice sa7 sn7 sc7, .slice sa11 sn11 sc11], ⟨_, 2, 2, rfl, rfl, by decide, by decide, vals_lit _ [.slice sa7 sn7 sc7, .slice sa11 sn11 sc11] _, fun h => by simp at h⟩, (Lists.one (q11.below (below1 _ _))).append (Lists.one (q12.below (below1 _ _))), hbW.alloc hbW.size _⟩
                                              exact AllReadyH.nil
                                            exact AllReadyH.nil
                                          exact AllReadyH.nil
                                        refine AllReadyH.cons (o := ⟨some 156, .load 22 (.tmp 155), _, _, _, _⟩) rfl (fun K hK => ?_) ?_
                                        · go_simp
                                          refine hK.out _ _ (by assumption) (fun hHeld => ?_)
                                          clear hK K
                                          refine wpAnyH_ready (rs := [12]) (by kernel_rfl) (by simp) ?_
                                          refine AllReadyH.cons (o := ⟨some 143, .load 22 (.tmp 142), _, _, _, _⟩) rfl (fun K hK => ?_) ?_
                                          · go_simp
                                            refine hK.out _ _ (by assumption) (fun hHeld => ?_)
                                            clear hK K
                                            refine wpAnyH_ready (rs := [26]) (by kernel_rfl) (by simp) ?_
                                            refine AllReadyH.cons (o := ⟨some 157, _, _, _, _, _⟩) rfl (fun K hK => ?_) ?_
                                            · go_simp
                                              refine hK.out _ _ (keepP ‹_› hB2lt hB3lt (below1 _ _) (psz ‹_›)) (fun hHeld => ?_)
                                              clear hK K
                                              refine wpAnyH_ready (rs := [27]) (by kernel_rfl) (by simp) ?_
                                              refine AllReadyH.cons (o := ⟨some 22, .assign (.tmp 157), _, _, _, _⟩) rfl (fun K hK => ?_) ?_
                                              · go_simp
                                                refine hK.out _ _ (by assumption) (fun hHeld => ?_)
                                                clear hK K
                                                refine wpAnyH_done (by kernel_rfl) ?_ _
                                                have hbW : Below V4.heap.size V4 w11 := pbel hS11
                                                have q11 := ho7.sl.below b11
                                                have q12 := ho11.sl
                                                go_wp2
                                                go_meet
                                                change ∃ us, Vs (w11.alloc (.cells #[.slice sa7 sn7 sc7, .slice sa11 sn11 sc11] 22)) (.slice (some ⟨w11.heap.size, 0, none⟩) 2 2) us ∧ Lists (w11.alloc (.cells #[.slice sa7 sn7 sc7, .slice sa11 sn11 sc11] 22)) us _ ∧ Below V4.heap.size V4 (w11.alloc (.cells #[.slice sa7 sn7 sc7, .slice sa11 sn11 sc11] 22))
                                                exact ⟨[.slice sa7 sn7 sc7, .slice sa11 sn11 sc11], ⟨_, 2, 2, rfl, rfl, by decide, by decide, vals_lit _ [.slice sa7 sn7 sc7, .slice sa11 sn11 sc11] _, fun h => by simp at h⟩, (Lists.one (q11.below (below1 _ _))).append (Lists.one (q12.below (below1 _ _))), hbW.alloc hbW.size _⟩
                                              exact AllReadyH.nil
                                            exact AllReadyH.nil
                                          exact AllReadyH.nil
                                        exact AllReadyH.nil
                                      exact AllReadyH.nil
                                    exact AllReadyH.nil
                                  exact AllReadyH.nil
                                exact AllReadyH.nil
                              exact AllReadyH.nil
                            exact AllReadyH.nil
                          exact AllReadyH.nil
                        exact AllReadyH.nil
                      case rest =>
                        obtain ⟨us, hvs, hls, hbx⟩ := hcut
                        obtain ⟨va, vn, vc, rfl, ve1, ve2, ve3, ve4, ve5⟩ := hvs
                        obtain rfl : vn = 2 := by rw [← ve1, hls.len]; rfl
                        obtain ⟨X, hX⟩ : ∃ X, X = [(((([] ++ wayS B pa lo) ++ wayS B lo hi) ++ wayS B hi P) ++ [11]) ++ wayS B P pb, (((([] ++ wayS B pa P) ++ [11]) ++ wayS B P lo) ++ wayS B lo hi) ++ wayS B hi pb] := ⟨_, rfl⟩
                        rw [← hX] at hls
                        have hXl : X.length = 2 := by rw [hX]; rfl
                        have HX := Lib.hid hX; have HXL := Lib.hid hXl; have HVE := Lib.hid ve1
                        have hbest3 := HBR.out.below hbx
                        have hbV3 := below_then hbr hbr.size hbx
                        have HB3 := Lib.hid hbest3
                        obtain ⟨V3, hV3⟩ : ∃ V, V = wc := ⟨_, rfl⟩
                        subst hV3
                        clear hX hXl ve1 hbest3 q0 q1 q2
                        go_wp2
                        go_loopw [13, 160] (fun bv i wr => ∃ k : Nat, i = .int .i64 (k : Int) ∧ k ≤ 2 ∧ Sl wr bv (bestS BB (X.take k)) ∧ ∃ m, wr = V3.drewN m) (fun _ i _ => 2 - (intOf i).toNat)
                        case atStart => exact ⟨0, rfl, Nat.zero_le _, HB3.out, 0, rfl⟩
                        case round =>
                          obtain ⟨k, rfl, hk, hbk, m, rfl⟩ := hrel
                          obtain ⟨xb, nb3, cb3, rfl, hxb⟩ := id hbk
                          have HBK := Lib.hid hbk
                          have HXB := Lib.hid hxb
                          clear hbk hxb
                          by_cases hlt : k < 2
                          · obtain ⟨b1, o1, rfl, hc1⟩ := ve4.at (k := k) (by rw [HVE.out]; exact hlt)
                            have e1 := hc1 k (by rw [HVE.out]; exact hlt)
                            obtain ⟨xa, xn, xc, x1, x2, x3, x4, x5, x6⟩ := hls.sl k (by rw [HXL.out]; exact hlt)
                            have HSK := Lib.hid (hls.sl k (by rw [HXL.out]; exact hlt))
                            rw [x1] at e1
                            have HX2 := Lib.hid x2; have HX1 := Lib.hid x1
                            have hnew : bestS BB (X.take (k + 1)) = betterS (bestS BB (X.take k)) (rx X k) := by rw [take_succ_rx (by rw [HXL.out]; exact hlt), bestS_snoc]
                            have HNEW := Lib.hid hnew
                            clear hc1 x1 x2 x3 x4 x5 x6 hnew
                            by_cases hbt : xn < nb3
                            · have i1 : (xn : Int) < (nb3 : Int) := by omega
                              go_wp2
                              go_roundw
                              case rel =>
                                refine ⟨k + 1, by go_num, by omega, ?_, _, rfl⟩
                                rw [HNEW.out]
                                unfold betterS
                                rw [if_pos (by rw [HX2.out, HXB.out.1]; exact hbt), ← HX1.out]
                                exact HSK.out.drewN m
                              case measure => simp [intOf]; omega
                            · have i1 : ¬ (xn : Int) < (nb3 : Int) := by omega
                              go_wp2
                              go_roundw
                              case rel =>
                                refine ⟨k + 1, by go_num, by omega, ?_, _, rfl⟩
                                rw [HNEW.out]
                                unfold betterS
                                rw [if_neg (by rw [HX2.out, HXB.out.1]; exact hbt)]
                                exact HBK.out
                              case measure => simp [intOf]; omega
                          · obtain rfl : k = 2 := by omega
                            go_wp2
                            go_roundw
                            case rel =>
                              refine ⟨P + 1, j + 1, by go_num, Lib.hid (by have := HP.out; omega), by have := HP.out; omega, by omega, ?_, below_drewN hbV3 m⟩
                              have h1 := HBK.out
                              rw [List.take_of_length_le (by rw [HXL.out]; exact Nat.le_refl _), ← HBB.out, ← bestS_append, HX.out] at h1
                              rw [plansTo_succ, HPA.out, List.map_append]
                              exact h1
                            case measure => simp [intOf]; omega
                  · have HPA := Lib.hid (show (plansAt lo hi (full + j)) = [[(P, none)]] by unfold plansAt; rw [if_neg hm, ← HP.out])
                    rw [decide_eq_false hm]
                    go_upto_region 25 with fail
                    go_cut [22] (fun v wx => ∃ us, Vs wx v us ∧ Lists wx us [(([] ++ wayS B pa P) ++ [11]) ++ wayS B P pb] ∧ Below V2.heap.size V2 wx)
                    case first =>
                      have hS0 : (V2.drew.cell? ⟨B3, 0, none⟩ = some (.slice (some ⟨bb1, bo1, none⟩) n cb) ∧ V2.drew.cell? ⟨B2, 1, none⟩ = some (.int .i64 (pa : Int)) ∧ V2.drew.cell? ⟨B3, 1, none⟩ = some (.int .i64 (pb : Int)) ∧ Below V2.heap.size V2 V2.drew) := ⟨q0, q1, q2, (Below.refl _ _).drew⟩
                      go_region_law (first | (go_simp; go_at_call 106; ((with_reducible refine (paint_begin B2 B3 (some ⟨bb1, bo1, none⟩) n cb pa _ (ps0 ‹_›) (ps1 ‹_›)).mono ?_); rintro e w4 ⟨J4, rfl, hz4, hJ4, hb4⟩; have hJWJ4 : V2.heap.size ≤ J4 := Nat.le_trans (psz ‹_›) hz4; have hS4 := keepP ‹_› hB2lt hB3lt hb4 (psz ‹_›); have hT := hS4; obtain ⟨r0, r1, r2, -⟩ := hT)) | (go_simp; go_at_call 110; ((with_reducible refine (joined_erase J4 J4 0 (some ⟨bb1, bo1, none⟩) n cb pa P B _ _ ((HSB.out.belowB (pbel ‹_›)).imp (fun q hq => Nat.lt_of_lt_of_le hq hJWJ4)) hJ4 (by omega) (by omega) hn (by decide)).mono ?_); rintro e w5 ⟨rfl, hJ5, hb5, hz5⟩; have hS5 := keepP ‹_› hB2lt hB3lt hb5 hJWJ4; have hT := hS5; obtain ⟨r0, r1, r2, -⟩ := hT)) | (go_simp; go_at_call 108; ((with_reducible refine (joined_to J4 J4 2 (some ⟨bb1, bo1, none⟩) n cb P pb B _ _ ((HSB.out.belowB (pbel ‹_›)).imp (fun q hq => Nat.lt_of_lt_of_le hq hJWJ4)) hJ5 (by omega) hpb hn (by decide)).mono ?_); rintro e w6 ⟨rfl, hJ6, hb6, hz6⟩; have hS6 := keepP ‹_› hB2lt hB3lt hb6 hJWJ4; have hT := hS6; obtain ⟨r0, r1, r2, -⟩ := hT; obtain ⟨sv6, hB6, ho6, hbJ6, hl6⟩ := hJ6; obtain ⟨-, -, k6, -⟩ := hB6.three; obtain ⟨sa6, sn6, sc6, rfl⟩ := ho6.form)))
                      all_goals
                        have hbW : Below V2.heap.size V2 w6 := pbel ‹_›
                        have hSl := ho6.sl
                        go_wp2
                        go_meet
                        change ∃ us, Vs (w6.alloc (.cells #[.slice sa6 sn6 sc6] 22)) (.slice (some ⟨w6.heap.size, 0, none⟩) 1 1) us ∧ Lists (w6.alloc (.cells #[.slice sa6 sn6 sc6] 22)) us _ ∧ Below V2.heap.size V2 (w6.alloc (.cells #[.slice sa6 sn6 sc6] 22))
                        exact ⟨[.slice sa6 sn6 sc6], ⟨_, 1, 1, rfl, rfl, by decide, by decide, vals_lit _ [.slice sa6 sn6 sc6] _, fun h => by simp at h⟩, Lists.one (hSl.below (below1 _ _)), hbW.alloc hbW.size _⟩
                    case rest =>
                      obtain ⟨us, hvs, hls, hbx⟩ := hcut
                      obtain ⟨va, vn, vc, rfl, ve1, ve2, ve3, ve4, ve5⟩ := hvs
                      obtain rfl : vn = 1 := by rw [← ve1, hls.len]; rfl
                      obtain ⟨X, hX⟩ : ∃ X, X = [(([] ++ wayS B pa P) ++ [11]) ++ wayS B P pb] := ⟨_, rfl⟩
                      rw [← hX] at hls
                      have hXl : X.length = 1 := by rw [hX]; rfl
                      have HX := Lib.hid hX; have HXL := Lib.hid hXl; have HVE := Lib.hid ve1
                      have hbest3 := HBR.out.below hbx
                      have hbV3 := below_then hbr hbr.size hbx
                      have HB3 := Lib.hid hbest3
                      obtain ⟨V3, hV3⟩ : ∃ V, V = wc := ⟨_, rfl⟩
                      subst hV3
                      clear hX hXl ve1 hbest3 q0 q1 q2
                      go_wp2
                      go_loopw [13, 160] (fun bv i wr => ∃ k : Nat, i = .int .i64 (k : Int) ∧ k ≤ 1 ∧ Sl wr bv (bestS BB (X.take k)) ∧ ∃ m, wr = V3.drewN m) (fun _ i _ => 1 - (intOf i).toNat)
                      case atStart => exact ⟨0, rfl, Nat.zero_le _, HB3.out, 0, rfl⟩
                      case round =>
                        obtain ⟨k, rfl, hk, hbk, m, rfl⟩ := hrel
                        obtain ⟨xb, nb3, cb3, rfl, hxb⟩ := id hbk
                        have HBK := Lib.hid hbk
                        have HXB := Lib.hid hxb
                        clear hbk hxb
                        by_cases hlt : k < 1
                        · obtain ⟨b1, o1, rfl, hc1⟩ := ve4.at (k := k) (by rw [HVE.out]; exact hlt)
                          have e1 := hc1 k (by rw [HVE.out]; exact hlt)
                          obtain ⟨xa, xn, xc, x1, x2, x3, x4, x5, x6⟩ := hls.sl k (by rw [HXL.out]; exact hlt)
                          have HSK := Lib.hid (hls.sl k (by rw [HXL.out]; exact hlt))
                          rw [x1] at e1
                          have HX2 := Lib.hid x2; have HX1 := Lib.hid x1
                          have hnew : bestS BB (X.take (k + 1)) = betterS (bestS BB (X.take k)) (rx X k) := by rw [take_succ_rx (by rw [HXL.out]; exact hlt), bestS_snoc]
                          have HNEW := Lib.hid hnew
                          clear hc1 x1 x2 x3 x4 x5 x6 hnew
                          by_cases hbt : xn < nb3
                          · have i1 : (xn : Int) < (nb3 : Int) := by omega
                            go_wp2
                            go_roundw
                            case rel =>
                              refine ⟨k + 1, by go_num, by omega, ?_, _, rfl⟩
                              rw [HNEW.out]
                              unfold betterS
                              rw [if_pos (by rw [HX2.out, HXB.out.1]; exact hbt), ← HX1.out]
                              exact HSK.out.drewN m
                            case measure => simp [intOf]; omega
                          · have i1 : ¬ (xn : Int) < (nb3 : Int) := by omega
                            go_wp2
                            go_roundw
                            case rel =>
                              refine ⟨k + 1, by go_num, by omega, ?_, _, rfl⟩
                              rw [HNEW.out]
                              unfold betterS
                              rw [if_neg (by rw [HX2.out, HXB.out.1]; exact hbt)]
                              exact HBK.out
                            case measure => simp [intOf]; omega
                        · obtain rfl : k = 1 := by omega
                          go_wp2
                          go_roundw
                          case rel =>
                            refine ⟨P + 1, j + 1, by go_num, Lib.hid (by have := HP.out; omega), by have := HP.out; omega, by omega, ?_, below_drewN hbV3 m⟩
                            have h1 := HBK.out
                            rw [List.take_of_length_le (by rw [HXL.out]; exact Nat.le_refl _), ← HBB.out, ← bestS_append, HX.out] at h1
                            rw [plansTo_succ, HPA.out, List.map_append]
                            exact h1
                          case measure => simp [intOf]; omega
                · obtain rfl : j = fi + 1 - full := by have := HP.out; omega
                  have i1 : ¬ ((P : Nat) : Int) ≤ (fi : Int) := by omega
                  go_wp2
                  go_ret2
                  exact ⟨.slice abj nbj cbj, rfl, by rw [HPV.out.2.2 hxy1 htl, HB0.out]; exact hbj, below_then haccV (by omega) hbr⟩
            · rw [decide_eq_false (Nat.not_lt.2 htl)]
              go_wp2
              go_ret2
              exact ⟨.slice ab nb cb2, rfl, by rw [HPV.out.2.1 hxy1 htl, HB0.out]; exact HBEST.out, haccV⟩
  · rw [decide_eq_false (Nat.not_lt.2 hxy1)]
    go_upto_region 13 with fail
    have hS0 : (W.drew.cell? ⟨B3, 0, none⟩ = some (.slice (some ⟨bb1, bo1, none⟩) n cb) ∧ W.drew.cell? ⟨B2, 1, none⟩ = some (.int .i64 (pa : Int)) ∧ W.drew.cell? ⟨B3, 1, none⟩ = some (.int .i64 (pb : Int)) ∧ Below W.heap.size W W.drew) := ⟨q0, q1, q2, (Below.refl _ _).drew⟩
    go_region_law (first | (go_simp; go_at_call 106; ((with_reducible refine (paint_begin B2 B3 (some ⟨bb1, bo1, none⟩) n cb pa _ (ps0 ‹_›) (ps1 ‹_›)).mono ?_); rintro e w4 ⟨J4, rfl, hz4, hJ4, hb4⟩; have hJWJ4 : W.heap.size ≤ J4 := Nat.le_trans (psz ‹_›) hz4; have hS4 := keepP ‹_› hB2lt hB3lt hb4 (psz ‹_›); have hT := hS4; obtain ⟨r0, r1, r2, -⟩ := hT)) | (go_simp; go_at_call 108; ((with_reducible refine (joined_to J4 J4 0 (some ⟨bb1, bo1, none⟩) n cb pa pb B _ _ ((HSB.out.belowB (pbel ‹_›)).imp (fun q hq => Nat.lt_of_lt_of_le hq hJWJ4)) hJ4 (by omega) hpb hn (by decide)).mono ?_); rintro e w5 ⟨rfl, hJ5, hb5, hz5⟩; have hS5 := keepP ‹_› hB2lt hB3lt hb5 hJWJ4; have hT := hS5; obtain ⟨r0, r1, r2, -⟩ := hT; obtain ⟨sv5, hB5, ho5, hbJ5, hl5⟩ := hJ5; obtain ⟨-, -, k5, -⟩ := hB5.three; obtain ⟨sa5, sn5, sc5, rfl⟩ := ho5.form)))
    all_goals
      have hbW : Below W.heap.size W w5 := pbel ‹_›
      have hSl := ho5.sl
      go_wp2
      go_ret2
      exact ⟨.slice sa5 sn5 sc5, rfl, by rw [HPV.out.1 hxy1]; exact hSl, below_then haccW (by omega) hbW⟩

end Go.Proofs.Ytmipnikhgihcpaa

