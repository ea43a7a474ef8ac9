/- The walk of the law UndoSays. -/
import Derived.Test.YthnjaichbejifaaUndo4
import Derived.Deep.DeepCutAuto
import Derived.Deep.CutBlock
namespace Go.Proofs.Ythnjaichbejifaa
open Go.RowKit
set_option linter.unusedVariables false
set_option linter.unusedSimpArgs false

theorem belowD {w w' : World} (h : ∃ n, w' = w.drewN n) : Below w.heap.size w w' := by
  obtain ⟨n, rfl⟩ := h; exact below_drewN (Below.refl _ _) n
theorem keep3 {W w1 w2 : World} {a b c : Addr} {u v x : Value} (h : w1.cell? a = some u ∧ w1.cell? b = some v ∧ w1.cell? c = some x ∧ Below W.heap.size W w1) (hb : Below w1.heap.size w1 w2) :
    w2.cell? a = some u ∧ w2.cell? b = some v ∧ w2.cell? c = some x ∧ Below W.heap.size W w2 :=
  ⟨below_keeps hb _ _ h.1, below_keeps hb _ _ h.2.1, below_keeps hb _ _ h.2.2.1, below_then h.2.2.2 h.2.2.2.size hb⟩

theorem keep3g {W w1 w2 : World} {a b c : Addr} {u v x : Value} {row : Option Nat} (h : w1.cell? a = some u ∧ w1.cell? b = some v ∧ w1.cell? c = some x ∧ Below W.heap.size W w1) (hg : w1.grownBy w2 row) (hr : ∀ k, row = some k → W.heap.size ≤ k)
    (ha : a.block < W.heap.size) (hb : b.block < W.heap.size) (hc : c.block < W.heap.size) :
    w2.cell? a = some u ∧ w2.cell? b = some v ∧ w2.cell? c = some x ∧ Below W.heap.size W w2 :=
  ⟨hg.cell h.1 (fun e => by have := hr _ e.symm; omega), hg.cell h.2.1 (fun e => by have := hr _ e.symm; omega), hg.cell h.2.2.1 (fun e => by have := hr _ e.symm; omega), h.2.2.2.grown hg h.2.2.2.size hr⟩

set_option maxRecDepth 100000 in
set_option maxHeartbeats 2000000 in
theorem undoSays_walk (a1 : Option Addr) (c1 n1 : Nat) (xs : List Int) (a2 : Option Addr) (c2 n2 : Nat) (ys : List Int) (most now : Int) (w : World) (h1 : Ints w a1 xs) (h2 : Ints w a2 ys) (hn1 : xs.length = n1) (hn2 : ys.length = n2) (hl1 : n1 < 17592186044416) (hl2 : n2 < 17592186044416)
    (z1 : a1 = none → n1 = 0) (z2 : a2 = none → n2 = 0) (hm1 : -9223372036854775808 ≤ most) (hm2 : most ≤ 9223372036854775807) (hcap1 : n1 ≤ c1) (hcap2 : n2 ≤ c2) :
    Calls Try.prog 5 #[.slice a1 n1 c1, .slice a2 n2 c2, .int .i64 most, .int .i64 now] w fun e w' => e = .returned (.bool true) ∧ Below w.heap.size w w' := by
  have HN1 := Lib.hid hn1; have HN2 := Lib.hid hn2; clear hn1 hn2
  have Z1 := Lib.hid z1; have Z2 := Lib.hid z2; clear z1 z2
  have hB0 := Blk.new w #[.slice a1 n1 c1, .slice a2 n2 c2] 35
  go_enter Try.func5, Try.ntmps5
  go_wp2_with fail
  refine (undo_do a1 a2 n1 c1 n2 c2 xs most now _ (h1.below (below1 _ _)) HN1.out hl1 Z1.out hm1 hm2).mono ?_
  rintro e w1 ⟨v1, rfl, o1, hbel1⟩
  have hB1 := hB0.below hbel1 hB0.lt
  have hb1 := below_then (below1 w _) (by simp) hbel1
  obtain ⟨ad, nd, cd, rfl⟩ := o1.form
  have hL1 := hB1.lt
  go_wp2_with fail
  have hD := Blk.new w1 #[.slice ad nd cd, .slice none 0 0] 35
  have hb1' := hb1.alloc hb1.size (.cells #[.slice ad nd cd, .slice none 0 0] 35)
  have hB1' := hB1.alloc (.cells #[.slice ad nd cd, .slice none 0 0] 35)
  have o1' := o1.alloc (.cells #[.slice ad nd cd, .slice none 0 0] 35)
  refine (slices_clone a1 n1 c1 xs _ (h1.below hb1') HN1.out (by omega) Z1.out).mono ?_
  rintro e w2 ⟨v2, rfl, o2, hbel2⟩
  obtain ⟨a3, n3, c3, rfl⟩ := o2.form
  have hD2 := hD.below hbel2 hD.lt
  have hB2 := hB1'.below hbel2 hB1'.lt
  have hb2 := below_then hb1' hb1'.size hbel2
  have o12 := o1'.kept hbel2
  have hsz2 := hbel2.size
  have hL2 := hD2.lt
  rw [World.size_alloc] at o2 hsz2
  clear hbel2 hbel1
  go_upto_block 0 with (at_builtin; refine app1 rfl _ _ rfl (w1.heap.size + 1) (.slice a3 n3 c3) _ _ _ rfl rfl (o2.alloc _) (cell_new1 _ _ _) (by rw [HN1.out]; exact hl1) (size_alloc_le hsz2 _) ?_; intro v3 w3 o3 hgrow3; obtain ⟨g, k, c4, rfl, hk1, hk2, hkc, hc4, hg1, hg2, hI⟩ := o3.full (by simp); rw [List.length_append, List.length_singleton, HN1.out] at hk1 hk2)
  have hD3 := (hD2.alloc (.cells #[.int .i64 now] 3)).grown hgrow3 (o2.neBlk hD2 (by decide))
  have hB3 := (hB2.alloc (.cells #[.int .i64 now] 3)).grown hgrow3 (o2.neBlk hB2 (by decide))
  have hb3 := (hb2.alloc hb2.size (.cells #[.int .i64 now] 3)).grown hgrow3 (by have := hb2.size; simp; omega) (fun k hk => by have := o2.row k hk; have := hb1.size; omega)
  obtain ⟨d0, d1, -, -⟩ := hD3.two
  obtain ⟨b0, b1, -, -⟩ := hB3.two
  have hL3 := hD3.lt
  have o13 := (o12.alloc (.cells #[.int .i64 now] 3)).grown hgrow3 (o1.sep (o2.mono (Nat.le_succ _)))
  obtain ⟨e13, hI1, -⟩ := o13.get
  have hdlen : (doS xs most now).length ≤ n1 + 1 := by unfold doS; simp; have := HN1.out; omega
  have hnd : nd ≤ 9223372036854775807 := by rw [← e13]; omega
  have E13 := Lib.hid e13; clear e13
  clear o12 o1' o1 o2 hgrow3 hB2 hD2 hB1' hD hb1' hb2 hB1 hB0
  obtain ⟨N, hN1, hN2⟩ : ∃ N : Nat, N ≤ n1 + 1 ∧ n1 + 1 ≤ N := ⟨n1 + 1, Nat.le_refl _, Nat.le_refl _⟩
  obtain rfl : k = N := by omega
  have hdo : doS xs most now = (xs ++ [now]).drop (k - most.toNat) := by unfold doS; rw [HN1.out, show n1 + 1 = k from by omega]
  have HDO := Lib.hid hdo; clear hdo
  go_cut [11] (fun v wx => w3 = wx ∧ ∃ ad' n' c', v = .slice (some ad') n' c' ∧ (doS xs most now).length = n' ∧ n' ≤ n1 + 1 ∧ Ints w3 (some ad') (doS xs most now))
  case first =>
    go_wp2_with fail
    go_loop [11] (fun v => ∃ (j : Nat) (o : Nat), v = .slice (some ⟨g, o, none⟩) (k - j) (c4 - j) ∧ j ≤ k ∧ j ≤ k - most.toNat ∧ (o = j ∨ k ≤ j)) (fun v => match v with | .slice _ n _ => n | _ => 0)
    case atStart => exact ⟨0, 0, rfl, by omega, by omega, .inl rfl⟩
    case round =>
      obtain ⟨j, o, rfl, hj1, hj2, hoj⟩ := hrel
      have HO := Lib.hid hoj; clear hoj
      by_cases hgo : j < k ∧ most < ((k - j : Nat) : Int)
      · obtain ⟨hga, hgb⟩ := hgo
        have hoj := HO.out
        obtain rfl : o = j := by omega
        clear hoj
        have g1 : (0 : Int) < ((k - o : Nat) : Int) := by omega
        go_wp2
        go_round
        case rel =>
          by_cases hc : c4 - o = 1
          · exact ⟨o + 1, o, by rw [if_pos hc, Nat.sub_sub, Nat.sub_sub], by omega, by omega, .inr (by omega)⟩
          · exact ⟨o + 1, o + 1, by rw [if_neg hc, Nat.sub_sub, Nat.sub_sub], by omega, by omega, .inl rfl⟩
        case measure => show k - o - 1 < k - o; omega
      · have hj : j = k - most.toNat := by omega
        have HJ := Lib.hid hj; clear hj
        by_cases hz : k ≤ j
        · have g1 : ¬ (0 : Int) < ((k - j : Nat) : Int) := by omega
          clear hgo
          go_wp2
          go_meet
          have hnil : doS xs most now = [] := by
            rw [HDO.out, ← HJ.out]; apply List.drop_eq_nil_of_le; simp; have := HN1.out; omega
          exact ⟨rfl, _, _, _, rfl, by rw [hnil]; show 0 = _; omega, by omega, by rw [hnil]; exact .inl rfl⟩
        · have g1 : (0 : Int) < ((k - j : Nat) : Int) := by omega
          have g2 : ((k - j : Nat) : Int) ≤ most := by omega
          clear hgo
          go_wp2
          go_meet
          have hoj := HO.out
          obtain rfl : o = j := by omega
          refine ⟨rfl, _, _, _, rfl, ?_, by omega, ?_⟩
          · rw [HDO.out, ← HJ.out]; simp; have := HN1.out; omega
          · rw [HDO.out, ← HJ.out]; have := hI.drop o; rwa [Nat.zero_add] at this
  case rest =>
    obtain ⟨rfl, ad', n', c', rfl, hn', hn'', hI'⟩ := hcut
    have HN' := Lib.hid hn'; clear hn'
    go_wp2_with fail
    refine (slices_same ad (some ad') nd n' cd c' (doS xs most now) w3 hI1 hI' E13.out HN'.out (by omega)).mono ?_
    rintro e w' ⟨rfl, q1, hq1⟩
    have hb4 : Below w.heap.size w w' := by rw [hq1]; exact below_drewN hb3 q1
    have hB4 : Blk w' w.heap.size #[.slice a1 n1 c1, .slice a2 n2 c2] 35 := by rw [hq1]; exact hB3.drewN q1
    have hD4 : Blk w' w1.heap.size #[.slice ad nd cd, .slice none 0 0] 35 := by rw [hq1]; exact hD3.drewN q1
    clear hq1
    obtain ⟨d0, d1, -, -⟩ := hD4.two
    obtain ⟨b0, b1, -, -⟩ := hB4.two
    go_wp2_with fail
    refine (undo_back_any a1 a2 n1 c1 n2 c2 xs ys now w' (h1.below hb4) (h2.below hb4) HN1.out HN2.out (by omega) hl2 Z1.out Z2.out).mono ?_
    rintro e w5 ⟨v5, v6, x5, b5, rfl, i5, i6, hbel5, hcs⟩
    have HC := Lib.hid hcs; clear hcs
    obtain ⟨a5, n5, c5, rfl, e5, j5, q5, -⟩ := i5
    obtain ⟨a6, n6, c6, rfl, e6, j6, q6, -⟩ := i6
    have E5 := Lib.hid e5; have E6 := Lib.hid e6; clear e5 e6
    have hB5 := hB4.below hbel5 hB4.lt
    have hb5 := below_then hb4 hb4.size hbel5
    have hL5 := hB5.lt
    clear hB4 hbel5 hD4 d0 d1 b0 b1
    obtain ⟨b0, b1, -, -⟩ := hB5.two
    go_upto_if 62 with fail
    go_cut [15] (fun _ wx => Below w.heap.size w wx ∧ Blk wx w.heap.size #[.slice a1 n1 c1, .slice a2 n2 c2] 35)
    case first =>
      have hbB := Blk.new w5 #[.slice a5 n5 c5, .slice a6 n6 c6] 35
      have hbW := hb5.alloc hb5.size (.cells #[.slice a5 n5 c5, .slice a6 n6 c6] 35)
      have j5' := j5.below (below1 w5 (.cells #[.slice a5 n5 c5, .slice a6 n6 c6] 35))
      have j6' := j6.below (below1 w5 (.cells #[.slice a5 n5 c5, .slice a6 n6 c6] 35))
      have hBW := hB5.alloc (.cells #[.slice a5 n5 c5, .slice a6 n6 c6] 35)
      generalize hW6 : w5.alloc (.cells #[.slice a5 n5 c5, .slice a6 n6 c6] 35) = w6 at *
      clear hW6
      obtain ⟨k0, k1, -, -⟩ := hbB.two
      rcases HC.out with ⟨hx, rfl, rfl⟩ | ⟨hx, rfl, hx5⟩
      · have h5 := E5.out; have h6 := E6.out
        rw [hx] at h5; rw [if_pos hx] at h6
        obtain rfl : n5 = 0 := h5.symm
        have hn := HN1.out
        rw [hx] at hn
        obtain rfl : n1 = 0 := hn.symm
        rw [if_pos hx] at j6'
        have HX := Lib.hid hx; have H6 := Lib.hid h6; clear hx h5 h6 hn
        go_wp2_with fail
        refine (slices_same a6 a2 n6 n2 c6 c2 ys _ j6' (h2.below hbW) H6.out HN2.out (by rw [← H6.out, HN2.out]; omega)).mono ?_
        rintro e w' ⟨rfl, q, rfl⟩
        go_wp2
        go_meet
        exact ⟨below_drewN hbW _, hBW.drewN _⟩
      · have hnp : 0 < n1 := by rw [← HN1.out]; exact List.length_pos_iff.2 hx
        obtain ⟨m, rfl⟩ : ∃ m, n1 = m + 1 := ⟨n1 - 1, by omega⟩
        have h5 := E5.out; have h6 := E6.out
        rw [List.length_dropLast, HN1.out, Nat.add_sub_cancel] at h5
        subst h5
        rw [if_neg hx] at j6' h6
        obtain ⟨g1, o1, rfl, hcx⟩ := h1.at (k := m) (by rw [HN1.out]; omega)
        have cx := hcx m (by rw [HN1.out]; omega)
        have cx6 : w6.cell? ⟨g1, o1 + m, none⟩ = some (.int .i64 x5) := by rw [hbW.cell (cell_lt cx), hx5, HN1.out]; exact cx
        clear hx5
        have HX := Lib.hid hx; have H6 := Lib.hid h6; clear hx h6 hcx
        have hsx : (xs.take m).length = m := by simp; have := HN1.out; omega
        have hdl : xs.dropLast = xs.take m := by rw [List.dropLast_eq_take, HN1.out]; rfl
        rw [hdl] at j5'
        have HSX := Lib.hid hsx; clear hsx hdl
        have hI1' := ((h1.below hbW).take m)
        have hI2' := h2.below hbW
        have i1 : (m : Int) < (m : Int) + 1 := by omega
        have i2 : (m : Int) ≤ (c1 : Int) := by omega
        have hka : w5.heap.size < w6.heap.size := hbB.lt
        have hkc' : g1 < w6.heap.size := cell_lt cx6
        have hnp' : n6 ≤ 9223372036854775807 := by rw [← H6.out]; simp; have := HN2.out; omega
        go_wp2_with fail
        go_region_held3 (fun w' => w'.cell? ⟨w5.heap.size, 0, none⟩ = some (.slice a5 m c5) ∧ w'.cell? ⟨w5.heap.size, 1, none⟩ = some (.slice a6 n6 c6) ∧ w'.cell? ⟨g1, o1 + m, none⟩ = some (.int .i64 x5) ∧ Below w6.heap.size w6 w') (first | exact ⟨k0, k1, cx6, (Below.refl _ _).drew⟩ | assumption | exact keep3 ‹_› (below1 _ _) | exact keep3 ‹_› ‹_›)
          (first | (refine step_app1 (by rfl) _ _ rfl _ (.slice a8 n8 c8) _ _ _ rfl rfl (o8.alloc _) (cell_new1 _ _ _) (by rw [HN2.out]; exact hl2) (size_alloc_le hbel8.size _) ?_; intro v9 w9 o9 hgrow9; have hS9 := keep3g ‹_› hgrow9 (fun k hk => Nat.le_trans hz8 (o8.row k hk)) hka hka hkc'; obtain ⟨a9, n9, c9, rfl⟩ := o9.form) | (refine step_app1 (by rfl) _ _ rfl _ (.slice a8 n8 c8) _ _ _ rfl rfl o8 (below_keeps hbel8 _ _ (cell_new1 _ _ _)) (by rw [HN2.out]; exact hl2) hbel8.size ?_; intro v9 w9 o9 hgrow9; have hS9 := keep3g ‹_› hgrow9 (fun k hk => Nat.le_trans hz8 (o8.row k hk)) hka hka hkc'; obtain ⟨a9, n9, c9, rfl⟩ := o9.form) | (go_at_call 19; ((with_reducible refine (slices_same a5 (some ⟨g1, o1, none⟩) m m c5 c1 (xs.take m) _ (j5'.below (And.right (And.right (And.right ‹_›)))) (hI1'.below (And.right (And.right (And.right ‹_›)))) HSX.out HSX.out (by omega)).mono ?_); rintro e w7 ⟨rfl, hq7⟩; replace hq7 := belowD hq7)) | (go_at_call 22; refine (slices_clone a2 n2 c2 ys _ (hI2'.below (And.right (And.right (And.right ‹_›)))) HN2.out (by omega) Z2.out).mono ?_; rintro e w8 ⟨v8, rfl, o8, hbel8⟩; obtain ⟨a8, n8, c8, rfl⟩ := o8.form; have hz8 : w6.heap.size ≤ _ := Below.size (And.right (And.right (And.right ‹_›)))) | (go_at_call 19; ((with_reducible refine (slices_same a6 a9 n6 n9 c6 c9 (ys ++ [now]) _ (j6'.below (And.right (And.right (And.right ‹_›)))) o9.get.2.1 H6.out o9.get.1 hnp').mono ?_); rintro e w7 ⟨rfl, hq7⟩; replace hq7 := belowD hq7)))
        all_goals
          go_wp2
          go_meet
          exact ⟨below_then hbW hbW.size (And.right (And.right (And.right ‹_›))), hBW.below (And.right (And.right (And.right ‹_›))) hBW.lt⟩
    case rest =>
      obtain ⟨hb7, hB7⟩ := hcut
      clear hB5 hb5 b0 b1
      obtain ⟨b0, b1, -, -⟩ := hB7.two
      go_wp2_with fail
      refine (undo_again_any a1 a2 n1 c1 n2 c2 xs ys now wc (h1.below hb7) (h2.below hb7) HN1.out HN2.out hl1 (by omega) Z1.out Z2.out).mono ?_
      rintro e u5 ⟨z5, z6, y5, t5, rfl, i6, i5, hbel5, hcs⟩
      have HC2 := Lib.hid hcs; clear hcs
      obtain ⟨p5, r5, d5, rfl, f5, k5, s5, -⟩ := i5
      obtain ⟨p6, r6, d6, rfl, f6, k6, s6, -⟩ := i6
      have F5 := Lib.hid f5; have F6 := Lib.hid f6; clear f5 f6
      have hb8 := below_then hb7 hb7.size hbel5
      clear hB7 hbel5 b0 b1
      have hbB := Blk.new u5 #[.slice p5 r5 d5, .slice p6 r6 d6] 35
      have hbW := hb8.alloc hb8.size (.cells #[.slice p5 r5 d5, .slice p6 r6 d6] 35)
      have j5' := k5.below (below1 u5 (.cells #[.slice p5 r5 d5, .slice p6 r6 d6] 35))
      have j6' := k6.below (below1 u5 (.cells #[.slice p5 r5 d5, .slice p6 r6 d6] 35))
      rcases HC2.out with ⟨hx, rfl, rfl⟩ | ⟨hx, rfl, hx5⟩
      · have h5 := F5.out; have h6 := F6.out
        rw [if_pos hx] at h5; rw [hx] at h6
        obtain rfl : r6 = 0 := h6.symm
        have hn := HN2.out
        rw [hx] at hn
        obtain rfl : n2 = 0 := hn.symm
        rw [if_pos hx] at j5'
        have HX := Lib.hid hx; have H5 := Lib.hid h5; clear hx h5 h6 hn
        obtain ⟨k0, k1, -, -⟩ := hbB.two
        go_wp2_with fail
        refine (slices_same p5 a1 r5 n1 d5 c1 xs _ j5' (h1.below hbW) H5.out HN1.out (by rw [← H5.out, HN1.out]; omega)).mono ?_
        rintro e w' ⟨rfl, q, rfl⟩
        go_wp2
        go_ret
        exact ⟨rfl, below_drewN hbW _⟩
      · have hnp : 0 < n2 := by rw [← HN2.out]; exact List.length_pos_iff.2 hx
        obtain ⟨m, rfl⟩ : ∃ m, n2 = m + 1 := ⟨n2 - 1, by omega⟩
        have h5 := F5.out; have h6 := F6.out
        rw [List.length_dropLast, HN2.out, Nat.add_sub_cancel] at h6
        subst h6
        rw [if_neg hx] at j5' h5
        obtain ⟨g1, o1, rfl, hcx⟩ := h2.at (k := m) (by rw [HN2.out]; omega)
        have cx := hcx m (by rw [HN2.out]; omega)
        have hsx : (ys.take m).length = m := by simp; have := HN2.out; omega
        have hdl : ys.dropLast = ys.take m := by rw [List.dropLast_eq_take, HN2.out]; rfl
        rw [hdl] at j6'
        have HSX := Lib.hid hsx; clear hsx hdl
        have hI1' := ((h2.below hbW).take m)
        have hI2' := h1.below hbW
        have cx6 : (u5.alloc (.cells #[.slice p5 r5 d5, .slice p6 m d6] 35)).cell? ⟨g1, o1 + m, none⟩ = some (.int .i64 y5) := by rw [hbW.cell (cell_lt cx), hx5, HN2.out]; exact cx
        clear hx5
        have HX := Lib.hid hx; have H5 := Lib.hid h5; clear hx h5 hcx
        have i1 : (m : Int) < (m : Int) + 1 := by omega
        have i2 : (m : Int) ≤ (c2 : Int) := by omega
        have hnp' : r5 ≤ 9223372036854775807 := by rw [← H5.out]; simp; have := HN1.out; omega
        go_wp2_with fail
        generalize hW6 : u5.alloc (.cells #[.slice p5 r5 d5, .slice p6 m d6] 35) = u6 at *
        clear hW6
        obtain ⟨k0, k1, -, -⟩ := hbB.two
        have hka : u5.heap.size < u6.heap.size := hbB.lt
        have hkc' : g1 < u6.heap.size := cell_lt cx6
        go_region_held3 (fun w' => w'.cell? ⟨u5.heap.size, 0, none⟩ = some (.slice p5 r5 d5) ∧ w'.cell? ⟨u5.heap.size, 1, none⟩ = some (.slice p6 m d6) ∧ w'.cell? ⟨g1, o1 + m, none⟩ = some (.int .i64 y5) ∧ Below u6.heap.size u6 w') (first | exact ⟨k0, k1, cx6, (Below.refl _ _).drew⟩ | assumption | exact keep3 ‹_› (below1 _ _) | exact keep3 ‹_› ‹_›)
          (first | (refine step_app1 (by rfl) _ _ rfl _ (.slice a8 n8 c8) _ _ _ rfl rfl (o8.alloc _) (cell_new1 _ _ _) (by rw [HN1.out]; exact hl1) (size_alloc_le hbel8.size _) ?_; intro v9 w9 o9 hgrow9; have hS9 := keep3g ‹_› hgrow9 (fun k hk => Nat.le_trans hz8 (o8.row k hk)) hka hka hkc'; obtain ⟨a9, n9, c9, rfl⟩ := o9.form) | (refine step_app1 (by rfl) _ _ rfl _ (.slice a8 n8 c8) _ _ _ rfl rfl o8 (below_keeps hbel8 _ _ (cell_new1 _ _ _)) (by rw [HN1.out]; exact hl1) hbel8.size ?_; intro v9 w9 o9 hgrow9; have hS9 := keep3g ‹_› hgrow9 (fun k hk => Nat.le_trans hz8 (o8.row k hk)) hka hka hkc'; obtain ⟨a9, n9, c9, rfl⟩ := o9.form) | (go_at_call 19; ((with_reducible refine (slices_same p6 (some ⟨g1, o1, none⟩) m m d6 c2 (ys.take m) _ (j6'.below (And.right (And.right (And.right ‹_›)))) (hI1'.below (And.right (And.right (And.right ‹_›)))) HSX.out HSX.out (by omega)).mono ?_); rintro e w7 ⟨rfl, hq7⟩; replace hq7 := belowD hq7)) | (go_at_call 22; refine (slices_clone a1 n1 c1 xs _ (hI2'.below (And.right (And.right (And.right ‹_›)))) HN1.out (by omega) Z1.out).mono ?_; rintro e w8 ⟨v8, rfl, o8, hbel8⟩; obtain ⟨a8, n8, c8, rfl⟩ := o8.form; have hz8 : u6.heap.size ≤ _ := Below.size (And.right (And.right (And.right ‹_›)))) | (go_at_call 19; ((with_reducible refine (slices_same p5 a9 r5 n9 d5 c9 (xs ++ [now]) _ (j5'.below (And.right (And.right (And.right ‹_›)))) o9.get.2.1 H5.out o9.get.1 hnp').mono ?_); rintro e w7 ⟨rfl, hq7⟩; replace hq7 := belowD hq7)))
        all_goals
          go_wp2
          go_ret
          exact ⟨rfl, below_then hbW hbW.size (And.right (And.right (And.right ‹_›)))⟩

end Go.Proofs.Ythnjaichbejifaa
