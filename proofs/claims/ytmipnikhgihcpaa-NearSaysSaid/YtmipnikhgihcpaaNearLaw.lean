/- The walk of NearSays. -/
import Derived.Test.YtmipnikhgihcpaaNear11
import Derived.Test.YtmipnikhgihcpaaNear12
namespace Go.Proofs.Ytmipnikhgihcpaa
open Go.RowKit
set_option linter.unusedVariables false
set_option linter.unusedSimpArgs false

theorem near_new_none (a : Option Addr) (c : Nat) (w : World) : Calls Try.prog 65 #[.slice a 0 c] w (NewBad 1 w) := by
  go_enter Try.func65, Try.ntmps65
  go_wp2
  go_ret2
  exact ⟨rfl, Below.refl _ _⟩
theorem near_new_many (a : Option Addr) (n c : Nat) (w : World) (h : 100 < n) : Calls Try.prog 65 #[.slice a n c] w (NewBad 2 w) := by
  have h1 : (100 : Int) < (n : Int) := by omega
  have h2 : ¬ ((n : Int) < 1) := by omega
  go_enter Try.func65, Try.ntmps65
  go_wp2
  go_ret2
  exact ⟨rfl, Below.refl _ _⟩

set_option maxRecDepth 100000 in
set_option maxHeartbeats 1000000 in
theorem nears_bad (la : Option Addr) (ln lc : Nat) (a : Option Addr) (m c : Nat) (most er we : Int) (w : World)
    (hN : Calls Try.prog 65 #[.slice la ln lc] w (NewBad er w)) (hW : ∀ w1, Below w.heap.size w w1 → Calls Try.prog 66 #[.slice la ln lc] w1 (fun e w' => e = .returned (.int .i64 we) ∧ ∃ n, w' = w1.drewN n)) (he : er ≠ 0) (hc : (ln = 0 ∧ er = 1) ∨ (1 ≤ ln ∧ we = er)) :
    Calls Try.prog 10 #[.slice la ln lc, .slice a m c, .int .i64 most] w fun e w' => e = .returned (.bool true) ∧ Below w.heap.size w w' := by
  have HNW := Lib.hid hN; have HWE := Lib.hid hW
  have x0 : (er != 0) = true := by simpa using he
  clear hN hW he
  rcases hc with ⟨rfl, rfl⟩ | ⟨h1, rfl⟩
  · go_enter Try.func10, Try.ntmps10
    go_wp2_with (first | (go_at_call 65; go_loud (refine (HNW.out).mono ?_; rintro e w1 ⟨rfl, hb1⟩)) | (go_at_call 66; go_loud (refine (HWE.out w1 hb1).mono ?_; rintro e w2 ⟨rfl, q, rfl⟩)))
    go_ret
    exact ⟨rfl, below_drewN hb1 _⟩
  · have h2 : ¬ ((ln : Int) < 1) := by omega
    clear h1
    go_enter Try.func10, Try.ntmps10
    go_wp2_with (first | (go_at_call 65; go_loud (refine (HNW.out).mono ?_; rintro e w1 ⟨rfl, hb1⟩)) | (go_at_call 66; go_loud (refine (HWE.out w1 hb1).mono ?_; rintro e w2 ⟨rfl, q, rfl⟩)))
    go_ret
    exact ⟨rfl, below_drewN hb1 _⟩

theorem nears_head {w : World} {a : Option Addr} {x : N2} {r : List N2} (h : NearR w a (x :: r)) : ∃ b o, a = some ⟨b, o, none⟩ ∧ w.cell? ⟨b, o, none⟩ = some (.int .i64 x.a) ∧ w.cell? ⟨b, o + 1, none⟩ = some (.int .i64 x.b) := by
  rcases h with h | ⟨b, o, rfl, h⟩
  · cases h
  · refine ⟨b, o, rfl, ?_, ?_⟩
    · have := h 0 (by simp) 0 _ rfl; simpa using this
    · have := h 0 (by simp) 1 _ rfl; simpa using this

set_option maxRecDepth 100000 in
set_option maxHeartbeats 4000000 in
theorem nears_good (la : Option Addr) (ln lc : Nat) (vs : List Value) (X : List (List Int)) (a : Option Addr) (m c : Nat) (wd : List Int) (most : Int) (w : World) (hV : Vs w (.slice la ln lc) vs) (hL : Lists w vs X) (hT : Ints w a wd) (hm : wd.length = m)
    (h1 : 1 ≤ ln) (h100 : X.length ≤ 100) (h24 : ∀ i, i < X.length → (rx X i).length ≤ 24)
    (hN : Calls Try.prog 65 #[.slice la ln lc] w (NewPost X w)) (hW : ∀ w1, Below w.heap.size w w1 → Calls Try.prog 66 #[.slice la ln lc] w1 (fun e w' => e = .returned (.int .i64 0) ∧ ∃ n, w' = w1.drewN n)) :
    Calls Try.prog 10 #[.slice la ln lc, .slice a m c, .int .i64 most] w fun e w' => e = .returned (.bool true) ∧ Below w.heap.size w w' := by
  have HNW := Lib.hid hN; have HWE := Lib.hid hW
  have h2 : ¬ ((ln : Int) < 1) := by omega
  have h3 : (0 : Int) < (ln : Int) := by omega
  obtain ⟨hl1, hl2, hl3, hl4, hl5⟩ := hV.get
  have hll : X.length = ln := by rw [← hL.len]; exact hl1
  have HV := Lib.hid hV; have HL := Lib.hid hL; have HT := Lib.hid hT; have HM := Lib.hid hm; have H24 := Lib.hid h24; have HX := Lib.hid hll; have H100 := Lib.hid h100
  obtain ⟨b1, o1, rfl, hc⟩ := hl4.at (k := 0) (by omega)
  have cv := hc 0 (by omega)
  obtain ⟨a1, n1, c1, e1, s1, s2, s3, s4, s5⟩ := hL.sl 0 (by omega)
  rw [e1, Nat.add_zero] at cv
  have HCV := Lib.hid cv; have HS := Lib.hid s4; have HS1 := Lib.hid s1
  have hn1 : n1 ≤ 24 := by rw [← s1]; exact h24 0 (by omega)
  clear hN hW hV hL hT hm h24 hll h100 hl1 hl2 hl3 hl4 hl5 hc cv e1 s1 s2 s3 s4 s5
  by_cases hm24 : 24 < m
  · have hmi : (24 : Int) < (m : Int) := by omega
    go_enter Try.func10, Try.ntmps10
    go_wp2_with (first | (go_at_call 65; go_loud (refine (HNW.out).mono ?_; rintro e w1 ⟨A, B, M, rfl, hI, hH, hA, hb1⟩; have HB1 := Lib.hid hb1; clear hI hH hA)) | (go_at_call 66; go_loud (refine (HWE.out w1 HB1.out).mono ?_; rintro e w2 ⟨rfl, q, rfl⟩)))
    go_ret
    exact ⟨rfl, below_drewN HB1.out _⟩
  · have hm2 : m ≤ 24 := by omega
    have hmi : ¬ ((24 : Int) < (m : Int)) := by omega
    go_enter Try.func10, Try.ntmps10
    go_upto_region 11 with (first | (go_at_call 65; go_loud (refine (HNW.out).mono ?_; rintro e w1 ⟨A, B, M, rfl, hI, hH, hA, hb1⟩; have HB1 := Lib.hid hb1; have HI := Lib.hid hI; have HH := Lib.hid hH; have HA := Lib.hid hA; clear hI hH hA hb1)) | (go_at_call 66; go_loud (refine (HWE.out w1 HB1.out).mono ?_; rintro e w2 ⟨rfl, q, rfl⟩)))
    have hb2 : Below w.heap.size w (w1.drewN q) := below_drewN HB1.out q
    have hH2 : ArH (w1.drewN q) w.heap.size A B M := HH.out.kept (below_drewN (Below.refl _ _) q)
    generalize w1.drewN q = w2 at *
    have hal : A.length = X.length := wds_len HA.out
    have hA24 : ∀ x, x < A.length → (nd A x).wd.length ≤ 24 := fun x hx => by rw [wds_at HA.out hx]; exact H24.out x (by omega)
    have h1A : 1 ≤ A.length := by rw [hal, HX.out]; exact h1
    have hDx : ∀ i, i < X.length → (fun x => dst (nd A x).wd wd) i = dst (rx X i) wd := fun i hi => by dsimp only; rw [wds_at HA.out (by omega)]
    have hD48 : ∀ i, i < X.length → (fun x => dst (nd A x).wd wd) i ≤ 48 := fun i hi => by
      rw [hDx i hi]
      have := dst_top (rx X i) wd
      have := H24.out i hi
      have := HM.out
      omega
    have HBE := Lib.hid (fun (w' : World) (hb : Below w2.heap.size w2 w') x r hx => near_Best w.heap.size A B M HI.out (by rw [hal]; exact H100.out) h1A wd a m c HM.out hm2 hA24 w' (hH2.kept hb) ((HT.out.below hb2).below hb) x r hx)
    have HWI := Lib.hid (fun (w' : World) (hb : Below w2.heap.size w2 w') (k : Nat) => near_Within w.heap.size A B M HI.out (by rw [hal]; exact H100.out) h1A wd a m c HM.out hm2 hA24 w' (hH2.kept hb) ((HT.out.below hb2).below hb) k)
    have HFN := Lib.hid (fun k => findL_nears A wd k)
    rw [hal] at HFN HBE
    generalize (fun x => dst (nd A x).wd wd) = D at *
    have HNE := Lib.hid (fun (w' : World) (hb : Below w.heap.size w w') (k : Nat) (hk : k ≤ 200) => ref_nears (.slice (some ⟨b1, o1, none⟩) ln lc) vs X wd a m c D hDx w' (HV.out.below hb) (HL.out.below hb) H100.out H24.out (HT.out.below hb) HM.out hm2 k hk)
    have HTOP := Lib.hid (fun k hk => nearsL_top hD48 k hk)
    have hne := nearsL_some hD48 (by rw [HX.out]; omega) (Nat.le_refl 48)
    have HLEN := Lib.hid (fun k => Nat.le_trans (nearsL_len D X.length k) H100.out)
    obtain ⟨x, r, hxr⟩ : ∃ x r, nearsL D X.length 48 = x :: r := by
      rcases h : nearsL D X.length 48 with _ | ⟨x, r⟩
      · exact absurd h hne
      · exact ⟨x, r, rfl⟩
    have HXR := Lib.hid hxr
    have HFAR := Lib.hid (fun (w' : World) (hb : Below w.heap.size w w') => near_far a1 a n1 m c1 c (rx X 0) wd w' (HS.out.below hb) (HT.out.below hb) HS1.out HM.out (by omega) (by omega))
    have HRF := Lib.hid (fun (w' : World) (hb : Below w.heap.size w w') => ref_far a1 a n1 m c1 c (rx X 0) wd w' (HS.out.below hb) (HT.out.below hb) HS1.out HM.out (by omega) (by omega))
    generalize dst (rx X 0) wd = d at *
    have hcv : w2.cell? ⟨b1, o1, none⟩ = some (.slice a1 n1 c1) := by rw [hb2.cell (cell_lt HCV.out)]; exact HCV.out
    have HB2 := Lib.hid hb2
    clear hal hA24 h1A hDx hD48 hne hxr hb2 hH2 HNW HWE HB1 HI HH HA HV HL HT HM H24 HX H100 HS HS1
    go_upto_region 12 with (go_at_call 67; go_loud (refine (HFAR.out _ HB2.out).mono ?_; rintro e w3 ⟨rfl, hb3⟩))
    have HB3 := Lib.hid hb3
    clear hb3 hcv
    -- what Within answers
    obtain ⟨er, hWI⟩ : ∃ er : Int, (most < 0 ∧ er = 1 ∧ Calls Try.prog 68 #[.pointer (some ⟨B 0, 0, none⟩), .slice a m c, .int .i64 most] w3 (fun e w' => ∃ a4 c4, e = .returned (.tuple #[.slice a4 0 c4, .int .i64 1]) ∧ Below w3.heap.size w3 w')) ∨ (∃ k : Nat, most = (k : Int) ∧ er = 0 ∧ Calls Try.prog 68 #[.pointer (some ⟨B 0, 0, none⟩), .slice a m c, .int .i64 most] w3 (WinPost (nearsL D X.length (min k 200)) w3)) := by
      by_cases hneg : most < 0
      · refine ⟨1, .inl ⟨hneg, rfl, (near_Within_neg _ a m c hm2 w3 most hneg).mono ?_⟩⟩
        rintro e w' ⟨rfl, rfl⟩
        exact ⟨none, 0, rfl, Below.refl _ _⟩
      · obtain ⟨k, rfl⟩ := Int.eq_ofNat_of_zero_le (show 0 ≤ most by omega)
        have := HWI.out w3 HB3.out k
        rw [HFN.out] at this
        exact ⟨0, .inr ⟨k, rfl, rfl, this⟩⟩
    have HWW := Lib.hid hWI
    clear hWI HFAR HFN HWI
    go_cut [12, 13] (fun v12 v13 wx => ∃ a4 n4 c4, v12 = .slice a4 n4 c4 ∧ v13 = .int .i64 er ∧ Below w3.heap.size w3 wx ∧ ((most < 0 ∧ er = 1 ∧ n4 = 0) ∨ ∃ k : Nat, most = (k : Int) ∧ er = 0 ∧ n4 = (nearsL D X.length (min k 200)).length ∧ NearR wx a4 (nearsL D X.length (min k 200))))
    case first =>
      rcases HWW.out with ⟨g1, g2, g3⟩ | ⟨k, g1, g2, g3⟩
      · have G1 := Lib.hid g1; have G2 := Lib.hid g2; have G3 := Lib.hid g3
        clear g1 g2 g3
        go_wp2_with (go_at_call 68; go_loud (refine (G3.out).mono ?_; rintro e w4 ⟨a4, c4, rfl, hb4⟩))
        go_meet
        exact ⟨a4, 0, c4, rfl, by rw [G2.out], hb4, .inl ⟨G1.out, G2.out, rfl⟩⟩
      · have G1 := Lib.hid g1; have G2 := Lib.hid g2; have G3 := Lib.hid g3
        clear g1 g2 g3
        go_wp2_with (go_at_call 68; go_loud (refine (G3.out).mono ?_; rintro e w4 ⟨a4, c4, rfl, hr4, hb4⟩))
        go_meet
        exact ⟨a4, _, c4, rfl, by rw [G2.out], hb4, .inr ⟨k, G1.out, G2.out, rfl, hr4⟩⟩
    obtain ⟨a4, n4, c4, rfl, rfl, hb4, hw4⟩ := hcut
    have HB4 := Lib.hid (HB2.out.trans (HB3.out.mono HB2.out.size) |>.trans (hb4.mono (Nat.le_trans HB2.out.size HB3.out.size)))
    have HB24 := Lib.hid (HB3.out.trans (hb4.mono HB3.out.size))
    have HW4 := Lib.hid hw4
    clear hb4 hw4 HWW HB3 HB2
    generalize wc = w4 at *
    go_upto_region 14 with (go_at_call 69; go_loud (refine (HBE.out w4 HB24.out x r HXR.out).mono ?_; rintro e w5 ⟨rfl, hb5⟩))
    have hb05 := HB4.out.trans (hb5.mono HB4.out.size)
    have h48 := HNE.out w5 hb05 48 (by decide)
    rw [show ((48 : Nat) : Int) = 48 from rfl, HXR.out] at h48
    obtain ⟨nl, hnl⟩ : ∃ nl, (x :: r).length = nl := ⟨_, rfl⟩
    have hnl1 : (0 : Int) < (nl : Int) := by rw [← hnl]; simp
    have H48 := Lib.hid h48; have HB05 := Lib.hid hb05; have HNL := Lib.hid hnl
    have HB5 := Lib.hid hb5
    clear h48 hb05 hb5 hnl HXR HBE HB24
    go_cut [17] (fun v wx => ∃ P, v = .pointer (some ⟨P, 0, none⟩) ∧ Blk wx P #[.int .i64 x.a, .int .i64 x.b] 116 ∧ Below w5.heap.size w5 wx)
    case first =>
      go_wp2_with (go_at_call 70; go_loud (refine (H48.out).mono ?_; rintro e w6 ⟨v6, rfl, ho6, hb6⟩; obtain ⟨a6, c6, hv6, -⟩ := ho6.form; rw [HNL.out] at hv6; subst hv6; have hr6 := ho6.nears.1; obtain ⟨g6, o6, rfl, c0, c1⟩ := nears_head hr6; have hB6 := Blk.new w6 #[.int .i64 x.a, .int .i64 x.b] 116; have hb7 := below1 w6 (.cells #[.int .i64 x.a, .int .i64 x.b] 116); have hb67 := hb6.trans (hb7.mono hb6.size); clear ho6 hr6))
      go_meet
      exact ⟨_, rfl, hB6, hb67⟩
    obtain ⟨P, rfl, hP, hb6⟩ := hcut
    have hb06 := HB05.out.trans (hb6.mono HB05.out.size)
    have HW6 := Lib.hid (show (most < 0 ∧ er = 1 ∧ n4 = 0) ∨ ∃ k : Nat, most = (k : Int) ∧ er = 0 ∧ n4 = (nearsL D X.length (min k 200)).length ∧ ∀ w', Below wc.heap.size wc w' → NearR w' a4 (nearsL D X.length (min k 200)) from by
      rcases HW4.out with h | ⟨k, g1, g2, g3, g4⟩
      · exact .inl h
      · exact .inr ⟨k, g1, g2, g3, fun w' hb => g4.below (HB5.out.trans ((hb6.trans (hb.mono hb6.size)).mono HB5.out.size))⟩)
    have hcv : wc.cell? ⟨b1, o1, none⟩ = some (.slice a1 n1 c1) := by rw [hb06.cell (cell_lt HCV.out)]; exact HCV.out
    have HRF6 := Lib.hid (HRF.out wc hb06)
    have HB06 := Lib.hid hb06
    have HP := Lib.hid hP
    have hPl := hP.lt
    clear hP
    clear hb6 hb06 HB05 H48 HNL HRF HW4 HB5
    generalize wc = w6 at *
    go_upto_region 17 with (go_at_call 71; go_loud (refine (HRF6.out).mono ?_; rintro e w7 ⟨rfl, hb7⟩; obtain ⟨p0, p1, -, -⟩ := Blk.two (HP.out.below hb7 hPl)))
    have HB7 := Lib.hid (HB06.out.trans (hb7.mono HB06.out.size))
    rcases HW6.out with ⟨g1, g2, g3⟩ | ⟨k, g1, g2, g3, g4⟩
    · subst g2 g3
      clear HW6
      go_wp2
      go_ret
      exact ⟨rfl, HB7.out⟩
    · subst g1 g2
      have hk0 : ¬ ((k : Int) < 0) := by omega
      have hK : ∃ K : Nat, (K : Int) = min (k : Int) 48 ∧ K ≤ 48 ∧ nearsL D X.length K = nearsL D X.length (min k 200) := by
        by_cases h : k ≤ 48
        · exact ⟨k, by omega, h, by rw [Nat.min_eq_left (by omega)]⟩
        · exact ⟨48, by omega, Nat.le_refl _, (HTOP.out _ (by omega)).symm⟩
      obtain ⟨K, hK1, hK2, hK3⟩ := hK
      have HNN := HNE.out w7 HB7.out K (by omega)
      rw [hK1, hK3] at HNN
      have HN4 := Lib.hid (g4 w7 hb7)
      have hln := HLEN.out (min k 200)
      generalize nearsL D X.length (min k 200) = l at *
      have HNQ := Lib.hid HNN
      have hbs := HB7.out.size
      have HG4 := Lib.hid g4
      clear HW6 hK1 hK2 hK3 HNN g4
      have HG3 := Lib.hid g3
      clear g3
      go_wp2_with (first | (go_at_call 70; go_loud (refine (HNQ.out).mono ?_; rintro e w8 ⟨v8, rfl, ho8, hb8⟩; obtain ⟨a8, c8, hv8, -⟩ := ho8.form; rw [← HG3.out] at hv8; subst hv8; have HS8 := Lib.hid (finds_same a4 a8 n4 c4 c8 l w8 (HN4.out.below hb8) ho8.nears.1 HG3.out.symm (by rw [HG3.out]; omega)); have hb08 := HB7.out.trans (hb8.mono hbs); clear ho8)) | (go_at_call 72; go_loud (refine (HS8.out).mono ?_; rintro e w9 ⟨rfl, q9, rfl⟩)))
      go_ret
      exact ⟨rfl, below_drewN hb08 _⟩

/-- the law -/
theorem nearSays_walk (lv : Value) (vs : List Value) (X : List (List Int)) (a : Option Addr) (m c : Nat) (wd : List Int) (most : Int) (w : World) (hV : Vs w lv vs) (hL : Lists w vs X) (hT : Ints w a wd) (hm : wd.length = m) :
    Calls Try.prog 10 #[lv, .slice a m c, .int .i64 most] w fun e w' => e = .returned (.bool true) ∧ Below w.heap.size w w' := by
  have hWE : ∀ w1, Below w.heap.size w w1 → Calls Try.prog 66 #[lv] w1 (fun e w' => e = .returned (.int .i64 (wordsE X)) ∧ ∃ n, w' = w1.drewN n) := fun w1 hb => ref_wordsErr lv vs X w1 (hV.below hb) (hL.below hb)
  have hV' := hV
  obtain ⟨la, ln, lc, rfl, hl1, hl2, hl3, hl4, hl5⟩ := hV'
  have hll : X.length = ln := by rw [← hL.len]; exact hl1
  by_cases h0 : ln = 0
  · subst h0
    exact nears_bad la 0 lc a m c most 1 _ w (near_new_none la lc w) hWE (by decide) (.inl ⟨rfl, rfl⟩)
  by_cases h100 : 100 < ln
  · exact nears_bad la ln lc a m c most 2 _ w (near_new_many la ln lc w h100) hWE (by decide) (.inr ⟨by omega, by rw [wordsE, if_pos (.inl (by omega))]⟩)
  have hN := near_new (.slice la ln lc) vs X w hV hL (by intro e; rw [e] at hll; simp at hll; omega) (by omega)
  by_cases hb : X.any longW = true
  · rw [hb] at hN
    refine nears_bad la ln lc a m c most 2 _ w (hN.mono ?_) hWE (by decide) (.inr ⟨by omega, by rw [wordsE, if_pos (.inr hb)]⟩)
    rintro e w' (⟨-, h⟩ | ⟨h, -⟩)
    · exact h
    · cases h
  · have hbf : X.any longW = false := by simpa using hb
    rw [hbf] at hN
    have h24 : ∀ i, i < X.length → (rx X i).length ≤ 24 := fun i hi => by
      rw [List.any_eq_false] at hbf
      have := hbf (rx X i) (rx_mem' hi)
      unfold longW at this
      simpa using this
    refine nears_good la ln lc vs X a m c wd most w hV hL hT hm (by omega) (by omega) h24 (hN.mono ?_) (fun w1 hb1 => ?_)
    · rintro e w' (⟨h, -⟩ | ⟨-, h⟩)
      · cases h
      · exact h
    · have := hWE w1 hb1
      rwa [show wordsE X = 0 by rw [wordsE, if_neg (by rw [hbf]; simp; omega)]] at this

end Go.Proofs.Ytmipnikhgihcpaa
