/- Contract of utf.Get. -/
import Derived.Test.YtmipnikhgihcpaaUtf2
namespace Go.Proofs.Ytmipnikhgihcpaa
open Go.RowKit
set_option linter.unusedVariables false
set_option linter.unusedSimpArgs false

theorem accG_step {c0 : Int} {s : ByteArray} {i : Nat} (h : 1 ≤ i) : accG c0 s (i + 1 - 1) = accG c0 s (i - 1) * 64 + bt s i % 64 := by
  obtain ⟨k, rfl⟩ : ∃ k, i = k + 1 := ⟨i - 1, by omega⟩
  rfl
theorem head_of {b0 : Int} (h : 192 ≤ b0) (h2 : b0 < 248) : ∃ (N : Nat) (c0 : Int), Head b0 N c0 ∧ ldN b0 = (N : Int) ∧ ldC b0 = c0 ∧ onV b0 = (N : Int) := by
  unfold ldN ldC onV Head
  by_cases a : b0 < 224
  · exact ⟨2, b0 % 32, .inl ⟨h, a, rfl, rfl⟩, by rw [if_neg (by omega), if_neg (by omega), if_pos a]; rfl, by rw [if_neg (by omega), if_neg (by omega), if_pos a], by rw [if_neg (by omega), if_neg (by omega), if_pos a]; rfl⟩
  · by_cases b : b0 < 240
    · exact ⟨3, b0 % 16, .inr (.inl ⟨by omega, b, rfl, rfl⟩), by rw [if_neg (by omega), if_neg (by omega), if_neg a, if_pos b]; rfl, by rw [if_neg (by omega), if_neg (by omega), if_neg a, if_pos b], by rw [if_neg (by omega), if_neg (by omega), if_neg a, if_pos b]; rfl⟩
    · exact ⟨4, b0 % 8, .inr (.inr ⟨by omega, h2, rfl, rfl⟩), by rw [if_neg (by omega), if_neg (by omega), if_neg a, if_neg b, if_pos h2]; rfl, by rw [if_neg (by omega), if_neg (by omega), if_neg a, if_neg b, if_pos h2], by rw [if_neg (by omega), if_neg (by omega), if_neg a, if_neg b, if_pos h2]; rfl⟩
theorem conB_y {x : Int} (h0 : 0 ≤ x) (h1 : x ≤ 255) : (conB x = true ↔ x / 64 = 2) := by simp [conB]; omega

set_option maxRecDepth 100000 in
set_option maxHeartbeats 4000000 in
theorem utf_get (s : ByteArray) (w : World) : Calls Try.prog 16 #[.string s] w (GPost (gS s) w) := by
  have hE := isE s
  obtain ⟨q0, q1⟩ := bt_range s 0
  by_cases hs : s.size = 0
  · have HG := Lib.hid (gS_nil hs)
    have hE2 : s.toList.isEmpty = true := by rw [hE]; simpa using hs
    clear hE hs
    go_enter Try.func16, Try.ntmps16
    go_wp2
    go_ret3
    rw [HG.out]
    exact ⟨rfl, Below.refl _ _⟩
  · have hsz : 0 < s.size := by omega
    have hE2 : s.toList.isEmpty = false := by rw [hE]; simpa using hs
    have hb := bt_eq hsz
    clear hE hs
    by_cases h128 : bt s 0 < 128
    · have HG := Lib.hid (gS_low hsz h128)
      have HL := Lib.hid (utf_lead (bt s 0) q0 q1)
      rw [show ldN (bt s 0) = 1 by unfold ldN; rw [if_pos h128], show ldC (bt s 0) = bt s 0 by unfold ldC; rw [if_pos h128]] at HL
      have HS := Lib.hid (utf_scalar (bt s 0))
      rw [show scaB (bt s 0) = true by simp [scaB]; omega] at HS
      have HT := Lib.hid (utf_least 1)
      rw [show lstV 1 = 0 from rfl] at HT
      go_enter Try.func16, Try.ntmps16
      go_wp2_with fail
      refine (HL.out _).mono ?_
      rintro e w' ⟨rfl, rfl⟩
      go_upto_region 7 with fail
      go_loopw [6, 7] (fun cv iv wr => iv = .int .i64 1 ∧ cv = .int .i64 (bt s 0) ∧ w = wr) (fun _ _ _ => 0)
      case atStart => exact ⟨rfl, rfl, rfl⟩
      case round =>
        obtain ⟨rfl, rfl, rfl⟩ := hrel
        go_wp2_with (first | (go_at_call 92; refine (HT.out _).mono ?_; rintro e w' ⟨rfl, rfl⟩) | (go_at_call 90; refine (HS.out _).mono ?_; rintro e w' ⟨rfl, rfl⟩))
        go_ret3
        rw [HG.out]
        exact ⟨rfl, Below.refl _ _⟩
    · by_cases hbad : bt s 0 < 192 ∨ 248 ≤ bt s 0
      · have HG := Lib.hid (gS_bad hsz (by omega))
        have HL := Lib.hid (utf_lead (bt s 0) q0 q1)
        rw [show ldN (bt s 0) = 0 by unfold ldN; repeat' split
                                     all_goals first | rfl | omega] at HL
        clear hbad h128
        go_enter Try.func16, Try.ntmps16
        go_wp2_with fail
        refine (HL.out _).mono ?_
        rintro e w' ⟨rfl, rfl⟩
        go_wp2
        go_ret3
        rw [HG.out]
        exact ⟨rfl, Below.refl _ _⟩
      · obtain ⟨N, c0, hH, hN, hC, -⟩ := head_of (b0 := bt s 0) (by omega) (by omega)
        obtain ⟨n1, n2, n3, n4⟩ := hH.bd
        have HH := Lib.hid hH
        have HL := Lib.hid (utf_lead (bt s 0) q0 q1)
        rw [hN, hC] at HL
        clear hbad h128 hN hC hH
        have z1 : ¬ (N : Int) = 0 := by omega
        go_enter Try.func16, Try.ntmps16
        go_wp2_with fail
        refine (HL.out _).mono ?_
        rintro e w' ⟨rfl, rfl⟩
        go_upto_region 7 with fail
        go_loopw [6, 7] (fun cv iv wr => ∃ i : Nat, iv = .int .i64 (i : Int) ∧ cv = .int .i64 (accG c0 s (i - 1)) ∧ 1 ≤ i ∧ i ≤ N ∧ i ≤ s.size ∧ (∀ j, 1 ≤ j → j < i → conB (bt s j) = true) ∧ w = wr) (fun _ iv _ => N - (intOf iv).toNat)
        case atStart => exact ⟨1, rfl, rfl, by omega, by omega, by omega, fun j h1 h2 => by omega, rfl⟩
        case round =>
          obtain ⟨i, rfl, rfl, hi1, hiN, his, hcs, rfl⟩ := hrel
          have HC := Lib.hid hcs
          have HA := Lib.hid (accG_step (c0 := c0) (s := s) hi1)
          have HAN := Lib.hid (show accG c0 s (i - 1) = accG c0 s (i - 1) from rfl)
          obtain ⟨a1, a2⟩ := accG_bd (s := s) n3 n4 (k := i - 1) (by omega)
          clear hcs
          by_cases hlt : i < N
          · have i1 : (i : Int) < (N : Int) := by omega
            by_cases hlen : s.size = i
            · have HG := Lib.hid (gS_short HH.out hi1 hlt hlen HC.out)
              have e1 : ((i : Int) == (s.size : Int)) = true := by rw [beq_iff_eq]; omega
              generalize accG c0 s (i - 1) = A at *
              clear hlen
              go_wp2
              go_ret3
              rw [HG.out]
              exact ⟨rfl, Below.refl _ _⟩
            · have hlt2 : i < s.size := by omega
              have e1 : ((i : Int) == (s.size : Int)) = false := by rw [beq_eq_false_iff_ne]; omega
              have hbi := bt_eq hlt2
              obtain ⟨r0, r1⟩ := bt_range s i
              have hor := or64 (x := accG c0 s (i - 1)) (y := bt s i % 64) a1 (by omega) (by omega) (by omega)
              clear hlen
              cases hc : conB (bt s i) with
              | false =>
                have HG := Lib.hid (gS_form HH.out hi1 hlt hlt2 HC.out hc)
                have g1 : (bt s i / 64 != 2) = true := by
                  rw [bne_iff_ne]; intro h; rw [(conB_y r0 r1).2 h] at hc; cases hc
                clear hc
                go_wp2
                go_ret3
                rw [HG.out]
                exact ⟨rfl, Below.refl _ _⟩
              | true =>
                have g1 : (bt s i / 64 != 2) = false := by
                  rw [bne_eq_false_iff_eq]; exact (conB_y r0 r1).1 hc
                have HCC := Lib.hid hc
                clear hc
                go_wp2
                go_roundw
                case rel =>
                  refine ⟨i + 1, by go_num, by rw [HA.out], by omega, by omega, by omega, fun j h1 h2 => ?_, by first | rfl | trivial⟩
                  rcases Nat.lt_succ_iff_lt_or_eq.1 h2 with h | rfl
                  · exact HC.out j h1 h
                  · exact HCC.out
                case measure => simp [intOf]; omega
          · obtain rfl : N = i := by omega
            have HG := Lib.hid (gS_fin HH.out his HC.out)
            generalize accG c0 s (N - 1) = A at *
            have HT := Lib.hid (utf_least (N : Int))
            have HS := Lib.hid (utf_scalar A)
            obtain ⟨z, hz⟩ : ∃ z, scaB A = z := ⟨_, rfl⟩
            rw [hz] at HS
            have HF := Lib.hid (show gFin (N : Int) A = if A < lstV (N : Int) ∨ z = false then ⟨0, 0, 4⟩ else ⟨A, N, 0⟩ by rw [← hz]; rfl)
            generalize lstV (N : Int) = LV at *
            clear hz
            by_cases hl : A < LV
            · go_wp2_with (first | (go_at_call 92; refine (HT.out _).mono ?_; rintro e w' ⟨rfl, rfl⟩) | (go_at_call 90; refine (HS.out _).mono ?_; rintro e w' ⟨rfl, rfl⟩))
              go_ret3
              rw [HG.out, HF.out, if_pos (.inl hl)]
              exact ⟨rfl, Below.refl _ _⟩
            · rcases z with _ | _
              · go_wp2_with (first | (go_at_call 92; refine (HT.out _).mono ?_; rintro e w' ⟨rfl, rfl⟩) | (go_at_call 90; refine (HS.out _).mono ?_; rintro e w' ⟨rfl, rfl⟩))
                go_ret3
                rw [HG.out, HF.out, if_pos (by simp)]
                exact ⟨rfl, Below.refl _ _⟩
              · go_wp2_with (first | (go_at_call 92; refine (HT.out _).mono ?_; rintro e w' ⟨rfl, rfl⟩) | (go_at_call 90; refine (HS.out _).mono ?_; rintro e w' ⟨rfl, rfl⟩))
                go_ret3
                rw [HG.out, HF.out, if_neg (by simp [hl])]
                exact ⟨rfl, Below.refl _ _⟩

end Go.Proofs.Ytmipnikhgihcpaa
