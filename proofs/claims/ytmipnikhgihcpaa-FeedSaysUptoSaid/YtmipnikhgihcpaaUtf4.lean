/- Contract of fairref.Get. -/
import Derived.Test.YtmipnikhgihcpaaUtf3
namespace Go.Proofs.Ytmipnikhgihcpaa
open Go.RowKit
set_option linter.unusedVariables false
set_option linter.unusedSimpArgs false

theorem con_ones {x : Int} (h0 : 0 ≤ x) (h1 : x ≤ 255) : conB x = true ↔ onV x = 1 := by
  unfold conB onV
  rw [decide_eq_true_eq]
  constructor
  · intro h; rw [if_neg (by omega), if_pos (by omega)]
  · intro h
    by_cases a : x < 128
    · rw [if_pos a] at h; omega
    · by_cases b : x < 192
      · omega
      · rw [if_neg a, if_neg b] at h
        repeat' split at h
        all_goals omega
theorem enc_size {c : Int} (h : scaB c = true) : (Utf8.encode c).size = if c < 128 then 1 else if c < 2048 then 2 else if c < 65536 then 3 else 4 := by
  have hb := h
  simp [scaB] at hb
  by_cases a : c < 128
  · rw [if_pos a, enc1 (by omega) a]; rfl
  · by_cases b : c < 2048
    · rw [if_neg a, if_pos b, enc2 (by omega) b]; rfl
    · by_cases d : c < 65536
      · rw [if_neg a, if_neg b, if_pos d, enc3 (by omega) d h]; rfl
      · rw [if_neg a, if_neg b, if_neg d, enc4 (by omega) (by omega)]; rfl
theorem size_least {s : ByteArray} {N : Nat} {c0 : Int} (h : Head (bt s 0) N c0) (hv : scaB (accG c0 s (N - 1)) = true) : (Utf8.encode (accG c0 s (N - 1))).size = N ↔ ¬ accG c0 s (N - 1) < lstV N := by
  have hb : 0 ≤ accG c0 s (N - 1) ∧ (N = 2 → accG c0 s (N - 1) < 2048) ∧ (N = 3 → accG c0 s (N - 1) < 65536) := by
    refine ⟨(accG_bd h.bd.2.2.1 h.bd.2.2.2 (by have := h.bd; omega)).1, fun e => ?_, fun e => ?_⟩
    · subst e
      have r1 := bt_range s 1
      have := h.bd
      simp only [accG]; omega
    · subst e
      have r1 := bt_range s 1; have r2 := bt_range s 2
      have : c0 < 16 := by unfold Head at h; omega
      simp only [accG]; omega
  have hN := h.bd
  rw [enc_size hv]
  generalize accG c0 s (N - 1) = A at *
  obtain rfl | rfl | rfl : N = 2 ∨ N = 3 ∨ N = 4 := by omega
  · rw [show lstV ((2 : Nat) : Int) = 128 from rfl]
    have := hb.2.1 rfl
    repeat' split
    all_goals omega
  · rw [show lstV ((3 : Nat) : Int) = 2048 from rfl]
    have := hb.2.2 rfl
    repeat' split
    all_goals omega
  · rw [show lstV ((4 : Nat) : Int) = 65536 from rfl]
    repeat' split
    all_goals omega

set_option maxRecDepth 100000 in
set_option maxHeartbeats 4000000 in
theorem ref_get (s : ByteArray) (w : World) : Calls Try.prog 17 #[.string s] w (GPost (gS s) w) := by
  obtain ⟨q0, q1⟩ := bt_range s 0
  by_cases hs : s.size = 0
  · have HG := Lib.hid (gS_nil hs)
    have hs2 : (s.size : Int) = 0 := by omega
    clear hs
    go_enter Try.func17, Try.ntmps17
    go_wp2
    go_ret3
    rw [HG.out]
    exact ⟨rfl, Below.refl _ _⟩
  · have hsz : 0 < s.size := by omega
    have hs2 : ((s.size : Int) == 0) = false := by rw [beq_eq_false_iff_ne]; omega
    have hb := bt_eq hsz
    have HO := Lib.hid (ref_ones (bt s 0) q0 q1)
    clear hs
    by_cases h128 : bt s 0 < 128
    · have HG := Lib.hid (gS_low hsz h128)
      rw [show onV (bt s 0) = 0 by unfold onV; rw [if_pos h128]] at HO
      go_enter Try.func17, Try.ntmps17
      go_wp2_with fail
      refine (HO.out _).mono ?_
      rintro e w' ⟨rfl, rfl⟩
      go_wp2
      go_ret3
      rw [HG.out]
      exact ⟨rfl, Below.refl _ _⟩
    · by_cases hbad : bt s 0 < 192 ∨ 248 ≤ bt s 0
      · have HG := Lib.hid (gS_bad hsz (by omega))
        have HN := Lib.hid (show onV (bt s 0) = 1 ∨ 4 < onV (bt s 0) by
          unfold onV
          rw [if_neg h128]
          repeat' split
          all_goals omega)
        generalize onV (bt s 0) = n at *
        clear hbad h128
        rcases HN.out with rfl | h4
        · go_enter Try.func17, Try.ntmps17
          go_wp2_with fail
          refine (HO.out _).mono ?_
          rintro e w' ⟨rfl, rfl⟩
          go_wp2
          go_ret3
          rw [HG.out]
          exact ⟨rfl, Below.refl _ _⟩
        · have e0 : (n == 0) = false := by rw [beq_eq_false_iff_ne]; omega
          have e1 : (n == 1) = false := by rw [beq_eq_false_iff_ne]; omega
          go_enter Try.func17, Try.ntmps17
          go_wp2_with fail
          refine (HO.out _).mono ?_
          rintro e w' ⟨rfl, rfl⟩
          go_wp2
          go_ret3
          rw [HG.out]
          exact ⟨rfl, Below.refl _ _⟩
      · obtain ⟨N, c0, hH, -, -, hN⟩ := head_of (b0 := bt s 0) (by omega) (by omega)
        obtain ⟨n1, n2, n3, n4⟩ := hH.bd
        have HH := Lib.hid hH
        rw [hN] at HO
        clear hbad h128 hN hH
        have e0 : ((N : Int) == 0) = false := by rw [beq_eq_false_iff_ne]; omega
        have e1 : ((N : Int) == 1) = false := by rw [beq_eq_false_iff_ne]; omega
        have e4 : ¬ (4 : Int) < (N : Int) := by omega
        go_enter Try.func17, Try.ntmps17
        go_wp2_with fail
        refine (HO.out _).mono ?_
        rintro e w' ⟨rfl, rfl⟩
        go_upto_region 10 with fail
        go_loopw [6, 7] (fun cv kv wr => ∃ k v : Int, kv = .int .i64 k ∧ cv = .int .i64 v ∧ ((k = 7 ∧ v = bt s 0) ∨ (k = 6 ∧ v = bt s 0 % 128) ∨ (k = 5 ∧ v = bt s 0 % 64) ∨ (k = 4 ∧ v = bt s 0 % 32) ∨ (k = 3 ∧ v = bt s 0 % 16 ∧ 3 ≤ N) ∨ (k = 2 ∧ v = bt s 0 % 8 ∧ 4 ≤ N)) ∧ w = wr) (fun _ kv _ => (intOf kv).toNat)
        case atStart => exact ⟨7, bt s 0, rfl, rfl, .inl ⟨rfl, rfl⟩, rfl⟩
        case round =>
          obtain ⟨k, v, rfl, rfl, hkv, rfl⟩ := hrel
          by_cases hk : 7 - (N : Int) ≤ k
          · have HKV := Lib.hid hkv
            rcases hkv with ⟨rfl, rfl⟩ | ⟨rfl, rfl⟩ | ⟨rfl, rfl⟩ | ⟨rfl, rfl⟩ | ⟨rfl, rfl, h3⟩ | ⟨rfl, rfl, h3⟩
            · go_wp2
              go_roundw
              case rel => exact ⟨6, bt s 0 % 128, rfl, rfl, .inr (.inl ⟨rfl, rfl⟩), by first | rfl | trivial⟩
              case measure => simp [intOf]
            · go_wp2
              go_roundw
              case rel => exact ⟨5, bt s 0 % 64, rfl, by congr 1; omega, .inr (.inr (.inl ⟨rfl, rfl⟩)), by first | rfl | trivial⟩
              case measure => simp [intOf]
            · go_wp2
              go_roundw
              case rel => exact ⟨4, bt s 0 % 32, rfl, by congr 1; omega, .inr (.inr (.inr (.inl ⟨rfl, rfl⟩))), by first | rfl | trivial⟩
              case measure => simp [intOf]
            · go_wp2
              go_roundw
              case rel => exact ⟨3, bt s 0 % 16, rfl, by congr 1; omega, .inr (.inr (.inr (.inr (.inl ⟨rfl, rfl, by omega⟩)))), by first | rfl | trivial⟩
              case measure => simp [intOf]
            · go_wp2
              go_roundw
              case rel => exact ⟨2, bt s 0 % 8, rfl, by congr 1; omega, .inr (.inr (.inr (.inr (.inr ⟨rfl, rfl, by omega⟩)))), by first | rfl | trivial⟩
              case measure => simp [intOf]
            · omega
          · have hv : v = c0 := by
              have hh := HH.out
              unfold Head at hh
              omega
            subst hv
            clear hkv
            go_upto_region 14 with fail
            go_loopw [6, 8] (fun cv iv wr => ∃ i : Nat, iv = .int .i64 (i : Int) ∧ cv = .int .i64 (accG v s (i - 1)) ∧ 1 ≤ i ∧ i ≤ N ∧ i ≤ s.size ∧ (∀ j, 1 ≤ j → j < i → conB (bt s j) = true) ∧ w = wr) (fun _ iv _ => N - (intOf iv).toNat)
            case atStart => exact ⟨1, rfl, rfl, by omega, by omega, by omega, fun j h1 h2 => by omega, rfl⟩
            case round =>
              obtain ⟨i, rfl, rfl, hi1, hiN, his, hcs, rfl⟩ := hrel
              have HC := Lib.hid hcs
              have HA := Lib.hid (accG_step (c0 := v) (s := s) hi1)
              obtain ⟨a1, a2⟩ := accG_bd (s := s) n3 n4 (k := i - 1) (by omega)
              clear hcs
              by_cases hlt : i < N
              · have i1 : (i : Int) < (N : Int) := by omega
                by_cases hlen : s.size = i
                · have HG := Lib.hid (gS_short HH.out hi1 hlt hlen HC.out)
                  have e2 : (s.size : Int) ≤ (i : Int) := by omega
                  generalize accG v s (i - 1) = A at *
                  clear hlen
                  go_wp2
                  go_ret3
                  rw [HG.out]
                  exact ⟨rfl, Below.refl _ _⟩
                · have hlt2 : i < s.size := by omega
                  have e2 : ¬ (s.size : Int) ≤ (i : Int) := by omega
                  have hbi := bt_eq hlt2
                  obtain ⟨r0, r1⟩ := bt_range s i
                  have HOI := Lib.hid (ref_ones (bt s i) r0 r1)
                  clear hlen
                  cases hc : conB (bt s i) with
                  | false =>
                    have HG := Lib.hid (gS_form HH.out hi1 hlt hlt2 HC.out hc)
                    have g1 : (onV (bt s i) != 1) = true := by
                      rw [bne_iff_ne]; intro h; rw [(con_ones r0 r1).2 h] at hc; cases hc
                    generalize onV (bt s i) = m at *
                    clear hc
                    go_wp2_with fail
                    refine (HOI.out _).mono ?_
                    rintro e w' ⟨rfl, rfl⟩
                    go_wp2
                    go_ret3
                    rw [HG.out]
                    exact ⟨rfl, Below.refl _ _⟩
                  | true =>
                    have hr : 128 ≤ bt s i ∧ bt s i < 192 := by simpa [conB] using hc
                    have g1 := (con_ones r0 r1).1 hc
                    rw [g1] at HOI
                    have HCC := Lib.hid hc
                    clear hc g1
                    go_wp2_with fail
                    refine (HOI.out _).mono ?_
                    rintro e w' ⟨rfl, rfl⟩
                    go_wp2
                    go_roundw
                    case rel =>
                      refine ⟨i + 1, by go_num, by rw [HA.out]; congr 1; omega, by omega, by omega, by omega, fun j h1 h2 => ?_, by first | rfl | trivial⟩
                      rcases Nat.lt_succ_iff_lt_or_eq.1 h2 with h | rfl
                      · exact HC.out j h1 h
                      · exact HCC.out
                    case measure => simp [intOf]; omega
              · obtain rfl : N = i := by omega
                have HG := Lib.hid (gS_fin HH.out his HC.out)
                have HSL := Lib.hid (size_least HH.out)
                generalize accG v s (N - 1) = A at *
                have HS := Lib.hid (ref_char A)
                have HP := Lib.hid (ref_put A)
                obtain ⟨z, hz⟩ : ∃ z, scaB A = z := ⟨_, rfl⟩
                rw [hz] at HS HP HSL
                have HF := Lib.hid (show gFin (N : Int) A = if A < lstV (N : Int) ∨ z = false then ⟨0, 0, 4⟩ else ⟨A, N, 0⟩ by rw [← hz]; rfl)
                generalize lstV (N : Int) = LV at *
                clear hz
                rcases z with _ | _
                · go_wp2_with fail
                  refine (HS.out _).mono ?_
                  rintro e w' ⟨rfl, rfl⟩
                  go_wp2
                  go_ret3
                  rw [HG.out, HF.out, if_pos (by simp)]
                  exact ⟨rfl, Below.refl _ _⟩
                · have HSL2 := Lib.hid (HSL.out rfl)
                  generalize Utf8.encode A = ba at *
                  by_cases hl : A < LV
                  · have g2 : ((ba.size : Int) != (N : Int)) = true := by
                      rw [bne_iff_ne]; intro h
                      exact HSL2.out.1 (by omega) hl
                    go_wp2_with fail
                    refine (HS.out _).mono ?_
                    rintro e w' ⟨rfl, rfl⟩
                    go_wp2_with fail
                    refine (HP.out (by trivial) _).mono ?_
                    rintro e w2 ⟨rfl, hb2⟩
                    go_wp2
                    go_ret3
                    rw [HG.out, HF.out, if_pos (.inl hl)]
                    exact ⟨rfl, hb2⟩
                  · have g2 : ((ba.size : Int) != (N : Int)) = false := by
                      rw [bne_eq_false_iff_eq]
                      have := HSL2.out.2 hl
                      omega
                    go_wp2_with fail
                    refine (HS.out _).mono ?_
                    rintro e w' ⟨rfl, rfl⟩
                    go_wp2_with fail
                    refine (HP.out (by trivial) _).mono ?_
                    rintro e w2 ⟨rfl, hb2⟩
                    go_wp2
                    go_ret3
                    rw [HG.out, HF.out, if_neg (by simp [hl])]
                    exact ⟨rfl, hb2⟩

end Go.Proofs.Ytmipnikhgihcpaa
