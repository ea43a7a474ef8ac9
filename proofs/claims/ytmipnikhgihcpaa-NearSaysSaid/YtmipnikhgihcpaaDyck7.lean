/- Contract of fairref.Partner: its walk downward. -/
import Derived.Test.YtmipnikhgihcpaaDyck6
namespace Go.Proofs.Ytmipnikhgihcpaa
open Go.RowKit
set_option linter.unusedVariables false
set_option linter.unusedSimpArgs false

set_option maxRecDepth 100000 in
set_option maxHeartbeats 1000000 in
theorem ref_partner_down (a : Option Addr) (n c : Nat) (l : List Int) (k : Nat) (w : World) (ha : Ints w a l) (hn : l.length = n) (h2 : n ≤ 4096) (hk : k < n) (o s : Int) (ho : closeS (ix l k) = o) (hs : openS (ix l k) = s) (h0 : s ≠ 0) (h1 : ix l k = o) (hos : o ≠ s) :
    Calls Try.prog 194 #[.slice a n c, .int .i64 (k : Int)] w (PartPost (PartP l o s (fun t => k - t) (k + 1)) w) := by
  have HN := Lib.hid hn; clear hn
  have HO := Lib.hid ho; have HS := Lib.hid hs; clear ho hs
  obtain ⟨b1, o1, rfl, hc0⟩ := ha.at (k := k) (by rw [HN.out]; exact hk)
  have HC := Lib.hid (show ∀ i, i < n → w.cell? ⟨b1, o1 + i, none⟩ = some (.int .i64 (ix l i)) from fun i hi => hc0 i (by rw [HN.out]; exact hi))
  have ck := HC.out k hk; have HG := Lib.hid h1; clear h1
  have ik : (k : Int) < (n : Int) := by omega
  clear hc0
  have g0 : (s == 0) = false := by simpa using h0
  have g1 : (ix l k == o) = true := by simpa using HG.out
  go_enter Try.func194, Try.ntmps194
  go_wp2_with fail
  refine (ref_bracket (ix l k) w).mono ?_
  rintro e w2 ⟨rfl, hb2⟩
  have ck2 := below_keeps hb2 _ _ ck
  rw [HO.out, HS.out]
  go_wp2
  go_loopw [9, 8] (fun i d wr => ∃ t : Nat, i = .int .i64 ((k : Int) - t) ∧ d = .int .i64 (cnt l o s (fun t => k - t) t) ∧ t ≤ k + 1 ∧ (∀ t', t' < t → ¬ EndsB l o s (fun t => k - t) t') ∧ wr = w2) (fun i _ _ => (intOf i + 1).toNat)
  case atStart => exact ⟨0, by simp, rfl, by omega, fun t h => by omega, rfl⟩
  case round =>
    obtain ⟨t, rfl, rfl, ht, hno, rfl⟩ := hrel
    have HNO := Lib.hid hno; clear hno
    have hr := cnt_range l o s (fun t => k - t) t
    by_cases hlt : t ≤ k
    · have cj := below_keeps hb2 _ _ (HC.out (k - t) (by omega))
      have i1 : (k : Int) - t < (n : Int) := by omega
      have i2 : (0 : Int) ≤ (k : Int) - t := by omega
      have i3 : ((k : Int) - t).toNat = k - t := by omega
      have hc : cnt l o s (fun t => k - t) (t + 1) = cnt l o s (fun t => k - t) t + dOS l o s (k - t) := rfl
      by_cases e1 : ix l (k - t) = o
      · have j1 : (ix l (k - t) == o) = true := by simpa using e1
        have e2 : ix l (k - t) ≠ s := by rw [e1]; exact hos
        have j2 : (ix l (k - t) == s) = false := by simpa using e2
        have hd : dOS l o s (k - t) = 1 := by unfold dOS; rw [if_pos e1, if_neg e2]; rfl
        have H1 := Lib.hid (hc.trans (by rw [hd])); clear hc hd e1
        have HE := Lib.hid (show ¬ EndsB l o s (fun t => k - t) t from fun h => e2 h.1)
        clear e2
        generalize cnt l o s (fun t => k - t) t = dd at *
        go_wp2
        go_roundw
        case rel => exact ⟨t + 1, by congr 1; omega, by rw [H1.out], by omega, fun t' h' => by
          rcases Nat.lt_succ_iff_lt_or_eq.1 h' with h | rfl
          · exact HNO.out t' h
          · exact HE.out, trivial⟩
        case measure => simp [intOf]; omega
      · have j1 : (ix l (k - t) == o) = false := by simpa using e1
        by_cases e2 : ix l (k - t) = s
        · have j2 : (ix l (k - t) == s) = true := by simpa using e2
          have hd : dOS l o s (k - t) = -1 := by unfold dOS; rw [if_neg e1, if_pos e2]; rfl
          have H1 := Lib.hid (hc.trans (by rw [hd])); clear hc hd
          have HE2 := Lib.hid e2; clear e1 e2
          by_cases hz : cnt l o s (fun t => k - t) t + -1 = 0
          · have HE := Lib.hid (show EndsB l o s (fun t => k - t) t from ⟨HE2.out, by rw [H1.out]; exact hz⟩)
            have hz2 : cnt l o s (fun t => k - t) t = 1 := by omega
            rw [hz2]
            clear hz hz2 H1 hr
            go_wp2
            go_ret
            exact ⟨_, rfl, .inl ⟨t, by omega, HE.out, HNO.out, by show _ = ((k - t : Nat) : Int); omega⟩, hb2⟩
          · have HE := Lib.hid (show ¬ EndsB l o s (fun t => k - t) t from fun h => hz (by rw [← H1.out]; exact h.2))
            generalize cnt l o s (fun t => k - t) t = dd at *
            have hz3 : ¬ dd - 1 = 0 := by omega
            have hz4 : (dd - 1 == 0) = false := by simpa using hz3
            go_wp2
            go_roundw
            case rel => exact ⟨t + 1, by congr 1; omega, by rw [H1.out]; congr 1, by omega, fun t' h' => by
              rcases Nat.lt_succ_iff_lt_or_eq.1 h' with h | rfl
              · exact HNO.out t' h
              · exact HE.out, trivial⟩
            case measure => simp [intOf]; omega
        · have j2 : (ix l (k - t) == s) = false := by simpa using e2
          have hd : dOS l o s (k - t) = 0 := by unfold dOS; rw [if_neg e1, if_neg e2]; rfl
          have H1 := Lib.hid (hc.trans (by rw [hd])); clear hc hd
          have HE := Lib.hid (show ¬ EndsB l o s (fun t => k - t) t from fun h => e2 h.1)
          clear e1 e2
          generalize cnt l o s (fun t => k - t) t = dd at *
          go_wp2
          go_roundw
          case rel => exact ⟨t + 1, by congr 1; omega, by rw [H1.out]; simp, by omega, fun t' h' => by
            rcases Nat.lt_succ_iff_lt_or_eq.1 h' with h | rfl
            · exact HNO.out t' h
            · exact HE.out, trivial⟩
          case measure => simp [intOf]; omega
    · go_wp2
      go_ret
      exact ⟨_, rfl, .inr ⟨fun t' h' => HNO.out t' (by omega), rfl⟩, hb2⟩

set_option maxRecDepth 100000 in
theorem ref_partner_none (a : Option Addr) (n c : Nat) (l : List Int) (k : Nat) (w : World) (ha : Ints w a l) (hn : l.length = n) (h2 : n ≤ 4096) (hk : k < n) (h0 : openS (ix l k) = 0) :
    Calls Try.prog 194 #[.slice a n c, .int .i64 (k : Int)] w (PartPost (fun r => r = -1) w) := by
  have HN := Lib.hid hn; clear hn
  obtain ⟨b1, o1, rfl, hc0⟩ := ha.at (k := k) (by rw [HN.out]; exact hk)
  have ck := hc0 k (by rw [HN.out]; exact hk)
  have ik : (k : Int) < (n : Int) := by omega
  have HO := Lib.hid h0
  clear hc0 h0
  go_enter Try.func194, Try.ntmps194
  go_wp2_with fail
  refine (ref_bracket (ix l k) w).mono ?_
  rintro e w2 ⟨rfl, hb2⟩
  rw [HO.out]
  go_wp2
  go_ret
  exact ⟨_, rfl, rfl, hb2⟩

end Go.Proofs.Ytmipnikhgihcpaa
