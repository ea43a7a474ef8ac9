/- Contracts of fairref.Border, Places. -/
import Derived.Test.YthnjaichbejifaaSlib
import Derived.Test.YthnjaichbejifaaSeekS
import Derived.Deep.RegionHeld3
namespace Go.Proofs.Ythnjaichbejifaa
open Go.RowKit
set_option linter.unusedVariables false
set_option linter.unusedSimpArgs false

theorem belowOf {w w' : World} (h : ∃ n, w' = w.drewN n) : Below w.heap.size w w' := by
  obtain ⟨n, rfl⟩ := h; exact below_drewN (Below.refl _ _) n

theorem drewN2 {w w' : World} (h : ∃ d, w' = w.drewN d) (b : Nat) : ∃ d, w'.drewN b = w.drewN d := by
  obtain ⟨a, rfl⟩ := h; exact ⟨a + b, by simp [World.drewN_drewN]⟩

def BorderPost (q : List Int) (n : Nat) (w : World) (e : Ending) (w' : World) : Prop := ∃ k : Nat, e = .returned (.int .i64 (k : Int)) ∧ MaxB q n k ∧ ∃ d, w' = w.drewN d

set_option maxRecDepth 100000 in
theorem ref_border (a : Option Addr) (n c : Nat) (q : List Int) (w : World) (ha : Ints w a q) (hn : q.length = n) (h1 : 1 ≤ n) (h2 : n ≤ 4096) (hc : n ≤ c) (hc2 : c ≤ 9223372036854775807) :
    Calls Try.prog 50 #[.slice a n c] w (BorderPost q n w) := by
  obtain ⟨b, o, rfl, -⟩ := ha.at (k := 0) (by omega)
  have HN := Lib.hid hn; clear hn
  go_enter Try.func50, Try.ntmps50
  go_wp2
  go_loopw [3] (fun v wr => ∃ k : Nat, v = .int .i64 (k : Int) ∧ k < n ∧ (∀ k', k < k' → ¬ Bord q n k') ∧ ∃ d, wr = w.drewN d) (fun v _ => (intOf v).toNat)
  case atStart => exact ⟨n - 1, by congr 1; omega, by omega, fun k' hk hb => by have := hb.1; omega, 0, rfl⟩
  case round =>
    obtain ⟨k, rfl, hk, hno, hdr⟩ := hrel
    have hbel := belowOf hdr
    have HDR := Lib.hid hdr; clear hdr
    have HO := Lib.hid hno; clear hno
    by_cases h0 : 0 < k
    · have i1 : IntKind.i64.wrap ((n : Int) - k) = (n : Int) - k := IntWalk.i64_in _ (by omega)
      have i2 : ((n : Int) - k).toNat = n - k := by omega
      have i3 : (0 : Int) ≤ (n : Int) - k := by omega
      have i4 : (n : Int) - k ≤ (n : Int) := by omega
      have i5 : (k : Int) ≤ (c : Int) := by omega
      have i6 : (0 : Int) < (k : Int) := by omega
      have i7 : ¬ c = n - k := by omega
      have hA := ha.below hbel
      have hA1 := hA.take k
      have hA2 := hA.drop (n - k)
      have l1 : (q.take k).length = k := by simp; have := HN.out; omega
      have l2 : (q.drop (n - k)).length = k := by simp; have := HN.out; omega
      have l3 : n - (n - k) = k := by omega
      have L1 := Lib.hid l1; have L2 := Lib.hid l2; have L3 := Lib.hid l3; clear l1 l2 l3
      by_cases hq : q.take k = q.drop (n - k)
      · have hB := (bord_eq HN.out hk).1 hq
        have hT : true = true ↔ q.take k = q.drop (n - k) := by simpa using hq
        have HT := Lib.hid hT; have HB := Lib.hid hB; clear hT hq hB
        go_wp2_with fail
        go_quiet ((go_at_call 19; exact Calls.quiet_of (slices_eqb (some ⟨b, o, none⟩) (some ⟨b, o + (n - k), none⟩) k (n - (n - k)) c (c - (n - k)) (q.take k) (q.drop (n - k)) true (by simpa using HT.out) _ (hA1.drewN _) (hA2.drewN _) L1.out (by rw [L2.out, L3.out]) (by omega))))
        all_goals
          go_wp2
          go_ret
          exact ⟨k, rfl, ⟨HB.out, fun k' hk' => by
            rcases Nat.lt_or_ge k k' with h | h
            · exact absurd hk' (HO.out k' h)
            · exact h⟩, drewN2 HDR.out _⟩
      · have hB := mt (bord_eq HN.out hk).2 hq
        have hT : false = true ↔ q.take k = q.drop (n - k) := by simpa using hq
        have HT := Lib.hid hT; have HB := Lib.hid hB; clear hT hq hB
        go_wp2_with fail
        go_quiet ((go_at_call 19; exact Calls.quiet_of (slices_eqb (some ⟨b, o, none⟩) (some ⟨b, o + (n - k), none⟩) k (n - (n - k)) c (c - (n - k)) (q.take k) (q.drop (n - k)) false (by simpa using HT.out) _ (hA1.drewN _) (hA2.drewN _) L1.out (by rw [L2.out, L3.out]) (by omega))))
        all_goals
          go_wp2
          go_roundw
          case rel => exact ⟨k - 1, by congr 1; omega, by omega, fun k' hk' => by
            rcases Nat.lt_or_ge k k' with h | h
            · exact HO.out k' h
            · rw [show k' = k from by omega]; exact HB.out, drewN2 HDR.out _⟩
          case measure => simp [intOf]; omega
    · obtain rfl : k = 0 := by omega
      go_wp2
      go_ret
      exact ⟨0, rfl, ⟨bord_zero (by omega), fun k' hk' => by
        rcases Nat.lt_or_ge 0 k' with h | h
        · exact absurd hk' (HO.out k' h)
        · exact h⟩, HDR.out⟩

def PlacesPost (p s : List Int) (n : Nat) (w : World) (e : Ending) (w' : World) : Prop := ∃ v, e = .returned v ∧ Own 3 w.heap.size w' v (placesS p s n) ∧ Below w.heap.size w w'

set_option maxRecDepth 100000 in
theorem ref_places1 (a1 a2 : Option Addr) (m c1 n c2 : Nat) (p s : List Int) (w : World) (h1 : Ints w a1 p) (h2 : Ints w a2 s) (hm : p.length = m) (hn : s.length = n) (hm2 : m ≤ 4096) (hn2 : n ≤ 4096) (hc : n ≤ c2) (hc2 : c2 ≤ 9223372036854775807) (hpos : 0 < m) :
    Calls Try.prog 51 #[.slice a1 m c1, .slice a2 n c2] w (PlacesPost p s (n + 1 - m) w) := by
  have HM := Lib.hid hm; have HN := Lib.hid hn; clear hm hn
  go_enter Try.func51, Try.ntmps51
  go_wp2
  go_loopw [6, 5] (fun i v wr => ∃ k : Nat, i = .int .i64 (k : Int) ∧ k ≤ n + 1 - m ∧ Own 3 w.heap.size wr v (placesS p s k) ∧ Below w.heap.size w wr) (fun i _ _ => n + 1 - (intOf i).toNat)
  case atStart => exact ⟨0, rfl, by omega, Own.nil _ _ _, Below.refl _ _⟩
  case round =>
    obtain ⟨k, rfl, hk, hown, hbel⟩ := hrel
    have hpl := placesS_length p s k
    by_cases hlt : k + m ≤ n
    · have i0 : (k : Int) + m ≤ n := by omega
      have hst := stands_suf (p := p) (s := s) (t := k) (by rw [HM.out, HN.out]; exact hlt)
      clear hst
      obtain ⟨b2, o2, rfl, -⟩ := h2.at (k := k) (by rw [HN.out]; omega)
      have i1 : ¬ c2 = k := by omega
      have i2 : (k : Int) + m ≤ c2 := by omega
      by_cases hq : standsB p s k = true
      · have HQ := Lib.hid hq; have HY := Lib.hid (placesS_succ_yes hq); clear hq
        go_wp2_with fail
        refine (slices_eqb a1 (some ⟨b2, o2 + k, none⟩) m m c1 (c2 - k) p ((s.drop k).take m) true (by have := HQ.out; unfold standsB at this; rw [HM.out] at this; simpa using this) wr (h1.below hbel) (((h2.below hbel).drop k).take m) HM.out (by simp; have := HN.out; omega) (by omega)).mono ?_
        rintro e w2 ⟨rfl, hq2⟩
        have hq3 := belowOf hq2
        have hown2 : Own 3 w.heap.size w2 u5 (placesS p s k) := hown.kept hq3
        have hb2 := below_then hbel hbel.size hq3
        clear hq2 hq3
        go_wp2_with (at_builtin; refine app1 rfl _ _ rfl w.heap.size u5 _ _ _ rfl rfl (hown2.alloc _) (cell_new1 _ _ _) (by omega) (size_alloc_le hb2.size _) ?_; intro v3 w3 hown3 hgrow3)
        go_roundw
        case rel => exact ⟨k + 1, by go_num, by omega, by rw [HY.out]; exact hown3, (hb2.alloc hb2.size _).grown hgrow3 (by have := hb2.size; simp; omega) hown2.row⟩
        case measure => simp [intOf]; omega
      · have HQ := Lib.hid hq; have HY := Lib.hid (placesS_succ_no hq); clear hq
        go_wp2_with fail
        refine (slices_eqb a1 (some ⟨b2, o2 + k, none⟩) m m c1 (c2 - k) p ((s.drop k).take m) false (by have := HQ.out; unfold standsB at this; rw [HM.out] at this; simpa using this) wr (h1.below hbel) (((h2.below hbel).drop k).take m) HM.out (by simp; have := HN.out; omega) (by omega)).mono ?_
        rintro e w2 ⟨rfl, hq2⟩
        have hq3 := belowOf hq2
        have hown2 : Own 3 w.heap.size w2 u5 (placesS p s k) := hown.kept hq3
        have hb2 := below_then hbel hbel.size hq3
        clear hq2 hq3
        go_wp2
        go_roundw
        case rel => exact ⟨k + 1, by go_num, by omega, by rw [HY.out]; exact hown2, hb2⟩
        case measure => simp [intOf]; omega
    · have hke : k = n + 1 - m := by omega
      have HK := Lib.hid hke; clear hke
      have i0 : ¬ (k : Int) + m ≤ n := by omega
      go_wp2
      go_ret
      exact ⟨_, rfl, by rw [← HK.out]; exact hown, hbel⟩

set_option maxRecDepth 100000 in
theorem ref_places0 (a1 a2 : Option Addr) (c1 n c2 : Nat) (s : List Int) (w : World) (hn : s.length = n) (hn2 : n ≤ 4096) (hc : n ≤ c2) (hc2 : c2 ≤ 9223372036854775807) :
    Calls Try.prog 51 #[.slice a1 0 c1, .slice a2 n c2] w (PlacesPost [] s (n + 1) w) := by
  have HN := Lib.hid hn; clear hn
  go_enter Try.func51, Try.ntmps51
  go_wp2
  go_loopw [6, 5] (fun i v wr => ∃ k : Nat, i = .int .i64 (k : Int) ∧ k ≤ n + 1 ∧ Own 3 w.heap.size wr v (placesS [] s k) ∧ Below w.heap.size w wr) (fun i _ _ => n + 1 - (intOf i).toNat)
  case atStart => exact ⟨0, rfl, by omega, Own.nil _ _ _, Below.refl _ _⟩
  case round =>
    obtain ⟨k, rfl, hk, hown, hbel⟩ := hrel
    have hpl := placesS_length [] s k
    by_cases hlt : k ≤ n
    · have i0 : (k : Int) ≤ n := by omega
      have i1 : (k : Int) ≤ c2 := by omega
      have hq : standsB [] s k = true := by simp [standsB]
      have HY := Lib.hid (placesS_succ_yes hq); clear hq
      by_cases hck : k = c2
      · subst hck
        go_wp2_with fail
        all_goals
          refine (slices_eqb a1 _ 0 _ c1 _ [] [] true (by simp) wr (.inl rfl) (.inl rfl) rfl (by simp) (by omega)).mono ?_
          rintro e w2 ⟨rfl, hq2⟩
          have hq3 := belowOf hq2
          have hown2 : Own 3 w.heap.size w2 u5 (placesS [] s k) := hown.kept hq3
          have hb2 := below_then hbel hbel.size hq3
          clear hq2 hq3
          go_wp2_with (at_builtin; refine app1 rfl _ _ rfl w.heap.size u5 _ _ _ rfl rfl (hown2.alloc _) (cell_new1 _ _ _) (by omega) (size_alloc_le hb2.size _) ?_; intro v3 w3 hown3 hgrow3)
          go_roundw
          case rel => exact ⟨k + 1, by go_num, by omega, by rw [HY.out]; exact hown3, (hb2.alloc hb2.size _).grown hgrow3 (by have := hb2.size; simp; omega) hown2.row⟩
          case measure => simp [intOf]; omega
      · have i2 : ¬ c2 = k := fun e => hck e.symm
        clear hck
        go_wp2_with fail
        all_goals
          refine (slices_eqb a1 _ 0 _ c1 _ [] [] true (by simp) wr (.inl rfl) (.inl rfl) rfl (by simp) (by omega)).mono ?_
          rintro e w2 ⟨rfl, hq2⟩
          have hq3 := belowOf hq2
          have hown2 : Own 3 w.heap.size w2 u5 (placesS [] s k) := hown.kept hq3
          have hb2 := below_then hbel hbel.size hq3
          clear hq2 hq3
          go_wp2_with (at_builtin; refine app1 rfl _ _ rfl w.heap.size u5 _ _ _ rfl rfl (hown2.alloc _) (cell_new1 _ _ _) (by omega) (size_alloc_le hb2.size _) ?_; intro v3 w3 hown3 hgrow3)
          go_roundw
          case rel => exact ⟨k + 1, by go_num, by omega, by rw [HY.out]; exact hown3, (hb2.alloc hb2.size _).grown hgrow3 (by have := hb2.size; simp; omega) hown2.row⟩
          case measure => simp [intOf]; omega
    · obtain rfl : k = n + 1 := by omega
      go_wp2
      go_ret
      exact ⟨_, rfl, hown, hbel⟩

theorem ref_places (a1 a2 : Option Addr) (m c1 n c2 : Nat) (p s : List Int) (w : World) (h1 : Ints w a1 p) (h2 : Ints w a2 s) (hm : p.length = m) (hn : s.length = n) (hm2 : m ≤ 4096) (hn2 : n ≤ 4096) (hc : n ≤ c2) (hc2 : c2 ≤ 9223372036854775807) :
    Calls Try.prog 51 #[.slice a1 m c1, .slice a2 n c2] w (PlacesPost p s (n + 1 - m) w) := by
  rcases Nat.eq_zero_or_pos m with rfl | h
  · obtain rfl : p = [] := List.eq_nil_of_length_eq_zero hm
    exact ref_places0 a1 a2 c1 n c2 s w hn hn2 hc hc2
  · exact ref_places1 a1 a2 m c1 n c2 p s w h1 h2 hm hn hm2 hn2 hc hc2 h

end Go.Proofs.Ythnjaichbejifaa
