/- Contract of fairref.Places. -/
import Derived.Test.YtmipnikhgihcpaaSlib
import Derived.Test.YtmipnikhgihcpaaSeekS
import Derived.Deep.RegionHeld3
namespace Go.Proofs.Ytmipnikhgihcpaa
open Go.RowKit
set_option linter.unusedVariables false
set_option linter.unusedSimpArgs false

theorem belowOf {w w' : World} (h : ∃ n, w' = w.drewN n) : Below w.heap.size w w' := by
  obtain ⟨n, rfl⟩ := h; exact below_drewN (Below.refl _ _) n

theorem drewN2 {w w' : World} (h : ∃ d, w' = w.drewN d) (b : Nat) : ∃ d, w'.drewN b = w.drewN d := by
  obtain ⟨a, rfl⟩ := h; exact ⟨a + b, by simp [World.drewN_drewN]⟩

def PlacesPost (p s : List Int) (n : Nat) (w : World) (e : Ending) (w' : World) : Prop := ∃ v, e = .returned v ∧ Own 3 w.heap.size w' v (placesS p s n) ∧ Below w.heap.size w w'

set_option maxRecDepth 100000 in
theorem ref_places1 (a1 a2 : Option Addr) (m c1 n c2 : Nat) (p s : List Int) (w : World) (h1 : Ints w a1 p) (h2 : Ints w a2 s) (hm : p.length = m) (hn : s.length = n) (hm2 : m ≤ 4096) (hn2 : n ≤ 4096) (hc : n ≤ c2) (hc2 : c2 ≤ 9223372036854775807) (hpos : 0 < m) :
    Calls Try.prog 261 #[.slice a1 m c1, .slice a2 n c2] w (PlacesPost p s (n + 1 - m) w) := by
  have HM := Lib.hid hm; have HN := Lib.hid hn; clear hm hn
  go_enter Try.func261, Try.ntmps261
  go_wp2
  go_loopw [6, 5] (fun i v wr => ∃ k : Nat, i = .int .i64 (k : Int) ∧ k ≤ n + 1 - m ∧ Own 3 w.heap.size wr v (placesS p s k) ∧ Below w.heap.size w wr) (fun i _ _ => n + 1 - (intOf i).toNat)
  case atStart => exact ⟨0, rfl, by omega, Own.nil _ _ _, Below.refl _ _⟩
  case round =>
    obtain ⟨k, rfl, hk, hown, hbel⟩ := hrel
    have hpl := placesS_length p s k
    by_cases hlt : k + m ≤ n
    · have i0 : (k : Int) + m ≤ n := by omega
      have hst := stands_suf (p := p) (s := s) (t := k) (by rw [HM.out, HN.out]; exact hlt)
      clear hst
      obtain ⟨b2, o2, rfl, -⟩ := h2.at (k := k) (by rw [HN.out]; omega)
      have i1 : ¬ c2 = k := by omega
      have i2 : (k : Int) + m ≤ c2 := by omega
      by_cases hq : standsB p s k = true
      · have HQ := Lib.hid hq; have HY := Lib.hid (placesS_succ_yes hq); clear hq
        go_wp2_with fail
        refine (slices_eqb a1 (some ⟨b2, o2 + k, none⟩) m m c1 (c2 - k) p ((s.drop k).take m) true (by have := HQ.out; unfold standsB at this; rw [HM.out] at this; simpa using this) wr (h1.below hbel) (((h2.below hbel).drop k).take m) HM.out (by simp; have := HN.out; omega) (by omega)).mono ?_
        rintro e w2 ⟨rfl, hq2⟩
        have hq3 := belowOf hq2
        have hown2 : Own 3 w.heap.size w2 u5 (placesS p s k) := hown.kept hq3
        have hb2 := below_then hbel hbel.size hq3
        clear hq2 hq3
        go_wp2_with (at_builtin; refine app1 rfl _ _ rfl w.heap.size u5 _ _ _ rfl rfl (hown2.alloc _) (cell_new1 _ _ _) (by omega) (size_alloc_le hb2.size _) ?_; intro v3 w3 hown3 hgrow3)
        go_roundw
        case rel => exact ⟨k + 1, by go_num, by omega, by rw [HY.out]; exact hown3, (hb2.alloc hb2.size _).grown hgrow3 (by have := hb2.size; simp; omega) hown2.row⟩
        case measure => simp [intOf]; omega
      · have HQ := Lib.hid hq; have HY := Lib.hid (placesS_succ_no hq); clear hq
        go_wp2_with fail
        refine (slices_eqb a1 (some ⟨b2, o2 + k, none⟩) m m c1 (c2 - k) p ((s.drop k).take m) false (by have := HQ.out; unfold standsB at this; rw [HM.out] at this; simpa using this) wr (h1.below hbel) (((h2.below hbel).drop k).take m) HM.out (by simp; have := HN.out; omega) (by omega)).mono ?_
        rintro e w2 ⟨rfl, hq2⟩
        have hq3 := belowOf hq2
        have hown2 : Own 3 w.heap.size w2 u5 (placesS p s k) := hown.kept hq3
        have hb2 := below_then hbel hbel.size hq3
        clear hq2 hq3
        go_wp2
        go_roundw
        case rel => exact ⟨k + 1, by go_num, by omega, by rw [HY.out]; exact hown2, hb2⟩
        case measure => simp [intOf]; omega
    · have hke : k = n + 1 - m := by omega
      have HK := Lib.hid hke; clear hke
      have i0 : ¬ (k : Int) + m ≤ n := by omega
      go_wp2
      go_ret
      exact ⟨_, rfl, by rw [← HK.out]; exact hown, hbel⟩

set_option maxRecDepth 100000 in
theorem ref_places0 (a1 a2 : Option Addr) (c1 n c2 : Nat) (s : List Int) (w : World) (hn : s.length = n) (hn2 : n ≤ 4096) (hc : n ≤ c2) (hc2 : c2 ≤ 9223372036854775807) :
    Calls Try.prog 261 #[.slice a1 0 c1, .slice a2 n c2] w (PlacesPost [] s (n + 1) w) := by
  have HN := Lib.hid hn; clear hn
  go_enter Try.func261, Try.ntmps261
  go_wp2
  go_loopw [6, 5] (fun i v wr => ∃ k : Nat, i = .int .i64 (k : Int) ∧ k ≤ n + 1 ∧ Own 3 w.heap.size wr v (placesS [] s k) ∧ Below w.heap.size w wr) (fun i _ _ => n + 1 - (intOf i).toNat)
  case atStart => exact ⟨0, rfl, by omega, Own.nil _ _ _, Below.refl _ _⟩
  case round =>
    obtain ⟨k, rfl, hk, hown, hbel⟩ := hrel
    have hpl := placesS_length [] s k
    by_cases hlt : k ≤ n
    · have i0 : (k : Int) ≤ n := by omega
      have i1 : (k : Int) ≤ c2 := by omega
      have hq : standsB [] s k = true := by simp [standsB]
      have HY := Lib.hid (placesS_succ_yes hq); clear hq
      by_cases hck : k = c2
      · subst hck
        go_wp2_with fail
        all_goals
          refine (slices_eqb a1 _ 0 _ c1 _ [] [] true (by simp) wr (.inl rfl) (.inl rfl) rfl (by simp) (by omega)).mono ?_
          rintro e w2 ⟨rfl, hq2⟩
          have hq3 := belowOf hq2
          have hown2 : Own 3 w.heap.size w2 u5 (placesS [] s k) := hown.kept hq3
          have hb2 := below_then hbel hbel.size hq3
          clear hq2 hq3
          go_wp2_with (at_builtin; refine app1 rfl _ _ rfl w.heap.size u5 _ _ _ rfl rfl (hown2.alloc _) (cell_new1 _ _ _) (by omega) (size_alloc_le hb2.size _) ?_; intro v3 w3 hown3 hgrow3)
          go_roundw
          case rel => exact ⟨k + 1, by go_num, by omega, by rw [HY.out]; exact hown3, (hb2.alloc hb2.size _).grown hgrow3 (by have := hb2.size; simp; omega) hown2.row⟩
          case measure => simp [intOf]; omega
      · have i2 : ¬ c2 = k := fun e => hck e.symm
        clear hck
        go_wp2_with fail
        all_goals
          refine (slices_eqb a1 _ 0 _ c1 _ [] [] true (by simp) wr (.inl rfl) (.inl rfl) rfl (by simp) (by omega)).mono ?_
          rintro e w2 ⟨rfl, hq2⟩
          have hq3 := belowOf hq2
          have hown2 : Own 3 w.heap.size w2 u5 (placesS [] s k) := hown.kept hq3
          have hb2 := below_then hbel hbel.size hq3
          clear hq2 hq3
          go_wp2_with (at_builtin; refine app1 rfl _ _ rfl w.heap.size u5 _ _ _ rfl rfl (hown2.alloc _) (cell_new1 _ _ _) (by omega) (size_alloc_le hb2.size _) ?_; intro v3 w3 hown3 hgrow3)
          go_roundw
          case rel => exact ⟨k + 1, by go_num, by omega, by rw [HY.out]; exact hown3, (hb2.alloc hb2.size _).grown hgrow3 (by have := hb2.size; simp; omega) hown2.row⟩
          case measure => simp [intOf]; omega
    · obtain rfl : k = n + 1 := by omega
      go_wp2
      go_ret
      exact ⟨_, rfl, hown, hbel⟩

theorem ref_places (a1 a2 : Option Addr) (m c1 n c2 : Nat) (p s : List Int) (w : World) (h1 : Ints w a1 p) (h2 : Ints w a2 s) (hm : p.length = m) (hn : s.length = n) (hm2 : m ≤ 4096) (hn2 : n ≤ 4096) (hc : n ≤ c2) (hc2 : c2 ≤ 9223372036854775807) :
    Calls Try.prog 261 #[.slice a1 m c1, .slice a2 n c2] w (PlacesPost p s (n + 1 - m) w) := by
  rcases Nat.eq_zero_or_pos m with rfl | h
  · obtain rfl : p = [] := List.eq_nil_of_length_eq_zero hm
    exact ref_places0 a1 a2 c1 n c2 s w hn hn2 hc hc2
  · exact ref_places1 a1 a2 m c1 n c2 p s w h1 h2 hm hn hm2 hn2 hc hc2 h

end Go.Proofs.Ytmipnikhgihcpaa
