/- Contract of seek.All. -/
import Derived.Test.YtbgbcmfgncneiaaSeek2
namespace Go.Proofs.Ytbgbcmfgncneiaa
open Go.RowKit
set_option linter.unusedVariables false
set_option linter.unusedSimpArgs false

theorem seek_borders_bad (a : Option Addr) (n c : Nat) (w : World) (h2 : 4096 < n) (h3 : n ≤ 9223372036854775807) :
    Calls Try.prog 193 #[.slice a n c] w fun e w' => e = .returned (.tuple #[.slice none 0 0, .int .i64 2]) ∧ w = w' := by
  go_enter Try.func193, Try.ntmps193
  go_wp2
  go_ret2
  exact ⟨rfl, rfl⟩

theorem places_yes {p s : List Int} {m j : Nat} (hm : p.length = m) (hj : j + 1 ≤ s.length) (hT : Suf p s (j + 1) m) :
    placesS p s (j + 1 + 1 - m) = placesS p s (j + 1 - m) ++ [((j + 1 - m : Nat) : Int)] := by
  have h1 := hT.1
  rw [show j + 1 + 1 - m = (j + 1 - m) + 1 from by omega]
  apply placesS_succ_yes
  rw [stands_suf (by omega), hm, show j + 1 - m + m = j + 1 from by omega]
  exact hT
theorem places_no {p s : List Int} {m j : Nat} (hm : p.length = m) (h0 : 0 < m) (hj : j + 1 ≤ s.length) (hT : ¬ Suf p s (j + 1) m) :
    placesS p s (j + 1 + 1 - m) = placesS p s (j + 1 - m) := by
  by_cases h1 : m ≤ j + 1
  · rw [show j + 1 + 1 - m = (j + 1 - m) + 1 from by omega]
    apply placesS_succ_no
    rw [stands_suf (by omega), hm, show j + 1 - m + m = j + 1 from by omega]
    exact hT
  · rw [show j + 1 + 1 - m = j + 1 - m from by omega]
theorem places_all (s : List Int) (k : Nat) : placesS [] s (k + 1) = placesS [] s k ++ [(k : Int)] := placesS_succ_yes (by simp [standsB])

def AllPost (p s : List Int) (n : Nat) (w : World) (e : Ending) (w' : World) : Prop :=
  ∃ v, e = .returned (.tuple #[v, .int .i64 0]) ∧ Own 3 w.heap.size w' v (placesS p s n) ∧ Below w.heap.size w w'
def ErrPost (v : Value) (w : World) (e : Ending) (w' : World) : Prop := e = .returned (.tuple #[v, .int .i64 2]) ∧ Below w.heap.size w w'

set_option maxRecDepth 100000 in
theorem seek_all_bad (a1 a2 : Option Addr) (m c1 n c2 : Nat) (p s : List Int) (w : World) (h1 : Ints w a1 p) (hm : p.length = m) (hm3 : m ≤ 9223372036854775807) (hn3 : n ≤ 9223372036854775807) (hbad : 4096 < m ∨ 4096 < n) :
    Calls Try.prog 184 #[.slice a1 m c1, .slice a2 n c2] w (ErrPost (.slice none 0 0) w) := by
  have HM := Lib.hid hm; clear hm
  by_cases hbig : 4096 < m
  · go_enter Try.func184, Try.ntmps184
    go_wp2_with fail
    refine (seek_borders_bad a1 m c1 w hbig hm3).mono ?_
    rintro e w' ⟨rfl, rfl⟩
    go_wp2
    go_ret2
    exact ⟨rfl, Below.refl _ _⟩
  · have hn4 : 4096 < n := by omega
    go_enter Try.func184, Try.ntmps184
    go_wp2_with fail
    refine (seek_borders a1 m c1 p w h1 HM.out (by omega)).mono ?_
    rintro e w' ⟨g, cb, out, rfl, hI, hlen, hbo, hbel⟩
    clear hI hlen hbo
    go_wp2
    go_ret2
    exact ⟨rfl, hbel⟩

set_option maxRecDepth 100000 in
theorem seek_all0 (a1 a2 : Option Addr) (c1 n c2 : Nat) (s : List Int) (w : World) (hn : s.length = n) (hn2 : n ≤ 4096) :
    Calls Try.prog 184 #[.slice a1 0 c1, .slice a2 n c2] w (AllPost [] s (n + 1) w) := by
  have HN := Lib.hid hn; clear hn
  go_enter Try.func184, Try.ntmps184
  go_wp2_with fail
  refine (seek_borders a1 0 c1 [] w (Ints.nil _ _) rfl (by omega)).mono ?_
  rintro e w1 ⟨g, cb, out, rfl, hI, hlen, hbo, hbel1⟩
  clear hI hlen hbo
  go_wp2
  go_loopw [30, 8] (fun i v wr => ∃ k : Nat, i = .int .i64 (k : Int) ∧ k ≤ n + 1 ∧ Own 3 w.heap.size wr v (placesS [] s k) ∧ Below w.heap.size w wr) (fun i _ _ => n + 1 - (intOf i).toNat)
  case atStart => exact ⟨0, rfl, by omega, Own.nil _ _ _, hbel1⟩
  case round =>
    obtain ⟨k, rfl, hk, hown, hbel⟩ := hrel
    have hpl := placesS_length [] s k
    by_cases hlt : k < n + 1
    · have HY := Lib.hid (places_all s k)
      have hsz := hbel.size
      go_wp2_with (at_builtin; refine app1 rfl _ _ rfl w.heap.size u8 _ _ _ rfl rfl (hown.alloc _) (cell_new1 _ _ _) (by omega) (size_alloc_le hbel.size _) ?_; intro v3 w3 hown3 hgrow3)
      go_roundw
      case rel => exact ⟨k + 1, by go_num, by omega, by rw [HY.out]; exact hown3, (hbel.alloc hbel.size _).grown hgrow3 (by have := hbel.size; simp; omega) hown.row⟩
      case measure => simp [intOf]; omega
    · have hke : k = n + 1 := by omega
      have HK := Lib.hid hke; clear hke
      go_wp2
      go_ret2
      exact ⟨_, rfl, by rw [← HK.out]; exact hown, hbel⟩

end Go.Proofs.Ytbgbcmfgncneiaa
