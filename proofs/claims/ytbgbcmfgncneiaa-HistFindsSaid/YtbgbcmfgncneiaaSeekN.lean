/- Contracts of seek.All and seek.Next. -/
import Derived.Test.YtbgbcmfgncneiaaSeek4
namespace Go.Proofs.Ytbgbcmfgncneiaa
open Go.RowKit
set_option linter.unusedVariables false
set_option linter.unusedSimpArgs false

theorem seek_all (a1 a2 : Option Addr) (m c1 n c2 : Nat) (p s : List Int) (w : World) (h1 : Ints w a1 p) (h2 : Ints w a2 s) (hm : p.length = m) (hn : s.length = n) (hm2 : m ≤ 4096) (hn2 : n ≤ 4096) :
    Calls Try.prog 184 #[.slice a1 m c1, .slice a2 n c2] w (AllPost p s (n + 1 - m) w) := by
  rcases Nat.eq_zero_or_pos m with rfl | h0
  · obtain rfl := List.eq_nil_of_length_eq_zero hm
    exact seek_all0 a1 a2 c1 n c2 s w hn hn2
  · exact seek_all1 a1 a2 m c1 n c2 p s w h1 h2 hm hn hm2 hn2 h0

def NextP (l : List Int) (f a g : Int) : Prop :=
  (∃ k, k < l.length ∧ (∀ i, i < k → ix l i < f) ∧ f ≤ ix l k ∧ a = ix l k ∧ g = 0) ∨ ((∀ i, i < l.length → ix l i < f) ∧ a = 0 ∧ g = 6)
def LastP (l : List Int) (f a g : Int) : Prop :=
  (∃ k, k < l.length ∧ (∀ i, k < i → i < l.length → f ≤ ix l i) ∧ ix l k < f ∧ a = ix l k ∧ g = 0) ∨ ((∀ i, i < l.length → f ≤ ix l i) ∧ a = 0 ∧ g = 6)
def PairPost (P : Int → Int → Prop) (w : World) (e : Ending) (w' : World) : Prop :=
  ∃ a g, e = .returned (.tuple #[.int .i64 a, .int .i64 g]) ∧ P a g ∧ Below w.heap.size w w'

set_option maxRecDepth 100000 in
theorem seek_next_bad (a1 a2 : Option Addr) (m c1 n c2 : Nat) (p s : List Int) (f : Int) (w : World) (h1 : Ints w a1 p) (hm : p.length = m) (hm3 : m ≤ 9223372036854775807) (hn3 : n ≤ 9223372036854775807) (hbad : 4096 < m ∨ 4096 < n) :
    Calls Try.prog 168 #[.slice a1 m c1, .slice a2 n c2, .int .i64 f] w (ErrPost (.int .i64 0) w) := by
  have HM := Lib.hid hm; clear hm
  go_enter Try.func168, Try.ntmps168
  go_wp2_with fail
  refine (seek_all_bad a1 a2 m c1 n c2 p [] w h1 HM.out hm3 hn3 hbad).mono ?_
  rintro e w' ⟨rfl, hbel⟩
  go_wp2
  go_ret2
  exact ⟨rfl, hbel⟩

set_option maxRecDepth 100000 in
theorem seek_next (a1 a2 : Option Addr) (m c1 n c2 : Nat) (p s : List Int) (f : Int) (w : World) (h1 : Ints w a1 p) (h2 : Ints w a2 s) (hm : p.length = m) (hn : s.length = n) (hm2 : m ≤ 4096) (hn2 : n ≤ 4096) :
    Calls Try.prog 168 #[.slice a1 m c1, .slice a2 n c2, .int .i64 f] w (PairPost (NextP (placesS p s (n + 1 - m)) f) w) := by
  have HM := Lib.hid hm; have HN := Lib.hid hn; clear hm hn
  go_enter Try.func168, Try.ntmps168
  go_wp2_with fail
  refine (seek_all a1 a2 m c1 n c2 p s w h1 h2 HM.out HN.out hm2 hn2).mono ?_
  rintro e w1 ⟨v, rfl, hown, hbel1⟩
  have hpl := placesS_length p s (n + 1 - m)
  generalize placesS p s (n + 1 - m) = l at *
  obtain ⟨b, t, c, rfl⟩ := hown.form
  obtain ⟨hl, hI, hc⟩ := hown.get
  have HL := Lib.hid hl
  have hlt4 : t ≤ 4097 := by omega
  clear hown hl hpl h1 h2
  go_wp2
  go_loopw [23] (fun i wr => ∃ k : Nat, i = .int .i64 (k : Int) ∧ k ≤ t ∧ (∀ i, i < k → ix l i < f) ∧ wr = w1) (fun i _ => t - (intOf i).toNat)
  case atStart => exact ⟨0, rfl, by omega, fun i hi => by omega, rfl⟩
  case round =>
    obtain ⟨k, rfl, hk, hall, rfl⟩ := hrel
    have HA := Lib.hid hall; clear hall
    by_cases hlt : k < t
    · obtain ⟨b1, o1, rfl, hc1⟩ := hI.at (k := k) (by rw [HL.out]; exact hlt)
      have ck := hc1 k (by rw [HL.out]; exact hlt)
      clear hc1
      by_cases hf : f ≤ ix l k
      · go_wp2
        go_ret2
        exact ⟨_, _, rfl, .inl ⟨k, by rw [HL.out]; exact hlt, HA.out, hf, rfl, rfl⟩, hbel1⟩
      · go_wp2
        go_roundw
        case rel => exact ⟨k + 1, by go_num, by omega, fun i hi => by
          rcases Nat.lt_succ_iff_lt_or_eq.1 hi with h | rfl
          · exact HA.out i h
          · omega, trivial⟩
        case measure => simp [intOf]; omega
    · have hkt : k = t := by omega
      have HK := Lib.hid hkt; clear hkt
      go_wp2
      go_ret2
      exact ⟨_, _, rfl, .inr ⟨fun i hi => HA.out i (by rw [HL.out] at hi; have := HK.out; omega), rfl, rfl⟩, hbel1⟩

end Go.Proofs.Ytbgbcmfgncneiaa
