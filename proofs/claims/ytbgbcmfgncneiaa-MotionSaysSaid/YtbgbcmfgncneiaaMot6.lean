/- Contracts of fairref.finds, times. -/
import Derived.Test.YtbgbcmfgncneiaaMotS
import Derived.Test.YtbgbcmfgncneiaaCat
import Derived.Test.YtbgbcmfgncneiaaSl
import Derived.Deep.RegionHeld3
import Derived.Deep.DeepCutAuto
import Derived.Deep.CutBlock
namespace Go.Proofs.Ytbgbcmfgncneiaa
open Go.RowKit
set_option linter.unusedVariables false
set_option linter.unusedSimpArgs false

theorem own_lit1 (w : World) (base : Nat) (x : Int) (hb : base ≤ w.heap.size) : Own 3 base (w.alloc (.cells #[.int .i64 x] 3)) (.slice (some ⟨w.heap.size, 0, none⟩) 1 1) [x] :=
  ⟨by simp, .inr ⟨w.heap.size, 1, #[.int .i64 x], rfl, hb, heap_alloc_new w _, by simp, by unfold maxLen; omega, by simp, by simp⟩⟩

def FindsPost (xs : List Int) (w : World) (e : Ending) (w' : World) : Prop := ∃ v, e = .returned v ∧ Own 3 w.heap.size w' v xs ∧ Below w.heap.size w w'

set_option maxRecDepth 100000 in
set_option maxHeartbeats 1000000 in
theorem ref_finds_left (a : Option Addr) (n c : Nat) (l : List Int) (k : Nat) (ch : Int) (w : World) (hl : Ints w a l) (hn : l.length = n) (hn2 : n ≤ 4096) (hk : k ≤ n) :
    Calls Try.prog 153 #[.slice a n c, .int .i64 (k : Int), .int .i64 ch, .bool true] w (FindsPost (placesL l k ch) w) := by
  have HN := Lib.hid hn
  clear hn
  go_enter Try.func153, Try.ntmps153
  go_wp2
  go_loopw [9, 14] (fun v i wr => ∃ t : Nat, i = .int .i64 (t : Int) ∧ t ≤ n ∧ Own 3 w.heap.size wr v (plD l ch (min t k)) ∧ Below w.heap.size w wr) (fun _ i _ => n - (intOf i).toNat)
  case atStart => exact ⟨0, rfl, by omega, by rw [show min 0 k = 0 by omega]; exact Own.nil _ _ _, Below.refl _ _⟩
  case round =>
    obtain ⟨t, rfl, ht, hown, hbel⟩ := hrel
    have hsz := hbel.size
    by_cases hlt : t < n
    · obtain ⟨b1, o1, rfl, hc⟩ := (hl.below hbel).at (k := t) (by rw [HN.out]; exact hlt)
      have e1 := hc t (by rw [HN.out]; exact hlt)
      clear hc
      by_cases hh : ix l t = ch
      · have hb : (ix l t == ch) = true := by simpa using hh
        by_cases htk : t < k
        · have HP := Lib.hid (show plD l ch (min (t + 1) k) = [(t : Int)] ++ plD l ch (min t k) by rw [show min (t + 1) k = t + 1 by omega, show min t k = t by omega, plD_hit hh]; rfl)
          have hL := own_lit1 wr wr.heap.size (t : Int) (Nat.le_refl _)
          obtain ⟨av, nv, cv, rfl⟩ := hown.form
          obtain ⟨g1, g2, g3, g4, g5⟩ := (hown.alloc (.cells #[.int .i64 (t : Int)] 3)).sl.get
          have hnv : nv ≤ 4096 := by have := plD_len l ch (min t k); omega
          have G1 := Lib.hid g1; have G5 := Lib.hid g5
          have hbel2 := hbel.alloc hsz (.cells #[.int .i64 (t : Int)] 3)
          clear hh g1 g5 hl
          go_wp2_with (at_builtin; refine appV rfl _ _ rfl wr.heap.size _ [(t : Int)] (plD l ch (min t k)) av nv cv rfl rfl hL g4 G1.out G5.out (by simp; omega) (by simp) ?_; intro v1 w1 hown1 hgrow1)
          go_roundw
          case rel => exact ⟨t + 1, by go_num, by omega, by rw [HP.out]; exact hown1.mono hsz, hbel2.grown hgrow1 (by simp; omega) (fun k hk => by have := hL.row k hk; omega)⟩
          case measure => simp [intOf]; omega
        · have HP := Lib.hid (show plD l ch (min (t + 1) k) = plD l ch (min t k) by rw [show min (t + 1) k = k by omega, show min t k = k by omega])
          clear hh
          go_wp2
          go_roundw
          case rel => exact ⟨t + 1, by go_num, by omega, by rw [HP.out]; exact hown, hbel⟩
          case measure => simp [intOf]; omega
      · have hb : (ix l t == ch) = false := by simpa using hh
        have HP := Lib.hid (show plD l ch (min (t + 1) k) = plD l ch (min t k) by
          by_cases htk : t < k
          · rw [show min (t + 1) k = t + 1 by omega, show min t k = t by omega, plD_miss hh]
          · rw [show min (t + 1) k = k by omega, show min t k = k by omega])
        clear hh
        go_wp2
        go_roundw
        case rel => exact ⟨t + 1, by go_num, by omega, by rw [HP.out]; exact hown, hbel⟩
        case measure => simp [intOf]; omega
    · obtain rfl : t = n := by omega
      rw [show min t k = k by omega] at hown
      go_wp2
      go_ret
      exact ⟨_, rfl, hown, hbel⟩

set_option maxRecDepth 100000 in
set_option maxHeartbeats 1000000 in
theorem ref_finds_right (a : Option Addr) (n c : Nat) (l : List Int) (k : Nat) (ch : Int) (w : World) (hl : Ints w a l) (hn : l.length = n) (hn2 : n ≤ 4096) (hk : k ≤ n) :
    Calls Try.prog 153 #[.slice a n c, .int .i64 (k : Int), .int .i64 ch, .bool false] w (FindsPost (placesR l k ch) w) := by
  have HR := Lib.hid (show [] ++ plU l ch (max 0 (k + 1)) (n - max 0 (k + 1)) = placesR l k ch by rw [placesR, hn, show max 0 (k + 1) = k + 1 by omega]; rfl)
  have HN := Lib.hid hn
  clear hn
  go_enter Try.func153, Try.ntmps153
  go_wp2
  go_loopw [9, 14] (fun v i wr => ∃ (t : Nat) (xs : List Int), i = .int .i64 (t : Int) ∧ t ≤ n ∧ xs.length ≤ t ∧ xs ++ plU l ch (max t (k + 1)) (n - max t (k + 1)) = placesR l k ch ∧ Own 3 w.heap.size wr v xs ∧ Below w.heap.size w wr) (fun _ i _ => n - (intOf i).toNat)
  case atStart => exact ⟨0, [], rfl, by omega, by simp, HR.out, Own.nil _ _ _, Below.refl _ _⟩
  case round =>
    obtain ⟨t, xs, rfl, ht, hxl, hxs, hown, hbel⟩ := hrel
    have hsz := hbel.size
    have hxl2 : xs.length < 17592186044416 := by omega
    have HX := Lib.hid hxs
    clear hxs
    by_cases hlt : t < n
    · obtain ⟨b1, o1, rfl, hc⟩ := (hl.below hbel).at (k := t) (by rw [HN.out]; exact hlt)
      have e1 := hc t (by rw [HN.out]; exact hlt)
      clear hc
      by_cases hh : ix l t = ch
      · have hb : (ix l t == ch) = true := by simpa using hh
        by_cases htk : k < t
        · have HP := Lib.hid (show (xs ++ [(t : Int)]) ++ plU l ch (max (t + 1) (k + 1)) (n - max (t + 1) (k + 1)) = placesR l k ch by
            rw [← HX.out, show max (t + 1) (k + 1) = t + 1 by omega, show max t (k + 1) = t by omega, show n - t = (n - (t + 1)) + 1 by omega, plU_hit hh]; simp)
          clear hh hl
          go_wp2_with (at_builtin; refine app1 rfl _ _ rfl w.heap.size _ xs (t : Int) _ rfl rfl (hown.alloc _) (cell_new1 _ _ _) hxl2 (size_alloc_le hsz _) ?_; intro v1 w1 hown1 hgrow1)
          go_roundw
          case rel => exact ⟨t + 1, _, by go_num, by omega, by simp; omega, HP.out, hown1, (hbel.alloc hsz _).grown hgrow1 (by simp; omega) (fun k hk => by have := hown.row k hk; omega)⟩
          case measure => simp [intOf]; omega
        · have HP := Lib.hid (show xs ++ plU l ch (max (t + 1) (k + 1)) (n - max (t + 1) (k + 1)) = placesR l k ch by
            rw [← HX.out, show max (t + 1) (k + 1) = k + 1 by omega, show max t (k + 1) = k + 1 by omega])
          clear hh
          go_wp2
          go_roundw
          case rel => exact ⟨t + 1, _, by go_num, by omega, by omega, HP.out, hown, hbel⟩
          case measure => simp [intOf]; omega
      · have hb : (ix l t == ch) = false := by simpa using hh
        have HP := Lib.hid (show xs ++ plU l ch (max (t + 1) (k + 1)) (n - max (t + 1) (k + 1)) = placesR l k ch by
          rw [← HX.out]
          by_cases htk : k < t
          · rw [show max (t + 1) (k + 1) = t + 1 by omega, show max t (k + 1) = t by omega, show n - t = (n - (t + 1)) + 1 by omega, plU_miss hh]
          · rw [show max (t + 1) (k + 1) = k + 1 by omega, show max t (k + 1) = k + 1 by omega])
        clear hh
        go_wp2
        go_roundw
        case rel => exact ⟨t + 1, _, by go_num, by omega, by omega, HP.out, hown, hbel⟩
        case measure => simp [intOf]; omega
    · obtain rfl : t = n := by omega
      have HP := Lib.hid (show xs = placesR l k ch by
        rw [← HX.out, show t - max t (k + 1) = 0 by omega]; simp [plU])
      go_wp2
      go_ret
      exact ⟨_, rfl, by rw [← HP.out]; exact hown, hbel⟩

end Go.Proofs.Ytbgbcmfgncneiaa
