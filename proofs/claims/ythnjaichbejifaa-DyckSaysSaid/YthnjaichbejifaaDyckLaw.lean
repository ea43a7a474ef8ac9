/- The walk of DyckSays. -/
import Derived.Test.YthnjaichbejifaaDyckW
namespace Go.Proofs.Ythnjaichbejifaa
open Go.RowKit
set_option linter.unusedVariables false
set_option linter.unusedSimpArgs false

theorem ref_partner (a : Option Addr) (n c : Nat) (l : List Int) (k : Nat) (w : World) (ha : Ints w a l) (hn : l.length = n) (h2 : n ≤ 4096) (hk : k < n) :
    Calls Try.prog 44 #[.slice a n c, .int .i64 (k : Int)] w (PartPost (PartnerP l n k) w) := by
  by_cases h0 : openS (ix l k) = 0
  · refine (ref_partner_none a n c l k w ha hn h2 hk h0).mono ?_
    rintro e w' ⟨r, h1, h3, h4⟩
    exact ⟨r, h1, by unfold PartnerP; rw [if_pos h0]; exact h3, h4⟩
  · have hne : closeS (ix l k) ≠ openS (ix l k) := by
      rcases sevenWays (ix l k) with h | h | h | h | h | h | ⟨h1, h2, h3, h4, h5, h6⟩
      case inr.inr.inr.inr.inr.inr => exact absurd (by simp [openS, h1, h2, h3, h4, h5, h6]) h0
      all_goals rw [h]; decide
    by_cases h1 : ix l k = closeS (ix l k)
    · refine (ref_partner_down a n c l k w ha hn h2 hk _ _ rfl rfl h0 h1 hne).mono ?_
      rintro e w' ⟨r, h5, h3, h4⟩
      exact ⟨r, h5, by unfold PartnerP; rw [if_neg h0, if_pos h1]; exact h3, h4⟩
    · refine (ref_partner_up a n c l k w ha hn h2 hk _ _ rfl rfl h0 h1 hne.symm).mono ?_
      rintro e w' ⟨r, h5, h3, h4⟩
      exact ⟨r, h5, by unfold PartnerP; rw [if_neg h0, if_neg h1]; exact h3, h4⟩

def opK (k : Nat) : Int := if k = 0 then 40 else if k = 1 then 91 else 123
def shK (k : Nat) : Int := if k = 0 then 41 else if k = 1 then 93 else 125
def wantK (c : Int) : Nat → Int × Bool
  | 0 => (0, false)
  | k + 1 => if c = shK k then (opK k, true) else if c = opK k then (shK k, (wantK c k).2) else wantK c k
theorem wantK_all (c : Int) : wantK c 3 = (otherS c, shutS c) := by
  rcases sevenWays c with rfl | rfl | rfl | rfl | rfl | rfl | ⟨h1, h2, h3, h4, h5, h6⟩
  case inr.inr.inr.inr.inr.inr => simp [wantK, opK, shK, otherS, shutS, h1, h2, h3, h4, h5, h6]
  all_goals decide

set_option maxRecDepth 100000 in
set_option maxHeartbeats 2000000 in
theorem dyckSays_walk (c : Int) (a : Option Addr) (n cp : Nat) (l : List Int) (w : World) (ha : Ints w a l) (hn : l.length = n) (h3 : n ≤ 9223372036854775807) :
    Calls Try.prog 8 #[.int .i64 c, .slice a n cp] w fun e w' => e = .returned (.bool true) ∧ Below w.heap.size w w' := by
  have HN := Lib.hid hn; clear hn
  go_enter Try.func8, Try.ntmps8
  go_wp2_with fail
  refine (dyck_kind c w).mono ?_
  rintro e w' ⟨rfl, rfl⟩
  go_wp2
  go_loopw [23, 7, 8] (fun i x y wr => ∃ k : Nat, i = .int .i64 (k : Int) ∧ x = .int .i64 (wantK c k).1 ∧ y = .bool (wantK c k).2 ∧ k ≤ 3 ∧ Blk wr w.heap.size pairCells 9 ∧ Below w.heap.size w wr) (fun i _ _ _ => 3 - (intOf i).toNat)
  case atStart => exact ⟨0, rfl, rfl, rfl, by omega, Blk.new _ _ _, below1 _ _⟩
  case round =>
    obtain ⟨k, rfl, rfl, rfl, hk, hB, hbel⟩ := hrel
    obtain ⟨c0, c1, c2, -⟩ := hB.three
    have e00 : wrap64 ((({ data := #[40, 41] } : ByteArray)[0]'(by decide)).toNat : Int) = 40 := by decide +kernel
    have e01 : wrap64 ((({ data := #[40, 41] } : ByteArray)[1]'(by decide)).toNat : Int) = 41 := by decide +kernel
    have e10 : wrap64 ((({ data := #[91, 93] } : ByteArray)[0]'(by decide)).toNat : Int) = 91 := by decide +kernel
    have e11 : wrap64 ((({ data := #[91, 93] } : ByteArray)[1]'(by decide)).toNat : Int) = 93 := by decide +kernel
    have e20 : wrap64 ((({ data := #[123, 125] } : ByteArray)[0]'(by decide)).toNat : Int) = 123 := by decide +kernel
    have e21 : wrap64 ((({ data := #[123, 125] } : ByteArray)[1]'(by decide)).toNat : Int) = 125 := by decide +kernel
    obtain rfl | rfl | rfl | rfl : k = 0 ∨ k = 1 ∨ k = 2 ∨ k = 3 := by omega
    · by_cases h0 : c = 40
      · subst h0
        go_wp2
        go_roundw
        case rel => exact ⟨1, by go_num, by first | exact congrArg _ e01 | rfl, rfl, by omega, hB, hbel⟩
        case measure => simp [intOf]
      · by_cases h1 : c = 41
        · subst h1
          go_wp2
          go_roundw
          case rel => exact ⟨1, by go_num, by first | exact congrArg _ e00 | rfl, rfl, by omega, hB, hbel⟩
          case measure => simp [intOf]
        · have g0 : (c == 40) = false := by simpa using h0
          have g1 : (c == 41) = false := by simpa using h1
          have HW := Lib.hid (show wantK c 1 = wantK c 0 by simp [wantK, shK, opK, h0, h1])
          go_wp2
          go_roundw
          case rel => exact ⟨1, by go_num, by rw [HW.out], by rw [HW.out], by omega, hB, hbel⟩
          case measure => simp [intOf]
    · by_cases h0 : c = 91
      · subst h0
        go_wp2
        go_roundw
        case rel => exact ⟨2, by go_num, by first | exact congrArg _ e11 | rfl, rfl, by omega, hB, hbel⟩
        case measure => simp [intOf]
      · by_cases h1 : c = 93
        · subst h1
          go_wp2
          go_roundw
          case rel => exact ⟨2, by go_num, by first | exact congrArg _ e10 | rfl, rfl, by omega, hB, hbel⟩
          case measure => simp [intOf]
        · have g0 : (c == 91) = false := by simpa using h0
          have g1 : (c == 93) = false := by simpa using h1
          have HW := Lib.hid (show wantK c 2 = wantK c 1 by rw [wantK]; simp [shK, opK, h0, h1])
          go_wp2
          go_roundw
          case rel => exact ⟨2, by go_num, by rw [HW.out], by rw [HW.out], by omega, hB, hbel⟩
          case measure => simp [intOf]
    · by_cases h0 : c = 123
      · subst h0
        go_wp2
        go_roundw
        case rel => exact ⟨3, by go_num, by first | exact congrArg _ e21 | rfl, rfl, by omega, hB, hbel⟩
        case measure => simp [intOf]
      · by_cases h1 : c = 125
        · subst h1
          go_wp2
          go_roundw
          case rel => exact ⟨3, by go_num, by first | exact congrArg _ e20 | rfl, rfl, by omega, hB, hbel⟩
          case measure => simp [intOf]
        · have g0 : (c == 123) = false := by simpa using h0
          have g1 : (c == 125) = false := by simpa using h1
          have HW := Lib.hid (show wantK c 3 = wantK c 2 by rw [wantK]; simp [shK, opK, h0, h1])
          go_wp2
          go_roundw
          case rel => exact ⟨3, by go_num, by rw [HW.out], by rw [HW.out], by omega, hB, hbel⟩
          case measure => simp [intOf]
    · clear c0 c1 c2 e00 e01 e10 e11 e20 e21 hB
      rw [wantK_all]
      have haw := ha.below hbel
      by_cases hbig : 4096 < n
      · go_wp2_with fail
        refine (dyck_pairs_bad a n cp wr hbig h3).mono ?_
        rintro e w' ⟨rfl, rfl⟩
        go_wp2_with fail
        refine (dyck_right_bad a n cp wr hbig h3).mono ?_
        rintro e w' ⟨rfl, rfl⟩
        go_wp2
        go_ret
        exact ⟨rfl, hbel⟩
      · go_wp2_with fail
        refine (dyck_pairs a n cp l wr haw HN.out (by omega)).mono ?_
        rintro e w1 ⟨g, rfl, hI, hb1⟩
        have hbel := below_then hbel hbel.size hb1
        have haw := haw.below hb1
        clear hb1
        go_wp2_with fail
        refine (dyck_right a n cp l w1 haw HN.out (by omega)).mono ?_
        rintro e w2 ⟨rfl, hb2⟩
        have hbel := below_then hbel hbel.size hb2
        have haw := haw.below hb2
        have hI := hI.below hb2
        clear hb2
        go_wp2
        go_loopw [93] (fun i wx => ∃ k : Nat, i = .int .i64 (k : Int) ∧ k ≤ n ∧ Below w2.heap.size w2 wx) (fun i _ => n - (intOf i).toNat)
        case atStart => exact ⟨0, rfl, by omega, Below.refl _ _⟩
        case round =>
          obtain ⟨k, rfl, hk, hbx⟩ := hrel
          have hax := haw.below hbx
          by_cases hlt : k < n
          · obtain ⟨y, hy⟩ : ∃ y, ix (pRun l n n).out k = y := ⟨_, rfl⟩
            have HP := Lib.hid (show PartnerP l n k y by rw [← hy]; exact pairs_partner l n k hlt)
            have co : wr.cell? ⟨g, k, none⟩ = some (.int .i64 y) := by
              have h := hI.below hbx
              obtain ⟨b4, o4, hb4, hc4⟩ := h.at (k := k) (by rw [pRun_len]; exact hlt)
              simp only [Option.some.injEq, Addr.mk.injEq] at hb4
              obtain ⟨rfl, rfl, -⟩ := hb4
              have := hc4 k (by rw [pRun_len]; exact hlt)
              rw [Nat.zero_add, hy] at this
              exact this
            have i1 : (k : Int) < (n : Int) := by omega
            clear hy
            go_wp2
            go_region_held3 (fun w' => w'.cell? ⟨g, k, none⟩ = some (.int .i64 y) ∧ Below wr.heap.size wr w') (first | exact ⟨co, (Below.refl _ _).drew⟩ | assumption | exact ⟨below_keeps ‹_› _ _ (And.left ‹_›), below_then (And.right ‹_›) (Below.size (And.right ‹_›)) ‹_›⟩)
              (first | (go_at_call 44; refine (ref_partner a n cp l k _ (hax.below (And.right ‹_›)) HN.out (by omega) hlt).mono ?_; rintro e w8 ⟨r, rfl, hr, hbel8⟩; obtain rfl := hr.one HP.out))
            all_goals
              have hS8 : Below wr.heap.size wr w8 := by
                first
                | exact below_then ((Below.refl _ _).drew) (Nat.le_refl _) hbel8
                | exact below_then (And.right (by assumption : wr.drew.cell? ⟨g, k, none⟩ = some (.int .i64 y) ∧ Below wr.heap.size wr wr.drew)) (Nat.le_refl _) hbel8
                | (rename_i hh; exact below_then (And.right hh) (Below.size (And.right hh)) hbel8)
              go_wp2
              go_roundw
              case rel => exact ⟨k + 1, by go_num, by omega, below_then hbx hbx.size hS8⟩
              case measure => simp [intOf]; omega
          · go_wp2_with fail
            refine (ref_right a n cp l wr hax HN.out (by omega)).mono ?_
            rintro e w9 ⟨rfl, hb9⟩
            go_wp2
            go_ret
            exact ⟨ret1_bool (by simp), below_then hbel hbel.size (below_then hbx hbx.size hb9)⟩

end Go.Proofs.Ythnjaichbejifaa
