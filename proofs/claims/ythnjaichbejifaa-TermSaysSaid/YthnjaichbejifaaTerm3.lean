/- Contracts of term.one, term.Show. -/
import Derived.Test.YthnjaichbejifaaTerm2
namespace Go.Proofs.Ythnjaichbejifaa
open Go.RowKit
set_option linter.unusedVariables false
set_option linter.unusedSimpArgs false

def eraseS (xs : List Int) (p j : Nat) : List Int := xs.take p ++ (List.replicate (j - p) 32 ++ xs.drop j)
theorem eraseS_len (xs : List Int) (p j : Nat) (h1 : p ≤ j) (h2 : j ≤ xs.length) : (eraseS xs p j).length = xs.length := by simp [eraseS]; omega
theorem eraseS_ix (xs : List Int) (p j i : Nat) (h1 : p ≤ j) (h2 : j ≤ xs.length) : ix (eraseS xs p j) i = if i < p then ix xs i else if i < j then 32 else ix xs i := by
  have hp : (xs.take p).length = p := by simp; omega
  have hr : (List.replicate (j - p) (32 : Int)).length = j - p := by simp
  by_cases e1 : i < p
  · rw [if_pos e1]; unfold eraseS; rw [ix_append_left (by omega)]; simp [ix, e1]
  · rw [if_neg e1]
    obtain ⟨k, rfl⟩ : ∃ k, i = p + k := ⟨i - p, by omega⟩
    unfold eraseS
    have hpk : p + k = (xs.take p).length + k := by rw [hp]
    rw [hpk, ix_append_right]
    by_cases e2 : (xs.take p).length + k < j
    · rw [if_pos e2, ix_append_left (by omega), ix_eq (by omega)]; simp
    · rw [if_neg e2]
      obtain ⟨m, rfl⟩ : ∃ m, k = (List.replicate (j - p) (32 : Int)).length + m := ⟨k - (j - p), by rw [hr]; omega⟩
      rw [ix_append_right, hr, hp]
      simp only [ix, List.getD_eq_getElem?_getD, List.getElem?_drop]
      rw [show p + (j - p + m) = j + m from by omega]
theorem eraseS_zero (xs : List Int) (p : Nat) (h : p ≤ xs.length) : eraseS xs p p = xs := by simp [eraseS]
theorem eraseS_step (xs : List Int) (p j : Nat) (h1 : p ≤ j) (h2 : j < xs.length) : (eraseS xs p j).set j 32 = eraseS xs p (j + 1) := by
  have hl := eraseS_len xs p j h1 (by omega)
  refine ix_ext (by rw [List.length_set, hl, eraseS_len _ _ _ (by omega) (by omega)]) fun i hi => ?_
  rw [eraseS_ix _ _ _ _ (by omega) (by omega)]
  by_cases e : i = j
  · subst e; rw [ixSetEq (by rw [hl]; exact h2), if_neg (by omega), if_pos (by omega)]
  · rw [ixSetNe (fun h => e h.symm), eraseS_ix _ _ _ _ h1 (by omega)]
    by_cases e1 : i < p
    · rw [if_pos e1, if_pos e1]
    · rw [if_neg e1, if_neg e1]
      by_cases e2 : i < j
      · rw [if_pos e2, if_pos (by omega)]
      · rw [if_neg e2, if_neg (by omega)]
theorem eraseS_all (xs : List Int) (p : Nat) : eraseS xs p xs.length = xs.take p ++ List.replicate (xs.length - p) 32 := by simp [eraseS]

def OnePost (base B g n c : Nat) (s : List Int × Nat) (w : World) (e : Ending) (w' : World) : Prop :=
  e = .returned (.tuple #[]) ∧ Blk w' B #[.slice (some ⟨g, 0, none⟩) n c, .int .i64 (s.2 : Int)] 46 ∧ RowB base w' g n c s.1 ∧ Below base w w'

set_option maxRecDepth 100000 in
set_option maxHeartbeats 1000000 in
theorem term_one (base B g n c p : Nat) (c0 : Int) (xs : List Int) (w : World) (hB : Blk w B #[.slice (some ⟨g, 0, none⟩) n c, .int .i64 (p : Int)] 46) (hR : RowB base w g n c xs) (hbB : base ≤ B) (hne : g ≠ B) (hp : p ≤ n) (hn : n ≤ 120) :
    Calls Try.prog 110 #[.pointer (some ⟨B, 0, none⟩), .int .i64 c0] w (OnePost base B g n c (termStep c0 (xs, p)) w) := by
  obtain ⟨c1, c2, f1, f2⟩ := hB.two
  have hbg := hR.lo
  have hl := hR.len
  have hbel : ∀ u, Below base w (w.setCell ⟨B, 1, none⟩ u) := fun u => (Below.refl _ _).setCell (p := ⟨B, 1, none⟩) hbB u
  by_cases e8 : c0 = 8
  · subst e8
    have HS := Lib.hid (show termStep 8 (xs, p) = (xs, p - 1) from rfl)
    clear hl
    by_cases h0 : p = 0
    · subst h0
      go_enter Try.func110, Try.ntmps110
      go_wp2
      go_end0
      refine ⟨rfl, ?_, ?_, hbel _⟩
      · rw [HS.out]; exact hB.set 1 (.int .i64 0)
      · rw [HS.out]; exact hR.other hne _
    · go_enter Try.func110, Try.ntmps110
      go_wp2
      · go_end0
        refine ⟨rfl, ?_, ?_, hbel _⟩
        · rw [HS.out, show ((p - 1 : Nat) : Int) = (p : Int) - 1 from by omega]; exact hB.set 1 (.int .i64 ((p : Int) - 1))
        · rw [HS.out]; exact hR.other hne _
      · obtain rfl : p = 1 := by omega
        go_end0
        refine ⟨rfl, ?_, ?_, hbel _⟩
        · rw [HS.out]; exact hB.set 1 (.int .i64 0)
        · rw [HS.out]; exact hR.other hne _
  · by_cases e13 : c0 = 13
    · subst e13
      have HS := Lib.hid (show termStep 13 (xs, p) = (xs, 0) from rfl)
      clear hl
      go_enter Try.func110, Try.ntmps110
      go_wp2
      go_end0
      refine ⟨rfl, ?_, ?_, hbel _⟩
      · rw [HS.out]; exact hB.set 1 (.int .i64 0)
      · rw [HS.out]; exact hR.other hne _
    · by_cases e11 : c0 = 11
      · subst e11
        have HS := Lib.hid (show termStep 11 (xs, p) = (eraseS xs p n, p) by rw [← hl, eraseS_all]; rfl)
        have HL := Lib.hid hl
        clear hl
        go_enter Try.func110, Try.ntmps110
        go_wp2
        go_loopw [4] (fun i wr => ∃ j : Nat, i = .int .i64 (j : Int) ∧ p ≤ j ∧ j ≤ n ∧ Blk wr B #[.slice (some ⟨g, 0, none⟩) n c, .int .i64 (p : Int)] 46 ∧ RowB base wr g n c (eraseS xs p j) ∧ Below base w wr) (fun i _ => n - (intOf i).toNat)
        case atStart => exact ⟨p, rfl, by omega, hp, hB, by rw [eraseS_zero _ _ (by rw [HL.out]; exact hp)]; exact hR, Below.refl _ _⟩
        case round =>
          clear c1 c2 f1 f2 hB hR hbel
          obtain ⟨j, rfl, hj1, hj2, hB, hR, hbel⟩ := hrel
          obtain ⟨c1, c2, f1, f2⟩ := hB.two
          by_cases hlt : j < n
          · have d1 := hR.cell hlt
            have d2 := hR.free j
            have i1 : (j : Int) < (n : Int) := by omega
            go_wp2
            go_roundw
            case rel =>
              refine ⟨j + 1, by go_num, by omega, by omega, hB.other (Ne.symm hne) _, ?_, hbel.setCell (p := ⟨g, j, none⟩) hbg _⟩
              have := hR.set j 32
              rwa [eraseS_step _ _ _ hj1 (by rw [HL.out]; exact hlt)] at this
            case measure => simp [intOf]; omega
          · obtain rfl : j = n := by omega
            go_wp2
            go_end0
            refine ⟨rfl, ?_, ?_, hbel⟩
            · rw [HS.out]; exact hB
            · rw [HS.out]; exact hR
      · by_cases hw : 32 ≤ c0 ∧ c0 ≠ 127 ∧ p < n
        · obtain ⟨k1, k2, k3⟩ := hw
          have HS := Lib.hid (show termStep c0 (xs, p) = (xs.set p c0, p + 1) by
            unfold termStep; rw [if_neg e8, if_neg e13, if_neg e11, if_pos ⟨k1, k2, by rw [hl]; exact k3⟩])
          clear hl
          have d1 := hR.cell k3
          have d2 := hR.free p
          have b1 : (c0 == 8) = false := by simpa using e8
          have b2 : (c0 == 13) = false := by simpa using e13
          have b3 : (c0 == 11) = false := by simpa using e11
          have b4 : decide (32 ≤ c0) = true := by simpa using k1
          have b5 : (c0 != 127) = true := by simpa using k2
          have b6 : decide ((p : Int) < (n : Int)) = true := by simpa using k3
          have i1 : (p : Int) < (n : Int) := by omega
          have HB2 := hB.other (a := ⟨g, p, none⟩) (Ne.symm hne) (.int .i64 c0)
          have HR2 := hR.set p c0
          obtain ⟨y1, y2, z1, z2⟩ := HB2.two
          go_enter Try.func110, Try.ntmps110
          go_wp2
          go_quiet (fail)
          go_wp2
          go_region
          all_goals
            go_wp2
            go_end0
            rw [show (w.drewN (nq + 1)).setCell ⟨g, p, none⟩ (.int .i64 c0) = (w.setCell ⟨g, p, none⟩ (.int .i64 c0)).drewN (nq + 1) from rfl]
            refine ⟨rfl, ?_, ?_, ?_⟩
            · rw [HS.out]; exact (HB2.drewN _).set 1 (.int .i64 ((p + 1 : Nat) : Int))
            · rw [HS.out]; exact (HR2.drewN _).other hne _
            · exact (below_drewN ((Below.refl _ _).setCell (p := ⟨g, p, none⟩) hbg _) _).setCell (p := ⟨B, 1, none⟩) hbB _
        · have HS := Lib.hid (show termStep c0 (xs, p) = (xs, p) by
            unfold termStep; rw [if_neg e8, if_neg e13, if_neg e11, if_neg (by rw [hl]; exact hw)])
          clear hl
          have b1 : (c0 == 8) = false := by simpa using e8
          have b2 : (c0 == 13) = false := by simpa using e13
          have b3 : (c0 == 11) = false := by simpa using e11
          by_cases k1 : 32 ≤ c0
          · have b4 : decide (32 ≤ c0) = true := by simpa using k1
            by_cases k2 : c0 = 127
            · subst k2
              go_enter Try.func110, Try.ntmps110
              go_wp2
              go_quiet (fail)
              go_wp2
              go_end0
              refine ⟨rfl, ?_, ?_, below_drewN (Below.refl _ _) _⟩
              · rw [HS.out]; exact hB.drewN _
              · rw [HS.out]; exact hR.drewN _
            · have b5 : (c0 != 127) = true := by simpa using k2
              have b6 : decide ((p : Int) < (n : Int)) = false := by simp; omega
              go_enter Try.func110, Try.ntmps110
              go_wp2
              go_quiet (fail)
              go_wp2
              go_end0
              refine ⟨rfl, ?_, ?_, below_drewN (Below.refl _ _) _⟩
              · rw [HS.out]; exact hB.drewN _
              · rw [HS.out]; exact hR.drewN _
          · have b4 : decide (32 ≤ c0) = false := by simpa using k1
            go_enter Try.func110, Try.ntmps110
            go_wp2
            go_quiet (fail)
            go_wp2
            go_end0
            refine ⟨rfl, ?_, ?_, below_drewN (Below.refl _ _) _⟩
            · rw [HS.out]; exact hB.drewN _
            · rw [HS.out]; exact hR.drewN _

end Go.Proofs.Ythnjaichbejifaa
