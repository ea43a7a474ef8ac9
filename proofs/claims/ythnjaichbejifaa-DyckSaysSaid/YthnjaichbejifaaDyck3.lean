/- Contract of dyck.Right. -/
import Derived.Test.YthnjaichbejifaaDyck2
import Derived.Test.YthnjaichbejifaaUndo3
namespace Go.Proofs.Ythnjaichbejifaa
open Go.RowKit
set_option linter.unusedVariables false
set_option linter.unusedSimpArgs false

def stepS (st : List Int) (c : Int) : Option (List Int) :=
  if otherS c = 0 then some st else if shutS c = false then some (st ++ [c]) else if st = [] ∨ ix st (st.length - 1) ≠ otherS c then none else some st.dropLast
def runS : List Int → List Int → Option (List Int)
  | [], st => some st
  | c :: l, st => (stepS st c).bind (runS l)
def rightS (l : List Int) : Bool := runS l [] == some []

theorem runS_drop {l st : List Int} {k : Nat} (hk : k < l.length) : runS (l.drop k) st = (stepS st (ix l k)).bind (runS (l.drop (k + 1))) := by
  rw [List.drop_eq_getElem_cons hk, ix_eq hk]; rfl
theorem otherS_range (c : Int) : 0 ≤ otherS c ∧ otherS c ≤ 125 := by
  unfold otherS; repeat' split
  all_goals omega

set_option maxRecDepth 100000 in
theorem dyck_right_bad (a : Option Addr) (n c : Nat) (w : World) (h2 : 4096 < n) (h3 : n ≤ 9223372036854775807) :
    Calls Try.prog 43 #[.slice a n c] w fun e w' => e = .returned (.tuple #[.bool false, .int .i64 2]) ∧ w = w' := by
  go_enter Try.func43, Try.ntmps43
  go_wp2
  go_ret2
  exact ⟨rfl, rfl⟩

set_option maxRecDepth 100000 in
set_option maxHeartbeats 1000000 in
theorem dyck_right (a : Option Addr) (n c : Nat) (l : List Int) (w : World) (ha : Ints w a l) (hn : l.length = n) (h2 : n ≤ 4096) :
    Calls Try.prog 43 #[.slice a n c] w fun e w' => e = .returned (.tuple #[.bool (rightS l), .int .i64 0]) ∧ Below w.heap.size w w' := by
  have HN := Lib.hid hn; clear hn
  go_enter Try.func43, Try.ntmps43
  go_wp2
  go_loopw [14, 4] (fun i v wr => ∃ (k : Nat) (st : List Int), i = .int .i64 (k : Int) ∧ k ≤ n ∧ Own 3 w.heap.size wr v st ∧ st.length ≤ k ∧ runS (l.drop k) st = runS l [] ∧ Below w.heap.size w wr) (fun i _ _ => n - (intOf i).toNat)
  case atStart => exact ⟨0, [], rfl, by omega, Own.nil _ _ _, by simp, rfl, Below.refl _ _⟩
  case round =>
    obtain ⟨k, st, rfl, hk, hown, hlen, hrun, hbel⟩ := hrel
    have HR := Lib.hid hrun; clear hrun
    by_cases hlt : k < n
    · obtain ⟨b1, o1, rfl, hc0⟩ := ha.at (k := k) (by rw [HN.out]; exact hlt)
      have ck : wr.cell? ⟨b1, o1 + k, none⟩ = some (.int .i64 (ix l k)) := by
        have := hc0 k (by rw [HN.out]; exact hlt)
        rw [hbel.cell (cell_lt this)]; exact this
      have hstep := runS_drop (l := l) (st := st) (k := k) (by rw [HN.out]; exact hlt)
      rw [HR.out] at hstep
      clear hc0
      generalize ix l k = x at *
      by_cases ho : otherS x = 0
      · have HS := Lib.hid (show runS (l.drop (k + 1)) st = runS l [] by rw [hstep]; simp [stepS, ho])
        have g0 : (otherS x == 0) = true := by simpa using ho
        clear hstep
        go_wp2_with fail
        refine (dyck_other x wr).mono ?_
        rintro e w' ⟨rfl, rfl⟩
        rw [ho]
        go_wp2
        go_roundw
        case rel => exact ⟨k + 1, st, by go_num, by omega, hown, by omega, HS.out, hbel⟩
        case measure => simp [intOf]; omega
      · have hr := otherS_range x
        have ho2 : (otherS x == 0) = false := by simpa using ho
        by_cases hs : shutS x = false
        · have HS := Lib.hid (show runS (l.drop (k + 1)) (st ++ [x]) = runS l [] by rw [hstep]; simp [stepS, ho, hs])
          clear hstep
          go_wp2_with fail
          refine (dyck_other x wr).mono ?_
          rintro e w' ⟨rfl, rfl⟩
          rw [hs]
          have hsz := hbel.size
          go_wp2_with (at_builtin; refine app1 rfl _ _ rfl w.heap.size u4 _ _ _ rfl rfl (hown.alloc _) (cell_new1 _ _ _) (by omega) (size_alloc_le hbel.size _) ?_; intro v3 w3 hown3 hgrow3)
          go_roundw
          case rel => exact ⟨k + 1, st ++ [x], by go_num, by omega, hown3, by simp; omega, HS.out, (hbel.alloc hbel.size _).grown hgrow3 (by simp; omega) hown.row⟩
          case measure => simp [intOf]; omega
        · have hs2 : shutS x = true := by simpa using hs
          by_cases he : st = []
          · have HF := Lib.hid (show runS l [] = none by rw [hstep]; simp [stepS, ho, hs, he])
            subst he
            obtain ⟨a4, n4, c4, rfl⟩ := hown.form
            obtain rfl : n4 = 0 := by have := hown.get.1; simpa using this.symm
            clear hstep
            go_wp2_with fail
            refine (dyck_other x wr).mono ?_
            rintro e w' ⟨rfl, rfl⟩
            rw [hs2]
            go_wp2
            go_ret2
            exact ⟨by unfold rightS; rw [HF.out]; rfl, hbel⟩
          · have hpos := List.length_pos_iff.2 he
            have hstep' := hstep
            obtain ⟨g, kk, c4, rfl, f1, f2, f3, f4, f5, f6, hI⟩ := hown.full hpos
            obtain ⟨m, rfl⟩ : ∃ m, kk = m + 1 := ⟨kk - 1, by omega⟩
            have hl : st.length = m + 1 := by omega
            have hpop := hown.pop
            have hpl : st.dropLast.length = m := by simp [hl]
            have hl1 : st.length - 1 = m := by omega
            obtain ⟨b4, o4, hb4, hc4⟩ := hI.at (k := m) (by omega)
            simp only [Option.some.injEq, Addr.mk.injEq] at hb4
            obtain ⟨rfl, rfl, -⟩ := hb4
            have cm := hc4 m (by omega)
            rw [Nat.zero_add] at cm
            have i1 : ((m : Int) + 1 - 1).toNat = m := by omega
            have i2 : (m : Int) + 1 - 1 = m := by omega
            have i3 : ¬ (m : Int) + 1 = 0 := by omega
            have i4 : m ≤ c4 := by omega
            by_cases hm : ix st (st.length - 1) = otherS x
            · have HS := Lib.hid (show runS (l.drop (k + 1)) st.dropLast = runS l [] by rw [hstep]; simp [stepS, ho, hs, he, hm])
              rw [hl1] at hm
              have hm1 : (ix st m != otherS x) = false := by simpa using hm
              have HPL := Lib.hid hpl
              clear hstep hstep' hl hl1 hpl hm hc4 he hown
              go_wp2_with fail
              refine (dyck_other x wr).mono ?_
              rintro e w' ⟨rfl, rfl⟩
              rw [hs2]
              go_wp2
              go_roundw
              case rel => exact ⟨k + 1, st.dropLast, by go_num, by omega, hpop, by rw [HPL.out]; omega, HS.out, hbel⟩
              case measure => simp [intOf]; omega
            · have HF := Lib.hid (show runS l [] = none by rw [hstep]; simp [stepS, ho, hs, he, hm])
              rw [hl1] at hm
              have hm1 : (ix st m != otherS x) = true := by simpa using hm
              clear hstep hstep' hl hl1 hpl hc4 he hown hpop
              go_wp2_with fail
              refine (dyck_other x wr).mono ?_
              rintro e w' ⟨rfl, rfl⟩
              rw [hs2]
              go_wp2
              go_ret2
              exact ⟨by unfold rightS; rw [HF.out]; rfl, hbel⟩
    · obtain ⟨a4, n4, c4, rfl⟩ := hown.form
      have hl4 := hown.get.1
      have HF := Lib.hid (show rightS l = decide ((n4 : Int) = 0) by
        unfold rightS
        rw [← HR.out, List.drop_eq_nil_of_le (by rw [HN.out]; omega), ← hl4]
        cases st <;> simp [runS] <;> omega)
      clear hl4 hown
      go_wp2
      go_ret2
      exact ⟨by rw [HF.out]; simp; rw [Bool.eq_iff_iff]; simp, hbel⟩

end Go.Proofs.Ythnjaichbejifaa
