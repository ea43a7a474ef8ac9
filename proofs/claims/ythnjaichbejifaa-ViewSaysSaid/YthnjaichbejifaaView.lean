/- Contracts of the functions that ViewSays calls (view, fairref): what each returns, and that it writes nothing that was there. -/
import Derived.Test.YthnjaichbejifaaSlib
namespace Go.Proofs.Ythnjaichbejifaa
open Go.RowKit
set_option linter.unusedVariables false
set_option linter.unusedSimpArgs false

/-- view.Scroll on numbers -/
def vScroll (n at' off width : Int) : Int × Int :=
  if n < 0 ∨ 200 < n ∨ at' < 0 ∨ n < at' ∨ off < 0 ∨ 200 < off ∨ width < 2 ∨ 120 < width then (0, 1)
  else if at' < off then (at', 0)
  else if off + width ≤ at' then (at' - width + 1, 0) else (off, 0)

set_option maxHeartbeats 400000 in
theorem view_scroll (n at' off width : Int) (w : World) :
    Calls Try.prog 25 #[.int .i64 n, .int .i64 at', .int .i64 off, .int .i64 width] w fun e w' => e = .returned (.tuple #[.int .i64 (vScroll n at' off width).1, .int .i64 (vScroll n at' off width).2]) ∧ w = w' := by
  go_enter Try.func25, Try.ntmps25
  go_wp2
  all_goals (go_ret2; refine ⟨ret2_int ?_ ?_, rfl⟩ <;> (unfold vScroll; (repeat' split) <;> first | rfl | omega))

/-- what a cell shows -/
def cellS (c : Int) : Int := if c < 32 ∨ c = 127 ∨ c = 65533 then 63 else c

theorem view_cell (c : Int) (w : World) :
    Calls Try.prog 29 #[.int .i64 c] w fun e w' => e = .returned (.int .i64 (cellS c)) ∧ w = w' := by
  go_enter Try.func29, Try.ntmps29
  go_wp2
  all_goals (go_ret; refine ⟨ret1_int ?_, rfl⟩; unfold cellS; simp_all; try omega)

theorem ref_cell (c : Int) (w : World) :
    Calls Try.prog 30 #[.int .i64 c] w fun e w' => e = .returned (.int .i64 (cellS c)) ∧ w = w' := by
  go_enter Try.func30, Try.ntmps30
  go_wp2
  all_goals (go_ret; refine ⟨ret1_int ?_, rfl⟩; unfold cellS; simp_all; try omega)

def scrollErrS (n at' off width : Int) : Int :=
  if n < 0 ∨ 200 < n ∨ at' < 0 ∨ n < at' ∨ off < 0 ∨ 200 < off ∨ width < 2 ∨ 120 < width then 1 else 0

set_option maxHeartbeats 400000 in
theorem ref_scrollErr (n at' off width : Int) (w : World) :
    Calls Try.prog 26 #[.int .i64 n, .int .i64 at', .int .i64 off, .int .i64 width] w fun e w' => e = .returned (.int .i64 (scrollErrS n at' off width)) ∧ w = w' := by
  go_enter Try.func26, Try.ntmps26
  go_wp2
  all_goals (go_ret; refine ⟨ret1_int ?_, rfl⟩; unfold scrollErrS; (repeat' split) <;> first | rfl | omega)

/-- Scroll of right numbers -/
def scrollS (at' off width : Int) : Int := if at' < off then at' else if off + width ≤ at' then at' - width + 1 else off

set_option maxHeartbeats 400000 in
theorem ref_scroll (at' off width : Int) (w : World) (h1 : 0 ≤ at') (h2 : at' ≤ 200) (h3 : 0 ≤ off) (h4 : off ≤ 200) (h5 : 2 ≤ width) (h6 : width ≤ 120) :
    Calls Try.prog 27 #[.int .i64 at', .int .i64 off, .int .i64 width] w fun e w' => e = .returned (.int .i64 (scrollS at' off width)) ∧ w = w' := by
  go_enter Try.func27, Try.ntmps27
  go_wp2
  go_loop [1] (fun v => ∃ o : Int, v = .int .i64 o ∧ o ≤ off ∧ 0 ≤ o ∧ (o = off ∨ at' ≤ o)) (fun v => (intOf v - at').toNat)
  case atStart => exact ⟨off, rfl, by omega, by omega, .inl rfl⟩
  case round =>
    obtain ⟨o, rfl, ho1, ho2, ho3⟩ := hrel
    have H3 := Lib.hid ho3
    clear ho3
    by_cases hlt : at' < o
    · go_wp2
      go_round
      case rel => exact ⟨o - 1, rfl, by omega, by omega, .inr (by omega)⟩
      case measure => simp [intOf]; omega
    · go_wp2
      go_loop [1] (fun v => ∃ p : Int, v = .int .i64 p ∧ o ≤ p ∧ p ≤ 200 ∧ (p = o ∨ p + width ≤ at' + 1)) (fun v => (at' - intOf v).toNat)
      case atStart => exact ⟨o, rfl, by omega, by omega, .inl rfl⟩
      case round =>
        obtain ⟨p, rfl, hp1, hp2, hp3⟩ := hrel
        have H4 := Lib.hid hp3
        clear hp3
        by_cases hgt : p + width - 1 < at'
        · go_wp2
          go_round
          case rel => exact ⟨p + 1, rfl, by omega, by omega, .inr (by omega)⟩
          case measure => simp [intOf]; omega
        · go_wp2
          go_ret
          refine ⟨ret1_int ?_, rfl⟩
          have h3 := H3.out; have h4 := H4.out
          unfold scrollS; (repeat' split) <;> omega

end Go.Proofs.Ythnjaichbejifaa
