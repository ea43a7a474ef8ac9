/- Contracts of dyck.other, dyck.Kind, fairref.bracket. -/
import Derived.Test.YtmipnikhgihcpaaSlib
import Derived.Deep.RegionHeld3
namespace Go.Proofs.Ytmipnikhgihcpaa
open Go.RowKit
set_option linter.unusedVariables false
set_option linter.unusedSimpArgs false

def otherS (c : Int) : Int := if c = 40 then 41 else if c = 91 then 93 else if c = 123 then 125 else if c = 41 then 40 else if c = 93 then 91 else if c = 125 then 123 else 0
def shutS (c : Int) : Bool := if c = 41 then true else if c = 93 then true else if c = 125 then true else false
def openS (c : Int) : Int := if c = 40 ∨ c = 41 then 40 else if c = 91 ∨ c = 93 then 91 else if c = 123 ∨ c = 125 then 123 else 0
def closeS (c : Int) : Int := if c = 40 ∨ c = 41 then 41 else if c = 91 ∨ c = 93 then 93 else if c = 123 ∨ c = 125 then 125 else 0

theorem sevenWays (c : Int) : c = 40 ∨ c = 91 ∨ c = 123 ∨ c = 41 ∨ c = 93 ∨ c = 125 ∨ (c ≠ 40 ∧ c ≠ 91 ∧ c ≠ 123 ∧ c ≠ 41 ∧ c ≠ 93 ∧ c ≠ 125) := by omega

theorem otherS_range (c : Int) : 0 ≤ otherS c ∧ otherS c ≤ 125 := by
  unfold otherS; repeat' split
  all_goals omega

theorem dyck_other (c : Int) (w : World) :
    Calls Try.prog 277 #[.int .i64 c] w fun e w' => e = .returned (.tuple #[.int .i64 (otherS c), .bool (shutS c)]) ∧ w = w' := by
  go_enter Try.func277, Try.ntmps277
  rcases sevenWays c with rfl | rfl | rfl | rfl | rfl | rfl | ⟨h1, h2, h3, h4, h5, h6⟩
  all_goals
    go_wp2
    go_ret2
    refine ⟨?_, rfl⟩
    first
    | rfl
    | simp [otherS, shutS, h1, h2, h3, h4, h5, h6]

theorem dyck_kind (c : Int) (w : World) :
    Calls Try.prog 292 #[.int .i64 c] w fun e w' => e = .returned (.tuple #[.int .i64 (otherS c), .bool (shutS c)]) ∧ w = w' := by
  go_enter Try.func292, Try.ntmps292
  go_wp2_with fail
  refine (dyck_other c w).mono ?_
  rintro e w' ⟨rfl, rfl⟩
  go_wp2
  go_ret2
  exact ⟨rfl, rfl⟩

end Go.Proofs.Ytmipnikhgihcpaa
