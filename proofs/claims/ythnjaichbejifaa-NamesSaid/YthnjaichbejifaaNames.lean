/- The walk of the law Names, a closed sentence: the call returns true and writes nothing that was there. -/
import Derived.Test.YthnjaichbejifaaBase
import Derived.Test.YthnjaichbejifaaRows
import Derived.Handy
namespace Go.Proofs.Ythnjaichbejifaa
open Go.RowKit

set_option maxRecDepth 100000 in
set_option maxHeartbeats 2000000 in
theorem names_walk (w : World) :
    Calls Try.prog 3 #[] w fun e w' => e = .returned (.bool true) ∧ Below w.heap.size w w' := by
  go_enter Try.func3, Try.ntmps3
  go_wp2
  go_rounds 12
  go_rounds 4
  go_rounds 5
  go_rounds 5
  go_ret
  exact ⟨rfl, ((((Below.refl _ _).alloc (Nat.le_refl _) _).alloc (by simp) _).alloc (by simp; omega) _).alloc (by simp; omega) _⟩

end Go.Proofs.Ythnjaichbejifaa
