/- Where the k-th one of a ring stands. -/
import Derived.Test.YtmipnikhgihcpaaBase
namespace Go.Proofs.Ytmipnikhgihcpaa
set_option linter.unusedVariables false

/-- where the k-th one stands -/
def place (n f k : Nat) : Nat := if f + k < n then f + k else f + k - n
theorem place_lt {n f k : Nat} (hf : f < n) (hk : k ≤ n) : place n f k < n ∨ n = 0 := by unfold place; split <;> omega
theorem place_mod {n f k : Nat} (hf : f < n) (hk : k ≤ n) : (f + k) % n = place n f k := by
  unfold place; split
  · exact Nat.mod_eq_of_lt ‹_›
  · rw [Nat.mod_eq_sub_mod (by omega), Nat.mod_eq_of_lt (by omega)]

end Go.Proofs.Ytmipnikhgihcpaa
