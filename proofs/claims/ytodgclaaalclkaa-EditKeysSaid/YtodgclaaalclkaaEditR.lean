/- Contract of fairref.Key at a line that lies in memory. -/
import Derived.Test.YtodgclaaalclkaaEditR1
import Derived.Test.YtodgclaaalclkaaEditR2
namespace Go.Proofs.Ytodgclaaalclkaa
open Go.RowKit
set_option linter.unusedVariables false

theorem ref_key_some (ad : Addr) (n c q : Nat) (xs : List Int) (mode key : Int) (w : World) (ha : Ints w (some ad) xs) (hn : xs.length = n) (hc : n ≤ c) (hc2 : c ≤ 9223372036854775807) (hn200 : n ≤ 200) (hqn : q ≤ n) (hmode : mode = 1 ∨ mode = 2) :
    Calls Try.prog 14 #[.agg #[.slice (some ad) n c, .int .i64 (q : Int)], .int .i64 mode, .int .i64 key] w (KeyPost (RefBack xs false q) xs q mode key w) := by
  by_cases hpr : 32 ≤ key ∧ key ≠ 127
  · exact ref_key_print ad n c q xs mode key w ha hn hc hc2 hn200 hqn hmode hpr
  · exact ref_key_other ad n c q xs mode key w ha hn hc hc2 hn200 hqn hmode hpr

end Go.Proofs.Ytodgclaaalclkaa
