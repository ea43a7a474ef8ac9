/- The walk of RopeSays, whole. -/
import Derived.Test.YtmipnikhgihcpaaRopeLaw
namespace Go.Proofs.Ytmipnikhgihcpaa
open Go.RowKit
set_option linter.unusedVariables false

theorem ropeSays_walk (la ma : Option Addr) (lm lc mm mc : Nat) (xs ys : List Int) (f t : Int) (w : World) (hl : Sl w (.slice la lm lc) xs) (hm : Sl w (.slice ma mm mc) ys) :
    Calls Try.prog 7 #[.slice la lm lc, .slice ma mm mc, .int .i64 f, .int .i64 t] w fun e w' => e = .returned (.bool true) ∧ Below w.heap.size w w' := by
  by_cases h : 4096 < lm ∨ 4096 < mm
  · exact ropeSays_large la ma lm lc mm mc xs ys f t w hl hm h
  · exact ropeSays_small la ma lm lc mm mc xs ys f t w hl hm (by omega) (by omega)

end Go.Proofs.Ytmipnikhgihcpaa
