/- What a call answers: a history, a line and an error. -/
import Derived.Test.YtmipnikhgihcpaaSix
import Derived.Test.YtmipnikhgihcpaaHist4
namespace Go.Proofs.Ytmipnikhgihcpaa
open Go.RowKit
set_option linter.unusedVariables false

def ResPost (R : Hi → List Int → Int → Prop) (P : Nat → Prop) (w : World) (e : Ending) (w' : World) : Prop := ∃ h l E, R h l E ∧ HPost P h l E w e w'

end Go.Proofs.Ytmipnikhgihcpaa
