/-
  No cell of these rows narrows 'for every input' (looked for: loops, veiled, ifaces, maps, wideKeys, modest, calm, conditions, laid).
  DERIVED. THE GIVEN ROWS OF THIS SEAT. 12 by the template 'for every input the law returns true; each argument reads behind the call as it read before'; 0 by the template 'total and deterministic' (their statements: YthnjaichbejifaaTotals.lean).
  GIVEN WITH THE SEED: the statements are not yours to turn. If you find one false, say at which input.
  Laid BY PROGRAM, IN A SANDBOX (cutbox-rows.mjs): the forced cells as the released guide's own fill.sh prints them over the translation b17736ed279ab771… (all of the seat's roots in one cut). By AI agents, Wed Nov 11 2026. No macro, syntax, notation, axiom, sorry.
-/
import Derived.Test.YthnjaichbejifaaChecked
import GoSem.Claim
import GoSem.ClaimJoined
import GoSem.ClaimMapViews
import Derived.JoinedTies
import Derived.KernelRfl
namespace Go.Proofs.Ythnjaichbejifaa
/- THE CELL 'sum', in the pinned program and in every row, IS THE sha256 OF THE DUMP (.gsa) THAT YthnjaichbejifaaProg.lean LOADS. Nothing in Lean hashes anything: it is a label: what it is worth is what the hold of that sum in a sandbox is worth. -/
noncomputable def Try.pinned : Pinned := { name := "ythnjaichbejifaa", sum := "b17736ed279ab771467296e574a823487604a511112cdf4bd2f592f1fec3d62b", checked := Try.checked }
namespace Rows
def none {H : Type} : Left H := { results := [], args := [] }

/-- 'fairlaw.Names': WHATEVER THE INPUT: true; the input reads as it did. -/
def namesSpec : ChangeSpec := { name := "names", fn := fun _ => fun
  | [] => { results := [.lit (.bool true)], args := [] }
  | _ => none }
def namesRow : OpenClaim := { program := "ythnjaichbejifaa", sum := "b17736ed279ab771467296e574a823487604a511112cdf4bd2f592f1fec3d62b", func := "fairhand/fairlaw.Names", spec := "names", apart := false }
def NamesSaid : Prop := namesRow.holds Try.pinned (OpenSpec.ofChange namesSpec)

/-- ITS FALSE NEIGHBOUR: 'it returns false'. Refute it at one input. -/
def namesWrong : ChangeSpec := { name := "names", fn := fun _ => fun
  | [] => { results := [.lit (.bool false)], args := [] }
  | _ => none }
def NamesWrongFalsely : Prop := namesRow.holds Try.pinned (OpenSpec.ofChange namesWrong)

/-- 'fairlaw.RingPlays': WHATEVER THE INPUT: true; the input reads as it did. -/
def ringPlaysSpec : ChangeSpec := { name := "ringPlays", fn := fun _ => fun
  | [d1, d2, d3] => { results := [.lit (.bool true)], args := [d1, d2, d3] }
  | _ => none }
def ringPlaysRow : OpenClaim := { program := "ythnjaichbejifaa", sum := "b17736ed279ab771467296e574a823487604a511112cdf4bd2f592f1fec3d62b", func := "fairhand/fairlaw.RingPlays", spec := "ringPlays", apart := false }
def RingPlaysSaid : Prop := ringPlaysRow.holds Try.pinned (OpenSpec.ofChange ringPlaysSpec)

/-- ITS FALSE NEIGHBOUR: 'it returns false'. Refute it at one input. -/
def ringPlaysWrong : ChangeSpec := { name := "ringPlays", fn := fun _ => fun
  | [d1, d2, d3] => { results := [.lit (.bool false)], args := [d1, d2, d3] }
  | _ => none }
def RingPlaysWrongFalsely : Prop := ringPlaysRow.holds Try.pinned (OpenSpec.ofChange ringPlaysWrong)

/-- 'fairlaw.UndoSays': WHATEVER THE INPUT: true; the input reads as it did. -/
def undoSaysSpec : ChangeSpec := { name := "undoSays", fn := fun _ => fun
  | [d1, d2, d3, d4] => { results := [.lit (.bool true)], args := [d1, d2, d3, d4] }
  | _ => none }
def undoSaysRow : OpenClaim := { program := "ythnjaichbejifaa", sum := "b17736ed279ab771467296e574a823487604a511112cdf4bd2f592f1fec3d62b", func := "fairhand/fairlaw.UndoSays", spec := "undoSays", apart := false }
def UndoSaysSaid : Prop := undoSaysRow.holds Try.pinned (OpenSpec.ofChange undoSaysSpec)

/-- ITS FALSE NEIGHBOUR: 'it returns false'. Refute it at one input. -/
def undoSaysWrong : ChangeSpec := { name := "undoSays", fn := fun _ => fun
  | [d1, d2, d3, d4] => { results := [.lit (.bool false)], args := [d1, d2, d3, d4] }
  | _ => none }
def UndoSaysWrongFalsely : Prop := undoSaysRow.holds Try.pinned (OpenSpec.ofChange undoSaysWrong)

/-- 'fairlaw.ViewSays': WHATEVER THE INPUT: true; the input reads as it did. -/
def viewSaysSpec : ChangeSpec := { name := "viewSays", fn := fun _ => fun
  | [d1, d2, d3, d4, d5, d6] => { results := [.lit (.bool true)], args := [d1, d2, d3, d4, d5, d6] }
  | _ => none }
def viewSaysRow : OpenClaim := { program := "ythnjaichbejifaa", sum := "b17736ed279ab771467296e574a823487604a511112cdf4bd2f592f1fec3d62b", func := "fairhand/fairlaw.ViewSays", spec := "viewSays", apart := false }
def ViewSaysSaid : Prop := viewSaysRow.holds Try.pinned (OpenSpec.ofChange viewSaysSpec)

/-- ITS FALSE NEIGHBOUR: 'it returns false'. Refute it at one input. -/
def viewSaysWrong : ChangeSpec := { name := "viewSays", fn := fun _ => fun
  | [d1, d2, d3, d4, d5, d6] => { results := [.lit (.bool false)], args := [d1, d2, d3, d4, d5, d6] }
  | _ => none }
def ViewSaysWrongFalsely : Prop := viewSaysRow.holds Try.pinned (OpenSpec.ofChange viewSaysWrong)

/-- 'fairlaw.WordSays': WHATEVER THE INPUT: true; the input reads as it did. -/
def wordSaysSpec : ChangeSpec := { name := "wordSays", fn := fun _ => fun
  | [d1, d2, d3, d4] => { results := [.lit (.bool true)], args := [d1, d2, d3, d4] }
  | _ => none }
def wordSaysRow : OpenClaim := { program := "ythnjaichbejifaa", sum := "b17736ed279ab771467296e574a823487604a511112cdf4bd2f592f1fec3d62b", func := "fairhand/fairlaw.WordSays", spec := "wordSays", apart := false }
def WordSaysSaid : Prop := wordSaysRow.holds Try.pinned (OpenSpec.ofChange wordSaysSpec)

/-- ITS FALSE NEIGHBOUR: 'it returns false'. Refute it at one input. -/
def wordSaysWrong : ChangeSpec := { name := "wordSays", fn := fun _ => fun
  | [d1, d2, d3, d4] => { results := [.lit (.bool false)], args := [d1, d2, d3, d4] }
  | _ => none }
def WordSaysWrongFalsely : Prop := wordSaysRow.holds Try.pinned (OpenSpec.ofChange wordSaysWrong)

/-- 'fairlaw.DyckSays': WHATEVER THE INPUT: true; the input reads as it did. -/
def dyckSaysSpec : ChangeSpec := { name := "dyckSays", fn := fun _ => fun
  | [d1, d2] => { results := [.lit (.bool true)], args := [d1, d2] }
  | _ => none }
def dyckSaysRow : OpenClaim := { program := "ythnjaichbejifaa", sum := "b17736ed279ab771467296e574a823487604a511112cdf4bd2f592f1fec3d62b", func := "fairhand/fairlaw.DyckSays", spec := "dyckSays", apart := false }
def DyckSaysSaid : Prop := dyckSaysRow.holds Try.pinned (OpenSpec.ofChange dyckSaysSpec)

/-- ITS FALSE NEIGHBOUR: 'it returns false'. Refute it at one input. -/
def dyckSaysWrong : ChangeSpec := { name := "dyckSays", fn := fun _ => fun
  | [d1, d2] => { results := [.lit (.bool false)], args := [d1, d2] }
  | _ => none }
def DyckSaysWrongFalsely : Prop := dyckSaysRow.holds Try.pinned (OpenSpec.ofChange dyckSaysWrong)

/-- 'fairlaw.SeekSays': WHATEVER THE INPUT: true; the input reads as it did. -/
def seekSaysSpec : ChangeSpec := { name := "seekSays", fn := fun _ => fun
  | [d1, d2, d3] => { results := [.lit (.bool true)], args := [d1, d2, d3] }
  | _ => none }
def seekSaysRow : OpenClaim := { program := "ythnjaichbejifaa", sum := "b17736ed279ab771467296e574a823487604a511112cdf4bd2f592f1fec3d62b", func := "fairhand/fairlaw.SeekSays", spec := "seekSays", apart := false }
def SeekSaysSaid : Prop := seekSaysRow.holds Try.pinned (OpenSpec.ofChange seekSaysSpec)

/-- ITS FALSE NEIGHBOUR: 'it returns false'. Refute it at one input. -/
def seekSaysWrong : ChangeSpec := { name := "seekSays", fn := fun _ => fun
  | [d1, d2, d3] => { results := [.lit (.bool false)], args := [d1, d2, d3] }
  | _ => none }
def SeekSaysWrongFalsely : Prop := seekSaysRow.holds Try.pinned (OpenSpec.ofChange seekSaysWrong)

/-- 'fairlaw.MarkSays': WHATEVER THE INPUT: true; the input reads as it did. -/
def markSaysSpec : ChangeSpec := { name := "markSays", fn := fun _ => fun
  | [d1, d2, d3, d4, d5, d6] => { results := [.lit (.bool true)], args := [d1, d2, d3, d4, d5, d6] }
  | _ => none }
def markSaysRow : OpenClaim := { program := "ythnjaichbejifaa", sum := "b17736ed279ab771467296e574a823487604a511112cdf4bd2f592f1fec3d62b", func := "fairhand/fairlaw.MarkSays", spec := "markSays", apart := false }
def MarkSaysSaid : Prop := markSaysRow.holds Try.pinned (OpenSpec.ofChange markSaysSpec)

/-- ITS FALSE NEIGHBOUR: 'it returns false'. Refute it at one input. -/
def markSaysWrong : ChangeSpec := { name := "markSays", fn := fun _ => fun
  | [d1, d2, d3, d4, d5, d6] => { results := [.lit (.bool false)], args := [d1, d2, d3, d4, d5, d6] }
  | _ => none }
def MarkSaysWrongFalsely : Prop := markSaysRow.holds Try.pinned (OpenSpec.ofChange markSaysWrong)

/-- 'fairlaw.RegSays': WHATEVER THE INPUT: true; the input reads as it did. -/
def regSaysSpec : ChangeSpec := { name := "regSays", fn := fun _ => fun
  | [d1, d2, d3] => { results := [.lit (.bool true)], args := [d1, d2, d3] }
  | _ => none }
def regSaysRow : OpenClaim := { program := "ythnjaichbejifaa", sum := "b17736ed279ab771467296e574a823487604a511112cdf4bd2f592f1fec3d62b", func := "fairhand/fairlaw.RegSays", spec := "regSays", apart := false }
def RegSaysSaid : Prop := regSaysRow.holds Try.pinned (OpenSpec.ofChange regSaysSpec)

/-- ITS FALSE NEIGHBOUR: 'it returns false'. Refute it at one input. -/
def regSaysWrong : ChangeSpec := { name := "regSays", fn := fun _ => fun
  | [d1, d2, d3] => { results := [.lit (.bool false)], args := [d1, d2, d3] }
  | _ => none }
def RegSaysWrongFalsely : Prop := regSaysRow.holds Try.pinned (OpenSpec.ofChange regSaysWrong)

/-- 'fairlaw.UtfSays': WHATEVER THE INPUT: true; the input reads as it did. -/
def utfSaysSpec : ChangeSpec := { name := "utfSays", fn := fun _ => fun
  | [d1, d2, d3] => { results := [.lit (.bool true)], args := [d1, d2, d3] }
  | _ => none }
def utfSaysRow : OpenClaim := { program := "ythnjaichbejifaa", sum := "b17736ed279ab771467296e574a823487604a511112cdf4bd2f592f1fec3d62b", func := "fairhand/fairlaw.UtfSays", spec := "utfSays", apart := false }
def UtfSaysSaid : Prop := utfSaysRow.holds Try.pinned (OpenSpec.ofChange utfSaysSpec)

/-- ITS FALSE NEIGHBOUR: 'it returns false'. Refute it at one input. -/
def utfSaysWrong : ChangeSpec := { name := "utfSays", fn := fun _ => fun
  | [d1, d2, d3] => { results := [.lit (.bool false)], args := [d1, d2, d3] }
  | _ => none }
def UtfSaysWrongFalsely : Prop := utfSaysRow.holds Try.pinned (OpenSpec.ofChange utfSaysWrong)

/-- 'fairlaw.SpliceOvers': WHATEVER THE INPUT: true; the input reads as it did. -/
def spliceOversSpec : ChangeSpec := { name := "spliceOvers", fn := fun _ => fun
  | [d1, d2, d3, d4] => { results := [.lit (.bool true)], args := [d1, d2, d3, d4] }
  | _ => none }
def spliceOversRow : OpenClaim := { program := "ythnjaichbejifaa", sum := "b17736ed279ab771467296e574a823487604a511112cdf4bd2f592f1fec3d62b", func := "fairhand/fairlaw.SpliceOvers", spec := "spliceOvers", unfollowed := true, recurses := true, apart := false }
def SpliceOversSaid : Prop := spliceOversRow.holds Try.pinned (OpenSpec.ofChange spliceOversSpec)

/-- ITS FALSE NEIGHBOUR: 'it returns false'. Refute it at one input. -/
def spliceOversWrong : ChangeSpec := { name := "spliceOvers", fn := fun _ => fun
  | [d1, d2, d3, d4] => { results := [.lit (.bool false)], args := [d1, d2, d3, d4] }
  | _ => none }
def SpliceOversWrongFalsely : Prop := spliceOversRow.holds Try.pinned (OpenSpec.ofChange spliceOversWrong)

/-- 'fairlaw.TermSays': WHATEVER THE INPUT: true; the input reads as it did. -/
def termSaysSpec : ChangeSpec := { name := "termSays", fn := fun _ => fun
  | [d1, d2, d3] => { results := [.lit (.bool true)], args := [d1, d2, d3] }
  | _ => none }
def termSaysRow : OpenClaim := { program := "ythnjaichbejifaa", sum := "b17736ed279ab771467296e574a823487604a511112cdf4bd2f592f1fec3d62b", func := "fairhand/fairlaw.TermSays", spec := "termSays", unfollowed := true, recurses := true, apart := false }
def TermSaysSaid : Prop := termSaysRow.holds Try.pinned (OpenSpec.ofChange termSaysSpec)

/-- ITS FALSE NEIGHBOUR: 'it returns false'. Refute it at one input. -/
def termSaysWrong : ChangeSpec := { name := "termSays", fn := fun _ => fun
  | [d1, d2, d3] => { results := [.lit (.bool false)], args := [d1, d2, d3] }
  | _ => none }
def TermSaysWrongFalsely : Prop := termSaysRow.holds Try.pinned (OpenSpec.ofChange termSaysWrong)

/- THE SECOND FORM. 'bulk': how many values and letters a reading holds, each counted each time it is reached (what is shared counts as often as it is met; a slice's spare places count too). A statement '..UptoSaid' is the law's where the arguments, and the package variables that the reading takes, are together of bulk at most 1048576: NARROWER than '..Said'. Prove '..Said' where nothing that the law and all that it calls make is longer than what came in: it says more and counts as full. Else prove '..UptoSaid'. A law counts once. -/
mutual
def uptoBulk {H : Type} : DataW H → Nat
  | .lit (.string bytes) => bytes.length + 1
  | .lit _ => 1
  | .nil => 1
  | .ptr d => uptoBulk d + 1
  | .slice elems spare => uptoBulkAll elems + uptoBulkAll spare + 1
  | .agg parts => uptoBulkAll parts + 1
  | .iface _ d => uptoBulk d + 1
  | .map entries => uptoBulkEntries entries + 1
  | .held _ => 1
def uptoBulkAll {H : Type} : List (DataW H) → Nat
  | [] => 0
  | d :: r => uptoBulk d + uptoBulkAll r
def uptoBulkEntries {H : Type} : List (Lit × DataW H) → Nat
  | [] => 0
  | x :: r => uptoBulkEntry x + uptoBulkEntries r
def uptoBulkEntry {H : Type} : Lit × DataW H → Nat
  | (.string bytes, d) => bytes.length + uptoBulk d + 1
  | (_, d) => uptoBulk d + 1
 end
def uptoSmall : (H : Type) → List (DataW H) → Bool := fun _ ds => decide (uptoBulkAll ds ≤ 1048576)
def OpenSpec.upto (s : _root_.Go.ChangeSpec) : _root_.Go.OpenSpec := { _root_.Go.OpenSpec.ofChange s with cond := some uptoSmall }

/-- 'fairlaw.Names', WHERE WHAT IT READS IS OF BULK AT MOST 1048576: true; the input reads as it did. -/
def namesUptoRow : OpenClaim := { program := "ythnjaichbejifaa", sum := "b17736ed279ab771467296e574a823487604a511112cdf4bd2f592f1fec3d62b", func := "fairhand/fairlaw.Names", spec := "names", apart := false, narrowed := true }
def NamesUptoSaid : Prop := namesUptoRow.holds Try.pinned (OpenSpec.upto namesSpec)

/-- 'fairlaw.RingPlays', WHERE WHAT IT READS IS OF BULK AT MOST 1048576: true; the input reads as it did. -/
def ringPlaysUptoRow : OpenClaim := { program := "ythnjaichbejifaa", sum := "b17736ed279ab771467296e574a823487604a511112cdf4bd2f592f1fec3d62b", func := "fairhand/fairlaw.RingPlays", spec := "ringPlays", apart := false, narrowed := true }
def RingPlaysUptoSaid : Prop := ringPlaysUptoRow.holds Try.pinned (OpenSpec.upto ringPlaysSpec)

/-- 'fairlaw.UndoSays', WHERE WHAT IT READS IS OF BULK AT MOST 1048576: true; the input reads as it did. -/
def undoSaysUptoRow : OpenClaim := { program := "ythnjaichbejifaa", sum := "b17736ed279ab771467296e574a823487604a511112cdf4bd2f592f1fec3d62b", func := "fairhand/fairlaw.UndoSays", spec := "undoSays", apart := false, narrowed := true }
def UndoSaysUptoSaid : Prop := undoSaysUptoRow.holds Try.pinned (OpenSpec.upto undoSaysSpec)

/-- 'fairlaw.ViewSays', WHERE WHAT IT READS IS OF BULK AT MOST 1048576: true; the input reads as it did. -/
def viewSaysUptoRow : OpenClaim := { program := "ythnjaichbejifaa", sum := "b17736ed279ab771467296e574a823487604a511112cdf4bd2f592f1fec3d62b", func := "fairhand/fairlaw.ViewSays", spec := "viewSays", apart := false, narrowed := true }
def ViewSaysUptoSaid : Prop := viewSaysUptoRow.holds Try.pinned (OpenSpec.upto viewSaysSpec)

/-- 'fairlaw.WordSays', WHERE WHAT IT READS IS OF BULK AT MOST 1048576: true; the input reads as it did. -/
def wordSaysUptoRow : OpenClaim := { program := "ythnjaichbejifaa", sum := "b17736ed279ab771467296e574a823487604a511112cdf4bd2f592f1fec3d62b", func := "fairhand/fairlaw.WordSays", spec := "wordSays", apart := false, narrowed := true }
def WordSaysUptoSaid : Prop := wordSaysUptoRow.holds Try.pinned (OpenSpec.upto wordSaysSpec)

/-- 'fairlaw.DyckSays', WHERE WHAT IT READS IS OF BULK AT MOST 1048576: true; the input reads as it did. -/
def dyckSaysUptoRow : OpenClaim := { program := "ythnjaichbejifaa", sum := "b17736ed279ab771467296e574a823487604a511112cdf4bd2f592f1fec3d62b", func := "fairhand/fairlaw.DyckSays", spec := "dyckSays", apart := false, narrowed := true }
def DyckSaysUptoSaid : Prop := dyckSaysUptoRow.holds Try.pinned (OpenSpec.upto dyckSaysSpec)

/-- 'fairlaw.SeekSays', WHERE WHAT IT READS IS OF BULK AT MOST 1048576: true; the input reads as it did. -/
def seekSaysUptoRow : OpenClaim := { program := "ythnjaichbejifaa", sum := "b17736ed279ab771467296e574a823487604a511112cdf4bd2f592f1fec3d62b", func := "fairhand/fairlaw.SeekSays", spec := "seekSays", apart := false, narrowed := true }
def SeekSaysUptoSaid : Prop := seekSaysUptoRow.holds Try.pinned (OpenSpec.upto seekSaysSpec)

/-- 'fairlaw.MarkSays', WHERE WHAT IT READS IS OF BULK AT MOST 1048576: true; the input reads as it did. -/
def markSaysUptoRow : OpenClaim := { program := "ythnjaichbejifaa", sum := "b17736ed279ab771467296e574a823487604a511112cdf4bd2f592f1fec3d62b", func := "fairhand/fairlaw.MarkSays", spec := "markSays", apart := false, narrowed := true }
def MarkSaysUptoSaid : Prop := markSaysUptoRow.holds Try.pinned (OpenSpec.upto markSaysSpec)

/-- 'fairlaw.RegSays', WHERE WHAT IT READS IS OF BULK AT MOST 1048576: true; the input reads as it did. -/
def regSaysUptoRow : OpenClaim := { program := "ythnjaichbejifaa", sum := "b17736ed279ab771467296e574a823487604a511112cdf4bd2f592f1fec3d62b", func := "fairhand/fairlaw.RegSays", spec := "regSays", apart := false, narrowed := true }
def RegSaysUptoSaid : Prop := regSaysUptoRow.holds Try.pinned (OpenSpec.upto regSaysSpec)

/-- 'fairlaw.UtfSays', WHERE WHAT IT READS IS OF BULK AT MOST 1048576: true; the input reads as it did. -/
def utfSaysUptoRow : OpenClaim := { program := "ythnjaichbejifaa", sum := "b17736ed279ab771467296e574a823487604a511112cdf4bd2f592f1fec3d62b", func := "fairhand/fairlaw.UtfSays", spec := "utfSays", apart := false, narrowed := true }
def UtfSaysUptoSaid : Prop := utfSaysUptoRow.holds Try.pinned (OpenSpec.upto utfSaysSpec)

/-- 'fairlaw.SpliceOvers', WHERE WHAT IT READS IS OF BULK AT MOST 1048576: true; the input reads as it did. -/
def spliceOversUptoRow : OpenClaim := { program := "ythnjaichbejifaa", sum := "b17736ed279ab771467296e574a823487604a511112cdf4bd2f592f1fec3d62b", func := "fairhand/fairlaw.SpliceOvers", spec := "spliceOvers", unfollowed := true, recurses := true, apart := false, narrowed := true }
def SpliceOversUptoSaid : Prop := spliceOversUptoRow.holds Try.pinned (OpenSpec.upto spliceOversSpec)

/-- 'fairlaw.TermSays', WHERE WHAT IT READS IS OF BULK AT MOST 1048576: true; the input reads as it did. -/
def termSaysUptoRow : OpenClaim := { program := "ythnjaichbejifaa", sum := "b17736ed279ab771467296e574a823487604a511112cdf4bd2f592f1fec3d62b", func := "fairhand/fairlaw.TermSays", spec := "termSays", unfollowed := true, recurses := true, apart := false, narrowed := true }
def TermSaysUptoSaid : Prop := termSaysUptoRow.holds Try.pinned (OpenSpec.upto termSaysSpec)

end Rows
end Go.Proofs.Ythnjaichbejifaa
