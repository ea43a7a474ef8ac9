/-
  No cell of these rows narrows 'for every input' (looked for: loops, veiled, ifaces, maps, wideKeys, modest, calm, conditions, laid).
  DERIVED. THE GIVEN ROWS OF THIS SEAT. 13 by the template 'for every input the law returns true; each argument reads behind the call as it read before'; 0 by the template 'total and deterministic' (their statements: YtbgbcmfgncneiaaTotals.lean).
  GIVEN WITH THE SEED: the statements are not yours to turn. If you find one false, say at which input.
  Laid BY PROGRAM, IN A SANDBOX (cutbox-rows.mjs): the forced cells as the released guide's own fill.sh prints them over the translation ef0183a83f36a38b… (all of the seat's roots in one cut). By AI agents, Wed Nov 11 2026. No macro, syntax, notation, axiom, sorry.
-/
import Derived.Test.YtbgbcmfgncneiaaChecked
import GoSem.Claim
import GoSem.ClaimJoined
import GoSem.ClaimMapViews
import Derived.JoinedTies
import Derived.KernelRfl
namespace Go.Proofs.Ytbgbcmfgncneiaa
/- THE CELL 'sum', in the pinned program and in every row, IS THE sha256 OF THE DUMP (.gsa) THAT YtbgbcmfgncneiaaProg.lean LOADS. Nothing in Lean hashes anything: it is a label: what it is worth is what the hold of that sum in a sandbox is worth. -/
noncomputable def Try.pinned : Pinned := { name := "ytbgbcmfgncneiaa", sum := "ef0183a83f36a38bfb8ca222da4ba511b874290fea36ff336a254b5187cc8a44", checked := Try.checked }
namespace Rows
def none {H : Type} : Left H := { results := [], args := [] }

/-- 'fairlaw.MarkSays': WHATEVER THE INPUT: true; the input reads as it did. -/
def markSaysSpec : ChangeSpec := { name := "markSays", fn := fun _ => fun
  | [d1, d2, d3, d4, d5, d6] => { results := [.lit (.bool true)], args := [d1, d2, d3, d4, d5, d6] }
  | _ => none }
def markSaysRow : OpenClaim := { program := "ytbgbcmfgncneiaa", sum := "ef0183a83f36a38bfb8ca222da4ba511b874290fea36ff336a254b5187cc8a44", func := "fairhand/fairlaw.MarkSays", spec := "markSays", apart := false }
def MarkSaysSaid : Prop := markSaysRow.holds Try.pinned (OpenSpec.ofChange markSaysSpec)

/-- ITS FALSE NEIGHBOUR: 'it returns false'. Refute it at one input. -/
def markSaysWrong : ChangeSpec := { name := "markSays", fn := fun _ => fun
  | [d1, d2, d3, d4, d5, d6] => { results := [.lit (.bool false)], args := [d1, d2, d3, d4, d5, d6] }
  | _ => none }
def MarkSaysWrongFalsely : Prop := markSaysRow.holds Try.pinned (OpenSpec.ofChange markSaysWrong)

/-- 'fairlaw.RegSays': WHATEVER THE INPUT: true; the input reads as it did. -/
def regSaysSpec : ChangeSpec := { name := "regSays", fn := fun _ => fun
  | [d1, d2, d3] => { results := [.lit (.bool true)], args := [d1, d2, d3] }
  | _ => none }
def regSaysRow : OpenClaim := { program := "ytbgbcmfgncneiaa", sum := "ef0183a83f36a38bfb8ca222da4ba511b874290fea36ff336a254b5187cc8a44", func := "fairhand/fairlaw.RegSays", spec := "regSays", apart := false }
def RegSaysSaid : Prop := regSaysRow.holds Try.pinned (OpenSpec.ofChange regSaysSpec)

/-- ITS FALSE NEIGHBOUR: 'it returns false'. Refute it at one input. -/
def regSaysWrong : ChangeSpec := { name := "regSays", fn := fun _ => fun
  | [d1, d2, d3] => { results := [.lit (.bool false)], args := [d1, d2, d3] }
  | _ => none }
def RegSaysWrongFalsely : Prop := regSaysRow.holds Try.pinned (OpenSpec.ofChange regSaysWrong)

/-- 'fairlaw.UtfSays': WHATEVER THE INPUT: true; the input reads as it did. -/
def utfSaysSpec : ChangeSpec := { name := "utfSays", fn := fun _ => fun
  | [d1, d2, d3] => { results := [.lit (.bool true)], args := [d1, d2, d3] }
  | _ => none }
def utfSaysRow : OpenClaim := { program := "ytbgbcmfgncneiaa", sum := "ef0183a83f36a38bfb8ca222da4ba511b874290fea36ff336a254b5187cc8a44", func := "fairhand/fairlaw.UtfSays", spec := "utfSays", apart := false }
def UtfSaysSaid : Prop := utfSaysRow.holds Try.pinned (OpenSpec.ofChange utfSaysSpec)

/-- ITS FALSE NEIGHBOUR: 'it returns false'. Refute it at one input. -/
def utfSaysWrong : ChangeSpec := { name := "utfSays", fn := fun _ => fun
  | [d1, d2, d3] => { results := [.lit (.bool false)], args := [d1, d2, d3] }
  | _ => none }
def UtfSaysWrongFalsely : Prop := utfSaysRow.holds Try.pinned (OpenSpec.ofChange utfSaysWrong)

/-- 'fairlaw.SpliceOvers': WHATEVER THE INPUT: true; the input reads as it did. -/
def spliceOversSpec : ChangeSpec := { name := "spliceOvers", fn := fun _ => fun
  | [d1, d2, d3, d4] => { results := [.lit (.bool true)], args := [d1, d2, d3, d4] }
  | _ => none }
def spliceOversRow : OpenClaim := { program := "ytbgbcmfgncneiaa", sum := "ef0183a83f36a38bfb8ca222da4ba511b874290fea36ff336a254b5187cc8a44", func := "fairhand/fairlaw.SpliceOvers", spec := "spliceOvers", unfollowed := true, recurses := true, apart := false }
def SpliceOversSaid : Prop := spliceOversRow.holds Try.pinned (OpenSpec.ofChange spliceOversSpec)

/-- ITS FALSE NEIGHBOUR: 'it returns false'. Refute it at one input. -/
def spliceOversWrong : ChangeSpec := { name := "spliceOvers", fn := fun _ => fun
  | [d1, d2, d3, d4] => { results := [.lit (.bool false)], args := [d1, d2, d3, d4] }
  | _ => none }
def SpliceOversWrongFalsely : Prop := spliceOversRow.holds Try.pinned (OpenSpec.ofChange spliceOversWrong)

/-- 'fairlaw.SpliceSays': WHATEVER THE INPUT: true; the input reads as it did. -/
def spliceSaysSpec : ChangeSpec := { name := "spliceSays", fn := fun _ => fun
  | [d1, d2, d3, d4] => { results := [.lit (.bool true)], args := [d1, d2, d3, d4] }
  | _ => none }
def spliceSaysRow : OpenClaim := { program := "ytbgbcmfgncneiaa", sum := "ef0183a83f36a38bfb8ca222da4ba511b874290fea36ff336a254b5187cc8a44", func := "fairhand/fairlaw.SpliceSays", spec := "spliceSays", unfollowed := true, recurses := true, apart := false }
def SpliceSaysSaid : Prop := spliceSaysRow.holds Try.pinned (OpenSpec.ofChange spliceSaysSpec)

/-- ITS FALSE NEIGHBOUR: 'it returns false'. Refute it at one input. -/
def spliceSaysWrong : ChangeSpec := { name := "spliceSays", fn := fun _ => fun
  | [d1, d2, d3, d4] => { results := [.lit (.bool false)], args := [d1, d2, d3, d4] }
  | _ => none }
def SpliceSaysWrongFalsely : Prop := spliceSaysRow.holds Try.pinned (OpenSpec.ofChange spliceSaysWrong)

/-- 'fairlaw.KeysTakes': WHATEVER THE INPUT: true; the input reads as it did. -/
def keysTakesSpec : ChangeSpec := { name := "keysTakes", fn := fun _ => fun
  | [d1, d2] => { results := [.lit (.bool true)], args := [d1, d2] }
  | _ => none }
def keysTakesRow : OpenClaim := { program := "ytbgbcmfgncneiaa", sum := "ef0183a83f36a38bfb8ca222da4ba511b874290fea36ff336a254b5187cc8a44", func := "fairhand/fairlaw.KeysTakes", spec := "keysTakes", unfollowed := true, recurses := true, apart := false }
def KeysTakesSaid : Prop := keysTakesRow.holds Try.pinned (OpenSpec.ofChange keysTakesSpec)

/-- ITS FALSE NEIGHBOUR: 'it returns false'. Refute it at one input. -/
def keysTakesWrong : ChangeSpec := { name := "keysTakes", fn := fun _ => fun
  | [d1, d2] => { results := [.lit (.bool false)], args := [d1, d2] }
  | _ => none }
def KeysTakesWrongFalsely : Prop := keysTakesRow.holds Try.pinned (OpenSpec.ofChange keysTakesWrong)

/-- 'fairlaw.ObjectSays': WHATEVER THE INPUT: true; the input reads as it did. -/
def objectSaysSpec : ChangeSpec := { name := "objectSays", fn := fun _ => fun
  | [d1, d2, d3, d4] => { results := [.lit (.bool true)], args := [d1, d2, d3, d4] }
  | _ => none }
def objectSaysRow : OpenClaim := { program := "ytbgbcmfgncneiaa", sum := "ef0183a83f36a38bfb8ca222da4ba511b874290fea36ff336a254b5187cc8a44", func := "fairhand/fairlaw.ObjectSays", spec := "objectSays", apart := false }
def ObjectSaysSaid : Prop := objectSaysRow.holds Try.pinned (OpenSpec.ofChange objectSaysSpec)

/-- ITS FALSE NEIGHBOUR: 'it returns false'. Refute it at one input. -/
def objectSaysWrong : ChangeSpec := { name := "objectSays", fn := fun _ => fun
  | [d1, d2, d3, d4] => { results := [.lit (.bool false)], args := [d1, d2, d3, d4] }
  | _ => none }
def ObjectSaysWrongFalsely : Prop := objectSaysRow.holds Try.pinned (OpenSpec.ofChange objectSaysWrong)

/-- 'fairlaw.FeedSays': WHATEVER THE INPUT: true; the input reads as it did. -/
def feedSaysSpec : ChangeSpec := { name := "feedSays", fn := fun _ => fun
  | [d1, d2] => { results := [.lit (.bool true)], args := [d1, d2] }
  | _ => none }
def feedSaysRow : OpenClaim := { program := "ytbgbcmfgncneiaa", sum := "ef0183a83f36a38bfb8ca222da4ba511b874290fea36ff336a254b5187cc8a44", func := "fairhand/fairlaw.FeedSays", spec := "feedSays", apart := false }
def FeedSaysSaid : Prop := feedSaysRow.holds Try.pinned (OpenSpec.ofChange feedSaysSpec)

/-- ITS FALSE NEIGHBOUR: 'it returns false'. Refute it at one input. -/
def feedSaysWrong : ChangeSpec := { name := "feedSays", fn := fun _ => fun
  | [d1, d2] => { results := [.lit (.bool false)], args := [d1, d2] }
  | _ => none }
def FeedSaysWrongFalsely : Prop := feedSaysRow.holds Try.pinned (OpenSpec.ofChange feedSaysWrong)

/-- 'fairlaw.HistMoves': WHATEVER THE INPUT: true; the input reads as it did. -/
def histMovesSpec : ChangeSpec := { name := "histMoves", fn := fun _ => fun
  | [d1, d2, d3] => { results := [.lit (.bool true)], args := [d1, d2, d3] }
  | _ => none }
def histMovesRow : OpenClaim := { program := "ytbgbcmfgncneiaa", sum := "ef0183a83f36a38bfb8ca222da4ba511b874290fea36ff336a254b5187cc8a44", func := "fairhand/fairlaw.HistMoves", spec := "histMoves", unfollowed := true, recurses := true, apart := false }
def HistMovesSaid : Prop := histMovesRow.holds Try.pinned (OpenSpec.ofChange histMovesSpec)

/-- ITS FALSE NEIGHBOUR: 'it returns false'. Refute it at one input. -/
def histMovesWrong : ChangeSpec := { name := "histMoves", fn := fun _ => fun
  | [d1, d2, d3] => { results := [.lit (.bool false)], args := [d1, d2, d3] }
  | _ => none }
def HistMovesWrongFalsely : Prop := histMovesRow.holds Try.pinned (OpenSpec.ofChange histMovesWrong)

/-- 'fairlaw.PaintSays': WHATEVER THE INPUT: true; the input reads as it did. -/
def paintSaysSpec : ChangeSpec := { name := "paintSays", fn := fun _ => fun
  | [d1, d2] => { results := [.lit (.bool true)], args := [d1, d2] }
  | _ => none }
def paintSaysRow : OpenClaim := { program := "ytbgbcmfgncneiaa", sum := "ef0183a83f36a38bfb8ca222da4ba511b874290fea36ff336a254b5187cc8a44", func := "fairhand/fairlaw.PaintSays", spec := "paintSays", unfollowed := true, recurses := true, apart := false }
def PaintSaysSaid : Prop := paintSaysRow.holds Try.pinned (OpenSpec.ofChange paintSaysSpec)

/-- ITS FALSE NEIGHBOUR: 'it returns false'. Refute it at one input. -/
def paintSaysWrong : ChangeSpec := { name := "paintSays", fn := fun _ => fun
  | [d1, d2] => { results := [.lit (.bool false)], args := [d1, d2] }
  | _ => none }
def PaintSaysWrongFalsely : Prop := paintSaysRow.holds Try.pinned (OpenSpec.ofChange paintSaysWrong)

/-- 'fairlaw.HistFinds': WHATEVER THE INPUT: true; the input reads as it did. -/
def histFindsSpec : ChangeSpec := { name := "histFinds", fn := fun _ => fun
  | [d1, d2, d3, d4, d5] => { results := [.lit (.bool true)], args := [d1, d2, d3, d4, d5] }
  | _ => none }
def histFindsRow : OpenClaim := { program := "ytbgbcmfgncneiaa", sum := "ef0183a83f36a38bfb8ca222da4ba511b874290fea36ff336a254b5187cc8a44", func := "fairhand/fairlaw.HistFinds", spec := "histFinds", unfollowed := true, recurses := true, apart := false }
def HistFindsSaid : Prop := histFindsRow.holds Try.pinned (OpenSpec.ofChange histFindsSpec)

/-- ITS FALSE NEIGHBOUR: 'it returns false'. Refute it at one input. -/
def histFindsWrong : ChangeSpec := { name := "histFinds", fn := fun _ => fun
  | [d1, d2, d3, d4, d5] => { results := [.lit (.bool false)], args := [d1, d2, d3, d4, d5] }
  | _ => none }
def HistFindsWrongFalsely : Prop := histFindsRow.holds Try.pinned (OpenSpec.ofChange histFindsWrong)

/-- 'fairlaw.KeysAll': WHATEVER THE INPUT: true; the input reads as it did. -/
def keysAllSpec : ChangeSpec := { name := "keysAll", fn := fun _ => fun
  | [d1, d2] => { results := [.lit (.bool true)], args := [d1, d2] }
  | _ => none }
def keysAllRow : OpenClaim := { program := "ytbgbcmfgncneiaa", sum := "ef0183a83f36a38bfb8ca222da4ba511b874290fea36ff336a254b5187cc8a44", func := "fairhand/fairlaw.KeysAll", spec := "keysAll", unfollowed := true, recurses := true, apart := false }
def KeysAllSaid : Prop := keysAllRow.holds Try.pinned (OpenSpec.ofChange keysAllSpec)

/-- ITS FALSE NEIGHBOUR: 'it returns false'. Refute it at one input. -/
def keysAllWrong : ChangeSpec := { name := "keysAll", fn := fun _ => fun
  | [d1, d2] => { results := [.lit (.bool false)], args := [d1, d2] }
  | _ => none }
def KeysAllWrongFalsely : Prop := keysAllRow.holds Try.pinned (OpenSpec.ofChange keysAllWrong)

/-- 'fairlaw.MotionSays': WHATEVER THE INPUT: true; the input reads as it did. -/
def motionSaysSpec : ChangeSpec := { name := "motionSays", fn := fun _ => fun
  | [d1, d2, d3, d4] => { results := [.lit (.bool true)], args := [d1, d2, d3, d4] }
  | _ => none }
def motionSaysRow : OpenClaim := { program := "ytbgbcmfgncneiaa", sum := "ef0183a83f36a38bfb8ca222da4ba511b874290fea36ff336a254b5187cc8a44", func := "fairhand/fairlaw.MotionSays", spec := "motionSays", unfollowed := true, recurses := true, apart := false }
def MotionSaysSaid : Prop := motionSaysRow.holds Try.pinned (OpenSpec.ofChange motionSaysSpec)

/-- ITS FALSE NEIGHBOUR: 'it returns false'. Refute it at one input. -/
def motionSaysWrong : ChangeSpec := { name := "motionSays", fn := fun _ => fun
  | [d1, d2, d3, d4] => { results := [.lit (.bool false)], args := [d1, d2, d3, d4] }
  | _ => none }
def MotionSaysWrongFalsely : Prop := motionSaysRow.holds Try.pinned (OpenSpec.ofChange motionSaysWrong)

/- THE SECOND FORM. 'bulk': how many values and letters a reading holds, each counted each time it is reached (what is shared counts as often as it is met; a slice's spare places count too). A statement '..UptoSaid' is the law's where the arguments, and the package variables that the reading takes, are together of bulk at most 1048576: NARROWER than '..Said'. Prove '..Said' where nothing that the law and all that it calls make is longer than what came in: it says more and counts as full. Else prove '..UptoSaid'. A law counts once. -/
mutual
def uptoBulk {H : Type} : DataW H → Nat
  | .lit (.string bytes) => bytes.length + 1
  | .lit _ => 1
  | .nil => 1
  | .ptr d => uptoBulk d + 1
  | .slice elems spare => uptoBulkAll elems + uptoBulkAll spare + 1
  | .agg parts => uptoBulkAll parts + 1
  | .iface _ d => uptoBulk d + 1
  | .map entries => uptoBulkEntries entries + 1
  | .held _ => 1
def uptoBulkAll {H : Type} : List (DataW H) → Nat
  | [] => 0
  | d :: r => uptoBulk d + uptoBulkAll r
def uptoBulkEntries {H : Type} : List (Lit × DataW H) → Nat
  | [] => 0
  | x :: r => uptoBulkEntry x + uptoBulkEntries r
def uptoBulkEntry {H : Type} : Lit × DataW H → Nat
  | (.string bytes, d) => bytes.length + uptoBulk d + 1
  | (_, d) => uptoBulk d + 1
 end
def uptoSmall : (H : Type) → List (DataW H) → Bool := fun _ ds => decide (uptoBulkAll ds ≤ 1048576)
def OpenSpec.upto (s : _root_.Go.ChangeSpec) : _root_.Go.OpenSpec := { _root_.Go.OpenSpec.ofChange s with cond := some uptoSmall }

/-- 'fairlaw.MarkSays', WHERE WHAT IT READS IS OF BULK AT MOST 1048576: true; the input reads as it did. -/
def markSaysUptoRow : OpenClaim := { program := "ytbgbcmfgncneiaa", sum := "ef0183a83f36a38bfb8ca222da4ba511b874290fea36ff336a254b5187cc8a44", func := "fairhand/fairlaw.MarkSays", spec := "markSays", apart := false, narrowed := true }
def MarkSaysUptoSaid : Prop := markSaysUptoRow.holds Try.pinned (OpenSpec.upto markSaysSpec)

/-- 'fairlaw.RegSays', WHERE WHAT IT READS IS OF BULK AT MOST 1048576: true; the input reads as it did. -/
def regSaysUptoRow : OpenClaim := { program := "ytbgbcmfgncneiaa", sum := "ef0183a83f36a38bfb8ca222da4ba511b874290fea36ff336a254b5187cc8a44", func := "fairhand/fairlaw.RegSays", spec := "regSays", apart := false, narrowed := true }
def RegSaysUptoSaid : Prop := regSaysUptoRow.holds Try.pinned (OpenSpec.upto regSaysSpec)

/-- 'fairlaw.UtfSays', WHERE WHAT IT READS IS OF BULK AT MOST 1048576: true; the input reads as it did. -/
def utfSaysUptoRow : OpenClaim := { program := "ytbgbcmfgncneiaa", sum := "ef0183a83f36a38bfb8ca222da4ba511b874290fea36ff336a254b5187cc8a44", func := "fairhand/fairlaw.UtfSays", spec := "utfSays", apart := false, narrowed := true }
def UtfSaysUptoSaid : Prop := utfSaysUptoRow.holds Try.pinned (OpenSpec.upto utfSaysSpec)

/-- 'fairlaw.SpliceOvers', WHERE WHAT IT READS IS OF BULK AT MOST 1048576: true; the input reads as it did. -/
def spliceOversUptoRow : OpenClaim := { program := "ytbgbcmfgncneiaa", sum := "ef0183a83f36a38bfb8ca222da4ba511b874290fea36ff336a254b5187cc8a44", func := "fairhand/fairlaw.SpliceOvers", spec := "spliceOvers", unfollowed := true, recurses := true, apart := false, narrowed := true }
def SpliceOversUptoSaid : Prop := spliceOversUptoRow.holds Try.pinned (OpenSpec.upto spliceOversSpec)

/-- 'fairlaw.SpliceSays', WHERE WHAT IT READS IS OF BULK AT MOST 1048576: true; the input reads as it did. -/
def spliceSaysUptoRow : OpenClaim := { program := "ytbgbcmfgncneiaa", sum := "ef0183a83f36a38bfb8ca222da4ba511b874290fea36ff336a254b5187cc8a44", func := "fairhand/fairlaw.SpliceSays", spec := "spliceSays", unfollowed := true, recurses := true, apart := false, narrowed := true }
def SpliceSaysUptoSaid : Prop := spliceSaysUptoRow.holds Try.pinned (OpenSpec.upto spliceSaysSpec)

/-- 'fairlaw.KeysTakes', WHERE WHAT IT READS IS OF BULK AT MOST 1048576: true; the input reads as it did. -/
def keysTakesUptoRow : OpenClaim := { program := "ytbgbcmfgncneiaa", sum := "ef0183a83f36a38bfb8ca222da4ba511b874290fea36ff336a254b5187cc8a44", func := "fairhand/fairlaw.KeysTakes", spec := "keysTakes", unfollowed := true, recurses := true, apart := false, narrowed := true }
def KeysTakesUptoSaid : Prop := keysTakesUptoRow.holds Try.pinned (OpenSpec.upto keysTakesSpec)

/-- 'fairlaw.ObjectSays', WHERE WHAT IT READS IS OF BULK AT MOST 1048576: true; the input reads as it did. -/
def objectSaysUptoRow : OpenClaim := { program := "ytbgbcmfgncneiaa", sum := "ef0183a83f36a38bfb8ca222da4ba511b874290fea36ff336a254b5187cc8a44", func := "fairhand/fairlaw.ObjectSays", spec := "objectSays", apart := false, narrowed := true }
def ObjectSaysUptoSaid : Prop := objectSaysUptoRow.holds Try.pinned (OpenSpec.upto objectSaysSpec)

/-- 'fairlaw.FeedSays', WHERE WHAT IT READS IS OF BULK AT MOST 1048576: true; the input reads as it did. -/
def feedSaysUptoRow : OpenClaim := { program := "ytbgbcmfgncneiaa", sum := "ef0183a83f36a38bfb8ca222da4ba511b874290fea36ff336a254b5187cc8a44", func := "fairhand/fairlaw.FeedSays", spec := "feedSays", apart := false, narrowed := true }
def FeedSaysUptoSaid : Prop := feedSaysUptoRow.holds Try.pinned (OpenSpec.upto feedSaysSpec)

/-- 'fairlaw.HistMoves', WHERE WHAT IT READS IS OF BULK AT MOST 1048576: true; the input reads as it did. -/
def histMovesUptoRow : OpenClaim := { program := "ytbgbcmfgncneiaa", sum := "ef0183a83f36a38bfb8ca222da4ba511b874290fea36ff336a254b5187cc8a44", func := "fairhand/fairlaw.HistMoves", spec := "histMoves", unfollowed := true, recurses := true, apart := false, narrowed := true }
def HistMovesUptoSaid : Prop := histMovesUptoRow.holds Try.pinned (OpenSpec.upto histMovesSpec)

/-- 'fairlaw.PaintSays', WHERE WHAT IT READS IS OF BULK AT MOST 1048576: true; the input reads as it did. -/
def paintSaysUptoRow : OpenClaim := { program := "ytbgbcmfgncneiaa", sum := "ef0183a83f36a38bfb8ca222da4ba511b874290fea36ff336a254b5187cc8a44", func := "fairhand/fairlaw.PaintSays", spec := "paintSays", unfollowed := true, recurses := true, apart := false, narrowed := true }
def PaintSaysUptoSaid : Prop := paintSaysUptoRow.holds Try.pinned (OpenSpec.upto paintSaysSpec)

/-- 'fairlaw.HistFinds', WHERE WHAT IT READS IS OF BULK AT MOST 1048576: true; the input reads as it did. -/
def histFindsUptoRow : OpenClaim := { program := "ytbgbcmfgncneiaa", sum := "ef0183a83f36a38bfb8ca222da4ba511b874290fea36ff336a254b5187cc8a44", func := "fairhand/fairlaw.HistFinds", spec := "histFinds", unfollowed := true, recurses := true, apart := false, narrowed := true }
def HistFindsUptoSaid : Prop := histFindsUptoRow.holds Try.pinned (OpenSpec.upto histFindsSpec)

/-- 'fairlaw.KeysAll', WHERE WHAT IT READS IS OF BULK AT MOST 1048576: true; the input reads as it did. -/
def keysAllUptoRow : OpenClaim := { program := "ytbgbcmfgncneiaa", sum := "ef0183a83f36a38bfb8ca222da4ba511b874290fea36ff336a254b5187cc8a44", func := "fairhand/fairlaw.KeysAll", spec := "keysAll", unfollowed := true, recurses := true, apart := false, narrowed := true }
def KeysAllUptoSaid : Prop := keysAllUptoRow.holds Try.pinned (OpenSpec.upto keysAllSpec)

/-- 'fairlaw.MotionSays', WHERE WHAT IT READS IS OF BULK AT MOST 1048576: true; the input reads as it did. -/
def motionSaysUptoRow : OpenClaim := { program := "ytbgbcmfgncneiaa", sum := "ef0183a83f36a38bfb8ca222da4ba511b874290fea36ff336a254b5187cc8a44", func := "fairhand/fairlaw.MotionSays", spec := "motionSays", unfollowed := true, recurses := true, apart := false, narrowed := true }
def MotionSaysUptoSaid : Prop := motionSaysUptoRow.holds Try.pinned (OpenSpec.upto motionSaysSpec)

end Rows
end Go.Proofs.Ytbgbcmfgncneiaa
