/-
  No cell of these rows narrows 'for every input' (looked for: loops, veiled, ifaces, maps, wideKeys, modest, calm, conditions, laid).
  DERIVED. THE GIVEN ROWS OF THIS SEAT. 10 by the template 'for every input the law returns true; each argument reads behind the call as it read before'; 0 by the template 'total and deterministic' (their statements: YtmipnikhgihcpaaTotals.lean).
  GIVEN WITH THE SEED: the statements are not yours to turn. If you find one false, say at which input.
  Laid BY PROGRAM, IN A SANDBOX (cutbox-rows.mjs): the forced cells as the released guide's own fill.sh prints them over the translation 8e1b1f1ef55b029b… (all of the seat's roots in one cut). By AI agents, Wed Nov 11 2026. No macro, syntax, notation, axiom, sorry.
-/
import Derived.Test.YtmipnikhgihcpaaChecked
import GoSem.Claim
import GoSem.ClaimJoined
import GoSem.ClaimMapViews
import Derived.JoinedTies
import Derived.KernelRfl
namespace Go.Proofs.Ytmipnikhgihcpaa
/- THE CELL 'sum', in the pinned program and in every row, IS THE sha256 OF THE DUMP (.gsa) THAT YtmipnikhgihcpaaProg.lean LOADS. Nothing in Lean hashes anything: it is a label: what it is worth is what the hold of that sum in a sandbox is worth. -/
noncomputable def Try.pinned : Pinned := { name := "ytmipnikhgihcpaa", sum := "8e1b1f1ef55b029b3bcb58b8c5030583d04f569214094d06d2cae59bba61d178", checked := Try.checked }
namespace Rows
def none {H : Type} : Left H := { results := [], args := [] }

/-- 'fairlaw.UtfSays': WHATEVER THE INPUT: true; the input reads as it did. -/
def utfSaysSpec : ChangeSpec := { name := "utfSays", fn := fun _ => fun
  | [d1, d2, d3] => { results := [.lit (.bool true)], args := [d1, d2, d3] }
  | _ => none }
def utfSaysRow : OpenClaim := { program := "ytmipnikhgihcpaa", sum := "8e1b1f1ef55b029b3bcb58b8c5030583d04f569214094d06d2cae59bba61d178", func := "fairhand/fairlaw.UtfSays", spec := "utfSays", plainKeys := false, apart := false }
def UtfSaysSaid : Prop := utfSaysRow.holds Try.pinned (OpenSpec.ofChange utfSaysSpec)

/-- ITS FALSE NEIGHBOUR: 'it returns false'. Refute it at one input. -/
def utfSaysWrong : ChangeSpec := { name := "utfSays", fn := fun _ => fun
  | [d1, d2, d3] => { results := [.lit (.bool false)], args := [d1, d2, d3] }
  | _ => none }
def UtfSaysWrongFalsely : Prop := utfSaysRow.holds Try.pinned (OpenSpec.ofChange utfSaysWrong)

/-- 'fairlaw.FeedSays': WHATEVER THE INPUT: true; the input reads as it did. -/
def feedSaysSpec : ChangeSpec := { name := "feedSays", fn := fun _ => fun
  | [d1, d2] => { results := [.lit (.bool true)], args := [d1, d2] }
  | _ => none }
def feedSaysRow : OpenClaim := { program := "ytmipnikhgihcpaa", sum := "8e1b1f1ef55b029b3bcb58b8c5030583d04f569214094d06d2cae59bba61d178", func := "fairhand/fairlaw.FeedSays", spec := "feedSays", plainKeys := false, apart := false }
def FeedSaysSaid : Prop := feedSaysRow.holds Try.pinned (OpenSpec.ofChange feedSaysSpec)

/-- ITS FALSE NEIGHBOUR: 'it returns false'. Refute it at one input. -/
def feedSaysWrong : ChangeSpec := { name := "feedSays", fn := fun _ => fun
  | [d1, d2] => { results := [.lit (.bool false)], args := [d1, d2] }
  | _ => none }
def FeedSaysWrongFalsely : Prop := feedSaysRow.holds Try.pinned (OpenSpec.ofChange feedSaysWrong)

/-- 'fairlaw.HistMoves': WHATEVER THE INPUT: true; the input reads as it did. -/
def histMovesSpec : ChangeSpec := { name := "histMoves", fn := fun _ => fun
  | [d1, d2, d3] => { results := [.lit (.bool true)], args := [d1, d2, d3] }
  | _ => none }
def histMovesRow : OpenClaim := { program := "ytmipnikhgihcpaa", sum := "8e1b1f1ef55b029b3bcb58b8c5030583d04f569214094d06d2cae59bba61d178", func := "fairhand/fairlaw.HistMoves", spec := "histMoves", unfollowed := true, recurses := true, plainKeys := false, apart := false }
def HistMovesSaid : Prop := histMovesRow.holds Try.pinned (OpenSpec.ofChange histMovesSpec)

/-- ITS FALSE NEIGHBOUR: 'it returns false'. Refute it at one input. -/
def histMovesWrong : ChangeSpec := { name := "histMoves", fn := fun _ => fun
  | [d1, d2, d3] => { results := [.lit (.bool false)], args := [d1, d2, d3] }
  | _ => none }
def HistMovesWrongFalsely : Prop := histMovesRow.holds Try.pinned (OpenSpec.ofChange histMovesWrong)

/-- 'fairlaw.PaintSays': WHATEVER THE INPUT: true; the input reads as it did. -/
def paintSaysSpec : ChangeSpec := { name := "paintSays", fn := fun _ => fun
  | [d1, d2] => { results := [.lit (.bool true)], args := [d1, d2] }
  | _ => none }
def paintSaysRow : OpenClaim := { program := "ytmipnikhgihcpaa", sum := "8e1b1f1ef55b029b3bcb58b8c5030583d04f569214094d06d2cae59bba61d178", func := "fairhand/fairlaw.PaintSays", spec := "paintSays", unfollowed := true, recurses := true, plainKeys := false, apart := false }
def PaintSaysSaid : Prop := paintSaysRow.holds Try.pinned (OpenSpec.ofChange paintSaysSpec)

/-- ITS FALSE NEIGHBOUR: 'it returns false'. Refute it at one input. -/
def paintSaysWrong : ChangeSpec := { name := "paintSays", fn := fun _ => fun
  | [d1, d2] => { results := [.lit (.bool false)], args := [d1, d2] }
  | _ => none }
def PaintSaysWrongFalsely : Prop := paintSaysRow.holds Try.pinned (OpenSpec.ofChange paintSaysWrong)

/-- 'fairlaw.RopeSays': WHATEVER THE INPUT: true; the input reads as it did. -/
def ropeSaysSpec : ChangeSpec := { name := "ropeSays", fn := fun _ => fun
  | [d1, d2, d3, d4] => { results := [.lit (.bool true)], args := [d1, d2, d3, d4] }
  | _ => none }
def ropeSaysRow : OpenClaim := { program := "ytmipnikhgihcpaa", sum := "8e1b1f1ef55b029b3bcb58b8c5030583d04f569214094d06d2cae59bba61d178", func := "fairhand/fairlaw.RopeSays", spec := "ropeSays", unfollowed := true, recurses := true, plainKeys := false, apart := false }
def RopeSaysSaid : Prop := ropeSaysRow.holds Try.pinned (OpenSpec.ofChange ropeSaysSpec)

/-- ITS FALSE NEIGHBOUR: 'it returns false'. Refute it at one input. -/
def ropeSaysWrong : ChangeSpec := { name := "ropeSays", fn := fun _ => fun
  | [d1, d2, d3, d4] => { results := [.lit (.bool false)], args := [d1, d2, d3, d4] }
  | _ => none }
def RopeSaysWrongFalsely : Prop := ropeSaysRow.holds Try.pinned (OpenSpec.ofChange ropeSaysWrong)

/-- 'fairlaw.KeysAll': WHATEVER THE INPUT: true; the input reads as it did. -/
def keysAllSpec : ChangeSpec := { name := "keysAll", fn := fun _ => fun
  | [d1, d2] => { results := [.lit (.bool true)], args := [d1, d2] }
  | _ => none }
def keysAllRow : OpenClaim := { program := "ytmipnikhgihcpaa", sum := "8e1b1f1ef55b029b3bcb58b8c5030583d04f569214094d06d2cae59bba61d178", func := "fairhand/fairlaw.KeysAll", spec := "keysAll", unfollowed := true, recurses := true, plainKeys := false, apart := false }
def KeysAllSaid : Prop := keysAllRow.holds Try.pinned (OpenSpec.ofChange keysAllSpec)

/-- ITS FALSE NEIGHBOUR: 'it returns false'. Refute it at one input. -/
def keysAllWrong : ChangeSpec := { name := "keysAll", fn := fun _ => fun
  | [d1, d2] => { results := [.lit (.bool false)], args := [d1, d2] }
  | _ => none }
def KeysAllWrongFalsely : Prop := keysAllRow.holds Try.pinned (OpenSpec.ofChange keysAllWrong)

/-- 'fairlaw.AbbrSays': WHATEVER THE INPUT: true; the input reads as it did. -/
def abbrSaysSpec : ChangeSpec := { name := "abbrSays", fn := fun _ => fun
  | [d1, d2, d3] => { results := [.lit (.bool true)], args := [d1, d2, d3] }
  | _ => none }
def abbrSaysRow : OpenClaim := { program := "ytmipnikhgihcpaa", sum := "8e1b1f1ef55b029b3bcb58b8c5030583d04f569214094d06d2cae59bba61d178", func := "fairhand/fairlaw.AbbrSays", spec := "abbrSays", unfollowed := true, recurses := true, plainKeys := false, apart := false }
def AbbrSaysSaid : Prop := abbrSaysRow.holds Try.pinned (OpenSpec.ofChange abbrSaysSpec)

/-- ITS FALSE NEIGHBOUR: 'it returns false'. Refute it at one input. -/
def abbrSaysWrong : ChangeSpec := { name := "abbrSays", fn := fun _ => fun
  | [d1, d2, d3] => { results := [.lit (.bool false)], args := [d1, d2, d3] }
  | _ => none }
def AbbrSaysWrongFalsely : Prop := abbrSaysRow.holds Try.pinned (OpenSpec.ofChange abbrSaysWrong)

/-- 'fairlaw.NearSays': WHATEVER THE INPUT: true; the input reads as it did. -/
def nearSaysSpec : ChangeSpec := { name := "nearSays", fn := fun _ => fun
  | [d1, d2, d3] => { results := [.lit (.bool true)], args := [d1, d2, d3] }
  | _ => none }
def nearSaysRow : OpenClaim := { program := "ytmipnikhgihcpaa", sum := "8e1b1f1ef55b029b3bcb58b8c5030583d04f569214094d06d2cae59bba61d178", func := "fairhand/fairlaw.NearSays", spec := "nearSays", unfollowed := true, recurses := true, plainKeys := false, apart := false }
def NearSaysSaid : Prop := nearSaysRow.holds Try.pinned (OpenSpec.ofChange nearSaysSpec)

/-- ITS FALSE NEIGHBOUR: 'it returns false'. Refute it at one input. -/
def nearSaysWrong : ChangeSpec := { name := "nearSays", fn := fun _ => fun
  | [d1, d2, d3] => { results := [.lit (.bool false)], args := [d1, d2, d3] }
  | _ => none }
def NearSaysWrongFalsely : Prop := nearSaysRow.holds Try.pinned (OpenSpec.ofChange nearSaysWrong)

/-- 'fairlaw.TrieSays': WHATEVER THE INPUT: true; the input reads as it did. -/
def trieSaysSpec : ChangeSpec := { name := "trieSays", fn := fun _ => fun
  | [d1, d2, d3] => { results := [.lit (.bool true)], args := [d1, d2, d3] }
  | _ => none }
def trieSaysRow : OpenClaim := { program := "ytmipnikhgihcpaa", sum := "8e1b1f1ef55b029b3bcb58b8c5030583d04f569214094d06d2cae59bba61d178", func := "fairhand/fairlaw.TrieSays", spec := "trieSays", inPlace := ["slices.overlaps[[]int]"], unfollowed := true, recurses := true, plainKeys := false, apart := false }
def TrieSaysSaid : Prop := trieSaysRow.holds Try.pinned (OpenSpec.ofChange trieSaysSpec)

/-- ITS FALSE NEIGHBOUR: 'it returns false'. Refute it at one input. -/
def trieSaysWrong : ChangeSpec := { name := "trieSays", fn := fun _ => fun
  | [d1, d2, d3] => { results := [.lit (.bool false)], args := [d1, d2, d3] }
  | _ => none }
def TrieSaysWrongFalsely : Prop := trieSaysRow.holds Try.pinned (OpenSpec.ofChange trieSaysWrong)

/-- 'fairlaw.EditDoes': WHATEVER THE INPUT: true; the input reads as it did. -/
def editDoesSpec : ChangeSpec := { name := "editDoes", fn := fun _ => fun
  | [d1, d2, d3, d4] => { results := [.lit (.bool true)], args := [d1, d2, d3, d4] }
  | _ => none }
def editDoesRow : OpenClaim := { program := "ytmipnikhgihcpaa", sum := "8e1b1f1ef55b029b3bcb58b8c5030583d04f569214094d06d2cae59bba61d178", func := "fairhand/fairlaw.EditDoes", spec := "editDoes", unfollowed := true, recurses := true, plainKeys := false, apart := false }
def EditDoesSaid : Prop := editDoesRow.holds Try.pinned (OpenSpec.ofChange editDoesSpec)

/-- ITS FALSE NEIGHBOUR: 'it returns false'. Refute it at one input. -/
def editDoesWrong : ChangeSpec := { name := "editDoes", fn := fun _ => fun
  | [d1, d2, d3, d4] => { results := [.lit (.bool false)], args := [d1, d2, d3, d4] }
  | _ => none }
def EditDoesWrongFalsely : Prop := editDoesRow.holds Try.pinned (OpenSpec.ofChange editDoesWrong)

/- THE SECOND FORM. 'bulk': how many values and letters a reading holds, each counted each time it is reached (what is shared counts as often as it is met; a slice's spare places count too). A statement '..UptoSaid' is the law's where the arguments, and the package variables that the reading takes, are together of bulk at most 1048576: NARROWER than '..Said'. Prove '..Said' where nothing that the law and all that it calls make is longer than what came in: it says more and counts as full. Else prove '..UptoSaid'. A law counts once. -/
mutual
def uptoBulk {H : Type} : DataW H → Nat
  | .lit (.string bytes) => bytes.length + 1
  | .lit _ => 1
  | .nil => 1
  | .ptr d => uptoBulk d + 1
  | .slice elems spare => uptoBulkAll elems + uptoBulkAll spare + 1
  | .agg parts => uptoBulkAll parts + 1
  | .iface _ d => uptoBulk d + 1
  | .map entries => uptoBulkEntries entries + 1
  | .held _ => 1
def uptoBulkAll {H : Type} : List (DataW H) → Nat
  | [] => 0
  | d :: r => uptoBulk d + uptoBulkAll r
def uptoBulkEntries {H : Type} : List (Lit × DataW H) → Nat
  | [] => 0
  | x :: r => uptoBulkEntry x + uptoBulkEntries r
def uptoBulkEntry {H : Type} : Lit × DataW H → Nat
  | (.string bytes, d) => bytes.length + uptoBulk d + 1
  | (_, d) => uptoBulk d + 1
 end
def uptoSmall : (H : Type) → List (DataW H) → Bool := fun _ ds => decide (uptoBulkAll ds ≤ 1048576)
def OpenSpec.upto (s : _root_.Go.ChangeSpec) : _root_.Go.OpenSpec := { _root_.Go.OpenSpec.ofChange s with cond := some uptoSmall }

/-- 'fairlaw.UtfSays', WHERE WHAT IT READS IS OF BULK AT MOST 1048576: true; the input reads as it did. -/
def utfSaysUptoRow : OpenClaim := { program := "ytmipnikhgihcpaa", sum := "8e1b1f1ef55b029b3bcb58b8c5030583d04f569214094d06d2cae59bba61d178", func := "fairhand/fairlaw.UtfSays", spec := "utfSays", plainKeys := false, apart := false, narrowed := true }
def UtfSaysUptoSaid : Prop := utfSaysUptoRow.holds Try.pinned (OpenSpec.upto utfSaysSpec)

/-- 'fairlaw.FeedSays', WHERE WHAT IT READS IS OF BULK AT MOST 1048576: true; the input reads as it did. -/
def feedSaysUptoRow : OpenClaim := { program := "ytmipnikhgihcpaa", sum := "8e1b1f1ef55b029b3bcb58b8c5030583d04f569214094d06d2cae59bba61d178", func := "fairhand/fairlaw.FeedSays", spec := "feedSays", plainKeys := false, apart := false, narrowed := true }
def FeedSaysUptoSaid : Prop := feedSaysUptoRow.holds Try.pinned (OpenSpec.upto feedSaysSpec)

/-- 'fairlaw.HistMoves', WHERE WHAT IT READS IS OF BULK AT MOST 1048576: true; the input reads as it did. -/
def histMovesUptoRow : OpenClaim := { program := "ytmipnikhgihcpaa", sum := "8e1b1f1ef55b029b3bcb58b8c5030583d04f569214094d06d2cae59bba61d178", func := "fairhand/fairlaw.HistMoves", spec := "histMoves", unfollowed := true, recurses := true, plainKeys := false, apart := false, narrowed := true }
def HistMovesUptoSaid : Prop := histMovesUptoRow.holds Try.pinned (OpenSpec.upto histMovesSpec)

/-- 'fairlaw.PaintSays', WHERE WHAT IT READS IS OF BULK AT MOST 1048576: true; the input reads as it did. -/
def paintSaysUptoRow : OpenClaim := { program := "ytmipnikhgihcpaa", sum := "8e1b1f1ef55b029b3bcb58b8c5030583d04f569214094d06d2cae59bba61d178", func := "fairhand/fairlaw.PaintSays", spec := "paintSays", unfollowed := true, recurses := true, plainKeys := false, apart := false, narrowed := true }
def PaintSaysUptoSaid : Prop := paintSaysUptoRow.holds Try.pinned (OpenSpec.upto paintSaysSpec)

/-- 'fairlaw.RopeSays', WHERE WHAT IT READS IS OF BULK AT MOST 1048576: true; the input reads as it did. -/
def ropeSaysUptoRow : OpenClaim := { program := "ytmipnikhgihcpaa", sum := "8e1b1f1ef55b029b3bcb58b8c5030583d04f569214094d06d2cae59bba61d178", func := "fairhand/fairlaw.RopeSays", spec := "ropeSays", unfollowed := true, recurses := true, plainKeys := false, apart := false, narrowed := true }
def RopeSaysUptoSaid : Prop := ropeSaysUptoRow.holds Try.pinned (OpenSpec.upto ropeSaysSpec)

/-- 'fairlaw.KeysAll', WHERE WHAT IT READS IS OF BULK AT MOST 1048576: true; the input reads as it did. -/
def keysAllUptoRow : OpenClaim := { program := "ytmipnikhgihcpaa", sum := "8e1b1f1ef55b029b3bcb58b8c5030583d04f569214094d06d2cae59bba61d178", func := "fairhand/fairlaw.KeysAll", spec := "keysAll", unfollowed := true, recurses := true, plainKeys := false, apart := false, narrowed := true }
def KeysAllUptoSaid : Prop := keysAllUptoRow.holds Try.pinned (OpenSpec.upto keysAllSpec)

/-- 'fairlaw.AbbrSays', WHERE WHAT IT READS IS OF BULK AT MOST 1048576: true; the input reads as it did. -/
def abbrSaysUptoRow : OpenClaim := { program := "ytmipnikhgihcpaa", sum := "8e1b1f1ef55b029b3bcb58b8c5030583d04f569214094d06d2cae59bba61d178", func := "fairhand/fairlaw.AbbrSays", spec := "abbrSays", unfollowed := true, recurses := true, plainKeys := false, apart := false, narrowed := true }
def AbbrSaysUptoSaid : Prop := abbrSaysUptoRow.holds Try.pinned (OpenSpec.upto abbrSaysSpec)

/-- 'fairlaw.NearSays', WHERE WHAT IT READS IS OF BULK AT MOST 1048576: true; the input reads as it did. -/
def nearSaysUptoRow : OpenClaim := { program := "ytmipnikhgihcpaa", sum := "8e1b1f1ef55b029b3bcb58b8c5030583d04f569214094d06d2cae59bba61d178", func := "fairhand/fairlaw.NearSays", spec := "nearSays", unfollowed := true, recurses := true, plainKeys := false, apart := false, narrowed := true }
def NearSaysUptoSaid : Prop := nearSaysUptoRow.holds Try.pinned (OpenSpec.upto nearSaysSpec)

/-- 'fairlaw.TrieSays', WHERE WHAT IT READS IS OF BULK AT MOST 1048576: true; the input reads as it did. -/
def trieSaysUptoRow : OpenClaim := { program := "ytmipnikhgihcpaa", sum := "8e1b1f1ef55b029b3bcb58b8c5030583d04f569214094d06d2cae59bba61d178", func := "fairhand/fairlaw.TrieSays", spec := "trieSays", inPlace := ["slices.overlaps[[]int]"], unfollowed := true, recurses := true, plainKeys := false, apart := false, narrowed := true }
def TrieSaysUptoSaid : Prop := trieSaysUptoRow.holds Try.pinned (OpenSpec.upto trieSaysSpec)

/-- 'fairlaw.EditDoes', WHERE WHAT IT READS IS OF BULK AT MOST 1048576: true; the input reads as it did. -/
def editDoesUptoRow : OpenClaim := { program := "ytmipnikhgihcpaa", sum := "8e1b1f1ef55b029b3bcb58b8c5030583d04f569214094d06d2cae59bba61d178", func := "fairhand/fairlaw.EditDoes", spec := "editDoes", unfollowed := true, recurses := true, plainKeys := false, apart := false, narrowed := true }
def EditDoesUptoSaid : Prop := editDoesUptoRow.holds Try.pinned (OpenSpec.upto editDoesSpec)

end Rows
end Go.Proofs.Ytmipnikhgihcpaa
