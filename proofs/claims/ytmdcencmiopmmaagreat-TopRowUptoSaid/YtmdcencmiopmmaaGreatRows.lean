/-
  No cell of these rows narrows 'for every input' (looked for: loops, veiled, ifaces, maps, wideKeys, modest, calm, conditions, laid).
  DERIVED. THE GIVEN ROWS OF THIS SEAT. 9 by the template 'for every input the law returns true; each argument reads behind the call as it read before'; 0 by the template 'total and deterministic' (their statements: YtmdcencmiopmmaaGreatTotals.lean).
  GIVEN WITH THE SEED: the statements are not yours to turn. If you find one false, say at which input.
  Laid BY PROGRAM, IN A SANDBOX (cutbox-rows.mjs): the forced cells as the released guide's own fill.sh prints them over the translation 90e8fec056825094… (all of the seat's roots in one cut). By AI agents, Wed Nov 11 2026. No macro, syntax, notation, axiom, sorry.
-/
import Derived.Test.YtmdcencmiopmmaaGreatChecked
import GoSem.Claim
import GoSem.ClaimJoined
import GoSem.ClaimMapViews
import Derived.JoinedTies
import Derived.KernelRfl
namespace Go.Proofs.YtmdcencmiopmmaaGreat
/- THE CELL 'sum', in the pinned program and in every row, IS THE sha256 OF THE DUMP (.gsa) THAT YtmdcencmiopmmaaGreatProg.lean LOADS. Nothing in Lean hashes anything: it is a label: what it is worth is what the hold of that sum in a sandbox is worth. -/
noncomputable def Tryz.pinned : Pinned := { name := "ytmdcencmiopmmaagreat", sum := "90e8fec0568250949614577dd71b81f3fbf7088b283df54ad9b57bcdc8e40900", checked := Tryz.checked }
namespace Rows
def none {H : Type} : Left H := { results := [], args := [] }

/-- 'fairtop.TopBounds': WHATEVER THE INPUT: true; the input reads as it did. -/
def topBoundsSpec : ChangeSpec := { name := "topBounds", fn := fun _ => fun
  | [d1, d2, d3] => { results := [.lit (.bool true)], args := [d1, d2, d3] }
  | _ => none }
def topBoundsRow : OpenClaim := { program := "ytmdcencmiopmmaagreat", sum := "90e8fec0568250949614577dd71b81f3fbf7088b283df54ad9b57bcdc8e40900", func := "fairhand/fairtop.TopBounds", spec := "topBounds", unfollowed := true, recurses := true, leaving := true, apart := false }
def TopBoundsSaid : Prop := topBoundsRow.holds Tryz.pinned (OpenSpec.ofChange topBoundsSpec)

/-- ITS FALSE NEIGHBOUR: 'it returns false'. Refute it at one input. -/
def topBoundsWrong : ChangeSpec := { name := "topBounds", fn := fun _ => fun
  | [d1, d2, d3] => { results := [.lit (.bool false)], args := [d1, d2, d3] }
  | _ => none }
def TopBoundsWrongFalsely : Prop := topBoundsRow.holds Tryz.pinned (OpenSpec.ofChange topBoundsWrong)

/-- 'fairtop.TopEnds': WHATEVER THE INPUT: true; the input reads as it did. -/
def topEndsSpec : ChangeSpec := { name := "topEnds", fn := fun _ => fun
  | [d1, d2, d3, d4] => { results := [.lit (.bool true)], args := [d1, d2, d3, d4] }
  | _ => none }
def topEndsRow : OpenClaim := { program := "ytmdcencmiopmmaagreat", sum := "90e8fec0568250949614577dd71b81f3fbf7088b283df54ad9b57bcdc8e40900", func := "fairhand/fairtop.TopEnds", spec := "topEnds", unfollowed := true, recurses := true, leaving := true, apart := false }
def TopEndsSaid : Prop := topEndsRow.holds Tryz.pinned (OpenSpec.ofChange topEndsSpec)

/-- ITS FALSE NEIGHBOUR: 'it returns false'. Refute it at one input. -/
def topEndsWrong : ChangeSpec := { name := "topEnds", fn := fun _ => fun
  | [d1, d2, d3, d4] => { results := [.lit (.bool false)], args := [d1, d2, d3, d4] }
  | _ => none }
def TopEndsWrongFalsely : Prop := topEndsRow.holds Tryz.pinned (OpenSpec.ofChange topEndsWrong)

/-- 'fairtop.TopTyped': WHATEVER THE INPUT: true; the input reads as it did. -/
def topTypedSpec : ChangeSpec := { name := "topTyped", fn := fun _ => fun
  | [d1, d2, d3] => { results := [.lit (.bool true)], args := [d1, d2, d3] }
  | _ => none }
def topTypedRow : OpenClaim := { program := "ytmdcencmiopmmaagreat", sum := "90e8fec0568250949614577dd71b81f3fbf7088b283df54ad9b57bcdc8e40900", func := "fairhand/fairtop.TopTyped", spec := "topTyped", unfollowed := true, recurses := true, leaving := true, apart := false }
def TopTypedSaid : Prop := topTypedRow.holds Tryz.pinned (OpenSpec.ofChange topTypedSpec)

/-- ITS FALSE NEIGHBOUR: 'it returns false'. Refute it at one input. -/
def topTypedWrong : ChangeSpec := { name := "topTyped", fn := fun _ => fun
  | [d1, d2, d3] => { results := [.lit (.bool false)], args := [d1, d2, d3] }
  | _ => none }
def TopTypedWrongFalsely : Prop := topTypedRow.holds Tryz.pinned (OpenSpec.ofChange topTypedWrong)

/-- 'fairlaw.ViPlays': WHATEVER THE INPUT: true; the input reads as it did. -/
def viPlaysSpec : ChangeSpec := { name := "viPlays", fn := fun _ => fun
  | [d1, d2, d3] => { results := [.lit (.bool true)], args := [d1, d2, d3] }
  | _ => none }
def viPlaysRow : OpenClaim := { program := "ytmdcencmiopmmaagreat", sum := "90e8fec0568250949614577dd71b81f3fbf7088b283df54ad9b57bcdc8e40900", func := "fairhand/fairlaw.ViPlays", spec := "viPlays", unfollowed := true, recurses := true, leaving := true, apart := false }
def ViPlaysSaid : Prop := viPlaysRow.holds Tryz.pinned (OpenSpec.ofChange viPlaysSpec)

/-- ITS FALSE NEIGHBOUR: 'it returns false'. Refute it at one input. -/
def viPlaysWrong : ChangeSpec := { name := "viPlays", fn := fun _ => fun
  | [d1, d2, d3] => { results := [.lit (.bool false)], args := [d1, d2, d3] }
  | _ => none }
def ViPlaysWrongFalsely : Prop := viPlaysRow.holds Tryz.pinned (OpenSpec.ofChange viPlaysWrong)

/-- 'fairlaw.ManyRuns': WHATEVER THE INPUT: true; the input reads as it did. -/
def manyRunsSpec : ChangeSpec := { name := "manyRuns", fn := fun _ => fun
  | [d1, d2] => { results := [.lit (.bool true)], args := [d1, d2] }
  | _ => none }
def manyRunsRow : OpenClaim := { program := "ytmdcencmiopmmaagreat", sum := "90e8fec0568250949614577dd71b81f3fbf7088b283df54ad9b57bcdc8e40900", func := "fairhand/fairlaw.ManyRuns", spec := "manyRuns", inPlace := ["(*sync.WaitGroup).Go", "(*sync.WaitGroup).Add", "internal/race.ReleaseMerge", "internal/race.Disable", "internal/race.Enable", "internal/synctest.IsInBubble", "internal/synctest.Associate[sync.WaitGroup]", "sync.fatal", "sync/atomic.OrUint64", "sync/atomic.AddUint64", "internal/race.Read", "sync/atomic.LoadUint64", "sync/atomic.StoreUint64", "internal/synctest.Disassociate[sync.WaitGroup]", "sync.runtime_Semrelease", "(*sync.WaitGroup).Go$1", "(*sync.WaitGroup).Go$1$1", "(*sync.WaitGroup).Done", "(*sync.WaitGroup).Wait", "internal/race.Acquire", "internal/synctest.IsAssociated[sync.WaitGroup]", "sync/atomic.CompareAndSwapUint64", "internal/race.Write", "sync.runtime_SemacquireWaitGroup"], unfollowed := true, recurses := true, leaving := true, apart := false }
def ManyRunsSaid : Prop := manyRunsRow.holds Tryz.pinned (OpenSpec.ofChange manyRunsSpec)

/-- ITS FALSE NEIGHBOUR: 'it returns false'. Refute it at one input. -/
def manyRunsWrong : ChangeSpec := { name := "manyRuns", fn := fun _ => fun
  | [d1, d2] => { results := [.lit (.bool false)], args := [d1, d2] }
  | _ => none }
def ManyRunsWrongFalsely : Prop := manyRunsRow.holds Tryz.pinned (OpenSpec.ofChange manyRunsWrong)

/-- 'fairtop.TopRow': WHATEVER THE INPUT: true; the input reads as it did. -/
def topRowSpec : ChangeSpec := { name := "topRow", fn := fun _ => fun
  | [d1, d2, d3] => { results := [.lit (.bool true)], args := [d1, d2, d3] }
  | _ => none }
def topRowRow : OpenClaim := { program := "ytmdcencmiopmmaagreat", sum := "90e8fec0568250949614577dd71b81f3fbf7088b283df54ad9b57bcdc8e40900", func := "fairhand/fairtop.TopRow", spec := "topRow", unfollowed := true, recurses := true, leaving := true, apart := false }
def TopRowSaid : Prop := topRowRow.holds Tryz.pinned (OpenSpec.ofChange topRowSpec)

/-- ITS FALSE NEIGHBOUR: 'it returns false'. Refute it at one input. -/
def topRowWrong : ChangeSpec := { name := "topRow", fn := fun _ => fun
  | [d1, d2, d3] => { results := [.lit (.bool false)], args := [d1, d2, d3] }
  | _ => none }
def TopRowWrongFalsely : Prop := topRowRow.holds Tryz.pinned (OpenSpec.ofChange topRowWrong)

/-- 'fairtop.TopUndo': WHATEVER THE INPUT: true; the input reads as it did. -/
def topUndoSpec : ChangeSpec := { name := "topUndo", fn := fun _ => fun
  | [d1, d2, d3, d4] => { results := [.lit (.bool true)], args := [d1, d2, d3, d4] }
  | _ => none }
def topUndoRow : OpenClaim := { program := "ytmdcencmiopmmaagreat", sum := "90e8fec0568250949614577dd71b81f3fbf7088b283df54ad9b57bcdc8e40900", func := "fairhand/fairtop.TopUndo", spec := "topUndo", unfollowed := true, recurses := true, leaving := true, apart := false }
def TopUndoSaid : Prop := topUndoRow.holds Tryz.pinned (OpenSpec.ofChange topUndoSpec)

/-- ITS FALSE NEIGHBOUR: 'it returns false'. Refute it at one input. -/
def topUndoWrong : ChangeSpec := { name := "topUndo", fn := fun _ => fun
  | [d1, d2, d3, d4] => { results := [.lit (.bool false)], args := [d1, d2, d3, d4] }
  | _ => none }
def TopUndoWrongFalsely : Prop := topUndoRow.holds Tryz.pinned (OpenSpec.ofChange topUndoWrong)

/-- 'fairtop.TopDot': WHATEVER THE INPUT: true; the input reads as it did. -/
def topDotSpec : ChangeSpec := { name := "topDot", fn := fun _ => fun
  | [d1, d2, d3, d4, d5] => { results := [.lit (.bool true)], args := [d1, d2, d3, d4, d5] }
  | _ => none }
def topDotRow : OpenClaim := { program := "ytmdcencmiopmmaagreat", sum := "90e8fec0568250949614577dd71b81f3fbf7088b283df54ad9b57bcdc8e40900", func := "fairhand/fairtop.TopDot", spec := "topDot", unfollowed := true, recurses := true, leaving := true, apart := false }
def TopDotSaid : Prop := topDotRow.holds Tryz.pinned (OpenSpec.ofChange topDotSpec)

/-- ITS FALSE NEIGHBOUR: 'it returns false'. Refute it at one input. -/
def topDotWrong : ChangeSpec := { name := "topDot", fn := fun _ => fun
  | [d1, d2, d3, d4, d5] => { results := [.lit (.bool false)], args := [d1, d2, d3, d4, d5] }
  | _ => none }
def TopDotWrongFalsely : Prop := topDotRow.holds Tryz.pinned (OpenSpec.ofChange topDotWrong)

/-- 'fairtop.TopUndos': WHATEVER THE INPUT: true; the input reads as it did. -/
def topUndosSpec : ChangeSpec := { name := "topUndos", fn := fun _ => fun
  | [d1, d2, d3, d4] => { results := [.lit (.bool true)], args := [d1, d2, d3, d4] }
  | _ => none }
def topUndosRow : OpenClaim := { program := "ytmdcencmiopmmaagreat", sum := "90e8fec0568250949614577dd71b81f3fbf7088b283df54ad9b57bcdc8e40900", func := "fairhand/fairtop.TopUndos", spec := "topUndos", inPlace := ["internal/abi.NoEscape", "internal/bytealg.MakeNoZero"], unfollowed := true, recurses := true, leaving := true, apart := false }
def TopUndosSaid : Prop := topUndosRow.holds Tryz.pinned (OpenSpec.ofChange topUndosSpec)

/-- ITS FALSE NEIGHBOUR: 'it returns false'. Refute it at one input. -/
def topUndosWrong : ChangeSpec := { name := "topUndos", fn := fun _ => fun
  | [d1, d2, d3, d4] => { results := [.lit (.bool false)], args := [d1, d2, d3, d4] }
  | _ => none }
def TopUndosWrongFalsely : Prop := topUndosRow.holds Tryz.pinned (OpenSpec.ofChange topUndosWrong)

/- THE SECOND FORM. 'bulk': how many values and letters a reading holds, each counted each time it is reached (what is shared counts as often as it is met; a slice's spare places count too). A statement '..UptoSaid' is the law's where the arguments, and the package variables that the reading takes, are together of bulk at most 1048576: NARROWER than '..Said'. Prove '..Said' where nothing that the law and all that it calls make is longer than what came in: it says more and counts as full. Else prove '..UptoSaid'. A law counts once. -/
mutual
def uptoBulk {H : Type} : DataW H → Nat
  | .lit (.string bytes) => bytes.length + 1
  | .lit _ => 1
  | .nil => 1
  | .ptr d => uptoBulk d + 1
  | .slice elems spare => uptoBulkAll elems + uptoBulkAll spare + 1
  | .agg parts => uptoBulkAll parts + 1
  | .iface _ d => uptoBulk d + 1
  | .map entries => uptoBulkEntries entries + 1
  | .held _ => 1
def uptoBulkAll {H : Type} : List (DataW H) → Nat
  | [] => 0
  | d :: r => uptoBulk d + uptoBulkAll r
def uptoBulkEntries {H : Type} : List (Lit × DataW H) → Nat
  | [] => 0
  | x :: r => uptoBulkEntry x + uptoBulkEntries r
def uptoBulkEntry {H : Type} : Lit × DataW H → Nat
  | (.string bytes, d) => bytes.length + uptoBulk d + 1
  | (_, d) => uptoBulk d + 1
 end
def uptoSmall : (H : Type) → List (DataW H) → Bool := fun _ ds => decide (uptoBulkAll ds ≤ 1048576)
def OpenSpec.upto (s : _root_.Go.ChangeSpec) : _root_.Go.OpenSpec := { _root_.Go.OpenSpec.ofChange s with cond := some uptoSmall }

/-- 'fairtop.TopBounds', WHERE WHAT IT READS IS OF BULK AT MOST 1048576: true; the input reads as it did. -/
def topBoundsUptoRow : OpenClaim := { program := "ytmdcencmiopmmaagreat", sum := "90e8fec0568250949614577dd71b81f3fbf7088b283df54ad9b57bcdc8e40900", func := "fairhand/fairtop.TopBounds", spec := "topBounds", unfollowed := true, recurses := true, leaving := true, apart := false, narrowed := true }
def TopBoundsUptoSaid : Prop := topBoundsUptoRow.holds Tryz.pinned (OpenSpec.upto topBoundsSpec)

/-- 'fairtop.TopEnds', WHERE WHAT IT READS IS OF BULK AT MOST 1048576: true; the input reads as it did. -/
def topEndsUptoRow : OpenClaim := { program := "ytmdcencmiopmmaagreat", sum := "90e8fec0568250949614577dd71b81f3fbf7088b283df54ad9b57bcdc8e40900", func := "fairhand/fairtop.TopEnds", spec := "topEnds", unfollowed := true, recurses := true, leaving := true, apart := false, narrowed := true }
def TopEndsUptoSaid : Prop := topEndsUptoRow.holds Tryz.pinned (OpenSpec.upto topEndsSpec)

/-- 'fairtop.TopTyped', WHERE WHAT IT READS IS OF BULK AT MOST 1048576: true; the input reads as it did. -/
def topTypedUptoRow : OpenClaim := { program := "ytmdcencmiopmmaagreat", sum := "90e8fec0568250949614577dd71b81f3fbf7088b283df54ad9b57bcdc8e40900", func := "fairhand/fairtop.TopTyped", spec := "topTyped", unfollowed := true, recurses := true, leaving := true, apart := false, narrowed := true }
def TopTypedUptoSaid : Prop := topTypedUptoRow.holds Tryz.pinned (OpenSpec.upto topTypedSpec)

/-- 'fairlaw.ViPlays', WHERE WHAT IT READS IS OF BULK AT MOST 1048576: true; the input reads as it did. -/
def viPlaysUptoRow : OpenClaim := { program := "ytmdcencmiopmmaagreat", sum := "90e8fec0568250949614577dd71b81f3fbf7088b283df54ad9b57bcdc8e40900", func := "fairhand/fairlaw.ViPlays", spec := "viPlays", unfollowed := true, recurses := true, leaving := true, apart := false, narrowed := true }
def ViPlaysUptoSaid : Prop := viPlaysUptoRow.holds Tryz.pinned (OpenSpec.upto viPlaysSpec)

/-- 'fairlaw.ManyRuns', WHERE WHAT IT READS IS OF BULK AT MOST 1048576: true; the input reads as it did. -/
def manyRunsUptoRow : OpenClaim := { program := "ytmdcencmiopmmaagreat", sum := "90e8fec0568250949614577dd71b81f3fbf7088b283df54ad9b57bcdc8e40900", func := "fairhand/fairlaw.ManyRuns", spec := "manyRuns", inPlace := ["(*sync.WaitGroup).Go", "(*sync.WaitGroup).Add", "internal/race.ReleaseMerge", "internal/race.Disable", "internal/race.Enable", "internal/synctest.IsInBubble", "internal/synctest.Associate[sync.WaitGroup]", "sync.fatal", "sync/atomic.OrUint64", "sync/atomic.AddUint64", "internal/race.Read", "sync/atomic.LoadUint64", "sync/atomic.StoreUint64", "internal/synctest.Disassociate[sync.WaitGroup]", "sync.runtime_Semrelease", "(*sync.WaitGroup).Go$1", "(*sync.WaitGroup).Go$1$1", "(*sync.WaitGroup).Done", "(*sync.WaitGroup).Wait", "internal/race.Acquire", "internal/synctest.IsAssociated[sync.WaitGroup]", "sync/atomic.CompareAndSwapUint64", "internal/race.Write", "sync.runtime_SemacquireWaitGroup"], unfollowed := true, recurses := true, leaving := true, apart := false, narrowed := true }
def ManyRunsUptoSaid : Prop := manyRunsUptoRow.holds Tryz.pinned (OpenSpec.upto manyRunsSpec)

/-- 'fairtop.TopRow', WHERE WHAT IT READS IS OF BULK AT MOST 1048576: true; the input reads as it did. -/
def topRowUptoRow : OpenClaim := { program := "ytmdcencmiopmmaagreat", sum := "90e8fec0568250949614577dd71b81f3fbf7088b283df54ad9b57bcdc8e40900", func := "fairhand/fairtop.TopRow", spec := "topRow", unfollowed := true, recurses := true, leaving := true, apart := false, narrowed := true }
def TopRowUptoSaid : Prop := topRowUptoRow.holds Tryz.pinned (OpenSpec.upto topRowSpec)

/-- 'fairtop.TopUndo', WHERE WHAT IT READS IS OF BULK AT MOST 1048576: true; the input reads as it did. -/
def topUndoUptoRow : OpenClaim := { program := "ytmdcencmiopmmaagreat", sum := "90e8fec0568250949614577dd71b81f3fbf7088b283df54ad9b57bcdc8e40900", func := "fairhand/fairtop.TopUndo", spec := "topUndo", unfollowed := true, recurses := true, leaving := true, apart := false, narrowed := true }
def TopUndoUptoSaid : Prop := topUndoUptoRow.holds Tryz.pinned (OpenSpec.upto topUndoSpec)

/-- 'fairtop.TopDot', WHERE WHAT IT READS IS OF BULK AT MOST 1048576: true; the input reads as it did. -/
def topDotUptoRow : OpenClaim := { program := "ytmdcencmiopmmaagreat", sum := "90e8fec0568250949614577dd71b81f3fbf7088b283df54ad9b57bcdc8e40900", func := "fairhand/fairtop.TopDot", spec := "topDot", unfollowed := true, recurses := true, leaving := true, apart := false, narrowed := true }
def TopDotUptoSaid : Prop := topDotUptoRow.holds Tryz.pinned (OpenSpec.upto topDotSpec)

/-- 'fairtop.TopUndos', WHERE WHAT IT READS IS OF BULK AT MOST 1048576: true; the input reads as it did. -/
def topUndosUptoRow : OpenClaim := { program := "ytmdcencmiopmmaagreat", sum := "90e8fec0568250949614577dd71b81f3fbf7088b283df54ad9b57bcdc8e40900", func := "fairhand/fairtop.TopUndos", spec := "topUndos", inPlace := ["internal/abi.NoEscape", "internal/bytealg.MakeNoZero"], unfollowed := true, recurses := true, leaving := true, apart := false, narrowed := true }
def TopUndosUptoSaid : Prop := topUndosUptoRow.holds Tryz.pinned (OpenSpec.upto topUndosSpec)

end Rows
end Go.Proofs.YtmdcencmiopmmaaGreat
