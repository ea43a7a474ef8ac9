/-
  No cell of these rows narrows 'for every input' (looked for: loops, veiled, ifaces, maps, wideKeys, modest, calm, conditions, laid).
  DERIVED. THE GIVEN ROWS OF THIS SEAT. 4 by the template 'for every input the law returns true; each argument reads behind the call as it read before'; 0 by the template 'total and deterministic' (their statements: YtmdnepkekekncaaGreatTotals.lean).
  GIVEN WITH THE SEED: the statements are not yours to turn. If you find one false, say at which input.
  Laid BY PROGRAM, IN A SANDBOX (cutbox-rows.mjs): the forced cells as the released guide's own fill.sh prints them over the translation 3d16457d4bb9c242… (all of the seat's roots in one cut). By AI agents, Wed Nov 11 2026. No macro, syntax, notation, axiom, sorry.
-/
import Derived.Test.YtmdnepkekekncaaGreatChecked
import GoSem.Claim
import GoSem.ClaimJoined
import GoSem.ClaimMapViews
import Derived.JoinedTies
import Derived.KernelRfl
namespace Go.Proofs.YtmdnepkekekncaaGreat
/- THE CELL 'sum', in the pinned program and in every row, IS THE sha256 OF THE DUMP (.gsa) THAT YtmdnepkekekncaaGreatProg.lean LOADS. Nothing in Lean hashes anything: it is a label: what it is worth is what the hold of that sum in a sandbox is worth. -/
noncomputable def Tryz.pinned : Pinned := { name := "ytmdnepkekekncaagreat", sum := "3d16457d4bb9c242a3228aaf64601cb3ae1eb0b4c384902620c02ace89efae53", checked := Tryz.checked }
namespace Rows
def none {H : Type} : Left H := { results := [], args := [] }

/-- 'fairtop.TopTyped': WHATEVER THE INPUT: true; the input reads as it did. -/
def topTypedSpec : ChangeSpec := { name := "topTyped", fn := fun _ => fun
  | [d1, d2, d3] => { results := [.lit (.bool true)], args := [d1, d2, d3] }
  | _ => none }
def topTypedRow : OpenClaim := { program := "ytmdnepkekekncaagreat", sum := "3d16457d4bb9c242a3228aaf64601cb3ae1eb0b4c384902620c02ace89efae53", func := "fairhand/fairtop.TopTyped", spec := "topTyped", unfollowed := true, recurses := true, apart := false }
def TopTypedSaid : Prop := topTypedRow.holds Tryz.pinned (OpenSpec.ofChange topTypedSpec)

/-- ITS FALSE NEIGHBOUR: 'it returns false'. Refute it at one input. -/
def topTypedWrong : ChangeSpec := { name := "topTyped", fn := fun _ => fun
  | [d1, d2, d3] => { results := [.lit (.bool false)], args := [d1, d2, d3] }
  | _ => none }
def TopTypedWrongFalsely : Prop := topTypedRow.holds Tryz.pinned (OpenSpec.ofChange topTypedWrong)

/-- 'fairtop.TopUndo': WHATEVER THE INPUT: true; the input reads as it did. -/
def topUndoSpec : ChangeSpec := { name := "topUndo", fn := fun _ => fun
  | [d1, d2, d3, d4] => { results := [.lit (.bool true)], args := [d1, d2, d3, d4] }
  | _ => none }
def topUndoRow : OpenClaim := { program := "ytmdnepkekekncaagreat", sum := "3d16457d4bb9c242a3228aaf64601cb3ae1eb0b4c384902620c02ace89efae53", func := "fairhand/fairtop.TopUndo", spec := "topUndo", unfollowed := true, recurses := true, apart := false }
def TopUndoSaid : Prop := topUndoRow.holds Tryz.pinned (OpenSpec.ofChange topUndoSpec)

/-- ITS FALSE NEIGHBOUR: 'it returns false'. Refute it at one input. -/
def topUndoWrong : ChangeSpec := { name := "topUndo", fn := fun _ => fun
  | [d1, d2, d3, d4] => { results := [.lit (.bool false)], args := [d1, d2, d3, d4] }
  | _ => none }
def TopUndoWrongFalsely : Prop := topUndoRow.holds Tryz.pinned (OpenSpec.ofChange topUndoWrong)

/-- 'fairtop.TopDot': WHATEVER THE INPUT: true; the input reads as it did. -/
def topDotSpec : ChangeSpec := { name := "topDot", fn := fun _ => fun
  | [d1, d2, d3, d4, d5] => { results := [.lit (.bool true)], args := [d1, d2, d3, d4, d5] }
  | _ => none }
def topDotRow : OpenClaim := { program := "ytmdnepkekekncaagreat", sum := "3d16457d4bb9c242a3228aaf64601cb3ae1eb0b4c384902620c02ace89efae53", func := "fairhand/fairtop.TopDot", spec := "topDot", unfollowed := true, recurses := true, apart := false }
def TopDotSaid : Prop := topDotRow.holds Tryz.pinned (OpenSpec.ofChange topDotSpec)

/-- ITS FALSE NEIGHBOUR: 'it returns false'. Refute it at one input. -/
def topDotWrong : ChangeSpec := { name := "topDot", fn := fun _ => fun
  | [d1, d2, d3, d4, d5] => { results := [.lit (.bool false)], args := [d1, d2, d3, d4, d5] }
  | _ => none }
def TopDotWrongFalsely : Prop := topDotRow.holds Tryz.pinned (OpenSpec.ofChange topDotWrong)

/-- 'fairtop.TopUndos': WHATEVER THE INPUT: true; the input reads as it did. -/
def topUndosSpec : ChangeSpec := { name := "topUndos", fn := fun _ => fun
  | [d1, d2, d3, d4] => { results := [.lit (.bool true)], args := [d1, d2, d3, d4] }
  | _ => none }
def topUndosRow : OpenClaim := { program := "ytmdnepkekekncaagreat", sum := "3d16457d4bb9c242a3228aaf64601cb3ae1eb0b4c384902620c02ace89efae53", func := "fairhand/fairtop.TopUndos", spec := "topUndos", inPlace := ["internal/abi.NoEscape", "internal/bytealg.MakeNoZero"], unfollowed := true, recurses := true, apart := false }
def TopUndosSaid : Prop := topUndosRow.holds Tryz.pinned (OpenSpec.ofChange topUndosSpec)

/-- ITS FALSE NEIGHBOUR: 'it returns false'. Refute it at one input. -/
def topUndosWrong : ChangeSpec := { name := "topUndos", fn := fun _ => fun
  | [d1, d2, d3, d4] => { results := [.lit (.bool false)], args := [d1, d2, d3, d4] }
  | _ => none }
def TopUndosWrongFalsely : Prop := topUndosRow.holds Tryz.pinned (OpenSpec.ofChange topUndosWrong)

/- THE SECOND FORM. 'bulk': how many values and letters a reading holds, each counted each time it is reached (what is shared counts as often as it is met; a slice's spare places count too). A statement '..UptoSaid' is the law's where the arguments, and the package variables that the reading takes, are together of bulk at most 1048576: NARROWER than '..Said'. Prove '..Said' where nothing that the law and all that it calls make is longer than what came in: it says more and counts as full. Else prove '..UptoSaid'. A law counts once. -/
mutual
def uptoBulk {H : Type} : DataW H → Nat
  | .lit (.string bytes) => bytes.length + 1
  | .lit _ => 1
  | .nil => 1
  | .ptr d => uptoBulk d + 1
  | .slice elems spare => uptoBulkAll elems + uptoBulkAll spare + 1
  | .agg parts => uptoBulkAll parts + 1
  | .iface _ d => uptoBulk d + 1
  | .map entries => uptoBulkEntries entries + 1
  | .held _ => 1
def uptoBulkAll {H : Type} : List (DataW H) → Nat
  | [] => 0
  | d :: r => uptoBulk d + uptoBulkAll r
def uptoBulkEntries {H : Type} : List (Lit × DataW H) → Nat
  | [] => 0
  | x :: r => uptoBulkEntry x + uptoBulkEntries r
def uptoBulkEntry {H : Type} : Lit × DataW H → Nat
  | (.string bytes, d) => bytes.length + uptoBulk d + 1
  | (_, d) => uptoBulk d + 1
 end
def uptoSmall : (H : Type) → List (DataW H) → Bool := fun _ ds => decide (uptoBulkAll ds ≤ 1048576)
def OpenSpec.upto (s : _root_.Go.ChangeSpec) : _root_.Go.OpenSpec := { _root_.Go.OpenSpec.ofChange s with cond := some uptoSmall }

/-- 'fairtop.TopTyped', WHERE WHAT IT READS IS OF BULK AT MOST 1048576: true; the input reads as it did. -/
def topTypedUptoRow : OpenClaim := { program := "ytmdnepkekekncaagreat", sum := "3d16457d4bb9c242a3228aaf64601cb3ae1eb0b4c384902620c02ace89efae53", func := "fairhand/fairtop.TopTyped", spec := "topTyped", unfollowed := true, recurses := true, apart := false, narrowed := true }
def TopTypedUptoSaid : Prop := topTypedUptoRow.holds Tryz.pinned (OpenSpec.upto topTypedSpec)

/-- 'fairtop.TopUndo', WHERE WHAT IT READS IS OF BULK AT MOST 1048576: true; the input reads as it did. -/
def topUndoUptoRow : OpenClaim := { program := "ytmdnepkekekncaagreat", sum := "3d16457d4bb9c242a3228aaf64601cb3ae1eb0b4c384902620c02ace89efae53", func := "fairhand/fairtop.TopUndo", spec := "topUndo", unfollowed := true, recurses := true, apart := false, narrowed := true }
def TopUndoUptoSaid : Prop := topUndoUptoRow.holds Tryz.pinned (OpenSpec.upto topUndoSpec)

/-- 'fairtop.TopDot', WHERE WHAT IT READS IS OF BULK AT MOST 1048576: true; the input reads as it did. -/
def topDotUptoRow : OpenClaim := { program := "ytmdnepkekekncaagreat", sum := "3d16457d4bb9c242a3228aaf64601cb3ae1eb0b4c384902620c02ace89efae53", func := "fairhand/fairtop.TopDot", spec := "topDot", unfollowed := true, recurses := true, apart := false, narrowed := true }
def TopDotUptoSaid : Prop := topDotUptoRow.holds Tryz.pinned (OpenSpec.upto topDotSpec)

/-- 'fairtop.TopUndos', WHERE WHAT IT READS IS OF BULK AT MOST 1048576: true; the input reads as it did. -/
def topUndosUptoRow : OpenClaim := { program := "ytmdnepkekekncaagreat", sum := "3d16457d4bb9c242a3228aaf64601cb3ae1eb0b4c384902620c02ace89efae53", func := "fairhand/fairtop.TopUndos", spec := "topUndos", inPlace := ["internal/abi.NoEscape", "internal/bytealg.MakeNoZero"], unfollowed := true, recurses := true, apart := false, narrowed := true }
def TopUndosUptoSaid : Prop := topUndosUptoRow.holds Tryz.pinned (OpenSpec.upto topUndosSpec)

end Rows
end Go.Proofs.YtmdnepkekekncaaGreat
