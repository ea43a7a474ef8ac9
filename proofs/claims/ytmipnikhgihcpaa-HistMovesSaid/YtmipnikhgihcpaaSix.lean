/- Six stores into one block. -/
import Derived.Test.YtmipnikhgihcpaaHist3
namespace Go.Proofs.Ytmipnikhgihcpaa
open Go.RowKit
set_option linter.unusedVariables false
set_option linter.unusedSimpArgs false

theorem cell6 {w : World} {B : Nat} {u0 u1 u2 u3 u4 u5 : Value} {p : Addr} {v : Value} (hc : w.cell? p = some v) (hne : p.block ≠ B) :
    ((((((w.setCell ⟨B, 0, none⟩ u0).setCell ⟨B, 1, none⟩ u1).setCell ⟨B, 2, none⟩ u2).setCell ⟨B, 3, none⟩ u3).setCell ⟨B, 4, none⟩ u4).setCell ⟨B, 5, none⟩ u5).cell? p = some v :=
  cell_other (cell_other (cell_other (cell_other (cell_other (cell_other hc hne) hne) hne) hne) hne) hne
theorem below6 {N B : Nat} {w0 w : World} {u0 u1 u2 u3 u4 u5 : Value} (h : Below N w0 w) (hB : N ≤ B) :
    Below N w0 ((((((w.setCell ⟨B, 0, none⟩ u0).setCell ⟨B, 1, none⟩ u1).setCell ⟨B, 2, none⟩ u2).setCell ⟨B, 3, none⟩ u3).setCell ⟨B, 4, none⟩ u4).setCell ⟨B, 5, none⟩ u5) :=
  (((((h.setCell (p := ⟨B, 0, none⟩) hB u0).setCell (p := ⟨B, 1, none⟩) hB u1).setCell (p := ⟨B, 2, none⟩) hB u2).setCell (p := ⟨B, 3, none⟩) hB u3).setCell (p := ⟨B, 4, none⟩) hB u4).setCell (p := ⟨B, 5, none⟩) hB u5
theorem SlP.six {P : Nat → Prop} {w : World} {B : Nat} {u0 u1 u2 u3 u4 u5 : Value} {v : Value} {xs : List Int} (h : SlP P w v xs) (hB : ¬ P B) :
    SlP P ((((((w.setCell ⟨B, 0, none⟩ u0).setCell ⟨B, 1, none⟩ u1).setCell ⟨B, 2, none⟩ u2).setCell ⟨B, 3, none⟩ u3).setCell ⟨B, 4, none⟩ u4).setCell ⟨B, 5, none⟩ u5) v xs :=
  h.keep fun p v hp hc => cell6 hc (fun e => hB (e ▸ hp))
theorem HiP.six {P : Nat → Prop} {w : World} {B : Nat} {u0 u1 u2 u3 u4 u5 : Value} {lv : Value} {most wher : Int} {sv pv : Value} {older : Bool} {h : Hi} (r : HiP P w lv most wher sv pv older h) (hB : ¬ P B) :
    HiP P ((((((w.setCell ⟨B, 0, none⟩ u0).setCell ⟨B, 1, none⟩ u1).setCell ⟨B, 2, none⟩ u2).setCell ⟨B, 3, none⟩ u3).setCell ⟨B, 4, none⟩ u4).setCell ⟨B, 5, none⟩ u5) lv most wher sv pv older h :=
  r.keep fun p v hp hc => cell6 hc (fun e => hB (e ▸ hp))
theorem Blk.six' {w : World} {B : Nat} {a0 a1 a2 a3 a4 a5 : Value} {e : TypeId} (h : Blk w B #[a0, a1, a2, a3, a4, a5] e) (u0 u1 u2 u3 u4 u5 : Value) :
    Blk ((((((w.setCell ⟨B, 0, none⟩ u0).setCell ⟨B, 1, none⟩ u1).setCell ⟨B, 2, none⟩ u2).setCell ⟨B, 3, none⟩ u3).setCell ⟨B, 4, none⟩ u4).setCell ⟨B, 5, none⟩ u5) B #[u0, u1, u2, u3, u4, u5] e := by
  have hG := ((((((h.set 0 u0).set 1 u1).set 2 u2).set 3 u3).set 4 u4).set 5 u5)
  simpa only [List.setIfInBounds_toArray, List.set_cons_zero, List.set_cons_succ] using hG
theorem Blk.other6 {w : World} {B C : Nat} {cs : Array Value} {e : TypeId} (h : Blk w C cs e) (hne : C ≠ B) (u0 u1 u2 u3 u4 u5 : Value) :
    Blk ((((((w.setCell ⟨B, 0, none⟩ u0).setCell ⟨B, 1, none⟩ u1).setCell ⟨B, 2, none⟩ u2).setCell ⟨B, 3, none⟩ u3).setCell ⟨B, 4, none⟩ u4).setCell ⟨B, 5, none⟩ u5) C cs e :=
  (((((h.other (a := ⟨B, 0, none⟩) hne u0).other (a := ⟨B, 1, none⟩) hne u1).other (a := ⟨B, 2, none⟩) hne u2).other (a := ⟨B, 3, none⟩) hne u3).other (a := ⟨B, 4, none⟩) hne u4).other (a := ⟨B, 5, none⟩) hne u5

end Go.Proofs.Ytmipnikhgihcpaa
