/- Contract of fairref.PartErr. -/
import Derived.Test.YtmipnikhgihcpaaKey1
namespace Go.Proofs.Ytmipnikhgihcpaa
open Go.RowKit
set_option linter.unusedVariables false
set_option linter.unusedSimpArgs false

def cntB (f o s : Int) : Bool := decide (0 ≤ f ∧ f ≤ 999 ∧ 0 ≤ s ∧ s ≤ 999 ∧ (o ≠ 0 ∨ s = 0))
def namB (r o : Int) : Bool := (decide (r = 0) || letB r) && (decide (o = 0) || opB o)
def waiB (r o wt : Int) : Bool := decide (wt = 0) || fiB wt || decide (wt = 114 ∧ o = 0) || decide (wt = 34 ∧ o = 0 ∧ r = 0) || (iaB wt && decide (o ≠ 0))
def partE (f r o s wt : Int) : Int := if (cntB f o s && namB r o && waiB r o wt) = true then 0 else 1
theorem Blk.five {w : World} {B : Nat} {u0 u1 u2 u3 u4 : Value} {e : TypeId} (h : Blk w B #[u0, u1, u2, u3, u4] e) :
    w.cell? ⟨B, 0, none⟩ = some u0 ∧ w.cell? ⟨B, 1, none⟩ = some u1 ∧ w.cell? ⟨B, 2, none⟩ = some u2 ∧ w.cell? ⟨B, 3, none⟩ = some u3 ∧ w.cell? ⟨B, 4, none⟩ = some u4 := ⟨h.cell 0, h.cell 1, h.cell 2, h.cell 3, h.cell 4⟩
theorem Blk.fiveF {w : World} {B : Nat} {u0 u1 u2 u3 u4 : Value} {e : TypeId} (h : Blk w B #[u0, u1, u2, u3, u4] e) :
    w.frozen? ⟨B, 0, none⟩ = false ∧ w.frozen? ⟨B, 1, none⟩ = false ∧ w.frozen? ⟨B, 2, none⟩ = false ∧ w.frozen? ⟨B, 3, none⟩ = false ∧ w.frozen? ⟨B, 4, none⟩ = false := ⟨h.free 0, h.free 1, h.free 2, h.free 3, h.free 4⟩

theorem beqD (a b : Int) : (a == b) = decide (a = b) := by rw [Bool.eq_iff_iff]; simp
theorem zOf (a b : Int) : ∃ z, (a == b) = z := ⟨_, rfl⟩
theorem waiB_of (r o wt : Int) {zo zr z0 z1 z2 : Bool} (ho : (o == 0) = zo) (hr : (r == 0) = zr) (h0 : (wt == 0) = z0) (h1 : (wt == 114) = z1) (h2 : (wt == 34) = z2) :
    waiB r o wt = (z0 || fiB wt || (z1 && zo) || (z2 && zo && zr) || (iaB wt && !zo)) := by
  subst ho hr h0 h1 h2
  simp only [beqD, waiB]
  by_cases a : o = 0 <;> by_cases b : r = 0 <;> simp [a, b]

end Go.Proofs.Ytmipnikhgihcpaa
