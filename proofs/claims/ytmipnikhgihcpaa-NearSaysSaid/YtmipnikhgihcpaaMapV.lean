/- A map of slices, seen as a function of its keys: the element relation holds the value itself. -/
import Derived.Test.YtmipnikhgihcpaaDyck7
import Derived.Maps.Own
import Derived.Maps.Views
namespace Go.Proofs.Ytmipnikhgihcpaa
open Go.RowKit Go.Maps
set_option linter.unusedVariables false
set_option linter.unusedSimpArgs false

def heldV (v : Value) : Option (DataW Value × List MemPlace) := some (.held v, [])
def nilV : Value := .slice none 0 0
/-- block b is a map of at most n entries that answers f at each key -/
def MapV (w : World) (b n : Nat) (f : Int → Value) : Prop :=
  ∃ D : DataW Value, w.ownsMap Try.prog 3 heldV b n D ∧ ∀ x, InR x → D.atKey (.int .i64 x) (.held nilV) = .held (f x)
theorem keyedInt : Maps.Keyed Try.prog 3 := Maps.int_keyed Try.underlying3

theorem MapV.kept {w w' : World} {b n : Nat} {f : Int → Value} {row : Option Nat} (h : MapV w b n f) (hg : w.grownBy w' row) (hne : some b ≠ row) : MapV w' b n f := by
  obtain ⟨D, h1, h2⟩ := h; exact ⟨D, h1.kept hg hne, h2⟩
theorem MapV.alloc {w : World} {b n : Nat} {f : Int → Value} (h : MapV w b n f) (o : Obj) : MapV (w.alloc o) b n f := by
  obtain ⟨D, h1, h2⟩ := h; exact ⟨D, h1.alloc o, h2⟩
theorem MapV.lt {w : World} {b n : Nat} {f : Int → Value} (h : MapV w b n f) : b < w.heap.size := by
  obtain ⟨D, h1, h2⟩ := h; exact h1.lt
theorem MapV.made (w : World) : MapV (w.alloc (.map #[] 0)) w.heap.size 0 (fun _ => nilV) := by
  refine ⟨_, World.ownsMap_made w _ _ _, fun x _ => ?_⟩
  rfl

theorem keyInt {x : Int} (h : InR x) : keyOf Try.prog 3 (.int .i64 x) = some (.int .i64 x) := Maps.keyOf_int_mk Try.underlying3 (by simpa [Lit.wf, IntKind.min, IntKind.max, IntKind.signed, IntKind.bits, InR] using h)
theorem MapV.lookup {w : World} {b n : Nat} {f : Int → Value} (h : MapV w b n f) (hz : (zeroValue 22).run Try.prog w = .ok nilV w) {x : Int} (hx : InR x) :
    (Instr.lookup 350 (.map (some b)) (.int .i64 x) false).run Try.prog w = .ok (f x) w := by
  obtain ⟨D, h1, h2⟩ := h
  obtain ⟨v, ps, hrun, hv⟩ := h1.lookup keyedInt Try.underlying350 hz rfl (keyInt hx)
  rw [h2 x hx] at hv
  simp only [heldV, Option.some.injEq, Prod.mk.injEq, DataW.held.injEq] at hv
  rw [hrun, hv.1]

theorem MapV.update {w : World} {b n : Nat} {f : Int → Value} (h : MapV w b n f) (hn : n ≤ 1000000000) {x : Int} (hx : InR x) (val : Value) :
    ∃ w', (Instr.mapUpdate 350 (.map (some b)) (.int .i64 x) val).run Try.prog w = .ok () w' ∧ MapV w' b (n + 1) (fun y => if y = x then val else f y) ∧ w.grownBy w' (some b) := by
  obtain ⟨D, h1, h2⟩ := h
  obtain ⟨w', hrun, h3, h4⟩ := h1.update keyedInt Try.underlying350 (by unfold maxLen; omega) (keyInt hx) (show heldV val = some (.held val, []) from rfl)
  refine ⟨w', hrun, ⟨_, h3, fun y hy => ?_⟩, h4⟩
  show _ = DataW.held (if y = x then val else f y)
  by_cases e : y = x
  · subst e
    rw [if_pos rfl]
    obtain ⟨es, clock, _, _, _, hD⟩ := h1
    exact atKey_put_same ⟨_, hD⟩ (keyedInt.key (keyInt hx)) _ _
  · rw [if_neg e, ← h2 y hy]
    exact atKey_put_other (fun hh => e (by simpa using hh)) _ _

end Go.Proofs.Ytmipnikhgihcpaa
