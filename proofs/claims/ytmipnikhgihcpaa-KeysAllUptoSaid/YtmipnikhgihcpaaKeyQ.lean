/- What fairref.Take answers: plain; the boxes of a call. -/
import Derived.Test.YtmipnikhgihcpaaKey7
namespace Go.Proofs.Ytmipnikhgihcpaa
open Go.RowKit
set_option linter.unusedVariables false
set_option linter.unusedSimpArgs false

theorem iaB_34 {wt : Int} (h : iaB wt = true) : wt ≠ 34 ∧ wt ≠ 0 := by simp [iaB] at h; omega
theorem op_no {key : Int} (h : opB key = true) : moB key = false ∧ fiB key = false ∧ iaB key = false ∧ plB key = false ∧ (key == 114) = false ∧ (key == 34) = false ∧ (key == 48) = false ∧ decide (49 ≤ key ∧ key ≤ 57) = false := by
  have : key = 100 ∨ key = 99 ∨ key = 121 := by simpa [opB] using h
  rcases this with rfl | rfl | rfl <;> decide
theorem ia_no {key : Int} (h : iaB key = true) : opB key = false ∧ moB key = false ∧ fiB key = false ∧ (key == 114) = false ∧ (key == 34) = false := by
  have : key = 105 ∨ key = 97 := by simpa [iaB] using h
  rcases this with rfl | rfl <;> decide
theorem c34_no {key : Int} (h : (key == 34) = true) : opB key = false ∧ moB key = false ∧ fiB key = false ∧ iaB key = false ∧ plB key = false ∧ (key == 114) = false := by
  obtain rfl : key = 34 := by simpa using h
  decide
theorem c114_no {key : Int} (h : (key == 114) = true) : opB key = false ∧ moB key = false ∧ fiB key = false ∧ iaB key = false ∧ plB key = false ∧ (key == 34) = false := by
  obtain rfl : key = 114 := by simpa using h
  decide

/-- the four boxes of fairref.Take -/
structure Box4 (W wx : World) (B : Nat) (f r o s wt v0 v1 v2 v3 v4 : Int) : Prop where
  b : Box3 W wx B f r o s wt
  v : Blk wx (B + 3) #[.int .i64 v0, .int .i64 v1, .int .i64 v2, .int .i64 v3, .int .i64 v4] 83
theorem Box4.start (w : World) (f r o s wt : Int) :
    Box4 w ((((w.alloc (.cells #[.int .i64 f, .int .i64 r, .int .i64 o, .int .i64 s, .int .i64 wt] 83)).alloc (.cells #[.int .i64 0, .int .i64 0, .int .i64 0, .int .i64 0, .int .i64 0] 83)).alloc (.cells #[.int .i64 0, .int .i64 0, .int .i64 0, .int .i64 0, .int .i64 0] 80)).alloc (.cells #[.int .i64 f, .int .i64 r, .int .i64 o, .int .i64 s, .int .i64 wt] 83)) w.heap.size f r o s wt f r o s wt := by
  have h := Box3.start w f r o s wt
  refine ⟨⟨h.p.alloc _, h.q.alloc _, h.c.alloc _, h.bel.alloc (by simp; omega) _⟩, ?_⟩
  have := Blk.new (((w.alloc (.cells #[.int .i64 f, .int .i64 r, .int .i64 o, .int .i64 s, .int .i64 wt] 83)).alloc (.cells #[.int .i64 0, .int .i64 0, .int .i64 0, .int .i64 0, .int .i64 0] 83)).alloc (.cells #[.int .i64 0, .int .i64 0, .int .i64 0, .int .i64 0, .int .i64 0] 80)) #[.int .i64 f, .int .i64 r, .int .i64 o, .int .i64 s, .int .i64 wt] 83
  rw [World.size_alloc, World.size_alloc, World.size_alloc] at this
  exact this
theorem Box4.below {W wx w9 : World} {B : Nat} {f r o s wt v0 v1 v2 v3 v4 : Int} (h : Box4 W wx B f r o s wt v0 v1 v2 v3 v4) (hb : Below wx.heap.size wx w9) : Box4 W w9 B f r o s wt v0 v1 v2 v3 v4 :=
  ⟨h.b.below hb, h.v.below hb h.v.lt⟩
theorem Box4.setv {W wx : World} {B : Nat} {f r o s wt v0 v1 v2 v3 v4 u0 u1 u2 u3 u4 : Int} (h : Box4 W wx B f r o s wt v0 v1 v2 v3 v4) (i : Nat) (x : Value)
    (e : (#[.int .i64 v0, .int .i64 v1, .int .i64 v2, .int .i64 v3, .int .i64 v4] : Array Value).setIfInBounds i x = #[.int .i64 u0, .int .i64 u1, .int .i64 u2, .int .i64 u3, .int .i64 u4]) : Box4 W (wx.setCell ⟨B + 3, i, none⟩ x) B f r o s wt u0 u1 u2 u3 u4 :=
  ⟨⟨h.b.p.other (by simp) _, h.b.q.other (by simp) _, h.b.c.other (by simp) _, h.b.bel.setCell (p := ⟨B + 3, i, none⟩) (Nat.le_add_right _ _) _⟩, by have := h.v.set i x; rwa [e] at this⟩

theorem cnt_if (n key : Int) : (if n * 10 + key - 48 < 999 then n * 10 + key - 48 else 999) = cntV n key := by
  unfold cntV
  split <;> omega
theorem cnt_if48 (n : Int) : (if n * 10 < 999 then n * 10 else 999) = cntV n 48 := by
  unfold cntV
  split <;> omega
theorem in_dg48 : inB 48 ⟨#[49, 50, 51, 52, 53, 54, 55, 56, 57]⟩ = false := by rw [in_dg]; rfl
def RefPost (t : TK) (w : World) (e : Ending) (w' : World) : Prop := e = .returned (.tuple #[t.q, t.c, .int .i64 t.how]) ∧ Below w.heap.size w w'
theorem RefPost.of {t : TK} {w w' : World} (h : Below w.heap.size w w') : RefPost t w (.returned (.tuple #[t.q, t.c, .int .i64 t.how])) w' := ⟨rfl, h⟩

end Go.Proofs.Ytmipnikhgihcpaa
