/- Contract of object.words. -/
import Derived.Test.YtbgbcmfgncneiaaObj2
namespace Go.Proofs.Ytbgbcmfgncneiaa
open Go.RowKit
set_option linter.unusedVariables false
set_option linter.unusedSimpArgs false

/-- the words around place k, with the blanks on a side where that is asked -/
def WordsP (l : List Int) (big around : Bool) (k f t : Nat) : Prop :=
  ∃ f0 t0, RunP l big k f0 t0 ∧
    (if around = true ∧ t0 < l.length ∧ (kindS (ix l k) big = 0 ∨ kindS (ix l t0) big = 0) then f = f0 ∧ ∃ f1, RunP l big t0 f1 t
     else if around = true ∧ kindS (ix l k) big ≠ 0 ∧ 0 < f0 ∧ kindS (ix l (f0 - 1)) big = 0 then t = t0 ∧ ∃ t1, RunP l big (f0 - 1) f t1
     else f = f0 ∧ t = t0)
theorem WordsP.one {l : List Int} {big around : Bool} {k f t f' t' : Nat} (h : WordsP l big around k f t) (h' : WordsP l big around k f' t') : f = f' ∧ t = t' := by
  obtain ⟨f0, t0, h1, h2⟩ := h
  obtain ⟨g0, u0, h3, h4⟩ := h'
  obtain ⟨rfl, rfl⟩ := h1.one h3
  split at h2
  · rename_i hc
    rw [if_pos hc] at h4
    obtain ⟨rfl, f1, h5⟩ := h2
    obtain ⟨rfl, f2, h6⟩ := h4
    exact ⟨rfl, (h5.one h6).2⟩
  · rename_i hc
    rw [if_neg hc] at h4
    split at h2
    · rename_i hd
      rw [if_pos hd] at h4
      obtain ⟨rfl, f1, h5⟩ := h2
      obtain ⟨rfl, f2, h6⟩ := h4
      exact ⟨(h5.one h6).1, rfl⟩
    · rename_i hd
      rw [if_neg hd] at h4
      exact ⟨h2.1.trans h4.1.symm, h2.2.trans h4.2.symm⟩

def WordsPost (l : List Int) (big around : Bool) (k : Nat) (w : World) (e : Ending) (w' : World) : Prop :=
  ∃ f t : Nat, e = .returned (.tuple #[.agg #[.int .i64 (f : Int), .int .i64 (t : Int)], .int .i64 0]) ∧ WordsP l big around k f t ∧ t ≤ l.length ∧ Below w.heap.size w w'

set_option maxRecDepth 100000 in
theorem object_words_none (c k : Nat) (a : Option Addr) (around big : Bool) (w : World) :
    Calls Try.prog 114 #[.slice a 0 c, .int .i64 (k : Int), .bool around, .bool big] w fun e w' => e = .returned (.tuple #[.agg #[.int .i64 0, .int .i64 0], .int .i64 6]) ∧ Below w.heap.size w w' := by
  have hA := Blk.new w #[.int .i64 0, .int .i64 0] 167
  obtain ⟨y0, y1, -, -⟩ := hA.two
  have hb := below1 w (.cells #[.int .i64 0, .int .i64 0] 167)
  go_enter Try.func114, Try.ntmps114
  go_wp2
  refine bodyPost_ret (v := .tuple #[.agg #[.int .i64 0, .int .i64 0], .int .i64 6]) (by simp [results, Try.results114, go_sem, y0, y1]) rfl ?_
  exact ⟨rfl, hb⟩

set_option maxRecDepth 100000 in
set_option maxHeartbeats 1000000 in
theorem object_words_in (a : Option Addr) (n c : Nat) (l : List Int) (big : Bool) (k : Nat) (w : World) (ha : Ints w a l) (hn : l.length = n) (h2 : n ≤ 4096) (hk : k < n) :
    Calls Try.prog 114 #[.slice a n c, .int .i64 (k : Int), .bool false, .bool big] w (WordsPost l big false k w) := by
  have HN := Lib.hid hn; clear hn
  have hA := Blk.new w #[.int .i64 0, .int .i64 0] 167
  have hb := below1 w (.cells #[.int .i64 0, .int .i64 0] 167)
  have hn0 : ¬ n = 0 := by omega
  have hn1 : ((n : Int) == 0) = false := by simp; omega
  go_enter Try.func114, Try.ntmps114
  go_wp2_with fail
  refine (object_run a n c l big k _ (ha.below hb) HN.out h2 hk).mono ?_
  rintro e w2 ⟨f, t, rfl, hR, hb2⟩
  have hA2 := hA.below hb2 hA.lt
  have hbb := below_then hb hb.size hb2
  obtain ⟨d0, d1, g0, g1⟩ := hA2.two
  have hz := hA2.lt
  have htl := hR.len
  have HR := Lib.hid hR
  clear hR
  go_wp2
  have hA3 := Blk.alloc ((hA2.set 0 (.int .i64 (f : Int))).set 1 (.int .i64 (t : Int))) (.cells #[.int .i64 (f : Int), .int .i64 (t : Int)] 167)
  obtain ⟨y0, y1, -, -⟩ := Blk.two hA3
  refine bodyPost_ret (v := .tuple #[.agg #[.int .i64 (f : Int), .int .i64 (t : Int)], .int .i64 0]) (by simp [results, Try.results114, go_sem, y0, y1]) rfl ?_
  refine ⟨f, t, rfl, ⟨f, t, HR.out, ?_⟩, htl, ?_⟩
  · rw [if_neg (by simp), if_neg (by simp)]; exact ⟨rfl, rfl⟩
  · have hb5 := (hbb.setCell (p := ⟨w.heap.size, 0, none⟩) (Nat.le_refl _) (.int .i64 (f : Int))).setCell (p := ⟨w.heap.size, 1, none⟩) (Nat.le_refl _) (.int .i64 (t : Int))
    exact hb5.alloc hb5.size _

end Go.Proofs.Ytbgbcmfgncneiaa
