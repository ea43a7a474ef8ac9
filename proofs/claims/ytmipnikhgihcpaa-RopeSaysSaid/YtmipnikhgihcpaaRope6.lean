/- Contracts of rope.Of, Split, Slice, Join, Put. -/
import Derived.Test.YtmipnikhgihcpaaRope5
import Derived.BigQuiet
namespace Go.Proofs.Ytmipnikhgihcpaa
open Go.RowKit
set_option linter.unusedVariables false
set_option linter.unusedSimpArgs false

/-- a call returns a rope and an error -/
def RPost (L : List Int) (E : Int) (w : World) (e : Ending) (w' : World) : Prop := ∃ p T, e = .returned (.tuple #[.agg #[.pointer p], .int .i64 E]) ∧ TreeR w' (.pointer p) T ∧ T.toL = L ∧ Below w.heap.size w w'
def RPost2 (L M : List Int) (E : Int) (w : World) (e : Ending) (w' : World) : Prop := ∃ p q T U, e = .returned (.tuple #[.agg #[.pointer p], .agg #[.pointer q], .int .i64 E]) ∧ TreeR w' (.pointer p) T ∧ T.toL = L ∧ TreeR w' (.pointer q) U ∧ U.toL = M ∧ Below w.heap.size w w'
theorem TreeR.setOne {w : World} {R : Nat} {u x : Value} {e : TypeId} (hR : Blk w R #[u] e) : ∀ {t : Tr} {v : Value}, TreeR w v t → TreeR (w.setCell ⟨R, 0, none⟩ x) v t
  | .nil, _, h => h
  | .node l c r, _, ⟨b, lv, rv, h0, h1, h2, h3, h4, h5, h6, h7⟩ => by
    have hne : b ≠ R := by
      rintro rfl
      have := hR.cell 4
      rw [h5] at this
      simp at this
    exact ⟨b, lv, rv, h0, cell_other h1 hne, cell_other h2 hne, cell_other h3 hne, cell_other h4 hne, cell_other h5 hne, TreeR.setOne hR h6, TreeR.setOne hR h7⟩

set_option maxRecDepth 100000 in
theorem rope_of_large (a : Option Addr) (m c : Nat) (w : World) (hm : 4096 < m) :
    Calls Try.prog 40 #[.slice a m c] w (RPost [] 2 w) := by
  have hR := Blk.new w #[.pointer none] 66
  have hb := below1 w (.cells #[.pointer none] 66)
  go_enter Try.func40, Try.ntmps40
  go_upto_region 1 with fail
  generalize (w.alloc (.cells #[.pointer none] 66)) = w1 at *
  obtain ⟨y0, y1⟩ := hR.one
  go_wp2
  have z0 := (hR.set 0 (.pointer none)).one.1
  refine bodyPost_ret (v := .tuple #[.agg #[.pointer none], .int .i64 2]) (by simp [results, Try.results40, go_sem, z0]) rfl ?_
  exact ⟨none, .nil, rfl, rfl, rfl, hb.setCell (p := ⟨w.heap.size, 0, none⟩) (Nat.le_refl _) _⟩
set_option maxRecDepth 100000 in
theorem rope_of (a : Option Addr) (m c : Nat) (xs : List Int) (w : World) (hm : m ≤ 4096) (hs : Sl w (.slice a m c) xs) :
    Calls Try.prog 40 #[.slice a m c] w (RPost xs 0 w) := by
  have hR := Blk.new w #[.pointer none] 66
  have hb := below1 w (.cells #[.pointer none] 66)
  have hz : w.heap.size ≤ (w.alloc (.cells #[.pointer none] 66)).heap.size := by simp
  have HB := Lib.hid (rope_build a m c xs _ (by omega) (hs.below hb))
  clear hs
  go_enter Try.func40, Try.ntmps40
  go_upto_region 1 with fail
  generalize (w.alloc (.cells #[.pointer none] 66)) = w1 at *
  go_wp2_with fail
  refine HB.out.mono ?_
  rintro e w2 ⟨p, T, rfl, hT, hL, hb2⟩
  have hR2 := hR.below hb2 hR.lt
  obtain ⟨y0, y1⟩ := hR2.one
  have HT := Lib.hid (hT.setOne hR2 (x := .pointer p))
  have hacc := below_then hb hz hb2
  clear hT hR
  go_wp2
  have z0 := (hR2.set 0 (.pointer p)).one.1
  refine bodyPost_ret (v := .tuple #[.agg #[.pointer p], .int .i64 0]) (by simp [results, Try.results40, go_sem, z0]) rfl ?_
  exact ⟨p, T, rfl, HT.out, hL, hacc.setCell (p := ⟨w.heap.size, 0, none⟩) (Nat.le_refl _) _⟩

/-- two blocks at the beginning: the rope itself, the result -/
theorem start2 (w : World) (v : Value) : Blk ((w.alloc (.cells #[v] 66)).alloc (.cells #[.pointer none] 66)) w.heap.size #[v] 66 ∧ Blk ((w.alloc (.cells #[v] 66)).alloc (.cells #[.pointer none] 66)) (w.heap.size + 1) #[.pointer none] 66 ∧ Below w.heap.size w ((w.alloc (.cells #[v] 66)).alloc (.cells #[.pointer none] 66)) := by
  have h := Blk.new (w.alloc (.cells #[v] 66)) #[.pointer none] 66
  rw [World.size_alloc] at h
  exact ⟨(Blk.new _ _ _).alloc _, h, below2 _ _ _⟩
def sliceBad (n : Nat) (f t : Int) : Prop := f < 0 ∨ t < f ∨ (n : Int) < t
set_option maxRecDepth 100000 in
set_option maxHeartbeats 2000000 in
theorem rope_slice_bad (p : Option Addr) (T : Tr) (f t : Int) (w : World) (h : TreeR w (.pointer p) T) (hsz : T.toL.length ≤ 10000) (hbad : sliceBad T.toL.length f t) :
    Calls Try.prog 47 #[.agg #[.pointer p], .int .i64 f, .int .i64 t] w (RPost [] 1 w) := by
  obtain ⟨hB, hR, hb⟩ := start2 w (.pointer p)
  have HLN := Lib.hid (rope_len p T _ (h.below hb))
  have hz : w.heap.size ≤ ((w.alloc (.cells #[.pointer p] 66)).alloc (.cells #[.pointer none] 66)).heap.size := by simp; omega
  obtain ⟨n, hn⟩ : ∃ n, T.toL.length = n := ⟨_, rfl⟩
  rw [hn] at hsz hbad HLN
  unfold sliceBad at hbad
  have HT := Lib.hid h
  clear h hn
  go_enter Try.func47, Try.ntmps47
  go_upto_region 1 with fail
  generalize ((w.alloc (.cells #[.pointer p] 66)).alloc (.cells #[.pointer none] 66)) = w1 at *
  have hw1 : w.heap.size ≤ w.heap.size + 1 := by omega
  generalize w.heap.size + 1 = R at *
  obtain ⟨c0, -⟩ := hB.one
  obtain ⟨y0, y1⟩ := hR.one
  by_cases h1 : f < 0
  · clear hbad
    go_wp2
    have z0 := (hR.set 0 (.pointer none)).one.1
    refine bodyPost_ret (v := .tuple #[.agg #[.pointer none], .int .i64 1]) (by simp [results, Try.results47, go_sem, z0]) rfl ?_
    exact ⟨none, .nil, rfl, rfl, rfl, hb.setCell (p := ⟨R, 0, none⟩) hw1 _⟩
  · by_cases h2 : t < f
    · clear hbad
      go_wp2
      have z0 := (hR.set 0 (.pointer none)).one.1
      refine bodyPost_ret (v := .tuple #[.agg #[.pointer none], .int .i64 1]) (by simp [results, Try.results47, go_sem, z0]) rfl ?_
      exact ⟨none, .nil, rfl, rfl, rfl, hb.setCell (p := ⟨R, 0, none⟩) hw1 _⟩
    · have h3 : (n : Int) < t := by omega
      clear hbad
      go_wp2_with fail
      refine HLN.out.mono ?_
      rintro e w2 ⟨rfl, hb2⟩
      have hR2 := hR.below hb2 hR.lt
      have hacc := below_then hb hz hb2
      clear y0 y1 c0
      obtain ⟨y0, y1⟩ := hR2.one
      go_wp2
      have z0 := (hR2.set 0 (.pointer none)).one.1
      refine bodyPost_ret (v := .tuple #[.agg #[.pointer none], .int .i64 1]) (by simp [results, Try.results47, go_sem, z0]) rfl ?_
      exact ⟨none, .nil, rfl, rfl, rfl, hacc.setCell (p := ⟨R, 0, none⟩) hw1 _⟩
set_option maxRecDepth 100000 in
set_option maxHeartbeats 2000000 in
theorem rope_slice (p : Option Addr) (T : Tr) (f t : Nat) (w : World) (h : TreeR w (.pointer p) T) (hsz : T.toL.length ≤ 10000) (h1 : f ≤ t) (h2 : t ≤ T.toL.length) :
    Calls Try.prog 47 #[.agg #[.pointer p], .int .i64 (f : Int), .int .i64 (t : Int)] w (RPost ((T.toL.take t).drop f) 0 w) := by
  obtain ⟨hB, hR, hb⟩ := start2 w (.pointer p)
  have HLN := Lib.hid (rope_len p T _ (h.below hb))
  have hz : w.heap.size ≤ ((w.alloc (.cells #[.pointer p] 66)).alloc (.cells #[.pointer none] 66)).heap.size := by simp; omega
  have HT := Lib.hid (h.below hb)
  have hszz := hsz
  obtain ⟨n, hn⟩ : ∃ n, T.toL.length = n := ⟨_, rfl⟩
  rw [hn] at hsz h2 HLN
  have HN := Lib.hid hn
  clear h hn hszz
  go_enter Try.func47, Try.ntmps47
  go_upto_region 1 with fail
  generalize ((w.alloc (.cells #[.pointer p] 66)).alloc (.cells #[.pointer none] 66)) = w1 at *
  have hw1 : w.heap.size ≤ w.heap.size + 1 := by omega
  generalize w.heap.size + 1 = R at *
  obtain ⟨c0, -⟩ := hB.one
  have i1 : ¬ (f : Int) < 0 := by omega
  have i2 : ¬ (t : Int) < (f : Int) := by omega
  have i3 : ¬ (n : Int) < (t : Int) := by omega
  go_wp2_with fail
  refine HLN.out.mono ?_
  rintro e w2 ⟨rfl, hb2⟩
  have hB2 := hB.below hb2 hB.lt; have hR2 := hR.below hb2 hR.lt
  have hacc2 := below_then hb hz hb2
  have HT2 := Lib.hid (HT.out.below hb2)
  clear c0 hb2 hB hR
  obtain ⟨c0, -⟩ := hB2.one
  go_wp2_with fail
  refine (rope_split T p t _ HT2.out (by rw [HN.out]; exact h2) (by rw [HN.out]; omega)).mono ?_
  rintro e w3 ⟨p3, q3, T3, U3, rfl, hT3, hL3, hU3, hM3, hb3⟩
  have hR3 := hR2.below hb3 hR2.lt
  have hacc3 := below_then hacc2 hacc2.size hb3
  have HS := Lib.hid (rope_split T3 p3 f _ hT3 (by rw [hL3, List.length_take, HN.out]; omega) (by rw [hL3, List.length_take, HN.out]; omega))
  clear hT3 hU3 hb3 hB2 hR2
  go_wp2_with fail
  refine HS.out.mono ?_
  rintro e w4 ⟨p4, q4, T4, U4, rfl, hT4, hL4, hU4, hM4, hb4⟩
  have hR4 := hR3.below hb4 hR3.lt
  have hacc4 := below_then hacc3 hacc3.size hb4
  have HU := Lib.hid (hU4.setOne hR4 (x := .pointer q4))
  clear hT4 hU4 hb4 hR3
  obtain ⟨y0, y1⟩ := hR4.one
  go_wp2
  have z0 := (hR4.set 0 (.pointer q4)).one.1
  refine bodyPost_ret (v := .tuple #[.agg #[.pointer q4], .int .i64 0]) (by simp [results, Try.results47, go_sem, z0]) rfl ?_
  exact ⟨q4, U4, rfl, HU.out, by rw [hM4, hL3], hacc4.setCell (p := ⟨R, 0, none⟩) hw1 _⟩

end Go.Proofs.Ytmipnikhgihcpaa
