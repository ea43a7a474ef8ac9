/- Contracts of rope.Split, Join, Put. -/
import Derived.Test.YtmipnikhgihcpaaRope6
namespace Go.Proofs.Ytmipnikhgihcpaa
open Go.RowKit
set_option linter.unusedVariables false
set_option linter.unusedSimpArgs false

/-- three blocks at the beginning -/
theorem start3 (w : World) (u v x : Value) (e : TypeId) : Blk (((w.alloc (.cells #[u] 66)).alloc (.cells #[v] 66)).alloc (.cells #[x] 66)) w.heap.size #[u] 66 ∧ Blk (((w.alloc (.cells #[u] 66)).alloc (.cells #[v] 66)).alloc (.cells #[x] 66)) (w.heap.size + 1) #[v] 66 ∧ Blk (((w.alloc (.cells #[u] 66)).alloc (.cells #[v] 66)).alloc (.cells #[x] 66)) (w.heap.size + 1 + 1) #[x] 66 ∧ Below w.heap.size w (((w.alloc (.cells #[u] 66)).alloc (.cells #[v] 66)).alloc (.cells #[x] 66)) := by
  have h := Blk.new (w.alloc (.cells #[u] 66)) #[v] 66
  rw [World.size_alloc] at h
  have h' := Blk.new ((w.alloc (.cells #[u] 66)).alloc (.cells #[v] 66)) #[x] 66
  rw [World.size_alloc, World.size_alloc] at h'
  exact ⟨((Blk.new _ _ _).alloc _).alloc _, h.alloc _, h', below3 _ _ _ _⟩
set_option maxRecDepth 100000 in
set_option maxHeartbeats 2000000 in
theorem rope_splitM_bad (p : Option Addr) (T : Tr) (k : Int) (w : World) (h : TreeR w (.pointer p) T) (hsz : T.toL.length ≤ 10000) (hbad : k < 0 ∨ (T.toL.length : Int) < k) :
    Calls Try.prog 44 #[.agg #[.pointer p], .int .i64 k] w (RPost2 [] [] 1 w) := by
  obtain ⟨hB, hR, hQ, hb⟩ := start3 w (.pointer p) (.pointer none) (.pointer none) 66
  have HLN := Lib.hid (rope_len p T _ (h.below hb))
  have hz : w.heap.size ≤ (((w.alloc (.cells #[.pointer p] 66)).alloc (.cells #[.pointer none] 66)).alloc (.cells #[.pointer none] 66)).heap.size := by simp; omega
  obtain ⟨n, hn⟩ : ∃ n, T.toL.length = n := ⟨_, rfl⟩
  rw [hn] at hsz hbad HLN
  clear h hn
  go_enter Try.func44, Try.ntmps44
  go_upto_region 1 with fail
  generalize (((w.alloc (.cells #[.pointer p] 66)).alloc (.cells #[.pointer none] 66)).alloc (.cells #[.pointer none] 66)) = w1 at *
  have hne : w.heap.size + 1 ≠ w.heap.size + 1 + 1 := by omega
  have hw1 : w.heap.size ≤ w.heap.size + 1 := by omega
  have hw2 : w.heap.size ≤ w.heap.size + 1 + 1 := by omega
  generalize w.heap.size + 1 + 1 = Q at *
  generalize w.heap.size + 1 = R at *
  obtain ⟨c0, -⟩ := hB.one
  by_cases h1 : k < 0
  · obtain ⟨y0, y1⟩ := hR.one
    obtain ⟨x0, x1⟩ := (hQ.other (a := ⟨R, 0, none⟩) (Ne.symm hne) (.pointer none)).one
    clear hbad
    go_wp2
    have z0 := ((hR.set 0 (.pointer none)).other (a := ⟨Q, 0, none⟩) hne (.pointer none)).one.1
    have z1 := ((hQ.other (a := ⟨R, 0, none⟩) (Ne.symm hne) (.pointer none)).set 0 (.pointer none)).one.1
    refine bodyPost_ret (v := .tuple #[.agg #[.pointer none], .agg #[.pointer none], .int .i64 1]) (by simp [results, Try.results44, go_sem, z0, z1]) rfl ?_
    exact ⟨none, none, .nil, .nil, rfl, rfl, rfl, rfl, rfl, (hb.setCell (p := ⟨R, 0, none⟩) hw1 _).setCell (p := ⟨Q, 0, none⟩) hw2 _⟩
  · have h3 : (n : Int) < k := by omega
    clear hbad
    go_wp2_with fail
    refine HLN.out.mono ?_
    rintro e w2 ⟨rfl, hb2⟩
    have hR2 := hR.below hb2 hR.lt; have hQ2 := hQ.below hb2 hQ.lt
    have hacc := below_then hb hz hb2
    clear c0
    obtain ⟨y0, y1⟩ := hR2.one
    obtain ⟨x0, x1⟩ := (hQ2.other (a := ⟨R, 0, none⟩) (Ne.symm hne) (.pointer none)).one
    go_wp2
    have z0 := ((hR2.set 0 (.pointer none)).other (a := ⟨Q, 0, none⟩) hne (.pointer none)).one.1
    have z1 := ((hQ2.other (a := ⟨R, 0, none⟩) (Ne.symm hne) (.pointer none)).set 0 (.pointer none)).one.1
    refine bodyPost_ret (v := .tuple #[.agg #[.pointer none], .agg #[.pointer none], .int .i64 1]) (by simp [results, Try.results44, go_sem, z0, z1]) rfl ?_
    exact ⟨none, none, .nil, .nil, rfl, rfl, rfl, rfl, rfl, (hacc.setCell (p := ⟨R, 0, none⟩) hw1 _).setCell (p := ⟨Q, 0, none⟩) hw2 _⟩
set_option maxRecDepth 100000 in
set_option maxHeartbeats 2000000 in
theorem rope_splitM (p : Option Addr) (T : Tr) (k : Nat) (w : World) (h : TreeR w (.pointer p) T) (hsz : T.toL.length ≤ 10000) (hk : k ≤ T.toL.length) :
    Calls Try.prog 44 #[.agg #[.pointer p], .int .i64 (k : Int)] w (RPost2 (T.toL.take k) (T.toL.drop k) 0 w) := by
  obtain ⟨hB, hR, hQ, hb⟩ := start3 w (.pointer p) (.pointer none) (.pointer none) 66
  have HLN := Lib.hid (rope_len p T _ (h.below hb))
  have HT := Lib.hid (h.below hb)
  have hz : w.heap.size ≤ (((w.alloc (.cells #[.pointer p] 66)).alloc (.cells #[.pointer none] 66)).alloc (.cells #[.pointer none] 66)).heap.size := by simp; omega
  obtain ⟨n, hn⟩ : ∃ n, T.toL.length = n := ⟨_, rfl⟩
  rw [hn] at hsz hk HLN
  have HN := Lib.hid hn
  clear h hn
  go_enter Try.func44, Try.ntmps44
  go_upto_region 1 with fail
  generalize (((w.alloc (.cells #[.pointer p] 66)).alloc (.cells #[.pointer none] 66)).alloc (.cells #[.pointer none] 66)) = w1 at *
  have hne : w.heap.size + 1 ≠ w.heap.size + 1 + 1 := by omega
  have hw1 : w.heap.size ≤ w.heap.size + 1 := by omega
  have hw2 : w.heap.size ≤ w.heap.size + 1 + 1 := by omega
  generalize w.heap.size + 1 + 1 = Q at *
  generalize w.heap.size + 1 = R at *
  obtain ⟨c0, -⟩ := hB.one
  have i1 : ¬ (k : Int) < 0 := by omega
  have i3 : ¬ (n : Int) < (k : Int) := by omega
  go_wp2_with fail
  refine HLN.out.mono ?_
  rintro e w2 ⟨rfl, hb2⟩
  have hB2 := hB.below hb2 hB.lt; have hR2 := hR.below hb2 hR.lt; have hQ2 := hQ.below hb2 hQ.lt
  have hacc2 := below_then hb hz hb2
  have HT2 := Lib.hid (HT.out.below hb2)
  clear c0 hb2 hB hR hQ
  obtain ⟨c0, -⟩ := hB2.one
  go_wp2_with fail
  refine (rope_split T p k _ HT2.out (by rw [HN.out]; exact hk) (by rw [HN.out]; omega)).mono ?_
  rintro e w3 ⟨p3, q3, T3, U3, rfl, hT3, hL3, hU3, hM3, hb3⟩
  have hR3 := hR2.below hb3 hR2.lt; have hQ3 := hQ2.below hb3 hQ2.lt
  have hacc3 := below_then hacc2 hacc2.size hb3
  have HTF := Lib.hid ((hT3.setOne hR3 (x := .pointer p3)).setOne (hQ3.other (a := ⟨R, 0, none⟩) (Ne.symm hne) (.pointer p3)) (x := .pointer q3))
  have HUF := Lib.hid ((hU3.setOne hR3 (x := .pointer p3)).setOne (hQ3.other (a := ⟨R, 0, none⟩) (Ne.symm hne) (.pointer p3)) (x := .pointer q3))
  obtain ⟨y0, y1⟩ := hR3.one
  obtain ⟨x0, x1⟩ := (hQ3.other (a := ⟨R, 0, none⟩) (Ne.symm hne) (.pointer p3)).one
  clear hT3 hU3 hb3 hB2 hR2 hQ2
  go_wp2
  have z0 := ((hR3.set 0 (.pointer p3)).other (a := ⟨Q, 0, none⟩) hne (.pointer q3)).one.1
  have z1 := ((hQ3.other (a := ⟨R, 0, none⟩) (Ne.symm hne) (.pointer p3)).set 0 (.pointer q3)).one.1
  refine bodyPost_ret (v := .tuple #[.agg #[.pointer p3], .agg #[.pointer q3], .int .i64 0]) (by simp [results, Try.results44, go_sem, z0, z1]) rfl ?_
  exact ⟨p3, q3, T3, U3, rfl, HTF.out, hL3, HUF.out, hM3, (hacc3.setCell (p := ⟨R, 0, none⟩) hw1 _).setCell (p := ⟨Q, 0, none⟩) hw2 _⟩

/-- the cells of the boxes and what has been made, in a drawn region -/
theorem keepR {W w1 w2 : World} {a0 a1 : Addr} {u0 u1 : Value} (h : w1.cell? a0 = some u0 ∧ w1.cell? a1 = some u1 ∧ Below W.heap.size W w1) (hb : Below w1.heap.size w1 w2) : w2.cell? a0 = some u0 ∧ w2.cell? a1 = some u1 ∧ Below W.heap.size W w2 :=
  ⟨below_keeps hb _ _ h.1, below_keeps hb _ _ h.2.1, below_then h.2.2 h.2.2.size hb⟩
theorem kbR {W w1 : World} {P0 P1 : Prop} (h : P0 ∧ P1 ∧ Below W.heap.size W w1) : Below W.heap.size W w1 := h.2.2
set_option maxRecDepth 100000 in
set_option maxHeartbeats 2000000 in
theorem rope_joinM (p q : Option Addr) (T U : Tr) (w : World) (h : TreeR w (.pointer p) T) (h' : TreeR w (.pointer q) U) (h1 : T.toL.length ≤ 4096) (h2 : U.toL.length ≤ 4096) :
    Calls Try.prog 45 #[.agg #[.pointer p], .agg #[.pointer q]] w (RPost (if 4096 < T.toL.length + U.toL.length then [] else T.toL ++ U.toL) (if 4096 < T.toL.length + U.toL.length then 2 else 0) w) := by
  obtain ⟨hB, hC, hR, hb⟩ := start3 w (.pointer p) (.pointer q) (.pointer none) 66
  have HT := Lib.hid (h.below hb); have HU := Lib.hid (h'.below hb)
  have hz : w.heap.size ≤ (((w.alloc (.cells #[.pointer p] 66)).alloc (.cells #[.pointer q] 66)).alloc (.cells #[.pointer none] 66)).heap.size := by simp; omega
  have HLT := Lib.hid (fun w' (r : TreeR w' (.pointer p) T) => rope_len p T w' r); have HLU := Lib.hid (fun w' (r : TreeR w' (.pointer q) U) => rope_len q U w' r)
  obtain ⟨n, hn⟩ : ∃ n, T.toL.length = n := ⟨_, rfl⟩
  obtain ⟨m, hm⟩ : ∃ m, U.toL.length = m := ⟨_, rfl⟩
  rw [hn] at h1 HLT; rw [hm] at h2 HLU; rw [hn, hm]
  have HN := Lib.hid hn; have HM := Lib.hid hm
  clear h h' hn hm
  have hres : ∀ P : World → Ending → World → Prop, True := fun _ => trivial
  by_cases hbig : 4096 < n + m
  · rw [if_pos hbig, if_pos hbig]
    have i1 : (4096 : Int) - (m : Int) < (n : Int) := by omega
    have iw : IntKind.i64.wrap ((4096 : Int) - (m : Int)) = 4096 - (m : Int) := by rw [IntKind.wrap_i64]; omega
    go_enter Try.func45, Try.ntmps45
    go_upto_region 1 with fail
    generalize (((w.alloc (.cells #[.pointer p] 66)).alloc (.cells #[.pointer q] 66)).alloc (.cells #[.pointer none] 66)) = w1 at *
    have hw2 : w.heap.size ≤ w.heap.size + 1 + 1 := by omega
    generalize w.heap.size + 1 + 1 = R at *
    generalize w.heap.size + 1 = C at *
    obtain ⟨c0, -⟩ := hB.one
    obtain ⟨d0, -⟩ := hC.one
    go_region_held3 (fun w' => w'.cell? ⟨w.heap.size, 0, none⟩ = some (.pointer p) ∧ w'.cell? ⟨C, 0, none⟩ = some (.pointer q) ∧ Below w1.heap.size w1 w') (first | exact ⟨c0, d0, (Below.refl _ _).drew⟩ | assumption | exact keepR ‹_› ‹_›)
      (first | (go_at_call 41; ((with_reducible refine (HLT.out _ (HT.out.below (kbR ‹_›))).mono ?_); rintro e w4 ⟨rfl, hb4⟩)) | (go_at_call 41; ((with_reducible refine (HLU.out _ (HU.out.below (kbR ‹_›))).mono ?_); rintro e w5 ⟨rfl, hb5⟩)))
    all_goals
      have hbw := kbR ‹_ ∧ _ ∧ Below w1.heap.size w1 w5›
      have hR2 := hR.below hbw hR.lt
      have hacc := below_then hb hz hbw
      obtain ⟨y0, y1⟩ := hR2.one
      go_wp2
      have z0 := (hR2.set 0 (.pointer none)).one.1
      refine bodyPost_ret (v := .tuple #[.agg #[.pointer none], .int .i64 2]) (by simp [results, Try.results45, go_sem, z0]) rfl ?_
      exact ⟨none, .nil, rfl, rfl, rfl, hacc.setCell (p := ⟨R, 0, none⟩) hw2 _⟩
  · rw [if_neg hbig, if_neg hbig]
    have i1 : ¬ (4096 : Int) - (m : Int) < (n : Int) := by omega
    have iw : IntKind.i64.wrap ((4096 : Int) - (m : Int)) = 4096 - (m : Int) := by rw [IntKind.wrap_i64]; omega
    go_enter Try.func45, Try.ntmps45
    go_upto_region 1 with fail
    generalize (((w.alloc (.cells #[.pointer p] 66)).alloc (.cells #[.pointer q] 66)).alloc (.cells #[.pointer none] 66)) = w1 at *
    have hw2 : w.heap.size ≤ w.heap.size + 1 + 1 := by omega
    generalize w.heap.size + 1 + 1 = R at *
    generalize w.heap.size + 1 = C at *
    obtain ⟨c0, -⟩ := hB.one
    obtain ⟨d0, -⟩ := hC.one
    go_region_held3 (fun w' => w'.cell? ⟨w.heap.size, 0, none⟩ = some (.pointer p) ∧ w'.cell? ⟨C, 0, none⟩ = some (.pointer q) ∧ Below w1.heap.size w1 w') (first | exact ⟨c0, d0, (Below.refl _ _).drew⟩ | assumption | exact keepR ‹_› ‹_›)
      (first | (go_at_call 41; ((with_reducible refine (HLT.out _ (HT.out.below (kbR ‹_›))).mono ?_); rintro e w4 ⟨rfl, hb4⟩)) | (go_at_call 41; ((with_reducible refine (HLU.out _ (HU.out.below (kbR ‹_›))).mono ?_); rintro e w5 ⟨rfl, hb5⟩)))
    all_goals
      have hS := ‹_ ∧ _ ∧ Below w1.heap.size w1 w5›
      have hbw := kbR hS
      obtain ⟨e0, e1, -⟩ := hS
      have hR2 := hR.below hbw hR.lt
      have hacc := below_then hb hz hbw
      have HJ := Lib.hid (rope_concat p q T U _ (HT.out.below hbw) (HU.out.below hbw) (by rw [HN.out]; omega) (by rw [HM.out]; omega))
      go_wp2_with fail
      refine HJ.out.mono ?_
      rintro e w6 ⟨p6, T6, rfl, hT6, hL6, hb6⟩
      have hR3 := hR2.below hb6 hR2.lt
      have hacc3 := below_then hacc hacc.size hb6
      have HTF := Lib.hid (hT6.setOne hR3 (x := .pointer p6))
      obtain ⟨y0, y1⟩ := hR3.one
      clear hT6
      go_wp2
      have z0 := (hR3.set 0 (.pointer p6)).one.1
      refine bodyPost_ret (v := .tuple #[.agg #[.pointer p6], .int .i64 0]) (by simp [results, Try.results45, go_sem, z0]) rfl ?_
      exact ⟨p6, T6, rfl, HTF.out, hL6, hacc3.setCell (p := ⟨R, 0, none⟩) hw2 _⟩

end Go.Proofs.Ytmipnikhgihcpaa
