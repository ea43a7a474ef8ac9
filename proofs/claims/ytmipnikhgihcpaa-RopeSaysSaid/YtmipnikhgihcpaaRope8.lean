/- Contracts of rope.Put, At. -/
import Derived.Test.YtmipnikhgihcpaaRope7
namespace Go.Proofs.Ytmipnikhgihcpaa
open Go.RowKit
set_option linter.unusedVariables false
set_option linter.unusedSimpArgs false

def putL (L O : List Int) (f t : Nat) : List Int := if 4096 < L.length - (t - f) + O.length then [] else L.take f ++ O ++ L.drop t
def putE (L O : List Int) (f t : Nat) : Int := if 4096 < L.length - (t - f) + O.length then 2 else 0
set_option maxRecDepth 100000 in
set_option maxHeartbeats 2000000 in
theorem rope_put_bad (p q : Option Addr) (T : Tr) (f t : Int) (w : World) (h : TreeR w (.pointer p) T) (hsz : T.toL.length ≤ 10000) (hbad : sliceBad T.toL.length f t) :
    Calls Try.prog 48 #[.agg #[.pointer p], .int .i64 f, .int .i64 t, .agg #[.pointer q]] w (RPost [] 1 w) := by
  obtain ⟨hB, hC, hR, hb⟩ := start3 w (.pointer p) (.pointer q) (.pointer none) 66
  have HLN := Lib.hid (rope_len p T _ (h.below hb))
  have hz : w.heap.size ≤ (((w.alloc (.cells #[.pointer p] 66)).alloc (.cells #[.pointer q] 66)).alloc (.cells #[.pointer none] 66)).heap.size := by simp; omega
  obtain ⟨n, hn⟩ : ∃ n, T.toL.length = n := ⟨_, rfl⟩
  rw [hn] at hsz hbad HLN
  unfold sliceBad at hbad
  clear h hn
  go_enter Try.func48, Try.ntmps48
  go_upto_region 1 with fail
  generalize (((w.alloc (.cells #[.pointer p] 66)).alloc (.cells #[.pointer q] 66)).alloc (.cells #[.pointer none] 66)) = w1 at *
  have hw1 : w.heap.size ≤ w.heap.size + 1 + 1 := by omega
  generalize w.heap.size + 1 + 1 = R at *
  obtain ⟨c0, -⟩ := hB.one
  obtain ⟨y0, y1⟩ := hR.one
  by_cases h1 : f < 0
  · clear hbad
    go_wp2
    have z0 := (hR.set 0 (.pointer none)).one.1
    refine bodyPost_ret (v := .tuple #[.agg #[.pointer none], .int .i64 1]) (by simp [results, Try.results48, go_sem, z0]) rfl ?_
    exact ⟨none, .nil, rfl, rfl, rfl, hb.setCell (p := ⟨R, 0, none⟩) hw1 _⟩
  · by_cases h2 : t < f
    · clear hbad
      go_wp2
      have z0 := (hR.set 0 (.pointer none)).one.1
      refine bodyPost_ret (v := .tuple #[.agg #[.pointer none], .int .i64 1]) (by simp [results, Try.results48, go_sem, z0]) rfl ?_
      exact ⟨none, .nil, rfl, rfl, rfl, hb.setCell (p := ⟨R, 0, none⟩) hw1 _⟩
    · have h3 : (n : Int) < t := by omega
      clear hbad
      go_wp2_with fail
      refine HLN.out.mono ?_
      rintro e w2 ⟨rfl, hb2⟩
      have hR2 := hR.below hb2 hR.lt
      have hacc := below_then hb hz hb2
      clear y0 y1 c0
      obtain ⟨y0, y1⟩ := hR2.one
      go_wp2
      have z0 := (hR2.set 0 (.pointer none)).one.1
      refine bodyPost_ret (v := .tuple #[.agg #[.pointer none], .int .i64 1]) (by simp [results, Try.results48, go_sem, z0]) rfl ?_
      exact ⟨none, .nil, rfl, rfl, rfl, hacc.setCell (p := ⟨R, 0, none⟩) hw1 _⟩
set_option maxRecDepth 100000 in
set_option maxHeartbeats 4000000 in
theorem rope_put (p q : Option Addr) (T O : Tr) (f t : Nat) (w : World) (h : TreeR w (.pointer p) T) (h' : TreeR w (.pointer q) O) (hsz : T.toL.length ≤ 4096) (hso : O.toL.length ≤ 4096) (hft : f ≤ t) (htn : t ≤ T.toL.length) :
    Calls Try.prog 48 #[.agg #[.pointer p], .int .i64 (f : Int), .int .i64 (t : Int), .agg #[.pointer q]] w (RPost (putL T.toL O.toL f t) (putE T.toL O.toL f t) w) := by
  obtain ⟨hB, hC, hR, hb⟩ := start3 w (.pointer p) (.pointer q) (.pointer none) 66
  have HT := Lib.hid (h.below hb); have HO := Lib.hid (h'.below hb)
  have HLT := Lib.hid (fun w' (r : TreeR w' (.pointer p) T) => rope_len p T w' r); have HLU := Lib.hid (fun w' (r : TreeR w' (.pointer q) O) => rope_len q O w' r)
  have hz : w.heap.size ≤ (((w.alloc (.cells #[.pointer p] 66)).alloc (.cells #[.pointer q] 66)).alloc (.cells #[.pointer none] 66)).heap.size := by simp; omega
  obtain ⟨n, hn⟩ : ∃ n, T.toL.length = n := ⟨_, rfl⟩
  obtain ⟨m, hm⟩ : ∃ m, O.toL.length = m := ⟨_, rfl⟩
  have HPL := Lib.hid (show putL T.toL O.toL f t = if 4096 < n - (t - f) + m then [] else T.toL.take f ++ O.toL ++ T.toL.drop t by unfold putL; rw [hn, hm])
  have HPE := Lib.hid (show putE T.toL O.toL f t = if 4096 < n - (t - f) + m then 2 else 0 by unfold putE; rw [hn, hm])
  rw [hn] at hsz htn HLT; rw [hm] at hso HLU
  have HN := Lib.hid hn; have HM := Lib.hid hm
  clear h h' hn hm
  have i1 : ¬ (f : Int) < 0 := by omega
  have i2 : ¬ (t : Int) < (f : Int) := by omega
  have i3 : ¬ (n : Int) < (t : Int) := by omega
  have iw : IntKind.i64.wrap ((4096 : Int) - (m : Int)) = 4096 - (m : Int) := by rw [IntKind.wrap_i64]; omega
  have iw2 : IntKind.i64.wrap ((t : Int) - (f : Int)) = (t : Int) - (f : Int) := by rw [IntKind.wrap_i64]; omega
  have iw3 : IntKind.i64.wrap ((n : Int) - ((t : Int) - (f : Int))) = (n : Int) - ((t : Int) - (f : Int)) := by rw [IntKind.wrap_i64]; omega
  go_enter Try.func48, Try.ntmps48
  go_upto_region 1 with fail
  generalize (((w.alloc (.cells #[.pointer p] 66)).alloc (.cells #[.pointer q] 66)).alloc (.cells #[.pointer none] 66)) = w1 at *
  have hw1 : w.heap.size ≤ w.heap.size + 1 + 1 := by omega
  generalize w.heap.size + 1 + 1 = R at *
  generalize w.heap.size + 1 = C at *
  obtain ⟨c0, -⟩ := hB.one
  go_wp2_with fail
  refine (HLT.out _ HT.out).mono ?_
  rintro e w2 ⟨rfl, hb2⟩
  have hB2 := hB.below hb2 hB.lt; have hC2 := hC.below hb2 hC.lt; have hR2 := hR.below hb2 hR.lt
  have hacc2 := below_then hb hz hb2
  have HT2 := Lib.hid (HT.out.below hb2); have HO2 := Lib.hid (HO.out.below hb2)
  clear c0 hb2 hB hC hR HT HO
  obtain ⟨c0, -⟩ := hB2.one
  obtain ⟨d0, -⟩ := hC2.one
  go_upto_region 3 with fail
  go_region_held3 (fun w' => w'.cell? ⟨w.heap.size, 0, none⟩ = some (.pointer p) ∧ w'.cell? ⟨C, 0, none⟩ = some (.pointer q) ∧ Below w2.heap.size w2 w') (first | exact ⟨c0, d0, (Below.refl _ _).drew⟩ | assumption | exact keepR ‹_› ‹_›)
    (first | (go_at_call 41; ((with_reducible refine (HLT.out _ (HT2.out.below (kbR ‹_›))).mono ?_); rintro e w4 ⟨rfl, hb4⟩)) | (go_at_call 41; ((with_reducible refine (HLU.out _ (HO2.out.below (kbR ‹_›))).mono ?_); rintro e w5 ⟨rfl, hb5⟩)))
  all_goals
    have hS := ‹_ ∧ _ ∧ Below w2.heap.size w2 w5›
    have hbw := kbR hS
    obtain ⟨e0, e1, -⟩ := hS
    have hR3 := hR2.below hbw hR2.lt; have hB3 := hB2.below hbw hB2.lt; have hC3 := hC2.below hbw hC2.lt
    have hacc := below_then hacc2 hacc2.size hbw
    have HT3 := Lib.hid (HT2.out.below hbw); have HO3 := Lib.hid (HO2.out.below hbw)
    clear hb4 hb5 hbw hB2 hC2 hR2 c0 d0
    by_cases hbig : 4096 < n - (t - f) + m
    · have i4 : (4096 : Int) - (m : Int) < (n : Int) - ((t : Int) - (f : Int)) := by omega
      obtain ⟨y0, y1⟩ := hR3.one
      go_wp2
      have z0 := (hR3.set 0 (.pointer none)).one.1
      refine bodyPost_ret (v := .tuple #[.agg #[.pointer none], .int .i64 2]) (by simp [results, Try.results48, go_sem, z0]) rfl ?_
      exact ⟨none, .nil, by rw [HPE.out, if_pos hbig], rfl, by rw [HPL.out, if_pos hbig]; rfl, hacc.setCell (p := ⟨R, 0, none⟩) hw1 _⟩
    · have i4 : ¬ (4096 : Int) - (m : Int) < (n : Int) - ((t : Int) - (f : Int)) := by omega
      go_wp2_with fail
      refine (rope_split T p f _ HT3.out (by rw [HN.out]; omega) (by rw [HN.out]; omega)).mono ?_
      rintro e w6 ⟨p6, q6, T6, U6, rfl, hT6, hL6, hU6, hM6, hb6⟩
      have hB4 := hB3.below hb6 hB3.lt; have hC4 := hC3.below hb6 hC3.lt; have hR4 := hR3.below hb6 hR3.lt
      have hacc6 := below_then hacc hacc.size hb6
      have HT4 := Lib.hid (HT3.out.below hb6); have HO4 := Lib.hid (HO3.out.below hb6); have HA := Lib.hid hT6
      clear hT6 hU6 hb6 hB3 hC3 hR3 e0 e1
      obtain ⟨e0, -⟩ := hB4.one
      go_wp2_with fail
      refine (rope_split T p t _ HT4.out (by rw [HN.out]; omega) (by rw [HN.out]; omega)).mono ?_
      rintro e w7 ⟨p7, q7, T7, U7, rfl, hT7, hL7, hU7, hM7, hb7⟩
      have hC5 := hC4.below hb7 hC4.lt; have hR5 := hR4.below hb7 hR4.lt
      have hacc7 := below_then hacc6 hacc6.size hb7
      have HO5 := Lib.hid (HO4.out.below hb7); have HA5 := Lib.hid (HA.out.below hb7); have HB5 := Lib.hid hU7
      have la : T6.toL.length = f := by rw [hL6, List.length_take, HN.out]; omega
      have lb : U7.toL.length = n - t := by rw [hM7, List.length_drop, HN.out]
      clear hT7 hU7 hb7 hB4 hC4 hR4 e0
      obtain ⟨e0, -⟩ := hC5.one
      have HLA := Lib.hid la; have HLB := Lib.hid lb
      clear la lb
      go_wp2_with fail
      refine (rope_concat p6 q T6 O _ HA5.out HO5.out (by rw [HLA.out]; omega) (by rw [HM.out]; omega)).mono ?_
      rintro e w8 ⟨p8, T8, rfl, hT8, hL8, hb8⟩
      have hR6 := hR5.below hb8 hR5.lt
      have hacc8 := below_then hacc7 hacc7.size hb8
      have HC := Lib.hid (rope_concat p8 q7 T8 U7 _ hT8 (HB5.out.below hb8) (by rw [hL8, List.length_append, HLA.out, HM.out]; omega) (by rw [HLB.out]; omega))
      clear hT8 hb8 hC5 hR5 e0
      go_wp2_with fail
      refine HC.out.mono ?_
      rintro e w9 ⟨p9, T9, rfl, hT9, hL9, hb9⟩
      have hR7 := hR6.below hb9 hR6.lt
      have hacc9 := below_then hacc8 hacc8.size hb9
      have HTF := Lib.hid (hT9.setOne hR7 (x := .pointer p9))
      obtain ⟨y0, y1⟩ := hR7.one
      clear hT9 hb9 hR6
      go_wp2
      have z0 := (hR7.set 0 (.pointer p9)).one.1
      refine bodyPost_ret (v := .tuple #[.agg #[.pointer p9], .int .i64 0]) (by simp [results, Try.results48, go_sem, z0]) rfl ?_
      exact ⟨p9, T9, by rw [HPE.out, if_neg hbig], HTF.out, by rw [hL9, hL8, hL6, hM7, HPL.out, if_neg hbig], hacc9.setCell (p := ⟨R, 0, none⟩) hw1 _⟩

/-- the size that a node's cell tells -/
def szOf (v : Value) (w : World) : Nat :=
  match v with
  | .pointer (some a) => match w.cell? ⟨a.block, 3, none⟩ with
    | some (.int _ n) => n.toNat
    | _ => 0
  | _ => 0
theorem szOf_tree {w : World} {v : Value} {t : Tr} (h : TreeR w v t) : szOf v w = t.toL.length := by
  cases t with
  | nil => obtain rfl : v = .pointer none := h; rfl
  | node l c r =>
    obtain ⟨b, lv, rv, rfl, h1, h2, h3, h4, h5, -, -⟩ := h
    simp [szOf, h4]
set_option maxRecDepth 100000 in
set_option maxHeartbeats 2000000 in
theorem rope_at_bad (p : Option Addr) (T : Tr) (k : Int) (w : World) (h : TreeR w (.pointer p) T) (hsz : T.toL.length ≤ 10000) (hbad : k < 0 ∨ (T.toL.length : Int) ≤ k) :
    Calls Try.prog 43 #[.agg #[.pointer p], .int .i64 k] w fun e w' => e = .returned (.tuple #[.int .i64 0, .int .i64 1]) ∧ Below w.heap.size w w' := by
  have hb := below1 w (.cells #[.pointer p] 66)
  have hB := Blk.new w #[.pointer p] 66
  have hz : w.heap.size ≤ (w.alloc (.cells #[.pointer p] 66)).heap.size := by simp
  have HLN := Lib.hid (rope_len p T _ (h.below hb))
  obtain ⟨n, hn⟩ : ∃ n, T.toL.length = n := ⟨_, rfl⟩
  rw [hn] at hsz hbad HLN
  clear h hn
  go_enter Try.func43, Try.ntmps43
  go_upto_region 1 with fail
  generalize (w.alloc (.cells #[.pointer p] 66)) = w1 at *
  obtain ⟨c0, -⟩ := hB.one
  by_cases h1 : k < 0
  · clear hbad
    go_wp2
    go_ret2
    exact ⟨rfl, hb⟩
  · have h3 : (n : Int) ≤ k := by omega
    clear hbad
    go_wp2_with fail
    refine HLN.out.mono ?_
    rintro e w2 ⟨rfl, hb2⟩
    go_wp2
    go_ret2
    exact ⟨rfl, below_then hb hz hb2⟩
set_option maxRecDepth 100000 in
set_option maxHeartbeats 2000000 in
theorem rope_at (p : Option Addr) (T : Tr) (k : Nat) (w : World) (h : TreeR w (.pointer p) T) (hsz : T.toL.length ≤ 10000) (hk : k < T.toL.length) :
    Calls Try.prog 43 #[.agg #[.pointer p], .int .i64 (k : Int)] w fun e w' => e = .returned (.tuple #[.int .i64 (ix T.toL k), .int .i64 0]) ∧ Below w.heap.size w w' := by
  have hb := below1 w (.cells #[.pointer p] 66)
  have hB := Blk.new w #[.pointer p] 66
  have hz : w.heap.size ≤ (w.alloc (.cells #[.pointer p] 66)).heap.size := by simp
  have HLN := Lib.hid (rope_len p T _ (h.below hb))
  have HT := Lib.hid (h.below hb)
  obtain ⟨n, hn⟩ : ∃ n, T.toL.length = n := ⟨_, rfl⟩
  rw [hn] at hsz hk HLN
  have HN := Lib.hid hn
  clear h hn
  have i1 : ¬ (k : Int) < 0 := by omega
  have i2 : ¬ (n : Int) ≤ (k : Int) := by omega
  have hdk : decide (n ≤ k) = false := decide_eq_false (by omega)
  go_enter Try.func43, Try.ntmps43
  go_upto_region 1 with fail
  generalize (w.alloc (.cells #[.pointer p] 66)) = w1 at *
  obtain ⟨c0, -⟩ := hB.one
  go_wp2_with fail
  refine HLN.out.mono ?_
  rintro e w2 ⟨rfl, hb2⟩
  have hB2 := hB.below hb2 hB.lt
  have HT2 := Lib.hid (HT.out.below hb2)
  have hacc := below_then hb hz hb2
  clear c0 hB hb2
  obtain ⟨c0, -⟩ := hB2.one
  go_wp2
  go_loopw [1, 6] (fun kv pv wr => ∃ (j : Nat) (U : Tr), kv = .int .i64 (j : Int) ∧ TreeR w2 pv U ∧ j < U.toL.length ∧ U.toL.length ≤ n ∧ Hid (ix U.toL j = ix T.toL k) ∧ wr = w2) (fun _ pv wr => szOf pv wr)
  case atStart => exact ⟨k, T, rfl, HT2.out, by rw [HN.out]; exact hk, by rw [HN.out]; exact Nat.le_refl _, Lib.hid rfl, rfl⟩
  case round =>
    obtain ⟨j, U, rfl, hU, hj, hUn, HIX, rfl⟩ := hrel
    have hsz1 := szOf_tree hU
    rcases U with _ | ⟨l, c, r⟩
    · simp [Tr.toL] at hj
    obtain ⟨b, lv, rv, rfl, l1, l2, l3, -, -, hl, hr⟩ := hU
    obtain ⟨lp, rfl⟩ := hl.form
    obtain ⟨rp, rfl⟩ := hr.form
    have hlen : (Tr.node l c r).toL.length = l.toL.length + 1 + r.toL.length := by simp only [Tr.toL, List.length_append, List.length_cons]; omega
    have hL : (Tr.node l c r).toL = l.toL ++ c :: r.toL := rfl
    rw [hlen] at hj hUn hsz1
    have hZ := rope_size _ _ _ hl
    have hs1 := szOf_tree hl; have hs2 := szOf_tree hr
    have HL := Lib.hid hl; have HR := Lib.hid hr
    obtain ⟨s, hs⟩ : ∃ s, l.toL.length = s := ⟨_, rfl⟩
    rw [hs] at hj hUn hsz1 hZ hs1
    have HS := Lib.hid hs; have HLL := Lib.hid hL; have HZ1 := Lib.hid hsz1; have HZ2 := Lib.hid hs1; have HZ3 := Lib.hid hs2
    clear hl hr hs hL hlen hsz1 hs1 hs2
    go_wp2_with fail
    refine hZ.mono ?_
    rintro e w4 ⟨rfl, rfl⟩
    rcases Nat.lt_trichotomy j s with hjs | hjs | hjs
    · have j1 : (j : Int) < (s : Int) := by omega
      go_wp2
      go_roundw
      case rel => exact ⟨j, l, rfl, HL.out, by rw [HS.out]; exact hjs, by rw [HS.out]; omega, Lib.hid (by rw [← HIX.out, HLL.out, ix_append_left (by rw [HS.out]; exact hjs)]), trivial⟩
      case measure => rw [HZ1.out, HZ2.out]; omega
    · subst hjs
      have hx : ix T.toL k = c := by rw [← HIX.out, HLL.out, ← HS.out]; have := ix_append_right (xs := l.toL) (ys := c :: r.toL) (i := 0); rw [Nat.add_zero] at this; rw [this]; rfl
      have HX := Lib.hid hx
      clear hx
      go_wp2
      go_ret2
      exact ⟨ret2_int HX.out.symm rfl, hacc⟩
    · obtain ⟨i, rfl⟩ : ∃ i, j = s + 1 + i := ⟨j - s - 1, by omega⟩
      have j1 : ¬ ((s + 1 + i : Nat) : Int) < (s : Int) := by omega
      have j2 : (((s + 1 + i : Nat) : Int) == (s : Int)) = false := by simp; omega
      go_wp2
      go_roundw
      case rel => exact ⟨i, r, by go_num, HR.out, by omega, by omega, Lib.hid (by rw [← HIX.out, HLL.out, ← HS.out, Nat.add_assoc, ix_append_right, Nat.add_comm 1 i]; rfl), trivial⟩
      case measure => rw [HZ1.out, HZ3.out]; omega

end Go.Proofs.Ytmipnikhgihcpaa
