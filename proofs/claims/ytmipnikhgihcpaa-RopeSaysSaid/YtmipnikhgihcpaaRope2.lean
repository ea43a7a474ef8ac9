/- Contract of rope.level. -/
import Derived.Test.YtmipnikhgihcpaaRope1
import Derived.Deep.RegionHeld3
import Derived.Deep.CutBlock
namespace Go.Proofs.Ytmipnikhgihcpaa
open Go.RowKit
set_option linter.unusedVariables false
set_option linter.unusedSimpArgs false

theorem keepT3 {W w1 w2 : World} {a0 a1 a2 : Addr} {u0 u1 u2 : Value} (h : w1.cell? a0 = some u0 ∧ w1.cell? a1 = some u1 ∧ w1.cell? a2 = some u2 ∧ Below W.heap.size W w1) (hb : Below w1.heap.size w1 w2) : w2.cell? a0 = some u0 ∧ w2.cell? a1 = some u1 ∧ w2.cell? a2 = some u2 ∧ Below W.heap.size W w2 := by
  obtain ⟨h0, h1, h2, hW⟩ := h
  exact ⟨below_keeps hb _ _ h0, below_keeps hb _ _ h1, below_keeps hb _ _ h2, below_then hW hW.size hb⟩
theorem kb3 {W w1 : World} {P0 P1 P2 : Prop} (h : P0 ∧ P1 ∧ P2 ∧ Below W.heap.size W w1) : Below W.heap.size W w1 := h.2.2.2
theorem keepT6 {W w1 w2 : World} {a0 a1 a2 a3 a4 a5 : Addr} {u0 u1 u2 u3 u4 u5 : Value} (h : w1.cell? a0 = some u0 ∧ w1.cell? a1 = some u1 ∧ w1.cell? a2 = some u2 ∧ w1.cell? a3 = some u3 ∧ w1.cell? a4 = some u4 ∧ w1.cell? a5 = some u5 ∧ Below W.heap.size W w1) (hb : Below w1.heap.size w1 w2) : w2.cell? a0 = some u0 ∧ w2.cell? a1 = some u1 ∧ w2.cell? a2 = some u2 ∧ w2.cell? a3 = some u3 ∧ w2.cell? a4 = some u4 ∧ w2.cell? a5 = some u5 ∧ Below W.heap.size W w2 := by
  obtain ⟨h0, h1, h2, h3, h4, h5, hW⟩ := h
  exact ⟨below_keeps hb _ _ h0, below_keeps hb _ _ h1, below_keeps hb _ _ h2, below_keeps hb _ _ h3, below_keeps hb _ _ h4, below_keeps hb _ _ h5, below_then hW hW.size hb⟩
theorem kb6 {W w1 : World} {P0 P1 P2 P3 P4 P5 : Prop} (h : P0 ∧ P1 ∧ P2 ∧ P3 ∧ P4 ∧ P5 ∧ Below W.heap.size W w1) : Below W.heap.size W w1 := h.2.2.2.2.2.2
set_option maxRecDepth 100000 in
set_option maxHeartbeats 4000000 in
theorem rope_level_lA (lb : Nat) (llp : Option Addr) (lrp : Option Addr) (rp : Option Addr) (ll : Tr) (lr : Tr) (r : Tr) (lc c : Int) (w : World) (hl : TreeR w (.pointer (some ⟨lb, 0, none⟩)) (.node ll lc lr)) (hr : TreeR w (.pointer rp) r) (l1 : w.cell? ⟨lb, 0, none⟩ = some (.pointer llp)) (l2 : w.cell? ⟨lb, 1, none⟩ = some (.pointer lrp)) (l3 : w.cell? ⟨lb, 2, none⟩ = some (.int .i64 lc)) (hll : TreeR w (.pointer llp) ll) (hlr : TreeR w (.pointer lrp) lr) (hsz : ll.toL.length + 1 + lr.toL.length + r.toL.length ≤ 50000) (hbig : r.tall + 1 < (Tr.node ll lc lr).tall) (hcmp : lr.tall ≤ ll.tall) :
    Calls Try.prog 203 #[.pointer (some ⟨lb, 0, none⟩), .int .i64 c, .pointer rp] w (LPost ((Tr.node ll lc lr).toL ++ c :: r.toL) w) := by
  have hA := rope_tall _ _ _ hl; have hB := rope_tall _ _ _ hr
  have HA := Lib.hid hll; have HB := Lib.hid hlr; have HO := Lib.hid hr
  have t1 := r.tall_le; have t3 := ll.tall_le; have t4 := lr.tall_le
  have t5 : (Tr.node ll lc lr).tall ≤ ll.toL.length + 1 + lr.toL.length := by have h := (Tr.node ll lc lr).tall_le; simp only [Tr.toL, List.length_append, List.length_cons] at h ⊢; omega
  have HLST := Lib.hid (show (Tr.node ll lc lr).toL = ll.toL ++ lc :: lr.toL from rfl)
  obtain ⟨tn, htn⟩ : ∃ n, (Tr.node ll lc lr).tall = n := ⟨_, rfl⟩
  obtain ⟨tq, hto⟩ : ∃ n, r.tall = n := ⟨_, rfl⟩
  obtain ⟨tu, htu⟩ : ∃ n, ll.tall = n := ⟨_, rfl⟩
  obtain ⟨ti, hti⟩ : ∃ n, lr.tall = n := ⟨_, rfl⟩
  rw [htn] at hA hbig t5; rw [hto] at hB hbig t1; rw [htu] at hcmp t3; rw [hti] at hcmp t4
  have HTU := Lib.hid htu; have HTI := Lib.hid hti
  have i1 : (tq : Int) + 1 < (tn : Int) := by omega
  have i2 : (ti : Int) ≤ (tu : Int) := by omega
  clear hl hr hll hlr htn hto htu hti
  go_enter Try.func203, Try.ntmps203
  go_wp2_with fail
  refine hA.mono ?_
  rintro e w1 ⟨rfl, rfl⟩
  go_wp2_with fail
  refine hB.mono ?_
  rintro e w1 ⟨rfl, rfl⟩
  go_upto_region 2 with fail
  go_region_held3 (fun w' => w'.cell? ⟨lb, 0, none⟩ = some (.pointer llp) ∧ w'.cell? ⟨lb, 2, none⟩ = some (.int .i64 lc) ∧ w'.cell? ⟨lb, 1, none⟩ = some (.pointer lrp) ∧ Below w.heap.size w w') (first | exact ⟨l1, l3, l2, (Below.refl _ _).drew⟩ | exact ⟨l1, l3, l2, (Below.refl _ _).drew.drew⟩ | assumption | exact keepT3 ‹_› ‹_›)
    (first | (go_at_call 202; ((with_reducible refine (rope_tall (.pointer llp) ll _ (HA.out.below (kb3 ‹_›))).mono ?_); rintro e w4 ⟨rfl, rfl⟩; rw [HTU.out])) | (go_at_call 202; ((with_reducible refine (rope_tall (.pointer lrp) lr _ (HB.out.below (kb3 ‹_›))).mono ?_); rintro e w4 ⟨rfl, rfl⟩; rw [HTI.out])))
  all_goals
    go_upto_region 3 with fail
    go_region_held3 (fun w' => w'.cell? ⟨lb, 0, none⟩ = some (.pointer llp) ∧ w'.cell? ⟨lb, 2, none⟩ = some (.int .i64 lc) ∧ w'.cell? ⟨lb, 1, none⟩ = some (.pointer lrp) ∧ Below w.heap.size w w') (first | exact ⟨l1, l3, l2, (Below.refl _ _).drew⟩ | exact ⟨l1, l3, l2, (Below.refl _ _).drew.drew⟩ | assumption | exact keepT3 ‹_› ‹_›)
      (first | (go_at_call 158; ((with_reducible refine (rope_made lrp rp lr r c _ (HB.out.below (kb3 ‹_›)) (HO.out.below (kb3 ‹_›)) (by omega)).mono ?_); rintro e w4 ⟨p4, T4, rfl, hT4, hL4, hb4⟩; have hS4 := keepT3 ‹_› hb4)) | (go_at_call 158; ((with_reducible refine (rope_made llp p4 ll T4 lc _ (HA.out.below (kb3 ‹_›)) hT4 (by rw [hL4, List.length_append, List.length_cons]; omega)).mono ?_); rintro e w5 ⟨p5, T5, rfl, hT5, hL5, hb5⟩; have hS5 := keepT3 ‹_› hb5)))
    all_goals
      go_wp2
      go_ret
      exact ⟨p5, T5, rfl, hT5, by rw [hL5, hL4, HLST.out]; simp [List.append_assoc], kb3 hS5⟩

set_option maxRecDepth 100000 in
set_option maxHeartbeats 4000000 in
theorem rope_level_lB (lb : Nat) (mb : Nat) (mlp mrp : Option Addr) (ml mr : Tr) (mc : Int) (llp : Option Addr) (rp : Option Addr) (ll : Tr) (r : Tr) (lc c : Int) (w : World) (hl : TreeR w (.pointer (some ⟨lb, 0, none⟩)) (.node ll lc (.node ml mc mr))) (hr : TreeR w (.pointer rp) r) (l1 : w.cell? ⟨lb, 0, none⟩ = some (.pointer llp)) (l2 : w.cell? ⟨lb, 1, none⟩ = some (.pointer (some ⟨mb, 0, none⟩))) (l3 : w.cell? ⟨lb, 2, none⟩ = some (.int .i64 lc)) (hll : TreeR w (.pointer llp) ll) (hlr : TreeR w (.pointer (some ⟨mb, 0, none⟩)) (.node ml mc mr)) (m1 : w.cell? ⟨mb, 0, none⟩ = some (.pointer mlp)) (m2 : w.cell? ⟨mb, 1, none⟩ = some (.pointer mrp)) (m3 : w.cell? ⟨mb, 2, none⟩ = some (.int .i64 mc)) (hml : TreeR w (.pointer mlp) ml) (hmr : TreeR w (.pointer mrp) mr) (hsz : ll.toL.length + 1 + (Tr.node ml mc mr).toL.length + r.toL.length ≤ 50000) (hbig : r.tall + 1 < (Tr.node ll lc (Tr.node ml mc mr)).tall) (hcmp : ll.tall < (Tr.node ml mc mr).tall) :
    Calls Try.prog 203 #[.pointer (some ⟨lb, 0, none⟩), .int .i64 c, .pointer rp] w (LPost ((Tr.node ll lc (Tr.node ml mc mr)).toL ++ c :: r.toL) w) := by
  have hA := rope_tall _ _ _ hl; have hB := rope_tall _ _ _ hr
  have HA := Lib.hid hll; have HB := Lib.hid hlr; have HO := Lib.hid hr
  have HML := Lib.hid hml; have HMR := Lib.hid hmr
  have t1 := r.tall_le; have t3 := ll.tall_le; have t4 := (Tr.node ml mc mr).tall_le
  have t5 : (Tr.node ll lc (Tr.node ml mc mr)).tall ≤ ll.toL.length + 1 + (Tr.node ml mc mr).toL.length := by have h := (Tr.node ll lc (Tr.node ml mc mr)).tall_le; simp only [Tr.toL, List.length_append, List.length_cons] at h ⊢; omega
  have t6 : (Tr.node ml mc mr).toL.length = ml.toL.length + 1 + mr.toL.length := by simp only [Tr.toL, List.length_append, List.length_cons]; omega
  have HLST := Lib.hid (show (Tr.node ll lc (Tr.node ml mc mr)).toL = ll.toL ++ lc :: (Tr.node ml mc mr).toL from rfl)
  have HMST := Lib.hid (show (Tr.node ml mc mr).toL = ml.toL ++ mc :: mr.toL from rfl)
  obtain ⟨tn, htn⟩ : ∃ n, (Tr.node ll lc (Tr.node ml mc mr)).tall = n := ⟨_, rfl⟩
  obtain ⟨tq, hto⟩ : ∃ n, r.tall = n := ⟨_, rfl⟩
  obtain ⟨tu, htu⟩ : ∃ n, ll.tall = n := ⟨_, rfl⟩
  obtain ⟨ti, hti⟩ : ∃ n, (Tr.node ml mc mr).tall = n := ⟨_, rfl⟩
  rw [htn] at hA hbig t5; rw [hto] at hB hbig t1; rw [htu] at hcmp t3; rw [hti] at hcmp t4
  have HTU := Lib.hid htu; have HTI := Lib.hid hti
  have i1 : (tq : Int) + 1 < (tn : Int) := by omega
  have i2 : ¬ (ti : Int) ≤ (tu : Int) := by omega
  clear hl hr hll hlr htn hto htu hti hml hmr
  go_enter Try.func203, Try.ntmps203
  go_wp2_with fail
  refine hA.mono ?_
  rintro e w1 ⟨rfl, rfl⟩
  go_wp2_with fail
  refine hB.mono ?_
  rintro e w1 ⟨rfl, rfl⟩
  go_upto_region 2 with fail
  go_region_held3 (fun w' => w'.cell? ⟨lb, 0, none⟩ = some (.pointer llp) ∧ w'.cell? ⟨lb, 2, none⟩ = some (.int .i64 lc) ∧ w'.cell? ⟨lb, 1, none⟩ = some (.pointer (some ⟨mb, 0, none⟩)) ∧ Below w.heap.size w w') (first | exact ⟨l1, l3, l2, (Below.refl _ _).drew⟩ | exact ⟨l1, l3, l2, (Below.refl _ _).drew.drew⟩ | assumption | exact keepT3 ‹_› ‹_›)
    (first | (go_at_call 202; ((with_reducible refine (rope_tall (.pointer llp) ll _ (HA.out.below (kb3 ‹_›))).mono ?_); rintro e w4 ⟨rfl, rfl⟩; rw [HTU.out])) | (go_at_call 202; ((with_reducible refine (rope_tall (.pointer (some ⟨mb, 0, none⟩)) (.node ml mc mr) _ (HB.out.below (kb3 ‹_›))).mono ?_); rintro e w4 ⟨rfl, rfl⟩; rw [HTI.out])))
  all_goals
    go_upto_region 5 with fail
    go_region_held3 (fun w' => w'.cell? ⟨lb, 0, none⟩ = some (.pointer llp) ∧ w'.cell? ⟨lb, 2, none⟩ = some (.int .i64 lc) ∧ w'.cell? ⟨lb, 1, none⟩ = some (.pointer (some ⟨mb, 0, none⟩)) ∧ w'.cell? ⟨mb, 0, none⟩ = some (.pointer mlp) ∧ w'.cell? ⟨mb, 2, none⟩ = some (.int .i64 mc) ∧ w'.cell? ⟨mb, 1, none⟩ = some (.pointer mrp) ∧ Below w.heap.size w w') (first | exact ⟨l1, l3, l2, m1, m3, m2, (Below.refl _ _).drew⟩ | exact ⟨l1, l3, l2, m1, m3, m2, (Below.refl _ _).drew.drew⟩ | assumption | exact keepT6 ‹_› ‹_›)
      (first | (go_at_call 158; ((with_reducible refine (rope_made llp mlp ll ml lc _ (HA.out.below (kb6 ‹_›)) (HML.out.below (kb6 ‹_›)) (by omega)).mono ?_); rintro e w4 ⟨p4, T4, rfl, hT4, hL4, hb4⟩; have hS4 := keepT6 ‹_› hb4)) | (go_at_call 158; ((with_reducible refine (rope_made mrp rp mr r c _ (HMR.out.below (kb6 ‹_›)) (HO.out.below (kb6 ‹_›)) (by omega)).mono ?_); rintro e w5 ⟨p5, T5, rfl, hT5, hL5, hb5⟩; have hS5 := keepT6 ‹_› hb5)) | (go_at_call 158; ((with_reducible refine (rope_made p4 p5 T4 T5 mc _ (hT4.below hb5) hT5 (by rw [hL4, hL5, List.length_append, List.length_cons, List.length_append, List.length_cons]; omega)).mono ?_); rintro e w6 ⟨p6, T6, rfl, hT6, hL6, hb6⟩; have hS6 := keepT6 ‹_› hb6)))
    all_goals
      go_wp2
      go_ret
      exact ⟨p6, T6, rfl, hT6, by rw [hL6, hL5, hL4, HLST.out, HMST.out]; simp [List.append_assoc], kb6 hS6⟩

set_option maxRecDepth 100000 in
set_option maxHeartbeats 4000000 in
theorem rope_level_rA (rb : Nat) (rlp : Option Addr) (rrp : Option Addr) (lp : Option Addr) (rl : Tr) (rr : Tr) (l : Tr) (rc c : Int) (w : World) (hl : TreeR w (.pointer lp) l) (hr : TreeR w (.pointer (some ⟨rb, 0, none⟩)) (.node rl rc rr)) (l1 : w.cell? ⟨rb, 0, none⟩ = some (.pointer rlp)) (l2 : w.cell? ⟨rb, 1, none⟩ = some (.pointer rrp)) (l3 : w.cell? ⟨rb, 2, none⟩ = some (.int .i64 rc)) (hll : TreeR w (.pointer rlp) rl) (hlr : TreeR w (.pointer rrp) rr) (hsz : rl.toL.length + 1 + rr.toL.length + l.toL.length ≤ 50000) (hbig : l.tall + 1 < (Tr.node rl rc rr).tall) (hcmp : rl.tall ≤ rr.tall) :
    Calls Try.prog 203 #[.pointer lp, .int .i64 c, .pointer (some ⟨rb, 0, none⟩)] w (LPost (l.toL ++ c :: (Tr.node rl rc rr).toL) w) := by
  have hA := rope_tall _ _ _ hl; have hB := rope_tall _ _ _ hr
  have HA := Lib.hid hll; have HB := Lib.hid hlr; have HO := Lib.hid hl
  have t1 := l.tall_le; have t3 := rr.tall_le; have t4 := rl.tall_le
  have t5 : (Tr.node rl rc rr).tall ≤ rl.toL.length + 1 + rr.toL.length := by have h := (Tr.node rl rc rr).tall_le; simp only [Tr.toL, List.length_append, List.length_cons] at h ⊢; omega
  have HLST := Lib.hid (show (Tr.node rl rc rr).toL = rl.toL ++ rc :: rr.toL from rfl)
  obtain ⟨tn, htn⟩ : ∃ n, (Tr.node rl rc rr).tall = n := ⟨_, rfl⟩
  obtain ⟨tq, hto⟩ : ∃ n, l.tall = n := ⟨_, rfl⟩
  obtain ⟨tu, htu⟩ : ∃ n, rr.tall = n := ⟨_, rfl⟩
  obtain ⟨ti, hti⟩ : ∃ n, rl.tall = n := ⟨_, rfl⟩
  rw [htn] at hB hbig t5; rw [hto] at hA hbig t1; rw [htu] at hcmp t3; rw [hti] at hcmp t4
  have HTU := Lib.hid htu; have HTI := Lib.hid hti
  have i0 : ¬ (tn : Int) + 1 < (tq : Int) := by omega
  have i1 : (tq : Int) + 1 < (tn : Int) := by omega
  have i2 : (ti : Int) ≤ (tu : Int) := by omega
  clear hl hr hll hlr htn hto htu hti
  go_enter Try.func203, Try.ntmps203
  go_wp2_with fail
  refine hA.mono ?_
  rintro e w1 ⟨rfl, rfl⟩
  go_wp2_with fail
  refine hB.mono ?_
  rintro e w1 ⟨rfl, rfl⟩
  go_wp2_with fail
  refine hB.mono ?_
  rintro e w1 ⟨rfl, rfl⟩
  go_wp2_with fail
  refine hA.mono ?_
  rintro e w1 ⟨rfl, rfl⟩
  go_upto_region 7 with fail
  go_region_held3 (fun w' => w'.cell? ⟨rb, 0, none⟩ = some (.pointer rlp) ∧ w'.cell? ⟨rb, 2, none⟩ = some (.int .i64 rc) ∧ w'.cell? ⟨rb, 1, none⟩ = some (.pointer rrp) ∧ Below w.heap.size w w') (first | exact ⟨l1, l3, l2, (Below.refl _ _).drew⟩ | exact ⟨l1, l3, l2, (Below.refl _ _).drew.drew⟩ | assumption | exact keepT3 ‹_› ‹_›)
    (first | (go_at_call 202; ((with_reducible refine (rope_tall (.pointer rrp) rr _ (HB.out.below (kb3 ‹_›))).mono ?_); rintro e w4 ⟨rfl, rfl⟩; rw [HTU.out])) | (go_at_call 202; ((with_reducible refine (rope_tall (.pointer rlp) rl _ (HA.out.below (kb3 ‹_›))).mono ?_); rintro e w4 ⟨rfl, rfl⟩; rw [HTI.out])))
  all_goals
    go_upto_region 8 with fail
    go_region_held3 (fun w' => w'.cell? ⟨rb, 0, none⟩ = some (.pointer rlp) ∧ w'.cell? ⟨rb, 2, none⟩ = some (.int .i64 rc) ∧ w'.cell? ⟨rb, 1, none⟩ = some (.pointer rrp) ∧ Below w.heap.size w w') (first | exact ⟨l1, l3, l2, (Below.refl _ _).drew⟩ | exact ⟨l1, l3, l2, (Below.refl _ _).drew.drew⟩ | assumption | exact keepT3 ‹_› ‹_›)
      (first | (go_at_call 158; ((with_reducible refine (rope_made lp rlp l rl c _ (HO.out.below (kb3 ‹_›)) (HA.out.below (kb3 ‹_›)) (by omega)).mono ?_); rintro e w4 ⟨p4, T4, rfl, hT4, hL4, hb4⟩; have hS4 := keepT3 ‹_› hb4)) | (go_at_call 158; ((with_reducible refine (rope_made p4 rrp T4 rr rc _ hT4 (HB.out.below (kb3 ‹_›)) (by rw [hL4, List.length_append, List.length_cons]; omega)).mono ?_); rintro e w5 ⟨p5, T5, rfl, hT5, hL5, hb5⟩; have hS5 := keepT3 ‹_› hb5)))
    all_goals
      go_wp2
      go_ret
      exact ⟨p5, T5, rfl, hT5, by rw [hL5, hL4, HLST.out]; simp [List.append_assoc], kb3 hS5⟩

set_option maxRecDepth 100000 in
set_option maxHeartbeats 4000000 in
theorem rope_level_rB (rb : Nat) (mb : Nat) (mlp mrp : Option Addr) (ml mr : Tr) (mc : Int) (rrp : Option Addr) (lp : Option Addr) (rr : Tr) (l : Tr) (rc c : Int) (w : World) (hl : TreeR w (.pointer lp) l) (hr : TreeR w (.pointer (some ⟨rb, 0, none⟩)) (.node (.node ml mc mr) rc rr)) (l1 : w.cell? ⟨rb, 0, none⟩ = some (.pointer (some ⟨mb, 0, none⟩))) (l2 : w.cell? ⟨rb, 1, none⟩ = some (.pointer rrp)) (l3 : w.cell? ⟨rb, 2, none⟩ = some (.int .i64 rc)) (hll : TreeR w (.pointer (some ⟨mb, 0, none⟩)) (.node ml mc mr)) (hlr : TreeR w (.pointer rrp) rr) (m1 : w.cell? ⟨mb, 0, none⟩ = some (.pointer mlp)) (m2 : w.cell? ⟨mb, 1, none⟩ = some (.pointer mrp)) (m3 : w.cell? ⟨mb, 2, none⟩ = some (.int .i64 mc)) (hml : TreeR w (.pointer mlp) ml) (hmr : TreeR w (.pointer mrp) mr) (hsz : (Tr.node ml mc mr).toL.length + 1 + rr.toL.length + l.toL.length ≤ 50000) (hbig : l.tall + 1 < (Tr.node (Tr.node ml mc mr) rc rr).tall) (hcmp : rr.tall < (Tr.node ml mc mr).tall) :
    Calls Try.prog 203 #[.pointer lp, .int .i64 c, .pointer (some ⟨rb, 0, none⟩)] w (LPost (l.toL ++ c :: (Tr.node (Tr.node ml mc mr) rc rr).toL) w) := by
  have hA := rope_tall _ _ _ hl; have hB := rope_tall _ _ _ hr
  have HA := Lib.hid hll; have HB := Lib.hid hlr; have HO := Lib.hid hl
  have HML := Lib.hid hml; have HMR := Lib.hid hmr
  have t1 := l.tall_le; have t3 := rr.tall_le; have t4 := (Tr.node ml mc mr).tall_le
  have t5 : (Tr.node (Tr.node ml mc mr) rc rr).tall ≤ (Tr.node ml mc mr).toL.length + 1 + rr.toL.length := by have h := (Tr.node (Tr.node ml mc mr) rc rr).tall_le; simp only [Tr.toL, List.length_append, List.length_cons] at h ⊢; omega
  have t6 : (Tr.node ml mc mr).toL.length = ml.toL.length + 1 + mr.toL.length := by simp only [Tr.toL, List.length_append, List.length_cons]; omega
  have HLST := Lib.hid (show (Tr.node (Tr.node ml mc mr) rc rr).toL = (Tr.node ml mc mr).toL ++ rc :: rr.toL from rfl)
  have HMST := Lib.hid (show (Tr.node ml mc mr).toL = ml.toL ++ mc :: mr.toL from rfl)
  obtain ⟨tn, htn⟩ : ∃ n, (Tr.node (Tr.node ml mc mr) rc rr).tall = n := ⟨_, rfl⟩
  obtain ⟨tq, hto⟩ : ∃ n, l.tall = n := ⟨_, rfl⟩
  obtain ⟨tu, htu⟩ : ∃ n, rr.tall = n := ⟨_, rfl⟩
  obtain ⟨ti, hti⟩ : ∃ n, (Tr.node ml mc mr).tall = n := ⟨_, rfl⟩
  rw [htn] at hB hbig t5; rw [hto] at hA hbig t1; rw [htu] at hcmp t3; rw [hti] at hcmp t4
  have HTU := Lib.hid htu; have HTI := Lib.hid hti
  have i0 : ¬ (tn : Int) + 1 < (tq : Int) := by omega
  have i1 : (tq : Int) + 1 < (tn : Int) := by omega
  have i2 : ¬ (ti : Int) ≤ (tu : Int) := by omega
  clear hl hr hll hlr htn hto htu hti hml hmr
  go_enter Try.func203, Try.ntmps203
  go_wp2_with fail
  refine hA.mono ?_
  rintro e w1 ⟨rfl, rfl⟩
  go_wp2_with fail
  refine hB.mono ?_
  rintro e w1 ⟨rfl, rfl⟩
  go_wp2_with fail
  refine hB.mono ?_
  rintro e w1 ⟨rfl, rfl⟩
  go_wp2_with fail
  refine hA.mono ?_
  rintro e w1 ⟨rfl, rfl⟩
  go_upto_region 7 with fail
  go_region_held3 (fun w' => w'.cell? ⟨rb, 0, none⟩ = some (.pointer (some ⟨mb, 0, none⟩)) ∧ w'.cell? ⟨rb, 2, none⟩ = some (.int .i64 rc) ∧ w'.cell? ⟨rb, 1, none⟩ = some (.pointer rrp) ∧ Below w.heap.size w w') (first | exact ⟨l1, l3, l2, (Below.refl _ _).drew⟩ | exact ⟨l1, l3, l2, (Below.refl _ _).drew.drew⟩ | assumption | exact keepT3 ‹_› ‹_›)
    (first | (go_at_call 202; ((with_reducible refine (rope_tall (.pointer rrp) rr _ (HB.out.below (kb3 ‹_›))).mono ?_); rintro e w4 ⟨rfl, rfl⟩; rw [HTU.out])) | (go_at_call 202; ((with_reducible refine (rope_tall (.pointer (some ⟨mb, 0, none⟩)) (.node ml mc mr) _ (HA.out.below (kb3 ‹_›))).mono ?_); rintro e w4 ⟨rfl, rfl⟩; rw [HTI.out])))
  all_goals
    go_upto_region 10 with fail
    go_region_held3 (fun w' => w'.cell? ⟨rb, 0, none⟩ = some (.pointer (some ⟨mb, 0, none⟩)) ∧ w'.cell? ⟨rb, 2, none⟩ = some (.int .i64 rc) ∧ w'.cell? ⟨rb, 1, none⟩ = some (.pointer rrp) ∧ w'.cell? ⟨mb, 0, none⟩ = some (.pointer mlp) ∧ w'.cell? ⟨mb, 2, none⟩ = some (.int .i64 mc) ∧ w'.cell? ⟨mb, 1, none⟩ = some (.pointer mrp) ∧ Below w.heap.size w w') (first | exact ⟨l1, l3, l2, m1, m3, m2, (Below.refl _ _).drew⟩ | exact ⟨l1, l3, l2, m1, m3, m2, (Below.refl _ _).drew.drew⟩ | assumption | exact keepT6 ‹_› ‹_›)
      (first | (go_at_call 158; ((with_reducible refine (rope_made lp mlp l ml c _ (HO.out.below (kb6 ‹_›)) (HML.out.below (kb6 ‹_›)) (by omega)).mono ?_); rintro e w4 ⟨p4, T4, rfl, hT4, hL4, hb4⟩; have hS4 := keepT6 ‹_› hb4)) | (go_at_call 158; ((with_reducible refine (rope_made mrp rrp mr rr rc _ (HMR.out.below (kb6 ‹_›)) (HB.out.below (kb6 ‹_›)) (by omega)).mono ?_); rintro e w5 ⟨p5, T5, rfl, hT5, hL5, hb5⟩; have hS5 := keepT6 ‹_› hb5)) | (go_at_call 158; ((with_reducible refine (rope_made p4 p5 T4 T5 mc _ (hT4.below hb5) hT5 (by rw [hL4, hL5, List.length_append, List.length_cons, List.length_append, List.length_cons]; omega)).mono ?_); rintro e w6 ⟨p6, T6, rfl, hT6, hL6, hb6⟩; have hS6 := keepT6 ‹_› hb6)))
    all_goals
      go_wp2
      go_ret
      exact ⟨p6, T6, rfl, hT6, by rw [hL6, hL5, hL4, HLST.out, HMST.out]; simp [List.append_assoc], kb6 hS6⟩

set_option maxRecDepth 100000 in
set_option maxHeartbeats 2000000 in
theorem rope_level (lp rp : Option Addr) (l r : Tr) (c : Int) (w : World) (hl : TreeR w (.pointer lp) l) (hr : TreeR w (.pointer rp) r) (hsz : l.toL.length + r.toL.length ≤ 50000) :
    Calls Try.prog 203 #[.pointer lp, .int .i64 c, .pointer rp] w (LPost (l.toL ++ c :: r.toL) w) := by
  by_cases hbl : r.tall + 1 < l.tall
  · rcases l with _ | ⟨ll, lc, lr⟩
    · simp [Tr.tall] at hbl
    obtain ⟨lb, llv, lrv, hlv, l1, l2, l3, -, -, hll, hlr⟩ := id hl
    obtain ⟨llp, rfl⟩ := hll.form
    obtain ⟨lrp, rfl⟩ := hlr.form
    simp only [Value.pointer.injEq] at hlv
    subst hlv
    have hlen : (Tr.node ll lc lr).toL.length = ll.toL.length + 1 + lr.toL.length := by simp only [Tr.toL, List.length_append, List.length_cons]; omega
    rw [hlen] at hsz
    by_cases hcmp : lr.tall ≤ ll.tall
    · exact rope_level_lA lb llp lrp rp ll lr r lc c w hl hr l1 l2 l3 hll hlr hsz hbl hcmp
    · rcases lr with _ | ⟨ml, mc, mr⟩
      · simp [Tr.tall] at hcmp
      obtain ⟨mb, mlv, mrv, hmv, m1, m2, m3, -, -, hml, hmr⟩ := id hlr
      obtain ⟨mlp, rfl⟩ := hml.form
      obtain ⟨mrp, rfl⟩ := hmr.form
      simp only [Value.pointer.injEq] at hmv
      subst hmv
      exact rope_level_lB lb mb mlp mrp ml mr mc llp rp ll r lc c w hl hr l1 l2 l3 hll hlr m1 m2 m3 hml hmr hsz hbl (by omega)
  · by_cases hbr : l.tall + 1 < r.tall
    · rcases r with _ | ⟨rl, rc, rr⟩
      · simp [Tr.tall] at hbr
      obtain ⟨rb, rlv, rrv, hrv, l1, l2, l3, -, -, hrl, hrr⟩ := id hr
      obtain ⟨rlp, rfl⟩ := hrl.form
      obtain ⟨rrp, rfl⟩ := hrr.form
      simp only [Value.pointer.injEq] at hrv
      subst hrv
      have hlen : (Tr.node rl rc rr).toL.length = rl.toL.length + 1 + rr.toL.length := by simp only [Tr.toL, List.length_append, List.length_cons]; omega
      rw [hlen] at hsz
      by_cases hcmp : rl.tall ≤ rr.tall
      · exact rope_level_rA rb rlp rrp lp rl rr l rc c w hl hr l1 l2 l3 hrl hrr (by omega) hbr hcmp
      · rcases rl with _ | ⟨ml, mc, mr⟩
        · simp [Tr.tall] at hcmp
        obtain ⟨mb, mlv, mrv, hmv, m1, m2, m3, -, -, hml, hmr⟩ := id hrl
        obtain ⟨mlp, rfl⟩ := hml.form
        obtain ⟨mrp, rfl⟩ := hmr.form
        simp only [Value.pointer.injEq] at hmv
        subst hmv
        exact rope_level_rB rb mb mlp mrp ml mr mc rrp lp rr l rc c w hl hr l1 l2 l3 hrl hrr m1 m2 m3 hml hmr (by omega) hbr (by omega)
    · have hA := rope_tall _ _ _ hl; have hB := rope_tall _ _ _ hr
      have HM := Lib.hid (rope_made lp rp l r c w hl hr (by omega))
      have t1 := l.tall_le; have t2 := r.tall_le
      obtain ⟨tl, htl⟩ : ∃ n, l.tall = n := ⟨_, rfl⟩
      obtain ⟨tr, htr⟩ : ∃ n, r.tall = n := ⟨_, rfl⟩
      rw [htl] at hA hbl hbr t1; rw [htr] at hB hbl hbr t2
      have i1 : ¬ (tr : Int) + 1 < (tl : Int) := by omega
      have i2 : ¬ (tl : Int) + 1 < (tr : Int) := by omega
      clear htl htr hl hr
      go_enter Try.func203, Try.ntmps203
      go_wp2_with fail
      refine hA.mono ?_
      rintro e w1 ⟨rfl, rfl⟩
      go_wp2_with fail
      refine hB.mono ?_
      rintro e w1 ⟨rfl, rfl⟩
      go_wp2_with fail
      refine hB.mono ?_
      rintro e w1 ⟨rfl, rfl⟩
      go_wp2_with fail
      refine hA.mono ?_
      rintro e w1 ⟨rfl, rfl⟩
      go_wp2_with fail
      refine HM.out.mono ?_
      rintro e w1 ⟨p1, T1, rfl, hT1, hL1, hb1⟩
      go_wp2
      go_ret
      exact ⟨p1, T1, rfl, hT1, hL1, hb1⟩

end Go.Proofs.Ytmipnikhgihcpaa
