/- Contract of rope.join. -/
import Derived.Test.YtmipnikhgihcpaaRope2
namespace Go.Proofs.Ytmipnikhgihcpaa
open Go.RowKit
set_option linter.unusedVariables false
set_option linter.unusedSimpArgs false

/-- join of trees of no more than n characters -/
def JoinIH (n : Nat) : Prop := ∀ (lp rp : Option Addr) (l r : Tr) (c : Int) (w : World), l.toL.length + r.toL.length ≤ n → TreeR w (.pointer lp) l → TreeR w (.pointer rp) r → l.toL.length + r.toL.length ≤ 40000 →
    Calls Try.prog 159 #[.pointer lp, .int .i64 c, .pointer rp] w (LPost (l.toL ++ c :: r.toL) w)
set_option maxRecDepth 100000 in
set_option maxHeartbeats 2000000 in
theorem rope_join_made (lp rp : Option Addr) (l r : Tr) (c : Int) (w : World) (hl : TreeR w (.pointer lp) l) (hr : TreeR w (.pointer rp) r) (hsz : l.toL.length + r.toL.length ≤ 40000) (hbl : ¬ r.tall + 1 < l.tall) (hbr : ¬ l.tall + 1 < r.tall) :
    Calls Try.prog 159 #[.pointer lp, .int .i64 c, .pointer rp] w (LPost (l.toL ++ c :: r.toL) w) := by
  have hA := rope_tall _ _ _ hl; have hB := rope_tall _ _ _ hr
  have HM := Lib.hid (rope_made lp rp l r c w hl hr (by omega))
  have t1 := l.tall_le; have t2 := r.tall_le
  obtain ⟨tl, htl⟩ : ∃ n, l.tall = n := ⟨_, rfl⟩
  obtain ⟨tr, htr⟩ : ∃ n, r.tall = n := ⟨_, rfl⟩
  rw [htl] at hA hbl hbr t1; rw [htr] at hB hbl hbr t2
  have i1 : ¬ (tr : Int) + 1 < (tl : Int) := by omega
  have i2 : ¬ (tl : Int) + 1 < (tr : Int) := by omega
  clear htl htr hl hr
  go_enter Try.func159, Try.ntmps159
  go_wp2_with fail
  refine hA.mono ?_
  rintro e w1 ⟨rfl, rfl⟩
  go_wp2_with fail
  refine hB.mono ?_
  rintro e w1 ⟨rfl, rfl⟩
  go_wp2_with fail
  refine hB.mono ?_
  rintro e w1 ⟨rfl, rfl⟩
  go_wp2_with fail
  refine hA.mono ?_
  rintro e w1 ⟨rfl, rfl⟩
  go_wp2_with fail
  refine HM.out.mono ?_
  rintro e w1 ⟨p1, T1, rfl, hT1, hL1, hb1⟩
  go_wp2
  go_ret
  exact ⟨p1, T1, rfl, hT1, hL1, hb1⟩

set_option maxRecDepth 100000 in
set_option maxHeartbeats 4000000 in
theorem rope_join_l (n : Nat) (IH : JoinIH n) (lb : Nat) (llp lrp rp : Option Addr) (ll lr r : Tr) (lc c : Int) (w : World) (hl : TreeR w (.pointer (some ⟨lb, 0, none⟩)) (.node ll lc lr)) (hr : TreeR w (.pointer rp) r) (l1 : w.cell? ⟨lb, 0, none⟩ = some (.pointer llp)) (l2 : w.cell? ⟨lb, 1, none⟩ = some (.pointer lrp)) (l3 : w.cell? ⟨lb, 2, none⟩ = some (.int .i64 lc)) (hll : TreeR w (.pointer llp) ll) (hlr : TreeR w (.pointer lrp) lr) (hn : ll.toL.length + lr.toL.length + r.toL.length ≤ n) (hsz : ll.toL.length + 1 + lr.toL.length + r.toL.length ≤ 40000) (hbig : r.tall + 1 < (Tr.node ll lc lr).tall) :
    Calls Try.prog 159 #[.pointer (some ⟨lb, 0, none⟩), .int .i64 c, .pointer rp] w (LPost ((Tr.node ll lc lr).toL ++ c :: r.toL) w) := by
  have hA := rope_tall _ _ _ hl; have hB := rope_tall _ _ _ hr
  unfold JoinIH at IH
  have IHH := Lib.hid IH
  have HA := Lib.hid hll; have HB := Lib.hid hlr; have HO := Lib.hid hr
  have t1 := r.tall_le
  have t5 : (Tr.node ll lc lr).tall ≤ ll.toL.length + 1 + lr.toL.length := by have h := (Tr.node ll lc lr).tall_le; simp only [Tr.toL, List.length_append, List.length_cons] at h ⊢; omega
  have HLST := Lib.hid (show (Tr.node ll lc lr).toL = ll.toL ++ lc :: lr.toL from rfl)
  obtain ⟨tn, htn⟩ : ∃ n, (Tr.node ll lc lr).tall = n := ⟨_, rfl⟩
  obtain ⟨tq, hto⟩ : ∃ n, r.tall = n := ⟨_, rfl⟩
  rw [htn] at hA hbig t5; rw [hto] at hB hbig t1
  have i1 : (tq : Int) + 1 < (tn : Int) := by omega
  clear hl hr hll hlr htn hto IH
  go_enter Try.func159, Try.ntmps159
  go_wp2_with fail
  refine hA.mono ?_
  rintro e w1 ⟨rfl, rfl⟩
  go_wp2_with fail
  refine hB.mono ?_
  rintro e w1 ⟨rfl, rfl⟩
  go_upto_region 2 with fail
  go_region_held3 (fun w' => w'.cell? ⟨lb, 0, none⟩ = some (.pointer llp) ∧ w'.cell? ⟨lb, 2, none⟩ = some (.int .i64 lc) ∧ w'.cell? ⟨lb, 1, none⟩ = some (.pointer lrp) ∧ Below w.heap.size w w') (first | exact ⟨l1, l3, l2, (Below.refl _ _).drew⟩ | exact ⟨l1, l3, l2, (Below.refl _ _).drew.drew⟩ | assumption | exact keepT3 ‹_› ‹_›)
    (first | (go_at_call 159; ((with_reducible refine (IHH.out lrp rp lr r c _ (by omega) (HB.out.below (kb3 ‹_›)) (HO.out.below (kb3 ‹_›)) (by omega)).mono ?_); rintro e w4 ⟨p4, T4, rfl, hT4, hL4, hb4⟩; have hS4 := keepT3 ‹_› hb4)) | (go_at_call 203; ((with_reducible refine (rope_level llp p4 ll T4 lc _ (HA.out.below (kb3 ‹_›)) hT4 (by rw [hL4, List.length_append, List.length_cons]; omega)).mono ?_); rintro e w5 ⟨p5, T5, rfl, hT5, hL5, hb5⟩; have hS5 := keepT3 ‹_› hb5)))
  all_goals
    go_wp2
    go_ret
    exact ⟨p5, T5, rfl, hT5, by rw [hL5, hL4, HLST.out]; simp [List.append_assoc], kb3 hS5⟩

set_option maxRecDepth 100000 in
set_option maxHeartbeats 4000000 in
theorem rope_join_r (n : Nat) (IH : JoinIH n) (rb : Nat) (rlp rrp lp : Option Addr) (rl rr l : Tr) (rc c : Int) (w : World) (hl : TreeR w (.pointer lp) l) (hr : TreeR w (.pointer (some ⟨rb, 0, none⟩)) (.node rl rc rr)) (l1 : w.cell? ⟨rb, 0, none⟩ = some (.pointer rlp)) (l2 : w.cell? ⟨rb, 1, none⟩ = some (.pointer rrp)) (l3 : w.cell? ⟨rb, 2, none⟩ = some (.int .i64 rc)) (hll : TreeR w (.pointer rlp) rl) (hlr : TreeR w (.pointer rrp) rr) (hn : rl.toL.length + rr.toL.length + l.toL.length ≤ n) (hsz : rl.toL.length + 1 + rr.toL.length + l.toL.length ≤ 40000) (hbig : l.tall + 1 < (Tr.node rl rc rr).tall) :
    Calls Try.prog 159 #[.pointer lp, .int .i64 c, .pointer (some ⟨rb, 0, none⟩)] w (LPost (l.toL ++ c :: (Tr.node rl rc rr).toL) w) := by
  have hA := rope_tall _ _ _ hl; have hB := rope_tall _ _ _ hr
  unfold JoinIH at IH
  have IHH := Lib.hid IH
  have HA := Lib.hid hll; have HB := Lib.hid hlr; have HO := Lib.hid hl
  have t1 := l.tall_le
  have t5 : (Tr.node rl rc rr).tall ≤ rl.toL.length + 1 + rr.toL.length := by have h := (Tr.node rl rc rr).tall_le; simp only [Tr.toL, List.length_append, List.length_cons] at h ⊢; omega
  have HLST := Lib.hid (show (Tr.node rl rc rr).toL = rl.toL ++ rc :: rr.toL from rfl)
  obtain ⟨tn, htn⟩ : ∃ n, (Tr.node rl rc rr).tall = n := ⟨_, rfl⟩
  obtain ⟨tq, hto⟩ : ∃ n, l.tall = n := ⟨_, rfl⟩
  rw [htn] at hB hbig t5; rw [hto] at hA hbig t1
  have i0 : ¬ (tn : Int) + 1 < (tq : Int) := by omega
  have i1 : (tq : Int) + 1 < (tn : Int) := by omega
  clear hl hr hll hlr htn hto IH
  go_enter Try.func159, Try.ntmps159
  go_wp2_with fail
  refine hA.mono ?_
  rintro e w1 ⟨rfl, rfl⟩
  go_wp2_with fail
  refine hB.mono ?_
  rintro e w1 ⟨rfl, rfl⟩
  go_wp2_with fail
  refine hB.mono ?_
  rintro e w1 ⟨rfl, rfl⟩
  go_wp2_with fail
  refine hA.mono ?_
  rintro e w1 ⟨rfl, rfl⟩
  go_upto_region 4 with fail
  go_region_held3 (fun w' => w'.cell? ⟨rb, 0, none⟩ = some (.pointer rlp) ∧ w'.cell? ⟨rb, 2, none⟩ = some (.int .i64 rc) ∧ w'.cell? ⟨rb, 1, none⟩ = some (.pointer rrp) ∧ Below w.heap.size w w') (first | exact ⟨l1, l3, l2, (Below.refl _ _).drew⟩ | exact ⟨l1, l3, l2, (Below.refl _ _).drew.drew⟩ | assumption | exact keepT3 ‹_› ‹_›)
    (first | (go_at_call 159; ((with_reducible refine (IHH.out lp rlp l rl c _ (by omega) (HO.out.below (kb3 ‹_›)) (HA.out.below (kb3 ‹_›)) (by omega)).mono ?_); rintro e w4 ⟨p4, T4, rfl, hT4, hL4, hb4⟩; have hS4 := keepT3 ‹_› hb4)) | (go_at_call 203; ((with_reducible refine (rope_level p4 rrp T4 rr rc _ hT4 (HB.out.below (kb3 ‹_›)) (by rw [hL4, List.length_append, List.length_cons]; omega)).mono ?_); rintro e w5 ⟨p5, T5, rfl, hT5, hL5, hb5⟩; have hS5 := keepT3 ‹_› hb5)))
  all_goals
    go_wp2
    go_ret
    exact ⟨p5, T5, rfl, hT5, by rw [hL5, hL4, HLST.out]; simp [List.append_assoc], kb3 hS5⟩

theorem rope_joinN : ∀ n, JoinIH n := by
  intro n
  induction n with
  | zero =>
    intro lp rp l r c w hn hl hr hsz
    have h1 : l.tall = 0 := by have := l.tall_le; omega
    have h2 : r.tall = 0 := by have := r.tall_le; omega
    exact rope_join_made lp rp l r c w hl hr hsz (by omega) (by omega)
  | succ n ih =>
    intro lp rp l r c w hn hl hr hsz
    by_cases hbl : r.tall + 1 < l.tall
    · rcases l with _ | ⟨ll, lc, lr⟩
      · simp [Tr.tall] at hbl
      obtain ⟨lb, llv, lrv, hlv, l1, l2, l3, -, -, hll, hlr⟩ := id hl
      obtain ⟨llp, rfl⟩ := hll.form
      obtain ⟨lrp, rfl⟩ := hlr.form
      simp only [Value.pointer.injEq] at hlv
      subst hlv
      have hlen : (Tr.node ll lc lr).toL.length = ll.toL.length + 1 + lr.toL.length := by simp only [Tr.toL, List.length_append, List.length_cons]; omega
      rw [hlen] at hsz hn
      exact rope_join_l n ih lb llp lrp rp ll lr r lc c w hl hr l1 l2 l3 hll hlr (by omega) (by omega) hbl
    · by_cases hbr : l.tall + 1 < r.tall
      · rcases r with _ | ⟨rl, rc, rr⟩
        · simp [Tr.tall] at hbr
        obtain ⟨rb, rlv, rrv, hrv, l1, l2, l3, -, -, hrl, hrr⟩ := id hr
        obtain ⟨rlp, rfl⟩ := hrl.form
        obtain ⟨rrp, rfl⟩ := hrr.form
        simp only [Value.pointer.injEq] at hrv
        subst hrv
        have hlen : (Tr.node rl rc rr).toL.length = rl.toL.length + 1 + rr.toL.length := by simp only [Tr.toL, List.length_append, List.length_cons]; omega
        rw [hlen] at hsz hn
        exact rope_join_r n ih rb rlp rrp lp rl rr l rc c w hl hr l1 l2 l3 hrl hrr (by omega) (by omega) hbr
      · exact rope_join_made lp rp l r c w hl hr hsz hbl hbr
theorem rope_join (lp rp : Option Addr) (l r : Tr) (c : Int) (w : World) (hl : TreeR w (.pointer lp) l) (hr : TreeR w (.pointer rp) r) (hsz : l.toL.length + r.toL.length ≤ 40000) :
    Calls Try.prog 159 #[.pointer lp, .int .i64 c, .pointer rp] w (LPost (l.toL ++ c :: r.toL) w) :=
  rope_joinN _ lp rp l r c w (Nat.le_refl _) hl hr hsz

end Go.Proofs.Ytmipnikhgihcpaa
