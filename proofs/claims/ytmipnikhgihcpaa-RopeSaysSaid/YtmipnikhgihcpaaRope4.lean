/- Contracts of rope.split, last, concat. -/
import Derived.Test.YtmipnikhgihcpaaRope3
import Derived.BigQuiet
namespace Go.Proofs.Ytmipnikhgihcpaa
open Go.RowKit
set_option linter.unusedVariables false
set_option linter.unusedSimpArgs false

theorem take_mid (A R : List Int) (c : Int) (n j : Nat) (hn : A.length = n) : (A ++ c :: R).take (n + 1 + j) = A ++ c :: R.take j := by
  subst hn
  rw [List.take_append, List.take_of_length_le (by omega), show A.length + 1 + j - A.length = j + 1 from by omega, List.take_succ_cons]
theorem drop_mid (A R : List Int) (c : Int) (n j : Nat) (hn : A.length = n) : (A ++ c :: R).drop (n + 1 + j) = R.drop j := by
  subst hn
  rw [List.drop_append, List.drop_eq_nil_of_le (by omega), show A.length + 1 + j - A.length = j + 1 from by omega, List.drop_succ_cons, List.nil_append]
/-- a call returns two trees -/
def SPost (L M : List Int) (w : World) (e : Ending) (w' : World) : Prop := ∃ p q T U, e = .returned (.tuple #[.pointer p, .pointer q]) ∧ TreeR w' (.pointer p) T ∧ T.toL = L ∧ TreeR w' (.pointer q) U ∧ U.toL = M ∧ Below w.heap.size w w'
set_option maxRecDepth 100000 in
set_option maxHeartbeats 4000000 in
theorem rope_split : ∀ (t : Tr) (p : Option Addr) (k : Nat) (w : World) (h : TreeR w (.pointer p) t) (hk : k ≤ t.toL.length) (hsz : t.toL.length ≤ 20000),
    Calls Try.prog 115 #[.pointer p, .int .i64 (k : Int)] w (SPost (t.toL.take k) (t.toL.drop k) w) := by
  intro t
  induction t with
  | nil =>
    intro p k w h hk hsz
    simp only [TreeR, Value.pointer.injEq] at h
    subst h
    go_enter Try.func115, Try.ntmps115
    go_wp2
    go_ret2
    exact ⟨none, none, .nil, .nil, rfl, rfl, by simp [Tr.toL], rfl, by simp [Tr.toL], Below.refl _ _⟩
  | node l c r ihl ihr =>
    intro p k w h hk hsz
    obtain ⟨b, lv, rv, hv, l1, l2, l3, -, -, hl, hr⟩ := h
    obtain ⟨lp, rfl⟩ := hl.form
    obtain ⟨rp, rfl⟩ := hr.form
    simp only [Value.pointer.injEq] at hv
    subst hv
    have hlen : (Tr.node l c r).toL.length = l.toL.length + 1 + r.toL.length := by simp only [Tr.toL, List.length_append, List.length_cons]; omega
    rw [hlen] at hk hsz
    have hS := rope_size _ _ _ hl
    have HL := Lib.hid hl; have HR := Lib.hid hr
    have HLST := Lib.hid (show (Tr.node l c r).toL = l.toL ++ c :: r.toL from rfl)
    have HIL := Lib.hid ihl; have HIR := Lib.hid ihr
    obtain ⟨n, hn⟩ : ∃ n, l.toL.length = n := ⟨_, rfl⟩
    rw [hn] at hS hk hsz
    have HN := Lib.hid hn
    clear hl hr ihl ihr hlen hn
    by_cases hkn : k ≤ n
    · have i1 : (k : Int) ≤ (n : Int) := by omega
      go_enter Try.func115, Try.ntmps115
      go_wp2_with fail
      refine hS.mono ?_
      rintro e w1 ⟨rfl, rfl⟩
      go_wp2_with fail
      refine (HIL.out lp k _ HL.out (by rw [HN.out]; exact hkn) (by rw [HN.out]; omega)).mono ?_
      rintro e w1 ⟨p1, q1, T1, U1, rfl, hT1, hTL1, hU1, hUL1, hb1⟩
      have hul : U1.toL.length = n - k := by rw [hUL1, List.length_drop, HN.out]
      have HT1 := Lib.hid hT1; have HU1 := Lib.hid hU1; have HR1 := Lib.hid (HR.out.below hb1)
      have m1 := below_keeps hb1 _ _ l1; have m2 := below_keeps hb1 _ _ l2; have m3 := below_keeps hb1 _ _ l3
      have hz := hb1.size
      clear hT1 hU1 l1 l2 l3
      go_upto_region 6 with fail
      go_region_held3 (fun w' => w'.cell? ⟨b, 2, none⟩ = some (.int .i64 c) ∧ w'.cell? ⟨b, 1, none⟩ = some (.pointer rp) ∧ w'.cell? ⟨b, 0, none⟩ = some (.pointer lp) ∧ Below w1.heap.size w1 w') (first | exact ⟨m3, m2, m1, (Below.refl _ _).drew⟩ | exact ⟨m3, m2, m1, (Below.refl _ _).drew.drew⟩ | assumption | exact keepT3 ‹_› ‹_›)
        (first | (go_at_call 159; ((with_reducible refine (rope_join q1 rp U1 r c _ (HU1.out.below (kb3 ‹_›)) (HR1.out.below (kb3 ‹_›)) (by omega)).mono ?_); rintro e w4 ⟨p4, T4, rfl, hT4, hL4, hb4⟩; have hS4 := keepT3 ‹_› hb4)))
      all_goals
        go_wp2
        go_ret2
        refine ⟨p1, p4, T1, T4, rfl, HT1.out.below (kb3 hS4), ?_, hT4, ?_, below_then hb1 hz (kb3 hS4)⟩
        · rw [hTL1, HLST.out, List.take_append_of_le_length (by rw [HN.out]; exact hkn)]
        · rw [hL4, hUL1, HLST.out, List.drop_append_of_le_length (by rw [HN.out]; exact hkn)]
    · have i1 : ¬ (k : Int) ≤ (n : Int) := by omega
      obtain ⟨j, rfl⟩ : ∃ j, k = n + 1 + j := ⟨k - n - 1, by omega⟩
      have i2 : ((n + 1 + j : Nat) : Int) - (n : Int) - 1 = (j : Int) := by omega
      have i3 : (n : Int) + 1 + (j : Int) - (n : Int) - 1 = (j : Int) := by omega
      go_enter Try.func115, Try.ntmps115
      go_wp2_with fail
      refine hS.mono ?_
      rintro e w1 ⟨rfl, rfl⟩
      go_wp2_with fail
      refine (HIR.out rp j _ HR.out (by omega) (by omega)).mono ?_
      rintro e w1 ⟨p1, q1, T1, U1, rfl, hT1, hTL1, hU1, hUL1, hb1⟩
      have htl : T1.toL.length ≤ j := by rw [hTL1, List.length_take]; omega
      have HT1 := Lib.hid hT1; have HU1 := Lib.hid hU1; have HL1 := Lib.hid (HL.out.below hb1)
      have m1 := below_keeps hb1 _ _ l1; have m2 := below_keeps hb1 _ _ l2; have m3 := below_keeps hb1 _ _ l3
      have hz := hb1.size
      clear hT1 hU1 l1 l2 l3
      go_upto_region 8 with fail
      go_region_held3 (fun w' => w'.cell? ⟨b, 2, none⟩ = some (.int .i64 c) ∧ w'.cell? ⟨b, 1, none⟩ = some (.pointer rp) ∧ w'.cell? ⟨b, 0, none⟩ = some (.pointer lp) ∧ Below w1.heap.size w1 w') (first | exact ⟨m3, m2, m1, (Below.refl _ _).drew⟩ | exact ⟨m3, m2, m1, (Below.refl _ _).drew.drew⟩ | assumption | exact keepT3 ‹_› ‹_›)
        (first | (go_at_call 159; ((with_reducible refine (rope_join lp p1 l T1 c _ (HL1.out.below (kb3 ‹_›)) (HT1.out.below (kb3 ‹_›)) (by rw [HN.out]; omega)).mono ?_); rintro e w4 ⟨p4, T4, rfl, hT4, hL4, hb4⟩; have hS4 := keepT3 ‹_› hb4)))
      all_goals
        go_wp2
        go_ret2
        refine ⟨p4, q1, T4, U1, rfl, hT4, ?_, HU1.out.below (kb3 hS4), ?_, below_then hb1 hz (kb3 hS4)⟩
        · rw [hL4, hTL1, HLST.out, take_mid _ _ _ _ _ HN.out]
        · rw [hUL1, HLST.out, drop_mid _ _ _ _ _ HN.out]

/-- a call returns a tree and its last character apart -/
def APost (L : List Int) (w : World) (e : Ending) (w' : World) : Prop := ∃ p T z, e = .returned (.tuple #[.pointer p, .int .i64 z]) ∧ TreeR w' (.pointer p) T ∧ T.toL ++ [z] = L ∧ Below w.heap.size w w'
set_option maxRecDepth 100000 in
set_option maxHeartbeats 4000000 in
theorem rope_last : ∀ (t : Tr) (p : Option Addr) (w : World) (h : TreeR w (.pointer p) t) (hp : 0 < t.toL.length) (hsz : t.toL.length ≤ 20000),
    Calls Try.prog 160 #[.pointer p] w (APost t.toL w) := by
  intro t
  induction t with
  | nil => intro p w h hp; simp [Tr.toL] at hp
  | node l c r ihl ihr =>
    intro p w h hp hsz
    obtain ⟨b, lv, rv, hv, l1, l2, l3, -, -, hl, hr⟩ := h
    obtain ⟨lp, rfl⟩ := hl.form
    obtain ⟨rp, rfl⟩ := hr.form
    simp only [Value.pointer.injEq] at hv
    subst hv
    have hlen : (Tr.node l c r).toL.length = l.toL.length + 1 + r.toL.length := by simp only [Tr.toL, List.length_append, List.length_cons]; omega
    rw [hlen] at hsz
    have HLST := Lib.hid (show (Tr.node l c r).toL = l.toL ++ c :: r.toL from rfl)
    clear ihl hlen hp
    rcases r with _ | ⟨rl, rc, rr⟩
    · simp only [TreeR, Value.pointer.injEq] at hr
      subst hr
      have HL := Lib.hid hl
      clear ihr hl
      go_enter Try.func160, Try.ntmps160
      go_wp2
      go_quiet (fail)
      all_goals
        go_wp2
        go_ret2
        exact ⟨lp, l, c, rfl, HL.out.drewN _, by rw [HLST.out]; rfl, below_drewN (Below.refl _ _) _⟩
    · obtain ⟨rb, rlv, rrv, hrv, -⟩ := id hr
      simp only [Value.pointer.injEq] at hrv
      subst hrv
      have HIR := Lib.hid ihr
      have hrp : 0 < (Tr.node rl rc rr).toL.length := by simp only [Tr.toL, List.length_append, List.length_cons]; omega
      have HL := Lib.hid hl; have HR := Lib.hid hr
      clear ihr hl hr
      generalize Tr.node rl rc rr = r at *
      go_enter Try.func160, Try.ntmps160
      go_wp2_with fail
      refine (HIR.out _ _ HR.out hrp (by omega)).mono ?_
      rintro e w1 ⟨p1, T1, z, rfl, hT1, hTL1, hb1⟩
      have htl : T1.toL.length + 1 = r.toL.length := by rw [← hTL1, List.length_append, List.length_singleton]
      have HT1 := Lib.hid hT1; have HL1 := Lib.hid (HL.out.below hb1)
      have m1 := below_keeps hb1 _ _ l1; have m2 := below_keeps hb1 _ _ l2; have m3 := below_keeps hb1 _ _ l3
      have hz := hb1.size
      clear hT1 l1 l2 l3
      go_upto_region 4 with fail
      go_region_held3 (fun w' => w'.cell? ⟨b, 0, none⟩ = some (.pointer lp) ∧ w'.cell? ⟨b, 2, none⟩ = some (.int .i64 c) ∧ w'.cell? ⟨b, 1, none⟩ = some (.pointer (some ⟨rb, 0, none⟩)) ∧ Below w1.heap.size w1 w') (first | exact ⟨m1, m3, m2, (Below.refl _ _).drew⟩ | exact ⟨m1, m3, m2, (Below.refl _ _).drew.drew⟩ | assumption | exact keepT3 ‹_› ‹_›)
        (first | (go_at_call 203; ((with_reducible refine (rope_level lp p1 l T1 c _ (HL1.out.below (kb3 ‹_›)) (HT1.out.below (kb3 ‹_›)) (by omega)).mono ?_); rintro e w4 ⟨p4, T4, rfl, hT4, hL4, hb4⟩; have hS4 := keepT3 ‹_› hb4)))
      all_goals
        go_wp2
        go_ret2
        exact ⟨p4, T4, z, rfl, hT4, by rw [hL4, HLST.out, ← hTL1]; simp, below_then hb1 hz (kb3 hS4)⟩

set_option maxRecDepth 100000 in
set_option maxHeartbeats 2000000 in
theorem rope_concat (lp rp : Option Addr) (l r : Tr) (w : World) (hl : TreeR w (.pointer lp) l) (hr : TreeR w (.pointer rp) r) (h1 : l.toL.length ≤ 15000) (h2 : r.toL.length ≤ 15000) :
    Calls Try.prog 116 #[.pointer lp, .pointer rp] w (LPost (l.toL ++ r.toL) w) := by
  rcases l with _ | ⟨ll, lc, lr⟩
  · simp only [TreeR, Value.pointer.injEq] at hl
    subst hl
    have HR := Lib.hid hr
    clear hr
    go_enter Try.func116, Try.ntmps116
    go_wp2
    go_ret
    exact ⟨rp, r, rfl, HR.out, rfl, Below.refl _ _⟩
  · obtain ⟨lb, llv, lrv, hlv, -⟩ := id hl
    simp only [Value.pointer.injEq] at hlv
    subst hlv
    have hp : 0 < (Tr.node ll lc lr).toL.length := by simp only [Tr.toL, List.length_append, List.length_cons]; omega
    have HL := Lib.hid hl; have HR := Lib.hid hr
    clear hl hr
    generalize Tr.node ll lc lr = l at *
    go_enter Try.func116, Try.ntmps116
    go_wp2_with fail
    refine (rope_last l _ _ HL.out hp (by omega)).mono ?_
    rintro e w1 ⟨p1, T1, z, rfl, hT1, hTL1, hb1⟩
    have htl : T1.toL.length + 1 = l.toL.length := by rw [← hTL1, List.length_append, List.length_singleton]
    have HJ := Lib.hid (rope_join p1 rp T1 r z w1 hT1 (HR.out.below hb1) (by omega))
    clear hT1
    go_wp2_with fail
    refine HJ.out.mono ?_
    rintro e w2 ⟨p2, T2, rfl, hT2, hL2, hb2⟩
    go_wp2
    go_ret
    exact ⟨p2, T2, rfl, hT2, by rw [hL2, ← hTL1]; simp, below_then hb1 hb1.size hb2⟩

end Go.Proofs.Ytmipnikhgihcpaa
