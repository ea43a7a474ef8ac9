/- Contract of keys.awaited. -/
import Derived.Test.YtmipnikhgihcpaaKeyP
namespace Go.Proofs.Ytmipnikhgihcpaa
open Go.RowKit
set_option linter.unusedVariables false
set_option linter.unusedSimpArgs false

theorem TakPost.of {t : TK} {er : Int} {w w' : World} (h : Below w.heap.size w w') : TakPost t er w (.returned (.tuple #[t.q, t.c, .int .i64 t.how, .int .i64 er])) w' := ⟨rfl, h⟩
theorem awa_34y {f r o s key : Int} (h : letB key = true) : awaV f r o s 34 key = TK.more f key o s 0 := by unfold awaV; rw [if_pos rfl, if_pos h]
theorem awa_34n {f r o s key : Int} (h : letB key = false) : awaV f r o s 34 key = TK.wrong := by unfold awaV; rw [if_pos rfl, h]; rfl
theorem awa_iay {f r o s wt key : Int} (h : iaB wt = true) (h2 : obB key = true) : awaV f r o s wt key = TK.done f r o s wt key := by
  have : wt ≠ 34 := by simp [iaB] at h; omega
  unfold awaV; rw [if_neg this, if_pos h, if_pos h2]
theorem awa_ian {f r o s wt key : Int} (h : iaB wt = true) (h2 : obB key = false) : awaV f r o s wt key = TK.wrong := by
  have : wt ≠ 34 := by simp [iaB] at h; omega
  unfold awaV; rw [if_neg this, if_pos h, h2]; rfl
theorem awa_oth {f r o s wt key : Int} (h : iaB wt = false) (h2 : wt ≠ 34) : awaV f r o s wt key = TK.done f r o s wt key := by
  unfold awaV; rw [if_neg h2, h]; rfl

set_option maxRecDepth 100000 in
set_option maxHeartbeats 4000000 in
theorem keys_awaited_34 (f r o s key : Int) (w : World) :
    Calls Try.prog 162 #[.agg #[.int .i64 f, .int .i64 r, .int .i64 o, .int .i64 s, .int .i64 34], .int .i64 key] w (TakPost (awaV f r o s 34 key) 0 w) := by
  have hacc := fun c1 c2 c3 => below3 w (.cells c1 83) (.cells c2 83) (.cells c3 80)
  obtain ⟨bl, hbl⟩ : ∃ bl, letB key = bl := ⟨_, rfl⟩
  have HL := Lib.hid hbl
  clear hbl
  rcases bl with _ | _
  · rw [awa_34n HL.out]
    go_enter Try.func162, Try.ntmps162
    go_wp2_with (go_at_call 204; refine (keys_letter _ _).mono ?_; rintro e w' ⟨rfl, rfl⟩; rw [HL.out])
    exact bodyPost_ret (v := .tuple #[TK.wrong.q, TK.wrong.c, .int .i64 3, .int .i64 0]) (by simp [results, Try.results162, go_sem, TK.wrong, TK.q, TK.c]) rfl (TakPost.of (hacc _ _ _))
  · rw [awa_34y HL.out]
    go_enter Try.func162, Try.ntmps162
    go_wp2_with (go_at_call 204; refine (keys_letter _ _).mono ?_; rintro e w' ⟨rfl, rfl⟩; rw [HL.out])
    exact bodyPost_ret (v := .tuple #[(TK.more f key o s 0).q, (TK.more f key o s 0).c, .int .i64 1, .int .i64 0]) (by simp [results, Try.results162, go_sem, TK.more, TK.q, TK.c]) rfl (TakPost.of (hacc _ _ _))

/-- the three boxes of a call that answers a part and a command -/
structure Box3 (W wx : World) (B : Nat) (f r o s wt : Int) : Prop where
  p : Blk wx B #[.int .i64 f, .int .i64 r, .int .i64 o, .int .i64 s, .int .i64 wt] 83
  q : Blk wx (B + 1) #[.int .i64 0, .int .i64 0, .int .i64 0, .int .i64 0, .int .i64 0] 83
  c : Blk wx (B + 2) #[.int .i64 0, .int .i64 0, .int .i64 0, .int .i64 0, .int .i64 0] 80
  bel : Below B W wx
theorem Box3.start (w : World) (f r o s wt : Int) :
    Box3 w (((w.alloc (.cells #[.int .i64 f, .int .i64 r, .int .i64 o, .int .i64 s, .int .i64 wt] 83)).alloc (.cells #[.int .i64 0, .int .i64 0, .int .i64 0, .int .i64 0, .int .i64 0] 83)).alloc (.cells #[.int .i64 0, .int .i64 0, .int .i64 0, .int .i64 0, .int .i64 0] 80)) w.heap.size f r o s wt := by
  refine ⟨((Blk.new w _ _).alloc _).alloc _, ?_, ?_, below3 w _ _ _⟩
  · have := (Blk.new (w.alloc (.cells #[.int .i64 f, .int .i64 r, .int .i64 o, .int .i64 s, .int .i64 wt] 83)) #[.int .i64 0, .int .i64 0, .int .i64 0, .int .i64 0, .int .i64 0] 83)
    rw [World.size_alloc] at this
    exact this.alloc _
  · have := (Blk.new ((w.alloc (.cells #[.int .i64 f, .int .i64 r, .int .i64 o, .int .i64 s, .int .i64 wt] 83)).alloc (.cells #[.int .i64 0, .int .i64 0, .int .i64 0, .int .i64 0, .int .i64 0] 83)) #[.int .i64 0, .int .i64 0, .int .i64 0, .int .i64 0, .int .i64 0] 80)
    rw [World.size_alloc, World.size_alloc] at this
    exact this
theorem Box3.below {W wx w9 : World} {B : Nat} {f r o s wt : Int} (h : Box3 W wx B f r o s wt) (hb : Below wx.heap.size wx w9) : Box3 W w9 B f r o s wt :=
  ⟨h.p.below hb h.p.lt, h.q.below hb h.q.lt, h.c.below hb h.c.lt, h.bel.trans (hb.mono (Nat.le_of_lt h.p.lt))⟩
theorem Box3.done {W wx : World} {B : Nat} {f r o s wt : Int} (h : Box3 W wx B f r o s wt) (x0 x1 x2 x3 x4 y0 y1 y2 y3 y4 : Value) {we : World}
    (he : we = ((((((((((wx.setCell ⟨B + 1, 0, none⟩ x0).setCell ⟨B + 1, 1, none⟩ x1).setCell ⟨B + 1, 2, none⟩ x2).setCell ⟨B + 1, 3, none⟩ x3).setCell ⟨B + 1, 4, none⟩ x4).setCell ⟨B + 1 + 1, 0, none⟩ y0).setCell ⟨B + 1 + 1, 1, none⟩ y1).setCell ⟨B + 1 + 1, 2, none⟩ y2).setCell ⟨B + 1 + 1, 3, none⟩ y3).setCell ⟨B + 1 + 1, 4, none⟩ y4)) :
    Blk we (B + 1) #[x0, x1, x2, x3, x4] 83 ∧ Blk we (B + 1 + 1) #[y0, y1, y2, y3, y4] 80 ∧ Below B W we := by
  subst he
  have hne : ∀ i, B + 1 ≠ (⟨B + 1 + 1, i, none⟩ : Addr).block := fun i => by simp
  have hne2 : ∀ i, B + 1 + 1 ≠ (⟨B + 1, i, none⟩ : Addr).block := fun i => by simp
  refine ⟨?_, ?_, below_set5 (below_set5 h.bel (by omega)) (by omega)⟩
  · exact (((((h.q.set5 x0 x1 x2 x3 x4).other (hne _) _).other (hne _) _).other (hne _) _).other (hne _) _).other (hne _) _
  · refine Blk.set5 (u0 := .int .i64 0) (u1 := .int .i64 0) (u2 := .int .i64 0) (u3 := .int .i64 0) (u4 := .int .i64 0) ?_ y0 y1 y2 y3 y4
    exact ((((h.c.other (hne2 _) _).other (hne2 _) _).other (hne2 _) _).other (hne2 _) _).other (hne2 _) _

set_option maxRecDepth 100000 in
set_option maxHeartbeats 4000000 in
theorem keys_awaited_oth (f r o s wt key : Int) (w : World) (hi : iaB wt = false) (h34 : wt ≠ 34) (h1 : 0 ≤ f) (h2 : f ≤ 999) (h3 : 0 ≤ s) (h4 : s ≤ 999) :
    Calls Try.prog 162 #[.agg #[.int .i64 f, .int .i64 r, .int .i64 o, .int .i64 s, .int .i64 wt], .int .i64 key] w (TakPost (awaV f r o s wt key) 0 w) := by
  have hX := Box3.start w f r o s wt
  rw [awa_oth hi h34]
  have g1 : (wt == 34) = false := by simpa using h34
  have g2 : (wt == 105) = false := by simp [iaB] at hi ⊢; omega
  have g3 : (wt == 97) = false := by simp [iaB] at hi ⊢; omega
  clear hi h34
  go_enter Try.func162, Try.ntmps162
  go_wp2_with (go_at_call 165; refine (keys_command _ _ _ _ _ _ _ _ h1 h2 h3 h4).mono ?_; rintro e w9 ⟨rfl, hb⟩; have hX9 := hX.below hb; obtain ⟨k0, k1, k2, k3, k4⟩ := hX9.q.five; obtain ⟨l0, l1, l2, l3, l4⟩ := hX9.q.fiveF; obtain ⟨m0, m1, m2, m3, m4⟩ := hX9.c.five; obtain ⟨n0, n1, n2, n3, n4⟩ := hX9.c.fiveF)
  obtain ⟨hq, hc, hbel⟩ := hX9.done (.int .i64 0) (.int .i64 0) (.int .i64 0) (.int .i64 0) (.int .i64 0) (.int .i64 (totV f s)) (.int .i64 r) (.int .i64 o) (.int .i64 wt) (.int .i64 key) rfl
  obtain ⟨y0, y1, y2, y3, y4⟩ := hq.five
  obtain ⟨z0, z1, z2, z3, z4⟩ := hc.five
  exact bodyPost_ret (v := .tuple #[(TK.done f r o s wt key).q, (TK.done f r o s wt key).c, .int .i64 2, .int .i64 0]) (by simp [results, Try.results162, go_sem, TK.done, TK.q, TK.c, y0, y1, y2, y3, y4, z0, z1, z2, z3, z4]) rfl (TakPost.of hbel)

set_option maxRecDepth 100000 in
set_option maxHeartbeats 8000000 in
theorem keys_awaited_iay (f r o s wt key : Int) (w : World) (hi : wt = 105 ∨ wt = 97) (hk : obB key = true) (h1 : 0 ≤ f) (h2 : f ≤ 999) (h3 : 0 ≤ s) (h4 : s ≤ 999) :
    Calls Try.prog 162 #[.agg #[.int .i64 f, .int .i64 r, .int .i64 o, .int .i64 s, .int .i64 wt], .int .i64 key] w (TakPost (awaV f r o s wt key) 0 w) := by
  have hX := Box3.start w f r o s wt
  rw [awa_iay (by simp [iaB]; omega) hk]
  have hk2 : key = 119 ∨ key = 87 ∨ key = 40 ∨ key = 41 ∨ key = 91 ∨ key = 93 ∨ key = 123 ∨ key = 125 ∨ key = 34 ∨ key = 39 ∨ key = 96 := by simpa [obB] using hk
  have g1 : (wt == 34) = false := by simp; omega
  obtain ⟨z5, g2⟩ := zOf wt 105
  have g3 : (wt == 97) = !z5 := by rw [← g2]; rcases hi with rfl | rfl <;> rfl
  clear hk hi
  rcases z5 with _ | _ <;> rcases hk2 with h | h | h | h | h | h | h | h | h | h | h
  all_goals
    have q0 : (key == 119) = ((_ : Int) == 119) := congrArg (fun x : Int => x == 119) h
    have q1 : (key == 87) = ((_ : Int) == 87) := congrArg (fun x : Int => x == 87) h
    have q2 : (key == 40) = ((_ : Int) == 40) := congrArg (fun x : Int => x == 40) h
    have q3 : (key == 41) = ((_ : Int) == 41) := congrArg (fun x : Int => x == 41) h
    have q4 : (key == 91) = ((_ : Int) == 91) := congrArg (fun x : Int => x == 91) h
    have q5 : (key == 93) = ((_ : Int) == 93) := congrArg (fun x : Int => x == 93) h
    have q6 : (key == 123) = ((_ : Int) == 123) := congrArg (fun x : Int => x == 123) h
    have q7 : (key == 125) = ((_ : Int) == 125) := congrArg (fun x : Int => x == 125) h
    have q8 : (key == 34) = ((_ : Int) == 34) := congrArg (fun x : Int => x == 34) h
    have q9 : (key == 39) = ((_ : Int) == 39) := congrArg (fun x : Int => x == 39) h
    have q10 : (key == 96) = ((_ : Int) == 96) := congrArg (fun x : Int => x == 96) h
    clear h
    go_enter Try.func162, Try.ntmps162
    go_wp2_with (go_at_call 165; refine (keys_command _ _ _ _ _ _ _ _ h1 h2 h3 h4).mono ?_; rintro e w9 ⟨rfl, hb⟩; have hX9 := hX.below hb; obtain ⟨k0, k1, k2, k3, k4⟩ := hX9.q.five; obtain ⟨l0, l1, l2, l3, l4⟩ := hX9.q.fiveF; obtain ⟨m0, m1, m2, m3, m4⟩ := hX9.c.five; obtain ⟨n0, n1, n2, n3, n4⟩ := hX9.c.fiveF)
    obtain ⟨hq, hc, hbel⟩ := hX9.done (.int .i64 0) (.int .i64 0) (.int .i64 0) (.int .i64 0) (.int .i64 0) (.int .i64 (totV f s)) (.int .i64 r) (.int .i64 o) (.int .i64 wt) (.int .i64 key) rfl
    obtain ⟨y0, y1, y2, y3, y4⟩ := hq.five
    obtain ⟨z0, z1, z2, z3, z4⟩ := hc.five
    exact bodyPost_ret (v := .tuple #[(TK.done f r o s wt key).q, (TK.done f r o s wt key).c, .int .i64 2, .int .i64 0]) (by simp [results, Try.results162, go_sem, TK.done, TK.q, TK.c, y0, y1, y2, y3, y4, z0, z1, z2, z3, z4]) rfl (TakPost.of hbel)

set_option maxRecDepth 100000 in
set_option maxHeartbeats 4000000 in
theorem keys_awaited_ian (f r o s wt key : Int) (w : World) (hi : wt = 105 ∨ wt = 97) (hk : obB key = false) :
    Calls Try.prog 162 #[.agg #[.int .i64 f, .int .i64 r, .int .i64 o, .int .i64 s, .int .i64 wt], .int .i64 key] w (TakPost (awaV f r o s wt key) 0 w) := by
  have hacc := fun c1 c2 c3 => below3 w (.cells c1 83) (.cells c2 83) (.cells c3 80)
  rw [awa_ian (by simp [iaB]; omega) hk]
  have hk2 : key ≠ 119 ∧ key ≠ 87 ∧ key ≠ 40 ∧ key ≠ 41 ∧ key ≠ 91 ∧ key ≠ 93 ∧ key ≠ 123 ∧ key ≠ 125 ∧ key ≠ 34 ∧ key ≠ 39 ∧ key ≠ 96 := by
    simpa [obB] using hk
  obtain ⟨q0, q1, q2, q3, q4, q5, q6, q7, q8, q9, qa⟩ := hk2
  rw [← beq_eq_false_iff_ne] at q0 q1 q2 q3 q4 q5 q6 q7 q8 q9 qa
  have g1 : (wt == 34) = false := by simp; omega
  obtain ⟨z5, g2⟩ := zOf wt 105
  have g3 : (wt == 97) = !z5 := by rw [← g2]; rcases hi with rfl | rfl <;> rfl
  clear hk hi
  rcases z5 with _ | _
  all_goals
    go_enter Try.func162, Try.ntmps162
    go_wp2
    exact bodyPost_ret (v := .tuple #[TK.wrong.q, TK.wrong.c, .int .i64 3, .int .i64 0]) (by simp [results, Try.results162, go_sem, TK.wrong, TK.q, TK.c]) rfl (TakPost.of (hacc _ _ _))

theorem keys_awaited (f r o s wt key : Int) (w : World) (h1 : 0 ≤ f) (h2 : f ≤ 999) (h3 : 0 ≤ s) (h4 : s ≤ 999) :
    Calls Try.prog 162 #[.agg #[.int .i64 f, .int .i64 r, .int .i64 o, .int .i64 s, .int .i64 wt], .int .i64 key] w (TakPost (awaV f r o s wt key) 0 w) := by
  by_cases h34 : wt = 34
  · subst h34; exact keys_awaited_34 _ _ _ _ _ _
  · cases hi : iaB wt with
    | false => exact keys_awaited_oth _ _ _ _ _ _ _ hi h34 h1 h2 h3 h4
    | true =>
      have hw : wt = 105 ∨ wt = 97 := by simpa [iaB] using hi
      cases hk : obB key with
      | true => exact keys_awaited_iay _ _ _ _ _ _ _ hw hk h1 h2 h3 h4
      | false => exact keys_awaited_ian _ _ _ _ _ _ _ hw hk

end Go.Proofs.Ytmipnikhgihcpaa
