/- Contract of keys.Take. -/
import Derived.Test.YtmipnikhgihcpaaKey4
import Derived.Test.YtmipnikhgihcpaaKey5
namespace Go.Proofs.Ytmipnikhgihcpaa
open Go.RowKit
set_option linter.unusedVariables false
set_option linter.unusedSimpArgs false

theorem kdV_rng {f r o s key : Int} (h : kdV f r o s key = 1) : 48 ≤ key ∧ key ≤ 57 := by
  by_cases hd : dgB (if o ≠ 0 then s else f) key = true
  · simp only [dgB, decide_eq_true_eq] at hd
    omega
  · exfalso
    unfold kdV at h
    rw [if_neg hd] at h
    split at h
    · omega
    · split at h
      · omega
      · split at h
        · omega
        · split at h
          · split at h <;> omega
          · split at h
            · omega
            · split at h
              · split at h <;> omega
              · split at h
                · omega
                · split at h <;> omega
def Usual (key : Int) : Prop := ¬ (key < 32 ∨ key = 127)
theorem takV_k {f r o s key : Int} (h : Usual key) : takV f r o s 0 key =
    if kdV f r o s key = 1 then (if o ≠ 0 then TK.more f r o (cntV s key) 0 else TK.more (cntV f key) r o s 0)
    else if kdV f r o s key = 2 ∨ kdV f r o s key = 4 ∨ kdV f r o s key = 7 ∨ kdV f r o s key = 8 then TK.more f r o s key
    else if kdV f r o s key = 3 then (if o = 0 then TK.more f r key s 0 else if o ≠ key then TK.wrong else TK.done f r o s key 0)
    else if kdV f r o s key = 5 ∨ kdV f r o s key = 6 then TK.done f r o s key 0
    else TK.wrong := by
  unfold takV; rw [if_neg h, if_neg (by simp)]
theorem takV_lo {f r o s wt key : Int} (h : key < 32 ∨ key = 127) : takV f r o s wt key = TK.wrong := by unfold takV; rw [if_pos h]
theorem takV_aw {f r o s wt key : Int} (h : Usual key) (h2 : wt ≠ 0) : takV f r o s wt key = awaV f r o s wt key := by unfold takV; rw [if_neg h, if_pos h2]
theorem Box3.setp {W wx : World} {B : Nat} {f r o s wt f' r' o' s' wt' : Int} (h : Box3 W wx B f r o s wt) (i : Nat) (v : Value)
    (e : (#[.int .i64 f, .int .i64 r, .int .i64 o, .int .i64 s, .int .i64 wt] : Array Value).setIfInBounds i v = #[.int .i64 f', .int .i64 r', .int .i64 o', .int .i64 s', .int .i64 wt']) : Box3 W (wx.setCell ⟨B, i, none⟩ v) B f' r' o' s' wt' :=
  ⟨by have := h.p.set i v; rwa [e] at this, h.q.other (by simp) _, h.c.other (by simp) _, h.bel.setCell (p := ⟨B, i, none⟩) (Nat.le_refl _) _⟩

set_option maxRecDepth 100000 in
set_option maxHeartbeats 4000000 in
theorem keys_take_lo (f r o s wt key : Int) (w : World) (hp : partE f r o s wt = 0) (hlo : key < 32 ∨ key = 127) :
    Calls Try.prog 118 #[.agg #[.int .i64 f, .int .i64 r, .int .i64 o, .int .i64 s, .int .i64 wt], .int .i64 key] w (TakPost (takV f r o s wt key) 0 w) := by
  have hX := Box3.start w f r o s wt
  obtain ⟨b1, b2, b3, b4, b5⟩ := part_ok hp
  have HP := Lib.hid hp
  clear hp
  rw [takV_lo hlo]
  rcases hlo with hlo | rfl
  · go_enter Try.func118, Try.ntmps118
    go_wp2_with (first | (go_at_call 161; refine (keys_check _ _ _ _ _ _).mono ?_; rintro e w9 ⟨rfl, hb⟩; rw [HP.out]; have hX1 := hX.below hb; obtain ⟨c0, c1, c2, c3, c4⟩ := hX1.p.five; obtain ⟨g0, g1, g2, g3, g4⟩ := hX1.p.fiveF; obtain ⟨k0, k1, k2, k3, k4⟩ := hX1.q.five; obtain ⟨l0, l1, l2, l3, l4⟩ := hX1.q.fiveF; obtain ⟨m0, m1, m2, m3, m4⟩ := hX1.c.five; obtain ⟨n0, n1, n2, n3, n4⟩ := hX1.c.fiveF))
    obtain ⟨hq, hc, hbel⟩ := hX1.done (.int .i64 (0)) (.int .i64 (0)) (.int .i64 (0)) (.int .i64 (0)) (.int .i64 (0)) (.int .i64 (0)) (.int .i64 (0)) (.int .i64 (0)) (.int .i64 (0)) (.int .i64 (0)) rfl
    obtain ⟨y0, y1, y2, y3, y4⟩ := hq.five
    obtain ⟨z0, z1, z2, z3, z4⟩ := hc.five
    exact bodyPost_ret (v := .tuple #[(TK.wrong).q, (TK.wrong).c, .int .i64 3, .int .i64 0]) (by simp [results, Try.results118, go_sem, TK.wrong, TK.q, TK.c, y0, y1, y2, y3, y4, z0, z1, z2, z3, z4]) rfl (TakPost.of hbel)
  · go_enter Try.func118, Try.ntmps118
    go_wp2_with (first | (go_at_call 161; refine (keys_check _ _ _ _ _ _).mono ?_; rintro e w9 ⟨rfl, hb⟩; rw [HP.out]; have hX1 := hX.below hb; obtain ⟨c0, c1, c2, c3, c4⟩ := hX1.p.five; obtain ⟨g0, g1, g2, g3, g4⟩ := hX1.p.fiveF; obtain ⟨k0, k1, k2, k3, k4⟩ := hX1.q.five; obtain ⟨l0, l1, l2, l3, l4⟩ := hX1.q.fiveF; obtain ⟨m0, m1, m2, m3, m4⟩ := hX1.c.five; obtain ⟨n0, n1, n2, n3, n4⟩ := hX1.c.fiveF))
    obtain ⟨hq, hc, hbel⟩ := hX1.done (.int .i64 (0)) (.int .i64 (0)) (.int .i64 (0)) (.int .i64 (0)) (.int .i64 (0)) (.int .i64 (0)) (.int .i64 (0)) (.int .i64 (0)) (.int .i64 (0)) (.int .i64 (0)) rfl
    obtain ⟨y0, y1, y2, y3, y4⟩ := hq.five
    obtain ⟨z0, z1, z2, z3, z4⟩ := hc.five
    exact bodyPost_ret (v := .tuple #[(TK.wrong).q, (TK.wrong).c, .int .i64 3, .int .i64 0]) (by simp [results, Try.results118, go_sem, TK.wrong, TK.q, TK.c, y0, y1, y2, y3, y4, z0, z1, z2, z3, z4]) rfl (TakPost.of hbel)

set_option maxRecDepth 100000 in
set_option maxHeartbeats 4000000 in
theorem keys_take_aw (f r o s wt key : Int) (w : World) (hp : partE f r o s wt = 0) (hu : Usual key) (hw : wt ≠ 0) :
    Calls Try.prog 118 #[.agg #[.int .i64 f, .int .i64 r, .int .i64 o, .int .i64 s, .int .i64 wt], .int .i64 key] w (TakPost (takV f r o s wt key) 0 w) := by
  have hX := Box3.start w f r o s wt
  obtain ⟨b1, b2, b3, b4, b5⟩ := part_ok hp
  have HP := Lib.hid hp
  clear hp
  rw [takV_aw hu hw]
  have u1 : 32 ≤ key := by unfold Usual at hu; omega
  have u2 : (key == 127) = false := by unfold Usual at hu; simp; omega
  clear hu
  have u3 : (wt != 0) = true := by simpa using hw
  clear hw
  obtain ⟨tk, htk⟩ : ∃ tk, awaV f r o s wt key = tk := ⟨_, rfl⟩
  have HT := Lib.hid htk
  rw [htk]
  clear htk
  go_enter Try.func118, Try.ntmps118
  go_wp2_with (first | (go_at_call 161; refine (keys_check _ _ _ _ _ _).mono ?_; rintro e w9 ⟨rfl, hb⟩; rw [HP.out]; have hX1 := hX.below hb; obtain ⟨c0, c1, c2, c3, c4⟩ := hX1.p.five; obtain ⟨g0, g1, g2, g3, g4⟩ := hX1.p.fiveF; obtain ⟨k0, k1, k2, k3, k4⟩ := hX1.q.five; obtain ⟨l0, l1, l2, l3, l4⟩ := hX1.q.fiveF; obtain ⟨m0, m1, m2, m3, m4⟩ := hX1.c.five; obtain ⟨n0, n1, n2, n3, n4⟩ := hX1.c.fiveF) | (go_at_call 162; refine (keys_awaited _ _ _ _ _ _ _ b1 b2 b3 b4).mono ?_; rw [HT.out]; rintro e w7 ⟨rfl, hb3⟩; simp only [TK.q, TK.c]; have hX3 := hX1.below hb3; obtain ⟨c0, c1, c2, c3, c4⟩ := hX3.p.five; obtain ⟨g0, g1, g2, g3, g4⟩ := hX3.p.fiveF; obtain ⟨k0, k1, k2, k3, k4⟩ := hX3.q.five; obtain ⟨l0, l1, l2, l3, l4⟩ := hX3.q.fiveF; obtain ⟨m0, m1, m2, m3, m4⟩ := hX3.c.five; obtain ⟨n0, n1, n2, n3, n4⟩ := hX3.c.fiveF))
  obtain ⟨hq, hc, hbel⟩ := hX3.done (.int .i64 (tk.q0)) (.int .i64 (tk.q1)) (.int .i64 (tk.q2)) (.int .i64 (tk.q3)) (.int .i64 (tk.q4)) (.int .i64 (tk.c0)) (.int .i64 (tk.c1)) (.int .i64 (tk.c2)) (.int .i64 (tk.c3)) (.int .i64 (tk.c4)) rfl
  obtain ⟨y0, y1, y2, y3, y4⟩ := hq.five
  obtain ⟨z0, z1, z2, z3, z4⟩ := hc.five
  exact bodyPost_ret (v := .tuple #[(tk).q, (tk).c, .int .i64 tk.how, .int .i64 0]) (by simp [results, Try.results118, go_sem, TK.q, TK.q, TK.c, y0, y1, y2, y3, y4, z0, z1, z2, z3, z4]) rfl (TakPost.of hbel)

set_option maxRecDepth 100000 in
set_option maxHeartbeats 4000000 in
theorem keys_take_k2 (f r o s key : Int) (w : World) (hp : partE f r o s 0 = 0) (hu : Usual key) (hk : kdV f r o s key = 2) :
    Calls Try.prog 118 #[.agg #[.int .i64 f, .int .i64 r, .int .i64 o, .int .i64 s, .int .i64 0], .int .i64 key] w (TakPost (takV f r o s 0 key) 0 w) := by
  have hX := Box3.start w f r o s 0
  obtain ⟨b1, b2, b3, b4, b5⟩ := part_ok hp
  have HP := Lib.hid hp
  clear hp
  rw [takV_k hu, hk, if_neg (by omega), if_pos (by omega)]
  have u1 : 32 ≤ key := by unfold Usual at hu; omega
  have u2 : (key == 127) = false := by unfold Usual at hu; simp; omega
  clear hu
  have HK := Lib.hid hk
  clear hk
  go_enter Try.func118, Try.ntmps118
  go_wp2_with (first | (go_at_call 161; refine (keys_check _ _ _ _ _ _).mono ?_; rintro e w9 ⟨rfl, hb⟩; rw [HP.out]; have hX1 := hX.below hb; obtain ⟨c0, c1, c2, c3, c4⟩ := hX1.p.five; obtain ⟨g0, g1, g2, g3, g4⟩ := hX1.p.fiveF; obtain ⟨k0, k1, k2, k3, k4⟩ := hX1.q.five; obtain ⟨l0, l1, l2, l3, l4⟩ := hX1.q.fiveF; obtain ⟨m0, m1, m2, m3, m4⟩ := hX1.c.five; obtain ⟨n0, n1, n2, n3, n4⟩ := hX1.c.fiveF) | (go_at_call 163; refine (keys_kindOf _ _ _ _ _ _ _).mono ?_; rintro e w8 ⟨rfl, hb2⟩; rw [HK.out]; have hX2 := hX1.below hb2; obtain ⟨c0, c1, c2, c3, c4⟩ := hX2.p.five; obtain ⟨g0, g1, g2, g3, g4⟩ := hX2.p.fiveF; obtain ⟨k0, k1, k2, k3, k4⟩ := hX2.q.five; obtain ⟨l0, l1, l2, l3, l4⟩ := hX2.q.fiveF; obtain ⟨m0, m1, m2, m3, m4⟩ := hX2.c.five; obtain ⟨n0, n1, n2, n3, n4⟩ := hX2.c.fiveF))
  obtain ⟨hq, hc, hbel⟩ := (hX2.setp (f' := f) (r' := r) (o' := o) (s' := s) (wt' := key) 4 (.int .i64 key) rfl).done (.int .i64 (f)) (.int .i64 (r)) (.int .i64 (o)) (.int .i64 (s)) (.int .i64 (key)) (.int .i64 (0)) (.int .i64 (0)) (.int .i64 (0)) (.int .i64 (0)) (.int .i64 (0)) rfl
  obtain ⟨y0, y1, y2, y3, y4⟩ := hq.five
  obtain ⟨z0, z1, z2, z3, z4⟩ := hc.five
  exact bodyPost_ret (v := .tuple #[(TK.more f r o s key).q, (TK.more f r o s key).c, .int .i64 1, .int .i64 0]) (by simp [results, Try.results118, go_sem, TK.more, TK.q, TK.c, y0, y1, y2, y3, y4, z0, z1, z2, z3, z4]) rfl (TakPost.of hbel)

set_option maxRecDepth 100000 in
set_option maxHeartbeats 4000000 in
theorem keys_take_k4 (f r o s key : Int) (w : World) (hp : partE f r o s 0 = 0) (hu : Usual key) (hk : kdV f r o s key = 4) :
    Calls Try.prog 118 #[.agg #[.int .i64 f, .int .i64 r, .int .i64 o, .int .i64 s, .int .i64 0], .int .i64 key] w (TakPost (takV f r o s 0 key) 0 w) := by
  have hX := Box3.start w f r o s 0
  obtain ⟨b1, b2, b3, b4, b5⟩ := part_ok hp
  have HP := Lib.hid hp
  clear hp
  rw [takV_k hu, hk, if_neg (by omega), if_pos (by omega)]
  have u1 : 32 ≤ key := by unfold Usual at hu; omega
  have u2 : (key == 127) = false := by unfold Usual at hu; simp; omega
  clear hu
  have HK := Lib.hid hk
  clear hk
  go_enter Try.func118, Try.ntmps118
  go_wp2_with (first | (go_at_call 161; refine (keys_check _ _ _ _ _ _).mono ?_; rintro e w9 ⟨rfl, hb⟩; rw [HP.out]; have hX1 := hX.below hb; obtain ⟨c0, c1, c2, c3, c4⟩ := hX1.p.five; obtain ⟨g0, g1, g2, g3, g4⟩ := hX1.p.fiveF; obtain ⟨k0, k1, k2, k3, k4⟩ := hX1.q.five; obtain ⟨l0, l1, l2, l3, l4⟩ := hX1.q.fiveF; obtain ⟨m0, m1, m2, m3, m4⟩ := hX1.c.five; obtain ⟨n0, n1, n2, n3, n4⟩ := hX1.c.fiveF) | (go_at_call 163; refine (keys_kindOf _ _ _ _ _ _ _).mono ?_; rintro e w8 ⟨rfl, hb2⟩; rw [HK.out]; have hX2 := hX1.below hb2; obtain ⟨c0, c1, c2, c3, c4⟩ := hX2.p.five; obtain ⟨g0, g1, g2, g3, g4⟩ := hX2.p.fiveF; obtain ⟨k0, k1, k2, k3, k4⟩ := hX2.q.five; obtain ⟨l0, l1, l2, l3, l4⟩ := hX2.q.fiveF; obtain ⟨m0, m1, m2, m3, m4⟩ := hX2.c.five; obtain ⟨n0, n1, n2, n3, n4⟩ := hX2.c.fiveF))
  obtain ⟨hq, hc, hbel⟩ := (hX2.setp (f' := f) (r' := r) (o' := o) (s' := s) (wt' := key) 4 (.int .i64 key) rfl).done (.int .i64 (f)) (.int .i64 (r)) (.int .i64 (o)) (.int .i64 (s)) (.int .i64 (key)) (.int .i64 (0)) (.int .i64 (0)) (.int .i64 (0)) (.int .i64 (0)) (.int .i64 (0)) rfl
  obtain ⟨y0, y1, y2, y3, y4⟩ := hq.five
  obtain ⟨z0, z1, z2, z3, z4⟩ := hc.five
  exact bodyPost_ret (v := .tuple #[(TK.more f r o s key).q, (TK.more f r o s key).c, .int .i64 1, .int .i64 0]) (by simp [results, Try.results118, go_sem, TK.more, TK.q, TK.c, y0, y1, y2, y3, y4, z0, z1, z2, z3, z4]) rfl (TakPost.of hbel)

set_option maxRecDepth 100000 in
set_option maxHeartbeats 4000000 in
theorem keys_take_k7 (f r o s key : Int) (w : World) (hp : partE f r o s 0 = 0) (hu : Usual key) (hk : kdV f r o s key = 7) :
    Calls Try.prog 118 #[.agg #[.int .i64 f, .int .i64 r, .int .i64 o, .int .i64 s, .int .i64 0], .int .i64 key] w (TakPost (takV f r o s 0 key) 0 w) := by
  have hX := Box3.start w f r o s 0
  obtain ⟨b1, b2, b3, b4, b5⟩ := part_ok hp
  have HP := Lib.hid hp
  clear hp
  rw [takV_k hu, hk, if_neg (by omega), if_pos (by omega)]
  have u1 : 32 ≤ key := by unfold Usual at hu; omega
  have u2 : (key == 127) = false := by unfold Usual at hu; simp; omega
  clear hu
  have HK := Lib.hid hk
  clear hk
  go_enter Try.func118, Try.ntmps118
  go_wp2_with (first | (go_at_call 161; refine (keys_check _ _ _ _ _ _).mono ?_; rintro e w9 ⟨rfl, hb⟩; rw [HP.out]; have hX1 := hX.below hb; obtain ⟨c0, c1, c2, c3, c4⟩ := hX1.p.five; obtain ⟨g0, g1, g2, g3, g4⟩ := hX1.p.fiveF; obtain ⟨k0, k1, k2, k3, k4⟩ := hX1.q.five; obtain ⟨l0, l1, l2, l3, l4⟩ := hX1.q.fiveF; obtain ⟨m0, m1, m2, m3, m4⟩ := hX1.c.five; obtain ⟨n0, n1, n2, n3, n4⟩ := hX1.c.fiveF) | (go_at_call 163; refine (keys_kindOf _ _ _ _ _ _ _).mono ?_; rintro e w8 ⟨rfl, hb2⟩; rw [HK.out]; have hX2 := hX1.below hb2; obtain ⟨c0, c1, c2, c3, c4⟩ := hX2.p.five; obtain ⟨g0, g1, g2, g3, g4⟩ := hX2.p.fiveF; obtain ⟨k0, k1, k2, k3, k4⟩ := hX2.q.five; obtain ⟨l0, l1, l2, l3, l4⟩ := hX2.q.fiveF; obtain ⟨m0, m1, m2, m3, m4⟩ := hX2.c.five; obtain ⟨n0, n1, n2, n3, n4⟩ := hX2.c.fiveF))
  obtain ⟨hq, hc, hbel⟩ := (hX2.setp (f' := f) (r' := r) (o' := o) (s' := s) (wt' := key) 4 (.int .i64 key) rfl).done (.int .i64 (f)) (.int .i64 (r)) (.int .i64 (o)) (.int .i64 (s)) (.int .i64 (key)) (.int .i64 (0)) (.int .i64 (0)) (.int .i64 (0)) (.int .i64 (0)) (.int .i64 (0)) rfl
  obtain ⟨y0, y1, y2, y3, y4⟩ := hq.five
  obtain ⟨z0, z1, z2, z3, z4⟩ := hc.five
  exact bodyPost_ret (v := .tuple #[(TK.more f r o s key).q, (TK.more f r o s key).c, .int .i64 1, .int .i64 0]) (by simp [results, Try.results118, go_sem, TK.more, TK.q, TK.c, y0, y1, y2, y3, y4, z0, z1, z2, z3, z4]) rfl (TakPost.of hbel)

set_option maxRecDepth 100000 in
set_option maxHeartbeats 4000000 in
theorem keys_take_k8 (f r o s key : Int) (w : World) (hp : partE f r o s 0 = 0) (hu : Usual key) (hk : kdV f r o s key = 8) :
    Calls Try.prog 118 #[.agg #[.int .i64 f, .int .i64 r, .int .i64 o, .int .i64 s, .int .i64 0], .int .i64 key] w (TakPost (takV f r o s 0 key) 0 w) := by
  have hX := Box3.start w f r o s 0
  obtain ⟨b1, b2, b3, b4, b5⟩ := part_ok hp
  have HP := Lib.hid hp
  clear hp
  rw [takV_k hu, hk, if_neg (by omega), if_pos (by omega)]
  have u1 : 32 ≤ key := by unfold Usual at hu; omega
  have u2 : (key == 127) = false := by unfold Usual at hu; simp; omega
  clear hu
  have HK := Lib.hid hk
  clear hk
  go_enter Try.func118, Try.ntmps118
  go_wp2_with (first | (go_at_call 161; refine (keys_check _ _ _ _ _ _).mono ?_; rintro e w9 ⟨rfl, hb⟩; rw [HP.out]; have hX1 := hX.below hb; obtain ⟨c0, c1, c2, c3, c4⟩ := hX1.p.five; obtain ⟨g0, g1, g2, g3, g4⟩ := hX1.p.fiveF; obtain ⟨k0, k1, k2, k3, k4⟩ := hX1.q.five; obtain ⟨l0, l1, l2, l3, l4⟩ := hX1.q.fiveF; obtain ⟨m0, m1, m2, m3, m4⟩ := hX1.c.five; obtain ⟨n0, n1, n2, n3, n4⟩ := hX1.c.fiveF) | (go_at_call 163; refine (keys_kindOf _ _ _ _ _ _ _).mono ?_; rintro e w8 ⟨rfl, hb2⟩; rw [HK.out]; have hX2 := hX1.below hb2; obtain ⟨c0, c1, c2, c3, c4⟩ := hX2.p.five; obtain ⟨g0, g1, g2, g3, g4⟩ := hX2.p.fiveF; obtain ⟨k0, k1, k2, k3, k4⟩ := hX2.q.five; obtain ⟨l0, l1, l2, l3, l4⟩ := hX2.q.fiveF; obtain ⟨m0, m1, m2, m3, m4⟩ := hX2.c.five; obtain ⟨n0, n1, n2, n3, n4⟩ := hX2.c.fiveF))
  obtain ⟨hq, hc, hbel⟩ := (hX2.setp (f' := f) (r' := r) (o' := o) (s' := s) (wt' := key) 4 (.int .i64 key) rfl).done (.int .i64 (f)) (.int .i64 (r)) (.int .i64 (o)) (.int .i64 (s)) (.int .i64 (key)) (.int .i64 (0)) (.int .i64 (0)) (.int .i64 (0)) (.int .i64 (0)) (.int .i64 (0)) rfl
  obtain ⟨y0, y1, y2, y3, y4⟩ := hq.five
  obtain ⟨z0, z1, z2, z3, z4⟩ := hc.five
  exact bodyPost_ret (v := .tuple #[(TK.more f r o s key).q, (TK.more f r o s key).c, .int .i64 1, .int .i64 0]) (by simp [results, Try.results118, go_sem, TK.more, TK.q, TK.c, y0, y1, y2, y3, y4, z0, z1, z2, z3, z4]) rfl (TakPost.of hbel)

set_option maxRecDepth 100000 in
set_option maxHeartbeats 4000000 in
theorem keys_take_k5 (f r o s key : Int) (w : World) (hp : partE f r o s 0 = 0) (hu : Usual key) (hk : kdV f r o s key = 5) :
    Calls Try.prog 118 #[.agg #[.int .i64 f, .int .i64 r, .int .i64 o, .int .i64 s, .int .i64 0], .int .i64 key] w (TakPost (takV f r o s 0 key) 0 w) := by
  have hX := Box3.start w f r o s 0
  obtain ⟨b1, b2, b3, b4, b5⟩ := part_ok hp
  have HP := Lib.hid hp
  clear hp
  rw [takV_k hu, hk, if_neg (by omega), if_neg (by omega), if_neg (by omega), if_pos (by omega)]
  have u1 : 32 ≤ key := by unfold Usual at hu; omega
  have u2 : (key == 127) = false := by unfold Usual at hu; simp; omega
  clear hu
  have HK := Lib.hid hk
  clear hk
  go_enter Try.func118, Try.ntmps118
  go_wp2_with (first | (go_at_call 161; refine (keys_check _ _ _ _ _ _).mono ?_; rintro e w9 ⟨rfl, hb⟩; rw [HP.out]; have hX1 := hX.below hb; obtain ⟨c0, c1, c2, c3, c4⟩ := hX1.p.five; obtain ⟨g0, g1, g2, g3, g4⟩ := hX1.p.fiveF; obtain ⟨k0, k1, k2, k3, k4⟩ := hX1.q.five; obtain ⟨l0, l1, l2, l3, l4⟩ := hX1.q.fiveF; obtain ⟨m0, m1, m2, m3, m4⟩ := hX1.c.five; obtain ⟨n0, n1, n2, n3, n4⟩ := hX1.c.fiveF) | (go_at_call 163; refine (keys_kindOf _ _ _ _ _ _ _).mono ?_; rintro e w8 ⟨rfl, hb2⟩; rw [HK.out]; have hX2 := hX1.below hb2; obtain ⟨c0, c1, c2, c3, c4⟩ := hX2.p.five; obtain ⟨g0, g1, g2, g3, g4⟩ := hX2.p.fiveF; obtain ⟨k0, k1, k2, k3, k4⟩ := hX2.q.five; obtain ⟨l0, l1, l2, l3, l4⟩ := hX2.q.fiveF; obtain ⟨m0, m1, m2, m3, m4⟩ := hX2.c.five; obtain ⟨n0, n1, n2, n3, n4⟩ := hX2.c.fiveF) | (go_at_call 165; refine (keys_command _ _ _ _ _ _ _ _ b1 b2 b3 b4).mono ?_; rintro e w7 ⟨rfl, hb3⟩; have hX3 := hX2.below hb3; obtain ⟨c0, c1, c2, c3, c4⟩ := hX3.p.five; obtain ⟨g0, g1, g2, g3, g4⟩ := hX3.p.fiveF; obtain ⟨k0, k1, k2, k3, k4⟩ := hX3.q.five; obtain ⟨l0, l1, l2, l3, l4⟩ := hX3.q.fiveF; obtain ⟨m0, m1, m2, m3, m4⟩ := hX3.c.five; obtain ⟨n0, n1, n2, n3, n4⟩ := hX3.c.fiveF))
  obtain ⟨hq, hc, hbel⟩ := hX3.done (.int .i64 (0)) (.int .i64 (0)) (.int .i64 (0)) (.int .i64 (0)) (.int .i64 (0)) (.int .i64 (totV f s)) (.int .i64 (r)) (.int .i64 (o)) (.int .i64 (key)) (.int .i64 (0)) rfl
  obtain ⟨y0, y1, y2, y3, y4⟩ := hq.five
  obtain ⟨z0, z1, z2, z3, z4⟩ := hc.five
  exact bodyPost_ret (v := .tuple #[(TK.done f r o s key 0).q, (TK.done f r o s key 0).c, .int .i64 2, .int .i64 0]) (by simp [results, Try.results118, go_sem, TK.done, TK.q, TK.c, y0, y1, y2, y3, y4, z0, z1, z2, z3, z4]) rfl (TakPost.of hbel)

set_option maxRecDepth 100000 in
set_option maxHeartbeats 4000000 in
theorem keys_take_k6 (f r o s key : Int) (w : World) (hp : partE f r o s 0 = 0) (hu : Usual key) (hk : kdV f r o s key = 6) :
    Calls Try.prog 118 #[.agg #[.int .i64 f, .int .i64 r, .int .i64 o, .int .i64 s, .int .i64 0], .int .i64 key] w (TakPost (takV f r o s 0 key) 0 w) := by
  have hX := Box3.start w f r o s 0
  obtain ⟨b1, b2, b3, b4, b5⟩ := part_ok hp
  have HP := Lib.hid hp
  clear hp
  rw [takV_k hu, hk, if_neg (by omega), if_neg (by omega), if_neg (by omega), if_pos (by omega)]
  have u1 : 32 ≤ key := by unfold Usual at hu; omega
  have u2 : (key == 127) = false := by unfold Usual at hu; simp; omega
  clear hu
  have HK := Lib.hid hk
  clear hk
  go_enter Try.func118, Try.ntmps118
  go_wp2_with (first | (go_at_call 161; refine (keys_check _ _ _ _ _ _).mono ?_; rintro e w9 ⟨rfl, hb⟩; rw [HP.out]; have hX1 := hX.below hb; obtain ⟨c0, c1, c2, c3, c4⟩ := hX1.p.five; obtain ⟨g0, g1, g2, g3, g4⟩ := hX1.p.fiveF; obtain ⟨k0, k1, k2, k3, k4⟩ := hX1.q.five; obtain ⟨l0, l1, l2, l3, l4⟩ := hX1.q.fiveF; obtain ⟨m0, m1, m2, m3, m4⟩ := hX1.c.five; obtain ⟨n0, n1, n2, n3, n4⟩ := hX1.c.fiveF) | (go_at_call 163; refine (keys_kindOf _ _ _ _ _ _ _).mono ?_; rintro e w8 ⟨rfl, hb2⟩; rw [HK.out]; have hX2 := hX1.below hb2; obtain ⟨c0, c1, c2, c3, c4⟩ := hX2.p.five; obtain ⟨g0, g1, g2, g3, g4⟩ := hX2.p.fiveF; obtain ⟨k0, k1, k2, k3, k4⟩ := hX2.q.five; obtain ⟨l0, l1, l2, l3, l4⟩ := hX2.q.fiveF; obtain ⟨m0, m1, m2, m3, m4⟩ := hX2.c.five; obtain ⟨n0, n1, n2, n3, n4⟩ := hX2.c.fiveF) | (go_at_call 165; refine (keys_command _ _ _ _ _ _ _ _ b1 b2 b3 b4).mono ?_; rintro e w7 ⟨rfl, hb3⟩; have hX3 := hX2.below hb3; obtain ⟨c0, c1, c2, c3, c4⟩ := hX3.p.five; obtain ⟨g0, g1, g2, g3, g4⟩ := hX3.p.fiveF; obtain ⟨k0, k1, k2, k3, k4⟩ := hX3.q.five; obtain ⟨l0, l1, l2, l3, l4⟩ := hX3.q.fiveF; obtain ⟨m0, m1, m2, m3, m4⟩ := hX3.c.five; obtain ⟨n0, n1, n2, n3, n4⟩ := hX3.c.fiveF))
  obtain ⟨hq, hc, hbel⟩ := hX3.done (.int .i64 (0)) (.int .i64 (0)) (.int .i64 (0)) (.int .i64 (0)) (.int .i64 (0)) (.int .i64 (totV f s)) (.int .i64 (r)) (.int .i64 (o)) (.int .i64 (key)) (.int .i64 (0)) rfl
  obtain ⟨y0, y1, y2, y3, y4⟩ := hq.five
  obtain ⟨z0, z1, z2, z3, z4⟩ := hc.five
  exact bodyPost_ret (v := .tuple #[(TK.done f r o s key 0).q, (TK.done f r o s key 0).c, .int .i64 2, .int .i64 0]) (by simp [results, Try.results118, go_sem, TK.done, TK.q, TK.c, y0, y1, y2, y3, y4, z0, z1, z2, z3, z4]) rfl (TakPost.of hbel)

set_option maxRecDepth 100000 in
set_option maxHeartbeats 4000000 in
theorem keys_take_k0 (f r o s key : Int) (w : World) (hp : partE f r o s 0 = 0) (hu : Usual key) (hk : kdV f r o s key = 0) :
    Calls Try.prog 118 #[.agg #[.int .i64 f, .int .i64 r, .int .i64 o, .int .i64 s, .int .i64 0], .int .i64 key] w (TakPost (takV f r o s 0 key) 0 w) := by
  have hX := Box3.start w f r o s 0
  obtain ⟨b1, b2, b3, b4, b5⟩ := part_ok hp
  have HP := Lib.hid hp
  clear hp
  rw [takV_k hu, hk, if_neg (by omega), if_neg (by omega), if_neg (by omega), if_neg (by omega)]
  have u1 : 32 ≤ key := by unfold Usual at hu; omega
  have u2 : (key == 127) = false := by unfold Usual at hu; simp; omega
  clear hu
  have HK := Lib.hid hk
  clear hk
  go_enter Try.func118, Try.ntmps118
  go_wp2_with (first | (go_at_call 161; refine (keys_check _ _ _ _ _ _).mono ?_; rintro e w9 ⟨rfl, hb⟩; rw [HP.out]; have hX1 := hX.below hb; obtain ⟨c0, c1, c2, c3, c4⟩ := hX1.p.five; obtain ⟨g0, g1, g2, g3, g4⟩ := hX1.p.fiveF; obtain ⟨k0, k1, k2, k3, k4⟩ := hX1.q.five; obtain ⟨l0, l1, l2, l3, l4⟩ := hX1.q.fiveF; obtain ⟨m0, m1, m2, m3, m4⟩ := hX1.c.five; obtain ⟨n0, n1, n2, n3, n4⟩ := hX1.c.fiveF) | (go_at_call 163; refine (keys_kindOf _ _ _ _ _ _ _).mono ?_; rintro e w8 ⟨rfl, hb2⟩; rw [HK.out]; have hX2 := hX1.below hb2; obtain ⟨c0, c1, c2, c3, c4⟩ := hX2.p.five; obtain ⟨g0, g1, g2, g3, g4⟩ := hX2.p.fiveF; obtain ⟨k0, k1, k2, k3, k4⟩ := hX2.q.five; obtain ⟨l0, l1, l2, l3, l4⟩ := hX2.q.fiveF; obtain ⟨m0, m1, m2, m3, m4⟩ := hX2.c.five; obtain ⟨n0, n1, n2, n3, n4⟩ := hX2.c.fiveF))
  obtain ⟨hq, hc, hbel⟩ := hX2.done (.int .i64 (0)) (.int .i64 (0)) (.int .i64 (0)) (.int .i64 (0)) (.int .i64 (0)) (.int .i64 (0)) (.int .i64 (0)) (.int .i64 (0)) (.int .i64 (0)) (.int .i64 (0)) rfl
  obtain ⟨y0, y1, y2, y3, y4⟩ := hq.five
  obtain ⟨z0, z1, z2, z3, z4⟩ := hc.five
  exact bodyPost_ret (v := .tuple #[(TK.wrong).q, (TK.wrong).c, .int .i64 3, .int .i64 0]) (by simp [results, Try.results118, go_sem, TK.wrong, TK.q, TK.c, y0, y1, y2, y3, y4, z0, z1, z2, z3, z4]) rfl (TakPost.of hbel)

set_option maxRecDepth 100000 in
set_option maxHeartbeats 4000000 in
theorem keys_take_k1o (f r o s key : Int) (w : World) (hp : partE f r o s 0 = 0) (hu : Usual key) (hk : kdV f r o s key = 1) (ho : o ≠ 0) :
    Calls Try.prog 118 #[.agg #[.int .i64 f, .int .i64 r, .int .i64 o, .int .i64 s, .int .i64 0], .int .i64 key] w (TakPost (takV f r o s 0 key) 0 w) := by
  have hX := Box3.start w f r o s 0
  obtain ⟨b1, b2, b3, b4, b5⟩ := part_ok hp
  have HP := Lib.hid hp
  clear hp
  rw [takV_k hu, hk, if_pos rfl, if_pos ho]
  have u1 : 32 ≤ key := by unfold Usual at hu; omega
  have u2 : (key == 127) = false := by unfold Usual at hu; simp; omega
  clear hu
  have HK := Lib.hid hk
  clear hk
  have ho2 : (o != 0) = true := by simpa using ho
  clear ho
  obtain ⟨d1, d2⟩ := kdV_rng HK.out
  go_enter Try.func118, Try.ntmps118
  go_wp2_with (first | (go_at_call 161; refine (keys_check _ _ _ _ _ _).mono ?_; rintro e w9 ⟨rfl, hb⟩; rw [HP.out]; have hX1 := hX.below hb; obtain ⟨c0, c1, c2, c3, c4⟩ := hX1.p.five; obtain ⟨g0, g1, g2, g3, g4⟩ := hX1.p.fiveF; obtain ⟨k0, k1, k2, k3, k4⟩ := hX1.q.five; obtain ⟨l0, l1, l2, l3, l4⟩ := hX1.q.fiveF; obtain ⟨m0, m1, m2, m3, m4⟩ := hX1.c.five; obtain ⟨n0, n1, n2, n3, n4⟩ := hX1.c.fiveF) | (go_at_call 163; refine (keys_kindOf _ _ _ _ _ _ _).mono ?_; rintro e w8 ⟨rfl, hb2⟩; rw [HK.out]; have hX2 := hX1.below hb2; obtain ⟨c0, c1, c2, c3, c4⟩ := hX2.p.five; obtain ⟨g0, g1, g2, g3, g4⟩ := hX2.p.fiveF; obtain ⟨k0, k1, k2, k3, k4⟩ := hX2.q.five; obtain ⟨l0, l1, l2, l3, l4⟩ := hX2.q.fiveF; obtain ⟨m0, m1, m2, m3, m4⟩ := hX2.c.five; obtain ⟨n0, n1, n2, n3, n4⟩ := hX2.c.fiveF) | (go_at_call 164; refine (keys_counted _ _ _ b3 b4 d1 d2).mono ?_; rintro e w7 ⟨rfl, rfl⟩))
  obtain ⟨hq, hc, hbel⟩ := (hX2.setp (f' := f) (r' := r) (o' := o) (s' := cntV s key) (wt' := 0) 3 (.int .i64 (cntV s key)) rfl).done (.int .i64 (f)) (.int .i64 (r)) (.int .i64 (o)) (.int .i64 (cntV s key)) (.int .i64 (0)) (.int .i64 (0)) (.int .i64 (0)) (.int .i64 (0)) (.int .i64 (0)) (.int .i64 (0)) rfl
  obtain ⟨y0, y1, y2, y3, y4⟩ := hq.five
  obtain ⟨z0, z1, z2, z3, z4⟩ := hc.five
  exact bodyPost_ret (v := .tuple #[(TK.more f r o (cntV s key) 0).q, (TK.more f r o (cntV s key) 0).c, .int .i64 1, .int .i64 0]) (by simp [results, Try.results118, go_sem, TK.more, TK.q, TK.c, y0, y1, y2, y3, y4, z0, z1, z2, z3, z4]) rfl (TakPost.of hbel)

set_option maxRecDepth 100000 in
set_option maxHeartbeats 4000000 in
theorem keys_take_k1z (f r o s key : Int) (w : World) (hp : partE f r o s 0 = 0) (hu : Usual key) (hk : kdV f r o s key = 1) (ho : ¬ o ≠ 0) :
    Calls Try.prog 118 #[.agg #[.int .i64 f, .int .i64 r, .int .i64 o, .int .i64 s, .int .i64 0], .int .i64 key] w (TakPost (takV f r o s 0 key) 0 w) := by
  have hX := Box3.start w f r o s 0
  obtain ⟨b1, b2, b3, b4, b5⟩ := part_ok hp
  have HP := Lib.hid hp
  clear hp
  rw [takV_k hu, hk, if_pos rfl, if_neg ho]
  have u1 : 32 ≤ key := by unfold Usual at hu; omega
  have u2 : (key == 127) = false := by unfold Usual at hu; simp; omega
  clear hu
  have HK := Lib.hid hk
  clear hk
  have ho2 : (o != 0) = false := by simpa using ho
  clear ho
  obtain ⟨d1, d2⟩ := kdV_rng HK.out
  go_enter Try.func118, Try.ntmps118
  go_wp2_with (first | (go_at_call 161; refine (keys_check _ _ _ _ _ _).mono ?_; rintro e w9 ⟨rfl, hb⟩; rw [HP.out]; have hX1 := hX.below hb; obtain ⟨c0, c1, c2, c3, c4⟩ := hX1.p.five; obtain ⟨g0, g1, g2, g3, g4⟩ := hX1.p.fiveF; obtain ⟨k0, k1, k2, k3, k4⟩ := hX1.q.five; obtain ⟨l0, l1, l2, l3, l4⟩ := hX1.q.fiveF; obtain ⟨m0, m1, m2, m3, m4⟩ := hX1.c.five; obtain ⟨n0, n1, n2, n3, n4⟩ := hX1.c.fiveF) | (go_at_call 163; refine (keys_kindOf _ _ _ _ _ _ _).mono ?_; rintro e w8 ⟨rfl, hb2⟩; rw [HK.out]; have hX2 := hX1.below hb2; obtain ⟨c0, c1, c2, c3, c4⟩ := hX2.p.five; obtain ⟨g0, g1, g2, g3, g4⟩ := hX2.p.fiveF; obtain ⟨k0, k1, k2, k3, k4⟩ := hX2.q.five; obtain ⟨l0, l1, l2, l3, l4⟩ := hX2.q.fiveF; obtain ⟨m0, m1, m2, m3, m4⟩ := hX2.c.five; obtain ⟨n0, n1, n2, n3, n4⟩ := hX2.c.fiveF) | (go_at_call 164; refine (keys_counted _ _ _ b1 b2 d1 d2).mono ?_; rintro e w7 ⟨rfl, rfl⟩))
  obtain ⟨hq, hc, hbel⟩ := (hX2.setp (f' := cntV f key) (r' := r) (o' := o) (s' := s) (wt' := 0) 0 (.int .i64 (cntV f key)) rfl).done (.int .i64 (cntV f key)) (.int .i64 (r)) (.int .i64 (o)) (.int .i64 (s)) (.int .i64 (0)) (.int .i64 (0)) (.int .i64 (0)) (.int .i64 (0)) (.int .i64 (0)) (.int .i64 (0)) rfl
  obtain ⟨y0, y1, y2, y3, y4⟩ := hq.five
  obtain ⟨z0, z1, z2, z3, z4⟩ := hc.five
  exact bodyPost_ret (v := .tuple #[(TK.more (cntV f key) r o s 0).q, (TK.more (cntV f key) r o s 0).c, .int .i64 1, .int .i64 0]) (by simp [results, Try.results118, go_sem, TK.more, TK.q, TK.c, y0, y1, y2, y3, y4, z0, z1, z2, z3, z4]) rfl (TakPost.of hbel)

set_option maxRecDepth 100000 in
set_option maxHeartbeats 4000000 in
theorem keys_take_k3z (f r o s key : Int) (w : World) (hp : partE f r o s 0 = 0) (hu : Usual key) (hk : kdV f r o s key = 3) (ho : o = 0) :
    Calls Try.prog 118 #[.agg #[.int .i64 f, .int .i64 r, .int .i64 o, .int .i64 s, .int .i64 0], .int .i64 key] w (TakPost (takV f r o s 0 key) 0 w) := by
  have hX := Box3.start w f r o s 0
  obtain ⟨b1, b2, b3, b4, b5⟩ := part_ok hp
  have HP := Lib.hid hp
  clear hp
  rw [takV_k hu, hk, if_neg (by omega), if_neg (by omega), if_pos rfl, if_pos ho]
  have u1 : 32 ≤ key := by unfold Usual at hu; omega
  have u2 : (key == 127) = false := by unfold Usual at hu; simp; omega
  clear hu
  have HK := Lib.hid hk
  clear hk
  have ho2 : (o == 0) = true := by simpa using ho
  clear ho b5
  go_enter Try.func118, Try.ntmps118
  go_wp2_with (first | (go_at_call 161; refine (keys_check _ _ _ _ _ _).mono ?_; rintro e w9 ⟨rfl, hb⟩; rw [HP.out]; have hX1 := hX.below hb; obtain ⟨c0, c1, c2, c3, c4⟩ := hX1.p.five; obtain ⟨g0, g1, g2, g3, g4⟩ := hX1.p.fiveF; obtain ⟨k0, k1, k2, k3, k4⟩ := hX1.q.five; obtain ⟨l0, l1, l2, l3, l4⟩ := hX1.q.fiveF; obtain ⟨m0, m1, m2, m3, m4⟩ := hX1.c.five; obtain ⟨n0, n1, n2, n3, n4⟩ := hX1.c.fiveF) | (go_at_call 163; refine (keys_kindOf _ _ _ _ _ _ _).mono ?_; rintro e w8 ⟨rfl, hb2⟩; rw [HK.out]; have hX2 := hX1.below hb2; obtain ⟨c0, c1, c2, c3, c4⟩ := hX2.p.five; obtain ⟨g0, g1, g2, g3, g4⟩ := hX2.p.fiveF; obtain ⟨k0, k1, k2, k3, k4⟩ := hX2.q.five; obtain ⟨l0, l1, l2, l3, l4⟩ := hX2.q.fiveF; obtain ⟨m0, m1, m2, m3, m4⟩ := hX2.c.five; obtain ⟨n0, n1, n2, n3, n4⟩ := hX2.c.fiveF))
  obtain ⟨hq, hc, hbel⟩ := (hX2.setp (f' := f) (r' := r) (o' := key) (s' := s) (wt' := 0) 2 (.int .i64 key) rfl).done (.int .i64 (f)) (.int .i64 (r)) (.int .i64 (key)) (.int .i64 (s)) (.int .i64 (0)) (.int .i64 (0)) (.int .i64 (0)) (.int .i64 (0)) (.int .i64 (0)) (.int .i64 (0)) rfl
  obtain ⟨y0, y1, y2, y3, y4⟩ := hq.five
  obtain ⟨z0, z1, z2, z3, z4⟩ := hc.five
  exact bodyPost_ret (v := .tuple #[(TK.more f r key s 0).q, (TK.more f r key s 0).c, .int .i64 1, .int .i64 0]) (by simp [results, Try.results118, go_sem, TK.more, TK.q, TK.c, y0, y1, y2, y3, y4, z0, z1, z2, z3, z4]) rfl (TakPost.of hbel)

set_option maxRecDepth 100000 in
set_option maxHeartbeats 4000000 in
theorem keys_take_k3n (f r o s key : Int) (w : World) (hp : partE f r o s 0 = 0) (hu : Usual key) (hk : kdV f r o s key = 3) (ho : ¬ o = 0) (hn : o ≠ key) :
    Calls Try.prog 118 #[.agg #[.int .i64 f, .int .i64 r, .int .i64 o, .int .i64 s, .int .i64 0], .int .i64 key] w (TakPost (takV f r o s 0 key) 0 w) := by
  have hX := Box3.start w f r o s 0
  obtain ⟨b1, b2, b3, b4, b5⟩ := part_ok hp
  have HP := Lib.hid hp
  clear hp
  rw [takV_k hu, hk, if_neg (by omega), if_neg (by omega), if_pos rfl, if_neg ho, if_pos hn]
  have u1 : 32 ≤ key := by unfold Usual at hu; omega
  have u2 : (key == 127) = false := by unfold Usual at hu; simp; omega
  clear hu
  have HK := Lib.hid hk
  clear hk
  have ho2 : (o == 0) = false := by simpa using ho
  have ho3 : (o != key) = true := by simpa using hn
  clear ho hn b5
  go_enter Try.func118, Try.ntmps118
  go_wp2_with (first | (go_at_call 161; refine (keys_check _ _ _ _ _ _).mono ?_; rintro e w9 ⟨rfl, hb⟩; rw [HP.out]; have hX1 := hX.below hb; obtain ⟨c0, c1, c2, c3, c4⟩ := hX1.p.five; obtain ⟨g0, g1, g2, g3, g4⟩ := hX1.p.fiveF; obtain ⟨k0, k1, k2, k3, k4⟩ := hX1.q.five; obtain ⟨l0, l1, l2, l3, l4⟩ := hX1.q.fiveF; obtain ⟨m0, m1, m2, m3, m4⟩ := hX1.c.five; obtain ⟨n0, n1, n2, n3, n4⟩ := hX1.c.fiveF) | (go_at_call 163; refine (keys_kindOf _ _ _ _ _ _ _).mono ?_; rintro e w8 ⟨rfl, hb2⟩; rw [HK.out]; have hX2 := hX1.below hb2; obtain ⟨c0, c1, c2, c3, c4⟩ := hX2.p.five; obtain ⟨g0, g1, g2, g3, g4⟩ := hX2.p.fiveF; obtain ⟨k0, k1, k2, k3, k4⟩ := hX2.q.five; obtain ⟨l0, l1, l2, l3, l4⟩ := hX2.q.fiveF; obtain ⟨m0, m1, m2, m3, m4⟩ := hX2.c.five; obtain ⟨n0, n1, n2, n3, n4⟩ := hX2.c.fiveF))
  obtain ⟨hq, hc, hbel⟩ := hX2.done (.int .i64 (0)) (.int .i64 (0)) (.int .i64 (0)) (.int .i64 (0)) (.int .i64 (0)) (.int .i64 (0)) (.int .i64 (0)) (.int .i64 (0)) (.int .i64 (0)) (.int .i64 (0)) rfl
  obtain ⟨y0, y1, y2, y3, y4⟩ := hq.five
  obtain ⟨z0, z1, z2, z3, z4⟩ := hc.five
  exact bodyPost_ret (v := .tuple #[(TK.wrong).q, (TK.wrong).c, .int .i64 3, .int .i64 0]) (by simp [results, Try.results118, go_sem, TK.wrong, TK.q, TK.c, y0, y1, y2, y3, y4, z0, z1, z2, z3, z4]) rfl (TakPost.of hbel)

set_option maxRecDepth 100000 in
set_option maxHeartbeats 4000000 in
theorem keys_take_k3y (f r o s key : Int) (w : World) (hp : partE f r o s 0 = 0) (hu : Usual key) (hk : kdV f r o s key = 3) (ho : ¬ o = 0) (hn : ¬ o ≠ key) :
    Calls Try.prog 118 #[.agg #[.int .i64 f, .int .i64 r, .int .i64 o, .int .i64 s, .int .i64 0], .int .i64 key] w (TakPost (takV f r o s 0 key) 0 w) := by
  have hX := Box3.start w f r o s 0
  obtain ⟨b1, b2, b3, b4, b5⟩ := part_ok hp
  have HP := Lib.hid hp
  clear hp
  rw [takV_k hu, hk, if_neg (by omega), if_neg (by omega), if_pos rfl, if_neg ho, if_neg hn]
  have u1 : 32 ≤ key := by unfold Usual at hu; omega
  have u2 : (key == 127) = false := by unfold Usual at hu; simp; omega
  clear hu
  have HK := Lib.hid hk
  clear hk
  have ho2 : (o == 0) = false := by simpa using ho
  have ho3 : (o != key) = false := by simpa using hn
  clear ho hn b5
  go_enter Try.func118, Try.ntmps118
  go_wp2_with (first | (go_at_call 161; refine (keys_check _ _ _ _ _ _).mono ?_; rintro e w9 ⟨rfl, hb⟩; rw [HP.out]; have hX1 := hX.below hb; obtain ⟨c0, c1, c2, c3, c4⟩ := hX1.p.five; obtain ⟨g0, g1, g2, g3, g4⟩ := hX1.p.fiveF; obtain ⟨k0, k1, k2, k3, k4⟩ := hX1.q.five; obtain ⟨l0, l1, l2, l3, l4⟩ := hX1.q.fiveF; obtain ⟨m0, m1, m2, m3, m4⟩ := hX1.c.five; obtain ⟨n0, n1, n2, n3, n4⟩ := hX1.c.fiveF) | (go_at_call 163; refine (keys_kindOf _ _ _ _ _ _ _).mono ?_; rintro e w8 ⟨rfl, hb2⟩; rw [HK.out]; have hX2 := hX1.below hb2; obtain ⟨c0, c1, c2, c3, c4⟩ := hX2.p.five; obtain ⟨g0, g1, g2, g3, g4⟩ := hX2.p.fiveF; obtain ⟨k0, k1, k2, k3, k4⟩ := hX2.q.five; obtain ⟨l0, l1, l2, l3, l4⟩ := hX2.q.fiveF; obtain ⟨m0, m1, m2, m3, m4⟩ := hX2.c.five; obtain ⟨n0, n1, n2, n3, n4⟩ := hX2.c.fiveF) | (go_at_call 165; refine (keys_command _ _ _ _ _ _ _ _ b1 b2 b3 b4).mono ?_; rintro e w7 ⟨rfl, hb3⟩; have hX3 := hX2.below hb3; obtain ⟨c0, c1, c2, c3, c4⟩ := hX3.p.five; obtain ⟨g0, g1, g2, g3, g4⟩ := hX3.p.fiveF; obtain ⟨k0, k1, k2, k3, k4⟩ := hX3.q.five; obtain ⟨l0, l1, l2, l3, l4⟩ := hX3.q.fiveF; obtain ⟨m0, m1, m2, m3, m4⟩ := hX3.c.five; obtain ⟨n0, n1, n2, n3, n4⟩ := hX3.c.fiveF))
  obtain ⟨hq, hc, hbel⟩ := hX3.done (.int .i64 (0)) (.int .i64 (0)) (.int .i64 (0)) (.int .i64 (0)) (.int .i64 (0)) (.int .i64 (totV f s)) (.int .i64 (r)) (.int .i64 (o)) (.int .i64 (key)) (.int .i64 (0)) rfl
  obtain ⟨y0, y1, y2, y3, y4⟩ := hq.five
  obtain ⟨z0, z1, z2, z3, z4⟩ := hc.five
  exact bodyPost_ret (v := .tuple #[(TK.done f r o s key 0).q, (TK.done f r o s key 0).c, .int .i64 2, .int .i64 0]) (by simp [results, Try.results118, go_sem, TK.done, TK.q, TK.c, y0, y1, y2, y3, y4, z0, z1, z2, z3, z4]) rfl (TakPost.of hbel)

theorem kdV_all (f r o s key : Int) : kdV f r o s key = 0 ∨ kdV f r o s key = 1 ∨ kdV f r o s key = 2 ∨ kdV f r o s key = 3 ∨ kdV f r o s key = 4 ∨ kdV f r o s key = 5 ∨ kdV f r o s key = 6 ∨ kdV f r o s key = 7 ∨ kdV f r o s key = 8 := by
  unfold kdV
  repeat (first | omega | split)
theorem keys_take (f r o s wt key : Int) (w : World) (hp : partE f r o s wt = 0) :
    Calls Try.prog 118 #[.agg #[.int .i64 f, .int .i64 r, .int .i64 o, .int .i64 s, .int .i64 wt], .int .i64 key] w (TakPost (takV f r o s wt key) 0 w) := by
  by_cases hlo : key < 32 ∨ key = 127
  · exact keys_take_lo _ _ _ _ _ _ _ hp hlo
  · by_cases hw : wt = 0
    · subst hw
      rcases kdV_all f r o s key with h | h | h | h | h | h | h | h | h
      · exact keys_take_k0 _ _ _ _ _ _ hp hlo h
      · by_cases ho : o ≠ 0
        · exact keys_take_k1o _ _ _ _ _ _ hp hlo h ho
        · exact keys_take_k1z _ _ _ _ _ _ hp hlo h ho
      · exact keys_take_k2 _ _ _ _ _ _ hp hlo h
      · by_cases ho : o = 0
        · exact keys_take_k3z _ _ _ _ _ _ hp hlo h ho
        · by_cases hn : o ≠ key
          · exact keys_take_k3n _ _ _ _ _ _ hp hlo h ho hn
          · exact keys_take_k3y _ _ _ _ _ _ hp hlo h ho hn
      · exact keys_take_k4 _ _ _ _ _ _ hp hlo h
      · exact keys_take_k5 _ _ _ _ _ _ hp hlo h
      · exact keys_take_k6 _ _ _ _ _ _ hp hlo h
      · exact keys_take_k7 _ _ _ _ _ _ hp hlo h
      · exact keys_take_k8 _ _ _ _ _ _ hp hlo h
    · exact keys_take_aw _ _ _ _ _ _ _ hp hlo hw

end Go.Proofs.Ytmipnikhgihcpaa
